/-
 A part of the proof: DcB CmA TbE LoF FuQ KnA LwN GvR LoG SyR SyA SyB SyC SyD SyE SyF SyG.
-/
import Derived.Test.YtiooodckiddpmaaGreatDoorSkA
import Derived.Test.YtiooodckiddpmaaGreatDoorChecked
import Derived.KernelRfl
import Derived.Test.YtiooodckiddpmaaGreatDoorSkE
import Derived.Test.YtiooodckiddpmaaGreatDoorSkI
import Derived.Test.YtiooodckiddpmaaGreatDoorSkH
import Derived.Test.YtiooodckiddpmaaGreatDoorSkD
import Derived.Test.YtiooodckiddpmaaGreatDoorRows
import Derived.Lib.LaidTab
open List renaming length_append->Aa,take->Ad,set->Af,drop->Ag,mem_singleton->Ah,mem_cons->Aj,mem_of_getElem?->Ak,mem_cons_self->Al,mem_cons_of_mem->Am,map_cons->An,length_map->Ao,mem_map->Aq,mem_append->Aw,replicate->Ax,take_of_length_le->Ay,mem_filter->A3,length_take->A5,append_assoc->A7,flatMap_cons->AB,length->AC,getElem?_map->AD,nil_append->AE,length_cons->AG,map_append->AH,take_length->AI,nodup_cons->AV,map_nil->Be,map_map->Bf,length_nil->Bi,map_congr_left->Bv,mem_map_of_mem->Bx,nodup_nil->BV,mergeSort_perm->DA,perm_singleton->E4
open Nat renaming le_refl->Ab,zero_le->Ae,le_trans->Ai,le_of_ble_eq_true->Av,lt_of_lt_of_le->Az,lt_irrefl->A6,lt_of_lt_of_eq->AA,not_lt->Ba,le_of_eq->BJ,le_succ->Cj
open Option renaming some->A0,map_eq_some_iff->Bb,map_some->Br
open Decidable renaming of_not_not->AK,byContradiction->AP
open UInt32 renaming ofNat->AL
set_option maxRecDepth 100000
set_option maxHeartbeats 4000000
set_option linter.unusedVariables false
set_option linter.unusedSimpArgs false
namespace Go.Proofs.YtiooodckiddpmaaGreatDoor
open Go.Vc Go.Sp
attribute [local irreducible] W XW Dw Gs
theorem X7r {l:List Fi}{f:Fi}{k:Nat}(h:l[k]?=some f):(l.drop k).flatMap GF=EV f.id.toNat++(EV f.lev.toNat++(EV f.size.toNat++(Fs f.fst++(Fs f.lst++(l.drop (k+1)).flatMap GF)))):=by
 rw[Jd h,AB];unfold GF;simp only [A7]
theorem X7s {a b c:Nat}(r:EC)(ha:a<=4611686018427387904)(hb:b<=4611686018427387904)(hc:c<=4611686018427387904):IT 3 (EV a++(EV b++(EV c++r))) false=([a,b,c],r,false):=by
 rw[QB,JG _ false ha];dsimp only;rw[R3 r hb hc]
theorem X7t {b x y z:Nat}{Cs:Nat->List Value} : Gw Cs [(b,0),(b,1),(b,2)] [x,y,z] b=(((Cs b).set 0 (I ↑x)).set 1 (I ↑y)).set 2 (I ↑z):=by simp [Gw]
theorem MZ {br b k:Nat} : (k=br\/∃p∈[((b,0):Nat×Nat),(b,1),(b,2)],k=p.1)↔(k=br\/k=b):=by simp
theorem Xyr {b s:Nat}{w:World}(h:EK w s [EE b 0,EE b 1,EE b 2] 197):EQ (λp:Nat×Nat=>[EE p.1 p.2]) 1 w (.slice (some ⟨s,0,none⟩) 3 3) [(b,0),(b,1),(b,2)]:=h.arr (enc:=λp:Nat×Nat=>[EE p.1 p.2]) (sz:=1) (l:=[(b,0),(b,1),(b,2)]) rfl EF rfl ER
theorem Wm {α:Type}{a b c:α}{P:α->Prop}(h1:P a)(h2:P b)(h3:P c):∀p∈[a,b,c],P p:=λp r=>by
 rcases Aj.1 r with rfl|r
 ·exact h1
 ·exact LZ h2 h3 p r
theorem Tz (n:Int)(fs:List Fi)(v:Value)(w:World)(hv:EQ EO 1 w v (FO ⟨n,fs⟩))(hV:GK ⟨n,fs⟩=true)(hle:(FO ⟨n,fs⟩).length<=1000000) :
  Calls Tryz.prog 61 [v].toArray w (ES w (λu w'=>∃vf,u=.tuple #[.agg ⟨[I n,vf]⟩,I 0]/\Vc.Own Fi.cs 5 62 w.heap.size w' vf fs)):=by
 refine cw Tryz.func61 ?_;have J:=ED.refl w;obtain⟨yb,xp,xy,yc,_⟩:=Ij hV;have yb:1<=n:=yb;have xp:n<=1099511627776:=xp;have xy:fs.length<=1024:=xy;have x0:∀f∈fs,EU f.id:=λf hf=>by
  have r:=Jk (yc f hf);have h8:f.id<n:=r.2.1;unfold EU;omega
 have xj:FO ⟨n,fs⟩=EV n.toNat++(EV fs.length++fs.flatMap GF):=by unfold FO;rw[A7]
 have yi:=congrArg AC xj;simp only [Aa]at yi;have hb:FO ⟨n,fs⟩≠[]:=λe=>by
  have r:=congrArg AC xj;have h8:1<=(EV n.toNat).length:=NC 9 _;rw[e,Aa,Bi]at r;omega
 refine ws λ_ Z1=>wr (FP (cs:=[.int .i64 0,.slice none 0 0]) rfl EA RX.all (λb1 w1 e1 x1 Y=>?_));have g1:=J.ge e1;have J:=J.trans x1;refine da (de Z1 (ws λ_ Z2=>wr ?_));refine FP (cs:=[.int .i64 0,.slice none 0 0]) rfl EA RX.all (λb2 w2 e2 x2 O=>?_);have g2:=J.ge e2;have n2_1:=Y.ltb e2;have Y:=Y.ext x2;have J:=J.trans x2;refine de Z2 (ws λ_ Z3=>wr (FP (cs:=[.int .i64 0]) rfl EA RX.all (λb3 w3 e3 x3 Z=>?_)));have g3:=J.ge e3;have n3_1:=Y.ltb e3;have n3_2:=O.ltb e3;have Y:=Y.ext x3;have O:=O.ext x3;have J:=J.trans x3;refine de Z3 (ws λ_ Z4=>wr (dm ?_));have hb5l:=Z.lt;refine cG (M6 (FO ⟨n,fs⟩) v _ (hv.ext J) EB) RX.all λu4 w4 x4 yf=>?_;have xe:=J.size;have Y:=Y.ext x4;have O:=O.ext x4;have Z:=Z.ext x4;have J:=J.trans x4;obtain⟨br,bb,yl,rfl,ye,yt,z⟩:=yf;have hbr:w.heap.size<=br:=Ai xe ye;have gbb2:=yt hb;have hbr2:b3<br:=by omega
 have hw34:=x4.size;have ha:=z.lt;have hbrw:br<w4.heap.size:=ha br (.inl rfl);have xl:=Ai xe x4.size;have hS:Sz w4.heap.size w4:=⟨Ab _⟩;rw[xj]at z;refine da (de Z4 (ws λ_ Z5=>wr (dm ?_)));refine df 0 rfl (li (e:=197) (sz:=1) (zs:=[.pointer none]) (pv:=[(0,_),(1,_)]) (cs:=[_,_]) RX.all (λb4 w5 e4 x5 m4=>?_));have g4:=J.ge e4;have n4_1:=Y.ltb e4;have n4_2:=O.ltb e4;have n4_3:=Z.ltb e4;have a4_hR:=z.lt;have a4_hS:=hS.le;have Y:=Y.ext x5;have O:=O.ext x5;have Z:=Z.ext x5;have z:=z.ext x5;have hS:=hS.ext x5;have J:=J.trans x5;refine cD (PH br bb yl _ false [(b2,0),(b3,0)] (.slice (some ⟨b4,0,none⟩) 2 2) (λk=>if k=b2 then[I 0,.slice none 0 0]else[I 0]) (λk=>if k=b2 then 56 else 3) _ z (by simp only [Aa];omega) (Vo m4) ER (LZ (P:=λp:Nat×Nat=>EK _ p.1 (if p.1=b2 then _ else _) (if p.1=b2 then _ else _)/\p.2<(if p.1=b2 then _ else _:List Value).length) (by rw[if_pos rfl,if_pos rfl];exact⟨O,(by decide:0<2)⟩) (by rw[if_neg EB,if_neg EB];exact⟨Z,Nat.zero_lt_one⟩)) (LZ (P:=λp:Nat×Nat=>¬ Mc br bb _ p.1) (λr=>by rcases r with r|⟨_,r⟩<;>(dsimp only at r;omega)) (λr=>by rcases r with r|⟨_,r⟩<;>(dsimp only at r;omega))) (λ_ r=>by have h2:b4=br\/b4=b2\/b4=b3:=O5.1 r;omega)) (.inl rfl) λu6 w6 x6 yj=>?_;have hsz6:=J.size;have Y:=Y.mod x6 (λr=>by have h2:b1=br\/b1=b2\/b1=b3:=O5.1 r;omega);have hS:=hS.mod x6 trivial;have J:=J.own x6 (λi hi=>(by have h2:=O5.1 hi;omega));obtain⟨rfl,yk,z,xc⟩:=yj;have hr:b2≠b3:=by omega
 have O:=xc (b2,0) Al;have Z:=xc (b3,0) (Am _ Al);rw[show[((b2,0):Nat×Nat),(b3,0)].length=2 from rfl,R3 _ EB EB]at z O Z;dsimp only at z O Z;rw[WM hr,if_pos rfl,if_pos rfl]at O;rw[XG hr,if_neg (λe=>hr e.symm),if_neg (λe=>hr e.symm)]at Z;dsimp only [Af]at O Z;rw[show((n.toNat:Nat):Int)=n by omega]at O;refine de Z5 (ws λ_ Z6=>EM ?_);refine Fq (G:=Nat×Value×Value) (λ(k,vc,vf)=>[(0,v),(2,EE b1 0),(3,I 0),(4,EE b2 0),(5,EE b3 0),(6,EE br 0)]) (λ(k,vc,vf) w'=>ED w w'/\k<=fs.length/\Rd br bb vc ((fs.drop k).flatMap GF) false w'/\Vc.Own Fi.cs 5 62 w4.heap.size w' vf (fs.take k)/\Sz w4.heap.size w'/\EK w' b1 [I 0,.slice none 0 0] 56/\EK w' b2 [I n,vf] 56/\EK w' b3 [I ↑fs.length] 3) (λ(k,vc,vf)=>fs.length-k) (0,yk,.slice none 0 0) ?_ ?_ ?_
 ·exact G2
 ·exact⟨J,Ae _,z,Vc.Own.nil,hS,Y,O,Z⟩
 intro X7 g7 w7 yh;obtain⟨k,vc,vf⟩:=g7;clear J Y hS z O Z;obtain⟨J,hk1,z,ho,hS,Y,O,Z⟩:=yh;refine ws λ_ Z7=>ws λ_ Z8=>wr (df 1 rfl (dl rfl (O.at rfl) (dv 62 5 (ho.arr EF).sl (dl rfl (Z.at rfl) (dp (Fb rfl rfl) (dm ?_))))));refine F4 21 rfl (λc1=>?_) (λc1=>?_)
 ·have hkl:k<fs.length:=by rw[A5]at c1;omega
  obtain⟨f,hk⟩:∃f,fs[k]?=some f:=Fw;have xn:=Jk (yc f (Ak hk));have xn:1<=f.id/\f.id<n/\0<=f.lev/\f.lev<=4/\1<=f.size/\f.size<=1048576/\f.fst.length<=4096/\f.lst.length<=4096:=xn;have xv:=X7r hk;have hll:=R4 GF fs k;have yw:=congrArg AC xv;simp only [Aa]at yw;refine dm ?_;refine cP (Pd br bb vc _ false _ z) RX.all λw8 x8=>?_;have z:=z.ext x8;have ho:=ho.ext x8;have hS:=hS.ext x8;have Y:=Y.ext x8;have O:=O.ext x8;have Z:=Z.ext x8;have J:=J.trans x8;refine EP (de Z8 ?_);refine wc (λc2=>?_) λc2=>?_
  ·refine EI (Z7 _ _ (EM (ws λ_ Z9=>wr (FP (cs:=[.int .i64 0,.int .i64 0,.int .i64 0,S [],S []]) rfl EA RX.all (λb5 w9 e5 x9 m5=>?_)))));have g5:=J.ge e5;have n5_1:=Y.ltb e5;have n5_2:=O.ltb e5;have n5_3:=Z.ltb e5;have a5_hR:=z.lt;have xi:=ho.ltb e5;have a5_hS:=hS.le;have z:=z.ext x9;have ho:=ho.ext x9;have hS:=hS.ext x9;have Y:=Y.ext x9;have O:=O.ext x9;have Z:=Z.ext x9;have J:=J.trans x9;refine de Z9 (ws λ_ yr=>wr (dm ?_));refine df 0 rfl (df 1 rfl (df 2 rfl (li (e:=197) (sz:=1) (zs:=[.pointer none]) (pv:=[(0,_),(1,_),(2,_)]) (cs:=[_,_,_]) RX.all (λb6 w10 e6 hh m6=>?_))));have g6:=J.ge e6;have n6_1:=Y.ltb e6;have n6_2:=O.ltb e6;have n6_3:=Z.ltb e6;have n6_5:=m5.ltb e6;have a6_hR:=z.lt;have o6_ho:=ho.ltb e6;have a6_hS:=hS.le;have z:=z.ext hh;have ho:=ho.ext hh;have hS:=hS.ext hh;have Y:=Y.ext hh;have O:=O.ext hh;have Z:=Z.ext hh;have m5:=m5.ext hh;have J:=J.trans hh;rw[xv]at z;have xm:=xi;refine cD (PH br bb vc _ false [(b5,0),(b5,1),(b5,2)] (.slice (some ⟨b6,0,none⟩) 3 3) (λ_=>[I 0,I 0,I 0,S [],S []]) (λ_=>62) _ z (by simp only [Aa];omega) (Xyr m6) ER (Wm (P:=λp:Nat×Nat=>EK _ p.1 _ _/\p.2<5) ⟨m5,(show _<5 by simp)⟩ ⟨m5,(show _<5 by simp)⟩ ⟨m5,(show _<5 by simp)⟩) (Wm (P:=λp:Nat×Nat=>¬ Mc br bb _ p.1) (λr=>by have h8:=ha _ (Ib (λ_=>hb) r);have h7:b5<w4.heap.size:=h8;omega) (λr=>by have h8:=ha _ (Ib (λ_=>hb) r);have h7:b5<w4.heap.size:=h8;omega) (λr=>by have h8:=ha _ (Ib (λ_=>hb) r);have h7:b5<w4.heap.size:=h8;omega)) (λ_ r=>by have h2:b6=br\/b6=b5:=MZ.1 r;omega)) (.inl rfl) λu11 w11 hz xr=>?_;have hsz11:=J.size;have ho:=ho.mod hz (λk9 r e=>by have h2:k9=br\/k9=b5:=MZ.1 e;have h8:=(ho.lt k9 r).1;have h7:=xm k9 r;omega);have hS:=hS.mod hz trivial;have Y:=Y.mod hz (λr=>by have h2:b1=br\/b1=b5:=MZ.1 r;omega);have O:=O.mod hz (λr=>by have h2:b2=br\/b2=b5:=MZ.1 r;omega);have Z:=Z.mod hz (λr=>by have h2:b3=br\/b3=b5:=MZ.1 r;omega);have J:=J.own hz (λi hi=>(by have h2:=MZ.1 hi;omega));obtain⟨rfl,yu,z,xc⟩:=xr;have m5:=xc (b5,0) Al;rw[show[((b5,0):Nat×Nat),(b5,1),(b5,2)].length=3 from rfl,X7s _ EB EB EB]at z m5;dsimp only at z m5;rw[X7t]at m5;dsimp only [Af]at m5;rw[show((f.id.toNat:Nat):Int)=f.id by omega,show((f.lev.toNat:Nat):Int)=f.lev by omega,show((f.size.toNat:Nat):Int)=f.size by omega]at m5;have xb:∀k,vf.ownBlock=some k->k≠b5:=λk hk e=>by have:=xm k hk;omega
   refine de yr ?_;refine Hz (G:=Nat×Value) (λ(bx,ht)=>[(0,v),(2,EE b1 0),(3,I 0),(4,EE b2 0),(5,EE b3 0),(6,EE br 0),(7,EE bx 0)]) (λ(bx,ht) w'=>ED w w'/\w4.heap.size<=bx/\(∀k,vf.ownBlock=some k->k≠bx)/\Rd br bb ht ((fs.drop (k+1)).flatMap GF) false w'/\Vc.Own Fi.cs 5 62 w4.heap.size w' vf (fs.take k)/\Sz w4.heap.size w'/\EK w' b1 [I 0,.slice none 0 0] 56/\EK w' b2 [I n,vf] 56/\EK w' b3 [I ↑fs.length] 3/\EK w' bx f.cs 62) ?_ ?_
   ·refine F9 (R:=Mod (ET br)) Jz JV EA [2,5] [(0,.p,false),(3,.p,false),(1,.x,true),(2,.l,false),(4,.x,false),(5,.l,false),(6,.p,false),(7,.x,true),(8,.p,false),(9,.x,true)] rfl EA EA (λw12 xf=>?_);have hg:=EL xf;clear xf;have ho:=ho.ext hg;have hS:=hS.ext hg;have Y:=Y.ext hg;have O:=O.ext hg;have Z:=Z.ext hg;have z:=z.ext hg;have m5:=m5.ext hg;have J:=J.trans hg
    iterate 2 refine dm ?_
    refine cD (Kx br bb yu _ false _ z (by simp only [Aa];omega)) (.inl rfl) λu13 w13 hl xo=>?_;have hsz13:=J.size;have ho:=ho.mod hl (λk9 r e=>ho.ne_blk z.m rfl (by rw[r];exact congrArg some e));have hS:=hS.mod hl trivial;have Y:=Y.mod hl (λr=>by have h2:_=br:=r;omega);have O:=O.mod hl (λr=>by have h2:_=br:=r;omega);have Z:=Z.mod hl (λr=>by have h2:_=br:=r;omega);have m5:=m5.mod hl (λr=>by have h2:_=br:=r;omega);have J:=J.own hl (λi hi=>(by have h2:i=br:=hi;omega));obtain⟨hB,yx,z⟩:=xo;rw[Ks _ _ _ EB]at hB z;dsimp only at hB z;have ya:∀k,Value.ownBlock _=some k->¬ ET br k:=λk9 r e=>hB.ne_blk z.m rfl (by rw[r];exact congrArg some e);refine FW rfl (λw' z=>Kq EA EA ((hB.mod z ya).arr EF) rfl) (JP rfl EA (Kx br bb yx _ false _ z (by simp only [Aa];omega)) rfl (.inr λ_ h=>h) (λu14 w14 hj xq=>?_));have hsz14:=J.size;have ho:=ho.mod hj (λk9 r e=>ho.ne_blk z.m rfl (by rw[r];exact congrArg some e));have hS:=hS.mod hj trivial;have Y:=Y.mod hj (λr=>by have h2:_=br:=r;omega);have O:=O.mod hj (λr=>by have h2:_=br:=r;omega);have Z:=Z.mod hj (λr=>by have h2:_=br:=r;omega);have m5:=m5.mod hj (λr=>by have h2:_=br:=r;omega);have hB:=hB.mod hj (λk9 r e=>hB.ne_blk z.m rfl (by rw[r];exact congrArg some e));have J:=J.own hj (λi hi=>(by have h2:i=br:=hi;omega));obtain⟨xd,ht,z⟩:=xq;rw[Ks _ _ _ EB]at xd z;dsimp only at xd z;have xg:∀k,Value.ownBlock _=some k->¬ ET br k:=λk9 r e=>xd.ne_blk z.m rfl (by rw[r];exact congrArg some e);refine FW rfl (λw' z=>Kq EA EA ((xd.mod z xg).arr EF) rfl) (df 3 rfl (G4 m5 (λw15 hq xs15 m5=>?_) (hv:=by rfl)));dsimp only [EY,Af,Ad,Ag]at m5;have ho:=ho.mod hq (λk hk e=>by have h2:k=b5:=e;exact absurd h2 (xb k hk));have hS:=hS.mod hq trivial;have Y:=Y.mo hq;have O:=O.mo hq;have Z:=Z.mo hq;have z:=z.mod hq (λk hk e=>by have h2:k=b5:=e;have h8:=ha k (Ib (λ_=>hb) hk);rcases hk with r|⟨_,r⟩<;>omega);have J:=J.o1 hq;refine df 4 rfl (G4 m5 (λw16 hp xs16 m5=>?_) (hv:=by rfl));dsimp only [EY,Af,Ad,Ag]at m5;have ho:=ho.mod hp (λk hk e=>by have h2:k=b5:=e;exact absurd h2 (xb k hk));have hS:=hS.mod hp trivial;have Y:=Y.mo hp;have O:=O.mo hp;have Z:=Z.mo hp;have z:=z.mod hp (λk hk e=>by have h2:k=b5:=e;have h8:=ha k (Ib (λ_=>hb) hk);rcases hk with r|⟨_,r⟩<;>omega);have J:=J.o1 hp;refine EH (?_);exact⟨(b5,ht),Gb,J,EB,xb,z,ho,hS,Y,O,Z,m5⟩
   intro X17 yq w17 xu;obtain⟨bx,ht⟩:=yq;clear J ho hS Y O Z z m5;obtain⟨J,hbx,xb,z,ho,hS,Y,O,Z,xa⟩:=xu;refine wr (df 1 rfl (dl rfl (O.at rfl) (dq (Fe (k:=5) EA rfl rfl xa.row) (li (e:=62) (sz:=5) (zs:=[.int .i64 0,.int .i64 0,.int .i64 0,S [],S []]) (pv:=[(0,.agg ⟨[_,_,_,_,_]⟩)]) (cs:=[_,_,_,_,_]) RX.all (λb7 w18 e7 hc m7=>?_)))));have g7:=J.ge e7;have n7_1:=Y.ltb e7;have n7_2:=O.ltb e7;have n7_3:=Z.ltb e7;have a7_hR:=z.lt;have o7_ho:=ho.ltb e7;have a7_hS:=hS.le;have a7_mf9:=xa.lt;have z:=z.ext hc;have ho:=ho.ext hc;have hS:=hS.ext hc;have Y:=Y.ext hc;have O:=O.ext hc;have Z:=Z.ext hc;have xa:=xa.ext hc;have J:=J.trans hc;refine Hy (lx:=[f]) (e:=62) (sz:=5) (by':=56) rfl EA EA EF ho (m7.arr (enc:=Fi.cs) (sz:=5) (l:=[f]) rfl EF rfl (Av rfl)) rfl rfl (by intro x _ u hu;simp at hu;rcases hu with rfl|rfl|rfl|rfl|rfl<;>rfl) (by simp;omega) EN hS.le (.inl rfl) (λyd w19 x7 hw=>?_);have z:=z.mod hw (by intro k9 r e9;have h8:=ha k9 (Ib (λ_=>hb) r);have h7:=(ho.lt k9 e9).1;omega);have hS:=hS.mod hw (by trivial);have Y:=Y.mod hw (by intro h;have h1:=(ho.lt _ h).1;omega);have O:=O.mod hw (by intro h;have h1:=(ho.lt _ h).1;omega);have Z:=Z.mod hw (by intro h;have h1:=(ho.lt _ h).1;omega);have J:=J.own hw (λi hi=>(Ai xl (ho.lt i hi).1));have ho:=x7;have xz:=ho.ne_blk O rfl;clear m7;refine df 1 rfl (G4 O (λw20 hy xs20 O=>?_) (hv:=by exact Gd.one ho.sl));dsimp only [EY,Af,Ad,Ag]at O;have z:=z.mod hy (λk hk e=>by have h2:k=b2:=e;have h8:=ha k (Ib (λ_=>hb) hk);rcases hk with r|⟨_,r⟩<;>omega);have ho:=ho.mod hy (λk hk e=>by have h2:k=b2:=e;exact xz (hk.trans (congrArg some h2)));have hS:=hS.mod hy trivial;have Y:=Y.mo hy;have Z:=Z.mo hy;have J:=J.o1 hy;refine EH (?_);exact⟨(k+1,ht,yd),G2,⟨J,by omega,z,by rw[G1 hk];exact ho,hS,Y,O,Z⟩,by simp only [];omega⟩
  cases c2
 have ym:k=fs.length:=by rw[A5]at c1;omega
 subst ym;rw[AI]at ho;have xk:=ho.ne_blk Y rfl;refine dk (dk (EP (de Z8 ?_)));refine Hf rfl (Fk (Z6 _ _ (ws λ_ yn=>ws λ_ yp=>wr (dq (Fe (k:=2) EA rfl rfl O.row) (cG (VH n fs vf _ (ho.arr EF) EB x0) RX.all λu21 w21 h6 xx=>?_)))));have hsz21:=J.size;have z:=z.ext h6;have ho:=ho.ext h6;have Y:=Y.ext h6;have O:=O.ext h6;have J:=J.trans h6;obtain⟨yv,rfl,xw⟩:=xx;rw[if_pos hV]at xw;refine dm ?_;refine dx rfl rfl (dx rfl rfl (da (da (de yp (ws λ_ yo=>wr (dm ?_))))));refine dp (FH rfl rfl) (dm ?_);refine F4 52 rfl (λc3=>?_) (λc3=>?_)
 ·exact absurd (if_pos hV) c3
 iterate 2 refine dm ?_
 refine cP (Ow (FO ⟨n,fs⟩) (FO ⟨n,fs⟩) yv v _ (xw.arr EF) (hv.ext J)) RX.all λw22 h5=>?_;have z:=z.ext h5;have ho:=ho.ext h5;have Y:=Y.ext h5;have O:=O.ext h5;have J:=J.trans h5;refine dn ?_;refine EP (de yo ?_);refine wc (λc4=>?_) λc4=>?_
 ·simp at c4
 refine EI (yn _ _ (ws λ_ yg=>wr (dq (Fe (k:=2) EA rfl rfl O.row) (FY Y (λw23 xh xs23 Y=>?_) (h1:=by(intro u hu;rcases Aj.1 hu with e|hu;subst e;rfl;rw[Ah.1 hu];exact ho.sl.one))))));dsimp only [EY,Af,Ad,Ag]at Y;have z:=z.mod xh (λk hk e=>by have h2:k=b1:=e;have h8:=ha k (Ib (λ_=>hb) hk);rcases hk with r|⟨_,r⟩<;>omega);have ho:=ho.mod xh (λk hk e=>by have h2:k=b1:=e;exact xk (hk.trans (congrArg some h2)));have J:=J.o1 xh;refine da (de yg (EJ ?_));refine IH (u:=?v29) rfl rfl rfl rfl EA rfl Y.row ?h29 ?k29
 case h29=>conv=>lhs;whnf
 exact⟨_,rfl,J,_,rfl,ho.mono xl⟩
theorem Xys (κ:Nat->Nat)(bs bd bl bo bm:Nat)(vf:Value)(L:Led)(D:Dsk)(V:Vs)(ts:List Tb)(mem:List Cell)(dead:Bool)(n:Int)(w:World)(h:StE κ bs bd bl bo bm vf L D V ts mem dead w)(hSt:Sto n V ts mem)(hn:n<=1099511627776)(hal:(FF mem ts).length<=30000)(hgv:GV w)(hgvs:∀k,Ls k->κ k=0) :
  Calls Tryz.prog 16 [EE bs 0].toArray w (Ff (λk=>κ k≠0) w (λu w'=>∃did e κ' bm' vf' L' D' V' ts' mem' dead',u=.tuple #[B did,I e]/\(∀k,k<w.heap.size->κ' k=κ k)/\StE κ' bs bd bl bo bm' vf' L' D' V' ts' mem' dead' w'/\M0 L D V ts mem dead did e L' D' V' ts' mem' dead')):=by
 refine cw Tryz.func16 ?_;have hx:=Vc.Mod.refl (λk=>κ k≠0) w;have Z:=h;have yz:∀k,w.heap.size<=k->κ k=0:=λk hk=>AP λh9=>by have:=h.lt k h9;omega
 have hV:=hSt.isv;obtain⟨_,_,zk,_⟩:=Ij hV;have hvl2:V.fs.length<=1024:=zk;have ue:mem.length<=30000:=by unfold FF at hal;rw[Aa]at hal;omega
 have z2:=λc (hc:c∈mem)=>hSt.cellsB hn c (Hc.2 (.inl hc));have htl:=hSt.tlen;refine ws λ_ Z1=>wr (Gn rfl rfl rfl RX.all (λb1 w1 e1 x1 m1=>?_));have g1:=hx.ge e1;have a1_hS:=Z.lt;have Z:=Z.ext x1;have hx:=hx.ext x1;refine da (da (de Z1 (ws λ_ Z2=>ws λ_ Z3=>wr ?_)));refine dl rfl (m1.at rfl) (cP (Q2 bs bd bl V.next vf bo bm dead _ Z.m) RX.all λw2 x2=>?_);have Z:=Z.ext x2;have m1:=m1.ext x2;have hx:=hx.ext x2;refine da (de Z3 (ws λ_ Z4=>wr (dm ?_)));refine dp (FH rfl rfl) (de Z4 (wi (λc1=>?_) λc1=>?_))
 ·refine ws λ_ Z5=>wr (dm (da (da (de Z5 (EJ ?_)))));refine rt ?_;have xp:dead=true:=by cases dead with|true=>rfl|false=>exact absurd rfl c1
  subst xp;exact⟨_,rfl,hx,false,9,κ,bm,vf,L,D,V,ts,mem,true,rfl,λ_ _=>rfl,Z,.inl ⟨rfl,rfl,rfl,rfl,rfl,rfl,rfl,rfl,rfl⟩⟩
 have uc:dead=false:=by cases dead with|false=>rfl|true=>exact absurd EN c1
 subst uc;refine EI (Z2 _ _ (ws λ_ Z6=>ws λ_ Z7=>wr (dl rfl (m1.at rfl) (dz rfl (df 2 rfl (dq (Fe EA rfl rfl (Z.m.part 2 2)) (cG (UN V.next V.fs vf _ Z.vs EB hV) RX.all λu3 w3 x3 zr=>?_)))))));have hsz3:=hx.size;have Z:=Z.ext x3;have m1:=m1.ext x3;have hx:=hx.ext x3;obtain⟨vp0,rfl,_⟩:=zr;refine dm ?_;refine dx rfl rfl (dx rfl rfl (da (da (de Z7 (ws λ_ Z8=>wr (dm ?_))))));refine dn (de Z8 ?_);refine wc (λc2=>?_) λc2=>?_
 ·refine ws λ_ Z9=>wr (da (da (de Z9 (EJ ?_))));refine rt ?_;exact⟨_,rfl,hx,false,0,κ,bm,vf,L,D,V,ts,mem,false,rfl,λ_ _=>rfl,Z,.inr (.inl ⟨rfl,by simpa using c2,rfl,rfl,rfl,rfl,rfl,rfl,rfl,rfl⟩)⟩
 have xd:(IN V.fs).isSome=true:=by simpa using c2
 refine EI (Z6 _ _ (ws λ_ zw=>ws λ_ zq=>wr (dl rfl (m1.at rfl) ?_)));have y4:=hx.size;have yr:=m1.lt;refine cD (Qr κ bs bd bl bo bm vf L D V ts mem false _ Z ue z2 hV (hgv.mod hx (λk hk e=>e (hgvs k hk))) hgvs EB) (.inl rfl) λu4 w4 x4 z4=>?_;have hsz4:=hx.size;have m1:=m1.mod x4 (λe=>e (yz b1 EB));have hx:=hx.own x4 (λi hi xc=>hi);obtain⟨ok,e1,κ1,bm,vf,L1,D1,V,ts1,mem1,dead,rfl,zd,yi,xm⟩:=z4;have Z:=yi;have xi:∀k,k<w.heap.size->κ1 k=κ k:=λk hk=>zd k (Az hk y4);have yc:κ1 b1=0:=(zd b1 yr).trans (yz b1 EB);obtain⟨N0,hN0⟩:∃z,z=w4.heap.size:=⟨_,rfl⟩;have hb:=Z.lt;rw[<-hN0]at hb;have yp:w.heap.size<=N0:=by rw[hN0];exact hx.size
 have O:Sz N0 w4:=⟨BJ hN0⟩;have hb1N:b1<N0:=by rw[hN0];exact m1.lt
 have xh:∀k,N0<=k->κ1 k=0:=λk hk=>AP λh9=>by have:=hb k h9;omega
 refine dm ?_;refine dx rfl rfl (dx rfl rfl (da (da (de zq (ws λ_ uk=>wr (dm ?_))))));refine dp (FH rfl rfl) (de uk (wi (λc3=>?_) λc3=>?_))
 ·refine ws λ_ zv=>wr (dm (da (da (de zv (EJ ?_)))));refine rt ?_;exact⟨_,rfl,hx,false,e1,κ1,bm,vf,L1,D1,V,ts1,mem1,dead,rfl,xi,Z,.inr (.inr ⟨rfl,xd,ok,e1,L1,D1,V,ts1,mem1,dead,xm,.inl ⟨c3,rfl,rfl,rfl,rfl,rfl,rfl,rfl,rfl⟩⟩)⟩
 have zi:e1=0:=AK c3;subst zi;obtain⟨xp,rfl,hr,yq,hln,z8,_⟩:=Ro hSt xm;obtain⟨p,hp⟩:=Option.isSome_iff_exists.1 (z8 xd);obtain⟨lv,hP⟩:=Yaw hr.isv hp;obtain⟨f0,y0,zy⟩:=hP.hd;have hlo:=hP.lo;have ha:=Z.mp.at;obtain⟨_,_,y7,y8,_⟩:=Ij hr.isv;have hvl3:V.fs.length<=1024:=y7;have hpl:=hP.len;have htl1:=hr.tlen;have yu:∀f∈V.fs,0<=f.lev/\f.lev<=4:=λf hf=>by have:=Jk (y8 f hf);exact⟨this.2.2.1,this.2.2.2.1⟩
 refine EI (zw _ _ (ws λ_ zh=>wr (dl rfl (m1.at rfl) (dz rfl (df 2 rfl (dq (Fe EA rfl rfl (Z.m.part 2 2)) ?_))))));have xk:=O.le;refine cG (UN V.next V.fs vf _ Z.vs EB hr.isv) RX.all λu5 w5 x5 z7=>?_;have hsz5:=hx.size;have m1:=m1.ext x5;have Z:=Z.ext x5;have ha:=ha.ext x5;have O:=O.ext x5;have hx:=hx.ext x5;obtain⟨vp,rfl,x0⟩:=z7;have r:Vc.Own Fi.cs 5 62 N0 w5 vp p:=by rw[hp]at x0;exact x0.mono xk
 refine dm ?_;refine dx rfl rfl (dx rfl rfl (da (da (de zh (ws λ_ z3=>wr (dm ?_))))));refine di 62 5 (r.arr EF).sl rfl ((r.arr EF).lt y0) (df 1 rfl (dl rfl (((r.arr EF).row y0).at rfl) (EW (v:=I ↑lv) rfl (Gy rfl rfl (by unfold EU;omega)) (by show I _=I _;rw[<-zy]) (FP (cs:=[.int .i64 0]) rfl EA RX.all (λb2 w6 e2 x6 m2=>?_)))));have g2:=hx.ge e2;have n2_1:=m1.ltb e2;have n2_mp9:=ha.lt;have a2_hS:=Z.lt;have a2_hSz:=O.le;have xu:=r.ltb e2;have m1:=m1.ext x6;have Z:=Z.ext x6;have ha:=ha.ext x6;have O:=O.ext x6;have r:=r.ext x6;have hx:=hx.ext x6;refine G4 m2 (λw7 x7 xs7 m2=>?_) (hv:=by rfl);dsimp only [EY,Af,Ad,Ag]at m2;have m1:=m1.mo x7;have Z:=Z.mod x7 (λk9 h9 e9=>by have h2:k9=b2:=e9;have h8:=hb k9 h9;have h7:=O.le;omega);have ha:=ha.mod x7 (by intro h;have h2:_=b2:=h;omega);have O:=O.mod x7 trivial;have r:=r.mod x7 (by intro k hk h;have h1:=xu k hk;have h2:k=b2:=h;omega);have hx:=hx.o1 x7;refine de z3 (ws λ_ ud=>wr (da (de ud (ws λ_ zz=>wr (da (de zz (ws λ_ z6=>ws λ_ zm=>wr (dm ?_))))))));refine dv 62 5 (r.arr EF).sl (dm (de zm (EM ?_)));refine Fq (G:=Nat×List (Value×List Cell)×Value×Value) (λ(k,qs,vr,vn)=>[(1,EE b1 0),(2,.bool false),(3,I 0),(9,vp),(11,EE b2 0),(12,vr),(13,vn),(55,vp),(56,I ↑p.length),(57,I ↑k)]) (λ(k,qs,vr,vn) w'=>Mod (λk=>κ k≠0) w w'/\EK w' b1 [EE bs 0] 28/\StE κ1 bs bd bl bo bm vf L1 D1 V ts1 [] dead w'/\Vc.Xbq Tryz.prog 104 Gz pO w' bo (ts1.map Tb.kv).length (lk (ts1.map Tb.kv))/\Sz N0 w'/\Vc.Own Fi.cs 5 62 N0 w' vp p/\EK w' b2 [I ↑lv] 3/\k<=p.length/\qs.map (·.2)=(p.take k).map (IU ts1)/\Vc.Own KP 1 95 N0 w' vr qs/\QsE N0 qs w'/\Vc.Own FU 1 9 N0 w' vn ((p.take k).map λf=>FJ f.id)) (λ(k,qs,vr,vn)=>p.length-k) (0,[],.slice none 0 0,.slice none 0 0) ?_ ?_ ?_
 ·exact Ig
 ·exact⟨hx,m1,Z,ha,O,r,m2,Ae _,rfl,Vc.Own.nil,⟨λq hq=>(by cases hq)⟩,Vc.Own.nil⟩
 intro X8 g8 w8 ze;obtain⟨k,qs,vr,vn⟩:=g8;clear hx m1 Z ha O r m2;obtain⟨hx,m1,Z,ha,O,r,m2,hk1,xo,Y,hQ,J⟩:=ze;refine ws λ_ zx=>wr (dp (Fb rfl rfl) (de zx (ws λ_ uh=>wi (λc4=>?_) λc4=>?_)))
 ·obtain⟨f,hk⟩:∃f,p[k]?=some f:=Fw;have y9:=hP.sub f (Ak hk);obtain⟨t,za,ub⟩:=hr.fwd f y9.1;have ht:H5 ts1 (f.lev,f.id)=some t:=by rw[<-ub.h];exact P1 hr.nod za
  have xy:=MI hr.isv f y9.1;have ym:=congrArg AC xo;rw[Ao,Ao,A5]at ym;refine EI (uh _ _ (ws λ_ ug=>EM (ws λ_ uj=>wr (di 62 5 (r.arr EF).sl rfl ((r.arr EF).lt hk) (dq (Fe EA rfl rfl ((r.arr EF).row hk)) (FP (cs:=[.int .i64 0,.int .i64 0,.int .i64 0,S [],S []]) rfl EA RX.all (λb3 w9 e3 x9 m3=>?_)))))));have g3:=hx.ge e3;have n3_1:=m1.ltb e3;have n3_2:=m2.ltb e3;have n3_mp9:=ha.lt;have a3_hS:=Z.lt;have a3_hSz:=O.le;have xw:=r.ltb e3;have xj:=Y.ltb e3;have yf:=hQ.lt;have xx:=J.ltb e3;have m1:=m1.ext x9;have Z:=Z.ext x9;have ha:=ha.ext x9;have O:=O.ext x9;have r:=r.ext x9;have m2:=m2.ext x9;have Y:=Y.ext x9;have hQ:=hQ.ext x9;have J:=J.ext x9;have hx:=hx.ext x9;refine FY m3 (λw10 xa xs10 m3=>?_);dsimp only [EY,Af,Ad,Ag]at m3;have m1:=m1.mo xa;have Z:=Z.mod xa (λk9 h9 e9=>by have h2:k9=b3:=e9;have h8:=hb k9 h9;have h7:=O.le;omega);have ha:=ha.mod xa (by intro h;have h2:_=b3:=h;omega);have O:=O.mod xa trivial;have r:=r.mod xa (by intro k hk h;have h1:=xw k hk;have h2:k=b3:=h;omega);have m2:=m2.mo xa;have Y:=Y.mod xa (by intro k hk h;have h1:=xj k hk;have h2:k=b3:=h;omega);have hQ:=hQ.mod xa (λq hq k hk e9=>by have h2:k=b3:=e9;have h8:=yf q hq k hk;omega);have J:=J.mod xa (by intro k hk h;have h1:=xx k hk;have h2:k=b3:=h;omega);have hx:=hx.o1 xa;refine de uj (ws λ_ zg=>F9 (R:=Mod (λk=>vr.ownBlock=some k)) Jz JV EA [1,4,6,8,10] [(0,.p,false),(1,.l,false),(2,.p,false),(3,.p,false),(4,.l,false),(5,.p,false),(6,.l,false),(7,.p,false),(8,.l,false),(9,.p,false),(10,.l,false),(11,.x,false),(12,.x,false),(13,.x,false),(14,.p,false)] rfl EA EA (λw11 x8=>?_));have h6:=EL x8;clear x8;have m1:=m1.ext h6;have Z:=Z.ext h6;have ha:=ha.ext h6;have O:=O.ext h6;have r:=r.ext h6;have m2:=m2.ext h6;have Y:=Y.ext h6;have hQ:=hQ.ext h6;have J:=J.ext h6;have m3:=m3.ext h6;have hx:=hx.ext h6;refine dm ?_;refine dL rfl (λ_ hR=>((m1.mod hR (λe=>by have h8:=(Y.lt _ e).1;omega)).at rfl)) (dz rfl (df 4 rfl (dL rfl (λ_ hR=>((Z.m.mod hR (λe=>by have h8:=(Y.lt _ e).1;have h7:=hb bs (by rw[Z.k0];decide);omega)).at rfl)) (df 1 rfl (dL rfl (λ_ hR=>((m3.mod hR (λe=>Y.ne_blk m3 rfl e)).at rfl)) (df 0 rfl (dL rfl (λ_ hR=>((m3.mod hR (λe=>Y.ne_blk m3 rfl e)).at rfl)) (db (zs:=[.int .i64 0,.int .i64 0]) (pl:=[(0,1),(1,1)]) (pv:=[(0,_),(1,_)]) (cs:=[_,_]) ?_))))))));refine FW (v:=EE t.bt 0) rfl (λw' hR=>LV.to (L5 MV (kx:=(f.lev,f.id)) (z0:=none) rfl rfl EA (ha.mod hR (ha.ne_own Y)) ⟨xy.2,xy.1⟩) (by rw[RU];exact Vz ht)) ?_;have xk:=O.le;refine cG (X50 t.bt t.vl t.vb t.cs [] [] _ (Z.tb t za)) RX.mod λvt w12 hj yb=>?_;have hsz12:=hx.size;have m1:=m1.ext hj;have Z:=Z.ext hj;have ha:=ha.ext hj;have O:=O.ext hj;have r:=r.ext hj;have m2:=m2.ext hj;have Y:=Y.ext hj;have hQ:=hQ.ext hj;have J:=J.ext hj;have m3:=m3.ext hj;have hx:=hx.ext hj;rw[VV]at yb;have hg:=yb.mono xk;refine It (e:=95) (sz:=1) (zs:=[.slice none 0 0]) (pv:=[(0,?a37_0)]) (cs:=[?a37_0]) rfl EA ⟨rfl,rfl⟩ EA rfl ?h37 ?f37 RX.mod (λb4 w13 e4 hh m4=>?k37)
  case h37=>refine⟨rfl,?_,trivial⟩<;>(conv=>lhs;whnf)
  case f37=>simp [H7,EY,Ax,hg.sl.cells]
  have g4:=hx.ge e4;have n4_1:=m1.ltb e4;have n4_2:=m2.ltb e4;have n4_3:=m3.ltb e4;have n4_mp9:=ha.lt;have a4_hS:=Z.lt;have a4_hSz:=O.le;have o4_hoP:=r.ltb e4;have o4_hoQ:=Y.ltb e4;have a4_hQ:=hQ.lt;have o4_hoN:=J.ltb e4;have m1:=m1.ext hh;have Z:=Z.ext hh;have ha:=ha.ext hh;have O:=O.ext hh;have r:=r.ext hh;have m2:=m2.ext hh;have Y:=Y.ext hh;have hQ:=hQ.ext hh;have J:=J.ext hh;have m3:=m3.ext hh;have hg:=hg.ext hh;have hx:=hx.ext hh;refine Hy (lx:=[(vt,t.cs)]) (e:=95) (sz:=1) (by':=24) rfl EA EA EF Y (m4.arr (enc:=KP) (sz:=1) (l:=[(vt,t.cs)]) rfl EF rfl (Av rfl)) rfl rfl (by intro x yt u hu;rw[Ah.1 yt]at hu;simp at hu;rw[hu];exact hg.sl.one) (by simp;omega) EN O.le (.inr λ_ h=>h) (λvq w14 yg hy=>?_);have m1:=m1.mod hy (by intro h;have h1:=(Y.lt _ h).1;omega);have Z:=Z.mod hy (by exact(λk hk e=>absurd (hb k hk) (Ba.2 (Y.lt k e).1)));have ha:=ha.mod hy (ha.ne_own Y);have O:=O.mod hy (by trivial);have r:=r.mod hy (by exact(λk hk=>r.ne Y rfl hk));have m2:=m2.mod hy (by intro h;exact Y.ne_blk m2 rfl h);have hQ:=hQ.mod hy (by exact hQ.ne Y rfl);have J:=J.mod hy (by exact(λk hk=>J.ne Y rfl hk));have m3:=m3.mod hy (by intro h;have h1:=xj _ h;omega);have hg:=hg.mod hy (by exact(λk hk=>hg.ne Y rfl hk));have hx:=hx.own hy (λi hi xc=>(by have:=(Y.lt i hi).1;omega));have Y:=yg;clear m4;refine da (de zg (wr (dm ?_)));refine df 0 rfl (dl rfl (m3.at rfl) (cP (ND f.id _ (hgv.mod hx (λk hk e=>e (hgvs k hk))) xy.1 (by have:=Oa xy.1;omega)) RX.all λw15 h5=>?_));have m1:=m1.ext h5;have Z:=Z.ext h5;have ha:=ha.ext h5;have O:=O.ext h5;have r:=r.ext h5;have m2:=m2.ext h5;have Y:=Y.ext h5;have hQ:=hQ.ext h5;have J:=J.ext h5;have hg:=hg.ext h5;have hx:=hx.ext h5;refine li (e:=9) (sz:=1) (zs:=[S []]) (pv:=[(0,_)]) (cs:=[_]) RX.all (λb5 w16 e5 hw m5=>?_);have g5:=hx.ge e5;have n5_1:=m1.ltb e5;have n5_2:=m2.ltb e5;have n5_mp9:=ha.lt;have a5_hS:=Z.lt;have a5_hSz:=O.le;have o5_hoP:=r.ltb e5;have o5_hoQ:=Y.ltb e5;have a5_hQ:=hQ.lt;have o5_hoN:=J.ltb e5;have m1:=m1.ext hw;have Z:=Z.ext hw;have ha:=ha.ext hw;have O:=O.ext hw;have r:=r.ext hw;have m2:=m2.ext hw;have Y:=Y.ext hw;have hQ:=hQ.ext hw;have J:=J.ext hw;have hg:=hg.ext hw;have hx:=hx.ext hw;refine Hy (lx:=[FJ f.id]) (e:=9) (sz:=1) (by':=16) rfl EA EA EF J (m5.arr (enc:=FU) (sz:=1) (l:=[FJ f.id]) rfl EF rfl (Av rfl)) rfl rfl (by intro x _ u hu;simp at hu;rcases hu with rfl<;>rfl) (by simp;omega) EN O.le (.inl rfl) (λzj w17 ye xb=>?_);have m1:=m1.mod xb (by intro h;have h1:=(J.lt _ h).1;omega);have Z:=Z.mod xb (by exact(λk hk e=>absurd (hb k hk) (Ba.2 (J.lt k e).1)));have ha:=ha.mod xb (ha.ne_own J);have O:=O.mod xb (by trivial);have r:=r.mod xb (by exact(λk hk=>r.ne J rfl hk));have m2:=m2.mod xb (by intro h;exact J.ne_blk m2 rfl h);have Y:=Y.mod xb (by exact(λk hk=>Y.ne J rfl hk));have hQ:=hQ.mod xb (by exact hQ.ne J rfl);have hg:=hg.mod xb (by exact(λk hk=>hg.ne J rfl hk));have hx:=hx.own xb (λi hi xc=>(by have:=(J.lt i hi).1;omega));have J:=ye;clear m5;refine da (de ug (wr ?_));refine pa rfl rfl (dm (EH (?_)));rw[show((p.take k).map λf=>FJ f.id)++[FJ f.id]=(p.take (k+1)).map λf=>FJ f.id by rw[G1 hk,AH];rfl]at J;exact⟨(k+1,qs++[(vt,t.cs)],vq,zj),Ig,⟨hx,m1,Z,ha,O,r,m2,by omega,by rw[AH,xo,G1 hk,AH];show _++[t.cs]=_++[IU ts1 f];rw[Rp ht],Y,hQ.snoc hg,J⟩,by simp only [];omega⟩
 rw[Ay EB]at xo J;have ym:=congrArg AC xo;rw[Ao,Ao]at ym;have zb:qs.flatMap (·.2)=I6 ts1 p:=by rw[X09 xo,QH]
 have hcl:(I6 ts1 p).length<=(FF [] ts1).length:=by have h9:=Ra p ts1 hr.nod (Xoi hP.nod);unfold FF;rw[AE];exact h9
 refine Fk (z6 _ _ (ws λ_ z1=>wr (dm ?_)));have xk:=O.le;refine cG (XY qs vr _ (Y.arr EF) (λq hq=>(hQ.row q hq).arr EF) EB (by rw[zb];omega)) RX.all λvm w18 xf yv=>?_;have hsz18:=hx.size;have m1:=m1.ext xf;have Z:=Z.ext xf;have O:=O.ext xf;have r:=r.ext xf;have m2:=m2.ext xf;have J:=J.ext xf;have hx:=hx.ext xf;obtain⟨m,xq,yy⟩:=yv;rw[zb]at xq;have hz:=yy.mono xk;have yo:=QK xq;refine dp (Ob rfl) (cD (Yay m vm N0 52 [EE b1 0,EE b2 0] (λc=>!HL V.fs ↑lv c) _ hz EB EA (λw2 m9 x yt=>Yax bs bd bl V.next vf bo bm dead V.fs x lv b1 b2 w2 (Z.m.mod m9 (λe=>by have h8:=(hz.lt _ e).1;have h7:=hb bs (by rw[Z.k0];decide);omega)) (Z.vs.mod m9 (λhl e=>by have h8:=(hz.lt _ e).1;have h7:=hb (base vf).1 (by rw[Z.k4 hl];decide);omega)) EB yu EB (m1.mod m9 (λe=>by have h8:=(hz.lt _ e).1;omega)) (m2.mod m9 (λe=>hz.ne_blk m2 rfl e)))) (.inl rfl) λvd y6 xe y3=>?_);have hsz19:=hx.size;have m1:=m1.mod xe (by exact(λe=>by have h8:=(hz.lt _ e).1;omega));have Z:=Z.mod xe (by exact(λk hk e=>absurd (hb k hk) (Ba.2 (hz.lt k e).1)));have O:=O.mod xe (by trivial);have r:=r.mod xe (by exact(λk hk=>r.ne hz rfl hk));have m2:=m2.mod xe (by exact(λe=>hz.ne_blk m2 rfl e));have J:=J.mod xe (by exact(λk hk=>J.ne hz rfl hk));have hx:=hx.own xe (λi hi xc=>absurd xc (Ba.2 ((Ai yp (hz.lt i hi).1))));have e9:m.filter (λx=>!(!HL V.fs ↑lv x))=m.filter (HL V.fs ↑lv):=by congr 1;funext x;rw[Bool.not_not]
 have yx:Vc.Own Cell.cs 4 79 N0 y6 vd (m.filter (HL V.fs ↑lv)):=by rw[<-e9];exact y3
 have hfm:=List.length_filter_le (HL V.fs ↑lv) m;refine da (de z1 (ws λ_ zo=>ws λ_ ui=>wr ?_));refine dl rfl (m1.at rfl) (dm ?_);refine dl rfl (m2.at rfl) (dm ?_);have uf:∀c∈m.filter (HL V.fs ↑lv),c.key.length<=4096/\c.val.length<=16384:=λc hc=>by
  obtain⟨t,ht,_,zt⟩:=(Ub hr (λf hf=>(hP.sub f hf).1)).1 (yo.2 c (A3.1 hc).1);have h8:=hSt.cellsB hn c (yq c (Hc.2 (.inr ⟨t,ht,zt⟩)));exact⟨h8.1,h8.2.1⟩
 have hszx:=hx.size;have xk:=O.le;obtain⟨NK,hNK⟩:∃z,z=y6.heap.size:=⟨_,rfl⟩;have ya:(p.map λf=>FJ f.id)≠[]->(base vn).1<NK/\N0<=(base vn).1:=λhl=>by rw[hNK];exact⟨(J.base_ge hl).2,(J.base_ge hl).1⟩
 refine cD (Vp κ1 bs bd bl bo bm vf L1 D1 V ts1 [] dead (m.filter (HL V.fs ↑lv)) vd ↑lv p vp _ Z (yx.arr EF) EB uf EB (r.arr EF) EB (λhl=>xh _ (r.base_ge hl).1) (λf hf=>MI hr.isv f (hP.sub f hf).1) hr.isv (hgv.mod hx (λk hk e=>e (hgvs k hk))) (λk hk=>(xi k (hgv.lt k hk)).trans (hgvs k hk)) EB (λhl=>xh _ (yx.base_ge hl).1)) (.inl rfl) λu20 w20 yl y2=>?_;have hsz20:=hx.size;have m1:=m1.mod yl (by exact(λe=>e yc));have J:=J.mod yl (by exact(λk hk e=>e (xh k (J.lt k hk).1)));have hx:=hx.own yl (λi hi xc=>(by have e1:κ1 i≠0:=hi;rw[xi i xc]at e1;exact e1));obtain⟨e2,κ2,xr,L2,D2,V2,ts2,dead2,rfl,xg,yi,xl⟩:=y2;have Z:=yi;rw[<-hNK]at xg;have xn:∀k,k<w.heap.size->κ2 k=κ k:=λk hk=>(xg k EB).trans (xi k hk);refine da (de ui (ws λ_ z9=>wr (dm ?_)));refine dp (FH rfl rfl) (de z9 (wi (λc5=>?_) λc5=>?_))
 ·refine ws λ_ z5=>wr (dm (da (da (de z5 (EJ ?_)))));refine rt ?_;rw[xp]at xl;exact⟨_,rfl,hx,false,e2,κ2,bm,xr,L2,D2,V2,ts2,[],dead2,rfl,xn,Z,.inr (.inr ⟨rfl,xd,ok,0,L1,D1,V,ts1,[],dead,xm,.inr ⟨rfl,p,lv,m,e2,D2,dead2,hp,hP,xq,xl,rfl,.inl ⟨c5,rfl,rfl,rfl,rfl⟩⟩⟩)⟩
 refine EI (zo _ _ (ws λ_ zn=>ws λ_ zl=>wr (dl rfl (m1.at rfl) (dz rfl (df 0 rfl (dl rfl (Z.m.at rfl) (dm ?_)))))));have y5:=hx.size;obtain⟨F,hD,xv,yk⟩:=Z.ld.disk;refine cD (O2 F bd D2 (p.map λf=>FJ f.id) vn _ hD (J.arr EF) (by rw[Ao];omega) (λhl e=>by have e1:κ2 (base vn).1=1:=xv _ e;rw[xg _ (ya hl).1,xh _ (ya hl).2]at e1;cases e1)) (.inl rfl) λu21 zu xz yw=>?_;have hsz21:=hx.size;have m1:=m1.mod xz (by exact(λe=>by have e1:κ2 b1=1:=xv _ e;rw[xg b1 EB,yc]at e1;cases e1));have hx:=hx.own xz (λi hi xc=>(by have e1:κ2 i=1:=xv i hi;rw[xn i xc]at e1;show κ i≠0;rw[e1];decide));obtain⟨rfl,yn⟩:=yw;have yj:=Z.ledger (xz.mono (λi hi _=>xv i hi)) (yk _ _ xz yn);have yd:∀k,k<w.heap.size->HP κ2 1 _ _ k=κ k:=λk hk=>(Ln (κ:=κ2) (i:=1) (w':=zu) (Az hk y5)).trans (xn k hk);have Z:=yj;refine da (de zl (ws λ_ zf=>wr (dm ?_)));refine dp (FH rfl rfl) (de zf (wi (λc6=>?_) λc6=>?_))
 ·refine ws λ_ zp=>wr (dl rfl (m1.at rfl) (dm ?_));refine cD (Pr bs bd bl V2.next xr bo bm dead2 (D2.rem (p.map λf=>FJ f.id)).1 _ Z.m) (.inl rfl) λu22 w22 y1 zc=>?_;have hsz22:=hx.size;have hx:=hx.own y1 (λi hi xc=>(by have e1:i=bs:=hi;rw[e1,h.k0];decide));obtain⟨rfl,yn⟩:=zc;have yj:=Z.head y1 yn;have Z:=yj;refine da (da (de zp (EJ ?_)));refine rt ?_;have yh:e2=0:=AK c5;subst yh;rw[xp]at xl;exact⟨_,rfl,hx,false,_,_,bm,xr,L2,_,V2,ts2,[],_,rfl,yd,Z,.inr (.inr ⟨rfl,xd,ok,0,L1,D1,V,ts1,[],dead,xm,.inr ⟨rfl,p,lv,m,0,D2,dead2,hp,hP,xq,xl,rfl,.inr ⟨rfl,rfl,.inl ⟨c6,rfl,rfl,by simp [c6]⟩⟩⟩⟩)⟩
 refine EI (zn _ _ (ws λ_ ua=>wr (da (da (de ua (EJ ?_))))));refine rt ?_;have yh:e2=0:=AK c5;subst yh;rw[xp]at xl;exact⟨_,rfl,hx,true,0,_,bm,xr,L2,_,V2,ts2,[],_,rfl,yd,Z,.inr (.inr ⟨rfl,xd,ok,0,L1,D1,V,ts1,[],dead,xm,.inr ⟨rfl,p,lv,m,0,D2,dead2,hp,hP,xq,xl,rfl,.inr ⟨rfl,rfl,.inr ⟨AK c6,rfl,rfl,rfl⟩⟩⟩⟩)⟩
theorem X1n (bt:Nat)(vl vb:Value)(l:List Cell)(w:World)(hT:TblE bt vl vb l w) :
  Calls Tryz.prog 125 [EE bt 0].toArray w (Pure w (S (Gh l 0).key)):=by
 refine cw Tryz.func125 ?_;have r:=ED.refl w;have hT0:=hT;obtain⟨⟨vp,hm⟩,z,hb,J⟩:=hT;obtain⟨hl1,hl2,Y,hen⟩:=LA J;obtain⟨hAll,hRis⟩:=K7.1 Y;obtain⟨c,hk⟩:∃c,l[0]?=some c:=Fw;refine ws λ_ Z1=>wr (da (de Z1 (ws λ_ Z=>ws λ_ Z3=>wr (dm ?_))));refine dp (Gi EA rfl rfl) (de Z3 (wi (λO=>?_) λO=>?_))
 ·exact absurd O ER
 refine EI (Z _ _ (ws λ_ Z4=>wr (dm ?_)));refine dz rfl (df 0 rfl (dl rfl ((hm.ext r).at rfl) (di 79 4 (z.ext r).sl rfl ((z.ext r).lt hk) (df 0 rfl (dl rfl (((z.ext r).row hk).at rfl) (da (de Z4 (EJ ?_))))))));refine ro ?_;rw[Fy hk];exact⟨rfl,r⟩
theorem X7u (bt:Nat)(vl vb:Value)(l:List Cell)(w:World)(hT:TblE bt vl vb l w) :
  Calls Tryz.prog 126 [EE bt 0].toArray w (Pure w (S (Gh l (l.length-1)).key)):=by
 refine cw Tryz.func126 ?_;have r:=ED.refl w;have hT0:=hT;obtain⟨⟨vp,hm⟩,O,hb,Y⟩:=hT;obtain⟨hl1,hl2,hE,hen⟩:=LA Y;obtain⟨hAll,hRis⟩:=K7.1 hE;obtain⟨c,hk⟩:∃c,l[l.length-1]?=some c:=Fw;refine ws λ_ Z1=>wr (da (de Z1 (ws λ_ Z2=>ws λ_ Z3=>wr (dm ?_))));refine dp (Gi EA rfl rfl) (de Z3 (wi (λZ=>?_) λZ=>?_))
 ·exact absurd Z ER
 refine EI (Z2 _ _ (ws λ_ Z4=>F9 (R:=ED) ED.refl (λ_ _ _=>ED.trans) EA [3,7,12] [(0,.p,false),(1,.p,false),(2,.p,false),(3,.l,false),(4,.p,false),(5,.p,false),(6,.p,false),(7,.l,false),(8,.p,false),(9,.p,false),(10,.p,false),(11,.p,false),(12,.l,false),(13,.p,false)] rfl EA EA (λw1 z=>?_)));have x1:=EL z;clear z;have r:=r.trans x1;refine dm ?_;refine dz rfl (df 0 rfl (dL rfl (λ_ J=>((hm.ext (r.trans J)).at rfl)) (dm ?_)));refine dz rfl (df 0 rfl (dL rfl (λ_ J=>((hm.ext (r.trans J)).at rfl)) (dv 79 4 (O.ext r).sl (EW (v:=I ↑(l.length-1)) rfl (Gr rfl rfl (by unfold EU;omega)) (by show I _=I _;congr 1;omega) (di 79 4 (O.ext r).sl rfl ((O.ext r).lt hk) (df 0 rfl (dL rfl (λ_ J=>((((O.ext r).ext J).row hk).at rfl)) (da (de Z4 (EJ ?_))))))))));refine ro ?_;rw[Fy hk];exact⟨rfl,r⟩
theorem LD.calls_at {H:Nat->Prop}{bl bd:Nat}{L:Led}{D:Dsk}{w:World}(h:LD H bl bd L D w){k:Nat}{p:EC}(hk:L.ents[k]?=some p):Calls Tryz.prog 127 [EE bl 0,I (L.base+1+↑k)].toArray w (ES w (λu w'=>∃v,u=.tuple #[v,I 0]/\Vc.Own EO 1 5 w.heap.size w' v p)):=by
 obtain⟨F,G,vd,ve,vs,h1,h2,_⟩:=h;exact Yci G bl bd vd ve vs L k p w h2 hk
theorem LD.calls_base {H:Nat->Prop}{bl bd:Nat}{L:Led}{D:Dsk}{w:World}(h:LD H bl bd L D w):Calls Tryz.prog 60 [EE bl 0].toArray w (ES w (λu w'=>∃v,u=.tuple #[I L.base,v]/\Vc.Own EO 1 5 w.heap.size w' v L.data)):=by
 obtain⟨F,G,vd,ve,vs,h1,h2,_⟩:=h;exact X5n G bl bd vd ve vs L w h2
theorem LD.bnd {H:Nat->Prop}{bl bd:Nat}{L:Led}{D:Dsk}{w:World}(h:LD H bl bd L D w):0<=L.base/\L.last<=1099511627776:=by
 obtain⟨F,G,vd,ve,vs,h1,h2,_⟩:=h;exact⟨h2.b0,h2.la⟩
theorem Xqg (s p:EC)(w:World):Calls Tryz.prog 129 [S s,S p].toArray w (Vc.Pure w (B (Lib.hasPrefix s p))):=by
 refine(Tryz.strings_HasPrefix ⟨⟨s⟩⟩ ⟨⟨p⟩⟩ w).mono ?_;rintro e w' ⟨rfl,rfl⟩;exact⟨rfl,ED.refl _⟩
theorem X1o {D:Dsk}(h:D.Wf):D.names.Nodup:=by
 unfold Dsk.names;exact(DA _ _).nodup_iff.2 h.nd
theorem Xf {D:Dsk}(h:D.Wf):∀n∈D.names,(1<=n.length/\n.length<=64)/\D.has n=true:=λn hn=>by
 have h1:D.has n=true:=by rw[<-RJ];exact decide_eq_true hn
 refine⟨?_,h1⟩;unfold Dsk.names at hn;rw[(DA _ _).mem_iff]at hn;obtain⟨p,r,rfl⟩:=Aq.1 hn;exact h.name p r
theorem RO {D:Dsk}{n:EC}(hf:D.fused=false)(h:(1<=n.length/\n.length<=64)/\D.has n=true):D.rem [n]=(0,D.gone n):=by
 rw[WT [n] D hf (λm hm=>by rw[Ah.1 hm];exact h) ER];rfl
theorem X1p {D:Dsk}{n m:EC}(h:D.has m=true)(hne:m≠n):(D.gone n).has m=true:=by
 unfold Dsk.has Dsk.gone at *;rw[KY,if_neg hne];exact h
theorem X7v (κ:Nat->Nat)(bs bd bl bo bm:Nat)(vf:Value)(L:Led)(D:Dsk)(V:Vs)(ts:List Tb)(mem:List Cell)(dead:Bool)(f:Fi)(cs:List Cell)(kk:Nat)(w:World)(h:StE κ bs bd bl bo bm vf L D V ts mem dead w)(hgv:GV w)(hgvs:∀k,Ls k->κ k=0)(hfi:EU f.id)(hfl:EU f.lev)(hlk:lk D.fs (FJ f.id)=some ⟨EG (EG (Fo cs)),kk⟩)(hbo:Hx cs=0)(hle:(EG (Fo cs)).length<=1048576)(hf1:f.fst=(Gh cs 0).key)(hf2:f.lst=(Gh cs (cs.length-1)).key)(htl:ts.length<=1000000) :
  Calls Tryz.prog 62 [EE bs 0,f.v].toArray w (Ff (λk=>κ k≠0) w (λu w'=>u=I 0/\∃κ' t,t.h=(f.lev,f.id)/\t.cs=cs/\(∀k,k<w.heap.size->κ' k=κ k)/\StE κ' bs bd bl bo bm vf L D V (G9 ts t) mem dead w')):=by
 refine cw Tryz.func62 ?_;have z:=Vc.Mod.refl (λk=>κ k≠0) w;have r:=h;have hκ0:∀k,w.heap.size<=k->κ k=0:=λk hk=>AP λh9=>by have:=h.lt k h9;omega
 refine ws λ_ Z1=>wr (Gn rfl rfl rfl RX.all (λb1 w1 e1 x1 J=>?_));have g1:=z.ge e1;have a1_hS:=r.lt;have r:=r.ext x1;have z:=z.ext x1;refine da (de Z1 (ws λ_ Z2=>?_));refine F9 (R:=ED) ED.refl (λ_ _ _=>ED.trans) EA [3,5] [(0,.p,false),(1,.p,false),(2,.p,false),(3,.l,false),(4,.p,false),(5,.l,false),(6,.x,false),(7,.x,false),(8,.p,false),(9,.p,false),(10,.p,false),(11,.p,false),(12,.p,false)] rfl EA EA (λw2 hf=>?_);have x2:=EL hf;clear hf;have r:=r.ext x2;have J:=J.ext x2;have z:=z.ext x2;refine dm ?_;refine dz rfl (df 0 rfl (dL rfl (λ_ O=>((r.m.ext O).at rfl)) (df 0 rfl (dL rfl (λ_ O=>((J.ext O).at rfl)) (cP (ND f.id _ (hgv.mod z (λk hk e=>e (hgvs k hk))) hfi (by have:=Oa hfi;omega)) RX.ext λw3 x3=>?_)))));have r:=r.ext x3;have J:=J.ext x3;have z:=z.ext x3;obtain⟨F,hD,hFH,hback⟩:=r.ld.disk;refine cG (Ir F bd D (FJ f.id) _ hD (by have:=Sd hfi;unfold maxLen;omega)) RX.ext λu4 w4 x4 hc=>?_;have hsz4:=z.size;have r:=r.ext x4;have J:=J.ext x4;have z:=z.ext x4;rw[SO hlk hle]at hc;obtain⟨vx,rfl,hV⟩:=hc;refine dm ?_;refine dx rfl rfl (dx rfl rfl (da (da (de Z2 (ws λ_ Z3=>ws λ_ Z4=>wr (dm ?_))))));refine dp (FH rfl rfl) (de Z4 (wi (λc1=>?_) λc1=>?_))
 ·exact absurd rfl c1
 refine EI (Z3 _ _ (ws λ_ Z5=>wr (dm ?_)));have hb:=r.lt;have hszT:=z.size;refine cG (Uq cs vx _ (hV.arr EF) hbo) RX.all λu5 w5 x5 hr=>?_;have hsz5:=z.size;have r:=r.ext x5;have J:=J.ext x5;have z:=z.ext x5;obtain⟨bt,vl,Y,rfl,Z,hg⟩:=hr;have hy:∀k,IY bt vl Y k->κ k=0:=λk hk=>AP λh9=>by have h1:=hg k hk;have h2:=hb k h9;omega
 refine dm ?_;refine dx rfl rfl (dx rfl rfl (da (da (de Z5 (ws λ_ Z6=>ws λ_ Z7=>wr (dm ?_))))));refine dp (FH rfl rfl) (de Z7 (wi (λc2=>?_) λc2=>?_))
 ·exact absurd rfl c2
 refine EI (Z6 _ _ (ws λ_ Z8=>ws λ_ Z9=>F9 (R:=ED) ED.refl (λ_ _ _=>ED.trans) EA [3,9] [(0,.p,false),(2,.p,false),(3,.l,false),(1,.x,false),(4,.p,false),(5,.p,false),(6,.p,false),(8,.p,false),(9,.l,false),(7,.x,false),(10,.p,false),(11,.p,false)] rfl EA EA (λw6 hj=>?_)));have x6:=EL hj;clear hj;have r:=r.ext x6;have J:=J.ext x6;have Z:=Z.ext x6;have z:=z.ext x6;refine dm ?_;refine df 3 rfl (dL rfl (λ_ O=>((J.ext O).at rfl)) (cP (X1n bt vl Y cs _ Z) RX.ext λw7 x7=>?_));have r:=r.ext x7;have J:=J.ext x7;have Z:=Z.ext x7;have z:=z.ext x7;refine dp (Me rfl rfl) (dm ?_);refine F4 35 rfl (λc3=>?_) (λc3=>?_)
 ·exact absurd hf1.symm c3
 refine dm ?_;refine df 4 rfl (dL rfl (λ_ O=>((J.ext O).at rfl)) (cP (X7u bt vl Y cs _ Z) RX.ext λw8 x8=>?_));have r:=r.ext x8;have J:=J.ext x8;have Z:=Z.ext x8;have z:=z.ext x8;refine dp (Me rfl rfl) (EP (de Z9 ?_));refine wi (λc4=>?_) λc4=>?_
 ·exact absurd hf2.symm c4
 refine EI (Z8 _ _ (ws λ_ hq=>F9 (R:=ED) ED.refl (λ_ _ _=>ED.trans) EA [3,5,7] [(0,.p,false),(1,.p,false),(2,.p,false),(3,.l,false),(4,.p,false),(5,.l,false),(6,.p,false),(7,.l,false),(8,.p,false),(9,.p,false),(10,.x,true)] rfl EA EA (λw9 ha=>?_)));have x9:=EL ha;clear ha;have r:=r.ext x9;have J:=J.ext x9;have Z:=Z.ext x9;have z:=z.ext x9;refine dm ?_;refine dz rfl (df 4 rfl (dL rfl (λ_ O=>((r.m.ext O).at rfl)) (df 1 rfl (dL rfl (λ_ O=>((J.ext O).at rfl)) (df 0 rfl (dL rfl (λ_ O=>((J.ext O).at rfl)) (db (zs:=[.int .i64 0,.int .i64 0]) (pl:=[(0,1),(1,1)]) (pv:=[(0,_),(1,_)]) (cs:=[_,_]) (dm ?_))))))));refine PI MV (kx:=(f.lev,f.id)) (a:=some bt) rfl rfl rfl rfl r.mp ⟨hfl,hfi⟩ (by rw[Ao];unfold maxLen;omega) (.inl rfl) (λw10 hh xs10 ht=>?_);have hl:=r.addT (t:=⟨(f.lev,f.id),bt,vl,Y,cs⟩) Z hy hh ht;have z:=z.own hh (λi hi hlt=>by have hp:i=bo:=hi;rw[hp,h.k2];decide);have r:=hl;refine de hq (ws λ_ hw=>wr (da (de hw (EJ ?_))));refine ro ?_;refine⟨_,rfl,z,rfl,_,⟨(f.lev,f.id),bt,vl,Y,cs⟩,rfl,rfl,λk hk=>?_,r⟩;unfold IV;rw[if_neg (λe=>by have:=hg k e;omega)]
theorem HR (κ:Nat->Nat)(bs bd bl bo bm:Nat)(vf:Value)(L:Led)(D:Dsk)(V:Vs)(ts:List Tb)(dead:Bool)(bs9:List (List Rw))(w:World)(h:StE κ bs bd bl bo bm vf L D V ts [] dead w)(hen:L.ents=bs9.map F0)(hck:∀b∈bs9,H8 b=0)(hbn:bs9.length<=1000000)(hmb:∀k,(GN L.base [] (bs9.take k)).length<=600000/\He (GN L.base [] (bs9.take k))<=100000000000) :
  Calls Tryz.prog 63 [EE bs 0].toArray w (Ff (λk=>κ k≠0) w (λu w'=>u=I 0/\∃κ',(∀k,k<w.heap.size->κ' k=κ k)/\StE κ' bs bd bl bo bm vf L D V ts (GN L.base [] bs9) dead w')):=by
 refine cw Tryz.func63 ?_;have J:=Vc.Mod.refl (λk=>κ k≠0) w;have z:=h;have hκ0:∀k,w.heap.size<=k->κ k=0:=λk hk=>AP λh9=>by have:=h.lt k h9;omega
 obtain⟨hb0,hla⟩:=h.ld.bnd;have hle:L.last=L.base+↑bs9.length:=by unfold Led.last;rw[hen,Ao]
 have hκ1e:κ=κ:=rfl;refine ws λ_ Z1=>wr (da (de Z1 (ws λ_ Z2=>wr (dm ?_))));refine dz rfl (df 1 rfl (dl rfl (z.m.at rfl) (cG (z.ld.calls_base) RX.all λu1 w1 x1 h5=>?_)));have hsz1:=J.size;have z:=z.ext x1;have J:=J.ext x1;obtain⟨vx,rfl,_⟩:=h5;refine dm ?_;refine dx rfl rfl (dx rfl rfl (da (da (de Z2 (ws λ_ Z3=>ws λ_ Z4=>wr (dm ?_))))));refine EW (v:=I (L.base+1+↑(0:Nat))) rfl (Gy rfl rfl (by unfold EU;omega)) (by show I _=I _;congr 1;omega) (da (de Z4 (EM ?_)));refine Fq (G:=Nat×(Nat->Nat)) (λ(k,O)=>[(0,EE bs 0),(5,I (L.base+1+↑k))]) (λ(k,O) w'=>Mod (λk=>κ k≠0) w w'/\k<=bs9.length/\(∀k,k<w.heap.size->O k=κ k)/\StE O bs bd bl bo bm vf L D V ts (GN L.base [] (bs9.take k)) dead w') (λ(k,O)=>bs9.length-k) (0,κ) ?_ ?_ ?_
 ·exact Lo
 ·exact⟨J,Ae _,λ_ _=>rfl,z⟩
 intro X2 g2 w2 h6;obtain⟨k,O⟩:=g2;clear J z;obtain⟨J,hk1,Y,z⟩:=h6;refine ws λ_ Z5=>ws λ_ Z6=>wr (dm (dm ?_));refine dz rfl (df 1 rfl (dl rfl (z.m.at rfl) (cP (z.ld.calls_last) RX.all λw3 x3=>?_)));have z:=z.ext x3;have J:=J.ext x3;refine dp (IG rfl rfl) (de Z6 (wi (λc1=>?_) λc1=>?_))
 ·obtain⟨b,hk⟩:∃b,bs9[k]?=some b:=Fw;have ha:=hck b (Ak hk);have Z:L.ents[k]?=some (F0 b):=by rw[hen,AD,hk];rfl
  obtain⟨hr1,hr2,hr3,ht⟩:=Mj ha;obtain⟨hm1,hm2⟩:=hmb k;have hlt9:=z.lt;have hszw2:=J.size;refine EI (Z5 _ _ (ws λ_ Z7=>EM (ws λ_ Z8=>wr (dm ?_))));refine dz rfl (df 1 rfl (dl rfl (z.m.at rfl) (dm ?_)));refine cG (z.ld.calls_at Z) RX.all λu4 w4 x4 hg=>?_;have hsz4:=J.size;have z:=z.ext x4;have J:=J.ext x4;obtain⟨vp,rfl,hP⟩:=hg;refine dm ?_;refine dx rfl rfl (dx rfl rfl (da (da (de Z8 (ws λ_ Z9=>ws λ_ hw=>wr (dm ?_))))));refine dp (FH rfl rfl) (de hw (wi (λc2=>?_) λc2=>?_))
  ·exact absurd rfl c2
  refine EI (Z9 _ _ (ws λ_ h8=>wr (dm ?_)));refine cG (X1m b vp _ (hP.arr EF) ha) RX.all λu5 w5 x5 hy=>?_;have hc:=J.size;have z:=z.ext x5;have J:=J.ext x5;obtain⟨vl,rfl,hq⟩:=hy;have hL:=hq.mono hc;refine dm ?_;refine dx rfl rfl (dx rfl rfl (da (da (de h8 (ws λ_ xa=>ws λ_ hp=>wr (dm ?_))))));refine dp (FH rfl rfl) (de hp (wi (λc3=>?_) λc3=>?_))
  ·exact absurd rfl c3
  refine EI (xa _ _ (wr (dm (dm (dm ?_)))));have hlt8:=z.lt;have hb:=J.size;refine cD (Un _ bs bd bl V.next vf bo bm dead (GN L.base [] (bs9.take k)) b vl (L.base+1+↑k) _ z.m z.mr (by rw[z.k0];decide) (hL.arr EF) EB (λr hr=>by have:=Ng (ht r hr);omega) EB (by have:=Rg (seq:=L.base+1+↑k) ha;omega)) (.inl rfl) λu6 w6 x6 hz=>?_;have hsz6:=J.size;have J:=J.own x6 (λi hi hlt=>(by rw[<-Y i EB];have e1:=hi;rw[e1];decide));obtain⟨rfl,h7⟩:=hz;have hh:=z.setMem x6 h7;have hf:∀j,j<w.heap.size->HP O 3 _ _ j=κ j:=λj hj=>(Ln (κ:=O) (i:=3) (w':=w6) (Az hj hb)).trans (Y j hj);have z:=hh;refine de Z7 (wr (dm ?_));refine EW (v:=I (L.base+1+↑(k+1))) rfl (Gy rfl rfl (by unfold EU;omega)) (by show I _=I _;congr 1;omega) (da (EH (?_)));rw[show Iu (GN L.base [] (bs9.take k)) (G0 b (L.base+1+↑k))=GN L.base [] (bs9.take (k+1)) by rw[G1 hk,XH,show L.base+↑(bs9.take k).length+1=L.base+1+↑k by rw[A5];omega]]at z;exact⟨(k+1,_),Lo,⟨J,by omega,hf,z⟩,by simp only [];omega⟩
 have Z:k=bs9.length:=by omega
 subst Z;rw[AI]at z;refine Fk (Z3 _ _ (ws λ_ hl=>wr (da (de hl (EJ ?_)))));refine ro ?_;exact⟨_,rfl,J,rfl,_,Y,z⟩
def Yc0 (ts ts2:List Tb):Prop:=(ts2.map λt=>(t.h,t.cs)).Perm (ts.map λt=>(t.h,t.cs))
section
variable {n:Int}{V:Vs}{ts ts2:List Tb}{mem:List Cell}{L L':Led}{S i:Nat}{M:List Rw}
end
theorem Vw {L L':Led}{D D':Dsk}{mem mem':List Cell}{l:List Rw}{e:Int}{dead':Bool}{u k:Nat}(h:O8 L D mem false l e L' D' mem' dead')(hc:H8 l=0)(hL:L.dead=false)(hl:L.last<1099511627776)(hO:OkD D u k)(hb:(F0 l).length<=65536)(hr:((u+(F0 l).length+32:Nat):Int)<=D.room)(hk:k<4096){nn:Int}{mm:List Cell}(hn:L.last+1=nn)(hm:Iu mem (G0 l nn)=mm) :
  e=0/\dead'=false/\mem'=mm/\L'={ L with ents:=L.ents++[F0 l] }/\OkD D' (u+(F0 l).length+32) (k+1)/\D'.room=D.room:=by
 obtain⟨J,r,O,Y,z⟩:=Xyl hO hL hb hl hr hk;rcases h with⟨h1,_⟩|⟨_,h1,_⟩|⟨_,_,h2,h3,⟨h4,_⟩|⟨_,h5,h6,h7⟩⟩
 ·cases h1
 ·exact absurd hc h1
 ·exact absurd r h4
 ·exact⟨h5,h7,by rw[h6,J,hn,hm],h2.trans O,h3▸Y,by rw[h3];exact z⟩
theorem MW {κ κ1:Nat->Nat}{n m:Nat}(h:∀k,κ k≠0->n<=k)(hm:∀k,k<m->κ1 k=κ k)(hn:n<=m):∀k,κ1 k≠0->n<=k:=λk hk=>by
 rcases Nat.lt_or_ge k m with h1|h1
 ·rw[hm k h1]at hk;exact h k hk
 ·omega
def KA : Rw:=⟨[97],[120],false⟩
def KU : Rw:=⟨[97],[],true⟩
def HK : Cell:=⟨[97],[120],false,1⟩
def PF : Cell:=⟨[97],[],true,2⟩
theorem X1q : (F0 [KA]).length<=100:=by
 have h1:=Nk [KA];have h2:=Gj (0+1);have h3:IE [KA]=2:=rfl;unfold F0;rw[Aa];simp only [AG,Bi]at *;omega
theorem X1r : (F0 [KU]).length<=100:=by
 have h1:=Nk [KU];have h2:=Gj (0+1);have h3:IE [KU]=1:=rfl;unfold F0;rw[Aa];simp only [AG,Bi]at *;omega
theorem Sw : (Fo [HK]).length<=31000:=by
 have:=XL (l:=[HK]) (by intro c r;rw[Ah.1 r];decide) EN;simpa using this
theorem Ybd : Hx [HK]=0:=by
 rw[Tc EN EN];unfold Hu;rw[if_neg (by have:=Sw;omega)]
def fX : Fi:=Kr 0 1 0 [HK]
theorem X7w : fX.size=↑((Fo [HK]).length+12):=by
 show((EG (Fo [HK])).length:Int)=_;rw[Jm]
theorem Yck : GK ⟨2,[fX]⟩=true:=by
 have h1:=Sw;have h2:=X7w;refine Xj EN EN ER ?_ ER rfl;simp only [List.all_cons,List.all_nil,Bool.and_true];unfold HW;rw[h2];have e1:fX.id=1:=rfl;have e2:fX.lev=0:=rfl;have r:fX.fst=[97]:=rfl;have z:fX.lst=[97]:=rfl;rw[e1,e2,r,z];simp only [Bool.and_eq_true,decide_eq_true_eq];refine⟨⟨⟨⟨⟨⟨⟨⟨by decide,by decide⟩,by decide⟩,by decide⟩,by omega⟩,by omega⟩,by decide⟩,by decide⟩,by decide⟩
theorem X1s : (FO ⟨2,[fX]⟩).length<=200:=by
 unfold FO;have a1:=Gj (2:Int).toNat;have a2:=Gj (0+1);have e:([fX].flatMap GF)=GF fX:=by simp
 have b1:=Gj fX.id.toNat;have b2:=Gj fX.lev.toNat;have b3:=Gj fX.size.toNat;have r:fX.fst=[97]:=rfl;have z:fX.lst=[97]:=rfl;simp only [e];unfold GF Fs;rw[r,z];simp only [Aa,AG,Bi]at *;omega
theorem UJ : FJ 1=[116,49]:=by
 have:Lib.itoa 1=[49]:=by
  unfold Lib.itoa;rw[if_neg EN];unfold Lib.decDigits;simp
 unfold FJ;rw[this]
theorem mgX {m:List Cell}(h:Mg [HK] m):m=[HK]:=by
 obtain⟨l',r,_,rfl⟩:=h;rw[E4.1 r];rfl
theorem L6 : F8 [HK]=[[HK]]:=by decide
theorem Ybf {L L':Led}{D D':Dsk}{V':Vs}{ts':List Tb}{mem':List Cell}{ok dead':Bool}{e:Int}{u k:Nat}(h:JW L D ⟨1,[]⟩ [] [HK] false ok e L' D' V' ts' mem' dead')(hL:L.dead=false)(hl:0<=L.last/\L.last<1099511627776)(hO:OkD D u k)(hr:((u+32000:Nat):Int)<=D.room)(hk:k<4000) :
  ok=true/\e=0/\mem'=[]/\dead'=false/\(∃p,L'=⟨L.last,p,[],false⟩)/\V'=⟨2,[fX]⟩/\(∃bt vl vb,ts'=[⟨(0,1),bt,vl,vb,[HK]⟩])/\OkD D' (u+32000) (k+2)/\D'.room=D.room:=by
 rcases h with⟨h1,_⟩|⟨_,h1,_⟩|⟨_,_,m,hm,hC,hE⟩
 ·cases h1
 ·cases h1
 ·have:=mgX hm;subst this;have hA:F7 0 1 (F8 [HK])=[fX]:=by rw[L6];rfl
  have hF:HZ 1 (F8 [HK])=[(1,EG (Fo [HK]))]:=by rw[L6];rfl
  have hT:Kz 0 1 (F8 [HK])=[((0,1),[HK])]:=by rw[L6];rfl
  have hN:Hp 1 [fX]=2:=rfl;have Z:∀fs':List Fi,fs'.Perm (Ik [] []++[fX])->fs'=[fX]:=λfs' z=>E4.1 z;have O:Kw ⟨1,[]⟩ [] [fX]=true:=RQ rfl rfl (by intro f hf;rw[Ah.1 hf];decide);have ht:=Sw;have hrl:=Jm (Fo [HK]);obtain⟨s1,s2,Y⟩:=Wc (n:=FJ 1) (p:=EG (Fo [HK])) hO (by rw[UJ];decide) (by rw[UJ];decide) EB EB EB;have hv:=X1s;obtain⟨w1,w2,w3,w4⟩:=X1j (i:=L.last) (p:=FO ⟨2,[fX]⟩) s2 hL ⟨Int.le_refl _,by omega⟩ EB (by rw[Y];omega) EB;have J:GQ [(1,EG (Fo [HK]))] D=(0,(D.save (FJ 1) (EG (Fo [HK]))).2):=by
   unfold GQ;rw[if_neg (by rw[s1];decide)];rfl
  unfold Jx at hC;simp only [hA,hF,hT,hN,Be]at hC;rcases hC with⟨he,_,_,_,_,_,hx⟩|⟨_,_,fs',z,_,_,_,hx⟩
  ·exfalso;rcases hx with⟨sg,hs,hb⟩|hx|⟨fs',z,_,hx⟩
   ·rw[L6]at hs;rw[Ah.1 hs]at hb;exact hb Ybd
   ·rw[O]at hx;cases hx
   ·rw[Z fs' z]at hx;rcases hx with hx|hx
    ·rw[Yck]at hx;cases hx
    ·omega
  ·have e1:=Z fs' z;subst e1;rw[J]at hx;dsimp only at hx;rcases hx with⟨hx,_⟩|⟨_,hL',hD',hx⟩
   ·exact absurd rfl hx
   ·rcases hx with⟨hx,_⟩|⟨_,he,hV,hd,tbs,htb,hts⟩
    ·exact absurd w1 hx
    ·rcases hE with⟨h9,_⟩|⟨_,h8,h7⟩
     ·exact absurd he h9
     ·rcases tbs with _|⟨t,_|⟨t2,r⟩⟩
      ·cases htb
      ·obtain⟨th,bt,vl,vb,tc⟩:=t;simp only [An,Be,List.cons.injEq,Prod.mk.injEq,and_true]at htb;obtain⟨rfl,rfl⟩:=htb;refine⟨h8,he,h7,hd,⟨_,hL'.trans w2⟩,hV,⟨bt,vl,vb,hts⟩,hD'▸w3.mono EB EB,?_⟩;rw[hD',w4,Y]
      ·simp at htb
theorem Xd {κ:Nat->Nat}{bs bd bl bo bm:Nat}{vf:Value}{L:Led}{D:Dsk}{V:Vs}{ts:List Tb}{mem:List Cell}{dead:Bool}{w:World}(h:StE κ bs bd bl bo bm vf L D V ts mem dead w)(key:EC)(hml:mem.length<=900000)(hfl:V.fs.length<=100000)(hfs:∀f∈V.fs,(∃t,H5 ts (f.lev,f.id)=some t)/\EU f.lev/\EU f.id)(hkl:key.length<=1000000000) :
  Calls Tryz.prog 22 [EE bs 0,S key].toArray w (Pure w (.tuple #[S (JD (Ky mem V.fs ts key)).1,B (JD (Ky mem V.fs ts key)).2])):=by
 have r:=h.mp.at;rw[show lk (ts.map Tb.kv)=Ja ts from funext (RU ts)]at r;exact Yab bs bd bl V.next vf bo bm _ dead _ mem V.fs ts key w h.m h.mr hml h.vs hfl r h.tb hfs hkl
theorem X7x {κ:Nat->Nat}{bs bd bl bo bm:Nat}{vf:Value}{L:Led}{D:Dsk}{V:Vs}{ts:List Tb}{mem:List Cell}{dead:Bool}{w:World}(h:StE κ bs bd bl bo bm vf L D V ts mem dead w) :
  Calls Tryz.prog 17 [EE bs 0].toArray w (Pure w (I L.last)):=by
 obtain⟨F,G,vd,ve,vs,h1,h2,_⟩:=h.ld;exact Yaa bs bd bl V.next vf bo bm dead G vd ve vs L w h.m h2
theorem Yc1 : (Ie 65536).Wf:=⟨by decide,by decide,by decide,by decide,by decide,λp r=>(by cases r),λp r=>(by cases r),BV,by decide⟩
theorem Ycl : OkD (Ie 65536) 0 0:=⟨rfl,Ab _,Ab _,BV,λp r=>(by cases r)⟩
theorem getX {bt:Nat}{vl vb:Value} : Ky [] [fX] [⟨(0,1),bt,vl,vb,[HK]⟩] [97]=some HK:=by
 have e:fX=⟨1,0,fX.size,[97],[97]⟩:=rfl;rw[e];rfl
theorem Ycm {fs:List Fi}{ts:List Tb} : Ky [PF] fs ts [97]=some PF:=rfl
theorem X7y (w:World)(hgv:GV w) :
  Calls Tryz.prog 18 [].toArray w (Pure w (B true)):=by
 refine cw Tryz.func18 ?_;have r:=ED.refl w;refine ws λ_ Z1=>wr (da (de Z1 (ws λ_ Z2=>wr ?_)));refine cG (Em.diskNew_w 65536 _ EN EN) RX.all λu1 w1 x1 xg=>?_;have hsz1:=r.size;have r:=r.trans x1;obtain⟨bd,mf,rfl,hd,hm,hgd,hgm⟩:=xg;refine dm ?_;refine dx rfl rfl (dx rfl rfl (da (da (de Z2 (ws λ_ Z3=>wr (dm ?_))))));have hmfl:=hm.lt;have hsz0:=r.size;refine cG (Em.lsmOpen_w bd mf 65536 _ hd hm) RX.all λu2 w2 x2 xc=>?_;have hsz2:=r.size;have r:=r.trans x2;obtain⟨bs,bl,mo,bm,ba,bn,rfl,hE,k1,k2,k3,k4,k5,k6⟩:=xc;have z:=W9 hE EB Yc1;have hκ:∀k,(Hg bs bd bl mo bm ba bn mf) k≠0->w.heap.size<=k:=λk hk=>by
  unfold Hg at hk
  repeat' split at hk
  all_goals omega
 refine dm ?_;refine dx rfl rfl (dx rfl rfl (da (da (de Z3 (ws λ_ Z4=>ws λ_ Z5=>wr (dm ?_))))));refine dp (FH rfl rfl) (dm ?_);refine F4 22 rfl (λc1=>?_) (λc1=>?_)
 ·exact absurd rfl c1
 refine dm ?_;refine dp (Gi EA rfl rfl) (EP (de Z5 ?_));refine wi (λc2=>?_) λc2=>?_
 ·exact absurd c2 ER
 refine EI (Z4 _ _ (ws λ_ Z6=>wr (dm ?_)));refine db (zs:=[S [],S [],B false]) (pl:=[(0,1),(1,1),(2,1)]) (pv:=[(0,_),(1,_)]) (cs:=[_,_,B false]) ?_;refine li (e:=48) (sz:=3) (zs:=[S [],S [],B false]) (pv:=[(0,.agg ⟨[_,_,_]⟩)]) (cs:=[_,_,_]) RX.all (λb1 w3 e1 x3 m1=>?_);have g1:=r.ge e1;have Z:=z.lt;have z:=z.ext x3;have r:=r.trans x3;have hr:=r.size;refine cD (Qo (Hg bs bd bl mo bm ba bn mf) bs bd bl mo bm (.slice none 0 0) Hs (Ie 65536) ⟨1,[]⟩ [] [] false [KA] _ _ z (m1.arr (enc:=Rw.cs) (sz:=3) (l:=[KA]) rfl EF rfl ER) EN (λ_=>AP λO=>by have h8:=Z _ O;have h7:=e1;dsimp only [base]at h8;omega) EN EN EN) (.inl rfl) λu4 w4 x4 h6=>?_;have hsz4:=r.size;have r:=r.own x4 (λi hi=>(hκ i hi));obtain⟨e1,κ1,L1,D1,mem1,dead1,rfl,xf,J,hW⟩:=h6;have hbl:=X1q;obtain⟨he1,rfl,rfl,rfl,hw,Y⟩:=Vw hW EN rfl EN Ycl EB (by show _<=(65536:Int);omega) EN (nn:=1) (mm:=[HK]) rfl EN;have z:=J;have hb:=MW hκ xf hr;refine de Z6 (ws λ_ Z7=>wr (dm ?_));have hz:=r.size;have z:StE κ1 bs bd bl mo bm (.slice none 0 0) _ D1 ⟨1,[]⟩ [] [HK] false _:=z;refine cD (Qr κ1 bs bd bl mo bm (.slice none 0 0) _ D1 ⟨1,[]⟩ [] [HK] false _ z EN (by intro c hc;rw[Ah.1 hc];decide) rfl (hgv.ext r) (λk hk=>AP λO=>by have h8:=hb k O;have h7:=hgv.lt k hk;omega) EN) (.inl rfl) λu5 w5 x5 xe=>?_;have hsz5:=r.size;have r:=r.own x5 (λi hi=>(hb i hi));obtain⟨ok,e2,κ2,hp,hg,L2,D2,V2,ts2,mem2,dead2,rfl,hy,J,xa⟩:=xe;obtain⟨rfl,rfl,rfl,rfl,⟨p2,rfl⟩,rfl,⟨bt,vl,vb,rfl⟩,hj,hq⟩:=Ybf xa rfl EN hw (by rw[Y];show _<=(65536:Int);omega) EN;have z:=J;have xi:=MW hb hy hz;refine dm ?_;refine dx rfl rfl (dx rfl rfl (da (da (de Z7 (ws λ_ Z8=>wr (dm ?_))))));refine cP ((show Calls Tryz.prog 22 [EE bs 0,S [97]].toArray w5 (Pure w5 (.tuple #[S [120],B true])) from by have O:=Xd z [97] EN ER (by intro f hf;rw[Ah.1 hf];exact⟨⟨_,rfl⟩,by unfold EU;decide,by unfold EU;decide⟩) EN;rw[getX]at O;exact O)) RX.all λw6 x6=>?_;have z:=z.ext x6;have r:=r.trans x6;refine dm ?_;refine dx rfl rfl (dx rfl rfl (da (da (de Z8 (ws λ_ Z9=>wr (dm ?_))))));refine db (zs:=[S [],S [],B false]) (pl:=[(0,1),(1,1),(2,1)]) (pv:=[(0,_),(2,_)]) (cs:=[_,S [],_]) ?_;refine li (e:=48) (sz:=3) (zs:=[S [],S [],B false]) (pv:=[(0,.agg ⟨[_,_,_]⟩)]) (cs:=[_,_,_]) RX.all (λb2 w7 e2 x7 m2=>?_);have g2:=r.ge e2;have ha:=z.lt;have z:=z.ext x7;have r:=r.trans x7;have hsze:=r.size;refine cD (Qo κ2 bs bd bl mo hp hg _ D2 ⟨2,[fX]⟩ [⟨(0,1),bt,vl,vb,[HK]⟩] [] false [KU] _ _ z (m2.arr (enc:=Rw.cs) (sz:=3) (l:=[KU]) rfl EF rfl ER) EN (λ_=>AP λO=>by have h8:=ha _ O;have h7:=e2;dsimp only [base]at h8;omega) EN (by show 0<=900000;decide) EN) (.inl rfl) λu8 w8 x8 h5=>?_;have hsz8:=r.size;have r:=r.own x8 (λi hi=>(xi i hi));obtain⟨e3,κ3,L3,D3,mem3,dead3,rfl,hmv3,J,xb⟩:=h5;have hbl3:=X1r;obtain⟨he3,ht,hl,hh,hOk3,hro3⟩:=Vw xb EN rfl (by show(1:Int)<1099511627776;decide) hj EB (by rw[hq,Y];show _<=(65536:Int);omega) EN (nn:=2) (mm:=[PF]) rfl EN;rw[ht,hl,hh]at J;have z:StE κ3 bs bd bl mo hp hg _ D3 ⟨2,[fX]⟩ [⟨(0,1),bt,vl,vb,[HK]⟩] [PF] false _:=J;refine de Z9 (ws λ_ xd=>wr (dm ?_));refine cP ((show Calls Tryz.prog 22 [EE bs 0,S [97]].toArray w8 (Pure w8 (.tuple #[S [],B false])) from by have O:=Xd z [97] EN ER (by intro f hf;rw[Ah.1 hf];exact⟨⟨_,rfl⟩,by unfold EU;decide,by unfold EU;decide⟩) EN;rw[Ycm]at O;exact O)) RX.all λw9 x9=>?_;have z:=z.ext x9;have r:=r.trans x9;refine dm ?_;refine dx rfl rfl (dx rfl rfl (da (da (de xd (ws λ_ xj=>wr (dm ?_))))));refine dp (GB rfl rfl) (dm ?_);refine F4 51 rfl (λc3=>?_) (λc3=>?_)
 ·refine dm ?_;refine EP ?_;refine dm ?_;refine dm ?_;refine EP ?_;refine dm ?_;refine dm ?_;refine dp (MU rfl rfl) (EP ?_);refine dm ?_;refine F4 61 rfl (λc4=>?_) (λc4=>?_)
  ·refine dm ?_;refine dn ?_;refine EP ?_;refine dm ?_;refine dm ?_;refine cP (X7x z) RX.all λw10 xh=>?_;have r:=r.trans xh;refine dp (GB rfl rfl) (EP ?_);refine da (de xj (EJ ?_));refine ro ?_;exact⟨rfl,r⟩
  exact absurd rfl c4
 exact absurd rfl c3
theorem Xyu {P:Program}{W:World}{name:String}{k:IntKind}{zs:List Int}{a b:String×DataW Unit}{g:Nat}{t e:TypeId}{n:Nat}
  (hg:P.globalNamed name=some g) (hty:(P.globals[g]?).map (·.type)=some t) (ht:P.underlying t=some (.array n e)) (he:P.underlying e=some (.int k)) (hce:P.cellsOf e=1) (hct:P.cellsOf t=n)
  (h:laidMet P [a,b,(name,Lib.tabData k zs)] W):Lib.TabIs P W name k zs:=by
 obtain⟨ps,hv,_⟩:=h;obtain⟨_,_,_,_,_,q1,_,_,_,_,hv,_⟩:=hv;obtain⟨_,_,_,_,_,q2,_,_,_,_,hv,_⟩:=hv;obtain⟨g',t',cs,fuel,p,q,z,J,r,hd,_,_⟩:=hv;obtain rfl:=A0.inj (hg.symm.trans z);obtain rfl:=A0.inj (hty.symm.trans J);unfold Lib.TabIs;rw[r,<-Lib.cells_of_tab ht he hce hct hd]
theorem X1t : (Rows.laid_internal_strconv_uint64pow10:DataW Unit)=Lib.tabData .u64 Lib.pow10Tab:=by rfl
theorem GV.of_row {a b : String × DataW Unit} {w : World} (_ : w.ShapedOpen Tryz.prog) (h : laidMet Tryz.prog [a, b, ("internal/strconv.uint64pow10", Rows.laid_internal_strconv_uint64pow10)] w) : GV w := by
 rw[X1t]at h;exact⟨Xyu (g:=1) (t:=366) (e:=236) (n:=20) EA EA EA EA EA EA h⟩
theorem Q8 {g:Cell->Nat}(B:Nat):∀(ls:List (List Rw)) (b:Int) (m:List Cell),(∀l∈ls,∀s,Fu g (G0 l s)<=B)->Fu g (GN b m ls)<=Fu g m+B*ls.length
 | [],b,m,_=>Ab _
 | l :: r,b,m,h=>by
  have h1:=Q8 B r (b+1) (Iu m (G0 l (b+1))) (λx z=>h x (Am _ z));have h2:=QZ (g:=g) (G0 l (b+1)) m;have h3:=h l Al (b+1);unfold GN;rw[AG,Nat.mul_add];omega
theorem V6 (l:List Cell):Fu (λ_=>1) l=l.length:=by
 unfold Fu
 induction l with
 | nil=>rfl
 | cons a r ih=>rw[An,List.sum_cons,ih,AG];omega
theorem X1u {ls:List (List Rw)}(b:Int)(hc:∀l∈ls,H8 l=0)(hl:ls.length<=1000):(GN b [] ls).length<=600000/\He (GN b [] ls)<=100000000000:=by
 have h1:=Q8 (g:=λ_=>1) 512 ls b [] (λl hm s=>by
  have h2:=Py l s;have h3:=(Mj (hc l hm)).2.1;rw[V6];omega)
 have h2:=Q8 (g:=Gt) 10500000 ls b [] (λl hm s=>Rg (hc l hm));have h3:=V6 (GN b [] ls);have h4:Fu (λ_=>1) ([]:List Cell)=0:=rfl;have h5:Fu Gt ([]:List Cell)=0:=rfl;refine⟨by omega,?_⟩;show Fu Gt (GN b [] ls)<=_;omega
@[reducible] def LO (L:Led):Led:=⟨L.base,L.data,L.ents,false⟩
section
variable {n:Int}{L:Led}{D:Dsk}{V:Vs}{ts:List Tb}{mem mem':List Cell}
end
theorem StE.fresh {H G:Nat->Prop}{bs bd bl bo bm:Nat}{L:Led}{D:Dsk}{w:World}(m:EK w bs (H3 bd bl 1 (.slice none 0 0) bo bm false) 90)(ld:LD H bl bd L D w)(mp:FE Tryz.prog 104 Gz pO w bo (([]:List Tb).map Tb.kv))(mr:FG G w bm [])(h1:∀k,H k->k<bo)(h2:∀k,G k->bo<k/\k<bs)(h3:bo<bs) :
  ∃κ:Nat->Nat,(∀k,κ k≠0->H k\/bo<=k)/\StE κ bs bd bl bo bm (.slice none 0 0) L D ⟨1,[]⟩ [] [] false w:=by
 classical
 have hbs:=m.lt
 let κ:Nat->Nat:=λk=>if k=bs then 5 else if k=bo then 2 else if G k then 3 else if H k then 1 else 0
 have k1:∀k,H k->κ k=1:=λk hk=>by
  have:=h1 k hk;show(if k=bs then 5 else if k=bo then 2 else if G k then 3 else if H k then 1 else 0)=1;rw[if_neg EB,if_neg EB,if_neg (λe=>by have:=h2 k e;omega),if_pos hk]
 have O:∀k,G k->κ k=3:=λk hk=>by
  have:=h2 k hk;show(if k=bs then 5 else if k=bo then 2 else if G k then 3 else if H k then 1 else 0)=3;rw[if_neg EB,if_neg EB,if_pos hk]
 have J:∀k,κ k≠0->H k\/(bo<=k/\k<=bs):=λk hk=>by
  by_cases e1:k=bs
  ·right;omega
  by_cases e2:k=bo
  ·right;omega
  by_cases e3:G k
  ·have:=h2 k e3;right;omega
  by_cases e4:H k
  ·exact .inl e4
  exact absurd (show(if k=bs then 5 else if k=bo then 2 else if G k then 3 else if H k then 1 else 0)=0 by rw[if_neg e1,if_neg e2,if_neg e3,if_neg e4]) hk
 have z:∀k,κ k≠0->k<w.heap.size:=λk hk=>(J k hk).elim (λh=>by have:=h1 k h;omega) (λh=>by omega);refine⟨κ,λk hk=>(J k hk).imp id And.left,⟨m,ld.wide k1 (λk hk=>z k (by rw[hk];decide)),mp,mr.to O (λk hk=>z k (by rw[hk];decide)),EQ.nil,λt r=>(by cases r),if_pos rfl,?_,λh=>absurd rfl h,λt r=>(by cases r),z⟩⟩;show(if bo=bs then 5 else if bo=bo then 2 else if G bo then 3 else if H bo then 1 else 0)=2;rw[if_neg EB,if_pos rfl]
def Rc (i:Nat)(D:Dsk):Prop:=∃(L0:Led) (b0:Int) (V0:Vs) (ts0:List Tb) (mem0:List Cell) (n0:Int),FX L0 b0 D V0 ts0/\Sto n0 V0 ts0 mem0/\b0+L0.ents.length<=i/\L0.base<=i/\L0.ents.length<=i
structure SI (S i:Nat)(L:Led)(D:Dsk)(V:Vs)(ts:List Tb)(mem:List Cell)(dead:Bool):Prop where
 ti:∃M,TI S i L V ts mem M
 fa:dead=false->FA L D V ts
 rc:Rc i D
section
variable {n lv:Int}{V V':Vs}{ts ts':List Tb}{mem mem' l:List Cell}{gone:List Fi}{L L':Led}{D D':Dsk}{dead dead' ok:Bool}{e:Int}{S i:Nat}{M:List Rw}
theorem FA.rc (h:FA L D V ts)(hT:TI S i L V ts mem M):Rc i D:=by
 have h1:=hT.l0;have h2:=hT.en;have h3:L.last=L.base+↑L.ents.length:=rfl;exact⟨L,L.base,V,ts,mem,L.last,h.fx,hT.sto,by omega,by omega,h2⟩
theorem Rc.mono {j:Nat}(h:Rc i D)(hj:i<=j):Rc j D:=by
 obtain⟨L0,b0,V0,ts0,mem0,n0,h1,h2,h3,h4,h5⟩:=h;exact⟨L0,b0,V0,ts0,mem0,n0,h1,h2,by omega,by omega,by omega⟩
theorem SI.mono {S' j:Nat}(h:SI S i L D V ts mem dead)(hS:S<=S')(hj:i<=j):SI S' j L D V ts mem dead:=by
 obtain⟨⟨M,r⟩,h2,h3⟩:=h;exact⟨⟨M,r.mono hS hj⟩,h2,h3.mono hj⟩
theorem SI.nil {D:Dsk}(h:D.fs=[]):SI 0 0 Hs D ⟨1,[]⟩ [] [] false:=⟨⟨[],TI.nil⟩,λ_=>FA.nil h,(FA.nil h).rc TI.nil⟩
theorem SI.write {l:List Rw}(h:SI S i L D V ts mem dead)(hw:O8 L D mem dead l e L' D' mem' dead'):SI (S+(l.map GW).sum) (i+1) L' D' V ts mem' dead':=by
 obtain⟨⟨M,J⟩,O,Y⟩:=h;have r:=J.write hw
 cases dead with
 | true=>
  rcases hw with⟨_,_,rfl,rfl,rfl,rfl⟩|⟨z,_⟩|⟨z,_⟩
  ·exact⟨⟨_,r⟩,λz=>(by cases z),Y.mono (Cj i)⟩
  ·cases z
  ·cases z
 | false=>
  rcases(O rfl).write hw with⟨h1,h2⟩|h1
  ·refine⟨⟨_,r⟩,h1,L,L.base,V,ts,mem,L.last,h2,J.sto,?_,?_,?_⟩
   all_goals
    have h1:=J.l0;have h2:=J.en;have h3:L.last=L.base+↑L.ents.length:=rfl;omega
  ·exact⟨⟨_,r⟩,λ_=>h1,h1.rc r⟩
theorem SI.chg (h:FA L D V ts)(hT:TI S i L V ts mem M)(hC:Jx L D V ts dead l lv gone e L' D' V' ts' dead')(hd:dead=false)(hg:∀f∈gone,f∈V.fs)(hS:∀V0 ts0,ChS V ts l lv gone V0 ts0->∃n0 mem0,Sto n0 V0 ts0 mem0)(r:∃mem',TI S i L' V' ts' mem' M):(dead'=false->FA L' D' V' ts')/\Rc i D':=by
 obtain⟨mem',r⟩:=r;have h1:=hT.l0;have h2:=hT.en;rcases h.chg hC hT.sto hg with⟨_,rfl,rfl,h3|⟨rfl,L0,b0,V0,ts0,x1,x2,x3,x4,x5⟩⟩|⟨_,h3,_⟩
 ·exact⟨λ_=>h3.2,h3.2.rc r⟩
 ·refine⟨λJ=>(by cases J),?_⟩;rcases x2 with⟨rfl,rfl⟩|x2
  ·exact⟨L0,b0,_,_,mem,_,x1,hT.sto,by omega,by omega,by omega⟩
  ·obtain⟨n0,mem0,z⟩:=hS V0 ts0 x2;exact⟨L0,b0,V0,ts0,mem0,n0,x1,z,by omega,by omega,by omega⟩
 ·exact⟨λ_=>h3,h3.rc r⟩
theorem SI.flush (h:SI S i L D V ts mem dead)(J:JW L D V ts mem dead ok e L' D' V' ts' mem' dead'):SI S i L' D' V' ts' mem' dead':=by
 obtain⟨⟨M,r⟩,O,Y⟩:=h;have z:=r.flush J;rcases J with⟨rfl,_,_,rfl,rfl,rfl,rfl,rfl,rfl⟩|⟨rfl,_,_,_,rfl,rfl,rfl,rfl,rfl,rfl⟩|⟨rfl,_,m,hm,hC,hr⟩
 ·exact⟨⟨M,r⟩,O,Y⟩
 ·exact⟨⟨M,r⟩,O,Y⟩
 ·obtain⟨h1,h2⟩:=SI.chg (O rfl) r hC rfl (λf J=>(by cases J)) (λV0 ts0 c=>⟨_,_,(c.flush r.sto hm r.told).1⟩) ⟨_,z⟩;exact⟨⟨M,z⟩,h1,h2⟩
theorem SI.comp {did:Bool}(h:SI S i L D V ts mem dead)(Y:M0 L D V ts mem dead did e L' D' V' ts' mem' dead'):SI S i L' D' V' ts' mem' dead':=by
 have h0:=h;obtain⟨⟨M,hT⟩,hF,hR⟩:=h;have z:=hT.comp Y;rcases Y with⟨rfl,_,_,rfl,rfl,rfl,rfl,rfl,rfl⟩|⟨rfl,_,_,_,rfl,rfl,rfl,rfl,rfl,rfl⟩|⟨rfl,_,ok,e1,L1,D1,V1,ts1,mem1,dead1,hFl,hr⟩
 ·exact h0
 ·exact h0
 ·have Z:=hT.flush hFl;have h1:=h0.flush hFl;rcases hr with⟨_,_,_,rfl,rfl,rfl,rfl,rfl,rfl⟩|⟨rfl,p,lv,m,e2,D2,dead2,_,hP,hm,hC,rfl,hr⟩
  ·exact h1
  ·obtain⟨rfl,rfl,r,_⟩:=Ro hT.sto hFl;have J:∀f∈p,f∈V1.fs:=λf Y=>(hP.sub f Y).1;have ha:=(Ij r.isv).2.2.2.2.1;have O:=(Ij r.isv).2.2.2.1;have hc:∀V0 ts0,ChS V1 ts1 (m.filter (HL V1.fs ↑lv)) ↑lv p V0 ts0->∃n0 mem0,Sto n0 V0 ts0 mem0:=λV0 ts0 c=>⟨_,_,(ChS.merge Z.sto hP hm c Z.told).1⟩;obtain⟨c1,c2⟩:=SI.chg (h1.fa rfl) Z hC rfl J hc ⟨_,z⟩;rcases hr with⟨_,_,_,rfl,rfl⟩|⟨rfl,rfl,hr⟩
   ·exact⟨⟨M,z⟩,c1,c2⟩
   ·rcases(h1.fa rfl).chg hC r J with⟨h9,_⟩|⟨_,c3,tbs,c4,c5⟩
    ·exact absurd rfl h9
    ·obtain⟨r1,r2⟩:=TB (p.map λf=>FJ f.id) D2 c3.sf;have hA:FA L' (D2.rem (p.map λf=>FJ f.id)).2 V' ts':=by
      refine c3.same r1 (r2 _ (λhs=>?_)) (r2 _ (λhs=>?_)) (λt ht=>r2 _ (λhs=>?_))
      ·obtain⟨f,_,e9⟩:=Aq.1 hs;exact Ol _ e9
      ·obtain⟨f,_,e9⟩:=Aq.1 hs;exact Mx _ e9
      ·obtain⟨f,Y,e9⟩:=Aq.1 hs;have hf1:=Jk (O f (J f Y));rw[c4]at ht;rcases Aw.1 ht with ht|ht
       ·obtain⟨hb,hh⟩:=A3.1 ht;have h8:=r.lev hb;have e8:=NF EB EB e9;obtain⟨g,hg,hv⟩:=r.bwd t hb;have hg1:=Jk (O g hg);have e7:f=g:=L9 ha (J f Y) hg (by rw[e8,hv.h]);exact L8.1 hh f Y (by rw[hv.h,e7])
       ·have h8:=c5 t ht;have e8:=NF EB EB e9;omega
     exact⟨⟨M,z⟩,λ_=>hA,hA.rc z⟩
end
def G6 (d:Nat)(f:Fil):Fil:=⟨f.data.take (f.lasts+d % (f.data.length-f.lasts+1)),f.lasts+d % (f.data.length-f.lasts+1)⟩
def Dsk.crash (d:Nat)(D:Dsk):Dsk:={ D with fused:=false,fs:=D.fs.map λp=>(p.1,G6 d p.2) }
theorem Ybg {α β:Type}(g:α->β)(l:List (EC×α))(m:EC):lk (l.map λp=>(p.1,g p.2)) m=(lk l m).map g:=by
 induction l with
 | nil=>rfl
 | cons p r ih=>
  rw[An,IJ,IJ,ih];dsimp only;split<;>rfl
theorem NO (d:Nat)(D:Dsk)(m:EC):lk (Dsk.crash d D).fs m=(lk D.fs m).map (G6 d):=Ybg _ _ _
theorem WW (d:Nat)(p:EC):G6 d ⟨p,p.length⟩=⟨p,p.length⟩:=by
 unfold G6;dsimp only;rw[Nat.sub_self,Nat.mod_one,Nat.add_zero,AI]
def KF (x:EC):Prop:=x=[]\/∃(y:EC) (j:Nat),y.length<=1048576/\j<(EG y).length/\x=(EG y).take j
structure FC (L:Led)(b0:Int)(x:EC)(D:Dsk)(V:Vs)(ts:List Tb):Prop where
 fu:D.fused=false
 img:(lk D.fs Led.img=none/\L.base=0/\L.data=[]/\V=⟨1,[]⟩)\/((∃k,lk D.fs Led.img=some ⟨EG (Led.ent L.base L.data),k⟩)/\L.data=FO V/\(FO V).length<=262144)
 bs:∃bs:List (List Rw),L.ents=bs.map F0/\∀b∈bs,H8 b=0
 log:(lk D.fs Led.logn=none/\L.ents=[])\/∃k,lk D.fs Led.logn=some ⟨FZ b0 L.ents++x,k⟩
 xt:KF x
 st:b0=L.base\/b0+L.ents.length=L.base
 h0:0<=b0
 tab:∀t∈ts,∃k,lk D.fs (FJ t.h.2)=some ⟨EG (EG (Fo t.cs)),k⟩
 tok:∀t∈ts,Hx t.cs=0/\(EG (Fo t.cs)).length<=1048576
theorem Ya {b:List Rw}(h:H8 b=0):(F0 b).length<=65536:=by
 obtain⟨h1,h2,h3,_⟩:=Mj h;have h4:=Nk b;have h5:=Gj b.length;unfold F0;rw[Aa];omega
theorem FX.crash {L:Led}{b0:Int}{D:Dsk}{V:Vs}{ts:List Tb}(h:FX L b0 D V ts)(d:Nat):∃ents x,FC { L with ents:=ents } b0 x (Dsk.crash d D) V ts/\ents.length<=L.ents.length+1:=by
 have r:(lk (Dsk.crash d D).fs Led.img=none/\L.base=0/\L.data=[]/\V=⟨1,[]⟩)\/((∃k,lk (Dsk.crash d D).fs Led.img=some ⟨EG (Led.ent L.base L.data),k⟩)/\L.data=FO V/\(FO V).length<=262144):=by
  rcases h.img with⟨h1,h2⟩|⟨h1,h2⟩
  ·exact .inl ⟨by rw[NO,h1];rfl,h2⟩
  ·exact .inr ⟨⟨_,by rw[NO,h1,Br,WW]⟩,h2⟩
 have z:∀t∈ts,∃k,lk (Dsk.crash d D).fs (FJ t.h.2)=some ⟨EG (EG (Fo t.cs)),k⟩:=λt Y=>⟨_,by rw[NO,h.tab t Y,Br,WW]⟩;rcases h.log with⟨h1,h2⟩|⟨x,k,h1,h2,h3⟩
 ·exact⟨L.ents,[],⟨rfl,r,h.bs,.inl ⟨by rw[NO,h1];rfl,h2⟩,.inl rfl,h.st,h.h0,z,h.tok⟩,Cj _⟩
 ·obtain⟨j,hj⟩:∃j,G6 d ⟨FZ b0 L.ents++x,k⟩=⟨FZ b0 L.ents++x.take j,k+d % ((FZ b0 L.ents++x).length-k+1)⟩:=by
   unfold G6;dsimp only;refine⟨k+d % ((FZ b0 L.ents++x).length-k+1)-(FZ b0 L.ents).length,?_⟩;rw[List.take_append];rw[Ay (l:=FZ b0 L.ents) EB]
  have O:lk (Dsk.crash d D).fs Led.logn=some ⟨FZ b0 L.ents++x.take j,k+d % ((FZ b0 L.ents++x).length-k+1)⟩:=by rw[NO,h1,Br,hj]
  rcases h3 with rfl|⟨rfl,b,hb,rfl⟩
  ·exact⟨L.ents,[],⟨rfl,r,h.bs,.inr ⟨_,by rw[List.take_nil]at O;exact O⟩,.inl rfl,h.st,h.h0,z,h.tok⟩,Cj _⟩
  ·by_cases hw:j<(EG (Led.ent (L.base+↑L.ents.length+1) (F0 b))).length
   ·have h9:=Lr (L.base+↑L.ents.length+1) (F0 b);have h8:=Ya hb;exact⟨L.ents,_,⟨rfl,r,h.bs,.inr ⟨_,O⟩,.inr ⟨_,j,by omega,hw,rfl⟩,h.st,h.h0,z,h.tok⟩,Cj _⟩
   ·rw[Ay EB,<-QW,<-List.append_nil (FZ _ _)]at O;obtain⟨bs,b1,Z⟩:=h.bs;refine⟨L.ents++[F0 b],[],⟨rfl,r,⟨bs++[b],by rw[b1,AH];rfl,λy J=>?_⟩,.inr ⟨_,O⟩,.inl rfl,.inl rfl,h.h0,z,h.tok⟩,by rw[Aa];exact Ab _⟩;rcases Aw.1 J with J|J
    ·exact Z y J
    ·rw[Ah.1 J];exact hb
theorem Xyw {x:EC}(h:KF x):∃e,e≠0/\Ge x=([],0,e):=by
 rcases h with rfl|⟨y,j,hy,hj,rfl⟩
 ·exact⟨2,by decide,rfl⟩
 ·have O:((EG y).take j).length=j:=by rw[A5];omega
  rw[Jm]at hj;unfold Ge
  by_cases h8:j<8
  ·rw[if_pos EB];exact⟨2,by decide,rfl⟩
  rw[if_neg EB];have r:((EG y).take j).take 8=Hq (AL y.length):=by
   rw[List.take_take,show min 8 j=8 by omega];unfold EG;rw[A7,List.take_append_of_le_length (by rw[JE];omega),Ay (by rw[JE];omega)]
  have J:Gp ((EG y).take j)=AL y.length:=by
   have z:(EG y).take j=Hq (AL y.length)++((EG y).take j).drop 8:=by rw[<-r,List.take_append_drop]
   rw[z];unfold Hq;rw[A7];exact Q7 _ _
  have hn:(AL y.length).toNat=y.length:=by rw[UInt32.toNat_ofNat'];exact Nat.mod_eq_of_lt EB
  rw[r,J,hn,O,if_neg (λh=>h rfl),if_neg EB,if_pos EB];exact⟨2,by decide,rfl⟩
theorem X1v (ps:List EC)(x9:EC)(v:Value)(w:World)(hv:EQ EO 1 w v (ps.flatMap EG++x9))(ha:KF x9)(hp:∀p∈ps,p.length<=1048576)(hbl:(ps.flatMap EG++x9).length<=2001000020)(hpl:ps.length<=1000000) :
  Calls Tryz.prog 191 [v].toArray w (ES w (λu w'=>∃vr qs,u=.tuple #[vr,I ↑(ps.flatMap EG).length]/\qs.map (·.2)=ps/\Vc.Own Lq 1 82 w.heap.size w' vr qs/\RsE w.heap.size qs w')):=by
 refine cw Tryz.func191 ?_;have O:=ED.refl w;have hZl:(ps.flatMap EG++x9).length=(ps.flatMap EG).length+x9.length:=Aa;refine ws λ_ Z1=>wr (da (da (de Z1 (ws λ_ Z2=>wr (da (de Z2 (ws λ_ Z3=>wr (da (de Z3 (ws λ_ Z4=>EM ?_))))))))));refine Fq (G:=Nat×List (Value×EC)×Value) (λ(k,qs,vr)=>[(0,v),(2,.slice none 0 0),(3,I 0),(4,vr),(5,I ↑((ps.take k).flatMap EG).length)]) (λ(k,qs,vr) w'=>ED w w'/\k<=ps.length/\qs.map (·.2)=ps.take k/\Vc.Own Lq 1 82 w.heap.size w' vr qs/\RsE w.heap.size qs w') (λ(k,qs,vr)=>ps.length-k) (0,[],.slice none 0 0) ?_ ?_ ?_
 ·exact FN
 ·exact⟨O,Ae _,rfl,Vc.Own.nil,⟨λq hq=>(by cases hq)⟩⟩
 intro X1 g1 w1 h5;obtain⟨k,qs,vr⟩:=g1;clear O;obtain⟨O,hw,Y,r,Z⟩:=h5;refine ws λ_ Z5=>ws λ_ Z6=>wr (dm (dm ?_));refine dv 5 1 (hv.ext O).sl (dp (Fb rfl rfl) (de Z6 (wi (λc1=>?_) λc1=>?_)))
 ·have hg:=Rh ps k;have hh:(ps.flatMap EG++x9).drop ((ps.take k).flatMap EG).length=(ps.drop k).flatMap EG++x9:=by rw[List.drop_append_of_le_length hg,Xym]
  obtain⟨z9,hz9⟩:∃z,z=(ps.drop k).flatMap EG++x9:=⟨_,rfl⟩;have hA:EQ EO 1 w (G7 1 v ((ps.take k).flatMap EG).length (ps.flatMap EG++x9).length) z9:=by
   have:=hv.slice (lo:=((ps.take k).flatMap EG).length) (hi:=(ps.flatMap EG++x9).length) EB (Ab _);rwa [AI,hh,<-hz9]at this
  have hAl:z9.length<=2001000020:=by have h9:=congrArg AC hh;rw[List.length_drop,<-hz9]at h9;omega
  have hj:∀p,ps[k]?=some p->Ge z9=(p,((p.length+12:Nat):Int),0):=λp hk=>by rw[hz9,Jd hk,AB,A7];exact S9 p _ (hp p (Ak hk))
  have hz:k=ps.length->(Ge z9).2.2≠0:=λhk=>by
   obtain⟨e,he,h9⟩:=Xyw ha;rw[hz9,hk,List.drop_length,List.flatMap_nil,AE,h9];exact he
  have hr:=congrArg AC Y;rw[Ao,A5]at hr;refine EI (Z5 _ _ (EM (ws λ_ Z7=>wr (dm (dm ?_)))));refine dp (IS (e:=5) (k:=1) EA (hv.ext O).sl rfl rfl rfl (show((ps.take k).flatMap EG).length<=(ps.flatMap EG++x9).length by omega) (Ab _)) (cG (Wg _ _ _ (hA.ext O) EB) RX.all λu2 w2 x2 h7=>?_);have hl:=O.size;have r:=r.ext x2;have Z:=Z.ext x2;have O:=O.trans x2;obtain⟨vp,rfl,hf⟩:=h7;have J:Vc.Own EO 1 5 w.heap.size w2 vp (Ge z9).1:=hf.mono hl;refine dm ?_;refine dx rfl rfl (dx rfl rfl (dx rfl rfl (da (da (da (de Z7 (ws λ_ Z8=>ws λ_ Z9=>wr (dm ?_))))))));refine dp (FH rfl rfl) (de Z9 (wi (λc2=>?_) λc2=>?_))
  ·have hb:k=ps.length:=AP λhn=>by
    have hk:ps[k]?=some ps[k]:=List.getElem?_eq_getElem EB;rw[hj _ hk]at c2;exact absurd rfl c2
   subst hb;refine Fk (Z4 _ _ (ws λ_ h8=>wr (dm (dm (da (da (de h8 (EJ ?_))))))));refine rt ?_;rw[AI]at Y;exact⟨_,rfl,O,vr,qs,by rw[AI],Y,r,Z⟩
  have hkl:k<ps.length:=AP λhn=>hz EB (by omega);obtain⟨p,hk⟩:∃p,ps[k]?=some p:=Fw;have hp9:=hp p (Ak hk);have hst:=W6 hk;have hd:=hj p hk;have hsl:=Rh ps (k+1);rw[hd]at J;dsimp only at J;refine EI (Z8 _ _ (ws λ_ h6=>wr (dm (dm ?_))));refine It (e:=82) (sz:=1) (zs:=[.slice none 0 0]) (pv:=[(0,?a21_0)]) (cs:=[?a21_0]) rfl EA ⟨rfl,rfl⟩ EA rfl ?h21 ?f21 RX.all (λb1 w3 e1 x3 m1=>?k21)
  case h21=>refine⟨rfl,?_,trivial⟩<;>(conv=>lhs;whnf)
  case f21=>simp [H7,EY,Ax,J.sl.cells]
  have g1:=O.ge e1;have o1_hoQ:=r.ltb e1;have o1_hoP:=J.ltb e1;have r:=r.ext x3;have Z:=Z.ext x3;have J:=J.ext x3;have O:=O.trans x3;refine Hy (lx:=[(vp,p)]) (e:=82) (sz:=1) (by':=24) rfl EA EA EF r (m1.arr (enc:=Lq) (sz:=1) (l:=[(vp,p)]) rfl EF rfl (Av rfl)) rfl rfl (by intro x ha u hu;rw[Ah.1 ha]at hu;rw[Ah.1 hu];exact J.sl.one) (by simp;omega) EN O.size (.inl rfl) (λht w4 hc x4=>?_);have Z:=Z.mod x4 (by exact Z.ne r rfl);have J:=J.mod x4 (by exact(λk hk=>J.ne r rfl hk));have O:=O.own x4 (λi hi=>(r.lt i hi).1);have r:=hc;clear m1;refine da (de h6 (wr (dm (dm ?_))));refine EW (v:=I ↑((ps.take (k+1)).flatMap EG).length) rfl (Gy rfl rfl (by rw[hd];dsimp only;unfold EU;omega)) (by show I _=I _;rw[hd];dsimp only;congr 1;omega) (da (EH (?_)));exact⟨(k+1,qs++[(vp,p)],ht),FN,⟨O,by omega,by rw[AH,Y,G1 hk];rfl,r,Z.snoc J⟩,by simp only [];omega⟩
 have hb:=X7k (ps:=ps) (k:=k) EB hw;subst hb;refine Fk (Z4 _ _ (ws λ_ hy=>wr (dm (dm (da (da (de hy (EJ ?_))))))));refine rt ?_;rw[AI]at Y;exact⟨_,rfl,O,vr,qs,by rw[AI],Y,r,Z⟩
theorem LG (x:UInt8):(EO x).length=1:=rfl
attribute [local irreducible] Jh
theorem Ybh (F:Nat->Prop)(bd mf:Nat)(es:List Fm)(D:Dsk)(n:Int)(w:World)(h:DiskE F bd mf es D w)(hn0:0<=n)(hn1:n<=9223372036854775807) :
  Calls Tryz.prog 25 [EE bd 0,I n].toArray w (Ff (ET bd) w (λu w'=>DiskE F bd mf es { D with fused:=true,left:=n } w')):=by
 refine cw Tryz.func25 ?_;have r:=ED.refl w;have hd:=h.m;refine ws λ_ O=>wr (dm ?_);refine dp (Nt EA rfl rfl) (de O (wi (λz=>?_) λz=>?_))
 ·refine wr (dm (dm (dm ?_)));refine dp (IA rfl rfl) (dm ?_);refine dp (NN rfl rfl) (dz rfl (df 2 rfl (G4 (hd.ext r) (λw1 Y xs1 hd=>?_))));dsimp only [EY,Af,Ad,Ag]at hd;have r:=(r.mod Y).mono (λi hi _=>(hi:(ET bd) i));refine dz rfl (df 3 rfl (G4 hd (λw2 J xs2 hd=>?_)));dsimp only [EY,Af,Ad,Ag]at hd;have r:=r.own J (λi hi _=>hi);refine EH ((HH (Hh rfl ?_)));have e1:max 0 n=n:=Int.max_eq_right hn0;have e2:decide (0<=n)=true:=decide_eq_true hn0;simp only [ge_iff_le,e1,e2]at hd;exact⟨_,rfl,r,h.head r hd rfl ⟨h.wf.room0,h.wf.room1,h.wf.used,hn0,hn1,h.wf.name,h.wf.lasts,h.wf.nd,h.wf.cnt⟩⟩
 exact absurd z ER
theorem X7z (F:Nat->Prop)(bd:Nat)(D:Dsk)(s:EC)(f:Fil)(n:Nat)(w:World)(h:FSq F bd D w)(hs:1<=s.length/\s.length<=64)(hfu:D.fused=false)(hlk:lk D.fs s=some f)(hn:n<=f.data.length) :
  Calls Tryz.prog 193 [EE bd 0,S s,I ↑n].toArray w (Ff F w (λu w'=>u=I 0/\FSq (Gx F w w') bd ({ D with fs:=EZ D.fs s ⟨f.data.take n,min f.lasts n⟩ }) w')):=by
 refine cw Tryz.func193 ?_;have O:=Vc.Mod.refl F w;obtain⟨mf,es,z⟩:=h;have hb:=z.lt;have hd:=z.m;have Y:=z.map.at;have ht:D.may [s]=0:=MM hfu (by simpa using hs);have hr:s.length<=maxLen:=by unfold maxLen;omega
 have hc:¬ (D.fused=true/\D.left=0):=λe=>by rw[hfu]at e;cases e.1
 obtain⟨e,he,hef⟩:∃e,fe es s=some e/\e.f=f:=by
  have h9:=hlk;rw[z.look]at h9;exact Bb.1 h9
 subst hef;obtain⟨J,hq⟩:=Nw he;subst hq;have r:=(z.el e J).1;have ho:=(z.el e J).2;have Z:=ho.ne_blk r rfl;have hdl:=z.data J;have hll:=z.lasts J;have hf:=z.old J;have hg:Dsk.Wf { D with fs:=EZ D.fs e.name ⟨e.f.data.take n,min e.f.lasts n⟩ }:=by
  refine z.wf.set hs (by show min e.f.lasts n<=(e.f.data.take n).length;rw[A5];omega) ?_ (.inl (by rw[hlk];rfl));have h9:=z.wf.used;rw[hf];show(D.used:Int)+((e.f.data.take n).length:Int)<=_;rw[A5];omega
 refine ws λ_ Z1=>wr (da (de Z1 (ws λ_ Z2=>ws λ_ Z3=>wr (dm (dm ?_)))));refine li (e:=9) (sz:=1) (zs:=[S []]) (pv:=[(0,_)]) (cs:=[_]) RX.all (λb1 w1 e1 x1 m1=>?_);have g1:=O.ge e1;have a1_hE:=z.lt;have a1_hd:=hd.lt;have a1_hfb:=r.lt;have z:=z.ext x1;have hd:=hd.ext x1;have Y:=Y.ext x1;have r:=r.ext x1;have ho:=ho.ext x1;have O:=O.ext x1;refine cP (OM bd mf D [e.name] _ _ hd (K6 m1) ER) RX.all λw2 x2=>?_;have z:=z.ext x2;have hd:=hd.ext x2;have Y:=Y.ext x2;have r:=r.ext x2;have ho:=ho.ext x2;have m1:=m1.ext x2;have O:=O.ext x2;refine da (de Z3 (ws λ_ Z4=>wr (dm ?_)));refine dp (FH rfl rfl) (de Z4 (wi (λc1=>?_) λc1=>?_))
 ·exact absurd ht c1
 refine EI (Z2 _ _ (ws λ_ Z5=>wr (dm ?_)));refine dz rfl (df 1 rfl (dl rfl (hd.at rfl) (dm ?_)));refine dq (Np rfl rfl Y hr) ?_;rw[he];have hj:=O.size;refine da (de Z5 (ws λ_ Z6=>EM (ws λ_ Z7=>wr (dm ?_))));refine dp (Gi EA rfl rfl) (da (de Z7 ?_));refine wi (λc2=>?_) λc2=>?_
 ·cases c2
 refine ws λ_ Z8=>wr (dm ?_);refine dp (Fb rfl rfl) (dm ?_);refine F4 28 rfl (λc3=>?_) (λc3=>?_)
 ·omega
 iterate 2 refine dm ?_
 refine dz rfl (df 0 rfl (dl rfl (r.at rfl) (dv 5 1 (ho.arr EF).sl (dp (Gg rfl rfl) (EP ?_)))));refine da (de Z8 ?_);refine wi (λc4=>?_) λc4=>?_
 ·omega
 refine EI (Z6 _ _ (ws λ_ Z9=>wr (dm (dm ?_))));refine dz rfl (df 0 rfl (dl rfl (r.at rfl) (dm (dm ?_))));refine dp (Wu (e:=5) (k:=1) EA ho.sl rfl rfl rfl hn) (dz rfl (df 0 rfl (G4 r (λw3 x3 xs3 r=>?_) (hv:=by exact(ho.cut LG hn).sl.one))));dsimp only [EY,Af,Ad,Ag]at r;have ho:=ho.mod x3 (λk hk h=>Z (by have h2:k=e.b:=h;rw[hk,h2]));have m1:=m1.mo x3;have O:=O.own x3 (λi hi _=>(z.foot_F J (.inl hi)));refine de Z9 (ws λ_ hz=>wr ?_);have hl:=x3
 iterate 2 refine dm ?_
 refine dz rfl (df 1 rfl (dl rfl (r.at rfl) (dm ?_)));refine EW (v:=I ↑(min e.f.lasts n)) rfl (Rn rfl rfl) (by show I _=I _;congr 1;omega) (dz rfl (df 1 rfl (G4 r (λw4 x4 xs4 r=>?_) (hv:=by rfl))));dsimp only [EY,Af,Ad,Ag]at r;have ho:=ho.mod x4 (λk hk h=>Z (by have h2:k=e.b:=h;rw[hk,h2]));have O:=O.own x4 (λi hi _=>(z.foot_F J (.inl hi)));refine de hz (ws λ_ hw=>wr ?_);have hp:=x4;refine dm ?_;have hy:=ho.cut LG hn;have h5:=z.file (v:=Jh e.v n) (f:=⟨e.f.data.take n,min e.f.lasts n⟩) J (hl.own hp (λi hi _=>hi)) (λk hk _=>.inl hk) r hy (.inl (S1 ho.sl)) hg;refine cD (O7 _ bd mf _ _ _ h5 hc) (.inl rfl) λu5 w5 x5 hh=>?_;have hsz5:=O.size;have O:=O.own x5 (λi hi hlt=>z.inF i (.inl hi));obtain⟨rfl,ha⟩:=hh;refine da (de hw (EJ ?_));refine ro ?_;refine⟨_,rfl,O,rfl,?_⟩;rw[MG (by exact hfu)]at ha;exact FSq.to (G:=Gx F _ _) ⟨_,_,ha⟩ (Lx hj) (λk hk=>Az (hb k hk) O.size)
structure Chg (b:Nat)(w w':World):Prop where
 m:Vc.Mod (ET b) w w'
theorem Chg.mod {b:Nat}{S:Nat->Prop}{w w1 w2:World}(h:Chg b w w1)(m:Vc.Mod S w1 w2)(hS:∀k,S k->k=b):Chg b w w2:=⟨h.m.own m (λi hi _=>hS i hi)⟩
theorem Chg.ext {b:Nat}{w w1 w2:World}(h:Chg b w w1)(m:ED w1 w2):Chg b w w2:=h.mod m (λ_ h=>h.elim)
def Lz (d:Nat)(e:Fm):Fm:=⟨e.name,e.b,Jh e.v (G6 d e.f).lasts,G6 d e.f⟩
def E2 (d:Nat)(rem es:List Fm):List Fm:=es.map λq=>if q.name∈rem.map (·.name)then q else Lz d q
theorem TK {d:Nat}{rem es:List Fm}{e:Fm}(he:e∈rem)(hi:e∈es):e∈E2 d rem es:=Aq.2 ⟨e,hi,if_pos (Bx he)⟩
theorem Xl {d:Nat}{es:List Fm} : E2 d es es=es:=by
 unfold E2
 conv=>rhs;rw[<-List.map_id es]
 refine Bv λq r=>?_;rw[if_pos (Bx r)];rfl
theorem X70 {d:Nat}{es:List Fm} : E2 d [] es=es.map (Lz d):=by
 unfold E2;refine Bv λq hq=>?_;rw[if_neg ER]
theorem Ycn {es:List Fm}(hnd:(es.map (·.name)).Nodup){a b:Fm}(ha:a∈es)(hb:b∈es)(h:a.name=b.name):a=b:=by
 induction es with
 | nil=>cases ha
 | cons q r ih=>
  rw[An,AV]at hnd;rcases Aj.1 ha with rfl|ha
  ·rcases Aj.1 hb with rfl|hb
   ·rfl
   ·exact(hnd.1 (Aq.2 ⟨b,hb,h.symm⟩)).elim
  ·rcases Aj.1 hb with hb|hb
   ·exact(hnd.1 (Aq.2 ⟨a,ha,by rw[h,hb]⟩)).elim
   ·exact ih hnd.2 ha hb
theorem X71 {d:Nat}{rem es:List Fm}{e:Fm}(hnd:(es.map (·.name)).Nodup)(he:e∈rem)(hi:e∈es):GX (E2 d rem es) e.name (Lz d e)=E2 d (rem.filter λq=>decide (q.name≠e.name)) es:=by
 have h1:(fe (E2 d rem es) e.name).isSome=true:=NX.2 (Bx (f:=λq:Fm=>q.name) (TK (d:=d) he hi));unfold GX;rw[if_pos h1];unfold E2;rw[Bf];refine Bv λq r=>?_;simp only [Function.comp];have hn:(if q.name∈rem.map (·.name)then q else Lz d q).name=q.name:=by split<;>rfl
 rw[hn]
 by_cases h2:q.name=e.name
 ·have h3:=Ycn hnd r hi h2;subst h3;rw[if_pos rfl,if_neg];intro h4;exact(NT.2 h4).2 rfl
 ·rw[if_neg h2]
  by_cases h3:q.name∈rem.map (·.name)
  ·rw[if_pos h3,if_pos (NT.1 ⟨h3,h2⟩)]
  ·rw[if_neg h3,if_neg (λh4=>h3 (NT.2 h4).1)]
section
variable {F:Nat->Prop}{bd mf:Nat}{es:List Fm}{D:Dsk}{w:World}
theorem DiskE.chg (_:DiskE F bd mf es D w)(b:Nat):Chg b w w:=⟨Vc.Mod.refl _ _⟩
@[reducible] def D2 (d:Nat) (rem es:List Fm) (D:Dsk):Dsk:={ D with fs:=(E2 d rem es).map Fm.df }
theorem DiskE.all (h:DiskE F bd mf es D w)(d:Nat):DiskE F bd mf (E2 d es es) (D2 d es es D) w:=by
 have e:D2 d es es D=D:=by unfold D2;rw[Xl,<-h.fs]
 rw[e,Xl];exact h
theorem X1w (h:DiskE F bd mf es D w)(d:Nat):{ D2 d [] es D with fused:=false } = Dsk.crash d D:=by
 unfold D2 Dsk.crash;rw[X70,h.fs,Bf,Bf];rfl
end
theorem Ybj (d:Nat)(f:Fil)(h:f.lasts<=f.data.length):(G6 d f).lasts<=f.data.length/\(G6 d f).data.length=(G6 d f).lasts/\(G6 d f).lasts=f.lasts+d % (f.data.length-f.lasts+1):=by
 have h1:d % (f.data.length-f.lasts+1)<f.data.length-f.lasts+1:=Nat.mod_lt _ EB;have h2:(G6 d f).lasts=f.lasts+d % (f.data.length-f.lasts+1):=rfl;have h3:(G6 d f).data=f.data.take (f.lasts+d % (f.data.length-f.lasts+1)):=rfl;refine⟨by omega,?_,h2⟩;rw[h3,A5];omega
theorem X72 (F:Nat->Prop)(bd:Nat)(D:Dsk)(n:Int)(w:World)(h:FSq F bd D w) :
  Calls Tryz.prog 26 [EE bd 0,I n].toArray w (Ff F w (λu w'=>FSq (Gx F w w') bd (Dsk.crash (max 0 n).toNat D) w')):=by
 refine cw Tryz.func26 ?_;have hx:=Vc.Mod.refl F w;obtain⟨mf,es,J⟩:=h;have hb:=J;have hj:=J.lt;have hd:=J.m;have hw:=J.map.at;have xm:∀e∈es,fe es e.name=some e:=λe he=>hb.fe_in he;have xb:∀e∈es,F e.b:=λe he=>hb.foot_F he (.inl rfl);have xg:F bd:=hb.inF bd (.inl rfl);have xl:=hb.nd;obtain⟨d,hd0⟩:∃d:Nat,max 0 n=↑d:=⟨(max 0 n).toNat,by omega⟩;have xw:(max 0 n).toNat=d:=by omega
 refine ws λ_ Z1=>ws λ_ Z2=>wr (dm ?_);refine dp (Gi EA rfl rfl) (de Z2 (wi (λc1=>?_) λc1=>?_))
 ·exact absurd c1 ER
 refine EI (Z1 _ _ (ws λ_ Z3=>ws λ_ Z4=>wr (dm ?_)));refine dz rfl (df 1 rfl (dl rfl (hd.at rfl) (S2 GR rfl rfl hw RX.all (λb1 w1 h7 e1 x1 hcn1 z=>?_))));have g1:=hx.ge e1;have a1_hE:=J.lt;have a1_hd:=hd.lt;have J:=J.ext x1;have hd:=hd.ext x1;have hx:=hx.ext x1;refine de Z4 (EM ?_);refine Fq (G:=List Fm×(Nat->Prop)×Nat) (λ(rem,F2,cnt)=>[(0,EE bd 0),(1,I n),(13,EE b1 0)]) (λ(rem,F2,cnt) w'=>Mod F w w'/\Vc.Xb2 Tryz.prog 9 S pO w' mf b1 (es.map Fm.kv).length (lk (es.map Fm.kv)) (λx=>x∈rem.map (·.name)) cnt/\(rem.map (·.name)).Nodup/\(∀e∈rem,e∈es)/\DiskE F2 bd mf (E2 d rem es) (D2 d rem es D) w'/\(∀i,F2 i->F i\/w.heap.size<=i)/\¬ F2 b1) (λ(rem,F2,cnt)=>cnt) (es,F,h7) ?_ ?_ ?_
 ·exact Hd
 ·exact⟨hx,z.congr (λx=>by rw[M1,Option.isSome_map];exact NX),hb.nd,λe he=>he,J.all d,λi hi=>.inl hi,λe9=>by have:=hj b1 e9;omega⟩
 intro X2 g2 w2 xv;obtain⟨rem,F2,cnt⟩:=g2;clear hx J hd hw z;obtain⟨hx,z,xu,ht,J,hh,hc⟩:=xv;refine ws λ_ Z5=>wr ?_;refine Uh GR rfl rfl z (.inl rfl) (λxx=>?_) (λx a w3 xc hok xk h8 xf xs3 xe hr hz=>?_)
 ·refine dx rfl rfl (de Z5 (ws λ_ Z6=>Hf rfl (Fk (Z3 _ _ (wr ?_)))));have Y:=J;have hp:=J.chg bd;have hd:=J.m;have xo:¬ mf=bd:=λe9=>J.map.at.ne_blk J.m e9.symm;have xr:¬ b1=bd:=λe9=>hc (e9▸J.inF bd (.inl rfl));refine dm ?_;refine dz rfl (df 2 rfl (G4 hd (λw4 x4 xs4 hd=>?_) (hv:=by rfl)));dsimp only [EY,Af,Ad,Ag]at hd;have z:=z.mod x4 (by intro h;have h2:_=bd:=h;omega) (by intro h;have h2:_=bd:=h;omega);have hp:=hp.mod x4 (λk hk=>hk);have hx:=hx.own x4 (λi hi _=>(by have e2:i=bd:=hi;rw[e2];exact xg));refine EH ((HH (Hh rfl ?_)));have xq:rem=[]:=by
   cases rem with
   | nil=>rfl
   | cons q r=>exact absurd (Aq.2 ⟨q,Al,rfl⟩) (xx q.name (by have:=hb.name (ht q Al);unfold maxLen;omega))
  have h6:=Y.head (D':={ D2 d rem es D with fused:=false }) hp.m hd rfl ⟨Y.wf.room0,Y.wf.room1,Y.wf.used,Y.wf.left0,Y.wf.left1,Y.wf.name,Y.wf.lasts,Y.wf.nd,Y.wf.cnt⟩;rw[xq,X1w hb d]at h6;rw[xw];exact⟨_,rfl,hx,FSq.to ⟨_,_,h6⟩ hh (λk hk=>Az (hj k hk) hx.size)⟩
 have J:=J.mod xf (λk hk e9=>hc (by have e8:k=b1:=e9;rw[<-e8];exact hk));have hx:=hx.own xf (λi hi xe=>by have xj:i=b1:=hi;subst xj;omega);have z:=hr;obtain⟨e,he,rfl⟩:=Aq.1 xk;have hf:=ht e he;rw[M1,xm e hf]at h8
 cases h8
 have Z:e∈E2 d rem es:=TK he hf;obtain⟨_,hlen,xh⟩:=SZ he xu;refine dx rfl rfl (de Z5 (ws λ_ Z7=>GS rfl (EI (Z7 _ _ (EM (ws λ_ Z8=>wr (dq (Xg rfl hz) (dx rfl rfl ?_))))))));have xn:=J;have ha:=J.chg e.b;have hszE:=hx.size;have hrE:=z.lt;have O:=(J.el e Z).1;have ho:=(J.el e Z).2;have hg:=ho.ne_blk O rfl;have xo:¬ mf=e.b:=λe9=>J.foot_mf Z (.inl e9);have xr:¬ b1=e.b:=λe9=>hc (e9▸J.foot_F Z (.inl rfl));have hdl:=J.data Z;have xp:=J.lasts Z;obtain⟨hl,h5,hze⟩:=Ybj d e.f xp;have xa:=J.old Z;have xd:Dsk.Wf { D2 d rem es D with fs:=EZ (D2 d rem es D).fs e.name (G6 d e.f) }:=by
  refine J.wf.set (J.name Z) (by rw[h5];exact Ab _) ?_ (.inl (by rw[J.look,J.fe_in Z];rfl));have h9:=J.wf.used;rw[xa,h5];omega
 refine da (de Z8 (ws λ_ Z9=>?_));refine F9 (R:=ED) ED.refl (λ_ _ _=>ED.trans) EA [3,9,14] [(0,.p,false),(1,.p,false),(2,.p,false),(3,.l,false),(4,.p,false),(5,.p,false),(6,.p,false),(7,.p,false),(8,.p,false),(9,.l,false),(10,.p,false),(11,.p,false),(12,.p,false),(13,.p,false),(14,.l,false),(15,.p,false),(16,.p,false),(17,.p,false),(18,.p,false),(19,.p,false)] rfl EA EA (λw5 hy=>?_);have x5:=EL hy;clear hy;have z:=z.ext x5;have ha:=ha.ext x5;have O:=O.ext x5;have ho:=ho.ext x5;have hx:=hx.ext x5;refine dm ?_;refine dz rfl (df 1 rfl (dL rfl (λ_ hR=>((O.ext hR).at rfl)) (dm ?_)));refine EW (v:=I ↑d) rfl (NN rfl rfl) (by show I _=I _;rw[hd0]) (dm ?_);refine dz rfl (df 0 rfl (dL rfl (λ_ hR=>((O.ext hR).at rfl)) (dv 5 1 (ho.arr EF).sl (dm ?_))));refine dz rfl (df 1 rfl (dL rfl (λ_ hR=>((O.ext hR).at rfl)) (ps rfl rfl (EW (v:=I ↑(e.f.data.length-e.f.lasts+1)) rfl (Gy rfl rfl (by unfold EU;omega)) (by show I _=I _;congr 1;omega) (EW (v:=I ↑(d % (e.f.data.length-e.f.lasts+1))) rfl (Ot rfl rfl EB EB) rfl (EW (v:=I ↑(G6 d e.f).lasts) rfl (Gy rfl rfl (by unfold EU;omega)) (by show I _=I _;rfl) (da (de Z9 (wr (dm (dm (dm ?_))))))))))));refine dz rfl (df 0 rfl (dl rfl (O.at rfl) (dm (dm ?_))));refine dp (Wu (e:=5) (k:=1) EA ho.sl rfl rfl rfl hl) (dm ?_);refine dz rfl (df 0 rfl (G4 O (λw6 x6 xs6 O=>?_) (hv:=by exact(ho.cut LG hl).sl.one)));dsimp only [EY,Af,Ad,Ag]at O;have z:=z.mod x6 (by intro h;have h2:_=e.b:=h;omega) (by intro h;have h2:_=e.b:=h;omega);have ha:=ha.mod x6 (λk hk=>hk);have ho:=ho.mod x6 (λk hk h=>hg (by have h2:k=e.b:=h;rw[hk,h2]));have hx:=hx.own x6 (λi hi _=>(by have e2:i=e.b:=hi;rw[e2];exact xb e hf));refine dz rfl (df 1 rfl (G4 O (λw7 x7 xs7 O=>?_) (hv:=by rfl)));dsimp only [EY,Af,Ad,Ag]at O;have z:=z.mod x7 (by intro h;have h2:_=e.b:=h;omega) (by intro h;have h2:_=e.b:=h;omega);have ha:=ha.mod x7 (λk hk=>hk);have ho:=ho.mod x7 (λk hk h=>hg (by have h2:k=e.b:=h;rw[hk,h2]));have hx:=hx.own x7 (λi hi _=>(by have e2:i=e.b:=hi;rw[e2];exact xb e hf));refine EH (?_);have xi:=xn.file (v:=Jh e.v (G6 d e.f).lasts) (f:=G6 d e.f) Z ha.m (λk hk _=>.inl hk) O (ho.cut LG hl) (.inl (S1 ho.sl)) xd;have e5:GX (E2 d rem es) e.name ⟨e.name,e.b,Jh e.v (G6 d e.f).lasts,G6 d e.f⟩=E2 d (rem.filter λq=>decide (q.name≠e.name)) es:=X71 xl he hf;have e6:EZ (D2 d rem es D).fs e.name (G6 d e.f)=(E2 d (rem.filter λq=>decide (q.name≠e.name)) es).map Fm.df:=by rw[<-e5];exact(TF (e:=⟨e.name,e.b,Jh e.v (G6 d e.f).lasts,G6 d e.f⟩) rfl).symm
 rw[e5,e6]at xi;have hr9:=z.lt;exact⟨(rem.filter (λq=>decide (q.name≠e.name)),_,xc),Hd,⟨hx,z.congr (λy=>NT),xh,λq hq=>ht q (A3.1 hq).1,xi,λi hi=>hi.elim (hh i) (λh9=>.inr EB),λe9=>e9.elim hc (λh9=>by omega)⟩,xe⟩
structure LedC (L:Led)(b0:Int)(x:EC)(D:Dsk):Prop where
 fu:D.fused=false
 im:J0 D L.base L.data
 lo:(lk D.fs Led.logn=none/\L.ents=[])\/∃k,lk D.fs Led.logn=some ⟨FZ b0 L.ents++x,k⟩
 xt:KF x
 st:b0=L.base\/b0+L.ents.length=L.base
 h0:0<=b0
 bb:0<=L.base
 lb:L.base<=1099511627776
 la:b0+L.ents.length<=1099511627776
 dl:L.data.length<=524288
 el:∀e∈L.ents,e.length<=65536
 ec:L.ents.length<=1000
@[reducible] def LC (L:Led) (b0:Int):Led:=⟨L.base,L.data,if b0=L.base then L.ents else[],false⟩
theorem X73 {D:Dsk}{n:EC}(h:D.fused=false)(hn:1<=n.length/\n.length<=64):∃D',Dsk.rems [n] D=(0,D')/\D'.fused=false/\D'.has n=false/\∀m,m≠n->lk D'.fs m=lk D.fs m:=by
 by_cases r:D.has n=true
 ·refine⟨D.gone n,?_,h,?_,λm hm=>by unfold Dsk.gone;rw[KY,if_neg hm]⟩
  ·unfold Dsk.rems;rw[if_pos r,RO h ⟨hn,r⟩,if_neg ER];rfl
  ·unfold Dsk.has Dsk.gone;rw[KY,if_pos rfl];rfl
 ·have r:D.has n=false:=by simpa using r
  exact⟨D,by rw[S4 r];rfl,h,r,λ_ _=>rfl⟩
theorem J0.to {D D':Dsk}{i:Int}{p:EC}(h:J0 D i p)(e:lk D'.fs Led.img=lk D.fs Led.img):J0 D' i p:=by
 unfold J0 at *;rw[e];exact h
theorem X1x (G:Nat->Prop)(bt bl bd:Nat)(vd ve:Value)(vs:List (Value×EC))(L:Led)(last num:Int)(p:EC)(vp:Value)(w:World)(h:LedE G bl bd vd ve vs L w)(r:EK w bt [EE bl 0,I last] 270)(hbG:¬ G bt)(hp:EQ EO 1 w vp (Led.ent num p))(hpl:p.length<=65536)(hn1:1<=num)(hn2:num<=L.base)(hla:last=-1\/last+1=num) :
  Calls Tryz.prog 192 [EE bt 0,vp].toArray w (Ff (λk=>k=bt\/G k) w (λu w'=>u=B true/\EK w' bt [EE bl 0,I num] 270/\∃ve' vs',LedE (Gx G w w') bl bd vd ve' vs' L w')):=by
 refine cw Tryz.func192 ?_;have z:=Vc.Mod.refl (λk=>k=bt\/G k) w;have O:=h;have J:=h.m;have hc:=h.lt;have hy:=h.inG bl (.inl rfl);have hbne:bt≠bl:=λe=>hbG (e▸hy);have hblt:=J.lt;have hbtl:=r.lt;have hb0:=h.b0;have hle:L.last=L.base+↑L.ents.length:=rfl;have hnl:=Gj (num).toNat;have helen:=Lr (num) p;have hq:=Sb (num) p;have hr:=congrArg AC hq;simp only [Aa]at hr;have hb1:=h.b1;have hlb9:L.base<=1099511627776:=by have Y:=h.la;omega
 have hf:=h.lt;refine ws λ_ Z1=>wr (da (de Z1 (ws λ_ Z2=>wr (dm ?_))));refine cG (M6 (Led.ent (num) p) vp _ hp EB) RX.all λu1 w1 x1 h6=>?_;have hw:=z.size;have r:=r.ext x1;have O:=O.ext x1;have J:=J.ext x1;have z:=z.ext x1;obtain⟨br,bb,xb,rfl,hz,gbb,Z⟩:=h6;have hbrw:w.heap.size<=br:=Ai hw hz;rw[hq]at Z;refine da (de Z2 (ws λ_ Z3=>wr (dm ?_)));refine cD (KE br bb xb _ false _ Z (by simp only [Aa];omega)) (.inl rfl) λu2 w2 x2 h5=>?_;have hsz2:=z.size;have r:=r.mod x2 (λY=>by have h2:bt=br:=Y;omega);have O:=O.mod x2 (λk hk Y=>by have h2:k=br:=Y;have h8:=hc k hk;omega);have J:=J.mod x2 (λY=>by have h2:bl=br:=Y;omega);have z:=z.own x2 (λi hi hj=>absurd hj (Ba.2 ((by have h2:i=br:=hi;omega))));obtain⟨ha,xa,Z⟩:=h5;rw[JG _ _ EB]at ha Z;dsimp only at ha Z;rw[show(((num).toNat:Nat):Int)=num by omega]at ha;subst ha;refine dm ?_;refine cD (Kx br bb xa _ false _ Z (by simp only [Aa];omega)) (.inl rfl) λvB w3 x3 xc=>?_;have ht:=z.size;have r:=r.mod x3 (λY=>by have h2:bt=br:=Y;omega);have O:=O.mod x3 (λk hk Y=>by have h2:k=br:=Y;have h8:=hc k hk;omega);have J:=J.mod x3 (λY=>by have h2:bl=br:=Y;omega);have z:=z.own x3 (λi hi hj=>absurd hj (Ba.2 ((by have h2:i=br:=hi;omega))));obtain⟨hh,h7,Z⟩:=xc;rw[Ks _ _ _ EB]at hh Z;dsimp only at hh Z;have hB:=hh.mono ht;refine da (da (de Z3 ?_));refine Hz (G:=Unit) (λuu=>[(0,EE bt 0),(6,I (num)),(7,vB)]) (λuu w'=>Mod (λk=>k=bt\/G k) w w'/\EK w' bt [EE bl 0,I last] 270/\LedE G bl bd vd ve vs L w'/\EK w' bl [EE bd 0,S [115],I L.base,vd,ve,B L.dead] 147/\Vc.Own EO 1 5 w.heap.size w' vB p) ?_ ?_
 ·refine ws λ_ Z4=>wr (dm ?_);refine cP (PB br bb h7 [] false _ Z) RX.all λw4 x4=>?_;have r:=r.ext x4;have O:=O.ext x4;have J:=J.ext x4;have hB:=hB.ext x4;have z:=z.ext x4;refine dn (dm ?_);refine I5 17 rfl (λc1=>?_) (λc1=>?_)
  ·simp at c1
  refine dm ?_;refine dp (Fb rfl rfl) (EP ?_);refine dm ?_;refine F4 21 rfl (λc2=>?_) (λc2=>?_)
  ·omega
  refine dm ?_;refine dp (Gg rfl rfl) (EP ?_);refine dm ?_;refine F4 25 rfl (λc3=>?_) (λc3=>?_)
  ·omega
  refine dm ?_;refine dz rfl (df 1 rfl (dl rfl (r.at rfl) (dp (IA rfl rfl) (dm ?_))));refine F4 31 rfl (λc4=>?_) (λc4=>?_)
  ·iterate 2 refine dm ?_
   refine dz rfl (df 1 rfl (dl rfl (r.at rfl) (pa rfl rfl (dp (FH rfl rfl) (EP ?_)))));refine EP (de Z4 ?_);refine wi (λc5=>?_) λc5=>?_
   ·omega
   refine EI ?_;exact⟨(),Hd,z,r,O,J,hB⟩
  refine dk (dk (dk (dk (dk (dk (dk (EP ?_)))))));refine EP (de Z4 ?_);refine Hf rfl (EI ?_);exact⟨(),Hd,z,r,O,J,hB⟩
 intro X5 g5 w5 hg;revert hg;revert g5;intro uu hg;clear z r O J Z hB;obtain⟨z,r,O,J,hB⟩:=hg;refine ws λ_ Z5=>wr (dm (dm ?_));refine dz rfl (df 1 rfl (G4 r (λw6 x6 xs6 r=>?_) (hv:=by rfl)));dsimp only [EY,Af,Ad,Ag]at r;have O:=O.mod x6 (λk hk e=>by have h2:k=bt:=e;exact hbG (h2▸hk));have J:=J.mod x6 (by intro h;have h2:_=bt:=h;omega);have z:=z.own x6 (λi hi _=>(by exact .inl hi));refine de Z5 (ws λ_ Z6=>ws λ_ Z7=>wr (dm (dm ?_)));refine dz rfl (df 0 rfl (dl rfl (r.at rfl) (dz rfl (df 2 rfl (dl rfl (J.at rfl) (dp (IG rfl rfl) (de Z7 (wi (λc6=>?_) λc6=>?_))))))))
 ·refine ws λ_ Z8=>wr (da (de Z8 (EJ ?_)));refine ro ?_;exact⟨_,rfl,z,rfl,r,_,_,O.wide (λk hk=>.inl hk) (HT hf z.size)⟩
 omega
theorem X74 (H:Nat->Prop)(bl bd:Nat)(D:Dsk)(w:World)(h:JF H bl bd D w)(hfu:D.fused=false) :
  Calls Tryz.prog 115 [EE bl 0].toArray w (Ff H w (λu w'=>u=I 0/\∃D1,JF (Gx H w w') bl bd D1 w'/\D1.fused=false/\∀m,m≠Led.img++[126]->lk D1.fs m=lk D.fs m)):=by
 refine cw Tryz.func115 ?_;have z:=ED.refl w;obtain⟨F,G,hA,r,O,J,hf⟩:=h;have h00:JF H bl bd D w:=⟨F,G,hA,r,O,J,hf⟩;have hl:EK w bl [EE bd 0,S [115],I 0,.slice none 0 0,.slice none 0 0,B false] 147:=r.m;have hb:=r.lt;obtain⟨D1,hp,hh,hr3,hj⟩:=X73 (D:=D) (n:=Led.img++[126]) hfu EN;refine ws λ_ Z1=>wr (da (de Z1 (ws λ_ Z2=>?_)));refine F9 (R:=ED) ED.refl (λ_ _ _=>ED.trans) EA [3] [(0,.p,false),(1,.p,false),(2,.p,false),(3,.l,false),(4,.p,false),(5,.x,false),(6,.p,false),(7,.x,false),(8,.x,true),(9,.p,false)] rfl EA EA (λw1 hc=>?_);have x1:=EL hc;clear hc;have hl:=hl.ext x1;have r:=r.ext x1;have hA:=hA.ext x1;have z:=z.trans x1;refine dm ?_;refine dz rfl (df 0 rfl (dL rfl (λ_ hR=>((hl.ext hR).at rfl)) (dm ?_)));refine cP (Gq G bl bd _ _ _ Hs _ r) RX.ext λw2 x2=>?_;have r:=r.ext x2;have hA:=hA.ext x2;have z:=z.trans x2;refine dp (II rfl rfl EN) (li (e:=9) (sz:=1) (zs:=[S []]) (pv:=[(0,_)]) (cs:=[_]) RX.ext (λb1 w3 e1 x3 m1=>?_));have g1:=z.ge e1;have a1_hE:=r.lt;have Y:=hA.lt;have r:=r.ext x3;have hA:=hA.ext x3;have z:=z.trans x3;refine cD (Hr F bd D [Led.img++[126]] _ _ hA (K6 m1) ER (λ_ hF=>A6 b1 (AA (Y _ hF) e1.symm))) (.inl rfl) λu4 w4 x4 Z=>?_;have ha:=z.size;have r:=r.mod x4 (λk hk h=>O k h hk);have z:=(z.mod x4).mono (λi hi _=>(J i (.inl hi):H i));rw[hp]at Z;obtain⟨rfl,hA⟩:=Z;have hszA:=ha;refine da (de Z2 (EJ ?_));refine ro ?_;refine⟨_,rfl,z,rfl,D1,⟨_,G,hA,r,λk hk hg=>hk.elim (λh=>O k h hg) (λh=>by have:=hb k hg;omega),λk hk=>?_,HT hf z.size⟩,hh,hj⟩;rcases hk with(h|h)|h
 ·exact .inl (J k (.inl h))
 ·exact .inr ⟨by omega,hA.lt k (.inr h)⟩
 ·exact .inl (J k (.inr h))
theorem OD {F G:Nat->Prop}{w w':World}(h:∀j,G j->¬ F j)(hl:∀j,G j->j<w.heap.size):∀j,G j->¬ Gx F w w' j:=λj r e=>e.elim (h j r) (λh9=>by have:=hl j r;omega)
theorem setF {F:Nat->Prop}{bd:Nat}{D:Dsk}{n:EC}{f:Fil}{w:World}(hfu:D.fused=false)(h:FSq F bd { D with fs:=EZ D.fs n f } w):∃DT:Dsk,FSq F bd DT w/\DT.fused=false/\lk DT.fs n=some f/\∀m,m≠n->lk DT.fs m=lk D.fs m:=
 ⟨_,h,hfu,by rw[ID,if_pos rfl],λm hm=>by rw[ID,if_neg hm]⟩
theorem X75 {D:Dsk}{n:EC}{f:Fil}(hfu:D.fused=false)(hn:1<=n.length/\n.length<=64)(h:lk D.fs n=some f):∃D',D.sync [n]=(0,D')/\D'.fused=false/\D'.has n=true/\∀m,m≠n->lk D'.fs m=lk D.fs m:=by
 have hm:D.may [n]=0:=MM hfu (λs hs=>by rw[Ah.1 hs];exact hn);refine⟨{ D with fs:=EZ D.fs n ⟨f.data,f.data.length⟩ },?_,hfu,?_,λm hm=>by rw[ID,if_neg hm]⟩
 ·unfold Dsk.sync Dsk.each;rw[if_neg (by rw[hm];decide),if_neg (by rw[h];exact Bool.false_ne_true)];unfold Dsk.each Dsk.lastsA Dsk.old;rw[h,MG (by exact hfu)];rfl
 ·unfold Dsk.has;rw[ID,if_pos rfl];rfl
theorem Xyx : ∀(ps:List EC) (b:Int),FZ b ps=(ps.zipIdx.map λq:EC×Nat=>Led.ent (b+1+q.2) q.1).flatMap EG:=Xyp
theorem X1y (G:Nat->Prop)(bt bl bd:Nat)(vd ve:Value)(vs:List (Value×EC))(i b0:Int)(p e9:EC)(ents:List EC)(k:Nat)(vp:Value)(w:World)(hk:ents[k]?=some e9)(h:LedE G bl bd vd ve vs ⟨i,p,if b0=i then ents.take k else[],false⟩ w)(hb:EK w bt [EE bl 0,I (if k=0 then -1 else b0+k)] 270)(hbG:¬ G bt)(hp:EQ EO 1 w vp (Led.ent (b0+k+1) e9))(hpl:e9.length<=65536)(h0:0<=b0)(hst:b0=i\/b0+ents.length=i)(hla:b0+ents.length<=1099511627776) :
  Calls Tryz.prog 192 [EE bt 0,vp].toArray w (Ff (λk=>k=bt\/G k) w (λu w'=>u=B true/\EK w' bt [EE bl 0,I (b0+k+1)] 270/\∃ve' vs',LedE (Gx G w w') bl bd vd ve' vs' ⟨i,p,if b0=i then ents.take (k+1)else[],false⟩ w')):=by
 have hkl:=(List.getElem?_eq_some_iff.1 hk).1
 by_cases hb0:b0=i
 ·subst hb0;simp only [if_true]at h ⊢;have z:Led.last ⟨b0,p,ents.take k,false⟩=b0+k:=by unfold Led.last;simp only [A5];omega
  have r:=X7l G bt bl bd vd ve vs ⟨b0,p,ents.take k,false⟩ (if k=0 then -1 else b0+k) e9 vp w h hb hbG (by rw[z];exact hp) hpl (by rw[z];omega) rfl (by rw[z];split<;>simp);rw[z]at r;dsimp only at r;rw[<-G1 hk]at r;exact r
 ·rw[if_neg hb0]at h ⊢;exact X1x G bt bl bd vd ve vs ⟨i,p,[],false⟩ (if k=0 then -1 else b0+k) (b0+k+1) e9 vp w h hb hbG hp hpl EB (by show b0+k+1<=i;omega) (by split<;>omega)
theorem X76 (H:Nat->Prop)(bl bd:Nat)(D:Dsk)(i b0:Int)(p:EC)(ents:List EC)(x9:EC)(kk:Nat)(w:World)(h:LD H bl bd ⟨i,p,[],false⟩ D w)(his:lk D.fs Led.logn=some ⟨FZ b0 ents++x9,kk⟩)(hxt:KF x9)(hfu:D.fused=false)(h0:0<=b0)(hst:b0=i\/b0+ents.length=i)(hel:∀e∈ents,e.length<=65536)(hla:b0+ents.length<=1099511627776)(hec:ents.length<=1000000) :
  Calls Tryz.prog 117 [EE bl 0].toArray w (Ff H w (λu w'=>u=I 0/\∃D2,LD (Gx H w w') bl bd ⟨i,p,if b0=i then ents else[],false⟩ D2 w'/\D2.fused=false/\∀m,m≠Led.logn->lk D2.fs m=lk D.fs m)):=by
 refine cw Tryz.func117 ?_;have J:=Vc.Mod.refl H w;obtain⟨F,G,vd,ve,vs,hA,r,yg,hc,hf⟩:=h;have h00:LD H bl bd ⟨i,p,[],false⟩ D w:=⟨F,G,vd,ve,vs,hA,r,yg,hc,hf⟩;have O:=r.m;have hh:=r.lt;have xd:=hA.lt;have yn:=Xyx ents b0;have xc:D.has Led.logn=true:=by unfold Dsk.has;rw[his];rfl
 have z8:D.readE Led.logn=0:=by unfold Dsk.readE;rw[xc];rfl
 have ym:D.readB Led.logn=((ents.zipIdx.map λq:EC×Nat=>Led.ent (b0+1+q.2) q.1).flatMap EG++x9):=by unfold Dsk.readB Dsk.read;rw[his,yn];rfl
 have xx:=Ud hA.wf Led.logn;rw[ym]at xx;have xq:(ents.zipIdx.map λq:EC×Nat=>Led.ent (b0+1+q.2) q.1).length=ents.length:=by rw[Ao,List.length_zipIdx]
 have hblG:=r.inG bl (.inl rfl);have hb0:0<=i:=r.b0;have hZl:((ents.zipIdx.map λq:EC×Nat=>Led.ent (b0+1+q.2) q.1).flatMap EG++x9).length=((ents.zipIdx.map λq:EC×Nat=>Led.ent (b0+1+q.2) q.1).flatMap EG).length+x9.length:=Aa;refine ws λ_ Z1=>wr (da (de Z1 (ws λ_ Z2=>ws λ_ Z3=>?_)));refine F9 (R:=ED) ED.refl (λ_ _ _=>ED.trans) EA [3] [(0,.p,false),(1,.p,false),(2,.p,false),(3,.l,false),(4,.p,false),(5,.x,false),(6,.x,true),(7,.p,false)] rfl EA EA (λw1 yl=>?_);have x1:=EL yl;clear yl;have O:=O.ext x1;have r:=r.ext x1;have hA:=hA.ext x1;have J:=J.ext x1;refine dm ?_;refine dz rfl (df 0 rfl (dL rfl (λ_ hR=>((O.ext hR).at rfl)) (dm ?_)));refine cP (FB G bl bd _ _ _ _ _ r) RX.ext λw2 x2=>?_;have O:=O.ext x2;have r:=r.ext x2;have hA:=hA.ext x2;have J:=J.ext x2;refine cP (I8 F bd D Led.logn _ hA) RX.all λw3 x3=>?_;have O:=O.ext x3;have r:=r.ext x3;have hA:=hA.ext x3;have J:=J.ext x3;refine dn (de Z3 ?_);refine wc (λc1=>?_) λc1=>?_
 ·exact absurd c1 (by simp [xc])
 refine EI (Z2 _ _ (ws λ_ Z4=>F9 (R:=ED) ED.refl (λ_ _ _=>ED.trans) EA [3] [(0,.p,false),(1,.p,false),(2,.p,false),(3,.l,false),(4,.p,false),(5,.x,false),(6,.x,true),(7,.p,false),(8,.p,false),(9,.p,false),(10,.p,false),(11,.p,false)] rfl EA EA (λw4 yw=>?_)));have x4:=EL yw;clear yw;have O:=O.ext x4;have r:=r.ext x4;have hA:=hA.ext x4;have J:=J.ext x4;refine dm ?_;refine dz rfl (df 0 rfl (dL rfl (λ_ hR=>((O.ext hR).at rfl)) (dm ?_)));refine cP (FB G bl bd _ _ _ _ _ r) RX.ext λw5 x5=>?_;have O:=O.ext x5;have r:=r.ext x5;have hA:=hA.ext x5;have J:=J.ext x5;refine cG (Il F bd D Led.logn _ hA EN) RX.all λu6 w6 x6 zb=>?_;have yu:=J.size;have O:=O.ext x6;have r:=r.ext x6;have hA:=hA.ext x6;have J:=J.ext x6;obtain⟨vV,rfl,yx⟩:=zb;rw[ym]at yx;have hV:=yx.mono yu;refine dm ?_;refine dx rfl rfl (dx rfl rfl (da (da (de Z4 (ws λ_ Z5=>ws λ_ Z6=>wr (dm ?_))))));refine dp (FH rfl rfl) (de Z6 (wi (λc2=>?_) λc2=>?_))
 ·exact absurd z8 c2
 refine EI (Z5 _ _ (ws λ_ Z7=>wr (dm ?_)));refine cG (X1v (ents.zipIdx.map λq:EC×Nat=>Led.ent (b0+1+q.2) q.1) x9 vV _ (hV.arr EF) hxt (λz hz=>by obtain⟨q,hq,rfl⟩:=Aq.1 hz;have h8:=Lr (b0+1+q.2) q.1;have Z:=hel q.1 (by obtain⟨j,hj⟩:=List.getElem?_of_mem hq;rw[Ld]at hj;obtain⟨y,hy,e⟩:=Bb.1 hj;rw[<-e];exact Ak hy);omega) xx (by rw[xq];exact hec)) RX.all λu7 w7 x7 y6=>?_;have xy:=J.size;have O:=O.ext x7;have r:=r.ext x7;have hA:=hA.ext x7;have hV:=hV.ext x7;have J:=J.ext x7;obtain⟨vr,qs,rfl,yt,yq,z9⟩:=y6;have ha:=yq.mono xy;have hQ:RsE w.heap.size qs w7:=⟨λq hq=>(z9.row q hq).mono xy⟩;have yy:=hQ.lt;have zn:=congrArg AC yt;rw[Ao,xq]at zn;refine dm ?_;refine dx rfl rfl (dx rfl rfl (da (da (de Z7 (ws λ_ Z8=>wr (dm ?_))))));refine db (zs:=[.pointer none,.int .i64 0]) (pl:=[(0,1),(1,1)]) (pv:=[(0,_),(1,_)]) (cs:=[_,_]) ?_;refine Gn rfl rfl rfl RX.all (λb1 w8 e1 x8 m1=>?_);have g1:=J.ge e1;have a1_hl:=O.lt;have a1_hE:=r.lt;have a1_hA:=hA.lt;have yf:=hV.ltb e1;have xh:=ha.ltb e1;have O:=O.ext x8;have r:=r.ext x8;have hA:=hA.ext x8;have hV:=hV.ext x8;have ha:=ha.ext x8;have hQ:=hQ.ext x8;have J:=J.ext x8;refine dp (Mo rfl) ?_;obtain⟨N1,hN1⟩:∃z,z=w8.heap.size:=⟨_,rfl⟩;have xb:Sz N1 w8:=⟨BJ hN1⟩;have hwN:w.heap.size<=N1:=by rw[hN1];exact J.size
 have yo:=xh;have yk:=yf;have y0:∀z∈qs,∀j,z.1.ownBlock=some j->j<b1:=λz hz j hj=>by have h8:=(yy z hz j hj).2;omega
 have ht:EK w8 b1 [EE bl 0,I (if(0:Nat)=0 then -1 else b0+((0:Nat):Int))] 270:=m1;have yz:¬ G b1:=λY=>by have h8:=hh b1 Y;omega
 have hb1N:b1<N1:=by have:=m1.lt;omega
 refine da (de Z8 (ws λ_ Z9=>ws λ_ z1=>wr (dm ?_)));refine dv 82 1 (ha.arr EF).sl (dm (de z1 (EM ?_)));refine Fq (G:=Nat×(Nat->Prop)×Value×List (Value×EC)) (λ(k,Gk,xa,hp)=>[(0,EE bl 0),(3,vV),(6,I ↑((ents.zipIdx.map λq:EC×Nat=>Led.ent (b0+1+q.2) q.1).flatMap EG).length),(7,GG 192 [EE b1 0]),(42,vr),(43,I ↑qs.length),(44,I ↑k)]) (λ(k,Gk,xa,hp) w'=>Mod H w w'/\k<=ents.length/\FSq F bd D w'/\LedE Gk bl bd vd xa hp ⟨i,p,if b0=i then ents.take k else[],false⟩ w'/\EK w' b1 [EE bl 0,I (if k=0 then -1 else b0+↑k)] 270/\(∀j,Gk j->G j\/N1<=j)/\¬ Gk b1/\Vc.Own Lq 1 82 w.heap.size w' vr qs/\RsE w.heap.size qs w'/\Sz N1 w'/\Vc.Own EO 1 5 w.heap.size w' vV ((ents.zipIdx.map λq:EC×Nat=>Led.ent (b0+1+q.2) q.1).flatMap EG++x9)) (λ(k,Gk,xa,hp)=>ents.length-k) (0,G,ve,vs) ?_ ?_ ?_
 ·exact Gb
 ·exact⟨J,Ae _,hA,(by split<;>exact r),ht,λj hj=>.inl hj,yz,ha,hQ,xb,hV⟩
 intro X9 g9 w9 zo;obtain⟨k,Gk,xa,hp⟩:=g9;clear J O r hA hV ha hQ m1;obtain⟨J,hk1,hA,r,ht,hb,yp,ha,hQ,xb,hV⟩:=zo;refine ws λ_ zi=>wr (dp (Fb rfl rfl) (de zi (ws λ_ zw=>wi (λc3=>?_) λc3=>?_)))
 ·obtain⟨e9,hk⟩:∃e9,ents[k]?=some e9:=Fw;obtain⟨q,hkq⟩:∃q,qs[k]?=some q:=Fw;have ua:=hel e9 (Ak hk);have zg:q.2=Led.ent (b0+↑k+1) e9:=by
   have Y:=congrArg (λz=>z[k]?) yt;simp only [AD,Ld,hkq,hk,Br]at Y;rw[A0.inj Y,show b0+1+(k:Int)=b0+k+1 by omega]
  have zk:EQ EO 1 _ q.1 (Led.ent (b0+↑k+1) e9):=zg▸(hQ.row q (Ak hkq)).arr EF;have zl:=λj (hj:vr.ownBlock=some j)=>yo j hj;have y2:=λz (hz:z∈qs) j (hj:z.1.ownBlock=some j)=>y0 z hz j hj;refine EI (zw _ _ (ws λ_ zp=>EM (ws λ_ y5=>wr (di 82 1 (ha.arr EF).sl rfl ((ha.arr EF).lt hkq) (dl rfl (((ha.arr EF).row hkq).at0 rfl) (da (de y5 (ws λ_ y3=>wr (dm (dm ?_))))))))));have hwn9:=J.size;have xp:=xb.le;refine Rk (vs:=[q.1]) rfl rfl EA rfl (X1y Gk b1 bl bd vd xa hp i b0 p e9 ents k q.1 _ hk r ht yp zk ua h0 hst hla) (λy9 zj y7=>?_);obtain⟨u9,rfl,hw,rfl,ht,zc,zz,zu⟩:=y7;refine⟨_,rfl,(λe=>by cases e),?_⟩;have ha:=ha.mod hw (λj hj e=>by have h8:=zl j hj;rcases e with e|e;have Z:j=b1:=e;omega;have Z:=hb j e;rcases Z with Z|Z;have h6:=hh j Z;have h5:=(ha.lt j hj).1;omega;omega);have hV:=hV.mod hw (λj hj e=>by have h8:=yk j hj;rcases e with e|e;have Z:j=b1:=e;omega;have Z:=hb j e;rcases Z with Z|Z;have h6:=hh j Z;have h5:=(hV.lt j hj).1;omega;omega);have hQ:=hQ.mod hw (λz hz j hj e=>by have h8:=y2 z hz j hj;rcases e with e|e;have Z:j=b1:=e;omega;have Z:=hb j e;rcases Z with Z|Z;have h6:=hh j Z;have h5:=(hQ.lt z hz j hj).1;omega;omega);have hA:=hA.mod hw (λj hj e=>by rcases e with e|e;have Z:j=b1:=e;have h6:=xd j hj;omega;have Z:=hb j e;rcases Z with Z|Z;exact yg j hj Z;have h6:=xd j hj;omega);have J:=J.own hw (λj hj hlt9=>by rcases hj with e|e;have Z:j=b1:=e;omega;have Z:=hb j e;rcases Z with Z|Z;exact hc j (.inr Z);omega);have xb:Sz N1 zj:=⟨Ai xp hw.size⟩;refine dn (de y3 ?_);refine wc (λc4=>?_) λc4=>?_
  ·simp at c4
  refine EI (zp _ _ (wr (pa rfl rfl (dm (EH (?_))))));rw[show b0+(k:Int)+1=(if k+1=0 then -1 else b0+((k+1:Nat):Int)) by rw[if_neg EB];omega]at ht;exact⟨(k+1,_,zc,zz),Gb,⟨J,by omega,hA,zu,ht,λj hj=>hj.elim (hb j) (λY=>.inr (Ai xp Y.1)),λY=>Y.elim yp (λh8=>by omega),ha,hQ,xb,hV⟩,by simp only [];omega⟩
 have zh:k=ents.length:=by omega
 subst zh;rw[AI]at r;have O:=r.m;have hr:∀j,Gk j->¬ F j:=λj hj e9=>(hb j hj).elim (λY=>yg j e9 Y) (λY=>by have h8:=xd j e9;omega);refine Fk (Z9 _ _ ?_);refine Hz (G:=(Nat->Prop)×Dsk) (λ(F2,D2)=>[(0,EE bl 0)]) (λ(F2,D2) w'=>Mod H w w'/\FSq F2 bd D2 w'/\LedE Gk bl bd vd xa hp ⟨i,p,if b0=i then ents else[],false⟩ w'/\(∀j,F2 j->¬ Gk j)/\(∀j,F2 j->F j\/w.heap.size<=j)/\D2.fused=false/\D2.has Led.logn=true/\∀m,m≠Led.logn->lk D2.fs m=lk D.fs m) ?_ ?_
 ·refine ws λ_ zt=>wr (dm (dm ?_));refine dv 5 1 (hV.arr EF).sl (dp (Fb rfl rfl) (de zt (wi (λc5=>?_) λc5=>?_)))
  ·refine ws λ_ z7=>ws λ_ za=>F9 (R:=ED) ED.refl (λ_ _ _=>ED.trans) EA [3] [(0,.p,false),(1,.p,false),(2,.p,false),(3,.l,false),(4,.p,false),(6,.p,false),(5,.x,false),(7,.x,true),(8,.p,false)] rfl EA EA (λw11 xv=>?_);have xm:=EL xv;clear xv;have hA:=hA.ext xm;have r:=r.ext xm;have O:=O.ext xm;have J:=J.ext xm;refine dm ?_;refine dz rfl (df 0 rfl (dL rfl (λ_ hR=>((O.ext hR).at rfl)) (dm (dm ?_))));refine cP (FB Gk bl bd _ _ _ _ _ r) RX.ext λw12 xg=>?_;have hA:=hA.ext xg;have r:=r.ext xg;have O:=O.ext xg;have J:=J.ext xg;have x0:=r.lt;have hszT:=J.size;refine cD (X7z F bd D Led.logn ⟨FZ b0 ents++x9,kk⟩ ((ents.zipIdx.map λq:EC×Nat=>Led.ent (b0+1+q.2) q.1).flatMap EG).length _ hA EN hfu his (by rw[yn];dsimp only;omega)) (.inl rfl) λu13 w13 xz yr=>?_;have ya:=J.size;have r:=r.mod xz hr;have O:=O.mod xz (hr bl (r.inG bl (.inl rfl)));have J:=J.own xz (λi hi hf=>hc i (.inl hi));obtain⟨rfl,zd⟩:=yr;obtain⟨DT,hA,z2,zf,y8⟩:=setF hfu zd;have hszA:=ya;refine da (de za (ws λ_ ze=>wr (dm ?_)));refine dp (FH rfl rfl) (de ze (wi (λc6=>?_) λc6=>?_))
   ·exact absurd rfl c6
   refine EI (z7 _ _ (ws λ_ z3=>F9 (R:=ED) ED.refl (λ_ _ _=>ED.trans) EA [3] [(0,.p,false),(1,.p,false),(2,.p,false),(3,.l,false),(4,.p,false),(5,.x,false),(6,.x,false),(7,.x,true),(8,.p,false)] rfl EA EA (λw14 xn=>?_)));have xj:=EL xn;clear xn;have r:=r.ext xj;have O:=O.ext xj;have hA:=hA.ext xj;have J:=J.ext xj;refine dm ?_;refine dz rfl (df 0 rfl (dL rfl (λ_ hR=>((O.ext hR).at rfl)) (dm ?_)));refine cP (FB Gk bl bd _ _ _ _ _ r) RX.ext λw15 xl=>?_;have r:=r.ext xl;have O:=O.ext xl;have hA:=hA.ext xl;have J:=J.ext xl;refine li (e:=9) (sz:=1) (zs:=[S []]) (pv:=[(0,_)]) (cs:=[_]) RX.ext (λb2 w16 e2 xk m2=>?_);have g2:=J.ge e2;have a2_hE:=r.lt;have a2_hl:=O.lt;have yb:=hA.lt;have r:=r.ext xk;have O:=O.ext xk;have hA:=hA.ext xk;have J:=J.ext xk;have zy:=r.lt;have hszU:=J.size;refine cD (RI _ bd DT [Led.logn] _ _ hA (K6 m2) ER (λ_ hF=>A6 b2 (AA (yb _ hF) e2.symm))) (.inl rfl) λu17 w17 yd xr=>?_;have hsz17:=J.size;have r:=r.mod yd (OD hr x0);have O:=O.mod yd ((OD hr x0) bl (r.inG bl (.inl rfl)));have J:=J.own yd (λi hi hf=>(hi.elim (λY=>hc i (.inl Y)) (λY=>by omega)));obtain⟨DS,ub,zx,uc,zq⟩:=X75 z2 EN zf;rw[ub]at xr;obtain⟨rfl,hA⟩:=xr;have hAl:=hA.lt;refine da (de z3 (ws λ_ z5=>wr (dm ?_)));refine dp (FH rfl rfl) (de z5 (wi (λc7=>?_) λc7=>?_))
   ·exact absurd rfl c7
   refine EI ?_;exact⟨(_,DS),P8,J,hA,r,λj Y hg=>OD (OD hr x0) zy j hg Y,λj Y=>Y.elim (λh8=>h8.imp id (λZ=>by omega)) (λh8=>.inr EB),zx,uc,λm hm=>(zq m hm).trans (y8 m hm)⟩
  refine EI ?_;exact⟨(F,D),P8,J,hA,r,λj Y hg=>hr j hg Y,λj Y=>.inl Y,hfu,xc,λm hm=>rfl⟩
 intro X18 zr w18 yv;obtain⟨F2,D2⟩:=zr;clear J hA r hV O;obtain⟨J,hA,r,xf,yi,xe,y1,xu⟩:=yv;have O:=r.m;refine ws λ_ z4=>ws λ_ z6=>wr (dm ?_);refine dz rfl (df 4 rfl (dl rfl (O.at rfl) (dv 82 1 r.earr.sl (dp (GB rfl rfl) (de z6 (wi (λc8=>?_) λc8=>?_))))))
 ·refine ws λ_ y4=>F9 (R:=ED) ED.refl (λ_ _ _=>ED.trans) EA [3] [(0,.p,false),(1,.p,false),(2,.p,false),(3,.l,false),(4,.p,false),(5,.x,false),(6,.x,false),(7,.x,true),(8,.p,false)] rfl EA EA (λw19 xo=>?_);have xi:=EL xo;clear xo;have hA:=hA.ext xi;have r:=r.ext xi;have O:=O.ext xi;have J:=J.ext xi;refine dm ?_;refine dz rfl (df 0 rfl (dL rfl (λ_ hR=>((O.ext hR).at rfl)) (dm ?_)));refine cP (FB Gk bl bd _ _ _ _ _ r) RX.ext λw20 yh=>?_;have hA:=hA.ext yh;have r:=r.ext yh;have J:=J.ext yh;refine li (e:=9) (sz:=1) (zs:=[S []]) (pv:=[(0,_)]) (cs:=[_]) RX.ext (λb3 w21 e3 yc m3=>?_);have g3:=J.ge e3;have ye:=hA.lt;have a3_hE:=r.lt;have hA:=hA.ext yc;have r:=r.ext yc;have J:=J.ext yc;have zm:=r.lt;have hszV:=J.size;refine cD (O2 F2 bd D2 [Led.logn] _ _ hA (K6 m3) ER (λ_ hF=>A6 b3 (AA (ye _ hF) e3.symm))) (.inl rfl) λu22 w22 yj xw=>?_;have hsz22:=J.size;have r:=r.mod yj (λj hj e9=>xf j e9 hj);have J:=J.own yj (λi hi hf=>((yi i hi).elim (λY=>hc i (.inl Y)) (λY=>absurd hf (Ba.2 Y))));rw[RO xe ⟨by decide,y1⟩]at xw;obtain⟨rfl,hA⟩:=xw;refine da (de y4 (EJ ?_));refine ro ?_;refine⟨_,rfl,J,rfl,D2.gone Led.logn,⟨_,Gk,_,_,_,hA,r,λk hk hg=>hk.elim (λh=>xf k h hg) (λh=>by have h8:=zm k hg;omega),λk hk=>?_,HT hf J.size⟩,xe,λm hm=>?_⟩
  ·rcases hk with(h|h)|h
   ·rcases yi k h with Y|Y
    ·exact .inl (hc k (.inl Y))
    ·exact .inr ⟨Y,hA.lt k (.inl h)⟩
   ·exact .inr ⟨by omega,hA.lt k (.inr h)⟩
   ·rcases hb k h with Y|Y
    ·exact .inl (hc k (.inr Y))
    ·exact .inr ⟨by omega,r.lt k h⟩
  ·unfold Dsk.gone;rw[KY,if_neg hm];exact xu m hm
 refine EI (z4 _ _ (ws λ_ zv=>wr (da (de zv (EJ ?_)))));refine ro ?_;exact⟨_,rfl,J,rfl,D2,⟨F2,Gk,_,_,_,hA,r,xf,λk hk=>hk.elim (λh=>(yi k h).elim (λY=>.inl (hc k (.inl Y))) (λY=>.inr ⟨Y,hA.lt k h⟩)) (λh=>(hb k h).elim (λY=>.inl (hc k (.inr Y))) (λY=>.inr ⟨by omega,r.lt k h⟩)),HT hf J.size⟩,xe,xu⟩
def Kg (L:Led)(b0:Int)(D:Dsk):Nat->(Nat->Prop)->Nat->Nat->World->Prop
 | 0,H,bl,bd,w=>JF H bl bd D w
 | 1,H,bl,bd,w=>∃D1,JF H bl bd D1 w/\D1.fused=false/\∀m,m≠Led.img++[126]->lk D1.fs m=lk D.fs m
 | 2,H,bl,bd,w=>∃D1,LD H bl bd ⟨L.base,L.data,[],false⟩ D1 w/\D1.fused=false/\∀m,m≠Led.img++[126]->lk D1.fs m=lk D.fs m
 | _+3,H,bl,bd,w=>∃D1,LD H bl bd (LC L b0) D1 w/\D1.fused=false/\∀m,m≠Led.img++[126]->m≠Led.logn->lk D1.fs m=lk D.fs m
theorem Kg.lt {L:Led}{b0:Int}{D:Dsk} : ∀ {k:Nat} {H:Nat->Prop} {bl bd:Nat} {w:World},Kg L b0 D k H bl bd w->∀j,H j->j<w.heap.size
 | 0,_,_,_,_,h=>by obtain⟨_,_,_,_,_,_,r⟩:=h;exact r
 | 1,_,_,_,_,h=>by obtain⟨_,⟨_,_,_,_,_,_,r⟩,_⟩:=h;exact r
 | 2,_,_,_,_,h=>by obtain⟨_,h,_⟩:=h;exact LD.lt h
 | _+3,_,_,_,_,h=>by obtain⟨_,h,_⟩:=h;exact LD.lt h
theorem X1z {L:Led}{b0:Int}{x9:EC}{D:Dsk}(bl bd:Nat)(hf:LedC L b0 x9 D):∀k,k<3->∃f,[GG 115 [EE bl 0],GG 116 [EE bl 0],GG 117 [EE bl 0]][k]?=some (GG f [EE bl 0])/\GM Tryz.prog f=true/\
  ∀H z,Kg L b0 D k H bl bd z->Calls Tryz.prog f ([EE bl 0]++[]).toArray z (Ff H z (λu w'=>u=I 0/\Kg L b0 D (k+1) (Gx H z w') bl bd w')):=by
 intro k hk
 match k,hk with
 | 0,_=>exact⟨_,rfl,by kernel_rfl,λH z h=>X74 H bl bd D z h hf.fu⟩
 | 1,_=>
  refine⟨_,rfl,by kernel_rfl,λH z h=>?_⟩;obtain⟨D1,h0,J,r⟩:=h;have O:J0 D1 L.base L.data:=hf.im.to (r _ EN);rcases O with⟨h1,h2,h3⟩|⟨kk,h1⟩
  ·refine(X7m H bl bd D1 z h0 h1).mono ?_;rintro e w' ⟨v,he,hx,hu,hs⟩;refine⟨v,he,hx,hu,D1,?_,J,r⟩;rw[h2,h3];exact hs.at
  ·refine(X7n H bl bd D1 L.base L.data kk z h0 h1 hf.bb hf.lb hf.dl).mono ?_;rintro e w' ⟨v,he,hx,hu,hs⟩;exact⟨v,he,hx,hu,D1,hs,J,r⟩
 | 2,_=>
  refine⟨_,rfl,by kernel_rfl,λH z h=>?_⟩;obtain⟨D1,h0,J,r⟩:=h;rcases hf.lo with⟨h1,h2⟩|⟨kk,h2⟩
  ·refine(X7o H bl bd D1 ⟨L.base,L.data,[],false⟩ z h0 (by unfold Dsk.has;rw[r _ EN,h1];rfl)).mono ?_;rintro e9 w' ⟨v,he,hx,hu,hs⟩;refine⟨v,he,hx,hu,D1,?_,J,λm hm _=>r m hm⟩;have e:LC L b0=⟨L.base,L.data,[],false⟩:=by unfold LC;rw[h2];split<;>rfl
   rw[e];exact hs
  ·refine(X76 H bl bd D1 L.base b0 L.data L.ents x9 kk z h0 (by rw[r _ EN];exact h2) hf.xt J hf.h0 hf.st hf.el hf.la (by have:=hf.ec;omega)).mono ?_;rintro e9 w' ⟨v,he,hx,hu,D2,hs,hf2,hl2⟩;exact⟨v,he,hx,hu,D2,hs,hf2,λm hm Y=>(hl2 m Y).trans (r m hm)⟩
theorem X13 (F:Nat->Prop)(bd:Nat)(D:Dsk)(L:Led)(b0:Int)(x9:EC)(w:World)(h:FSq F bd D w)(hf:LedC L b0 x9 D) :
  Calls Tryz.prog 59 [EE bd 0,S [115]].toArray w (Ff F w (λu w'=>∃bl,u=.tuple #[EE bl 0,I 0]/\w.heap.size<=bl/\∃D1,LD (Gx F w w') bl bd (LC L b0) D1 w'/\D1.fused=false/\∀m,m≠Led.img++[126]->m≠Led.logn->lk D1.fs m=lk D.fs m)):=by
 refine cw Tryz.func59 ?_;have r:=Vc.Mod.refl F w;have hA:=h;have O:=h.lt;refine ws λ_ Z1=>wr (da (da (de Z1 (ws λ_ Z2=>ws λ_ Z3=>wr (dm ?_)))));refine dp (Gi EA rfl rfl) (dm ?_);refine F4 12 rfl (λc1=>?_) (λc1=>?_)
 ·exact absurd c1 ER
 refine dm ?_;refine dt rfl (dp (Fb rfl rfl) (EP ?_));refine dm ?_;refine F4 17 rfl (λc2=>?_) (λc2=>?_)
 ·exact absurd c2 EN
 refine dm ?_;refine dt rfl (dp (Gg rfl rfl) (EP (de Z3 ?_)));refine wi (λc3=>?_) λc3=>?_
 ·exact absurd c3 EN
 refine EI (Z2 _ _ (ws λ_ Z4=>wr (dm (dm ?_))));refine db (zs:=[.pointer none,S [],.int .i64 0,.slice none 0 0,.slice none 0 0,B false]) (pl:=[(0,1),(1,1),(2,1),(3,1),(4,1),(5,1)]) (pv:=[(0,_),(1,_)]) (cs:=[_,_,.int .i64 0,.slice none 0 0,.slice none 0 0,B false]) ?_;refine Gn rfl rfl rfl RX.all (λb1 w1 e1 x1 m1=>?_);have g1:=r.ge e1;have a1_hA:=hA.lt;have hA:=hA.ext x1;have r:=r.ext x1;refine da (de Z4 (ws λ_ Z5=>ws λ_ Z6=>wr (dm ?_)));refine dp (Mo rfl) (dm ?_);refine dp (Mo rfl) (dm ?_);refine dp (Mo rfl) (li (e:=81) (sz:=1) (zs:=[.nilFunc]) (pv:=[(0,_),(1,_),(2,_)]) (cs:=[_,_,_]) RX.all (λb2 w2 e2 x2 m2=>?_));have g2:=r.ge e2;have n2_1:=m1.ltb e2;have a2_hA:=hA.lt;have hA:=hA.ext x2;have m1:=m1.ext x2;have r:=r.ext x2;refine dv 81 1 (m2.arr (enc:=λg:Value=>[g]) (sz:=1) (l:=[GG 115 [EE b1 0],GG 116 [EE b1 0],GG 117 [EE b1 0]]) rfl EF rfl ER).sl (dm ?_);obtain⟨N1,hN1⟩:∃z,z=w2.heap.size:=⟨_,rfl⟩;have ha:Sz N1 w2:=⟨BJ hN1⟩;have hwN:w.heap.size<=N1:=by rw[hN1];exact r.size
 have hb2N:b2<N1:=by have:=m2.lt;omega
 have h5:Kg L b0 D 0 (λj=>F j\/j=b1) b1 bd w2:=⟨F,λj=>j=b1,hA,LedE.fresh m1,λj J e=>by have h6:=O j J;omega,λj J=>J,λj J=>J.elim (λh9=>by have h6:=O j h9;omega) (λh9=>by rw[h9];exact m1.lt)⟩;refine de Z6 (EM ?_);refine Fq (G:=Nat×(Nat->Prop)) (λ(k,Hk)=>[(6,EE b1 0),(32,.slice (some ⟨b2,0,none⟩) 3 3),(33,I 3),(34,I ↑k)]) (λ(k,Hk) w'=>Mod F w w'/\k<=3/\Kg L b0 D k Hk b1 bd w'/\(∀j,Hk j->F j\/j=b1\/N1<=j)/\EK w' b2 [GG 115 [EE b1 0],GG 116 [EE b1 0],GG 117 [EE b1 0]] 81/\Sz N1 w') (λ(k,Hk)=>3-k) (0,λj=>F j\/j=b1) ?_ ?_ ?_
 ·exact Gc
 ·exact⟨r,Ae _,h5,λj J=>J.elim .inl (λh9=>.inr (.inl h9)),m2,ha⟩
 intro X3 g3 w3 hz;obtain⟨k,Hk⟩:=g3;clear r hA m1 m2;obtain⟨r,hk1,Z,hb,m2,ha⟩:=hz;refine ws λ_ Z7=>wr (dp (Fb rfl rfl) (de Z7 (ws λ_ Z8=>wi (λc4=>?_) λc4=>?_)))
 ·obtain⟨f,hk,xb,hg⟩:=X1z b1 bd hf k EB;refine EI (Z8 _ _ (ws λ_ Z9=>EM (ws λ_ hy=>wr (di 81 1 (m2.arr (enc:=λg:Value=>[g]) (sz:=1) (l:=[GG 115 [EE b1 0],GG 116 [EE b1 0],GG 117 [EE b1 0]]) rfl EF rfl ER).sl rfl ((m2.arr (enc:=λg:Value=>[g]) (sz:=1) (l:=[GG 115 [EE b1 0],GG 116 [EE b1 0],GG 117 [EE b1 0]]) rfl EF rfl ER).lt hk) (dl rfl (((m2.arr (enc:=λg:Value=>[g]) (sz:=1) (l:=[GG 115 [EE b1 0],GG 116 [EE b1 0],GG 117 [EE b1 0]]) rfl EF rfl ER).row hk).at0 rfl) (da (de hy ?_)))))));refine ws λ_ xa=>wr (dm ?_);have hlt9:=Z.lt;have hc:=ha.le;refine Rk (vs:=[]) rfl rfl xb rfl (hg _ _ Z) (λy9 w4 ht=>?_);obtain⟨u9,rfl,x4,rfl,hp⟩:=ht;refine⟨_,rfl,(λe=>by cases e),?_⟩;have m2:=m2.mod x4 (λe=>by have Y:=hb b2 e;rcases Y with Y|Y|Y;have h6:=O b2 Y;omega;omega;omega);have r:=r.own x4 (λj J hlt8=>by rcases hb j J with Y|Y|Y;exact Y;omega;omega);have ha:Sz N1 w4:=⟨Ai hc x4.size⟩;refine da (de xa (ws λ_ hw=>wr (dm ?_)));refine dp (FH rfl rfl) (de hw (wi (λc5=>?_) λc5=>?_))
  ·exact absurd rfl c5
  refine EI (Z9 _ _ (wr (pa rfl rfl (dm (EH (?_))))));exact⟨(k+1,_),Gc,⟨r,by omega,hp,λj J=>J.elim (hb j) (λh9=>.inr (.inr (Ai hc h9.1))),m2,ha⟩,by simp only [];omega⟩
 refine Fk (Z5 _ _ (ws λ_ hr=>wr (dm (da (da (de hr (EJ ?_)))))));refine rt ?_;have h8:k=3:=by omega
 subst h8;have hq:=Z.lt;obtain⟨D1,Z,hl,hh⟩:=Z;exact⟨_,rfl,r,b1,rfl,g1,D1,LD.wide (H:=Hk) Z (λj J=>by rcases hb j J with Y|Y|Y;exact .inl Y;exact .inr ⟨by omega,hq j J⟩;exact .inr ⟨by omega,hq j J⟩) (HT O r.size),hl,hh⟩
theorem Td {D:Dsk}{n m:EC}(h:(D.gone n).has m=true):m≠n/\D.has m=true:=by
 unfold Dsk.has Dsk.gone at *;rw[KY]at h;split at h
 ·cases h
 ·rename_i e;exact⟨e,h⟩
def Qu (D:Dsk)(pre:EC)(l:List EC):Prop:=∀n,D.has n=true->Lib.hasPrefix n pre=true->n∈l
theorem X78 (F:Nat->Prop)(bd:Nat)(D:Dsk)(pre:EC)(l:List EC)(v:Value)(w:World)(h:FSq F bd D w)(hv:EQ FU 1 w v l)(hl:l.length<=100000)(hdv:l≠[]->¬ F (base v).1)(hfu:D.fused=false) :
  Calls Tryz.prog 64 [EE bd 0,S pre,v].toArray w (Ff F w (λu w'=>u=I 0/\∃D',FSq (Gx F w w') bd D' w'/\Qu D' pre l)):=by
 refine cw Tryz.func64 ?_;have O:=Vc.Mod.refl F w;have hA:=h;have hh:=h.lt;have xh:=X1o h.wf;have xc:=Xf h.wf;have hnl:=QE h.wf;refine ws λ_ Z1=>wr (da (de Z1 (ws λ_ Z2=>ws λ_ Z3=>wr (dm ?_))));refine dp (Gi EA rfl rfl) (de Z3 (wi (λc1=>?_) λc1=>?_))
 ·exact absurd c1 ER
 refine EI (Z2 _ _ (ws λ_ Z4=>ws λ_ Z5=>wr (dm ?_)));refine cG (Hj F bd D _ hA) RX.all λvn w1 x1 ht=>?_;have hy:=O.size;have hA:=hA.ext x1;have O:=O.ext x1;have r:=ht.mono hy;refine dv 9 1 (r.arr EF).sl (dm ?_);obtain⟨N1,hN1⟩:∃z,z=w1.heap.size:=⟨_,rfl⟩;have J:Sz N1 w1:=⟨BJ hN1⟩;have hwN:w.heap.size<=N1:=by rw[hN1];exact O.size
 have hr:∀j,vn.ownBlock=some j->w.heap.size<=j/\j<N1:=λj hj=>by have h9:=r.lt j hj;omega
 have hw:∀j,vn.ownBlock=some j->¬ F j:=λj hj e=>by have h9:=hr j hj;have h8:=hh j e;omega
 refine de Z5 (EM ?_);refine Fq (G:=Nat×(Nat->Prop)×Dsk) (λ(k,Fc,Dc)=>[(0,EE bd 0),(1,S pre),(2,v),(13,vn),(14,I ↑D.names.length),(15,I ↑k)]) (λ(k,Fc,Dc) w'=>Mod F w w'/\k<=D.names.length/\FSq Fc bd Dc w'/\(∀i,Fc i->F i\/N1<=i)/\Dc.fused=false/\(∀n∈D.names.drop k,(1<=n.length/\n.length<=64)/\Dc.has n=true)/\(∀j,vn.ownBlock=some j->¬ Fc j)/\Vc.Own FU 1 9 w.heap.size w' vn D.names/\Sz N1 w'/\(∀n,Dc.has n=true->D.has n=true)/\(∀n∈D.names.take k,Dc.has n=true->Lib.hasPrefix n pre=true->n∈l)) (λ(k,Fc,Dc)=>D.names.length-k) (0,F,D) ?_ ?_ ?_
 ·exact G2
 ·exact⟨O,Ae _,hA,λi hi=>.inl hi,hfu,xc,hw,r,J,λn hn=>hn,λn hn=>(by cases hn)⟩
 intro X2 g2 w2 xi;obtain⟨k,Fc,Dc⟩:=g2;clear O hA r;obtain⟨O,hk1,hA,Z,hg,hc,hf,r,J,Y,ha⟩:=xi;refine ws λ_ Z6=>wr (dp (Fb rfl rfl) (de Z6 (ws λ_ Z7=>wi (λc2=>?_) λc2=>?_)))
 ·obtain⟨s,hk⟩:∃s,D.names[k]?=some s:=Fw;have hb:=Jd hk;have xf:=hc s (by rw[hb];exact Al);have hq:=xh.sublist (List.drop_sublist k D.names);rw[hb,AV]at hq;refine EI (Z7 _ _ (ws λ_ Z8=>EM (ws λ_ Z9=>wr (di 9 1 (r.arr EF).sl rfl ((r.arr EF).lt hk) (dl rfl (((r.arr EF).row hk).at0 rfl) (da (de Z9 (ws λ_ xe=>ws λ_ xa=>wr (dm (dm ?_))))))))));refine cP (Xqg s pre _) RX.all λw3 x3=>?_;have hA:=hA.ext x3;have r:=r.ext x3;have J:=J.ext x3;have O:=O.ext x3;refine dn (dm ?_);refine I5 23 rfl (λc3=>?_) (λc3=>?_)
  ·refine dk (dk (dk (EP (de xa ?_))));refine GS rfl (Fk (Z8 _ _ (wr (pa rfl rfl (dm (EH (?_)))))));exact⟨(k+1,Fc,Dc),G2,⟨O,by omega,hA,Z,hg,λn hn=>hc n (by rw[hb];exact Am _ hn),hf,r,J,Y,λn hn h8 h7=>by
    rw[G1 hk]at hn;rcases Aw.1 hn with hn|hn
    ·exact ha n hn h8 h7
    ·rw[Ah.1 hn]at h7 h8 ⊢;exact absurd h7 (by simpa using c3)⟩,by simp only [];omega⟩
  iterate 2 refine dm ?_
  refine cP (S0 l s _ _ (hv.mod O hdv) EB) RX.all λw4 x4=>?_;have hA:=hA.ext x4;have r:=r.ext x4;have J:=J.ext x4;have O:=O.ext x4;refine EP (de xa ?_);refine wc (λc4=>?_) λc4=>?_
  ·refine Fk (Z8 _ _ (wr (pa rfl rfl (dm (EH (?_))))));exact⟨(k+1,Fc,Dc),G2,⟨O,by omega,hA,Z,hg,λn hn=>hc n (by rw[hb];exact Am _ hn),hf,r,J,Y,λn hn h8 h7=>by
    rw[G1 hk]at hn;rcases Aw.1 hn with hn|hn
    ·exact ha n hn h8 h7
    ·rw[Ah.1 hn]at h7 h8 ⊢;simpa using c4⟩,by simp only [];omega⟩
  refine EI (xe _ _ (ws λ_ xk=>wr (dm ?_)));have xg:=hA;refine dm ?_;refine li (e:=9) (sz:=1) (zs:=[S []]) (pv:=[(0,_)]) (cs:=[_]) RX.all (λb1 w5 e1 x5 m1=>?_);have g1:=O.ge e1;have a1_hA:=hA.lt;have o1_hoN:=r.ltb e1;have a1_hSz:=J.le;have hA:=hA.ext x5;have r:=r.ext x5;have J:=J.ext x5;have O:=O.ext x5;have hszq:=O.size;have hS9:=J.le;refine cD (O2 Fc bd Dc [s] _ _ hA (K6 m1) ER (λ_=>Oe xg (BJ e1.symm))) (.inl rfl) λu6 w6 x6 hz=>?_;have hsz6:=O.size;have r:=r.mod x6 (λj hj e=>hf j hj e);have J:=J.mod x6 trivial;have O:=O.own x6 (λi hi hlt=>(Z i hi).resolve_right EB);rw[RO hg xf]at hz;obtain⟨rfl,hA⟩:=hz;refine da (de xk (ws λ_ xd=>wr (dm ?_)));refine dp (FH rfl rfl) (de xd (wi (λc5=>?_) λc5=>?_))
  ·exact absurd rfl c5
  refine EI (Z8 _ _ (wr (pa rfl rfl (dm (EH (?_))))));exact⟨(k+1,_,_),G2,⟨O,by omega,hA,λi hi=>hi.elim (Z i) (λh9=>.inr EB),hg,λn hn=>⟨(hc n (by rw[hb];exact Am _ hn)).1,X1p (hc n (by rw[hb];exact Am _ hn)).2 (λe=>hq.1 (e▸hn))⟩,λj hj e=>e.elim (hf j hj) (λh9=>by have:=hr j hj;omega),r,J,λn hn=>Y n (Td hn).2,λn hn h8 h7=>by
   obtain⟨h6,h5⟩:=Td h8;rw[G1 hk]at hn;rcases Aw.1 hn with hn|hn
   ·exact ha n hn h5 h7
   ·exact absurd (Ah.1 hn) h6⟩,by simp only [];omega⟩
 refine Fk (Z4 _ _ (ws λ_ xb=>wr (da (de xb (EJ ?_)))));refine ro ?_;have xj:k=D.names.length:=by omega
 subst xj;rw[AI]at ha;exact⟨_,rfl,O,rfl,Dc,hA.to (λi hi=>(Z i hi).imp id (λh9=>by omega)) (λk hk=>Az (hh k hk) O.size),λn hn hp=>ha n (of_decide_eq_true (by rw[RJ];exact Y n hn)) hn hp⟩
end Go.Proofs.YtiooodckiddpmaaGreatDoor
