/-
 A part of the proof: BtA SpLev LvA LvB LvC LvD LvE LvF LsA LsB MemC SpSkip SpTow MemD.
-/
import Derived.Test.YtiooodckiddpmaaGreatDoorFkA
import Derived.Test.YtiooodckiddpmaaGreatDoorChecked
import Derived.KernelRfl
import Derived.Test.YtiooodckiddpmaaGreatDoorFkD
import Derived.Lib.Bytealg
import Derived.Test.YtiooodckiddpmaaGreatDoorFkB
open Nat renaming le_refl->Aa,zero_le->Ad,le_trans->Ae,le_of_ble_eq_true->Ap,lt_irrefl->A6,zero_add->A9,lt_of_lt_of_eq->AF
open List renaming length_append->Ab,take->Af,set->Ag,mem_singleton->Ah,drop->Ai,mem_cons->Aj,mem_of_getElem?->Ak,mem_cons_self->Al,mem_cons_of_mem->Am,map_cons->Aq,getElem?_eq_getElem->Av,replicate->Aw,take_of_length_le->Ax,mem_append->Ay,length->A7,append_assoc->AA,length_cons->AB,map_append->AC,flatMap_cons->AD,nil_append->AE,length_set->AG,take_length->AK,pairwise_cons->AO,append_nil->AP,cons_append->AS,all_eq_true->AU,getElem?_take->AV,nodup_cons->AZ,flatMap_append->Bb,map_nil->Bk,getElem?_eq_none->Bl,mem_append_right->Bt,getElem?_append_left->Bw,filter_cons->B5,any_eq_true->B6,ext_getElem?->BA,getElem?_set_self->BB,mem_append_left->BC,nodup_append->BK,flatMap_nil->Ce,getElem?_set_ne->Cf,getElem?_set->C5,all_append->C6,all_cons->CO,all_nil->Dg,dropWhile_cons->Di,takeWhile_cons->Dj,head?_cons->Ef,headD_cons->Eh
open Bool renaming and_eq_true->Au,not_eq_true->BY,true_and->Cu,false_eq_true->C7,and_eq_false_iff->C8
open Option renaming some->A3,filter_some->Eg
open Decidable renaming of_not_not->AI
set_option maxRecDepth 100000
set_option maxHeartbeats 4000000
set_option linter.unusedVariables false
set_option linter.unusedSimpArgs false
namespace Go.Proofs.YtiooodckiddpmaaGreatDoor
open Go.Vc Go.Sp
attribute [local irreducible] W XW Dw Gm
theorem Np {r:Rw}(h:Ge (r.cell 1)=true):r.key.length<=4096/\r.val.length<=16384/\1<=r.key.length/\(r.del=true->r.val=[]):=by
 have:=JM h;exact⟨this.1,this.2.1,this.2.2.1,this.2.2.2.2.2⟩
theorem Sr {l:List Rw}{k:Nat}{r:Rw}(h:l[k]?=some r):(l.take (k+1)).flatMap G7=(l.take k).flatMap G7++G7 r:=by
 rw[Gs h,Bb];simp
theorem Uj (r:Rw)(seq:Int)(w:World) :
  Calls Tryz.prog 154 [r.v,I seq].toArray w (Pure w (r.cell seq).v):=by
 refine cw Tryz.func154 ?_;have z:=EB.refl w;refine ws λ_ Z1=>wr (Gc rfl rfl rfl RX.all (λb1 w1 e1 Z J=>?_));have g1:=z.ge e1;have z:=z.trans Z;refine FG (cs:=[S [],S [],B false,.int .i64 0]) rfl E9 RX.all (λb2 w2 e2 Y O=>?_);have g2:=z.ge e2;have n2_1:=J.ltb e2;have J:=J.ext Y;have z:=z.trans Y;refine de Z1 (ws λ_ Z2=>wr (df 0 rfl (dl rfl (J.at rfl) (df 1 rfl (dl rfl (J.at rfl) (df 2 rfl (dl rfl (J.at rfl) (dm ?_))))))));refine db (zs:=[S [],S [],B false,.int .i64 0]) (pl:=[(0,1),(1,1),(2,1),(3,1)]) (pv:=[(0,_),(1,_),(2,_),(3,_)]) (cs:=[_,_,_,_]) ?_;refine FM O (λw3 x3 xs3 O=>?_);dsimp only [Fe,Ag,Af,Ai]at O;have z:=z.o1 x3;refine de Z2 (EH (MR (k:=4) rfl rfl rfl E9 rfl O.row ?_));exact⟨rfl,z⟩
theorem Tn (r:Rw)(seq:Int)(w:World) :
  Calls Tryz.prog 37 [r.v,I seq].toArray w (Pure w (r.cell seq).v):=by
 refine cw Tryz.func37 ?_;have z:=EB.refl w;refine ws λ_ Z1=>wr (Gc rfl rfl rfl RX.all (λb1 w1 e1 Z J=>?_));have g1:=z.ge e1;have z:=z.trans Z;refine FG (cs:=[S [],S [],B false,.int .i64 0]) rfl E9 RX.all (λb2 w2 e2 Y O=>?_);have g2:=z.ge e2;have n2_1:=J.ltb e2;have J:=J.ext Y;have z:=z.trans Y;refine de Z1 (ws λ_ Z2=>wr (df 0 rfl (dl rfl (J.at rfl) (df 1 rfl (dl rfl (J.at rfl) (df 2 rfl (dl rfl (J.at rfl) (dm ?_))))))));refine db (zs:=[S [],S [],B false,.int .i64 0]) (pl:=[(0,1),(1,1),(2,1),(3,1)]) (pv:=[(0,_),(1,_),(2,_),(3,_)]) (cs:=[_,_,_,_]) ?_;refine FM O (λw3 x3 xs3 O=>?_);dsimp only [Fe,Ag,Af,Ai]at O;have z:=z.o1 x3;refine de Z2 (EH (MR (k:=4) rfl rfl rfl E9 rfl O.row ?_));exact⟨rfl,z⟩
theorem X6g (l:List Rw)(v:Value)(w:World)(hv:EM Rw.cs 3 w v l)(hl:l.length<=1000000) :
  Calls Tryz.prog 78 [v].toArray w (Pure w (I (Ia l))):=by
 refine cw Tryz.func78 ?_;have J:=EB.refl w;refine ws λ_ Z1=>wr (da (de Z1 (ws λ_ Z2=>ws λ_ Z3=>wr (dm ?_))));refine dv 48 3 (hv.ext J).sl (dp (G1 rfl rfl) (de Z3 (wi (λc1=>?_) λc1=>?_)))
 ·refine ws λ_ Z4=>wr (da (de Z4 (EH ?_)));refine ro ?_;refine⟨?_,J⟩;rw[X6d EA]
 refine EG (Z2 _ _ (ws λ_ Z5=>wr (da (de Z5 (ws λ_ Z6=>ws λ_ Z7=>wr (dm ?_))))));refine dv 48 3 (hv.ext J).sl (dm (de Z7 (EN ?_)));refine Fk (G:=Nat×Nat) (λ(k,z)=>[(0,v),(3,I ↑z),(9,v),(10,I ↑l.length),(11,I ↑k)]) (λ(k,z) w'=>EB w w'/\k<=l.length/\z<=32769/\z=min (IC (l.take k)) 32769/\((l.take k).all λr=>Ge (r.cell 1))=true) (λ(k,z)=>l.length-k) (0,0) ?_ ?_ ?_
 ·exact FA
 ·exact⟨J,Ad _,by omega,rfl,rfl⟩
 intro X1 g1 w1 hh;obtain⟨k,z⟩:=g1;clear J;obtain⟨J,hk1,hz0,hz,hA⟩:=hh;refine ws λ_ Z8=>wr (dp (Fa rfl rfl) (de Z8 (ws λ_ Z9=>wi (λc2=>?_) λc2=>?_)))
 ·obtain⟨r,hk⟩:∃r,l[k]?=some r:=Fq;refine EG (Z9 _ _ (ws λ_ hr=>EN (ws λ_ hf=>wr (di 48 3 (hv.ext J).sl rfl ((hv.ext J).lt hk) (dq (Fb E9 rfl rfl ((hv.ext J).row hk)) (FG (cs:=[S [],S [],B false]) rfl E9 RX.all (λb1 w2 e1 x2 O=>?_)))))));have g1:=J.ge e1;have J:=J.trans x2;refine FM O (λw3 x3 xs3 O=>?_);dsimp only [Fe,Ag,Af,Ai]at O;have J:=J.o1 x3;refine de hf (ws λ_ hb=>ws λ_ hp=>wr (dq (Fb (k:=3) E9 rfl rfl O.row) (cP (Uj r 1 _) RX.all λw4 x4=>?_)));have O:=O.ext x4;have J:=J.trans x4;refine cP (Qk (r.cell 1) _) RX.all λw5 x5=>?_;have O:=O.ext x5;have J:=J.trans x5;refine dn (de hp ?_);refine wc (λc3=>?_) λc3=>?_
  ·refine ws λ_ hc=>wr (da (de hc (EH ?_)));refine ro ?_;refine⟨?_,J⟩;rw[Xws hk (by simpa using c3)]
  have Z:Ge (r.cell 1)=true:=by simpa using c3
  have hrs:=Np Z;refine EG (hb _ _ (wr (dm ?_)));refine df 0 rfl (dl rfl (O.at rfl) (dt rfl (pa rfl rfl (df 1 rfl (dl rfl (O.at rfl) (dt rfl (pa rfl rfl (EW (v:=I ↑(min (z+r.key.length+r.val.length) 32769)) rfl (V3 rfl rfl) (by show I _=I _;congr 1;omega) (da (de hr (wr ?_)))))))))));refine pa rfl rfl (dm (EF (?_)));refine⟨(k+1,min (z+r.key.length+r.val.length) 32769),FA,⟨J,by omega,Nat.min_le_right _ _,?_,?_⟩,by simp only [];omega⟩
  ·rw[X0i hk,hz];omega
  ·rw[Xwr hk,hA,Z];rfl
 refine Ff (Z6 _ _ (ws λ_ hq=>ws λ_ Y=>wr (dm ?_)));refine dv 48 3 (hv.ext J).sl (dp (FY rfl rfl) (dm ?_));refine Fz 33 rfl (λc4=>?_) (λc4=>?_)
 ·refine dk (dk (EO (de Y ?_)));refine GD rfl (ws λ_ ha=>wr (da (de ha (EH ?_))));refine ro ?_;rw[Ax EA]at hz hA;refine⟨?_,J⟩;rw[Wd EA hA EA]
 refine dm ?_;refine dp (FY rfl rfl) (EO (de Y ?_));refine wi (λc5=>?_) λc5=>?_
 ·refine ws λ_ hj=>wr (da (de hj (EH ?_)));refine ro ?_;rw[Ax EA]at hz hA;refine⟨?_,J⟩;rw[Wd EA hA EA]
 refine EG (hq _ _ (ws λ_ hg=>wr (da (de hg (EH ?_)))));refine ro ?_;rw[Ax EA]at hz hA;refine⟨?_,J⟩;rw[X6e EA hA EA]
theorem Vj (l:List Rw)(v:Value)(w:World)(hv:EM Rw.cs 3 w v l)(hl:l.length<=1000000) :
  Calls Tryz.prog 39 [v].toArray w (ER w (λu w'=>∃vb,u=.tuple #[vb,I (Ia l)]/\Vc.Own EP 1 5 w.heap.size w' vb (if Ia l=0 then FF l else[]))):=by
 refine cw Tryz.func39 ?_;have J:=EB.refl w;refine ws λ_ Z1=>wr (da (da (de Z1 (ws λ_ Z2=>ws λ_ Z3=>wr (dm ?_)))));refine cP (X6g l v _ (hv.ext J) hl) RX.all λw1 x1=>?_;have J:=J.trans x1;refine da (de Z3 (ws λ_ Z4=>wr (dm ?_)));refine dp (F8 rfl rfl) (de Z4 (wi (λc1=>?_) λc1=>?_))
 ·refine ws λ_ Z5=>wr (dm (da (da (de Z5 (EH ?_)))));refine rt ?_;rw[if_neg c1];exact⟨_,rfl,J,_,rfl,Vc.Own.nil⟩
 have hE:Ia l=0:=AI c1;obtain⟨hl1,hl2,hz,xf⟩:=LI hE;refine EG (Z2 _ _ (ws λ_ Z6=>wr (FG (cs:=[.slice none 0 0]) rfl E9 RX.all (λb1 w2 e1 x2 m1=>?_))));have g1:=J.ge e1;have J:=J.trans x2;refine de Z6 (ws λ_ Z7=>wr (dm ?_));refine dv 48 3 (hv.ext J).sl (li (e:=3) (sz:=1) (zs:=[.int .i64 0]) (pv:=[(0,_)]) (cs:=[_]) RX.all (λb2 w3 e2 x3 m2=>?_));have g2:=J.ge e2;have n2_1:=m1.ltb e2;have m1:=m1.ext x3;have J:=J.trans x3;have z:Wr w.heap.size b1 (.slice none 0 0) [] w3:=⟨m1,Vc.Own.nil⟩;refine cD (JQ w.heap.size b1 (.slice none 0 0) _ [↑l.length] (.slice (some ⟨b2,0,none⟩) 1 1) _ z (Ae (Aa 0:([]:EC).length<=0) EA) J.size (m2.arr (enc:=Vc.encI) (sz:=1) (l:=[↑l.length]) rfl EE rfl EQ) EQ (λk9 Y _ hh=>by have hg:b2=k9:=hh;subst hg;exact(Y.elim (λh=>by omega) (λh=>by cases h)))) (.inl rfl) λu4 w4 x4 yb=>?_;have hsz4:=J.size;have J:=J.own x4 (λi hi=>z.ge g1 hi);obtain⟨rfl,v1,z,hf⟩:=yb;rw[Nh EA,AE]at z;have hln16:=trivial;refine de Z7 (ws λ_ Z8=>ws λ_ Z9=>wr (dm ?_));refine dv 48 3 (hv.ext J).sl (dm (de Z9 (EN ?_)));refine Fk (G:=Nat×Value) (λ(k,vc)=>[(0,v),(2,.slice none 0 0),(3,I 0),(5,ED b1 0),(17,v),(18,I ↑l.length),(19,I ↑k)]) (λ(k,vc) w'=>EB w w'/\k<=l.length/\Wr w.heap.size b1 vc (EV l.length++(l.take k).flatMap G7) w') (λ(k,vc)=>l.length-k) (0,v1) ?_ ?_ ?_
 ·exact FQ
 ·exact⟨J,Ad _,by simpa using z⟩
 intro X5 g5 w5 xu;obtain⟨k,vc⟩:=g5;clear J z;obtain⟨J,hk1,z⟩:=xu;refine ws λ_ xr=>wr (dp (Fa rfl rfl) (de xr (ws λ_ xt=>wi (λc2=>?_) λc2=>?_)))
 ·obtain⟨r,hk⟩:∃r,l[k]?=some r:=Fq;have hrs:=Np (xf r (Ak hk));have xv:=UT l k;have xz:=Gd l.length;have h5:(EV l.length++(l.take k).flatMap G7).length<=60000:=by rw[Ab];omega
  refine EG (xt _ _ (ws λ_ xe=>EN (ws λ_ x5=>wr (di 48 3 (hv.ext J).sl rfl ((hv.ext J).lt hk) (dq (Fb E9 rfl rfl ((hv.ext J).row hk)) (FG (cs:=[S [],S [],B false]) rfl E9 RX.all (λb3 w6 e3 x6 O=>?_)))))));have g3:=J.ge e3;have hc:=z.lt;have z:=z.ext x6;have J:=J.trans x6;refine FM O (λw7 x7 xs7 O=>?_);dsimp only [Fe,Ag,Af,Ai]at O;have z:=z.mod x7 (λk9 Y h=>by have h2:k9=b3:=h;subst h2;exact A6 _ (AF (hc _ Y) e3.symm));have J:=J.o1 x7;refine de x5 (ws λ_ xo=>KR [.p,.l,.x,.x,.x] rfl (df 0 rfl (dl rfl (O.at rfl) (Mu (e:=5) rfl E9 E9 E9 rfl RX.all (λb4 xi w8 e4 x8 xb=>?_)))));have g4:=J.ge e4;have n4_3:=O.ltb e4;have ht:=z.lt;have z:=z.ext x8;have O:=O.ext x8;have J:=J.trans x8;refine li (e:=82) (sz:=1) (zs:=[.slice none 0 0]) (pv:=[(0,_)]) (cs:=[_]) RX.all (λb5 w9 e5 x9 m5=>?_);have g5:=J.ge e5;have n5_3:=O.ltb e5;have hy:=z.lt;have z:=z.ext x9;have O:=O.ext x9;have xb:=xb.ext x9;have J:=J.trans x9;have ha:¬ Hq b1 vc b3:=λY=>(A6 b3 (AF (hc _ Y) e3.symm));have Z:=O.lt;refine cD (KO w.heap.size b1 vc _ [(.slice (some ⟨b4,0,none⟩) r.key.length xi,r.key)] (.slice (some ⟨b5,0,none⟩) 1 1) _ z (Ae h5 EA) J.size (Kk m5) (λq h=>by rw[Ah.1 h];exact xb) (λq h=>by rw[Ah.1 h];exact(show r.key.length<=1000000 by omega)) EQ (λ_ Y=>(A6 b5 (AF (hy _ Y) e5.symm))) (λq h hl Y=>by rw[Ah.1 h]at hl Y;exact(A6 b4 (AF (ht _ Y) e4.symm)))) (.inl rfl) λu10 w10 xg xd=>?_;have hsz10:=J.size;have O:=O.mod xg ha;have J:=J.own xg (λi hi=>z.ge g1 hi);obtain⟨rfl,v2,z,hf⟩:=xd;rw[Js]at z;have hb:=Pt (p:=r.key) (M:=4096) h5 EA;have ha:=PI hf ha Z;refine de xo (ws λ_ xx=>ws λ_ xp=>wr (df 2 rfl (dl rfl (O.at rfl) (de xp (wc (λc3=>?_) λc3=>?_)))))
  ·refine ws λ_ xy=>wr (li (e:=3) (sz:=1) (zs:=[.int .i64 0]) (pv:=[(0,_)]) (cs:=[_]) RX.all (λb6 w11 e6 xc m6=>?_));have g6:=J.ge e6;have n6_3:=O.ltb e6;have hp:=z.lt;have O:=O.ext xc;have z:=z.ext xc;have J:=J.trans xc;have Z:=O.lt;refine cD (JQ w.heap.size b1 v2 _ [((1:Nat):Int)] (.slice (some ⟨b6,0,none⟩) 1 1) _ z (Ae hb EA) J.size (m6.arr (enc:=Vc.encI) (sz:=1) (l:=[((1:Nat):Int)]) rfl EE rfl EQ) EQ (λk9 Y _ hh=>by have hg:b6=k9:=hh;subst hg;exact(A6 b6 (AF (hp _ Y) e6.symm)))) (.inl rfl) λu12 w12 xh xk=>?_;have hsz12:=J.size;have O:=O.mod xh ha;have J:=J.own xh (λi hi=>z.ge g1 hi);obtain⟨rfl,v3,z,hf⟩:=xk;rw[Nh EA]at z;have hln31:=trivial;have ha:=PI hf ha Z;refine de xy (Ff (xe _ _ (wr (pa rfl rfl (dm (EF (?_)))))));refine⟨(k+1,v3),FQ,⟨J,by omega,?_⟩,by simp only [];omega⟩;rw[Sr hk,show G7 r=Fp r.key++(if r.del then EV 1 else EV 0++Fp r.val) from rfl,c3];simpa only [AA,AP,if_true,if_false,C7]using z
  refine EG (xx _ _ (ws λ_ ya=>wr (li (e:=3) (sz:=1) (zs:=[.int .i64 0]) (pv:=[(0,_)]) (cs:=[_]) RX.all (λb7 w13 e7 h7 m7=>?_))));have g7:=J.ge e7;have n7_3:=O.ltb e7;have hj:=z.lt;have O:=O.ext h7;have z:=z.ext h7;have J:=J.trans h7;have Z:=O.lt;refine cD (JQ w.heap.size b1 v2 _ [((0:Nat):Int)] (.slice (some ⟨b7,0,none⟩) 1 1) _ z (Ae hb EA) J.size (m7.arr (enc:=Vc.encI) (sz:=1) (l:=[((0:Nat):Int)]) rfl EE rfl EQ) EQ (λk9 Y _ hh=>by have hg:b7=k9:=hh;subst hg;exact(A6 b7 (AF (hj _ Y) e7.symm)))) (.inl rfl) λu14 w14 xn xl=>?_;have hsz14:=J.size;have O:=O.mod xn ha;have J:=J.own xn (λi hi=>z.ge g1 hi);obtain⟨rfl,v3,z,hf⟩:=xl;rw[Nh EA]at z;have xa:=OQ (n:=0) hb;refine de ya (KR [.p,.l,.x,.x,.x] rfl (df 1 rfl (dl rfl (O.at rfl) (Mu (e:=5) rfl E9 E9 E9 rfl RX.all (λb8 xm w15 e8 h8 h6=>?_)))));have g8:=J.ge e8;have n8_3:=O.ltb e8;have hr:=z.lt;have O:=O.ext h8;have z:=z.ext h8;have J:=J.trans h8;refine li (e:=82) (sz:=1) (zs:=[.slice none 0 0]) (pv:=[(0,_)]) (cs:=[_]) RX.all (λb9 w16 e9 hw m9=>?_);have g9:=J.ge e9;have n9_3:=O.ltb e9;have hq:=z.lt;have O:=O.ext hw;have z:=z.ext hw;have h6:=h6.ext hw;have J:=J.trans hw;have Z:=O.lt;refine cD (KO w.heap.size b1 v3 _ [(.slice (some ⟨b8,0,none⟩) r.val.length xm,r.val)] (.slice (some ⟨b9,0,none⟩) 1 1) _ z (Ae xa EA) J.size (Kk m9) (λq h=>by rw[Ah.1 h];exact h6) (λq h=>by rw[Ah.1 h];exact(show r.val.length<=1000000 by omega)) EQ (λ_ Y=>(A6 b9 (AF (hq _ Y) e9.symm))) (λq h hl Y=>by rw[Ah.1 h]at hl Y;exact(A6 b8 (AF (hr _ Y) e8.symm)))) (.inl rfl) λu17 w17 xq xj=>?_;have hsz17:=J.size;have J:=J.own xq (λi hi=>z.ge g1 hi);obtain⟨rfl,v4,z,hf⟩:=xj;rw[Js]at z;have hln38:=trivial;refine de xe (wr (pa rfl rfl (dm (EF (?_)))));refine⟨(k+1,v4),FQ,⟨J,by omega,?_⟩,by simp only [];omega⟩;rw[Sr hk,show G7 r=Fp r.key++(if r.del then EV 1 else EV 0++Fp r.val) from rfl,c3];simpa only [AA,AP,if_true,if_false,C7]using z
 have xv:=UT l k;have xz:=Gd l.length;have hln1:(EV l.length++(l.take k).flatMap G7).length<=60000:=by rw[Ab];omega
 refine Ff (Z8 _ _ (ws λ_ x0=>wr (cG (MK w.heap.size b1 vc _ _ z EA) RX.all λvo w18 xw hB=>?_)));have hsz18:=J.size;have J:=J.trans xw;refine da (da (de x0 (EH ?_)));refine rt ?_;rw[show k=l.length by omega,AK]at hB;rw[if_pos hE,hE];exact⟨_,rfl,J,_,rfl,hB.mono EA⟩
end Go.Proofs.YtiooodckiddpmaaGreatDoor
namespace Go.Sp
open Go.Vc (EC I S B)
structure Fi where
 id:Int
 lev:Int
 size:Int
 fst:EC
 lst:EC
deriving DecidableEq
@[reducible] def Fi.cs (f:Fi):List Value:=[I f.id,I f.lev,I f.size,S f.fst,S f.lst]
@[reducible] def Fi.v (f:Fi):Value:=.agg ⟨f.cs⟩
def Fi.zero : Fi:=⟨0,0,0,[],[]⟩
structure Vs where
 next:Int
 fs:List Fi
deriving DecidableEq
def GF (a b:Int):Int:=if a<b then -1 else if b<a then 1 else 0
def H4 (a b:EC):Int:=if EU a b=true then -1 else if EU b a=true then 1 else 0
def Hg (a b:Fi):Int:=if a.lev=0/\b.lev=0 then GF a.id b.id else if GF a.lev b.lev≠0 then GF a.lev b.lev else H4 a.fst b.fst
def Ie (a b:Fi):Bool:=if 0<a.lev/\a.lev=b.lev then EU a.lst b.fst else decide (Hg a b<0)
def KV (s:EC):Bool:=decide (1<=s.length) && decide (s.length<=4096)
def HN (n:Int)(f:Fi):Bool:=decide (1<=f.id) && decide (f.id<n) && decide (0<=f.lev) && decide (f.lev<=4) && decide (1<=f.size) && decide (f.size<=1048576) && KV f.fst && KV f.lst && !EU f.lst f.fst
def JA : List Fi->Bool
 | a :: b :: r=>Ie a b && JA (b :: r)
 | _=>true
def GI (v:Vs):Bool:=decide (1<=v.next) && decide (v.next<=1099511627776) && decide (v.fs.length<=1024) && v.fs.all (HN v.next) && decide ((v.fs.map (·.id)).Nodup) && JA v.fs
def Jj (lev:Int)(frm to:EC)(f:Fi):Bool:=decide (f.lev=lev) && !EU f.lst frm && !EU to f.fst
def HJ (fs:List Fi)(lev:Int)(frm to:EC):List Fi:=fs.filter (Jj lev frm to)
def JX (fs:List Fi)(key:EC):List Fi:=(HJ fs 0 key key).reverse++HJ fs 1 key key++HJ fs 2 key key++HJ fs 3 key key++HJ fs 4 key key
theorem OY {fs:List Fi}{k:Nat}{f:Fi}{lev:Int}{frm to:EC}(h:fs[k]?=some f):HJ (fs.take (k+1)) lev frm to=if Jj lev frm to f=true then HJ (fs.take k) lev frm to++[f]else HJ (fs.take k) lev frm to:=by
 unfold HJ;rw[List.take_add_one,h,List.filter_append];split
 ·rename_i h;simp [h]
 ·rename_i h;simp [h]
theorem MJ (fs:List Fi)(lev:Int)(frm to:EC):(HJ fs lev frm to).length<=fs.length:=List.length_filter_le _ _
theorem Xkn (fs:List Fi)(k:Nat)(lev:Int)(frm to:EC):(HJ (fs.take k) lev frm to).length<=fs.length:=by
 have:=MJ (fs.take k) lev frm to;rw[List.length_take]at this;omega
end Go.Sp
namespace Go.Proofs.YtiooodckiddpmaaGreatDoor
open Go.Vc Go.Sp
attribute [local irreducible] W XW Dw Gm
theorem WE (a b:EC):(!Op.bytesLess a b && !a == b)=Op.bytesLess b a:=by
 rcases Jm a b with h|h|h
 ·subst h;have:=HZ a;simp only [EU]at this;simp [this]
 ·have h2:=Jp h;simp only [EU]at h h2;simp [h,h2]
 ·have h2:=Jp h;have h3:=Ms h;simp only [EU]at h h2;simp [h,h2];exact λe=>h3 e.symm
theorem TY (a b:EC):(Op.bytesLess a b || a == b)=!Op.bytesLess b a:=by
 rw[<-WE a b];cases Op.bytesLess a b<;>cases(a == b)<;>rfl
section
variable {P:Program}{E:Fg}{d:Option Tmp}{ty:TypeId}{pos:String}{af:Array Edge}{g:Option (Nat×Bool)}
theorem Vp {x y:Operand}{T U:TypeId}{a b:EC}(hx:ev E x=S a)(hy:ev E y=S b):PV P ⟨d,.binOp .gtr T x y U,ty,pos,af,g⟩ E (.bool (Op.bytesLess b a)):=λw=>by
 rw[<-WE];simp [execOp,hx,hy,eqGuard,binOp,Op.stringOp]
theorem X9s {x y:Operand}{T U:TypeId}{a b:EC}(hx:ev E x=S a)(hy:ev E y=S b):PV P ⟨d,.binOp .leq T x y U,ty,pos,af,g⟩ E (.bool (!Op.bytesLess b a)):=λw=>by
 rw[<-TY];simp [execOp,hx,hy,eqGuard,binOp,Op.stringOp]
end
theorem Xwv {a b:Fi}(h1:a.lev=0)(h2:b.lev=0):Hg a b=GF a.id b.id:=by unfold Hg;rw[if_pos ⟨h1,h2⟩]
theorem Uy {a b:Fi}(h:¬ (a.lev=0/\b.lev=0)):Hg a b=if GF a.lev b.lev≠0 then GF a.lev b.lev else H4 a.fst b.fst:=by unfold Hg;rw[if_neg h]
theorem X6h {a b:EC}(h:EU a b=true):H4 a b=-1:=if_pos h
theorem X6i {a b:EC}(h:EU a b=false)(h2:EU b a=true):H4 a b=1:=by unfold H4;rw[if_neg (by rw[h];decide),if_pos h2]
theorem X6j {a b:EC}(h:EU a b=false)(h2:EU b a=false):H4 a b=0:=by unfold H4;rw[if_neg (by rw[h];decide),if_neg (by rw[h2];decide)]
def KN : List Int->Int
 | a :: r=>if a≠0 then a else KN r
 | []=>0
theorem Og (a b:Int):KN [a,b]=if a≠0 then a else b:=by
 unfold KN;unfold KN;unfold KN;split
 ·rfl
 ·split<;>simp_all
theorem SF {l:List Int}{k:Nat}{x:Int}(h:l[k]?=some x):KN (l.drop k)=if x≠0 then x else KN (l.drop (k+1)):=by rw[HY h];rfl
theorem Xp (x:Int)(w:World) :
  Calls Tryz.prog 304 [I x].toArray w (Pure w (B false)):=by
 refine cw Tryz.func304 ?_;have z:=EB.refl w;refine ws λ_ J=>wr (da (de J (ws λ_ r=>wr (dm (dm ?_)))));refine dp (F8 rfl rfl) (da (de r (EH ?_)));refine ro ?_;exact⟨by simp,z⟩
theorem Tp (x:EC)(w:World) :
  Calls Tryz.prog 305 [S x].toArray w (Pure w (B false)):=by
 refine cw Tryz.func305 ?_;have z:=EB.refl w;refine ws λ_ J=>wr (da (de J (ws λ_ r=>wr (dm (dm ?_)))));refine dp (LR rfl rfl) (da (de r (EH ?_)));refine ro ?_;exact⟨by simp,z⟩
theorem Qc (x y:Int)(w:World) :
  Calls Tryz.prog 247 [I x,I y].toArray w (Pure w (I (GF x y))):=by
 refine cw Tryz.func247 ?_;have r:=EB.refl w;refine ws λ_ Z1=>wr (da (de Z1 (ws λ_ Z2=>wr (dm ?_))));refine cP (Xp x _) RX.all λw1 x1=>?_;have r:=r.trans x1;refine da (de Z2 (ws λ_ Z3=>wr (dm ?_)));refine cP (Xp y _) RX.all λw2 x2=>?_;have r:=r.trans x2;refine da (de Z3 (ws λ_ Z4=>ws λ_ Z5=>wr (dm (de Z5 ?_))));refine wc (λc1=>?_) λc1=>?_
 ·cases c1
 refine EG (Z4 _ _ (ws λ_ Z6=>ws λ_ Z7=>wr (dm (de Z7 ?_))));refine wc (λc2=>?_) λc2=>?_
 ·cases c2
 refine EG (Z6 _ _ (ws λ_ Z8=>ws λ_ Z9=>wr (dm (dm ?_))));refine dp (Fa rfl rfl) (de Z9 (wi (λc3=>?_) λc3=>?_))
 ·refine ws λ_ Z=>wr (da (de Z (EH ?_)));refine ro ?_;refine⟨?_,r⟩;unfold GF;rw[if_pos EA];done
 refine EG (Z8 _ _ (ws λ_ Y=>ws λ_ J=>wr (dm (dm ?_))));refine dp (FY rfl rfl) (de J (wi (λc4=>?_) λc4=>?_))
 ·refine ws λ_ z=>wr (da (de z (EH ?_)));refine ro ?_;refine⟨?_,r⟩;unfold GF;rw[if_neg EA,if_pos EA];done
 refine EG (Y _ _ (ws λ_ O=>wr (da (de O (EH ?_)))));refine ro ?_;refine⟨?_,r⟩;unfold GF;rw[if_neg EA,if_neg EA]
theorem SQ (x y:EC)(w:World) :
  Calls Tryz.prog 249 [S x,S y].toArray w (Pure w (I (H4 x y))):=by
 refine cw Tryz.func249 ?_;have r:=EB.refl w;refine ws λ_ Z1=>wr (da (de Z1 (ws λ_ Z2=>wr (dm ?_))));refine cP (Tp x _) RX.all λw1 x1=>?_;have r:=r.trans x1;refine da (de Z2 (ws λ_ Z3=>wr (dm ?_)));refine cP (Tp y _) RX.all λw2 x2=>?_;have r:=r.trans x2;refine da (de Z3 (ws λ_ Z4=>ws λ_ Z5=>wr (dm (de Z5 ?_))));refine wc (λc1=>?_) λc1=>?_
 ·cases c1
 refine EG (Z4 _ _ (ws λ_ Z6=>ws λ_ Z7=>wr (dm (de Z7 ?_))));refine wc (λc2=>?_) λc2=>?_
 ·cases c2
 refine EG (Z6 _ _ (ws λ_ Z8=>ws λ_ Z9=>wr (dm (dm ?_))));refine dp (Nf rfl rfl) (de Z9 (wc (λz=>?_) λz=>?_))
 ·refine ws λ_ hb=>wr (da (de hb (EH ?_)));refine ro ?_;rw[X6h z];exact⟨rfl,r⟩
 refine EG (Z8 _ _ (ws λ_ ha=>ws λ_ Y=>wr (dm (dm ?_))));refine dp (Vp rfl rfl) (de Y (wc (λO=>?_) λO=>?_))
 ·refine ws λ_ J=>wr (da (de J (EH ?_)));refine ro ?_;rw[X6i z O];exact⟨rfl,r⟩
 refine EG (ha _ _ (ws λ_ Z=>wr (da (de Z (EH ?_)))));refine ro ?_;rw[X6j z O];exact⟨rfl,r⟩
theorem VZ (l:List Int)(v:Value)(w:World)(hv:EM Vc.encI 1 w v l)(hl:l.length<=1000000) :
  Calls Tryz.prog 248 [v].toArray w (Pure w (I (KN l))):=by
 refine cw Tryz.func248 ?_;have r:=EB.refl w;refine ws λ_ Z1=>wr (da (de Z1 (ws λ_ Z2=>wr (da (de Z2 (ws λ_ Z3=>ws λ_ Z4=>wr (dm ?_)))))));refine dv 3 1 hv.sl (dm (de Z4 (EN ?_)));refine Fk (G:=Nat) (λk=>[(3,I 0),(6,v),(7,I ↑l.length),(8,I ↑k)]) (λk w'=>EB w w'/\k<=l.length/\KN l=KN (l.drop k)) (λk=>l.length-k) 0 ?_ ?_ ?_
 ·exact FU
 ·exact⟨r,Ad _,rfl⟩
 intro X1 g1 w1 z;revert z;revert g1;intro k z;clear r;obtain⟨r,hk1,ho⟩:=z;refine ws λ_ Z5=>wr (dp (Fa rfl rfl) (de Z5 (ws λ_ Z=>wi (λc1=>?_) λc1=>?_)))
 ·obtain⟨x,hk⟩:∃x,l[k]?=some x:=Fq;refine EG (Z _ _ (ws λ_ Z7=>EN (ws λ_ Z8=>wr (di 3 1 hv.sl rfl (hv.lt hk) (dl rfl (((hv.ext r).row hk).at0 rfl) (da (de Z8 (ws λ_ Z9=>wr (dm (dm ?_))))))))));refine dp (F8 rfl rfl) (de Z9 (wi (λJ=>?_) λJ=>?_))
  ·refine ws λ_ Y=>wr (dm (da (de Y (EH ?_))));refine ro ?_;refine⟨?_,r⟩;rw[ho,SF hk,if_pos J]
  refine EG (Z7 _ _ (wr (pa rfl rfl (dm (EF (?_))))));refine⟨k+1,FU,⟨r,by omega,?_⟩,by omega⟩;rw[ho,SF hk,if_neg (λe=>e (AI J))]
 refine Ff (Z3 _ _ (ws λ_ O=>wr (dm (da (de O (EH ?_))))));refine ro ?_;refine⟨?_,r⟩;rw[ho,List.drop_eq_nil_of_le EA];rfl
theorem Vd (s:EC)(w:World) :
  Calls Tryz.prog 181 [S s].toArray w (Pure w (B (KV s))):=by
 refine cw Tryz.func181 ?_;have z:=EB.refl w;refine ws λ_ O=>wr (da (de O (ws λ_ r=>wr (dm ?_))));refine dt rfl (dp (IB rfl rfl) (dm ?_));refine Fz 6 rfl (λJ=>?_) (λJ=>?_)
 ·refine dm ?_;refine dt rfl (dp (IM rfl rfl) (EO ?_));refine da (de r (EH ?_));refine ro ?_;refine⟨?_,z⟩;simp only [Ending.returned.injEq,Value.bool.injEq];unfold KV;rw[decide_eq_true (show 1<=s.length by omega),Cu];exact decide_eq_decide.2 EA
 refine dk (dk (dk (EO ?_)));refine da (de r (EH ?_));refine ro ?_;refine⟨?_,z⟩;simp only [Ending.returned.injEq,Value.bool.injEq];unfold KV;rw[decide_eq_false (show¬ 1<=s.length by omega)];rfl
theorem PP (a b:Fi)(w:World) :
  Calls Tryz.prog 175 [a.v,b.v].toArray w (Pure w (I (Hg a b))):=by
 refine cw Tryz.func175 ?_;have r:=EB.refl w;refine ws λ_ Z1=>wr (Gc rfl rfl rfl RX.all (λb1 w1 e1 x1 z=>?_));have g1:=r.ge e1;have r:=r.trans x1;refine Gc rfl rfl rfl RX.all (λb2 w2 e2 x2 J=>?_);have g2:=r.ge e2;have n2_1:=z.ltb e2;have z:=z.ext x2;have r:=r.trans x2;refine da (de Z1 (ws λ_ Z2=>ws λ_ Z3=>wr ?_));refine df 1 rfl (dl rfl (z.at rfl) (dp (G1 rfl rfl) (dm ?_)));refine Fz 8 rfl (λc1=>?_) (λc1=>?_)
 ·refine df 1 rfl (dl rfl (J.at rfl) (dp (G1 rfl rfl) (EO (de Z3 ?_))));refine wi (λc2=>?_) λc2=>?_
  ·refine ws λ_ Z4=>wr (df 0 rfl (dl rfl (z.at rfl) (df 0 rfl (dl rfl (J.at rfl) (cP (Qc a.id b.id _) RX.all λw3 x3=>?_)))));have z:=z.ext x3;have J:=J.ext x3;have r:=r.trans x3;refine da (de Z4 (EH ?_));refine ro ?_;refine⟨?_,r⟩;rw[Xwv EA EA];done
  refine EG (Z2 _ _ (ws λ_ Z5=>F4 (R:=EB) EB.refl (λ_ _ _=>EB.trans) E9 [1,3,6,8] [(0,.p,false),(1,.l,false),(2,.p,false),(3,.l,false),(5,.p,false),(6,.l,false),(7,.p,false),(8,.l,false),(4,.x,false),(9,.x,false),(10,.x,false),(11,.x,false),(12,.p,false)] rfl E9 E9 (λw4 Y=>?_)));have x4:=EJ Y;clear Y;have z:=z.ext x4;have J:=J.ext x4;have r:=r.trans x4;refine df 1 rfl (dL rfl (λ_ O=>((z.ext O).at rfl)) (df 1 rfl (dL rfl (λ_ O=>((J.ext O).at rfl)) (df 3 rfl (dL rfl (λ_ O=>((z.ext O).at rfl)) (df 3 rfl (dL rfl (λ_ O=>((J.ext O).at rfl)) (cP (Qc a.lev b.lev _) RX.ext λw5 x5=>?_))))))));have z:=z.ext x5;have J:=J.ext x5;have r:=r.trans x5;refine cP (SQ a.fst b.fst _) RX.ext λw6 x6=>?_;have z:=z.ext x6;have J:=J.ext x6;have r:=r.trans x6;refine li (e:=3) (sz:=1) (zs:=[.int .i64 0]) (pv:=[(0,_),(1,_)]) (cs:=[_,_]) RX.ext (λb3 w7 e3 x7 m3=>?_);have g3:=r.ge e3;have n3_1:=z.ltb e3;have n3_2:=J.ltb e3;have z:=z.ext x7;have J:=J.ext x7;have r:=r.trans x7;refine cP (VZ [GF a.lev b.lev,H4 a.fst b.fst] _ _ (m3.arr (enc:=Vc.encI) (l:=[GF a.lev b.lev,H4 a.fst b.fst]) rfl EE rfl EQ) EQ) RX.ext λw8 x8=>?_;have z:=z.ext x8;have J:=J.ext x8;have r:=r.trans x8;refine da (de Z5 (EH ?_));refine ro ?_;refine⟨?_,r⟩;rw[Uy EA,Og]
 refine dk (dk (dk (EO (de Z3 ?_))));refine GB rfl (EG (Z2 _ _ (ws λ_ Z6=>F4 (R:=EB) EB.refl (λ_ _ _=>EB.trans) E9 [1,3,6,8] [(0,.p,false),(1,.l,false),(2,.p,false),(3,.l,false),(5,.p,false),(6,.l,false),(7,.p,false),(8,.l,false),(4,.x,false),(9,.x,false),(10,.x,false),(11,.x,false),(12,.p,false)] rfl E9 E9 (λw9 Z=>?_))));have x9:=EJ Z;clear Z;have z:=z.ext x9;have J:=J.ext x9;have r:=r.trans x9;refine df 1 rfl (dL rfl (λ_ O=>((z.ext O).at rfl)) (df 1 rfl (dL rfl (λ_ O=>((J.ext O).at rfl)) (df 3 rfl (dL rfl (λ_ O=>((z.ext O).at rfl)) (df 3 rfl (dL rfl (λ_ O=>((J.ext O).at rfl)) (cP (Qc a.lev b.lev _) RX.ext λw10 ha=>?_))))))));have r:=r.trans ha;refine cP (SQ a.fst b.fst _) RX.ext λw11 hf=>?_;have r:=r.trans hf;refine li (e:=3) (sz:=1) (zs:=[.int .i64 0]) (pv:=[(0,_),(1,_)]) (cs:=[_,_]) RX.ext (λb4 w12 e4 hb m4=>?_);have g4:=r.ge e4;have r:=r.trans hb;refine cP (VZ [GF a.lev b.lev,H4 a.fst b.fst] _ _ (m4.arr (enc:=Vc.encI) (l:=[GF a.lev b.lev,H4 a.fst b.fst]) rfl EE rfl EQ) EQ) RX.ext λw13 hc=>?_;have r:=r.trans hc;refine da (de Z6 (EH ?_));refine ro ?_;refine⟨?_,r⟩;rw[Uy EA,Og]
theorem X9v (a b:Fi)(w:World) :
  Calls Tryz.prog 182 [a.v,b.v].toArray w (Pure w (B (Ie a b))):=by
 refine cw Tryz.func182 ?_;have r:=EB.refl w;refine ws λ_ Z1=>wr (Gc rfl rfl rfl RX.all (λb1 w1 e1 x1 z=>?_));have g1:=r.ge e1;have r:=r.trans x1;refine Gc rfl rfl rfl RX.all (λb2 w2 e2 x2 J=>?_);have g2:=r.ge e2;have n2_1:=z.ltb e2;have z:=z.ext x2;have r:=r.trans x2;refine da (de Z1 (ws λ_ Z=>ws λ_ Y=>wr ?_));refine df 1 rfl (dl rfl (z.at rfl) (dp (FY rfl rfl) (dm ?_)));refine Fz 8 rfl (λc1=>?_) (λc1=>?_)
 ·refine df 1 rfl (dl rfl (z.at rfl) (df 1 rfl (dl rfl (J.at rfl) (dp (G1 rfl rfl) (EO (de Y ?_))))));refine wi (λc2=>?_) λc2=>?_
  ·refine ws λ_ Z4=>wr (df 4 rfl (dl rfl (z.at rfl) (df 3 rfl (dl rfl (J.at rfl) (dp (Nf rfl rfl) (da (de Z4 (EH ?_))))))));refine ro ?_;refine⟨?_,r⟩;unfold Ie;rw[if_pos EA];done
  refine EG (Z _ _ (ws λ_ Z5=>wr (dq (Fb (k:=5) E9 rfl rfl z.row) (dq (Fb (k:=5) E9 rfl rfl J.row) (cP (PP a b _) RX.all λw3 O=>?_)))));have z:=z.ext O;have J:=J.ext O;have r:=r.trans O;refine dp (Fa rfl rfl) (da (de Z5 (EH ?_)));refine ro ?_;refine⟨?_,r⟩;unfold Ie;rw[if_neg EA]
 refine dk (dk (dk (dk (dk (EO (de Y ?_))))));refine GB rfl (EG (Z _ _ (ws λ_ Z6=>wr (dq (Fb (k:=5) E9 rfl rfl z.row) (dq (Fb (k:=5) E9 rfl rfl J.row) (cP (PP a b _) RX.all λw4 x4=>?_))))));have r:=r.trans x4;refine dp (Fa rfl rfl) (da (de Z6 (EH ?_)));refine ro ?_;refine⟨?_,r⟩;unfold Ie;rw[if_neg EA]
theorem Xix {lev:Int}{frm to:EC}{f:Fi}(h1:f.lev=lev)(h2:(!Op.bytesLess f.lst frm)=true)(h3:(!Op.bytesLess to f.fst)=true):Jj lev frm to f=true:=by
 unfold Jj;rw[decide_eq_true h1,show EU f.lst frm=Op.bytesLess f.lst frm from rfl,h2,show EU to f.fst=Op.bytesLess to f.fst from rfl,h3];rfl
theorem Xiy {lev:Int}{frm to:EC}{f:Fi}(h1:¬ f.lev=lev):¬ Jj lev frm to f=true:=by unfold Jj;rw[decide_eq_false h1];simp
theorem Xiz {lev:Int}{frm to:EC}{f:Fi}(h2:(!Op.bytesLess f.lst frm)=false):¬ Jj lev frm to f=true:=by unfold Jj;rw[show EU f.lst frm=Op.bytesLess f.lst frm from rfl,h2];simp
theorem Xi0 {lev:Int}{frm to:EC}{f:Fi}(h3:(!Op.bytesLess to f.fst)=false):¬ Jj lev frm to f=true:=by unfold Jj;rw[show EU to f.fst=Op.bytesLess to f.fst from rfl,h3];simp
theorem Ou (n:Int)(fs:List Fi)(vf:Value)(lev:Int)(frm to:EC)(w:World)(hv:EM Fi.cs 5 w vf fs)(hl:fs.length<=100000) :
  Calls Tryz.prog 108 [.agg ⟨[I n,vf]⟩,I lev,S frm,S to].toArray w (ER w (λu w'=>Vc.Own Fi.cs 5 62 w.heap.size w' u (HJ fs lev frm to))):=by
 refine cw Tryz.func108 ?_;have r:=EB.refl w;refine ws λ_ Z1=>wr (Gc rfl rfl rfl RX.all (λb1 w1 e1 x1 m1=>?_));have g1:=r.ge e1;have r:=r.trans x1;refine da (de Z1 (ws λ_ Z2=>wr (da (de Z2 (ws λ_ Z3=>ws λ_ Z4=>wr ?_)))));refine df 1 rfl (dl rfl (m1.at rfl) (dv 62 5 (hv.ext r).sl (dm (de Z4 (EN ?_)))));refine Fk (G:=Nat×Value) (λ(k,Y)=>[(1,I lev),(2,S frm),(3,S to),(8,.slice none 0 0),(9,Y),(13,vf),(14,I ↑fs.length),(15,I ↑k)]) (λ(k,Y) w'=>EB w w'/\k<=fs.length/\Vc.Own Fi.cs 5 62 w.heap.size w' Y (HJ (fs.take k) lev frm to)) (λ(k,Y)=>fs.length-k) (0,.slice none 0 0) ?_ ?_ ?_
 ·exact KJ
 ·exact⟨r,Ad _,Vc.Own.nil⟩
 intro X2 g2 w2 ha;obtain⟨k,Y⟩:=g2;clear r m1;obtain⟨r,hk1,ho⟩:=ha;refine ws λ_ Z5=>wr (dp (Fa rfl rfl) (de Z5 (ws λ_ Z6=>wi (λc1=>?_) λc1=>?_)))
 ·obtain⟨f,hk⟩:∃f,fs[k]?=some f:=Fq;have hlen:=Xkn fs k lev frm to;refine EG (Z6 _ _ (ws λ_ Z=>EN (ws λ_ Z8=>wr (di 62 5 (hv.ext r).sl rfl ((hv.ext r).lt hk) (dq (Fb E9 rfl rfl ((hv.ext r).row hk)) (FG (cs:=[.int .i64 0,.int .i64 0,.int .i64 0,S [],S []]) rfl E9 RX.all (λb2 w3 e2 x3 z=>?_)))))));have g2:=r.ge e2;have J:=ho.ltb e2;have ho:=ho.ext x3;have r:=r.trans x3;refine FM z (λw4 x4 xs4 z=>?_);dsimp only [Fe,Ag,Af,Ai]at z;have ho:=ho.mod x4 (by intro k hk h;have h1:=J k hk;have h2:k=b2:=h;omega);have r:=r.o1 x4;refine de Z8 (ws λ_ Z9=>wr (df 1 rfl (dl rfl (z.at rfl) (dm ?_))));refine dp (G1 rfl rfl) (dm ?_);refine Fz 23 rfl (λc2=>?_) (λc2=>?_)
  ·refine df 4 rfl (dl rfl (z.at rfl) (dm ?_));refine dp (Rb rfl rfl) (EO ?_);refine dm ?_;refine I8 29 rfl (λc3=>?_) (λc3=>?_)
   ·refine df 3 rfl (dl rfl (z.at rfl) (dm ?_));refine dp (X9s rfl rfl) (EO (de Z9 ?_));refine wc (λc4=>?_) λc4=>?_
    ·refine wr (dm ?_);refine dq (Fb (k:=5) E9 rfl rfl z.row) (li (e:=62) (sz:=5) (zs:=[.int .i64 0,.int .i64 0,.int .i64 0,S [],S []]) (pv:=[(0,.agg ⟨[_,_,_,_,_]⟩)]) (cs:=[_,_,_,_,_]) RX.all (λb3 w5 e3 x5 m3=>?_));have g3:=r.ge e3;have o3_ho:=ho.ltb e3;have ho:=ho.ext x5;have r:=r.trans x5;refine Gv (lx:=[f]) (e:=62) (sz:=5) (by':=56) rfl E9 E9 EE ho (m3.arr (enc:=Fi.cs) (sz:=5) (l:=[f]) rfl EE rfl (Ap rfl)) rfl rfl (by intro x _ u hu;simp at hu;rcases hu with rfl|rfl|rfl|rfl|rfl<;>rfl) (by simp;omega) EK r.size (.inl rfl) (λvm2 w6 O x6=>?_);have r:=r.own x6 (λi hi=>(ho.lt i hi).1);have ho:=O;clear m3;refine da (de Z (wr ?_));refine pa rfl rfl (dm (EF (?_)));refine⟨(k+1,_),KJ,⟨r,by omega,?_⟩,by simp only [];omega⟩;rw[OY hk];rw[if_pos (Xix EA ‹_› ‹_›)];exact ho
    refine EG (Z _ _ (wr (pa rfl rfl (dm (EF (?_))))));refine⟨(k+1,_),KJ,⟨r,by omega,?_⟩,by simp only [];omega⟩;rw[OY hk];rw[if_neg (Xi0 ‹_›)];exact ho
   refine dk (dk (dk (dk (EO (de Z9 ?_)))));refine GB rfl (EG (Z _ _ (wr (pa rfl rfl (dm (EF (?_)))))));refine⟨(k+1,_),KJ,⟨r,by omega,?_⟩,by simp only [];omega⟩;rw[OY hk];rw[if_neg (Xiz ‹_›)];exact ho
  refine dk (dk (dk (dk (EO ?_))));refine dm ?_;refine dk (dk (dk (dk (EO (de Z9 ?_)))));refine GB rfl (EG (Z _ _ (wr (pa rfl rfl (dm (EF (?_)))))));refine⟨(k+1,_),KJ,⟨r,by omega,?_⟩,by simp only [];omega⟩;rw[OY hk];rw[if_neg (Xiy EA)];exact ho
 refine Ff (Z3 _ _ (ws λ_ hb=>wr (dm (da (de hb (EH ?_))))));refine ro ?_;exact⟨_,rfl,r,by rw[Ax EA]at ho;exact ho⟩
def Kz {α:Type}(l cur:List α)(k:Nat):Prop:=cur.length=l.length/\∀i,i<l.length->cur[i]?=if i<k\/l.length-1-k<i then l[l.length-1-i]? else l[i]?
theorem X9w {α:Type}(l:List α):Kz l l 0:=⟨rfl,λi hi=>by rw[if_neg EA]⟩
theorem Xwz {α:Type}{l cur:List α}{k:Nat}{a b:α}(h:Kz l cur k)(hk:2*k+1<l.length)(ha:cur[k]?=some a)(hb:cur[l.length-1-k]?=some b):Kz l ((cur.set k b).set (l.length-1-k) a) (k+1):=by
 refine⟨by rw[AG,AG];exact h.1,λi hi=>?_⟩;have h1:=h.2 k EA;have h2:=h.2 (l.length-1-k) EA;rw[ha,if_neg EA]at h1;rw[hb,if_neg EA]at h2;rw[C5]
 by_cases e:l.length-1-k=i
 ·rw[if_pos e,if_pos (by rw[AG,h.1];omega),if_pos EA,h1];congr 1;omega
 ·rw[if_neg e,C5]
  by_cases e2:k=i
  ·rw[if_pos e2,if_pos (by rw[h.1];omega),if_pos EA,h2];congr 1;omega
  ·rw[if_neg e2,h.2 i hi]
   by_cases e3:i<k\/l.length-1-k<i
   ·rw[if_pos e3,if_pos EA]
   ·rw[if_neg e3,if_neg EA]
theorem X0j {α:Type}{l cur:List α}{k:Nat}(h:Kz l cur k)(hk:l.length<=2*k+1)(hk2:2*k<=l.length):cur=l.reverse:=by
 apply BA
 intro i
 by_cases hi:i<l.length
 ·rw[h.2 i hi,List.getElem?_reverse hi];split
  ·rfl
  ·congr 1;omega
 ·rw[Bl (by rw[h.1];omega),Bl (by simp;omega)]
def MY (fs:List Fi)(key:EC):Nat->List Fi
 | 0=>(HJ fs 0 key key).reverse
 | n+1=>MY fs key n++HJ fs (↑(n+1)) key key
theorem VS (fs:List Fi)(key:EC):MY fs key 4=JX fs key:=rfl
theorem XL (fs:List Fi)(key:EC)(n:Nat):(MY fs key n).length<=(n+1)*fs.length:=by
 induction n with
 | zero=>unfold MY;rw[List.length_reverse];have:=MJ fs 0 key key;omega
 | succ n ih=>
  unfold MY;rw[Ab,Nat.succ_mul];have:=MJ fs (↑(n+1)) key key;omega
theorem Ybm (l:List Fi)(v:Value)(Bo:Nat)(w:World)(ho:Vc.Own Fi.cs 5 62 Bo w v l)(hl:l.length<=100000) :
  Calls Tryz.prog 184 [v].toArray w (Fh (λk=>v.ownBlock=some k) w (λu w'=>u=.tuple #[]/\Vc.Own Fi.cs 5 62 Bo w' v l.reverse)):=by
 refine cw Tryz.func184 ?_;have z:=Vc.Mod.refl (λk=>v.ownBlock=some k) w;refine ws λ_ Z1=>wr (dm ?_);refine dv 62 5 (ho.arr EE).sl (EW (v:=I (↑l.length-1-↑(0:Nat))) rfl (Ga rfl rfl (by unfold ET;omega)) (by show I _=I _;congr 1;omega) (da (da (de Z1 (EN ?_)))));refine Fk (G:=Nat×List Fi) (λ(k,cur)=>[(0,v),(2,I ↑k),(3,I (↑l.length-1-↑k))]) (λ(k,cur) w'=>Mod (λk=>v.ownBlock=some k) w w'/\2*k<=l.length/\Kz l cur k/\Vc.Own Fi.cs 5 62 Bo w' v cur) (λ(k,cur)=>l.length-k) (0,l) ?_ ?_ ?_
 ·exact Hj
 ·exact⟨z,Ad _,X9w l,ho⟩
 intro X1 g1 w1 hc;obtain⟨k,cur⟩:=g1;clear z ho;obtain⟨z,hk2,hr,ho⟩:=hc;refine ws λ_ Z2=>ws λ_ Z3=>wr (dm (dm ?_));refine dp (Fa rfl rfl) (de Z3 (wi (λc1=>?_) λc1=>?_))
 ·have hcl:=hr.1;obtain⟨a,ha⟩:∃a,cur[k]?=some a:=Fq;obtain⟨b,hb⟩:∃b,cur[l.length-1-k]?=some b:=Fq;obtain⟨cs9,cap9,J,_⟩:=ho.cells (λe=>by rw[e]at ha;simp at ha);refine EG (Z2 _ _ (ws λ_ Z4=>EN (F4 (R:=EB) EB.refl (λ_ _ _=>EB.trans) E9 [7,11] [(0,.p,false),(1,.p,false),(2,.p,false),(3,.p,false),(4,.p,false),(5,.p,false),(6,.p,false),(7,.l,false),(8,.p,false),(9,.p,false),(10,.p,false),(11,.l,false),(12,.p,false),(13,.x,true),(14,.p,false),(15,.x,true)] rfl E9 E9 (λw2 O=>?_))));have x2:=EJ O;clear O;have ho:=ho.ext x2;have z:=z.ext x2
  iterate 3 refine dm ?_
  refine EW (v:=I ↑(l.length-1-k)) rfl (KA rfl) (by show I _=I _;congr 1;omega) (dm ?_);refine EW (v:=I ↑(l.length-1-k)) rfl (KA rfl) (by show I _=I _;congr 1;omega) (di 62 5 (ho.arr EE).sl rfl ((ho.arr EE).lt hb) (FK rfl (λw' Y=>Fb E9 rfl rfl (((ho.arr EE).ext Y).row hb)) (dm (dm ?_))));refine di 62 5 (ho.arr EE).sl rfl ((ho.arr EE).lt ha) (FK rfl (λw' Y=>Fb E9 rfl rfl (((ho.arr EE).ext Y).row ha)) (EW (v:=ED (base v).1 (k*5+0)) rfl (HM (e:=62) (k:=5) E9 ho.sl rfl rfl (by omega)) (by rw[J];show ED _ (0+_)=_;rw[A9];rfl) ?_));refine H5 (enc:=Fi.cs) (sz:=5) (i:=k) (j:=0) (x:=b) (vs:=b.cs) EE rfl ho rfl rfl rfl E9 (by omega) rfl (Aa 5) (by intro v hv;simp at hv;rcases hv with rfl|rfl|rfl|rfl|rfl<;>rfl) (.inl rfl) (λw3 x3 xs3 r=>?_);have z:=z.own x3 (λi hi Z=>hi);have ho:=r;refine EW (v:=ED (base v).1 ((l.length-1-k)*5+0)) rfl (HM (e:=62) (k:=5) E9 ho.sl rfl rfl (by rw[AG];omega)) (by rw[J];show ED _ (0+_)=_;rw[A9];rfl) ?_;refine H5 (enc:=Fi.cs) (sz:=5) (i:=(l.length-1-k)) (j:=0) (x:=a) (vs:=a.cs) EE rfl ho rfl rfl rfl E9 (by rw[AG];omega) rfl (Aa 5) (by intro v hv;simp at hv;rcases hv with rfl|rfl|rfl|rfl|rfl<;>rfl) (.inl rfl) (λw4 x4 xs4 r=>?_);have z:=z.own x4 (λi hi Z=>hi);have ho:=r;refine de Z4 (wr (dm ?_));refine pa rfl rfl (dm ?_);refine EW (v:=I (↑l.length-1-↑(k+1))) rfl (Ga rfl rfl (by unfold ET;omega)) (by show I _=I _;congr 1;omega) (da (da (EF (?_))));exact⟨(k+1,_),Hj,⟨z,by omega,Xwz hr EA ha hb,ho⟩,by simp only [];omega⟩
 refine Ff (HI (Hi rfl ?_));rw[X0j hr EA EA]at ho;exact⟨_,rfl,z,rfl,ho⟩
theorem X6k (n:Int)(fs:List Fi)(vf:Value)(key:EC)(w:World)(hv:EM Fi.cs 5 w vf fs)(hl:fs.length<=100000) :
  Calls Tryz.prog 113 [.agg ⟨[I n,vf]⟩,S key].toArray w (ER w (λu w'=>Vc.Own Fi.cs 5 62 w.heap.size w' u (JX fs key))):=by
 refine cw Tryz.func113 ?_;have r:=EB.refl w;refine ws λ_ Z1=>wr (Gc rfl rfl rfl RX.all (λb1 w1 e1 x1 z=>?_));have g1:=r.ge e1;have r:=r.trans x1;refine da (de Z1 (ws λ_ Z2=>wr ?_));refine dq (Fb (k:=2) E9 rfl rfl z.row) (dm (dm ?_));refine cG (Ou n fs vf 0 key key _ (hv.ext r) hl) RX.all λO w2 x2 ha=>?_;have Z:=r.size;have z:=z.ext x2;have r:=r.trans x2;have ho:=ha.mono Z;refine da (de Z2 (ws λ_ Z3=>wr (dm ?_)));refine cD (Ybm (HJ fs 0 key key) O w.heap.size _ ho (by have:=MJ fs 0 key key;omega)) (.inl rfl) λu3 w3 x3 hg=>?_;have hsz3:=r.size;have z:=z.mod x3 (λe=>ho.ne_blk z rfl e);have r:=r.own x3 (λi hi=>(ho.lt i hi).1);obtain⟨rfl,ho⟩:=hg;refine de Z3 (ws λ_ Z4=>ws λ_ Z5=>wr (da (de Z5 (EN ?_))));refine Fk (G:=Nat×Value) (λ(k,vl)=>[(1,S key),(2,ED b1 0),(4,.slice none 0 0),(5,vl),(6,I ↑(k+1))]) (λ(k,vl) w'=>EB w w'/\EL w' b1 [I n,vf] 56/\k<=4/\Vc.Own Fi.cs 5 62 w.heap.size w' vl (MY fs key k)) (λ(k,vl)=>4-k) (0,O) ?_ ?_ ?_
 ·exact FA
 ·exact⟨r,z,Ad _,ho⟩
 intro X4 g4 w4 hb;obtain⟨k,vl⟩:=g4;clear r z ho;obtain⟨r,z,hk1,ho⟩:=hb;refine ws λ_ Z6=>ws λ_ Z7=>wr (dm ?_);refine dp (IM rfl rfl) (de Z7 (wi (λc1=>?_) λc1=>?_))
 ·refine EG (Z6 _ _ (ws λ_ Z8=>EN (wr (dm ?_))));refine dq (Fb (k:=2) E9 rfl rfl z.row) (dm (dm (dm ?_)));refine cG (Ou n fs vf ↑(k+1) key key _ (hv.ext r) hl) RX.all λvo w5 x5 hf=>?_;have hsz5:=r.size;have z:=z.ext x5;have ho:=ho.ext x5;have r:=r.trans x5;refine KG (lx:=(HJ fs ↑(k+1) key key)) (e:=62) (sz:=5) (by':=56) rfl E9 E9 EE ho ((hf.arr EE)) rfl rfl (by intro x _ u hu;simp at hu;rcases hu with rfl|rfl|rfl|rfl|rfl<;>rfl) (by have h1:=XL fs key k;have h2:=MJ fs ↑(k+1) key key;have h3:(k+1)*fs.length<=5*fs.length:=Nat.mul_le_mul_right _ EA;omega) EK r.size (.inl rfl) (λhc w6 Y x6 hwh6=>?_);have J:=z.mod x6 (λe=>ho.ne_blk z rfl e);have r:=r.own x6 (λi hi=>(ho.lt i hi).1);have ho:=Y;have z:=J;clear J;refine da (de Z8 (wr (dm ?_)));refine EW (v:=I ↑(k+1+1)) rfl (Gx rfl rfl (by unfold ET;omega)) (by show I _=I _;congr 1) (da (EF (?_)));exact⟨(k+1,hc),FA,⟨r,z,by omega,ho⟩,by simp only [];omega⟩
 refine Ff (Z4 _ _ (ws λ_ Z9=>wr (dm (da (de Z9 (EH ?_))))));refine ro ?_;rw[show k=4 by omega,VS]at ho;exact⟨_,rfl,r,ho⟩
def ML (ids:List Int):Int->Option Bool:=λx=>if x∈ids then some true else none
theorem Wv (ids:List Int)(x:Int):putF (ML ids) x true=ML (ids++[x]):=by
 funext y
 unfold putF ML
 by_cases e:y=x
 ·simp [e]
 ·simp [e]
theorem RS (ids:List Int)(x:Int):(ML ids x).getD false=decide (x∈ids):=by
 unfold ML;split<;>simp_all
theorem OV : MapK Tryz.prog 258 3 4 Vc.I B ET:=mapI E9 E9 Tu
theorem UC {l:List Fi}(h:JA l=true){k:Nat}{a b:Fi}(ha:l[k]?=some a)(hb:l[k+1]?=some b):Ie a b=true:=by
 induction l generalizing k with
 | nil=>cases ha
 | cons x r ih=>
  cases r with
  | nil=>simp at hb
  | cons y r=>
   unfold JA at h;rw[Au]at h
   cases k with
   | zero=>simp at ha hb;subst ha hb;exact h.1
   | succ k=>exact ih h.2 (by simpa using ha) (by simpa using hb)
theorem X6l {l:List Fi}(h:∀(k:Nat) (a b:Fi),l[k]?=some a->l[k+1]?=some b->Ie a b=true):JA l=true:=by
 induction l with
 | nil=>rfl
 | cons x r ih=>
  cases r with
  | nil=>rfl
  | cons y r=>
   unfold JA;rw[h 0 x y rfl rfl,Cu];exact ih (λk a b J z=>h (k+1) a b (by simpa using J) (by simpa using z))
section
variable {n:Int}{fs:List Fi}{k:Nat}{f:Fi}
theorem PN (h:n<1\/1099511627776<n\/1024<fs.length):GI ⟨n,fs⟩=false:=by
 unfold GI;simp only [C8,decide_eq_false_iff_not];rcases h with h|h|h<;>simp [*]<;>omega
theorem Lv (hk:fs[k]?=some f)(h:HN n f=false):GI ⟨n,fs⟩=false:=by
 have:(fs.all (HN n))=false:=by
  rw[<-BY,AU];intro h2;have:=h2 f (Ak hk);rw[h]at this;cases this
 unfold GI;simp [this]
theorem MQ (h:f.id<1\/n<=f.id\/f.lev<0\/4<f.lev\/f.size<1\/1048576<f.size):HN n f=false:=by
 rw[<-BY];intro h2;unfold HN at h2;simp only [Au,decide_eq_true_eq]at h2;omega
theorem Ybn (h:KV f.fst=false):HN n f=false:=by unfold HN;simp [h]
theorem Ybo (h:KV f.lst=false):HN n f=false:=by unfold HN;simp [h]
theorem Ybp (h:Op.bytesLess f.lst f.fst=true):HN n f=false:=by unfold HN;rw[show EU f.lst f.fst=Op.bytesLess f.lst f.fst from rfl,h];simp
theorem X9x (hk:fs[k]?=some f)(h:f.id∈(fs.take k).map (·.id)):GI ⟨n,fs⟩=false:=by
 have:¬ (fs.map (·.id)).Nodup:=by
  intro hn;have e:fs.map (·.id)=(fs.take k).map (·.id)++(fs.drop k).map (·.id):=by rw[<-AC,List.take_append_drop]
  rw[e]at hn;refine(BK.1 hn).2.2 _ h f.id ?_ rfl;rw[HY hk];simp
 unfold GI;simp [this]
theorem Ybq {x:Fi}(hk:fs[k]?=some f)(h0:0<k)(hx:fs[k-1]?=some x)(h:Ie x f=false):GI ⟨n,fs⟩=false:=by
 have:JA fs=false:=by
  rw[<-BY];intro h2;have:=UC h2 hx (by rw[show k-1+1=k by omega];exact hk);rw[h]at this;cases this
 unfold GI;simp [this]
theorem Ww (h1:¬ n<1)(h2:¬ 1099511627776<n)(h3:¬ 1024<fs.length)(h4:fs.all (HN n)=true)(h5:(fs.map (·.id)).Nodup)(h6:JA fs=true):GI ⟨n,fs⟩=true:=by
 unfold GI;simp only [Au,decide_eq_true_eq];exact⟨⟨⟨⟨⟨by omega,by omega⟩,by omega⟩,h4⟩,h5⟩,h6⟩
theorem SH (h:JA (fs.take k)=true)(hk:fs[k]?=some f)(h2:k=0\/∃x,fs[k-1]?=some x/\Ie x f=true):JA (fs.take (k+1))=true:=by
 refine X6l λi a b z r=>?_;rw[AV]at z r;split at r
 ·rw[if_pos EA]at z
  by_cases e:i+1<k
  ·exact UC h (k:=i) (by rw[AV,if_pos EA];exact z) (by rw[AV,if_pos e];exact r)
  ·have e1:i+1=k:=by omega
   rw[e1,hk]at r
   cases r
   rcases h2 with h2|⟨x,hx,h3⟩
   ·omega
   ·rw[show k-1=i by omega,z]at hx
    cases hx;exact h3
 ·cases r
theorem W9 (h1:¬ f.id<1)(h2:¬ n<=f.id)(h3:¬ f.lev<0)(h4:¬ 4<f.lev)(h5:¬ f.size<1)(h6:¬ 1048576<f.size)(h7:KV f.fst=true)(h8:KV f.lst=true)(h9:Op.bytesLess f.lst f.fst=false):HN n f=true:=by
 unfold HN;rw[show EU f.lst f.fst=Op.bytesLess f.lst f.fst from rfl,h7,h8,h9];simp;omega
end
theorem PC (n:Int)(fs:List Fi)(vf:Value)(w:World)(hv:EM Fi.cs 5 w vf fs)(hl:fs.length<=100000)(hid:∀f∈fs,ET f.id) :
  Calls Tryz.prog 103 [.agg ⟨[I n,vf]⟩].toArray w (Pure w (B (GI ⟨n,fs⟩))):=by
 refine cw Tryz.func103 ?_;have z:=EB.refl w;refine ws λ_ Z1=>wr (Gc rfl rfl rfl RX.all (λb1 w1 e1 x1 J=>?_));have g1:=z.ge e1;have z:=z.trans x1;refine da (de Z1 (ws λ_ Z2=>ws λ_ Z3=>wr ?_));refine df 0 rfl (dl rfl (J.at rfl) (dp (Fa rfl rfl) (dm ?_)));refine Fz 9 rfl (λc1=>?_) (λc1=>?_)
 ·refine dk (dk (dk (EO ?_)));refine dm ?_;refine dk (dk (dk (dk (EO (de Z3 ?_)))));refine GD rfl (ws λ_ Z4=>wr (da (de Z4 (EH ?_))));refine ro ?_;refine⟨?_,z⟩;rw[PN EA]
 refine df 0 rfl (dl rfl (J.at rfl) (dp (FY rfl rfl) (EO ?_)));refine dm ?_;refine Fz 14 rfl (λc2=>?_) (λc2=>?_)
 ·refine dk (dk (dk (dk (EO (de Z3 ?_)))));refine GD rfl (ws λ_ Z5=>wr (da (de Z5 (EH ?_))));refine ro ?_;refine⟨?_,z⟩;rw[PN EA]
 refine df 1 rfl (dl rfl (J.at rfl) (dv 62 5 (hv.ext z).sl (dp (FY rfl rfl) (EO (de Z3 ?_)))));refine wi (λc3=>?_) λc3=>?_
 ·refine ws λ_ Z6=>wr (da (de Z6 (EH ?_)));refine ro ?_;refine⟨?_,z⟩;rw[PN EA]
 refine EG (Z2 _ _ (ws λ_ Z7=>wr (Oy OV rfl RX.all (λb2 w2 e2 x2 r=>?_))));have g2:=z.ge e2;have n2_1:=J.ltb e2;have J:=J.ext x2;have z:=z.trans x2;refine da (de Z7 (ws λ_ Z8=>ws λ_ Z9=>wr ?_));refine df 1 rfl (dl rfl (J.at rfl) (dv 62 5 (hv.ext z).sl (dm (de Z9 (EN ?_)))));refine Fk (G:=Nat) (λk=>[(1,ED b1 0),(3,.map (some b2)),(22,vf),(23,I ↑fs.length),(24,I ↑k)]) (λk w'=>EB w w'/\EL w' b1 [I n,vf] 56/\k<=fs.length/\((fs.take k).all (HN n))=true/\((fs.take k).map (·.id)).Nodup/\JA (fs.take k)=true/\Vc.Xbn Tryz.prog 3 Vc.I B w' b2 k (ML ((fs.take k).map (·.id)))) (λk=>fs.length-k) 0 ?_ ?_ ?_
 ·exact FA
 ·exact⟨z,J,Ad _,rfl,List.nodup_nil,rfl,r⟩
 intro X3 g3 w3 hp;revert hp;revert g3;intro k hp;clear z J r;obtain⟨z,J,hk1,hA,hN,hO,r⟩:=hp;refine ws λ_ xf=>wr (dp (Fa rfl rfl) (de xf (ws λ_ xh=>wi (λc4=>?_) λc4=>?_)))
 ·obtain⟨f,hk⟩:∃f,fs[k]?=some f:=Fq;refine EG (xh _ _ (ws λ_ hy=>EN (ws λ_ xc=>wr (dm ?_))));refine di 62 5 (hv.ext z).sl rfl ((hv.ext z).lt hk) (dq (Fb E9 rfl rfl ((hv.ext z).row hk)) (FG (cs:=[.int .i64 0,.int .i64 0,.int .i64 0,S [],S []]) rfl E9 RX.all (λb3 w4 e3 x4 O=>?_)));have g3:=z.ge e3;have n3_1:=J.ltb e3;have n3_mp2:=r.lt;have J:=J.ext x4;have r:=r.ext x4;have z:=z.trans x4;refine da ?_;refine FM O (λw5 x5 xs5 O=>?_);dsimp only [Fe,Ag,Af,Ai]at O;have J:=J.mo x5;have r:=r.mod x5 (by intro h;have h2:_=b3:=h;omega);have z:=z.o1 x5;refine de xc (ws λ_ h9=>ws λ_ Z=>wr (df 0 rfl (dl rfl (O.at rfl) (dp (Fa rfl rfl) (dm ?_)))));refine Fz 32 rfl (λc5=>?_) (λc5=>?_)
  ·refine dk (dk (dk (dk (dk (EO ?_)))));refine dm ?_;refine dk (dk (dk (dk (EO ?_))));refine dm ?_;refine dk (dk (dk (EO ?_)));refine dm ?_;refine dk (dk (dk (EO ?_)));refine dm ?_;refine dk (dk (dk (EO ?_)));refine dm ?_;refine dk (dk (dk (EO (de Z ?_))));refine GD rfl (ws λ_ xd=>wr (da (de xd (EH ?_))));refine ro ?_;refine⟨?_,z⟩;rw[Lv hk (MQ EA)]
  refine df 0 rfl (dl rfl (O.at rfl) (df 0 rfl (dl rfl (J.at rfl) (dp (IB rfl rfl) (EO ?_)))));refine dm ?_;refine Fz 39 rfl (λc6=>?_) (λc6=>?_)
  ·refine dk (dk (dk (dk (EO ?_))));refine dm ?_;refine dk (dk (dk (EO ?_)));refine dm ?_;refine dk (dk (dk (EO ?_)));refine dm ?_;refine dk (dk (dk (EO ?_)));refine dm ?_;refine dk (dk (dk (EO (de Z ?_))));refine GD rfl (ws λ_ h8=>wr (da (de h8 (EH ?_))));refine ro ?_;refine⟨?_,z⟩;rw[Lv hk (MQ EA)]
  refine dm ?_;refine df 0 rfl (dl rfl (O.at rfl) (dq (Ly OV (kx:=f.id) (z0:=false) rfl rfl E9 r (hid f (Ak hk))) (EO ?_)));refine dm ?_;refine I8 45 rfl (λc7=>?_) (λc7=>?_)
  ·refine dk (dk (dk (EO ?_)));refine dm ?_;refine dk (dk (dk (EO ?_)));refine dm ?_;refine dk (dk (dk (EO ?_)));refine dm ?_;refine dk (dk (dk (EO (de Z ?_))));refine GD rfl (ws λ_ xj=>wr (da (de xj (EH ?_))));refine ro ?_;refine⟨?_,z⟩;rw[RS]at c7;rw[X9x hk (of_decide_eq_true c7)]
  refine df 1 rfl (dl rfl (O.at rfl) (dp (Fa rfl rfl) (EO ?_)));refine dm ?_;refine Fz 50 rfl (λc8=>?_) (λc8=>?_)
  ·refine dk (dk (dk (EO ?_)));refine dm ?_;refine dk (dk (dk (EO ?_)));refine dm ?_;refine dk (dk (dk (EO (de Z ?_))));refine GD rfl (ws λ_ xa=>wr (da (de xa (EH ?_))));refine ro ?_;refine⟨?_,z⟩;rw[Lv hk (MQ EA)]
  refine df 1 rfl (dl rfl (O.at rfl) (dp (FY rfl rfl) (EO ?_)));refine dm ?_;refine Fz 55 rfl (λc9=>?_) (λc9=>?_)
  ·refine dk (dk (dk (EO ?_)));refine dm ?_;refine dk (dk (dk (EO (de Z ?_))));refine GD rfl (ws λ_ h7=>wr (da (de h7 (EH ?_))));refine ro ?_;refine⟨?_,z⟩;rw[Lv hk (MQ EA)]
  refine df 2 rfl (dl rfl (O.at rfl) (dp (Fa rfl rfl) (EO ?_)));refine dm ?_;refine Fz 60 rfl (λhj=>?_) (λhj=>?_)
  ·refine dk (dk (dk (EO (de Z ?_))));refine GD rfl (ws λ_ xb=>wr (da (de xb (EH ?_))));refine ro ?_;refine⟨?_,z⟩;rw[Lv hk (MQ EA)]
  refine df 2 rfl (dl rfl (O.at rfl) (dp (FY rfl rfl) (EO (de Z ?_))));refine wi (λhq=>?_) λhq=>?_
  ·refine ws λ_ xn=>wr (da (de xn (EH ?_)));refine ro ?_;refine⟨?_,z⟩;rw[Lv hk (MQ EA)]
  refine EG (h9 _ _ (ws λ_ h5=>ws λ_ hc=>F4 (R:=EB) EB.refl (λ_ _ _=>EB.trans) E9 [1,6,12,14,22,26,27] [(0,.p,false),(1,.l,false),(2,.x,true),(3,.p,false),(4,.p,false),(5,.p,false),(6,.l,false),(7,.x,false),(8,.p,false),(9,.p,false),(10,.p,false),(11,.p,false),(12,.l,false),(13,.p,false),(14,.l,false),(15,.p,false),(16,.p,false),(17,.p,false),(18,.p,false),(19,.p,false),(20,.p,false),(21,.p,false),(22,.l,false),(23,.p,false),(24,.p,false),(25,.p,false),(26,.l,false),(27,.l,false),(28,.x,false),(29,.p,false),(30,.p,false),(31,.p,false)] rfl E9 E9 (λw6 hz=>?_)));have x6:=EJ hz;clear hz;have J:=J.ext x6;have r:=r.ext x6;have O:=O.ext x6;have z:=z.trans x6;refine df 3 rfl (dL rfl (λ_ hR=>((O.ext hR).at rfl)) (cP (Vd f.fst _) RX.all λw7 x7=>?_));have J:=J.ext x7;have r:=r.ext x7;have O:=O.ext x7;have z:=z.trans x7;refine dn (dm ?_);refine I8 69 rfl (λhf=>?_) (λhf=>?_)
  ·refine dk (dk (dk (dk (EO ?_))));refine dm ?_;refine dk (dk (dk (dk (dk (EO ?_)))));refine dm ?_
   iterate 13 refine dk ?_
   refine EO (de hc ?_);refine GD rfl (ws λ_ xm=>wr (da (de xm (EH ?_))));refine ro ?_;refine⟨?_,z⟩;rw[Lv hk (Ybn (by simpa using hf))]
  refine df 4 rfl (dL rfl (λ_ hR=>((O.ext hR).at rfl)) (cP (Vd f.lst _) RX.ext λw8 x8=>?_));have J:=J.ext x8;have r:=r.ext x8;have O:=O.ext x8;have z:=z.trans x8;refine dn ?_;refine EO ?_;refine dm ?_;refine I8 75 rfl (λhh=>?_) (λhh=>?_)
  ·refine dk (dk (dk (dk (dk (EO ?_)))));refine dm ?_
   iterate 13 refine dk ?_
   refine EO (de hc ?_);refine GD rfl (ws λ_ xg=>wr (da (de xg (EH ?_))));refine ro ?_;refine⟨?_,z⟩;rw[Lv hk (Ybo (by simpa using hh))]
  refine df 3 rfl (dL rfl (λ_ hR=>((O.ext hR).at rfl)) (df 4 rfl (dL rfl (λ_ hR=>((O.ext hR).at rfl)) (dp (Vp rfl rfl) (EO ?_)))));refine dm ?_;refine I8 82 rfl (λhg=>?_) (λhg=>?_)
  ·iterate 13 refine dk ?_
   refine EO (de hc ?_);refine GD rfl (ws λ_ xe=>wr (da (de xe (EH ?_))));refine ro ?_;refine⟨?_,z⟩;rw[Lv hk (Ybp hg)]
  refine dm ?_;refine dp (FY rfl rfl) (dm ?_);refine Fz 85 rfl (λxl=>?_) (λxl=>?_)
  ·obtain⟨x,hk0⟩:∃x,fs[k-1]?=some x:=Fq;refine df 1 rfl (dL rfl (λ_ hR=>((J.ext hR).at rfl)) (dm ?_));refine EW (v:=I ↑(k-1)) rfl (Ga rfl rfl (by unfold ET;omega)) (by show I _=I _;congr 1;omega) (di 62 5 (hv.ext z).sl rfl ((hv.ext z).lt hk0) (FK rfl (λw' hR=>Fb E9 rfl rfl (((hv.ext z).ext hR).row hk0)) (FK rfl (λw' hR=>Fb (k:=5) E9 rfl rfl (O.ext hR).row) (cP (X9v x f _) RX.ext λw9 x9=>?_))));have J:=J.ext x9;have r:=r.ext x9;have O:=O.ext x9;have z:=z.trans x9;refine dn ?_;refine EO ?_;refine EO (de hc ?_);refine wc (λhw=>?_) λhw=>?_
   ·refine ws λ_ xi=>wr (da (de xi (EH ?_)));refine ro ?_;refine⟨?_,z⟩;rw[Ybq hk EA hk0 (by simpa using hw)]
   refine EG (h5 _ _ (wr (dm ?_)));refine df 0 rfl (dl rfl (O.at rfl) (NW OV (kx:=f.id) (a:=true) rfl rfl rfl rfl r (hid f (Ak hk)) (by unfold maxLen;omega) (.inl rfl) (λw10 ht xs10 Y=>?_)));have J:=J.mod ht (by exact λe=>r.ne_blk J e);have O:=O.mod ht (by exact λe=>r.ne_blk O e);have z:=z.own ht (λi hi=>by have hr:i=b2:=hi;subst hr;omega);have r:=Y;refine de hy (wr (pa rfl rfl (dm (EF (?_)))));refine⟨k+1,FA,⟨z,J,by omega,?_,?_,?_,?_⟩,by omega⟩
   ·rw[Gs hk,C6,hA,CO,Dg,W9 c5 EA c8 c9 hj hq (by simpa using hf) (by simpa using hh) hg];rfl
   ·rw[Gs hk,AC];exact BK.2 ⟨hN,by simp,λa ha b hb e=>by
     rw[RS]at c7;have e9:=of_decide_eq_false c7;rw[Aq,Bk,Ah]at hb;rw[e,hb]at ha;exact e9 ha⟩
   ·exact SH hO hk (.inr ⟨x,hk0,by simpa using hw⟩)
   ·rw[Wv,show(Af k fs).map (λx=>x.id)++[f.id]=(Af (k+1) fs).map (λx=>x.id) by rw[Gs hk];simp]at r;exact r
  iterate 9 refine dk ?_
  refine EO ?_;refine EO (de hc ?_);refine GB rfl (EG (h5 _ _ (wr (dm ?_))));refine df 0 rfl (dl rfl (O.at rfl) (NW OV (kx:=f.id) (a:=true) rfl rfl rfl rfl r (hid f (Ak hk)) (by unfold maxLen;omega) (.inl rfl) (λw11 h6 xs11 Y=>?_)));have J:=J.mod h6 (by exact λe=>r.ne_blk J e);have z:=z.own h6 (λi hi=>by have hr:i=b2:=hi;subst hr;omega);have r:=Y;refine de hy (wr (pa rfl rfl (dm (EF (?_)))));refine⟨k+1,FA,⟨z,J,by omega,?_,?_,?_,?_⟩,by omega⟩
  ·rw[Gs hk,C6,hA,CO,Dg,W9 c5 EA c8 c9 hj hq (by simpa using hf) (by simpa using hh) hg];rfl
  ·rw[Gs hk,AC];exact BK.2 ⟨hN,by simp,λa ha b hb e=>by
    rw[RS]at c7;have e9:=of_decide_eq_false c7;rw[Aq,Bk,Ah]at hb;rw[e,hb]at ha;exact e9 ha⟩
  ·exact SH hO hk (.inl EA)
  ·rw[Wv,show(Af k fs).map (λx=>x.id)++[f.id]=(Af (k+1) fs).map (λx=>x.id) by rw[Gs hk];simp]at r;exact r
 refine Ff (Z8 _ _ (ws λ_ xk=>wr (da (de xk (EH ?_)))));refine ro ?_;refine⟨?_,z⟩;rw[Ax EA]at hA hN hO;rw[Ww EA EA EA hA hN hO]
def GA (f:Fi):EC:=(EV f.id.toNat++(EV f.lev.toNat++EV f.size.toNat))++(Fp f.fst++Fp f.lst)
def FR (v:Vs):EC:=(EV v.next.toNat++EV v.fs.length)++v.fs.flatMap GA
theorem OD {n:Int}(h0:0<=n)(h:n<=4611686018427387904):FX n=EV n.toNat:=by
 unfold FX
 congr 1
 unfold Ha;omega
theorem Ybr {A:EC}{n:Int}{k:Nat}(h0:0<=n)(h:n<=4611686018427387904)(hk:k<=4611686018427387904):A++[n,(k:Int)].flatMap FX=A++(EV n.toNat++EV k):=by
 simp only [AD,Ce,AP,OD h0 h,PH hk]
theorem Ybs {A:EC}{a b c:Int}(ha:0<=a)(ha2:a<=4611686018427387904)(hb:0<=b)(hb2:b<=4611686018427387904)(hc:0<=c)(hc2:c<=4611686018427387904):A++[a,b,c].flatMap FX=A++(EV a.toNat++(EV b.toNat++EV c.toNat)):=by
 simp only [AD,Ce,AP,OD ha ha2,OD hb hb2,OD hc hc2]
theorem row2 {A p q:EC}{v u:Value} : A++List.flatMap Fp (List.map (λq:Value×EC=>q.2) [(v,p),(u,q)])=A++(Fp p++Fp q):=by simp
theorem X6n {v u:Value}{p q:EC}{w:World}{b:Nat}(h:EL w b [v,u] 82):EM (λq:Value×EC=>[q.1]) 1 w (.slice (some ⟨b,0,none⟩) 2 2) [(v,p),(u,q)]:=h.arr (enc:=λq:Value×EC=>[q.1]) (sz:=1) (l:=[(v,p),(u,q)]) rfl EE rfl EQ
theorem Ig {v:Vs}(h:GI v=true):1<=v.next/\v.next<=1099511627776/\v.fs.length<=1024/\(∀f∈v.fs,HN v.next f=true)/\(v.fs.map (·.id)).Nodup/\JA v.fs=true:=by
 unfold GI at h;simp only [Au,decide_eq_true_eq,AU]at h;exact⟨h.1.1.1.1.1,h.1.1.1.1.2,h.1.1.1.2,h.1.1.2,h.1.2,h.2⟩
theorem JH {n:Int}{f:Fi}(h:HN n f=true):1<=f.id/\f.id<n/\0<=f.lev/\f.lev<=4/\1<=f.size/\f.size<=1048576/\f.fst.length<=4096/\f.lst.length<=4096:=by
 unfold HN KV at h;simp only [Au,decide_eq_true_eq]at h;omega
theorem X0l {n:Int}{f:Fi}(h:HN n f=true):(GA f).length<=8300:=by
 have:=JH h;unfold GA Fp;have h1:=Gd f.id.toNat;have h2:=Gd f.lev.toNat;have h3:=Gd f.size.toNat;have h4:=Gd f.fst.length;have h5:=Gd f.lst.length;simp only [Ab];omega
theorem Ta {n:Int}{fs:List Fi}(h:∀f∈fs,HN n f=true)(k:Nat):((fs.take k).flatMap GA).length<=8300*fs.length:=by
 induction fs generalizing k with
 | nil=>simp
 | cons f r ih=>
  cases k with
  | zero=>simp
  | succ k=>
   have h1:=ih (λf z=>h f (Am _ z)) k;have h2:=X0l (h f Al);rw[List.take_succ_cons,AD,Ab,AB];omega
theorem TE (n:Int)(fs:List Fi)(vf:Value)(w:World)(hv:EM Fi.cs 5 w vf fs)(hl:fs.length<=100000)(hid:∀f∈fs,ET f.id) :
  Calls Tryz.prog 92 [.agg ⟨[I n,vf]⟩].toArray w (ER w (λu w'=>∃vb,u=.tuple #[vb,I (if GI ⟨n,fs⟩=true then 0 else 1)]/\Vc.Own EP 1 5 w.heap.size w' vb (if GI ⟨n,fs⟩=true then FR ⟨n,fs⟩else[]))):=by
 refine cw Tryz.func92 ?_;have z:=EB.refl w;refine ws λ_ Z1=>wr (Gc rfl rfl rfl RX.all (λb1 w1 e1 x1 O=>?_));have g1:=z.ge e1;have z:=z.trans x1;refine da (da (de Z1 (ws λ_ Z2=>ws λ_ Z3=>wr ?_)));refine dq (Fb (k:=2) E9 rfl rfl O.row) (cP (PC n fs vf _ (hv.ext z) hl hid) RX.all λw2 x2=>?_);have O:=O.ext x2;have z:=z.trans x2;refine dn (de Z3 ?_);refine wc (λc1=>?_) λc1=>?_
 ·refine ws λ_ Z4=>wr (da (da (de Z4 (EH ?_))));refine rt ?_;have hE:GI ⟨n,fs⟩=false:=by simpa using c1
  rw[hE];exact⟨_,rfl,z,_,rfl,Vc.Own.nil⟩
 have hE:GI ⟨n,fs⟩=true:=by simpa using c1
 obtain⟨xl,xt,xj,hp,_,_⟩:=Ig hE;simp only at xl xt xj hp;refine EG (Z2 _ _ (ws λ_ Z5=>wr (FG (cs:=[.slice none 0 0]) rfl E9 RX.all (λb2 w3 e2 x3 m2=>?_))));have g2:=z.ge e2;have n2_1:=O.ltb e2;have O:=O.ext x3;have z:=z.trans x3;refine de Z5 (ws λ_ Z6=>wr (df 0 rfl (dl rfl (O.at rfl) (df 1 rfl (dl rfl (O.at rfl) (dv 62 5 (hv.ext z).sl (li (e:=3) (sz:=1) (zs:=[.int .i64 0]) (pv:=[(0,_),(1,_)]) (cs:=[_,_]) RX.all (λb3 w4 e3 x4 m3=>?_))))))));have g3:=z.ge e3;have n3_1:=O.ltb e3;have n3_2:=m2.ltb e3;have O:=O.ext x4;have m2:=m2.ext x4;have z:=z.trans x4;have r:Wr w.heap.size b2 (.slice none 0 0) [] w4:=⟨m2,Vc.Own.nil⟩;refine cD (JQ w.heap.size b2 (.slice none 0 0) _ [n,↑fs.length] (.slice (some ⟨b3,0,none⟩) 2 2) _ r (Ae (Aa 0:([]:EC).length<=0) EA) z.size (m3.arr (enc:=Vc.encI) (sz:=1) (l:=[n,↑fs.length]) rfl EE rfl EQ) EQ (λk9 Y _ ht=>by have hw:b3=k9:=ht;subst hw;exact(Y.elim (λh=>by omega) (λh=>by cases h)))) (.inl rfl) λu5 w5 x5 xf=>?_;have hsz5:=z.size;have O:=O.mod x5 (λY=>Y.elim (λh=>by have h2:b1=b2:=h;omega) (λh=>by cases h));have z:=z.own x5 (λi hi=>r.ge g2 hi);obtain⟨rfl,v1,r,h6⟩:=xf;rw[Ybr EA EA EA,AE]at r;have hln16:=trivial;refine de Z6 (ws λ_ Z7=>ws λ_ Z8=>wr (df 1 rfl (dl rfl (O.at rfl) (dv 62 5 (hv.ext z).sl (dm (de Z8 (EN ?_)))))));refine Fk (G:=Nat×Value) (λ(k,vc)=>[(2,.slice none 0 0),(3,I 0),(4,ED b2 0),(18,vf),(19,I ↑fs.length),(20,I ↑k)]) (λ(k,vc) w'=>EB w w'/\k<=fs.length/\Wr w.heap.size b2 vc ((EV n.toNat++EV fs.length)++(fs.take k).flatMap GA) w') (λ(k,vc)=>fs.length-k) (0,v1) ?_ ?_ ?_
 ·exact FSq
 ·exact⟨z,Ad _,by simpa using r⟩
 intro X6 g6 w6 xr;obtain⟨k,vc⟩:=g6;clear z O r;obtain⟨z,hk1,r⟩:=xr;refine ws λ_ Z9=>wr (dp (Fa rfl rfl) (de Z9 (ws λ_ xm=>wi (λc2=>?_) λc2=>?_)))
 ·obtain⟨f,hk⟩:∃f,fs[k]?=some f:=Fq;have hof:=JH (hp f (Ak hk));have xq:=Ta hp k;have xe:=Gd n.toNat;have xd:=Gd fs.length;have hq:((EV n.toNat++EV fs.length)++(fs.take k).flatMap GA).length<=9000000:=by rw[Ab,Ab];omega
  refine EG (xm _ _ (ws λ_ xo=>EN (ws λ_ xg=>wr (di 62 5 (hv.ext z).sl rfl ((hv.ext z).lt hk) (dq (Fb E9 rfl rfl ((hv.ext z).row hk)) (FG (cs:=[.int .i64 0,.int .i64 0,.int .i64 0,S [],S []]) rfl E9 RX.all (λb4 w7 e4 x7 J=>?_)))))));have g4:=z.ge e4;have Z:=r.lt;have r:=r.ext x7;have z:=z.trans x7;refine FM J (λw8 x8 xs8 J=>?_);dsimp only [Fe,Ag,Af,Ai]at J;have r:=r.mod x8 (λk9 Y h=>by have h2:k9=b4:=h;subst h2;exact A6 _ (AF (Z _ Y) e4.symm));have z:=z.o1 x8;refine de xg (ws λ_ xk=>wr (df 0 rfl (dl rfl (J.at rfl) (df 1 rfl (dl rfl (J.at rfl) (df 2 rfl (dl rfl (J.at rfl) (li (e:=3) (sz:=1) (zs:=[.int .i64 0]) (pv:=[(0,_),(1,_),(2,_)]) (cs:=[_,_,_]) RX.all (λb5 w9 e5 x9 m5=>?_)))))))));have g5:=z.ge e5;have n5_4:=J.ltb e5;have hh:=r.lt;have r:=r.ext x9;have J:=J.ext x9;have z:=z.trans x9;have xn:¬ Hq b2 vc b4:=λY=>(A6 b4 (AF (Z _ Y) e4.symm));have xa:=J.lt;refine cD (JQ w.heap.size b2 vc _ [f.id,f.lev,f.size] (.slice (some ⟨b5,0,none⟩) 3 3) _ r (Ae hq EA) z.size (m5.arr (enc:=Vc.encI) (sz:=1) (l:=[f.id,f.lev,f.size]) rfl EE rfl EQ) EQ (λk9 Y _ ht=>by have hw:b5=k9:=ht;subst hw;exact(A6 b5 (AF (hh _ Y) e5.symm)))) (.inl rfl) λu10 w10 xb hz=>?_;have hsz10:=z.size;have J:=J.mod xb xn;have z:=z.own xb (λi hi=>r.ge g2 hi);obtain⟨rfl,v2,r,h6⟩:=hz;rw[Ybs EA EA EA EA EA EA]at r;have hln31:=trivial;have h7:((EV n.toNat++EV fs.length)++(fs.take k).flatMap GA).length<=9000000:=hq;have hq1:=Gd f.id.toNat;have hq2:=Gd f.lev.toNat;have hq3:=Gd f.size.toNat;have hln3:(((EV n.toNat++EV fs.length)++(fs.take k).flatMap GA)++(EV f.id.toNat++(EV f.lev.toNat++EV f.size.toNat))).length<=9000100:=by simp only [Ab]at h7 ⊢;omega
  refine de xk (KR [.p,.l,.x,.p,.l,.x,.x,.x] rfl (df 3 rfl (dl rfl (J.at rfl) (Mu (e:=5) rfl E9 E9 E9 rfl RX.all (λb6 xc w11 e6 hy ha=>?_)))));have g6:=z.ge e6;have n6_4:=J.ltb e6;have hf:=r.lt;have J:=J.ext hy;have r:=r.ext hy;have z:=z.trans hy;refine df 4 rfl (dl rfl (J.at rfl) (Mu (e:=5) rfl E9 E9 E9 rfl RX.all (λb7 h5 w12 e7 hg hr=>?_)));have g7:=z.ge e7;have n7_4:=J.ltb e7;have hc:=r.lt;have J:=J.ext hg;have r:=r.ext hg;have ha:=ha.ext hg;have z:=z.trans hg;refine li (e:=82) (sz:=1) (zs:=[.slice none 0 0]) (pv:=[(0,_),(1,_)]) (cs:=[_,_]) RX.all (λb8 w13 e8 hb m8=>?_);have g8:=z.ge e8;have n8_4:=J.ltb e8;have hj:=r.lt;have J:=J.ext hb;have r:=r.ext hb;have ha:=ha.ext hb;have hr:=hr.ext hb;have z:=z.trans hb;have xa:=J.lt;refine cD (KO w.heap.size b2 v2 _ [(.slice (some ⟨b6,0,none⟩) f.fst.length xc,f.fst),(.slice (some ⟨b7,0,none⟩) f.lst.length h5,f.lst)] (.slice (some ⟨b8,0,none⟩) 2 2) _ r EA z.size (X6n m8) (LU (P:=λq:Value×EC=>EM EP 1 _ q.1 q.2) ha hr) (LU (P:=λq:Value×EC=>q.2.length<=1000000) (show f.fst.length<=1000000 by omega) (show f.lst.length<=1000000 by omega)) EQ (λ_ Y=>(A6 b8 (AF (hj _ Y) e8.symm))) (LU (P:=λq:Value×EC=>q.2≠[]->¬ Hq b2 v2 (base q.1).1) (λ_ Y=>(A6 b6 (AF (hf _ Y) e6.symm))) (λ_ Y=>(A6 b7 (AF (hc _ Y) e7.symm))))) (.inl rfl) λu14 w14 xp h8=>?_;have hsz14:=z.size;have z:=z.own xp (λi hi=>r.ge g2 hi);obtain⟨rfl,v3,r,h6⟩:=h8;rw[row2]at r;refine de xo (wr (pa rfl rfl (dm (EF (?_)))));refine⟨(k+1,v3),FSq,⟨z,by omega,?_⟩,by simp only [];omega⟩;rw[Gs hk,Bb,AD,Ce,AP,show GA f=(EV f.id.toNat++(EV f.lev.toNat++EV f.size.toNat))++(Fp f.fst++Fp f.lst) from rfl];simpa only [AA]using r
 have xq:=Ta hp k;have xe:=Gd n.toNat;have xd:=Gd fs.length;have hln1:((EV n.toNat++EV fs.length)++(fs.take k).flatMap GA).length<=9000000:=by rw[Ab,Ab];omega
 refine Ff (Z7 _ _ (ws λ_ xh=>wr (cG (MK w.heap.size b2 vc _ _ r EA) RX.all λvo w15 xi hB=>?_)));have hsz15:=z.size;have z:=z.trans xi;refine da (da (de xh (EH ?_)));refine rt ?_;rw[show k=fs.length by omega,AK]at hB;rw[if_pos hE,if_pos hE];exact⟨_,rfl,z,_,rfl,hB.mono EA⟩
theorem RY {α:Type}{l:List α}{p:α->Bool}{k:Nat}{c:α}(h:l[k]?=some c)(ha:(l.take k).any p=false)(hp:p c=false):(l.take (k+1)).any p=false:=by
 rw[Gs h,List.any_append,ha];simp [hp]
def J9 {α:Type}(l:List α)(p:α->Bool)(i:Int):Prop:=(i=-1/\l.any p=false)\/∃k:Nat,i=k/\(l.take k).any p=false/\∃x,l[k]?=some x/\p x=true
theorem U9 {α:Type}{l:List α}{p:α->Bool}{i:Int}(h:J9 l p i):decide (0<=i)=l.any p:=by
 rcases h with⟨rfl,h⟩|⟨k,rfl,_,x,hx,hp⟩
 ·rw[h];rfl
 ·rw[B6.2 ⟨x,Ak hx,hp⟩];simp
theorem X6o (l:List Fi)(v:Value)(f:Nat)(cs:List Value)(p:Fi->Bool)(w:World)(hv:EM Fi.cs 5 w v l)(hl:l.length<=1000000)(hcb:GL Tryz.prog f=true)(hc:∀O,EB w O->∀x∈l,Calls Tryz.prog f ([x.v]++cs).toArray O (Pure O (B (p x)))) :
  Calls Tryz.prog 245 [v,I1 f cs].toArray w (ER w (λu _=>∃i:Int,u=I i/\J9 l p i)):=by
 refine cw Tryz.func245 ?_;have r:=EB.refl w;refine ws λ_ Z1=>wr (da (de Z1 (ws λ_ Z2=>ws λ_ Z3=>wr (dm ?_))));refine dv 62 5 hv.sl (dm (de Z3 (EN ?_)));refine Fk (G:=Nat) (λk=>[(0,v),(1,I1 f cs),(7,I ↑l.length),(8,I ↑k)]) (λk w'=>EB w w'/\k<=l.length/\(l.take k).any p=false) (λk=>l.length-k) 0 ?_ ?_ ?_
 ·exact FU
 ·exact⟨r,Ad _,rfl⟩
 intro X1 g1 w1 z;revert z;revert g1;intro k z;clear r;obtain⟨r,hk1,J⟩:=z;refine ws λ_ Z4=>wr (dp (Fa rfl rfl) (de Z4 (ws λ_ Z5=>wi (λc1=>?_) λc1=>?_)))
 ·obtain⟨x,hk⟩:∃x,l[k]?=some x:=Fq;refine EG (Z5 _ _ (ws λ_ Z6=>EN (ws λ_ Z7=>wr (dm (da (de Z7 (ws λ_ Z8=>wr (dm (dm (dm ?_))))))))));refine di 62 5 hv.sl rfl (hv.lt hk) (dq (Fb E9 rfl rfl ((hv.ext r).row hk)) (P6 (vs:=[x.v]) (cs:=cs) rfl rfl hcb (hc _ r x (Ak hk)) rfl RX.all (λO x2=>?_)));have r:=r.trans x2;refine de Z8 (wc (λY=>?_) λY=>?_)
  ·refine ws λ_ Z9=>wr (dm (da (de Z9 (EH ?_))));refine ro ?_;exact⟨_,rfl,r,_,rfl,.inr ⟨k,rfl,J,x,hk,Y⟩⟩
  refine EG (Z6 _ _ (wr (pa rfl rfl (dm (EF (?_))))));refine⟨k+1,FU,⟨r,by omega,RY hk J (by simpa using Y)⟩,by omega⟩
 refine Ff (Z2 _ _ (ws λ_ Z=>wr (da (de Z (EH ?_)))));refine ro ?_;rw[Ax EA]at J;exact⟨_,rfl,r,-1,rfl,.inl ⟨rfl,J⟩⟩
theorem X6p (l:List Cell)(v:Value)(f:Nat)(cs:List Value)(p:Cell->Bool)(w:World)(hv:EM Cell.cs 4 w v l)(hl:l.length<=1000000)(hcb:GL Tryz.prog f=true)(hc:∀O,EB w O->∀x∈l,Calls Tryz.prog f ([x.v]++cs).toArray O (Pure O (B (p x)))) :
  Calls Tryz.prog 107 [v,I1 f cs].toArray w (ER w (λu _=>∃i:Int,u=I i/\J9 l p i)):=by
 refine cw Tryz.func107 ?_;have r:=EB.refl w;refine ws λ_ Z1=>wr (da (de Z1 (ws λ_ Z2=>ws λ_ Z3=>wr (dm ?_))));refine dv 79 4 hv.sl (dm (de Z3 (EN ?_)));refine Fk (G:=Nat) (λk=>[(0,v),(1,I1 f cs),(7,I ↑l.length),(8,I ↑k)]) (λk w'=>EB w w'/\k<=l.length/\(l.take k).any p=false) (λk=>l.length-k) 0 ?_ ?_ ?_
 ·exact FU
 ·exact⟨r,Ad _,rfl⟩
 intro X1 g1 w1 z;revert z;revert g1;intro k z;clear r;obtain⟨r,hk1,J⟩:=z;refine ws λ_ Z4=>wr (dp (Fa rfl rfl) (de Z4 (ws λ_ Z5=>wi (λc1=>?_) λc1=>?_)))
 ·obtain⟨x,hk⟩:∃x,l[k]?=some x:=Fq;refine EG (Z5 _ _ (ws λ_ Z6=>EN (ws λ_ Z7=>wr (dm (da (de Z7 (ws λ_ Z8=>wr (dm (dm (dm ?_))))))))));refine di 79 4 hv.sl rfl (hv.lt hk) (dq (Fb E9 rfl rfl ((hv.ext r).row hk)) (P6 (vs:=[x.v]) (cs:=cs) rfl rfl hcb (hc _ r x (Ak hk)) rfl RX.all (λO x2=>?_)));have r:=r.trans x2;refine de Z8 (wc (λY=>?_) λY=>?_)
  ·refine ws λ_ Z9=>wr (dm (da (de Z9 (EH ?_))));refine ro ?_;exact⟨_,rfl,r,_,rfl,.inr ⟨k,rfl,J,x,hk,Y⟩⟩
  refine EG (Z6 _ _ (wr (pa rfl rfl (dm (EF (?_))))));refine⟨k+1,FU,⟨r,by omega,RY hk J (by simpa using Y)⟩,by omega⟩
 refine Ff (Z2 _ _ (ws λ_ Z=>wr (da (de Z (EH ?_)))));refine ro ?_;rw[Ax EA]at J;exact⟨_,rfl,r,-1,rfl,.inl ⟨rfl,J⟩⟩
theorem X6q (l:List Fi)(v:Value)(f:Nat)(cs:List Value)(p:Fi->Bool)(w:World)(hv:EM Fi.cs 5 w v l)(hl:l.length<=1000000)(hcb:GL Tryz.prog f=true)(hc:∀z,EB w z->∀x∈l,Calls Tryz.prog f ([x.v]++cs).toArray z (Pure z (B (p x)))) :
  Calls Tryz.prog 172 [v,I1 f cs].toArray w (Pure w (B (l.any p))):=by
 refine cw Tryz.func172 ?_;have r:=EB.refl w;refine ws λ_ Z1=>wr (da (de Z1 (ws λ_ O=>wr (dm (dm ?_)))));refine cG (X6o l v f cs p _ (hv.ext r) hl hcb (λz Z=>hc z (r.trans Z))) RX.all λu1 w1 Y J=>?_;have hsz1:=r.size;have r:=r.trans Y;obtain⟨i,rfl,hi⟩:=J;refine dp (IB rfl rfl) (da (de O (EH ?_)));refine ro ?_;exact⟨by rw[<-U9 hi],r⟩
theorem X9y (f:Fi)(id:Int)(bi:Nat)(w:World)(hi:EL w bi [I id] 3) :
  Calls Tryz.prog 173 [f.v,ED bi 0].toArray w (Pure w (B (decide (f.id=id)))):=by
 refine cw Tryz.func173 ?_;have r:=EB.refl w;refine ws λ_ Y=>wr (Gc rfl rfl rfl RX.all (λb1 w1 e1 J O=>?_));have g1:=r.ge e1;have r:=r.trans J;refine da (de Y (ws λ_ z=>wr ?_));refine df 0 rfl (dl rfl (O.at rfl) (dl rfl ((hi.ext r).at rfl) (dp (G1 rfl rfl) (da (de z (EH ?_))))));refine ro ?_;exact⟨by simp,r⟩
theorem X9z (l:List Int)(v:Value)(y:Int)(w:World)(hv:EM Vc.encI 1 w v l)(hl:l.length<=1000000) :
  Calls Tryz.prog 244 [v,I y].toArray w (ER w (λu _=>∃i:Int,u=I i/\J9 l (λz=>decide (y=z)) i)):=by
 refine cw Tryz.func244 ?_;have r:=EB.refl w;refine ws λ_ Z1=>wr (da (de Z1 (ws λ_ Z2=>ws λ_ Z3=>wr (dm ?_))));refine dv 3 1 hv.sl (dm (de Z3 (EN ?_)));refine Fk (G:=Nat) (λk=>[(0,v),(1,I y),(7,I ↑l.length),(8,I ↑k)]) (λk w'=>EB w w'/\k<=l.length/\(l.take k).any (λz=>decide (y=z))=false) (λk=>l.length-k) 0 ?_ ?_ ?_
 ·exact FU
 ·exact⟨r,Ad _,rfl⟩
 intro X1 g1 w1 J;revert J;revert g1;intro k J;clear r;obtain⟨r,hk1,O⟩:=J;refine ws λ_ Z4=>wr (dp (Fa rfl rfl) (de Z4 (ws λ_ Z5=>wi (λc1=>?_) λc1=>?_)))
 ·obtain⟨x,hk⟩:∃x,l[k]?=some x:=Fq;refine EG (Z5 _ _ (ws λ_ Z6=>EN (ws λ_ Z7=>wr (dm (da (de Z7 (ws λ_ Z8=>wr (dm (dm (dm ?_))))))))));refine di 3 1 hv.sl rfl (hv.lt hk) (dl rfl (((hv.ext r).row hk).at0 rfl) (dp (G1 rfl rfl) (de Z8 (wi (λY=>?_) λY=>?_))))
  ·refine ws λ_ Z9=>wr (dm (da (de Z9 (EH ?_))));refine ro ?_;exact⟨_,rfl,r,_,rfl,.inr ⟨k,rfl,O,x,hk,by simpa using Y⟩⟩
  refine EG (Z6 _ _ (wr (pa rfl rfl (dm (EF (?_))))));refine⟨k+1,FU,⟨r,by omega,RY hk O (by simpa using Y)⟩,by omega⟩
 refine Ff (Z2 _ _ (ws λ_ Z=>wr (da (de Z (EH ?_)))));refine ro ?_;rw[Ax EA]at O;exact⟨_,rfl,r,-1,rfl,.inl ⟨rfl,O⟩⟩
theorem TB (l:List Int)(v:Value)(y:Int)(w:World)(hv:EM Vc.encI 1 w v l)(hl:l.length<=1000000) :
  Calls Tryz.prog 171 [v,I y].toArray w (Pure w (B (decide (y∈l)))):=by
 refine cw Tryz.func171 ?_;have r:=EB.refl w;refine ws λ_ Z=>wr (da (de Z (ws λ_ O=>wr (dm (dm ?_)))));refine cG (X9z l v y _ (hv.ext r) hl) RX.all λu1 w1 Y J=>?_;have hsz1:=r.size;have r:=r.trans Y;obtain⟨i,rfl,hi⟩:=J;refine dp (IB rfl rfl) (da (de O (EH ?_)));refine ro ?_;refine⟨?_,r⟩;have e:decide (y∈l)=l.any (λz=>decide (y=z)):=by
  rw[Bool.eq_iff_iff,decide_eq_true_iff,B6];exact⟨λh=>⟨y,h,by simp⟩,λ⟨z,hz,e⟩=>by rw[of_decide_eq_true e];exact hz⟩
 rw[e,<-U9 hi]
structure GV (w:World):Prop where
 tab : Lib.TabIs Tryz.prog w "internal/strconv.uint64pow10" .u64 Lib.pow10Tab
@[reducible] def Li : Nat → Prop := λ k => Tryz.prog.globalNamed "internal/strconv.uint64pow10" = some k
theorem GV.at {w:World}(h:GV w):∃g cs a b,Li g/\w.heap[g]?=some (.cells cs a b)/\cs=(Lib.pow10Tab.map λz=>Value.int .u64 z).toArray:=by
 have r:=h.tab;unfold Lib.TabIs World.var? at r;rw[Option.bind_eq_some_iff]at r;obtain⟨g,J,h2⟩:=r;split at h2
 ·rename_i cs a b O;exact⟨g,cs,a,b,J,O,A3.inj h2⟩
 ·cases h2
theorem GV.lt {w:World}(h:GV w):∀k,Li k->k<w.heap.size:=λk hk=>by
 obtain⟨g,cs,a,b,r,z,_⟩:=h.at;have:g=k:=A3.inj (r.symm.trans hk);rw[<-this];exact(Array.getElem?_eq_some_iff.1 z).1
theorem GV.mod {S:Nat->Prop}{w w':World}(h:GV w)(x:Vc.Mod S w w')(hS:∀k,Li k->¬ S k):GV w':=by
 obtain⟨g,cs,a,b,hg,hc,he⟩:=h.at;refine⟨?_⟩;unfold Lib.TabIs World.var?;rw [show Tryz.prog.globalNamed "internal/strconv.uint64pow10" = some g from hg, Option.bind_some, x.block g (h.lt g hg) (hS g hg), hc, he]
theorem GV.ext {w w':World}(h:GV w)(x:EB w w'):GV w':=h.mod x (λ_ _ h=>h)
theorem X90 (n:Int)(w:World)(hg:GV w)(hn:ET n):Calls Tryz.prog 106 [I n].toArray w (Pure w (S (Lib.itoa n))):=by
 refine(Tryz.strconv_Itoa n hn.1 (by have:=hn.2;omega) w hg.tab).mono ?_;rintro e w' ⟨rfl,k,os,rfl⟩;exact⟨rfl,⟨rfl,rfl,rfl,by simp [Go.Sort.grow,Go.World.drewN],λi hi _=>by simp only [Go.Sort.grow,Go.World.drewN];rw[Array.getElem?_append_left hi]⟩⟩
def Gb (n:Int):EC:=116 :: Lib.itoa n
theorem N8 (n:Int)(w:World)(hg:GV w)(hn:ET n)(hl:(Lib.itoa n).length<=100) :
  Calls Tryz.prog 50 [I n].toArray w (Pure w (S (Gb n))):=by
 refine cw Tryz.func50 ?_;have r:=EB.refl w;refine ws λ_ O=>wr (da (de O (ws λ_ z=>wr (dm ?_))));refine cP (X90 n _ (hg.ext r) hn) RX.all λw1 J=>?_;have r:=r.trans J;refine dp (Ji rfl rfl (by simp;omega)) (da (de z (EH ?_)));refine ro ?_;exact⟨rfl,r⟩
@[reducible] def He (bd bl:Nat) (n:Int) (vf:Value) (bo bm:Nat) (dead:Bool):List Value:=[ED bd 0,ED bl 0,I n,vf,.map (some bo),ED bm 0,B dead]
theorem Qp (bs bd bl:Nat)(n:Int)(vf:Value)(bo bm:Nat)(dead:Bool)(w:World)(hs:EL w bs (He bd bl n vf bo bm dead) 90) :
  Calls Tryz.prog 38 [ED bs 0].toArray w (Pure w (I (if dead=true then 9 else 0))):=by
 refine cw Tryz.func38 ?_;have z:=EB.refl w;refine ws λ_ Z1=>wr (da (de Z1 (ws λ_ O=>EN (ws λ_ Z3=>wr (dm ?_)))));refine dp (Gj E9 rfl rfl) (da (de Z3 ?_));refine wi (λJ=>?_) λJ=>?_
 ·exact absurd J EQ
 refine ws λ_ Y=>wr (dm ?_);refine dz rfl (df 6 rfl (dl rfl ((hs.ext z).at rfl) (da (de Y ?_))));refine wc (λr=>?_) λr=>?_
 ·refine ws λ_ Z5=>wr (da (de Z5 (EH ?_)));refine ro ?_;rw[if_pos r];exact⟨rfl,z⟩
 refine EG (O _ _ (ws λ_ Z=>wr (da (de Z (EH ?_)))));refine ro ?_;rw[if_neg (by rw[r];decide)];exact⟨rfl,z⟩
theorem SO (bs bd bl:Nat)(n:Int)(vf:Value)(bo bm:Nat)(dead:Bool)(w:World)(hs:EL w bs (He bd bl n vf bo bm dead) 90) :
  Calls Tryz.prog 23 [ED bs 0].toArray w (Pure w (B dead)):=by
 refine cw Tryz.func23 ?_;have z:=EB.refl w;refine ws λ_ O=>wr (da (de O (ws λ_ J=>wr (dm ?_))));refine dp (Ng E9 rfl rfl) (dm ?_);refine Fz 5 rfl (λr=>?_) (λr=>?_)
 ·refine dm ?_;refine dz rfl (df 6 rfl (dl rfl ((hs.ext z).at rfl) (EO ?_)));refine da (de J (EH ?_));refine ro ?_;exact⟨rfl,z⟩
 exact absurd EQ r
theorem Ph (bs bd bl:Nat)(n:Int)(vf:Value)(bo bm:Nat)(dead:Bool)(e:Int)(w:World)(hs:EL w bs (He bd bl n vf bo bm dead) 90) :
  Calls Tryz.prog 41 [ED bs 0,I e].toArray w (Fh (ES bs) w (λu w'=>u=I e/\EL w' bs (He bd bl n vf bo bm (dead || decide (e≠0))) 90)):=by
 refine cw Tryz.func41 ?_;have r:=Vc.Mod.refl (ES bs) w;refine ws λ_ Z1=>wr (da (de Z1 (ws λ_ J=>ws λ_ Z=>wr (dm ?_))));refine dp (F8 rfl rfl) (de Z (wi (λz=>?_) λz=>?_))
 ·refine wr (dm ?_);refine dz rfl (df 6 rfl (G5 hs (λw1 Y xs1 hs=>?_)));dsimp only [Fe,Ag,Af,Ai]at hs;have r:=r.own Y (λi hi _=>hi);refine de J (ws λ_ O=>wr (dm (da (de O (EH ?_)))));refine ro ?_;exact⟨_,rfl,r,rfl,by rw[decide_eq_true z,Bool.or_true];exact hs⟩
 refine EG (J _ _ (ws λ_ Z5=>wr (dm (da (de Z5 (EH ?_))))));refine ro ?_;exact⟨_,rfl,r,rfl,by rw[decide_eq_false z,Bool.or_false];exact hs⟩
structure RRep (X:Nat->Prop)(w:World)(bx:Nat)(l:List Cell):Prop where
 out:∃vL,EL w bx [vL] 215/\EM Cell.cs 4 w vL l/\(l≠[]->(base vL).1≠bx/\X (base vL).1)/\(∀j,X j->j<w.heap.size)
def NF (F:Nat->Prop)(w w':World):Nat->Prop:=λk=>F k\/(w.heap.size<=k/\k<w'.heap.size)
end Go.Proofs.YtiooodckiddpmaaGreatDoor
namespace Go.Sp
open Go.Vc
def Gf (h:Nat->Nat):List Nat->Nat->Nat
 | [],_=>0
 | j :: r,row=>if row<h j then j else Gf h r row
def GQ (h:Nat->Nat):List Nat->Nat->Nat
 | [],_=>0
 | j :: r,row=>if ∃i∈r,row<h i then GQ h r row else if row<h j then j else 0
def GX (h:Nat->Nat)(nx:Nat->List Nat):List Nat->Prop
 | []=>True
 | i :: r=>(∀row,row<h i->(nx i)[row]?=some (Gf h r row))/\GX h nx r
theorem RO {h:Nat->Nat}{row:Nat} : ∀ {R S:List Nat},(∀i∈R,¬ row<h i)->Gf h (R++S) row=Gf h S row
 | [],S,_=>rfl
 | j :: r,S,hn=>by
  simp only [AS,Gf];rw[if_neg (hn j Al)];exact RO (λi hi=>hn i (Am _ hi))
theorem QZ (h:Nat->Nat)(row:Nat):∀(R S:List Nat),(∃R1 j R2,R=R1++j :: R2/\row<h j/\Gf h (R++S) row=j/\(∀i∈R1,¬ row<h i))\/((∀i∈R,¬ row<h i)/\Gf h (R++S) row=Gf h S row)
 | [],S=>.inr ⟨(λi hi=>by cases hi),rfl⟩
 | j :: r,S=>by
  by_cases hj:row<h j
  ·exact .inl ⟨[],j,r,rfl,hj,by simp [Gf,hj],(λi hi=>by cases hi)⟩
  ·rcases QZ h row r S with⟨R1,k,R2,rfl,hk,he,hn⟩|⟨hn,he⟩
   ·refine .inl ⟨j :: R1,k,R2,rfl,hk,?_,λi hi=>?_⟩
    ·simp only [AS,Gf,if_neg hj]at he ⊢;exact he
    ·rcases Aj.1 hi with rfl|hi
     ·exact hj
     ·exact hn i hi
   ·refine .inr ⟨λi hi=>?_,?_⟩
    ·rcases Aj.1 hi with rfl|hi
     ·exact hj
     ·exact hn i hi
    ·simp only [AS,Gf,if_neg hj];exact he
theorem Qm (h:Nat->Nat)(row:Nat):∀S:List Nat,Gf h S row=0\/(Gf h S row∈S/\row<h (Gf h S row))
 | []=>.inl rfl
 | j :: r=>by
  simp only [Gf]
  by_cases hj:row<h j
  ·rw[if_pos hj];exact .inr ⟨Al,hj⟩
  ·rw[if_neg hj];rcases Qm h row r with e|⟨e,e2⟩
   ·exact .inl e
   ·exact .inr ⟨Am _ e,e2⟩
theorem Rg {h:Nat->Nat}{row at':Nat} : ∀ {A R:List Nat},row<h at'->(∀i∈R,¬ row<h i)->GQ h (A++at' :: R) row=at'
 | [],R,ha,hn=>by
  simp only [AE,GQ];rw[if_neg (by rintro ⟨i,hi,hlt⟩;exact hn i hi hlt),if_pos ha]
 | j :: A,R,ha,hn=>by
  simp only [AS,GQ];rw[if_pos ⟨at',by simp,ha⟩];exact Rg ha hn
theorem Rt {h:Nat->Nat}{nx:Nat->List Nat} : ∀ {A R:List Nat} {i:Nat},GX h nx (A++i :: R)->∀row,row<h i->(nx i)[row]?=some (Gf h R row)
 | [],_,_,hl=>hl.1
 | _ :: A,_,_,hl=>Rt (A:=A) hl.2
theorem XG {h h':Nat->Nat}{nx nx':Nat->List Nat}{q:Nat} : ∀(A S:List Nat),(∀i∈A++S,h' i=h i/\i≠q)->GX h nx (A++S)->
  (∀i∈S,nx' i=nx i)->(∀row,row<h' q->(nx' q)[row]?=some (Gf h S row))->
  (∀i∈A,∀row,row<h i->(nx' i)[row]?=if GQ h A row=i/\row<h' q then some q else(nx i)[row]?)->A.Nodup->
  GX h' nx' (A++q :: S)
 | [],S,hh,hl,hS,hq,_,_=>by
  have hn:∀T:List Nat,(∀i∈T,h' i=h i)->∀row,Gf h' T row=Gf h T row:=by
   intro T
   induction T with
   | nil=>intro _ _;rfl
   | cons j r ih=>intro z row;simp only [Gf];rw[z j Al,ih (λi hi=>z i (Am _ hi))]
  have Z:∀T:List Nat,(∀i∈T,h' i=h i/\nx' i=nx i)->GX h nx T->GX h' nx' T:=by
   intro T
   induction T with
   | nil=>intro _ _;trivial
   | cons j r ih=>
    intro z hl;obtain⟨h1,h2⟩:=z j Al;refine⟨λrow J=>?_,ih (λi hi=>z i (Am _ hi)) hl.2⟩;rw[h2,hn r (λi hi=>(z i (Am _ hi)).1)];exact hl.1 row (by rw[<-h1];exact J)
  refine⟨λrow J=>?_,Z S (λi hi=>⟨(hh i (by simpa using hi)).1,hS i hi⟩) (by simpa using hl)⟩;rw[hq row J,hn S (λi hi=>(hh i (by simpa using hi)).1)]
 | a :: A,S,hh,hl,hS,hq,hA,hnd=>by
  have Y:=AZ.1 hnd;have hg:=XG (h:=h) (h':=h') (nx:=nx) (nx':=nx') (q:=q) A S (λi hi=>hh i (Am _ hi)) hl.2 hS hq (λi hi row J=>by
   have h1:=hA i (Am _ hi) row J;have e:GQ h (a :: A) row=GQ h A row:=by
    simp only [GQ];rw[if_pos ⟨i,hi,J⟩]
   rw[e]at h1;exact h1) Y.2
  refine⟨λrow J=>?_,hg⟩;have ha:=(hh a Al);rw[ha.1]at J;have h1:=hA a Al row J;have h2:(nx a)[row]?=some (Gf h (A++S) row):=hl.1 row J;show(nx' a)[row]?=some (Gf h' (A++q :: S) row);rw[h1];have hf:∀T:List Nat,(∀i∈T,h' i=h i)->Gf h' (T++q :: S) row=if ∃i∈T,row<h i then Gf h (T++S) row else if row<h' q then q else Gf h S row:=by
   intro T
   induction T with
   | nil=>
    intro _;have hn:∀T:List Nat,(∀i∈T,h' i=h i)->Gf h' T row=Gf h T row:=by
     intro T
     induction T with
     | nil=>intro _;rfl
     | cons j r ih=>intro z;simp only [Gf];rw[z j Al,ih (λi hi=>z i (Am _ hi))]
    simp only [AE,Gf];rw[hn S (λi hi=>(hh i (Am _ (by simp [hi]))).1)];simp
   | cons j r ih=>
    intro z;simp only [AS,Gf];rw[z j Al,ih (λi hi=>z i (Am _ hi))]
    by_cases hj:row<h j
    ·simp [hj]
    ·simp [hj]
  rw[hf A (λi hi=>(hh i (Am _ (by simp [hi]))).1)]
  by_cases hex:∃i∈A,row<h i
  ·rw[if_pos hex];have hp:¬ (GQ h (a :: A) row=a/\row<h' q):=by
    rintro ⟨he,_⟩;simp only [GQ]at he;rw[if_pos hex]at he;have:GQ h A row∈A:=by
     have hc:∀T:List Nat,(∃i∈T,row<h i)->GQ h T row∈T:=by
      intro T
      induction T with
      | nil=>rintro ⟨i,hi,_⟩;cases hi
      | cons j r ih=>
       intro hx;simp only [GQ]
       by_cases hr2:∃i∈r,row<h i
       ·rw[if_pos hr2];exact Am _ (ih hr2)
       ·rw[if_neg hr2];obtain⟨i,hi,O⟩:=hx;rcases Aj.1 hi with rfl|hi
        ·rw[if_pos O];exact Al
        ·exact absurd ⟨i,hi,O⟩ hr2
     exact hc A hex
    rw[he]at this;exact Y.1 this
   rw[if_neg hp,h2]
  ·rw[if_neg hex];have he:GQ h (a :: A) row=a:=by
    simp only [GQ];rw[if_neg hex,if_pos J]
   have hb:Gf h (A++S) row=Gf h S row:=RO (λi hi O=>hex ⟨i,hi,O⟩)
   by_cases hq':row<h' q
   ·rw[if_pos ⟨he,hq'⟩,if_pos hq']
   ·rw[if_neg (λx=>hq' x.2),if_neg hq',h2,hb]
structure Tow where
 c:Cell
 bk:Nat
 h:Nat
@[reducible] def Tow.sl (t:Tow):Value:=.slice (some ⟨t.bk,0,none⟩) t.h t.h
@[reducible] def Tow.enc (t:Tow):List Value:=[S t.c.key,S t.c.val,B t.c.del,I t.c.seq,t.sl]
def hgt (a:List Tow)(i:Nat):Nat:=(a[i]?.map Tow.h).getD 0
def Hy (a:List Tow)(i:Nat):Cell:=(a[i]?.map Tow.c).getD Cell.zero
theorem VI {a:List Tow}{i:Nat}{t:Tow}(h:a[i]?=some t):hgt a i=t.h:=by simp [hgt,h]
theorem Nc {a:List Tow}{i:Nat}{t:Tow}(h:a[i]?=some t):Hy a i=t.c:=by simp [Hy,h]
def Fu (a:List Tow)(L:List Nat)(c:Cell):List Nat:=L.takeWhile λi=>EZ (Hy a i) c
def Fj (a:List Tow)(L:List Nat)(c:Cell):List Nat:=L.dropWhile λi=>EZ (Hy a i) c
theorem MW (a:List Tow)(L:List Nat)(c:Cell):Fu a L c++Fj a L c=L:=List.takeWhile_append_dropWhile ..
structure Skip (a:List Tow)(nx:Nat->List Nat)(L:List Nat)(l:List Cell):Prop where
 len:a.length=L.length+1
 mem:∀i∈L,1<=i/\i<a.length
 nd:L.Nodup
 cells:l=L.map (Hy a)
 h0:hgt a 0=12
 hle:∀i,i<a.length->1<=hgt a i/\hgt a i<=12
 link:GX (hgt a) nx (0 :: L)
section
variable {a:List Tow}{nx:Nat->List Nat}{L:List Nat}{l:List Cell}{c:Cell}
theorem Xw3 {i:Nat}(h:i∈Fu a L c):EZ (Hy a i) c=true:=
 AU.1 (List.all_takeWhile (p:=λi=>EZ (Hy a i) c) (l:=L)) i h
theorem Mi {i:Nat}(h:i∈Fu a L c):i∈L:=by rw[<-MW a L c];exact BC _ h
theorem Oi {i:Nat}(h:i∈Fj a L c):i∈L:=by rw[<-MW a L c];exact Bt _ h
theorem XI {i:Nat}{r:List Nat}(h:Fj a L c=i :: r):EZ (Hy a i) c=false:=by
 have:=List.head?_dropWhile_not (λi=>EZ (Hy a i) c) L;rw[show List.dropWhile (λi=>EZ (Hy a i) c) L=Fj a L c from rfl,h]at this;simpa using this
theorem X6r (a:List Tow)(L:List Nat)(c:Cell):pre (L.map (Hy a)) c=(Fu a L c).map (Hy a):=by
 unfold pre Fu;rw[List.takeWhile_map];rfl
theorem Mn (a:List Tow)(L:List Nat)(c:Cell):H2 (L.map (Hy a)) c=(Fj a L c).map (Hy a):=by
 unfold H2 Fj;rw[List.dropWhile_map];rfl
theorem Skip.mem0 (h:Skip a nx L l){i:Nat}(hi:i∈0 :: L):i<a.length:=by
 rcases Aj.1 hi with rfl|hi
 ·have:=h.len;omega
 ·exact(h.mem i hi).2
theorem Skip.pos (h:Skip a nx L l){i:Nat}(hi:i∈L):i≠0:=by have:=(h.mem i hi).1;omega
theorem Skip.nextR (h:Skip a nx L l){A R:List Nat}{i row:Nat}(hp:0 :: Fu a L c=A++i :: R)(hr:row<hgt a i):(nx i)[row]?=some (Gf (hgt a) (R++Fj a L c) row):=by
 have r:=h.link;have e:0 :: L=A++i :: (R++Fj a L c):=by
  have e2:0 :: (Fu a L c++Fj a L c)=A++i :: (R++Fj a L c):=by rw[<-AS,hp];simp
  rwa [MW]at e2
 rw[e]at r;exact Rt r row hr
theorem Skip.next_in (h:Skip a nx L l){A R:List Nat}{i row:Nat}(hp:0 :: Fu a L c=A++i :: R) :
  Gf (hgt a) (R++Fj a L c) row=0\/Gf (hgt a) (R++Fj a L c) row∈L:=by
 rcases Qm (hgt a) row (R++Fj a L c)with e|⟨e,_⟩
 ·exact .inl e
 ·refine .inr ?_;rcases Ay.1 e with e|e
  ·have:Gf (hgt a) (R++Fj a L c) row∈0 :: Fu a L c:=by rw[hp];simp [e]
   rcases Aj.1 this with e2|e2
   ·-- 0 is not of what stands behind
    exfalso;rw[e2]at e
    cases A with
    | nil=>
     rw[AE]at hp;have r:R=Fu a L c:=by injection hp with _ h2;exact h2.symm
     rw[r]at e;exact h.pos (Mi e) rfl
    | cons x A=>
     rw[AS]at hp;have r:Fu a L c=A++i :: R:=by injection hp
     exact h.pos (Mi (by rw[r];simp [e])) rfl
   ·exact Mi e2
  ·exact Oi e
theorem Skip.behind (h:Skip a nx L l){A R:List Nat}{i j:Nat}(hp:0 :: Fu a L c=A++i :: R)(hj:j∈R):j∈Fu a L c:=by
 cases A with
 | nil=>
  rw[AE]at hp;have r:Fu a L c=R:=by injection hp
  rw[r];exact hj
 | cons x A=>
  rw[AS]at hp;have r:Fu a L c=A++i :: R:=by injection hp
  rw[r];simp [hj]
theorem Skip.step (h:Skip a nx L l)(hs:Fv l){A R:List Nat}{i row:Nat}{t:Tow}(hp:0 :: Fu a L c=A++i :: R)(h0:Gf (hgt a) (R++Fj a L c) row≠0)
  (ht:a[Gf (hgt a) (R++Fj a L c) row]?=some t) (hl:EZ t.c c=true) :
  ∃A' R',0 :: Fu a L c=A'++Gf (hgt a) (R++Fj a L c) row :: R'/\row<hgt a (Gf (hgt a) (R++Fj a L c) row)/\R'.length<R.length:=by
 rcases QZ (hgt a) row R (Fj a L c)with⟨R1,j,R2,e,hj,e2,_⟩|⟨_,e2⟩
 ·rw[e2];refine⟨A++i :: R1,R2,?_,hj,?_⟩
  ·rw[hp,e];simp
  ·rw[e];simp;omega
 ·exfalso;rw[e2]at h0 ht;rcases Qm (hgt a) row (Fj a L c)with e3|⟨e3,_⟩
  ·exact h0 e3
  ·-- a cell of the rest is not ahead
   cases hsu:Fj a L c with
   | nil=>rw[hsu]at e3;cases e3
   | cons s r=>
    have h1:=XI hsu;rw[hsu]at e3;rw[hsu]at ht;have z:EZ (Hy a (Gf (hgt a) (s :: r) row)) c=true:=by rw[Nc ht];exact hl
    rcases Aj.1 e3 with e4|e4
    ·rw[e4,h1]at z;cases z
    ·have J:Fv (H2 l c):=by
      have h2:Fv (pre l c++H2 l c):=by rw[M7];exact hs
      exact(List.pairwise_append.1 h2).2.1
     rw[h.cells,Mn,hsu,Aq]at J;have:=List.rel_of_pairwise_cons J (List.mem_map_of_mem (f:=Hy a) e4);have:=MI this z;rw[h1]at this;cases this
theorem Skip.stop (h:Skip a nx L l){A R:List Nat}{i row:Nat}(hp:0 :: Fu a L c=A++i :: R)(hr:row<hgt a i)
  (hn:Gf (hgt a) (R++Fj a L c) row=0\/∃t,a[Gf (hgt a) (R++Fj a L c) row]?=some t/\EZ t.c c=false) :
  GQ (hgt a) (0 :: Fu a L c) row=i:=by
 rw[hp];refine Rg hr λj J z=>?_;rcases QZ (hgt a) row R (Fj a L c)with⟨R1,k,R2,e,hk,e2,_⟩|⟨hno,_⟩
 ·have r:=h.behind hp (j:=k) (by rw[e];simp);rw[e2]at hn;rcases hn with hn|⟨t,ht,hl⟩
  ·exact h.pos (Mi r) hn
  ·have:=Xw3 r;rw[Nc ht,hl]at this;cases this
 ·exact hno j J z
theorem Tj {h:Nat->Nat} : ∀ {R:List Nat},(∀i∈R,1<=h i)->Gf h R 0=R.headD 0
 | [],_=>rfl
 | j :: r,hh=>by simp [Gf];intro h0;have:=hh j Al;omega
theorem Xpw {h:Nat->Nat} : ∀ {A:List Nat} {x:Nat},(∀i∈A++[x],1<=h i)->GQ h (A++[x]) 0=x:=λ {A x} hh=>
 Rg (hh x EQ) (λi hi=>by cases hi)
theorem Skip.last (h:Skip a nx L l)(c:Cell):∃A i,0 :: Fu a L c=A++[i]/\GQ (hgt a) (0 :: Fu a L c) 0=i/\i<a.length/\(nx i)[0]?=some ((Fj a L c).headD 0):=by
 obtain⟨A,i,e⟩:∃A i,0 :: Fu a L c=A++[i]:=⟨(0 :: Fu a L c).dropLast,(0 :: Fu a L c).getLast EQ,(List.dropLast_concat_getLast EQ).symm⟩;have z:∀j∈0 :: Fu a L c,j<a.length:=λj r=>by
  rcases Aj.1 r with rfl|r
  ·exact h.mem0 Al
  ·exact h.mem0 (Am _ (Mi r))
 have hi:i<a.length:=z i (by rw[e];simp);refine⟨A,i,e,?_,hi,?_⟩
 ·rw[e];exact Xpw (λj r=>(h.hle j (z j (by rw[e];exact r))).1)
 ·have:=h.nextR (c:=c) (A:=A) (R:=[]) (i:=i) (row:=0) e (by have:=(h.hle i hi).1;omega);rw[this,AE,Tj (λj r=>(h.hle j (h.mem0 (Am _ (Oi r)))).1)]
theorem Skip.next0 (h:Skip a nx L l){D r:List Nat}{i:Nat}(hp:Fj a L c=D++i :: r):i∈L/\(nx i)[0]?=some (r.headD 0):=by
 have J:L=Fu a L c++(D++i :: r):=by rw[<-hp,MW]
 have z:i∈L:=by rw[J];simp
 have Z:∀j∈r,j∈L:=λj O=>by rw[J];simp [O]
 refine⟨z,?_⟩;have Y:=h.link;have e:0 :: L=(0 :: Fu a L c++D)++i :: r:=by
  have e2:0 :: (Fu a L c++(D++i :: r))=(0 :: Fu a L c++D)++i :: r:=by simp
  rwa [<-J]at e2
 rw[e]at Y;rw[Rt Y 0 (by have:=(h.hle i (h.mem i z).2).1;omega),Tj (λj O=>(h.hle j (h.mem j (Z j O)).2).1)]
theorem QS {key:EC}{seq:Int} : ∀ {l:List Cell},Fv l->first l key seq=((H2 l ⟨key,[],false,seq⟩).head?).filter λs=>decide (s.key=key)
 | [],_=>rfl
 | x :: l,hs=>by
  have J:Fv l:=(AO.1 hs).2;have hx:∀y∈l,EZ x y=true:=(AO.1 hs).1;have ih:=QS (key:=key) (seq:=seq) J;unfold first H2 at *
  rw[List.find?_cons,Di]
  by_cases hl:EZ x ⟨key,[],false,seq⟩=true
  ·rw[if_pos hl];have hn:(decide (x.key=key) && decide (x.seq<=seq))=false:=by
    rw[IT]at hl;rcases hl with hl|⟨e,hl⟩
    ·have:=Ms hl;simp only []at this;simp [this]
    ·simp only []at e hl;simp [e];omega
   rw[hn];exact ih
  ·rw[if_neg hl];simp only [Ef,Eg];have r:¬ (EU x.key key=true\/(x.key=key/\seq<x.seq)):=λh=>hl ((IT _ _).2 h)
   by_cases e:x.key=key
   ·have O:x.seq<=seq:=by
     by_cases O:x.seq<=seq
     ·exact O
     ·exact absurd (.inr ⟨e,by omega⟩) r
    simp [e,O]
   ·have hgt:EU key x.key=true:=by
     rcases Jm x.key key with h|h|h
     ·exact absurd h e
     ·exact absurd (.inl h) r
     ·exact h
    have Y:∀y∈l,(decide (y.key=key) && decide (y.seq<=seq))=false:=λy Z=>by
     have h1:=(IT _ _).1 (hx y Z);have h2:y.key≠key:=by
      rintro rfl;rcases h1 with h1|⟨h1,_⟩
      ·rw[Jp h1]at hgt;cases hgt
      ·exact e h1
     simp [h2]
    have z:l.find? (λc=>decide (c.key=key) && decide (c.seq<=seq))=none:=by
     rw[List.find?_eq_none];intro y Z;rw[Y y Z];decide
    simp [e,z]
theorem Skip.first_none (h:Skip a nx L l)(hs:Fv l){key:EC}{seq:Int}(h0:(Fj a L ⟨key,[],false,seq⟩).headD 0=0):first l key seq=none:=by
 rw[QS hs,h.cells,Mn]
 cases hsu:Fj a L ⟨key,[],false,seq⟩with
 | nil=>rfl
 | cons i r=>
  rw[hsu]at h0;exact absurd h0 (h.pos (Oi (c:=⟨key,[],false,seq⟩) (by rw[hsu];simp)))
theorem Skip.first_at (h:Skip a nx L l)(hs:Fv l){key:EC}{seq:Int}{t:Tow}(h0:(Fj a L ⟨key,[],false,seq⟩).headD 0≠0)(ht:a[(Fj a L ⟨key,[],false,seq⟩).headD 0]?=some t):first l key seq=if t.c.key=key then some t.c else none:=by
 rw[QS hs,h.cells,Mn]
 cases hsu:Fj a L ⟨key,[],false,seq⟩with
 | nil=>rw[hsu]at h0;exact absurd rfl h0
 | cons i r=>
  rw[hsu]at ht;simp only [Eh]at ht;simp only [Aq,Ef,Eg,Nc ht]
  by_cases e:t.c.key=key<;>simp [e]
theorem Skip.head_at (h:Skip a nx L l)(h0:(Fj a L c).headD 0≠0):∃t,a[(Fj a L c).headD 0]?=some t:=by
 cases hsu:Fj a L c with
 | nil=>rw[hsu]at h0;exact absurd rfl h0
 | cons i r=>exact⟨_,Av (h.mem i (Oi (c:=c) (by rw[hsu];simp))).2⟩
theorem Wu {p q:Cell->Bool} : ∀ {l:List Cell},(∀x y,q x=false->EZ x y=true->q y=false)->Fv l->(∀x∈l,p x=true)->l.filter (λx=>p x && q x)=l.takeWhile q
 | [],_,_,_=>rfl
 | x :: l,hq,hs,hp=>by
  have r:=AO.1 hs;rw[B5,Dj,hp x Al,Cu]
  cases hx:q x with
  | true=>simp [Wu hq r.2 (λy z=>hp y (Am _ z))]
  | false=>
   simp only [C7,if_false];rw[List.filter_eq_nil_iff];intro y z;simp [hq x y hx (r.1 y z)]
theorem Xj {frm to:EC} : ∀ {l:List Cell},Fv l->(∀x∈l,x.seq<=4611686018427387904)->scan l frm to=(H2 l ⟨frm,[],false,4611686018427387904⟩).takeWhile λx=>(decide (to=[]) || EU x.key to)
 | [],_,_=>rfl
 | x :: l,hs,hb=>by
  have J:=AO.1 hs;have hbx:=hb x Al;unfold scan H2;rw[Di]
  by_cases hl:EZ x ⟨frm,[],false,4611686018427387904⟩=true
  ·rw[if_pos hl];have Y:EU x.key frm=true:=by
    rw[IT]at hl;rcases hl with hl|⟨_,hl⟩
    ·exact hl
    ·simp only []at hl;omega
   have ih:=Xj (frm:=frm) (to:=to) J.2 (λy O=>hb y (Am _ O));unfold scan H2 at ih;rw[B5,if_neg (by simp [JC,Y])];exact ih
  ·rw[if_neg hl];have r:EU x.key frm=false:=by
    cases hh:EU x.key frm with
    | false=>rfl
    | true=>exact absurd ((IT _ _).2 (.inl hh)) hl
   have z:∀y∈x :: l,(!EU y.key frm)=true:=λy O=>by
    rcases Aj.1 O with rfl|O
    ·rw[r];rfl
    ·cases hh:EU y.key frm with
     | false=>rfl
     | true=>
      rcases(IT _ _).1 (J.1 y O)with h1|⟨h1,_⟩
      ·rw[IZ _ _ _ h1 hh]at r;cases r
      ·rw[h1,hh]at r;cases r
   exact Wu (p:=λy=>!EU y.key frm) (λu v hu Z=>by
    simp only [Bool.or_eq_false_iff,decide_eq_false_iff_not]at hu ⊢;refine⟨hu.1,?_⟩
    cases hh:EU v.key to with
    | false=>rfl
    | true=>
     rcases(IT _ _).1 Z with h1|⟨h1,_⟩
     ·rw[IZ _ _ _ h1 hh]at hu;cases hu.2
     ·rw[h1,hh]at hu;cases hu.2) hs z
theorem Uq {α:Type}{p:α->Bool} : ∀ {D r:List α},(∀x∈D,p x=true)->(∀x,r.head?=some x->p x=false)->(D++r).takeWhile p=D
 | [],[],_,_=>rfl
 | [],x :: r,_,h=>by simp [h x rfl]
 | d :: D,r,h1,h2=>by
  rw[AS,Dj,if_pos (h1 d Al),Uq (λx z=>h1 x (Am _ z)) h2]
theorem Skip.scan_done (h:Skip a nx L l)(hs:Fv l)(hb:∀x∈l,x.seq<=4611686018427387904){frm to:EC}{D r:List Nat}(e:Fj a L ⟨frm,[],false,4611686018427387904⟩=D++r)
  (hD:∀i∈D,to=[]\/EU (Hy a i).key to=true) (hr:∀i,r.head?=some i->¬ (to=[]\/EU (Hy a i).key to=true)):scan l frm to=D.map (Hy a):=by
 rw[Xj hs hb,h.cells,Mn,e,AC];refine Uq (λx z=>?_) (λx z=>?_)
 ·obtain⟨i,hi,rfl⟩:=List.mem_map.1 z;simpa using hD i hi
 ·rw[List.head?_map]at z;obtain⟨i,hi,rfl⟩:=Option.map_eq_some_iff.1 z;have:=hr i hi;rw[not_or]at this;simp [this.1,this.2]
theorem Skip.last_in (h:Skip a nx L l)(c:Cell){row:Nat}(hr:row<12) :
  ∃A R,0 :: Fu a L c=A++GQ (hgt a) (0 :: Fu a L c) row :: R/\row<hgt a (GQ (hgt a) (0 :: Fu a L c) row)/\(∀i∈R,¬ row<hgt a i):=by
 have key:∀T:List Nat,(∃i∈T,row<hgt a i)->∃A R,T=A++GQ (hgt a) T row :: R/\row<hgt a (GQ (hgt a) T row)/\(∀i∈R,¬ row<hgt a i):=by
  intro T
  induction T with
  | nil=>rintro ⟨i,hi,_⟩;cases hi
  | cons j r ih=>
   intro O
   by_cases hr2:∃i∈r,row<hgt a i
   ·obtain⟨A,R,e,h2,h3⟩:=ih hr2;have e2:GQ (hgt a) (j :: r) row=GQ (hgt a) r row:=by simp only [GQ];rw[if_pos hr2]
    rw[e2];exact⟨j :: A,R,by rw[AS,<-e],h2,h3⟩
   ·have J:row<hgt a j:=by
     obtain⟨i,hi,z⟩:=O;rcases Aj.1 hi with rfl|hi
     ·exact z
     ·exact absurd ⟨i,hi,z⟩ hr2
    have e2:GQ (hgt a) (j :: r) row=j:=by simp only [GQ];rw[if_neg hr2,if_pos J]
    rw[e2];exact⟨[],r,rfl,J,λi hi z=>hr2 ⟨i,hi,z⟩⟩
 exact key _ ⟨0,Al,by rw[h.h0];exact hr⟩
theorem Skip.has_none (h:Skip a nx L l)(h0:(Fj a L c).headD 0=0):has l c=false:=by
 unfold has;rw[h.cells,Mn]
 cases hsu:Fj a L c with
 | nil=>rfl
 | cons i r=>
  rw[hsu]at h0;exact absurd h0 (h.pos (Oi (c:=c) (by rw[hsu];simp)))
theorem Skip.has_at (h:Skip a nx L l){t:Tow}(h0:(Fj a L c).headD 0≠0)(ht:a[(Fj a L c).headD 0]?=some t):has l c=!EZ c t.c:=by
 unfold has;rw[h.cells,Mn]
 cases hsu:Fj a L c with
 | nil=>rw[hsu]at h0;exact absurd rfl h0
 | cons i r=>
  rw[hsu]at ht;simp only [Eh]at ht;have hn:=XI hsu;rw[Nc ht]at hn;simp only [Aq,Nc ht]
  cases hl:EZ c t.c with
  | false=>
   have:=PL hn hl;simp [this.1,this.2]
  | true=>
   simp only [Bool.not_true,C8,decide_eq_false_iff_not]
   by_cases e:t.c.key=c.key
   ·right;intro e2;rw[RV e.symm e2.symm]at hl
    cases hl
   ·exact .inl e
theorem Xpx {α:Type}{x y:List α}{n:Nat}(hx:x.length=n)(hy:y.length=n)(h:∀i,i<n->x[i]?=y[i]?):x=y:=by
 apply BA
 intro i
 by_cases hi:i<n
 ·exact h i hi
 ·rw[Bl EA,Bl EA]
theorem Skip.put (h:Skip a nx L l){t:Tow}{nx2:Nat->List Nat}(htc:t.c=c)(hh:1<=t.h/\t.h<=12)
  (hlen:∀i,i<a.length->(nx i).length=hgt a i/\(nx2 i).length=hgt a i)
  (hq:∀row,row<t.h->(nx2 a.length)[row]?=some (Gf (hgt a) (Fj a L c) row))
  (hlay:∀i row,i<a.length->row<hgt a i->(nx2 i)[row]?=if row<t.h/\GQ (hgt a) (0 :: Fu a L c) row=i then some a.length else(nx i)[row]?) :
  Skip (a++[t]) nx2 (Fu a L c++a.length :: Fj a L c) (pre l c++c :: H2 l c):=by
 have z:=MW a L c;have hg:∀i,i<a.length->hgt (a++[t]) i=hgt a i:=λi hi=>by unfold hgt;rw[Bw hi]
 have hb:hgt (a++[t]) a.length=t.h:=by unfold hgt;simp
 have hc:∀i,i<a.length->Hy (a++[t]) i=Hy a i:=λi hi=>by unfold Hy;rw[Bw hi]
 have hz:Hy (a++[t]) a.length=c:=by unfold Hy;simp [htc]
 have r:∀i,i∈Fu a L c++Fj a L c->1<=i/\i<a.length:=λi hi=>h.mem i (by rw[z]at hi;exact hi);have hj:0<a.length:=by have:=h.len;omega
 have hl:(0 :: (Fu a L c++Fj a L c)).Nodup:=AZ.2 ⟨λh0=>by have:=(r 0 h0).1;omega,by rw[z];exact h.nd⟩;have ht:(0 :: Fu a L c).Nodup:=by
  have:(0 :: Fu a L c++Fj a L c).Nodup:=hl;exact(BK.1 this).1
 have hf:∀i∈0 :: Fu a L c,∀j∈Fj a L c,i≠j:=by
  have:(0 :: Fu a L c++Fj a L c).Nodup:=hl;exact(BK.1 this).2.2
 have ha:∀row,row<12->GQ (hgt a) (0 :: Fu a L c) row∈0 :: Fu a L c:=λrow Z=>by
  obtain⟨A,R,e,_⟩:=h.last_in c Z;rw[e];have e':GQ (hgt a) (A++GQ (hgt a) (0 :: Fu a L c) row :: R) row=GQ (hgt a) (0 :: Fu a L c) row:=by rw[<-e]
  rw[e'];simp
 have O:∀i∈0 :: Fu a L c,i<a.length:=λi hi=>by
  rcases Aj.1 hi with rfl|hi
  ·exact hj
  ·exact(r i (BC _ hi)).2
 refine⟨?_,?_,?_,?_,?_,?_,?_⟩
 ·have e:=congrArg A7 z;rw[Ab]at e;rw[Ab,Ab,AB,h.len];simp;omega
 ·intro i hi;rw[Ab];simp only [Ay,Aj]at hi;rcases hi with hi|rfl|hi
  ·have:=r i (BC _ hi);simp;omega
  ·simp;omega
  ·have:=r i (Bt _ hi);simp;omega
 ·have hw:(Fu a L c++Fj a L c).Nodup:=by rw[z];exact h.nd
  have hp:=BK.1 hw;refine BK.2 ⟨hp.1,AZ.2 ⟨λhm=>?_,hp.2.1⟩,λx Y y hy=>?_⟩
  ·have:=(r _ (Bt _ hm)).2;omega
  ·rcases Aj.1 hy with rfl|hy
   ·have:=(r x (BC _ Y)).2;omega
   ·exact hp.2.2 x Y y hy
 ·have e1:pre l c=(Fu a L c).map (Hy a):=by rw[h.cells,X6r]
  have e2:H2 l c=(Fj a L c).map (Hy a):=by rw[h.cells,Mn]
  rw[e1,e2,AC,Aq,hz];have e3:∀T:List Nat,(∀i∈T,i<a.length)->T.map (Hy (a++[t]))=T.map (Hy a):=λT hT=>List.map_congr_left (λi hi=>hc i (hT i hi));rw[e3 _ (λi hi=>(r i (BC _ hi)).2),e3 _ (λi hi=>(r i (Bt _ hi)).2)]
 ·rw[hg 0 hj];exact h.h0
 ·intro i hi;rw[Ab]at hi
  by_cases hia:i<a.length
  ·rw[hg i hia];exact h.hle i hia
  ·have:i=a.length:=by simp at hi;omega
   rw[this,hb];exact hh
 ·show GX (hgt (a++[t])) nx2 ((0 :: Fu a L c)++a.length :: Fj a L c);refine XG (h:=hgt a) (nx:=nx) (0 :: Fu a L c) (Fj a L c) (λi hi=>?_) (by rw[AS,z];exact h.link) (λi hi=>?_) (λrow Z=>?_) (λi hi row Z=>?_) ht
  ·have J:i<a.length:=by
    rcases Ay.1 hi with hi|hi
    ·exact O i hi
    ·exact(r i (Bt _ hi)).2
   exact⟨hg i J,by omega⟩
  ·have J:=(r i (Bt _ hi)).2;refine Xpx (hlen i J).2 (hlen i J).1 (λrow Z=>?_);rw[hlay i row J Z,if_neg];rintro ⟨h1,h2⟩;exact hf _ (ha row EA) i hi h2
  ·rw[hb]at Z;exact hq row Z
  ·rw[hlay i row (O i hi) Z,hb]
   by_cases Y:row<t.h/\GQ (hgt a) (0 :: Fu a L c) row=i
   ·rw[if_pos Y,if_pos ⟨Y.2,Y.1⟩]
   ·rw[if_neg Y,if_neg (λy=>Y ⟨y.2,y.1⟩)]
theorem Xpy (l:List Cell)(c:Cell):GS (pre l c++c :: H2 l c)=GS l+Gn c:=by
 have e:GS l=GS (pre l c++H2 l c):=by rw[M7]
 rw[e];unfold GS;simp only [AC,Aq,List.sum_append,List.sum_cons];omega
theorem Xw4 (l:List Cell)(c:Cell):(pre l c++c :: H2 l c).length=l.length+1:=by
 have e:l.length=(pre l c++H2 l c).length:=by rw[M7]
 rw[e];simp only [Ab,AB];omega
end
end Go.Sp
namespace Go.Proofs.YtiooodckiddpmaaGreatDoor
open Go.Vc Go.Sp
attribute [local irreducible] W XW Dw Gm
structure MemAt (w:World)(bm:Nat)(va vd:Value)(a:List Tow)(nx:Nat->List Nat)(dr:List Nat)(n sz:Nat):Prop where
 hm:EL w bm [va,vd,I n,I sz] 155
 hA:Vc.Own Tow.enc 5 172 0 w va a
 hd:Vc.Own Iu 1 174 0 w vd dr
 hN:∀i t,a[i]?=some t->EL w t.bk (FP (nx i)) 3/\(nx i).length=t.h
 d2:∀(i j:Nat) s t,a[i]?=some s->a[j]?=some t->s.bk=t.bk->i=j
theorem MemAt.arr {w:World}{bm:Nat}{va vd:Value}{a:List Tow}{nx:Nat->List Nat}{dr:List Nat}{n sz:Nat}(h:MemAt w bm va vd a nx dr n sz):EM Tow.enc 5 w va a:=h.hA.arr (λx=>rfl)
theorem X0m {w:World}{t:Tow}{q:List Nat}(h:EL w t.bk (FP q) 3/\q.length=t.h)(hh:t.h<=12):EM MF 1 w t.sl q:=
 h.1.arr (Xuf q).symm (λx=>rfl) h.2.symm EA
theorem MemAt.next {w:World}{bm:Nat}{va vd:Value}{a:List Tow}{nx:Nat->List Nat}{dr:List Nat}{n sz i:Nat}{t:Tow}(h:MemAt w bm va vd a nx dr n sz){L:List Nat}{l:List Cell}{nx':Nat->List Nat}(hs:Skip a nx' L l)(ht:a[i]?=some t):EM MF 1 w t.sl (nx i):=
 X0m (h.hN i t ht) (by have:=(hs.hle i (List.getElem?_eq_some_iff.1 ht).1).2;rwa [VI ht]at this)
theorem MemAt.ext {w w':World}{bm:Nat}{va vd:Value}{a:List Tow}{nx:Nat->List Nat}{dr:List Nat}{n sz:Nat}(h:MemAt w bm va vd a nx dr n sz)(x:EB w w'):MemAt w' bm va vd a nx dr n sz:=
 ⟨h.hm.ext x,h.hA.ext x,h.hd.ext x,λi t r=>⟨(h.hN i t r).1.ext x,(h.hN i t r).2⟩,h.d2⟩
theorem X0n (a:List Tow)(L:List Nat)(c:Cell):(Fj a L c).length<=L.length:=by
 have:=congrArg A7 (MW a L c);rw[Ab]at this;omega
theorem RA (l:List Cell):scan l [] []=l:=by
 unfold scan;rw[List.filter_eq_self];intro x _;have:EU x.key []=false:=by cases x.key<;>rfl
 simp [JC,this]
theorem UD (bm:Nat)(va vd:Value)(a:List Tow)(nx:Nat->List Nat)(dr:List Nat)(n sz:Nat)(L:List Nat)(l:List Cell)(c:Cell)(w:World)(h:MemAt w bm va vd a nx dr n sz)(hs:Skip a nx L l)(hsd:Fv l)(hal:a.length<=1000000) :
  Calls Tryz.prog 167 [ED bm 0,c.v].toArray w (ER w (λv _=>∃q:List Nat,v=.agg ⟨FP q⟩/\q.length=12/\∀row,row<12->q[row]?=some (GQ (hgt a) (0 :: Fu a L c) row))):=by
 refine cw Tryz.func167 ?_;have J:=EB.refl w;have hm:=h.hm;have hA:=h.arr;refine ws λ_ Z1=>wr (Gc rfl rfl rfl RX.all (λb1 w1 e1 x1 O=>?_));have g1:=J.ge e1;have J:=J.trans x1;refine FG (cs:=[.int .i64 0,.int .i64 0,.int .i64 0,.int .i64 0,.int .i64 0,.int .i64 0,.int .i64 0,.int .i64 0,.int .i64 0,.int .i64 0,.int .i64 0,.int .i64 0]) rfl E9 RX.all (λb2 w2 e2 x2 Y=>?_);have g2:=J.ge e2;have n2_1:=O.ltb e2;have O:=O.ext x2;have J:=J.trans x2;refine de Z1 (ws λ_ Z2=>wr (FG (cs:=[.int .i64 0,.int .i64 0,.int .i64 0,.int .i64 0,.int .i64 0,.int .i64 0,.int .i64 0,.int .i64 0,.int .i64 0,.int .i64 0,.int .i64 0,.int .i64 0]) rfl E9 RX.all (λb3 w3 e3 x3 Z=>?_)));have g3:=J.ge e3;have n3_1:=O.ltb e3;have n3_2:=Y.ltb e3;have O:=O.ext x3;have Y:=Y.ext x3;have J:=J.trans x3;refine de Z2 (ws λ_ Z3=>wr (da (de Z3 (ws λ_ Z4=>ws λ_ Z5=>wr (da (de Z5 (EN ?_)))))));refine Fk (G:=Int×Nat×List Nat) (λ(z,p,q)=>[(0,ED bm 0),(3,ED b1 0),(4,ED b2 0),(5,ED b3 0),(6,I ↑p),(7,I z)]) (λ(z,p,q) w'=>EB w w'/\EL w' b1 c.cs 79/\EL w' b2 (FP (Aw 12 0)) 244/\EL w' b3 (FP q) 244/\-1<=z/\z<=11/\p∈0 :: Fu a L c/\z<hgt a p/\q.length=12/\∀row:Nat,z<row->row<12->q[row]?=some (GQ (hgt a) (0 :: Fu a L c) row)) (λ(z,p,q)=>(z+1).toNat) (11,0,Aw 12 0) ?_ ?_ ?_
 ·exact FSq
 ·exact⟨J,O,Y,Z,by omega,by omega,Al,by rw[hs.h0];decide,rfl,λrow h1 h2=>absurd h1 EA⟩
 intro X4 g4 w4 h9;obtain⟨z,p,q⟩:=g4;clear J O Y Z;obtain⟨J,O,Y,Z,hz1,hz2,hb,ht,hq,hh⟩:=h9;refine ws λ_ Z6=>ws λ_ Z7=>wr (dm ?_);refine dp (IB rfl rfl) (de Z7 (wi (λc1=>?_) λc1=>?_))
 ·obtain⟨r,rfl⟩:=Int.eq_ofNat_of_zero_le c1;obtain⟨ta,hka⟩:∃t,a[p]?=some t:=⟨_,Av (by rcases Aj.1 hb with rfl|hb;exact hs.mem0 Al;exact hs.mem0 (Am _ (Mi hb)))⟩;have hf:=h.next hs hka;obtain⟨A,R,hp⟩:∃A R,0 :: Fu a L c=A++p :: R:=List.append_of_mem hb;have hr:=hs.nextR hp (row:=r) EA;refine EG (Z6 _ _ (ws λ_ Z8=>EN (ws λ_ Z9=>ws λ_ h7=>wr (dm ?_))));refine dz rfl (df 0 rfl (dl rfl ((hm.ext J).at rfl) (dm ?_)));refine di 172 5 hA.sl rfl (hA.lt hka) (df 4 rfl (dl rfl (((hA.ext J).row hka).at rfl) (dm ?_)));refine di 3 1 hf.sl rfl (hf.lt hr) (dl rfl (((hf.ext J).row hr).at0 rfl) (da (de h7 (EN ?_))));refine Fk (G:=Nat×Nat×List Nat) (λ(p2,x,R)=>[(0,ED bm 0),(3,ED b1 0),(4,ED b2 0),(5,ED b3 0),(6,I ↑p2),(7,I ↑r),(8,I ↑x)]) (λ(p2,x,R) w'=>EB w w'/\EL w' b1 c.cs 79/\EL w' b2 (FP (Aw 12 0)) 244/\EL w' b3 (FP q) 244/\(∃A,0 :: Fu a L c=A++p2 :: R)/\r<hgt a p2/\x=Gf (hgt a) (R++Fj a L c) r) (λ(p2,x,R)=>R.length) (p,Gf (hgt a) (R++Fj a L c) r,R) ?_ ?_ ?_
  ·exact FQ
  ·exact⟨J,O,Y,Z,⟨A,hp⟩,by omega,rfl⟩
  intro X5 g5 w5 xb;obtain⟨p2,x,R⟩:=g5;clear J O Y Z;obtain⟨J,O,Y,Z,⟨A,hp⟩,ht,ha⟩:=xb;refine ws λ_ xa=>ws λ_ hw=>F4 (R:=EB) EB.refl (λ_ _ _=>EB.trans) E9 [6,10,11] [(0,.p,false),(1,.p,false),(2,.p,false),(3,.p,false),(4,.p,false),(5,.p,false),(6,.l,false),(7,.p,false),(8,.p,false),(9,.p,false),(10,.l,false),(11,.l,false),(12,.x,false),(13,.p,false)] rfl E9 E9 (λw6 hy=>?_);have x6:=EJ hy;clear hy;have O:=O.ext x6;have Y:=Y.ext x6;have Z:=Z.ext x6;have J:=J.trans x6;refine dm ?_;refine dp (F8 rfl rfl) (dm ?_);refine Fz 26 rfl (λc2=>?_) (λc2=>?_)
  ·obtain⟨tn,hkn⟩:∃t,a[x]?=some t:=by
    rcases hs.next_in hp (row:=r)with e|e
    ·exact absurd (congrArg (λz:Nat=>(z:Int)) (ha.trans e)) c2
    ·exact⟨_,Av (by rw[ha];exact hs.mem0 (Am _ e))⟩
   refine dm ?_;refine dz rfl (df 0 rfl (dL rfl (λ_ hR=>((hm.ext (J.trans hR)).at rfl)) (dm ?_)));refine di 172 5 hA.sl rfl (hA.lt hkn) (df 0 rfl (FK rfl (λw' hR=>Fb E9 rfl rfl (((hA.ext (J.trans hR)).row hkn).sub 0 4)) (FK rfl (λw' hR=>Fb (k:=4) E9 rfl rfl (O.ext hR).row) (cP (MS tn.c c _) RX.ext λw7 x7=>?_))));have O:=O.ext x7;have Y:=Y.ext x7;have Z:=Z.ext x7;have J:=J.trans x7;refine EO (de hw ?_);refine wc (λc3=>?_) λc3=>?_
   ·obtain⟨A',R',hg,hc,xc⟩:=hs.step hsd hp (row:=r) (by rw[<-ha];intro e;exact c2 (by rw[e];rfl)) (by rw[<-ha];exact hkn) c3;rw[<-ha]at hg hc;have hj:=h.next hs hkn;have hz:=hs.nextR hg hc;refine EG (xa _ _ (ws λ_ h6=>EN (wr (dm (da (de h6 (wr (dm ?_))))))));refine dz rfl (df 0 rfl (dl rfl ((hm.ext J).at rfl) (dm ?_)));refine di 172 5 hA.sl rfl (hA.lt hkn) (df 4 rfl (dl rfl (((hA.ext J).row hkn).at rfl) (dm ?_)));refine di 3 1 hj.sl rfl (hj.lt hz) (dl rfl (((hj.ext J).row hz).at0 rfl) (da (EF (?_))));refine⟨(x,Gf (hgt a) (R'++Fj a L c) r,R'),FQ,⟨J,O,Y,Z,⟨A',hg⟩,hc,rfl⟩,xc⟩
   refine Ff (Z9 _ _ (wr (dm (dm ?_))));refine dp (Kh (m:=12) (e:=3) (k:=1) E9 rfl rfl EA) (G5 Z (λw8 x8 xs8 Z=>?_) (hv:=by rfl) (ho:=by simp;omega));rw[Nn]at Z;have O:=O.mo x8;have Y:=Y.mo x8;have J:=J.o1 x8;refine de Z8 (wr (dm ?_));refine ps rfl rfl (da (EF (?_)));have hl:=hs.stop hp ht (by exact .inr ⟨tn,by rw[<-ha];exact hkn,c3⟩);refine⟨((r:Int)-1,p2,q.set r p2),FSq,⟨J,O,Y,Z,by omega,by omega,by rw[hp];simp,by omega,by simp [hq],λrow h1 h2=>?_⟩,by simp only [];omega⟩
   by_cases e:row=r
   ·subst e;rw[BB EA,hl]
   ·rw[Cf EA];exact hh row EA h2
  iterate 10 refine dk ?_
  refine EO (de hw ?_);refine GB rfl (Ff (Z9 _ _ (wr (dm (dm ?_)))));refine dp (Kh (m:=12) (e:=3) (k:=1) E9 rfl rfl EA) (G5 Z (λw9 x9 xs9 Z=>?_) (hv:=by rfl) (ho:=by simp;omega));rw[Nn]at Z;have O:=O.mo x9;have Y:=Y.mo x9;have J:=J.o1 x9;refine de Z8 (wr (dm ?_));refine ps rfl rfl (da (EF (?_)));have hl:=hs.stop hp ht (by exact .inl (by rw[<-ha];omega));refine⟨((r:Int)-1,p2,q.set r p2),FSq,⟨J,O,Y,Z,by omega,by omega,by rw[hp];simp,by omega,by simp [hq],λrow h1 h2=>?_⟩,by simp only [];omega⟩
  by_cases e:row=r
  ·subst e;rw[BB EA,hl]
  ·rw[Cf EA];exact hh row EA h2
 refine Ff (Z4 _ _ (ws λ_ h5=>wr (dq (Fb (k:=12) E9 rfl (by simp [hq]) Z.row) ?_)));refine NZ (m:=12) (vs:=?u30) rfl rfl ?h30 E9 ?c30 ?d30 Y ?n30 (.inl rfl) (λw10 h8 xs10 Y=>?k30)
 case h30=>conv=>lhs;whnf
 case c30=>simp [hq]
 case d30=>rfl
 case n30=>simp [Value.oneCell']
 have J:=J.o1 h8;refine de h5 (EH (MR (k:=12) rfl rfl rfl E9 (by simp [hq]) Y.row ?_));exact⟨_,rfl,J,q,rfl,hq,λrow h2=>hh row EA h2⟩
theorem UZ (bm:Nat)(va vd:Value)(a:List Tow)(nx:Nat->List Nat)(dr:List Nat)(n sz:Nat)(L:List Nat)(l:List Cell)(c:Cell)(w:World)(h:MemAt w bm va vd a nx dr n sz)(hs:Skip a nx L l)(hsd:Fv l)(hal:a.length<=1000000) :
  Calls Tryz.prog 111 [ED bm 0,c.v].toArray w (Pure w (I ↑((Fj a L c).headD 0))):=by
 refine cw Tryz.func111 ?_;have r:=EB.refl w;have hm:=h.hm;have hA:=h.arr;refine ws λ_ Z1=>wr (Gc rfl rfl rfl RX.all (λb1 w1 e1 x1 Z=>?_));have g1:=r.ge e1;have r:=r.trans x1;refine da (de Z1 (ws λ_ Z2=>?_));refine F4 (R:=EB) EB.refl (λ_ _ _=>EB.trans) E9 [3,5,10,12] [(0,.p,false),(1,.p,false),(2,.p,false),(3,.l,false),(4,.p,false),(5,.l,false),(6,.x,false),(7,.p,false),(8,.p,false),(9,.p,false),(10,.l,false),(11,.p,false),(12,.l,false),(13,.p,false)] rfl E9 E9 (λw2 O=>?_);have x2:=EJ O;clear O;have Z:=Z.ext x2;have r:=r.trans x2;refine dm ?_;refine dz rfl (df 0 rfl (dL rfl (λ_ z=>((hm.ext (r.trans z)).at rfl)) (dm ?_)));refine FK rfl (λw' z=>Fb (k:=4) E9 rfl rfl (Z.ext z).row) (cG (UD bm va vd a nx dr n sz L l c _ (h.ext r) hs hsd hal) RX.ext λv3 w3 x3 hc=>?_);have hsz3:=r.size;have r:=r.trans x3;obtain⟨q,rfl,hq,ha⟩:=hc;obtain⟨A,i0,hp,hb,hf,Y⟩:=hs.last c;obtain⟨t0,hk0⟩:∃t,a[i0]?=some t:=⟨_,Av hf⟩;have J:=h.next hs hk0;have hg:(FP q)[0]?=some (I ↑i0):=by rw[List.getElem?_map,ha 0 EK,hb];rfl
 refine dp (Rm (m:=12) (e:=3) E9 E9 rfl rfl EK hg) (di 172 5 hA.sl rfl (hA.lt hk0) (df 4 rfl (dL rfl (λ_ z=>(((hA.ext (r.trans z)).row hk0).at rfl)) (di 3 1 J.sl rfl (J.lt Y) (dL rfl (λ_ z=>(((J.ext (r.trans z)).row Y).at0 rfl)) (da (de Z2 (EH ?_))))))));refine ro ?_;exact⟨rfl,r⟩
theorem Ybt (bm:Nat)(va vd:Value)(a:List Tow)(nx:Nat->List Nat)(dr:List Nat)(n sz:Nat)(L:List Nat)(l:List Cell)(key:EC)(seq:Int)(w:World)(h:MemAt w bm va vd a nx dr n sz)(hs:Skip a nx L l)(hsd:Fv l)(hal:a.length<=1000000) :
  Calls Tryz.prog 112 [ED bm 0,S key,I seq].toArray w (Pure w (.tuple #[((first l key seq).getD Cell.zero).v,B (first l key seq).isSome])):=by
 refine cw Tryz.func112 ?_;have r:=EB.refl w;have hm:=h.hm;have hA:=h.arr;refine ws λ_ Z1=>wr (FG (cs:=[S [],S [],B false,.int .i64 0]) rfl E9 RX.all (λb1 w1 e1 x1 z=>?_));have g1:=r.ge e1;have r:=r.trans x1;refine da (de Z1 (ws λ_ Z2=>ws λ_ Z3=>wr (dm ?_)));refine dp (Gj E9 rfl rfl) (de Z3 (wi (λc1=>?_) λc1=>?_))
 ·cases c1
 refine EG (Z2 _ _ (ws λ_ Z4=>wr (dm (dm (dm ?_)))));refine db (zs:=[S [],S [],B false,.int .i64 0]) (pl:=[(0,1),(1,1),(2,1),(3,1)]) (pv:=[(0,_),(3,_)]) (cs:=[_,S [],B false,_]) ?_;refine cP (UZ bm va vd a nx dr n sz L l ⟨key,[],false,seq⟩ _ (h.ext r) hs hsd hal) RX.all λw2 x2=>?_;have z:=z.ext x2;have r:=r.trans x2;refine da (de Z4 (ws λ_ Z5=>ws λ_ Z6=>wr (dm ?_)));refine dp (G1 rfl rfl) (dm ?_);refine Fz 19 rfl (λc2=>?_) (λc2=>?_)
 ·have O:=hs.first_none hsd (key:=key) (seq:=seq) EA
  iterate 11 refine dk ?_
  refine EO (de Z6 ?_);refine GD rfl (ws λ_ Z7=>wr (db (zs:=[S [],S [],B false,.int .i64 0]) (pl:=[(0,1),(1,1),(2,1),(3,1)]) (pv:=[]) (cs:=[S [],S [],B false,.int .i64 0]) ?_));refine FM z (λw3 x3 xs3 z=>?_);dsimp only [Fe,Ag,Af,Ai]at z;have r:=r.o1 x3;refine da (de Z7 (EH ?_));rw[O];refine IG (u:=?v14) rfl rfl rfl rfl E9 rfl z.row ?h14 ?k14
  case h14=>conv=>lhs;whnf
  exact⟨rfl,r⟩
 have Y:(Fj a L ⟨key,[],false,seq⟩).headD 0≠0:=by omega
 obtain⟨ti,J⟩:=hs.head_at Y;have O:=hs.first_at hsd Y J;refine dm ?_;refine dz rfl (df 0 rfl (dl rfl ((hm.ext r).at rfl) (dm ?_)));refine di 172 5 hA.sl rfl (hA.lt J) (df 0 rfl (df 0 rfl (dl rfl (((hA.ext r).row J).at rfl) (dm ?_))));refine dp (LR rfl rfl) (EO (de Z6 ?_));refine wi (λZ=>?_) λZ=>?_
 ·refine ws λ_ Z8=>wr (db (zs:=[S [],S [],B false,.int .i64 0]) (pl:=[(0,1),(1,1),(2,1),(3,1)]) (pv:=[]) (cs:=[S [],S [],B false,.int .i64 0]) ?_);refine FM z (λw4 x4 xs4 z=>?_);dsimp only [Fe,Ag,Af,Ai]at z;have r:=r.o1 x4;refine da (de Z8 (EH ?_));rw[O];refine IG (u:=?v22) rfl rfl rfl rfl E9 rfl z.row ?h22 ?k22
  case h22=>conv=>lhs;whnf
  rw[if_neg Z];exact⟨rfl,r⟩
 refine EG (Z5 _ _ (ws λ_ Z9=>wr (dm ?_)));refine dz rfl (df 0 rfl (dl rfl ((hm.ext r).at rfl) (dm ?_)));refine di 172 5 hA.sl rfl (hA.lt J) (df 0 rfl (dq (Fb E9 rfl rfl (((hA.ext r).row J).sub 0 4)) (FM z (λw5 x5 xs5 z=>?_))));dsimp only [Fe,Ag,Af,Ai]at z;have r:=r.o1 x5;refine da (de Z9 (EH ?_));rw[O];refine IG (u:=?v27) rfl rfl rfl rfl E9 rfl z.row ?h27 ?k27
 case h27=>conv=>lhs;whnf
 rw[if_pos (AI Z)];exact⟨rfl,r⟩
theorem X91 (bm:Nat)(va vd:Value)(a:List Tow)(nx:Nat->List Nat)(dr:List Nat)(n sz:Nat)(L:List Nat)(l:List Cell)(w:World)(h:MemAt w bm va vd a nx dr n sz)(hs:Skip a nx L l)(hsd:Fv l)(hal:a.length<=1000000) :
  Calls Tryz.prog 43 [ED bm 0].toArray w (Pure w (I ↑(a.length-1))):=by
 refine cw Tryz.func43 ?_;have z:=EB.refl w;have hm:=h.hm;have hA:=h.arr;refine ws λ_ Z=>wr (da (de Z (ws λ_ J=>ws λ_ Y=>wr (dm ?_))));refine dp (Gj E9 rfl rfl) (de Y (wi (λr=>?_) λr=>?_))
 ·cases r
 refine EG (J _ _ (ws λ_ O=>wr (dm ?_)));refine dz rfl (df 0 rfl (dl rfl ((hm.ext z).at rfl) (dv 172 5 hA.sl (ps rfl rfl (da (de O (EH ?_)))))));refine ro ?_;refine⟨?_,z⟩;have:=hs.len;rw[Int.ofNat_sub EA];rfl
theorem Vo (bm:Nat)(va vd:Value)(a:List Tow)(nx:Nat->List Nat)(dr:List Nat)(n sz:Nat)(L:List Nat)(l:List Cell)(frm to:EC)(w:World)(h:MemAt w bm va vd a nx dr n sz)(hs:Skip a nx L l)(hsd:Fv l)(hal:a.length<=1000000)(hb:∀x∈l,x.seq<=4611686018427387904) :
  Calls Tryz.prog 57 [ED bm 0,S frm,S to].toArray w (ER w (λv' w'=>Vc.Own Cell.cs 4 79 w.heap.size w' v' (scan l frm to))):=by
 refine cw Tryz.func57 ?_;have z:=EB.refl w;have hm:=h.hm;have hA:=h.arr;refine ws λ_ Z1=>wr (da (de Z1 (ws λ_ Z2=>ws λ_ Z3=>wr (dm ?_))));refine dp (Gj E9 rfl rfl) (de Z3 (wi (λc1=>?_) λc1=>?_))
 ·cases c1
 refine EG (Z2 _ _ (ws λ_ Z4=>wr (da (de Z4 (ws λ_ Z5=>ws λ_ Z6=>wr (dm (dm ?_)))))));refine db (zs:=[S [],S [],B false,.int .i64 0]) (pl:=[(0,1),(1,1),(2,1),(3,1)]) (pv:=[(0,_),(3,_)]) (cs:=[_,S [],B false,_]) ?_;refine cP (UZ bm va vd a nx dr n sz L l ⟨frm,[],false,4611686018427387904⟩ _ (h.ext z) hs hsd hal) RX.all λw1 x1=>?_;have z:=z.trans x1;refine da (de Z6 (EN ?_));refine Fk (G:=List Nat×List Nat×Value) (λ(D,r,vm)=>[(0,ED bm 0),(2,S to),(6,.slice none 0 0),(7,vm),(8,I ↑(r.headD 0))]) (λ(D,r,vm) w'=>EB w w'/\Fj a L ⟨frm,[],false,4611686018427387904⟩=D++r/\(∀i∈D,to=[]\/EU (Hy a i).key to=true)/\Vc.Own Cell.cs 4 79 w.heap.size w' vm (D.map (Hy a))) (λ(D,r,vm)=>r.length) ([],Fj a L ⟨frm,[],false,4611686018427387904⟩,.slice none 0 0) ?_ ?_ ?_
 ·exact FA
 ·exact⟨z,rfl,λi hi=>(by cases hi),Vc.Own.nil⟩
 intro X2 g2 w2 ht;obtain⟨D,r,vm⟩:=g2;clear z;obtain⟨z,hp,hD,ho⟩:=ht;refine ws λ_ Z7=>ws λ_ Z8=>wr (dm ?_);refine dp (F8 rfl rfl) (de Z8 (wi (λc2=>?_) λc2=>?_))
 ·obtain⟨i,r',rfl⟩:∃i r',r=i :: r':=by
   cases r with
   | nil=>exact absurd rfl c2
   | cons i r'=>exact⟨i,r',rfl⟩
  obtain⟨hy,hn⟩:=hs.next0 hp;obtain⟨ti,hki⟩:∃t,a[i]?=some t:=⟨_,Av (hs.mem i hy).2⟩;have O:=h.next hs hki;have Y:=Nc hki;have hDl:D.length<=L.length:=by
   have h1:=X0n a L ⟨frm,[],false,4611686018427387904⟩;rw[hp,Ab]at h1;omega
  have hal2:=hs.len;refine EG (Z7 _ _ (ws λ_ Z9=>EN (ws λ_ hz=>wr (dm ?_))));refine dz rfl (df 0 rfl (dl rfl ((hm.ext z).at rfl) (dm ?_)));refine di 172 5 hA.sl rfl (hA.lt hki) (df 0 rfl (dq (Fb E9 rfl rfl (((hA.ext z).row hki).sub 0 4)) (FG (cs:=[S [],S [],B false,.int .i64 0]) rfl E9 RX.all (λb1 w3 e1 x3 Z=>?_))));have g1:=z.ge e1;have ha:=ho.ltb e1;have ho:=ho.ext x3;have z:=z.trans x3;refine FM Z (λw4 x4 xs4 Z=>?_);dsimp only [Fe,Ag,Af,Ai]at Z;have ho:=ho.mod x4 (by intro k hk h;have h1:=ha k hk;have h2:k=b1:=h;omega);have z:=z.o1 x4;refine de hz (ws λ_ hq=>ws λ_ hl=>wr (dm ?_));refine dp (LR rfl rfl) (dm ?_);refine Fz 38 rfl (λc3=>?_) (λc3=>?_)
  ·refine df 0 rfl (dl rfl (Z.at rfl) (dm ?_));refine dp (Rb rfl rfl) (EO (de hl ?_));refine wc (λc4=>?_) λc4=>?_
   ·refine Ff (Z5 _ _ (ws λ_ hw=>wr (dm (da (de hw (EH ?_))))));refine ro ?_;have hg:=hs.scan_done hsd hb hp hD (λj J=>by
     first
     | (
      have hf:i=j:=by simpa using J
      subst hf;rw[Y,not_or];exact⟨c3,by simpa using c4⟩)
     | (
      cases r with
      | nil=>cases J
      | cons j' r'=>exact absurd (hs.next0 hp).1 (λhm=>c2 (λe=>hs.pos hm (by have e2:((j':Nat):Int)=0:=e;omega)))))
    exact⟨_,rfl,z,by rw[hg];exact ho⟩
   refine EG (hq _ _ (wr (dm ?_)));refine dq (Fb (k:=4) E9 rfl rfl Z.row) (li (e:=79) (sz:=4) (zs:=[S [],S [],B false,.int .i64 0]) (pv:=[(0,.agg ⟨[_,_,_,_]⟩)]) (cs:=[_,_,_,_]) RX.all (λb2 w5 e2 x5 m2=>?_));have g2:=z.ge e2;have n2_1:=Z.ltb e2;have o2_ho:=ho.ltb e2;have ho:=ho.ext x5;have Z:=Z.ext x5;have z:=z.trans x5;refine Gv (lx:=[ti.c]) (e:=79) (sz:=4) (by':=48) rfl E9 E9 EE ho (m2.arr (enc:=Cell.cs) (sz:=4) (l:=[ti.c]) rfl EE rfl (Ap rfl)) rfl rfl (by intro x _ u hu;simp at hu;rcases hu with rfl|rfl|rfl|rfl<;>rfl) (by simp;omega) EK z.size (.inl rfl) (λhh w6 hc x6=>?_);have Z:=Z.mod x6 (by intro h;have h1:=ha _ h;omega);have z:=z.own x6 (λi hi=>(ho.lt i hi).1);have ho:=hc;clear m2;refine da (de Z9 (wr (dm ?_)));refine dz rfl (df 0 rfl (dl rfl ((hm.ext z).at rfl) (dm ?_)));refine di 172 5 hA.sl rfl (hA.lt hki) (df 4 rfl (dl rfl (((hA.ext z).row hki).at rfl) (di 3 1 O.sl rfl (O.lt hn) (dl rfl (((O.ext z).row hn).at0 rfl) (da (EF (?_)))))));refine⟨(D++[i],r',hh),FA,⟨z,by rw[hp];simp,λj J=>?_,by rw[AC];simpa [Y]using ho⟩,by simp⟩;rcases Ay.1 J with J|J
   ·exact hD j J
   ·rw[Ah.1 J,Y];exact .inr (by simpa using c4)
  refine dk (dk (dk (dk (EO (de hl ?_)))));refine GB rfl (EG (hq _ _ (wr (dm ?_))));refine dq (Fb (k:=4) E9 rfl rfl Z.row) (li (e:=79) (sz:=4) (zs:=[S [],S [],B false,.int .i64 0]) (pv:=[(0,.agg ⟨[_,_,_,_]⟩)]) (cs:=[_,_,_,_]) RX.all (λb3 w7 e3 x7 m3=>?_));have g3:=z.ge e3;have o3_ho:=ho.ltb e3;have ho:=ho.ext x7;have z:=z.trans x7;refine Gv (lx:=[ti.c]) (e:=79) (sz:=4) (by':=48) rfl E9 E9 EE ho (m3.arr (enc:=Cell.cs) (sz:=4) (l:=[ti.c]) rfl EE rfl (Ap rfl)) rfl rfl (by intro x _ u hu;simp at hu;rcases hu with rfl|rfl|rfl|rfl<;>rfl) (by simp;omega) EK z.size (.inl rfl) (λhh w8 hc x8=>?_);have z:=z.own x8 (λi hi=>(ho.lt i hi).1);have ho:=hc;clear m3;refine da (de Z9 (wr (dm ?_)));refine dz rfl (df 0 rfl (dl rfl ((hm.ext z).at rfl) (dm ?_)));refine di 172 5 hA.sl rfl (hA.lt hki) (df 4 rfl (dl rfl (((hA.ext z).row hki).at rfl) (di 3 1 O.sl rfl (O.lt hn) (dl rfl (((O.ext z).row hn).at0 rfl) (da (EF (?_)))))));refine⟨(D++[i],r',hh),FA,⟨z,by rw[hp];simp,λj J=>?_,by rw[AC];simpa [Y]using ho⟩,by simp⟩;rcases Ay.1 J with J|J
  ·exact hD j J
  ·rw[Ah.1 J,Y];exact .inl (by simpa using c3)
 refine Ff (Z5 _ _ (ws λ_ hr=>wr (dm (da (de hr (EH ?_))))));refine ro ?_;have hg:=hs.scan_done hsd hb hp hD (λj J=>by
  first
  | (
   have hf:i=j:=by simpa using J
   subst hf;rw[Y,not_or];exact⟨c3,by simpa using c4⟩)
  | (
   cases r with
   | nil=>cases J
   | cons j' r'=>exact absurd (hs.next0 hp).1 (λhm=>c2 (λe=>hs.pos hm (by have e2:((j':Nat):Int)=0:=e;omega)))))
 exact⟨_,rfl,z,by rw[hg];exact ho⟩
theorem Ybu (bm:Nat)(va vd:Value)(a:List Tow)(nx:Nat->List Nat)(dr:List Nat)(n sz:Nat)(L:List Nat)(l:List Cell)(w:World)(h:MemAt w bm va vd a nx dr n sz)(hs:Skip a nx L l)(hsd:Fv l)(hal:a.length<=1000000)(hb:∀x∈l,x.seq<=4611686018427387904) :
  Calls Tryz.prog 46 [ED bm 0].toArray w (ER w (λv' w'=>Vc.Own Cell.cs 4 79 w.heap.size w' v' l)):=by
 refine cw Tryz.func46 ?_;have r:=EB.refl w;refine ws λ_ Y=>wr (da (de Y (ws λ_ J=>wr (dm ?_))));refine cG (Vo bm va vd a nx dr n sz L l [] [] _ (h.ext r) hs hsd hal hb) RX.all λv1 w1 O z=>?_;have hsz1:=r.size;have r:=r.trans O;have ho:=z;refine da (de J (EH ?_));refine ro ?_;exact⟨_,rfl,r,by rwa [RA]at ho⟩
end Go.Proofs.YtiooodckiddpmaaGreatDoor
