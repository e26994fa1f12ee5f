/-
 A part of the proof: EmB NiA TrR OkA CoP FuP LgF LgG DcA DcB CmA TbE.
-/
import Derived.Test.YtiooodckiddpmaaGreatDoorFkA
import Derived.Test.YtiooodckiddpmaaGreatDoorChecked
import Derived.KernelRfl
import Derived.Test.YtiooodckiddpmaaGreatDoorFkI
import Derived.Test.YtiooodckiddpmaaGreatDoorFkH
import Derived.Test.YtiooodckiddpmaaGreatDoorFkF
import Derived.Test.YtiooodckiddpmaaGreatDoorFkC
import Derived.Test.YtiooodckiddpmaaGreatDoorFkE
import Derived.Test.YtiooodckiddpmaaGreatDoorFkD
open Nat renaming le_refl->Aa,zero_le->Ad,le_trans->Ae,le_of_ble_eq_true->Ap,lt_of_lt_of_le->A0,not_lt->Bi,add_assoc->BW,le_of_eq->Cd
open List renaming length_append->Ab,take->Af,set->Ag,mem_singleton->Ah,drop->Ai,mem_cons->Aj,mem_of_getElem?->Ak,mem_cons_self->Al,mem_cons_of_mem->Am,length_map->An,map_cons->Aq,mem_map->Ar,getElem?_eq_getElem->Av,replicate->Aw,mem_append->Ay,mem_filter->Az,length_take->A4,length->A7,append_assoc->AA,length_cons->AB,map_append->AC,flatMap_cons->AD,nil_append->AE,getElem?_of_mem->AJ,take_length->AK,cons_append->AS,sum_cons->AW,nodup_cons->AZ,length_nil->Bc,filter_append->Bu,length_filter_le->B0,foldl_cons->B7,nodup_nil->BS,pairwise_iff_getElem->BU,getElem_map->CA,foldl_nil->E0
open Bool renaming and_eq_true->Au
open Option renaming some->A3
open Decidable renaming of_not_not->AI,byContradiction->AL
open List.Pairwise renaming nil->Bp
open Int renaming le_refl->BX
set_option maxRecDepth 100000
set_option maxHeartbeats 4000000
set_option linter.unusedVariables false
set_option linter.unusedSimpArgs false
namespace Go.Proofs.YtiooodckiddpmaaGreatDoor.Em
open Go.Vc Go.Sp
attribute [local irreducible] W XW Dw Gm
structure MemE (w:World)(bm ba bn:Nat):Prop where
 m:EL w bm [.slice (some ⟨ba,0,none⟩) 1 1,.slice none 0 0,I 0,I 0] 155
 a:EL w ba [S [],S [],B false,I 0,.slice (some ⟨bn,0,none⟩) 12 12] 172
 n:EL w bn (Aw 12 (I 0)) 3
theorem MemE.ext {w w':World}{bm ba bn:Nat}(h:MemE w bm ba bn)(x:EB w w'):MemE w' bm ba bn:=⟨h.m.ext x,h.a.ext x,h.n.ext x⟩
structure StE (w:World)(bs bd bl mo bm ba bn mf:Nat)(room:Int):Prop where
 s:EL w bs [ED bd 0,ED bl 0,I 1,.slice none 0 0,.map (some mo),ED bm 0,B false] 90
 l:EL w bl [ED bd 0,S [115],I 0,.slice none 0 0,.slice none 0 0,B false] 147
 d:EL w bd [I room,.map (some mf),B false,I 0] 122
 f:FL w mf
 o:FL w mo
 m:MemE w bm ba bn
theorem Qb (w:World) :
  Calls Tryz.prog 102 [.slice none 0 0].toArray w (Pure w (.slice none 0 0)):=by
 refine cw Tryz.func102 ?_;have O:=EB.refl w;refine ws λ_ Y=>wr (da (de Y (ws λ_ Z2=>ws λ_ J=>wr (dm ?_))));refine dp (PA (e:=174) (k:=1) E9 (EM.nil (enc:=EP) (sz:=1) (w:=w)).sl rfl rfl) (de J (wc (λr=>?_) λr=>?_))
 ·refine ws λ_ z=>wr (da (de z (EH ?_)));refine ro ?_;exact⟨rfl,O⟩
 exact absurd r EK
theorem X1j (w:World) :
  Calls Tryz.prog 47 [.slice none 0 0].toArray w (ER w (λu w'=>∃bm ba bn,u=ED bm 0/\MemE w' bm ba bn/\w.heap.size<=bm/\w.heap.size<=ba/\w.heap.size<=bn)):=by
 refine cw Tryz.func47 ?_;have r:=EB.refl w;refine ws λ_ Z1=>wr (da (de Z1 (ws λ_ Z2=>?_)));refine L0 (R:=EB) EB.refl (λ_ _ _=>EB.trans) E9 [] (.one 3 .p false (.fork (.alt 0 true (.one 1 .p false (.fork (.alt 2 true (.one 4 .x true (.one 5 .p false (.one 6 .x true (.one 7 .p false .nil)))) (.alt 4 true (.one 2 .x true (.one 5 .p false (.one 6 .x true (.one 7 .p false .nil)))) .stop)))) (.alt 4 true (.one 0 .x true (.one 1 .p false (.one 2 .x true (.one 5 .p false (.one 6 .x true (.one 7 .p false .nil)))))) .stop)))) E9 E9 (λw1 Z=>?_);have x1:=EJ Z;clear Z;have r:=r.trans x1;refine EY (dm (EF ?_));refine JE ?_;refine H6 ?_ ?_
 ·refine LS (e:=3) (sz:=1) (by':=8) (zs:=[.int .i64 0]) rfl E9 E9 E9 rfl rfl EK EK RX.all (λb1 w2 e1 x2 z=>?_);have g1:=r.ge e1;have r:=r.trans x2;refine EF (EY (db (zs:=[S [],S [],B false,.int .i64 0,.slice none 0 0]) (pl:=[(0,4),(4,1)]) (pv:=[(1,_)]) (cs:=[S [],S [],B false,.int .i64 0,_]) (EF ?_)));refine JE ?_;refine H6 ?_ ?_
  ·refine li (e:=172) (sz:=5) (zs:=[S [],S [],B false,.int .i64 0,.slice none 0 0]) (pv:=[(0,.agg ⟨[_,_,_,_,_]⟩)]) (cs:=[_,_,_,_,_]) RX.all (λb2 w3 e2 x3 Y=>?_);have g2:=r.ge e2;have n2_1:=z.ltb e2;have z:=z.ext x3;have r:=r.trans x3;refine EF (EY (cP (Qb _) RX.all λw4 x4=>?_));have z:=z.ext x4;have Y:=Y.ext x4;have r:=r.trans x4;refine EF (EY (db (zs:=[.slice none 0 0,.slice none 0 0,.int .i64 0,.int .i64 0]) (pl:=[(0,1),(1,1),(2,1),(3,1)]) (pv:=[(0,_),(1,_)]) (cs:=[_,_,.int .i64 0,.int .i64 0]) (EF ?_)));refine EY (Gc rfl rfl rfl RX.all (λb3 w5 e3 x5 m3=>?_));have g3:=r.ge e3;have n3_1:=z.ltb e3;have n3_2:=Y.ltb e3;have z:=z.ext x5;have Y:=Y.ext x5;have r:=r.trans x5;refine EF (EY (da (EF ?_)));refine Im (Z2 _ _ (EH (ro ?_)));exact⟨_,rfl,r,b3,b2,b1,rfl,⟨m3,Y,z⟩,g3,g2,g1⟩
  refine H6 ?_ ?_
  ·refine cP (Qb _) RX.all λw6 x6=>?_;have z:=z.ext x6;have r:=r.trans x6;refine EF (EY (li (e:=172) (sz:=5) (zs:=[S [],S [],B false,.int .i64 0,.slice none 0 0]) (pv:=[(0,.agg ⟨[_,_,_,_,_]⟩)]) (cs:=[_,_,_,_,_]) RX.all (λb4 w7 e4 x7 m4=>?_)));have g4:=r.ge e4;have n4_1:=z.ltb e4;have z:=z.ext x7;have r:=r.trans x7;refine EF (EY (db (zs:=[.slice none 0 0,.slice none 0 0,.int .i64 0,.int .i64 0]) (pl:=[(0,1),(1,1),(2,1),(3,1)]) (pv:=[(0,_),(1,_)]) (cs:=[_,_,.int .i64 0,.int .i64 0]) (EF ?_)));refine EY (Gc rfl rfl rfl RX.all (λb5 w8 e5 x8 m5=>?_));have g5:=r.ge e5;have n5_1:=z.ltb e5;have n5_4:=m4.ltb e5;have z:=z.ext x8;have m4:=m4.ext x8;have r:=r.trans x8;refine EF (EY (da (EF ?_)));refine Im (Z2 _ _ (EH (ro ?_)));exact⟨_,rfl,r,b5,b4,b1,rfl,⟨m5,m4,z⟩,g5,g4,g1⟩
  exact J8
 refine H6 ?_ ?_
 ·refine cP (Qb _) RX.all λw9 x9=>?_;have r:=r.trans x9;refine EF (EY (LS (e:=3) (sz:=1) (by':=8) (zs:=[.int .i64 0]) rfl E9 E9 E9 rfl rfl EK EK RX.all (λb6 w10 e6 hb O=>?_)));have g6:=r.ge e6;have r:=r.trans hb;refine EF (EY (db (zs:=[S [],S [],B false,.int .i64 0,.slice none 0 0]) (pl:=[(0,4),(4,1)]) (pv:=[(1,_)]) (cs:=[S [],S [],B false,.int .i64 0,_]) (EF ?_)));refine EY (li (e:=172) (sz:=5) (zs:=[S [],S [],B false,.int .i64 0,.slice none 0 0]) (pv:=[(0,.agg ⟨[_,_,_,_,_]⟩)]) (cs:=[_,_,_,_,_]) RX.all (λb7 w11 e7 ha m7=>?_));have g7:=r.ge e7;have n7_6:=O.ltb e7;have O:=O.ext ha;have r:=r.trans ha;refine EF (EY (db (zs:=[.slice none 0 0,.slice none 0 0,.int .i64 0,.int .i64 0]) (pl:=[(0,1),(1,1),(2,1),(3,1)]) (pv:=[(0,_),(1,_)]) (cs:=[_,_,.int .i64 0,.int .i64 0]) (EF ?_)));refine EY (Gc rfl rfl rfl RX.all (λb8 w12 e8 J m8=>?_));have g8:=r.ge e8;have n8_6:=O.ltb e8;have n8_7:=m7.ltb e8;have O:=O.ext J;have m7:=m7.ext J;have r:=r.trans J;refine EF (EY (da (EF ?_)));refine Im (Z2 _ _ (EH (ro ?_)));exact⟨_,rfl,r,b8,b7,b6,rfl,⟨m8,m7,O⟩,g8,g7,g6⟩
 exact J8
theorem HG (bs bd bl mo bm:Nat)(w:World)(hb:EL w bs [ED bd 0,ED bl 0,I 1,.slice none 0 0,.map (some mo),ED bm 0,B false] 90)(hl:EL w bl [ED bd 0,S [115],I 0,.slice none 0 0,.slice none 0 0,B false] 147) :
  Calls Tryz.prog 63 [ED bs 0].toArray w (Pure w (I 0)):=by
 refine cw Tryz.func63 ?_;have r:=EB.refl w;refine ws λ_ Z1=>wr (da (de Z1 (ws λ_ Z2=>wr (dm ?_))));refine dz rfl (df 1 rfl (dl rfl ((hb.ext r).at rfl) (cP (TN bl bd _ (hl.ext r)) RX.all λw1 Z=>?_)));have r:=r.trans Z;refine dm ?_;refine dx rfl rfl (dx rfl rfl (da (da (de Z2 (ws λ_ Z3=>ws λ_ Z4=>wr (dm ?_))))));refine pa rfl rfl (da (de Z4 (EN ?_)));refine Fk (G:=Unit) (λJ=>[(0,ED bs 0),(5,I 1)]) (λJ w'=>EB w w'/\True) (λJ=>0) () ?_ ?_ ?_
 ·exact KQ
 ·exact⟨r,trivial⟩
 intro X2 g2 w2 z;revert z;revert g2;intro J z;clear r;obtain⟨r,htr⟩:=z;refine ws λ_ Z5=>ws λ_ Y=>wr (dm (dm ?_));refine dz rfl (df 1 rfl (dl rfl ((hb.ext r).at rfl) (cP (G3 bl bd _ (hl.ext r)) RX.all λw3 x3=>?_)));have r:=r.trans x3;refine dp (IM rfl rfl) (de Y (wi (λO=>?_) λO=>?_))
 ·exact absurd O EK
 refine Ff (Z3 _ _ (ws λ_ Z7=>wr (da (de Z7 (EH ?_)))));refine ro ?_;exact⟨rfl,r⟩
theorem X7r (bd mf:Nat)(room:Int)(s:EC)(w:World)(hd:EL w bd [I room,.map (some mf),B false,I 0] 122)(hm:FL w mf) :
  Calls Tryz.prog 64 [ED bd 0,S s,.slice none 0 0].toArray w (Pure w (I 0)):=by
 refine cw Tryz.func64 ?_;have r:=EB.refl w;refine ws λ_ Z1=>wr (da (de Z1 (ws λ_ Z2=>ws λ_ Z3=>wr (dm ?_))));refine dp (Gj E9 rfl rfl) (de Z3 (wi (λO=>?_) λO=>?_))
 ·exact absurd O EQ
 refine EG (Z2 _ _ (ws λ_ Z4=>ws λ_ Z5=>wr (dm ?_)));refine cP (Io bd mf room _ (hd.ext r) (hm.ext r)) RX.all λw1 x1=>?_;have r:=r.trans x1;refine dv 9 1 (EM.nil (enc:=FT) (sz:=1) (w:=w)).sl (dm (de Z5 (EN ?_)));refine Fk (G:=Unit) (λJ=>[(0,ED bd 0),(1,S s),(2,.slice none 0 0),(13,.slice none 0 0),(14,I 0),(15,I 0)]) (λJ w'=>EB w w'/\True) (λJ=>0) () ?_ ?_ ?_
 ·exact FSq
 ·exact⟨r,trivial⟩
 intro X2 g2 w2 z;revert z;revert g2;intro J z;clear r;obtain⟨r,htr⟩:=z;refine ws λ_ Z=>wr (dp (Fa rfl rfl) (de Z (ws λ_ Z7=>wi (λY=>?_) λY=>?_)))
 ·exact absurd Y EK
 refine Ff (Z4 _ _ (ws λ_ Z8=>wr (da (de Z8 (EH ?_)))));refine ro ?_;exact⟨rfl,r⟩
theorem lsmOpen_w (bd mf:Nat)(room:Int)(w:World)(hd:EL w bd [I room,.map (some mf),B false,I 0] 122)(hm:FL w mf) :
  Calls Tryz.prog 24 [ED bd 0].toArray w (ER w (λu w'=>∃bs bl mo bm ba bn,u=.tuple #[ED bs 0,I 0]/\StE w' bs bd bl mo bm ba bn mf room/\w.heap.size<=bs/\w.heap.size<=bl/\w.heap.size<=mo/\w.heap.size<=bm/\w.heap.size<=ba/\w.heap.size<=bn)):=by
 refine cw Tryz.func24 ?_;have z:=EB.refl w;refine ws λ_ Z1=>wr (da (da (de Z1 (ws λ_ Z2=>ws λ_ Z3=>wr (dm ?_)))));refine dp (Gj E9 rfl rfl) (de Z3 (wi (λc1=>?_) λc1=>?_))
 ·exact absurd c1 EQ
 refine EG (Z2 _ _ (ws λ_ Z4=>wr (dm ?_)));have hb:=z.size;refine cG (Xot bd mf room _ (hd.ext z) (hm.ext z)) RX.all λu1 w1 x1 ht=>?_;have hsz1:=z.size;have z:=z.trans x1;obtain⟨bl,rfl,J,hz⟩:=ht;refine dm ?_;refine dx rfl rfl (dx rfl rfl (da (da (de Z4 (ws λ_ Z5=>ws λ_ Z6=>wr (dm ?_))))));refine dp (F8 rfl rfl) (de Z6 (wi (λc2=>?_) λc2=>?_))
 ·exact absurd rfl c2
 refine EG (Z5 _ _ (ws λ_ Z7=>wr (dm (dm ?_))));refine db (zs:=[.int .i64 0,.slice none 0 0]) (pl:=[(0,1),(1,1)]) (pv:=[(0,_)]) (cs:=[_,.slice none 0 0]) ?_;refine TR rfl RX.all (λb1 w2 e1 x2 r=>?_);have g1:=z.ge e1;have a1_hl:=J.lt;have J:=J.ext x2;have z:=z.trans x2;have Z:=z.size;refine cG (X1j _) RX.all λu3 w3 x3 xa=>?_;have hsz3:=z.size;have J:=J.ext x3;have r:=r.ext x3;have z:=z.trans x3;obtain⟨bm,ba,bn,rfl,O,hq,h6,hy⟩:=xa;refine db (zs:=[.pointer none,.pointer none,.int .i64 0,.slice none 0 0,.map none,.pointer none,B false]) (pl:=[(0,1),(1,1),(2,2),(4,1),(5,1),(6,1)]) (pv:=[(0,_),(1,_),(2,.agg ⟨[_,_]⟩),(3,_),(4,_)]) (cs:=[_,_,_,_,_,_,B false]) ?_;refine Gc rfl rfl rfl RX.all (λb2 w4 e2 x4 Y=>?_);have g2:=z.ge e2;have n2_mp1:=r.lt;have a2_hl:=J.lt;have J:=J.ext x4;have r:=r.ext x4;have O:=O.ext x4;have z:=z.trans x4;refine da (de Z7 (ws λ_ Z8=>ws λ_ Z9=>wr (dm ?_)));refine cP (TN bl bd _ J) RX.all λw5 x5=>?_;have J:=J.ext x5;have r:=r.ext x5;have O:=O.ext x5;have Y:=Y.ext x5;have z:=z.trans x5;refine dm ?_;refine dx rfl rfl (dx rfl rfl (da (da (de Z9 (ws λ_ h5=>wr (dm ?_))))));refine dp (FY rfl rfl) (dm ?_);refine Fz 39 rfl (λc3=>?_) (λc3=>?_)
 ·exact absurd c3 EK
 refine dm ?_;refine dv 5 1 (EM.nil (enc:=EP) (sz:=1) (w:=w)).sl (dp (FY rfl rfl) (EO (de h5 ?_)));refine wi (λc4=>?_) λc4=>?_
 ·exact absurd c4 EK
 refine EG (Z8 _ _ (ws λ_ h7=>wr (da (de h7 (ws λ_ hg=>ws λ_ hr=>wr (dm ?_))))));refine dz rfl (df 2 rfl (df 1 rfl (dl rfl (Y.at rfl) (dv 62 5 (EM.nil (enc:=λv:Value=>[v]) (sz:=5) (w:=w)).sl (dm (de hr (EN ?_)))))));refine Fk (G:=Unit) (λuu=>[(0,ED bd 0),(6,ED b2 0),(9,.slice none 0 0),(59,.slice none 0 0),(60,I 0),(61,I 0)]) (λuu w'=>EB w w'/\EL w' bl [ED bd 0,S [115],I 0,.slice none 0 0,.slice none 0 0,B false] 147/\FL w' b1/\MemE w' bm ba bn/\EL w' b2 [ED bd 0,ED bl 0,I 1,.slice none 0 0,.map (some b1),ED bm 0,B false] 90/\True) (λuu=>0) () ?_ ?_ ?_
 ·exact FSq
 ·exact⟨z,J,r,O,Y,trivial⟩
 intro X6 g6 w6 ha;revert ha;revert g6;intro uu ha;clear z J r O Y;obtain⟨z,J,r,O,Y,htr⟩:=ha;refine ws λ_ hh=>wr (dp (Fa rfl rfl) (de hh (ws λ_ Z15=>wi (λc5=>?_) λc5=>?_)))
 ·exact absurd c5 EK
 refine Ff (hg _ _ (ws λ_ hw=>ws λ_ hf=>wr (dm ?_)));refine cP (HG b2 bd bl b1 bm _ Y J) RX.all λw7 x7=>?_;have J:=J.ext x7;have r:=r.ext x7;have O:=O.ext x7;have Y:=Y.ext x7;have z:=z.trans x7;refine da (de hf (ws λ_ h8=>wr (dm ?_)));refine dp (F8 rfl rfl) (de h8 (wi (λc6=>?_) λc6=>?_))
 ·exact absurd rfl c6
 refine EG (hw _ _ (ws λ_ hj=>ws λ_ hc=>wr (dm (dm ?_))));refine cP (X7r bd mf room [116] _ (hd.ext z) (hm.ext z)) RX.all λw8 x8=>?_;have J:=J.ext x8;have r:=r.ext x8;have O:=O.ext x8;have Y:=Y.ext x8;have z:=z.trans x8;refine da (de hc (ws λ_ hp=>wr (dm ?_)));refine dp (F8 rfl rfl) (de hp (wi (λc7=>?_) λc7=>?_))
 ·exact absurd rfl c7
 refine EG (hj _ _ (ws λ_ h9=>wr (dm (da (da (de h9 (EH ?_)))))));refine rt ?_;exact⟨_,rfl,z,b2,bl,b1,bm,ba,bn,rfl,⟨Y,J,hd.ext z,hm.ext z,r,O⟩,g2,Ae hb hz,g1,Ae Z hq,Ae Z h6,Ae Z hy⟩
end Go.Proofs.YtiooodckiddpmaaGreatDoor.Em
namespace Go.Proofs.YtiooodckiddpmaaGreatDoor
open Go.Vc Go.Sp
attribute [local irreducible] W XW Dw Gm
theorem Vr {P:Program}{κ α:Type}[DecidableEq κ]{k:TypeId}{kv:κ->Value}{av:α->Value}{w:World}{b:Nat}(h:FL w b):F9 P k kv av w b ([]:List (κ×α)):=
 ⟨by simp,.map [],⟨#[],0,h,⟨by simp,MapKept.stamped_empty 0,by simp⟩,Aa _,rfl⟩,rfl,λx l hl z=>rfl⟩
theorem Yaz {w:World}{bm ba bn:Nat}(h:Em.MemE w bm ba bn):F6 (λk=>k=bm\/k=ba\/k=bn) w bm []:=by
 have O:EL w bn (FP (Aw 12 0)) 3:=by
  have:=h.n;rwa [show Aw 12 (I 0)=FP (Aw 12 0) from rfl]at this
 have J:MemAt w bm (.slice (some ⟨ba,0,none⟩) 1 1) (.slice none 0 0) [⟨Cell.zero,bn,12⟩] (λ_=>Aw 12 0) [] 0 0:=by
  refine⟨h.m,h.a.own (enc:=Tow.enc) (l:=[⟨Cell.zero,bn,12⟩]) (Ad _) rfl EE rfl EQ,Vc.Own.nil,λi t r=>?_,λi j s t hs r _=>?_⟩
  ·cases i with
   | zero=>simp at r;subst r;exact⟨O,by simp⟩
   | succ i=>simp at r
  ·cases i with
   | zero=>cases j with
    | zero=>rfl
    | succ j=>simp at r
   | succ i=>simp at hs
 refine⟨_,_,_,_,_,[],J,⟨rfl,λi hi=>(by cases hi),BS,rfl,rfl,λi hi=>?_,⟨λrow Y=>?_,trivial⟩⟩,Bp,λk hk=>?_,λk hk=>?_⟩
 ·have:i=0:=by simp at hi;exact hi
  subst this;exact⟨(show 1<=12 by decide),(show 12<=12 by decide)⟩
 ·have z:row<12:=Y;rw[List.getElem?_replicate_of_lt z];rfl
 ·rcases hk with rfl|hk|hk|⟨t,r,rfl⟩
  ·exact .inl rfl
  ·have:ba=k:=A3.inj hk;exact .inr (.inl this.symm)
  ·cases hk
  ·rw[Ah.1 r];exact .inr (.inr rfl)
 ·rcases hk with rfl|rfl|rfl
  ·exact h.m.lt
  ·exact h.a.lt
  ·exact h.n.lt
def HP (room:Int):Dsk:=⟨room,false,0,[]⟩
def H0 : Led:=⟨0,[],[],false⟩
def GW (bs bd bl mo bm ba bn mf:Nat):Nat->Nat:=λk=>if k=bs then 5 else if k=mo then 2 else if k=bm\/k=ba\/k=bn then 3 else if k=bl\/k=bd\/k=mf then 1 else 0
theorem JO {w:World}{b b':Nat}{cs:List Value}{T:TypeId}(h:FL w b)(hb:EL w b' cs T):b'≠b:=λe=>by
 subst e;have h1:w.heap[b']?=some (.cells ⟨cs⟩ T (0,0)):=hb;rw[h]at h1;cases h1
theorem UH {w:World}{bs bd bl mo bm ba bn mf:Nat}{room:Int}(h:Em.StE w bs bd bl mo bm ba bn mf room)(hne:mo≠mf)(hw:(HP room).Wf):StE (GW bs bd bl mo bm ba bn mf) bs bd bl mo bm (.slice none 0 0) H0 (HP room) ⟨1,[]⟩ [] [] false w:=by
 have n1:=h.s.ne h.l rfl;have n2:=h.s.ne h.d rfl;have n3:=h.s.ne h.m.m rfl;have n4:=h.s.ne h.m.a rfl;have n5:=h.s.ne h.m.n rfl;have n6:=JO h.o h.s;have n7:=JO h.f h.s;have p1:=JO h.o h.l;have p2:=JO h.o h.d;have p3:=JO h.o h.m.m;have p4:=JO h.o h.m.a;have p5:=JO h.o h.m.n;have q1:=h.m.m.ne h.l rfl;have q2:=h.m.m.ne h.d rfl;have q3:=JO h.f h.m.m;have q4:=h.m.a.ne h.l rfl;have q5:=h.m.a.ne h.d rfl;have Z:=JO h.f h.m.a;have q7:=h.m.n.ne h.l rfl;have q8:=h.m.n.ne h.d rfl;have q9:=JO h.f h.m.n;have r1:=JO h.f h.l;have r2:=h.l.ne h.d rfl;have O:GW bs bd bl mo bm ba bn mf bl=1:=by unfold GW;simp [Ne.symm n1,p1,Ne.symm q1,Ne.symm q4,Ne.symm q7]
 have kd:GW bs bd bl mo bm ba bn mf bd=1:=by unfold GW;simp [Ne.symm n2,p2,Ne.symm q2,Ne.symm q5,Ne.symm q8]
 have kf:GW bs bd bl mo bm ba bn mf mf=1:=by unfold GW;simp [Ne.symm n7,Ne.symm hne,Ne.symm q3,Ne.symm Z,Ne.symm q9]
 have r:∀k,GW bs bd bl mo bm ba bn mf k≠0->k<w.heap.size:=λk hk=>by
  unfold GW at hk;split at hk
  ·rename_i e;rw[e];exact h.s.lt
  ·split at hk
   ·rename_i e;rw[e];exact h.o.lt
   ·split at hk
    ·rename_i e;rcases e with rfl|rfl|rfl
     ·exact h.m.m.lt
     ·exact h.m.a.lt
     ·exact h.m.n.lt
    ·split at hk
     ·rename_i e;rcases e with rfl|rfl|rfl
      ·exact h.l.lt
      ·exact h.d.lt
      ·exact h.f.lt
     ·exact absurd rfl hk
 refine⟨h.s,⟨λk=>k=bd\/k=mf,λk=>k=bl,.slice none 0 0,.slice none 0 0,[],⟨mf,[],⟨h.d,Vr h.f,rfl,λe he=>(by cases he),Bp,λk hk=>?_,λk hk=>?_,hw⟩⟩,⟨h.l,Vc.Own.nil.arr (enc:=EP) (sz:=1) (T:=0) (B:=0) EE,Vc.Own.nil,rfl,λq z=>(by cases z),λk hk=>?_,λk hk=>?_,λk hk=>?_,BX _,by decide,by decide,λp Y=>(by cases Y),by decide⟩,λk hk e=>?_,λk hk=>?_,λk hk=>r k (by rw[hk];decide)⟩,Vr h.o,(Yaz h.m).to (λk hk=>?_) (λk hk=>r k (by rw[hk];decide)),Vc.Own.nil.arr (enc:=Fi.cs) (sz:=5) (T:=0) (B:=0) EE,λt J=>(by cases J),by unfold GW;simp,by unfold GW;simp [Ne.symm n6],λh9=>absurd rfl h9,λt J=>(by cases J),r⟩
 ·rcases hk with e|e|⟨e,he,_⟩
  ·exact .inl e
  ·exact .inr e
  ·cases he
 ·rcases hk with rfl|rfl
  ·exact h.d.lt
  ·exact h.f.lt
 ·rcases hk with e|e|e|⟨q,z,_⟩
  ·exact e
  ·cases e
  ·exact absurd rfl e.1
  ·cases z
 ·rcases hk with e|⟨q,z,_⟩
  ·exact absurd rfl e.1
  ·cases z
 ·rw[hk];exact h.l.lt
 ·rcases hk with rfl|rfl
  ·exact r2 e.symm
  ·exact r1 e.symm
 ·rcases hk with(e|e)|e
  ·rw[e];exact kd
  ·rw[e];exact kf
  ·rw[e];exact O
 ·unfold GW;rcases hk with e|e|e
  ·rw[e];simp [Ne.symm n3,p3]
  ·rw[e];simp [Ne.symm n4,p4]
  ·rw[e];simp [Ne.symm n5,p5]
theorem X1k (L:Led)(D:Dsk)(p:EC):((L.append D p).2.1≠0/\(L.append D p).2.2.1.last=L.last/\(L.append D p).2.2.1.ents.length<=L.ents.length)\/
  ((L.append D p).2.1=0/\(L.append D p).1=L.last+1/\(L.append D p).2.2.1.last=L.last+1/\(L.append D p).2.2.1.ents.length=L.ents.length+1/\L.last<1099511627776):=by
 cases hd:L.dead with
 | true=>rw[Qf hd];exact .inl ⟨(by decide:(9:Int)≠0),rfl,Aa _⟩
 | false=>
  by_cases h2:65536<p.length\/1099511627776<=L.last
  ·rw[O1 hd h2];exact .inl ⟨(by decide:(5:Int)≠0),rfl,Aa _⟩
  ·by_cases h3:(Ho L D p).1≠0
   ·rw[Q5 hd h2 h3];exact .inl ⟨h3,rfl,Aa _⟩
   ·rw[Pv hd h2 h3];exact .inr ⟨rfl,rfl,by unfold Led.last;simp;omega,by simp,by omega⟩
def cW (c:Cell):Nat:=1+c.key.length+c.val.length
theorem Xyx {g:Cell->Nat}(out:List Cell)(c:Cell):Fo g (GJ out c)<=Fo g out+g c:=by
 unfold GJ;split
 ·omega
 ·have h:=List.takeWhile_append_dropWhile (p:=λx:Cell=>EU x.key c.key) (l:=out);have h2:Fo g out=Fo g (out.takeWhile λx=>EU x.key c.key)+Fo g (out.dropWhile λx=>EU x.key c.key):=by
   rw[<-Kb,h]
  rw[Kb];have h3:Fo g (c :: out.dropWhile λx=>EU x.key c.key)=g c+Fo g (out.dropWhile λx=>EU x.key c.key):=by unfold Fo;rw[Aq,AW]
  omega
theorem St (s:Int):∀l:List Rw,Fo cW (F0 l s)<=(l.map Hd).sum
 | []=>Ad _
 | r :: l=>by
  have h1:=St s l;have h2:=Xyx (g:=cW) (F0 l s) (r.cell s);have h3:cW (r.cell s)=Hd r:=rfl;have h4:F0 (r :: l) s=GJ (F0 l s) (r.cell s):=rfl;rw[h4,Aq,AW];omega
theorem Rf : ∀l:List Rw,l.length<=(l.map Hd).sum
 | []=>Ad _
 | r :: l=>by
  have h1:=Rf l;have h2:1<=Hd r:=by unfold Hd;omega
  rw[Aq,AW,AB];omega
structure TI (S i:Nat)(L:Led)(V:Vs)(ts:List Tb)(mem:List Cell)(M:List Rw):Prop where
 sto:Sto L.last V ts mem
 told:Sp.Told (Fx mem ts) M
 l0:0<=L.last/\L.last<=i
 en:L.ents.length<=i
 wt:Fo cW (Fx mem ts)<=S
 ml:M.length<=S
section
variable {S i:Nat}{L L':Led}{D D':Dsk}{V V':Vs}{ts ts':List Tb}{mem mem':List Cell}{M:List Rw}{dead dead' ok:Bool}{e:Int}
theorem TI.nil : TI 0 0 H0 ⟨1,[]⟩ [] [] []:=by
 refine⟨⟨by decide,λf O=>(by cases O),λt J=>(by cases J),BS,λt J=>(by cases J),λc z=>(by cases z),Bp,λc z=>(by cases z),λt J=>(by cases J)⟩,⟨Bp,λr=>⟨λh=>(by cases h),λ⟨c,z,_⟩=>(by cases z.1)⟩⟩,by decide,by decide,by decide,by decide⟩
theorem TI.mono {S' i':Nat}(h:TI S i L V ts mem M)(hS:S<=S')(hi:i<=i'):TI S' i' L V ts mem M:=
 ⟨h.sto,h.told,⟨h.l0.1,by have:=h.l0.2;omega⟩,Ae h.en hi,Ae h.wt hS,Ae h.ml hS⟩
theorem TI.len (h:TI S i L V ts mem M):2*(Fx mem ts).length<=S:=by
 refine Ae ?_ h.wt;have:∀l:List Cell,(∀c∈l,Ge c=true)->2*l.length<=Fo cW l:=by
  intro l z
  induction l with
  | nil=>exact Ad _
  | cons c r ih=>
   have h1:=ih (λx O=>z x (Am _ O));have h2:=z c Al;unfold Ge at h2;simp only [Au,decide_eq_true_eq]at h2;unfold Fo at *;rw[Aq,AW,AB];have h3:cW c=1+c.key.length+c.val.length:=rfl;omega
 exact this _ (λc J=>(h.sto.okc c J).1)
theorem TI.up (h:TI S i L V ts mem M):KL M:=h.told.1
theorem TI.write {l:List Rw}(h:TI S i L V ts mem M)(hw:NB L D mem dead l e L' D' mem' dead'):TI (S+(l.map Hd).sum) (i+1) L' V ts mem' (if e=0 then ID M l else M):=by
 have h0:=h.mono (Nat.le_add_right S (l.map Hd).sum) (Nat.le_succ i);rcases hw with⟨_,rfl,rfl,_,rfl,_⟩|⟨_,h1,rfl,rfl,_,rfl,_⟩|⟨_,hc,rfl,_,hr⟩
 ·exact h0
 ·rw[if_neg h1];exact h0
 ·rcases X1k L D (FF l)with⟨a1,a2,a3⟩|⟨a1,a2,a3,a4,a5⟩
  ·rcases hr with⟨b1,rfl,rfl,_⟩|⟨b1,_⟩
   ·rw[if_neg b1];exact⟨by rw[a2];exact h0.sto,h0.told,by rw[a2];exact h0.l0,Ae a3 h0.en,h0.wt,h0.ml⟩
   ·exact absurd b1 a1
  ·rcases hr with⟨b1,_⟩|⟨_,rfl,rfl,_⟩
   ·exact absurd a1 b1
   ·obtain⟨z,J⟩:=h.sto.write h.told hc ⟨h.l0.1,a5⟩;rw[if_pos rfl,a2];have hl1:=h.l0;have hen:=h.en;have hwt:=h.wt;have hml:=h.ml;have hcw:=St (L.last+1) l;refine⟨by rw[a3];exact z,J,by rw[a3];omega,by omega,?_,?_⟩
    ·have hpw:=QA (g:=cW) (F0 l (L.last+1)) mem;unfold Fx at *;rw[Kb]at *;omega
    ·have h5:=PY (F0 l 1) h.up;have h6:=MH l 1;have h7:=Rf l;have r:ID M l=IW M (F0 l 1):=rfl;rw[r];omega
theorem TI.flush (h:TI S i L V ts mem M)(hf:Jy L D V ts mem dead ok e L' D' V' ts' mem' dead'):TI S i L' V' ts' mem' M:=by
 rcases hf with⟨_,_,_,rfl,_,rfl,rfl,rfl,_⟩|⟨_,_,_,_,rfl,_,rfl,rfl,rfl,_⟩|⟨hd,_,m,hm,hc,h2⟩
 ·exact h
 ·exact h
 ·obtain⟨⟨h3,h4⟩,r⟩:=Pp hc;rcases r with⟨r,rfl,rfl⟩|⟨rfl,_,hs⟩
  ·rcases h2 with⟨_,_,rfl⟩|⟨h6,_⟩
   ·exact⟨by rw[h3];exact h.sto,h.told,by rw[h3];exact h.l0,Ae h4 h.en,h.wt,h.ml⟩
   ·exact absurd h6 r
  ·rcases h2 with⟨h6,_⟩|⟨_,_,rfl⟩
   ·exact absurd rfl h6
   ·obtain⟨k1,k2,z⟩:=hs.flush h.sto hm h.told;exact⟨by rw[h3];exact k1,k2,by rw[h3];exact h.l0,Ae h4 h.en,Ae (Xts hm z) h.wt,h.ml⟩
theorem TI.comp {did:Bool}(h:TI S i L V ts mem M)(hf:Le L D V ts mem dead did e L' D' V' ts' mem' dead'):TI S i L' V' ts' mem' M:=by
 rcases hf with⟨_,_,_,rfl,_,rfl,rfl,rfl,_⟩|⟨_,_,_,_,rfl,_,rfl,rfl,rfl,_⟩|⟨_,_,ok,e1,L1,D1,V1,ts1,mem1,dead1,hF,hr⟩
 ·exact h
 ·exact h
 ·have h1:=h.flush hF;rcases hr with⟨_,_,_,rfl,_,rfl,rfl,rfl,_⟩|⟨rfl,p,lv,m,e2,D2,dead2,_,hP,hm,hc,rfl,_⟩
  ·exact h1
  ·obtain⟨_,rfl,_⟩:=QJ h.sto hF;obtain⟨⟨h3,h4⟩,z⟩:=Pp hc;rcases z with⟨_,rfl,rfl⟩|⟨_,_,hs⟩
   ·exact⟨by rw[h3];exact h1.sto,h1.told,by rw[h3];exact h1.l0,Ae h4 h1.en,h1.wt,h1.ml⟩
   ·obtain⟨k1,k2,r⟩:=hs.merge h1.sto hP hm h1.told;exact⟨by rw[h3];exact k1,k2,by rw[h3];exact h1.l0,Ae h4 h1.en,Ae (Xtt hm hP.nod r) h1.wt,h1.ml⟩
theorem TI.scan {l m:List Cell}(h:TI S i L V ts mem M)(hl:∀c,c∈l↔c∈scan (Fx mem ts) [] [])(hm:Mg l m):LB 0 (HT m)=M:=by
 rw[RA]at hl;have e:LB 0 (HT m)=HT m:=by unfold LB;rw[if_pos EK]
 rw[e];have z:IP l:=λc r d hd=>h.sto.uniq c ((hl c).1 r) d ((hl d).1 hd);exact X61 (X62 z hm) (Ot h.told (λc r=>(hl c).1 r) (λc r=>.inl ((hl c).2 r.1)))
end
theorem X1l {v:Value}{n m:Nat}(h:FW v n)(h2:FW v m):n=m:=by
 rcases h with⟨rfl,rfl⟩|⟨b,o,c,rfl,_⟩|⟨rfl,a,c,rfl⟩
 ·rcases h2 with⟨_,rfl⟩|⟨_,_,_,e,_⟩|⟨rfl,_⟩
  ·rfl
  ·cases e
  ·rfl
 ·rcases h2 with⟨e,_⟩|⟨_,_,_,e,_⟩|⟨rfl,_,_,e⟩
  ·cases e
  ·injection e
  ·injection e
 ·rcases h2 with⟨e,_⟩|⟨_,_,_,e,_⟩|⟨rfl,_⟩
  ·cases e
  ·injection e
  ·rfl
structure OkD (D:Dsk)(u n:Nat):Prop where
 fu:D.fused=false
 us:IJ D.fs<=u
 cn:D.fs.length<=n
 nd:(D.fs.map (·.1)).Nodup
 tl:∀p∈D.fs,p.1.getLast?≠some 126
theorem OkD.mono {D:Dsk}{u n u' n':Nat}(h:OkD D u n)(h1:u<=u')(h2:n<=n'):OkD D u' n':=⟨h.fu,Ae h.us h1,Ae h.cn h2,h.nd,h.tl⟩
theorem LC {D:Dsk}(h:D.fused=false){l:List EC}(hl:∀s∈l,1<=s.length/\s.length<=64):D.may l=0:=Vb (λe=>by rw[h]at e;cases e.1) hl
theorem Lq {D:Dsk}(h:D.fused=false):D.tick=D:=by unfold Dsk.tick;rw[h];rfl
theorem UR {D:Dsk}{u n:Nat}{name p:EC}(h:OkD D u n)(hn:1<=name.length/\name.length<=64)(hr:((u+p.length:Nat):Int)<=D.room)(hc:n<4096):D.app name p=(0,{ D with fs:=EX D.fs name ⟨(D.old name).data++p,(D.old name).lasts⟩ }):=by
 unfold Dsk.app;rw[if_neg (by rw[LC h.fu (by simpa using hn)];decide),if_neg,Lq (by exact h.fu)];unfold Dsk.full;have h1:=h.us;have h2:=h.cn;rw[<-Mt]at h1;simp only [Bool.or_eq_true,Au,decide_eq_true_eq,not_or,not_and];exact⟨by omega,λ_=>by omega⟩
theorem Xyy {α:Type}{l:List (EC×α)}{n:EC}{a:α}(h:lk l n=none):EX l n a=l++[(n,a)]:=by unfold EX;rw[h];rfl
theorem Sl {α:Type}{l:List (EC×α)}{n:EC}{a:α}(h:lk l n=none):FO (EX l n a) n=l:=by
 rw[Xyy h];have h2:=Xvg h;unfold FO at *;rw[Bu,h2];simp
theorem WL {D:Dsk}{n:EC}(h:lk D.fs n=none):D.old n=⟨[],0⟩:=by unfold Dsk.old;rw[h];rfl
theorem O6 {D:Dsk}{n:EC}{f:Fil}(hf:D.fused=false)(hn:1<=n.length/\n.length<=64)(h:lk D.fs n=some f):D.sync [n]=(0,{ D with fs:=EX D.fs n ⟨f.data,f.data.length⟩ }):=by
 unfold Dsk.sync Dsk.each;rw[if_neg (by rw[LC hf (by simpa using hn)];decide),if_neg (by rw[h];exact Bool.false_ne_true)];unfold Dsk.each Dsk.lastsA Dsk.old;rw[h,Lq (by exact hf)];rfl
theorem Ur (n:EC):(Dsk.sh n).length=n.length+1:=by unfold Dsk.sh;simp
theorem Ra {D:Dsk}{u k:Nat}(h:OkD D u k)(n:EC):lk D.fs (Dsk.sh n)=none:=by
 rw[L8];intro hm;obtain⟨p,r,e⟩:=Ar.1 hm;exact h.tl p r (by rw[e];unfold Dsk.sh;simp)
theorem X7t {D:Dsk}{u k:Nat}{n p:EC}(h:OkD D u k)(hn:1<=n.length/\n.length<=60)(hp:p.length<=1048576)(hr:((u+(EI p).length:Nat):Int)<=D.room)(hc:k<4096):D.save n p=(0,{ D with fs:=EX D.fs n ⟨EI p,(EI p).length⟩ }):=by
 have hs:=Ra h n;have hl:=Ur n;unfold Dsk.save;rw[if_neg EA,if_neg EA,if_neg (by unfold Dsk.has;rw[hs];decide)];unfold Dsk.save2;have J:=UR (p:=EI p) h (name:=Dsk.sh n) EA hr hc;rw[WL hs]at J;simp only [AE]at J;rw[J];have z:=O6 (D:={ D with fs:=EX D.fs (Dsk.sh n) ⟨EI p,0⟩ }) (n:=Dsk.sh n) (f:=⟨EI p,0⟩) h.fu EA (by show lk (EX _ _ _) _=_;rw[JD,if_pos rfl]);dsimp only at z;rw[MN]at z;simp only [ne_eq,not_true_eq_false,if_false,z];unfold Dsk.ren;rw[if_neg (by rw[LC (by exact h.fu) (by intro s r;simp at r;rcases r with rfl|rfl<;>omega)];decide)];dsimp only;rw[JD,if_pos rfl];dsimp only;rw[Lq (by exact h.fu),Sl hs]
theorem OkD.put {D:Dsk}{u k:Nat}{n:EC}{f:Fil}(h:OkD D u k)(ht:n.getLast?≠some 126){x:Nat}(hx:f.data.length<=(D.old n).data.length+x):OkD { D with fs:=EX D.fs n f } (u+x) (k+1):=by
 have h1:=Ve h.nd n f;have h2:=h.us;have h3:(J4 D.fs n)=D.old n:=rfl;have h4:=QO D.fs n f;have h5:=h.cn;refine⟨h.fu,?_,?_,Oq _ _ h.nd,λp r=>?_⟩
 ·show IJ (EX D.fs n f)<=_;rw[h3]at h1;omega
 ·show(EX D.fs n f).length<=_;rw[h4];split<;>omega
 ·rcases Pr r with rfl|r
  ·exact ht
  ·exact h.tl p r
theorem OkD.del {D:Dsk}{u k:Nat}(h:OkD D u k)(n:EC):OkD { D with fs:=FO D.fs n } u k:=
 ⟨h.fu,Ae (Wi D.fs n) h.us,Ae (B0 _ _) h.cn,P9 n h.nd,λp r=>h.tl p (Az.1 r).1⟩
theorem WR {D:Dsk}{u k:Nat}{n p:EC}(h:OkD D u k)(hn:1<=n.length/\n.length<=60)(ht:n.getLast?≠some 126)(hp:p.length<=1048576)(hr:((u+p.length+12:Nat):Int)<=D.room)(hc:k<4096):(D.save n p).1=0/\OkD (D.save n p).2 (u+p.length+12) (k+1)/\(D.save n p).2.room=D.room:=by
 have r:=Jz p;rw[X7t h hn hp (by rw[r,<-BW];exact hr) hc];have:=h.put ht (f:=⟨EI p,(EI p).length⟩) (x:=p.length+12) (by simp only [];omega);exact⟨rfl,by rw[BW];exact this,rfl⟩
theorem X1m {D:Dsk}{u k:Nat}{n:EC}(h:OkD D u k)(hn:1<=n.length/\n.length<=64):(Dsk.rems [n] D).1=0/\OkD (Dsk.rems [n] D).2 u k/\(Dsk.rems [n] D).2.room=D.room:=by
 unfold Dsk.rems
 by_cases hh:D.has n=true
 ·rw[if_pos hh];have h2:(lk D.fs n).isNone=false:=by unfold Dsk.has at hh;cases e:lk D.fs n with
   | none=>rw[e]at hh;cases hh
   | some a=>rfl
  have r:D.rem [n]=(0,{ D with fs:=FO D.fs n }):=by
   unfold Dsk.rem Dsk.each;rw[if_neg (by rw[LC h.fu (by simpa using hn)];decide),if_neg (by rw[h2];decide)];unfold Dsk.each Dsk.gone;rw[Lq (by exact h.fu)]
  rw[r,if_neg EQ];unfold Dsk.rems;exact⟨rfl,h.del n,rfl⟩
 ·rw[if_neg hh];unfold Dsk.rems;exact⟨rfl,h,rfl⟩
theorem Xy0 {L:Led}{D:Dsk}{u k:Nat}{p:EC}(h:OkD D u k)(hd:L.dead=false)(hp:p.length<=65536)(hl:L.last<1099511627776)(hr:((u+p.length+32:Nat):Int)<=D.room)(hc:k<4096):(L.append D p).1=L.last+1/\(L.append D p).2.1=0/\(L.append D p).2.2.1={ L with ents:=L.ents++[p] }/\OkD (L.append D p).2.2.2 (u+p.length+32) (k+1)/\(L.append D p).2.2.2.room=D.room:=by
 have he:=M3 (L.last+1) p;have hrl:=Jz (Led.ent (L.last+1) p);have r:=UR (p:=EI (Led.ent (L.last+1) p)) h (name:=Led.logn) EK EA hc;have J:=O6 (D:=(D.app Led.logn (EI (Led.ent (L.last+1) p))).2) (n:=Led.logn) (f:=⟨(D.old Led.logn).data++EI (Led.ent (L.last+1) p),(D.old Led.logn).lasts⟩) (by rw[r];exact h.fu) EK (by rw[r];show lk (EX _ _ _) _=_;rw[JD,if_pos rfl]);have z:Ho L D p=(0,{ D with fs:=EX D.fs Led.logn ⟨(D.old Led.logn).data++EI (Led.ent (L.last+1) p),((D.old Led.logn).data++EI (Led.ent (L.last+1) p)).length⟩ }):=by
  unfold Ho;rw[if_pos (by rw[r]),J,r];dsimp only;rw[MN]
 rw[Pv hd EA (by rw[z];simp),z];have:=h.put (n:=Led.logn) (f:=⟨(D.old Led.logn).data++EI (Led.ent (L.last+1) p),((D.old Led.logn).data++EI (Led.ent (L.last+1) p)).length⟩) EK (x:=p.length+32) (by simp only [Ab];omega);exact⟨rfl,rfl,rfl,by rw[BW];exact this,rfl⟩
theorem X1n {L:Led}{D:Dsk}{u k:Nat}{i:Int}{p:EC}(h:OkD D u k)(hd:L.dead=false)(hi:L.last<=i/\i<=1099511627776)(hp:p.length<=524288)(hr:((u+p.length+32:Nat):Int)<=D.room)(hc:k<4096):(L.write D i p).1=0/\(L.write D i p).2.1=⟨i,p,[],false⟩/\OkD (L.write D i p).2.2 (u+p.length+32) (k+1)/\(L.write D i p).2.2.room=D.room:=by
 have he:=M3 i p;obtain⟨O,z,r⟩:=WR (p:=Led.ent i p) (n:=Led.img) h EK EK EA EA hc;obtain⟨r1,r2,J⟩:=X1m (n:=Led.logn) z EK;unfold Led.write;rw[if_neg (by rw[hd];decide),if_neg EA,if_neg EA];dsimp only;rw[if_pos O,if_neg (by rw[r1];decide)];exact⟨rfl,rfl,r2.mono EA (Aa _),J.trans r⟩
def bW (c:Cell):Nat:=5+3*c.key.length+2*c.val.length
def eW (c:Cell):Nat:=12+2*c.key.length
def Lh (l:EC):Nat:=l.foldl (λa c=>10*a+(c.toNat-48)) 0
theorem Ua (u:Nat):Lh (Lib.decDigits u)=u:=by
 induction u using Nat.strongRecOn with
 | _ u ih=>
  rw[Lib.decDigits];split
  ·rename_i h;unfold Lh;rw[B7,E0,Nd _ EA];omega
  ·rename_i h;have h1:=ih (u / 10) EA;unfold Lh at *;rw[List.foldl_append,h1,B7,E0,Nd _ EA];omega
theorem X1o (u:Nat):∃c:UInt8,c.toNat<58/\∃r,Lib.decDigits u=r++[c]:=by
 rw[Lib.decDigits];split
 ·exact⟨_,by rw[Nd _ EA];omega,[],rfl⟩
 ·exact⟨_,by rw[Nd _ EA];omega,_,rfl⟩
theorem RW {n:Int}(h:0<=n):Gb n=116 :: Lib.decDigits n.toNat:=by
 unfold Gb Lib.itoa;rw[if_neg EA]
theorem OI {n m:Int}(hn:0<=n)(hm:0<=m)(h:Gb n=Gb m):n=m:=by
 rw[RW hn,RW hm]at h;have:=congrArg Lh (List.cons.inj h).2;rw[Ua,Ua]at this;omega
theorem Xty {n:Int}(h:0<=n):(Gb n).getLast?≠some 126:=by
 obtain⟨c,z,r,e⟩:=X1o n.toNat;rw[RW h,e,<-AS,List.getLast?_append];intro e2;simp at e2;rw[e2]at z;exact absurd z EK
theorem X1p {n:Int}(h:0<=n)(h2:n<=1099511627776):1<=(Gb n).length/\(Gb n).length<=60:=by
 have:=PS (n:=n) ⟨by omega,by omega⟩;refine⟨?_,by omega⟩;unfold Gb;simp
def sumN (N:List (EC×Nat)):Nat:=(N.map (·.2)).sum
def Just (N:List (EC×Nat))(p:EC×Fil):Prop:=∃q∈N,p.1=q.1/\p.2.data.length<=q.2
structure DJ (D:Dsk)(N:List (EC×Nat))(H:List EC):Prop where
 fu:D.fused=false
 rm:D.room=4194304
 nd:(D.fs.map (·.1)).Nodup
 js:∀p∈D.fs,Just N p
 tl:∀q∈N,q.1.getLast?≠some 126
 hs:∀n∈H,D.has n=true
section
variable {D:Dsk}{N:List (EC×Nat)}{H:List EC}
theorem UM : ∀(ns:List EC) (D:Dsk),D.fused=false->(∀n∈ns,(1<=n.length/\n.length<=64)/\D.has n=true)->ns.Nodup->D.rem ns=(0,ns.foldl (λD n=>D.gone n) D)
 | [],D,_,_,_=>rfl
 | n :: r,D,hf,h,hn=>by
  rw[AZ]at hn;have h1:=h n Al;have h2:(lk D.fs n).isNone=false:=by
   have:=h1.2;unfold Dsk.has at this
   cases e:lk D.fs n with
   | none=>rw[e]at this;cases this
   | some a=>rfl
  have z:=UM r (D.gone n) hf (λm hm=>⟨(h m (Am _ hm)).1,by
   unfold Dsk.has Dsk.gone;show(lk (FO D.fs n) m).isSome=true;rw[NM,if_neg (λe=>hn.1 (by rw[<-e];exact hm))];exact(h m (Am _ hm)).2⟩) hn.2
  unfold Dsk.rem at *;unfold Dsk.each;rw[if_neg (by rw[LC hf (by intro s hs;rw[Ah.1 hs];exact h1.1)];decide),if_neg (by rw[h2];decide),Lq (by exact hf),z];rfl
end
def nmT (t:Tb):EC×Nat:=(Gb t.h.2,100+20*Fo cW t.cs)
def nmN (ts:List Tb)(E:Nat):List (EC×Nat):=(Led.img,262180) :: (Led.logn,E) :: ts.map nmT
def DI (D:Dsk)(ts:List Tb)(E:Nat):Prop:=DJ D (nmN ts E) (ts.map λt=>Gb t.h.2)
section
variable {n lv:Int}{V V':Vs}{ts ts':List Tb}{mem mem' l:List Cell}{gone:List Fi}{L L':Led}{D D':Dsk}{dead dead' ok:Bool}{e:Int}{S i E:Nat}{M:List Rw}
theorem ChS.tabs (h:Sto n V ts mem)(c:ChS V ts l lv gone V' ts')(hg:∀f∈gone,f∈V.fs):∃tbs:List Tb,tbs.map (λt=>(t.h,t.cs))=KM lv V.next (F7 l)/\ts'=ts.filter (kp gone)++tbs:=by
 obtain⟨hok,⟨fs',hp,hv,rfl⟩,tbs,J,hb⟩:=c;obtain⟨htl,r,hta⟩:=PB J;have z:∀t∈tbs,V.next<=t.h.2:=λt O=>by
  obtain⟨i,hi⟩:=AJ O;rw[(r i t hi).1];show V.next<=V.next+↑i;omega
 have ha:∀t∈tbs,∀u∈ts,u.h≠t.h:=λt O u hu e=>by
  have h1:=z t O;have h2:=(h.lev hu).2.2.2;rw[e]at h2;omega
 have Y:(tbs.map (·.h)).Nodup:=by
  rw[List.Nodup,BU];intro i j hi hj hij e;simp only [An]at hi hj;simp only [CA]at e;rw[(r i _ (Av hi)).1,(r j _ (Av hj)).1]at e;have:=(Prod.mk.inj e).2;omega
 have Z:∀t∈tbs,kp gone t=true:=λt O=>L4.2 λf hf e=>by
  have h1:=z t O;have h2:=(JH ((Ig h.isv).2.2.2.1 f (hg f hf))).2.1;rw[e]at h1;have h3:V.next<=f.id:=h1;omega
 exact⟨tbs,J,by rw[hb,O7 tbs ts ha Y,QD,Bu,List.filter_eq_self.2 Z]⟩
end
structure FD (D:Dsk):Prop where
 fu:D.fused=false
 nd:(D.fs.map (·.1)).Nodup
 tl:∀p∈D.fs,p.1.getLast?≠some 126
theorem FD.ok {D:Dsk}(h:FD D):OkD D (IJ D.fs) D.fs.length:=⟨h.fu,Aa _,Aa _,h.nd,h.tl⟩
theorem WI {D:Dsk}{n p:EC}(h:D.fused=false)(hn:1<=n.length/\n.length<=64):D.app n p=(6,D)\/D.app n p=(0,{ D with fs:=EX D.fs n ⟨(D.old n).data++p,(D.old n).lasts⟩ }):=by
 unfold Dsk.app;rw[if_neg (by rw[LC h (by simpa using hn)];decide),Lq (by exact h)];split
 ·exact .inl rfl
 ·exact .inr rfl
theorem FD.set {D:Dsk}(h:FD D){n:EC}(hn:n.getLast?≠some 126)(f:Fil):FD { D with fs:=EX D.fs n f }:=
 ⟨h.fu,Oq _ _ h.nd,λp r=>by
  rcases Pr r with rfl|r
  ·exact hn
  ·exact h.tl p r⟩
theorem FD.del {D:Dsk}(h:FD D)(n:EC):FD (D.gone n):=⟨h.fu,P9 n h.nd,λp r=>h.tl p (Az.1 r).1⟩
theorem Xy {D:Dsk}{n p:EC}(h:FD D)(hn:1<=n.length/\n.length<=60):(∃e,e≠0/\D.save n p=(e,D))\/D.save n p=(0,{ D with fs:=EX D.fs n ⟨EI p,(EI p).length⟩ }):=by
 have hs:=Ra h.ok n;have hl:=Ur n;unfold Dsk.save;rw[if_neg EA];split
 ·exact .inl ⟨5,by decide,rfl⟩
 rw[if_neg (by unfold Dsk.has;rw[hs];decide)];unfold Dsk.save2;rcases WI (p:=EI p) h.fu (n:=Dsk.sh n) EA with ha|ha
 ·rw[ha,if_pos EQ];exact .inl ⟨6,by decide,rfl⟩
 ·rw[WL hs]at ha;simp only [AE]at ha;rw[ha];have z:=O6 (D:={ D with fs:=EX D.fs (Dsk.sh n) ⟨EI p,0⟩ }) (n:=Dsk.sh n) (f:=⟨EI p,0⟩) h.fu EA (by show lk (EX _ _ _) _=_;rw[JD,if_pos rfl]);dsimp only at z;rw[MN]at z;refine .inr ?_;simp only [ne_eq,not_true_eq_false,if_false,z];unfold Dsk.ren;rw[if_neg (by rw[LC (by exact h.fu) (by intro s r;simp at r;rcases r with rfl|rfl<;>omega)];decide)];dsimp only;rw[JD,if_pos rfl];dsimp only;rw[Lq (by exact h.fu),Sl hs]
theorem Xox {L:Led}{D:Dsk}{p:EC}(h:FD D):(∃e d,e≠0/\L.append D p=(0,e,{ L with dead:=d },D))\/
  L.append D p=(L.last+1,0,{ L with ents:=L.ents++[p] },{ D with fs:=EX D.fs Led.logn ⟨(D.old Led.logn).data++EI (Led.ent (L.last+1) p),((D.old Led.logn).data++EI (Led.ent (L.last+1) p)).length⟩ }):=by
 cases hd:L.dead with
 | true=>exact .inl ⟨9,L.dead,by decide,Qf hd⟩
 | false=>
  by_cases h2:65536<p.length\/1099511627776<=L.last
  ·exact .inl ⟨5,L.dead,by decide,O1 hd h2⟩
  ·rcases WI (p:=EI (Led.ent (L.last+1) p)) h.fu (n:=Led.logn) EK with ha|ha
   ·have r:Ho L D p=(6,D):=by unfold Ho;rw[ha,if_neg EQ]
    refine .inl ⟨6,true,by decide,?_⟩;rw[Q5 hd h2 (by rw[r];simp),r]
   ·have z:=O6 (D:=(D.app Led.logn (EI (Led.ent (L.last+1) p))).2) (n:=Led.logn) (f:=⟨(D.old Led.logn).data++EI (Led.ent (L.last+1) p),(D.old Led.logn).lasts⟩) (by rw[ha];exact h.fu) EK (by rw[ha];show lk (EX _ _ _) _=_;rw[JD,if_pos rfl]);have r:Ho L D p=(0,{ D with fs:=EX D.fs Led.logn ⟨(D.old Led.logn).data++EI (Led.ent (L.last+1) p),((D.old Led.logn).data++EI (Led.ent (L.last+1) p)).length⟩ }):=by
     unfold Ho;rw[if_pos (by rw[ha]),z,ha];dsimp only;rw[MN]
    refine .inr ?_;rw[Pv hd h2 (by rw[r];simp),r,hd]
theorem Xtz {D:Dsk}{n:EC}(h:FD D)(hn:1<=n.length/\n.length<=64):∃D',Dsk.rems [n] D=(0,D')/\FD D'/\D'.room=D.room/\∀m,lk D'.fs m=if m=n then none else lk D.fs m:=by
 unfold Dsk.rems
 by_cases hh:D.has n=true
 ·rw[if_pos hh];have h2:(lk D.fs n).isNone=false:=by unfold Dsk.has at hh;cases e:lk D.fs n with
   | none=>rw[e]at hh;cases hh
   | some a=>rfl
  have r:D.rem [n]=(0,{ D with fs:=FO D.fs n }):=by
   unfold Dsk.rem Dsk.each;rw[if_neg (by rw[LC h.fu (by simpa using hn)];decide),if_neg (by rw[h2];decide)];unfold Dsk.each Dsk.gone;rw[Lq (by exact h.fu)]
  rw[r,if_neg EQ];unfold Dsk.rems;exact⟨_,rfl,h.del n,rfl,λm=>NM _ _ _⟩
 ·rw[if_neg hh];unfold Dsk.rems;refine⟨_,rfl,h,rfl,λm=>?_⟩;split
  ·rename_i e;subst e;unfold Dsk.has at hh
   cases e:lk D.fs m with
   | none=>rfl
   | some a=>rw[e]at hh;exact absurd rfl hh
  ·rfl
theorem Xqk {L:Led}{D:Dsk}{i:Int}{p:EC}(h:FD D):(∃e d,e≠0/\L.write D i p=(e,{ L with dead:=d },D))\/
  (i<=1099511627776/\L.last<=i/\∃D',L.write D i p=(0,⟨i,p,[],false⟩,D')/\FD D'/\D'.room=D.room/\∀m,lk D'.fs m=if m=Led.logn then none else if m=Led.img then some ⟨EI (Led.ent i p),(EI (Led.ent i p)).length⟩else lk D.fs m):=by
 unfold Led.write;split
 ·exact .inl ⟨9,L.dead,by decide,rfl⟩
 split
 ·exact .inl ⟨1,L.dead,by decide,rfl⟩
 rename_i hi;split
 ·exact .inl ⟨5,L.dead,by decide,rfl⟩
 dsimp only;rcases Xy (p:=Led.ent i p) h (n:=Led.img) EK with⟨e,he,hs⟩|hs
 ·rw[hs];dsimp only;rw[if_neg he,if_pos he];exact .inl ⟨e,true,he,rfl⟩
 ·rw[hs];dsimp only;rw[if_pos rfl];obtain⟨D',r1,r2,z,r⟩:=Xtz (h.set (n:=Led.img) EK ⟨EI (Led.ent i p),(EI (Led.ent i p)).length⟩) (n:=Led.logn) EK;rw[r1,if_neg EQ];refine .inr ⟨by omega,by omega,D',rfl,r2,z,λm=>?_⟩;rw[r m];split
  ·rfl
  ·exact JD _ _ _ _
theorem SE : ∀(qs:List (Int×EC)) (D:Dsk),FD D->(∀q∈qs,0<=q.1/\q.1<=1099511627776)->(qs.map (·.1)).Nodup->
  FD (GY qs D).2/\(GY qs D).2.room=D.room/\(∀m,(∀q∈qs,m≠Gb q.1)->lk (GY qs D).2.fs m=lk D.fs m)/\((GY qs D).1=0->∀q∈qs,∃k,lk (GY qs D).2.fs (Gb q.1)=some ⟨EI q.2,k⟩)
 | [],D,h,_,_=>⟨h,rfl,λ_ _=>rfl,λ_ q O=>(by cases O)⟩
 | q :: r,D,h,O,hn=>by
  obtain⟨Y,q2⟩:=O q Al;rw[Aq,AZ]at hn;rcases Xy (p:=q.2) h (X1p Y q2)with⟨e,he,hs⟩|hs
  ·have e2:GY (q :: r) D=(e,D):=by rw[GY.eq_2,hs,if_pos he]
   rw[e2];exact⟨h,rfl,λ_ _=>rfl,λh0=>absurd h0 he⟩
  ·have e2:GY (q :: r) D=GY r { D with fs:=EX D.fs (Gb q.1) ⟨EI q.2,(EI q.2).length⟩ }:=by rw[GY.eq_2,hs,if_neg EQ]
   obtain⟨r1,r2,Z,r4⟩:=SE r _ (h.set (Xty Y) ⟨EI q.2,(EI q.2).length⟩) (λz J=>O z (Am _ J)) hn.2;rw[e2];refine⟨r1,r2,λm hm=>?_,λh0 z J=>?_⟩
   ·rw[Z m (λz J=>hm z (Am _ J))];show lk (EX _ _ _) m=_;rw[JD,if_neg (hm q Al)]
   ·rcases Aj.1 J with rfl|J
    ·refine⟨(EI z.2).length,?_⟩;rw[Z _ (λy hy e=>hn.1 (by rw[OI Y (O y (Am _ hy)).1 e];exact List.mem_map_of_mem hy))];show lk (EX _ _ _) _=_;rw[JD,if_pos rfl]
    ·exact r4 h0 z J
theorem UY : ∀(ns:List EC) (D:Dsk),FD D->FD (D.rem ns).2/\(D.rem ns).2.room=D.room/\∀m,m∉ns->lk (D.rem ns).2.fs m=lk D.fs m
 | [],D,h=>⟨h,rfl,λ_ _=>rfl⟩
 | n :: r,D,h=>by
  have z:=UY r (D.gone n) (h.del n);unfold Dsk.rem at *;unfold Dsk.each;split
  ·exact⟨h,rfl,λ_ _=>rfl⟩
  split
  ·exact⟨h,rfl,λ_ _=>rfl⟩
  rw[Lq (by exact h.fu)];refine⟨z.1,z.2.1,λm hm=>?_⟩;rw[z.2.2 m (λJ=>hm (Am _ J))];unfold Dsk.gone;rw[NM,if_neg (λe=>hm (by rw[e];exact Al))]
def HD : Int->List EC->EC
 | _,[]=>[]
 | b,p :: r=>EI (Led.ent (b+1) p)++HD (b+1) r
theorem Sd (p:EC):∀(ps:List EC) (b:Int),HD b (ps++[p])=HD b ps++EI (Led.ent (b+ps.length+1) p)
 | [],b=>by simp [HD]
 | q :: r,b=>by
  rw[AS];unfold HD;rw[Sd p r (b+1),AA,show b+1+↑r.length+1=b+↑(q :: r).length+1 by rw[AB];omega]
def G9 : Int->List Cell->List (List Rw)->List Cell
 | _,m,[]=>m
 | b,m,l :: r=>G9 (b+1) (Il m (F0 l (b+1))) r
theorem RU (l:List Rw):∀(ls:List (List Rw)) (b:Int) (m:List Cell),G9 b m (ls++[l])=Il (G9 b m ls) (F0 l (b+ls.length+1))
 | [],b,m=>by simp [G9]
 | q :: r,b,m=>by
  rw[AS];unfold G9;rw[RU l r (b+1),show b+1+↑r.length+1=b+↑(q :: r).length+1 by rw[AB];omega]
structure FI (L:Led)(D:Dsk)(V:Vs)(ts:List Tb)(mem:List Cell):Prop where
 fd:FD D
 img:(lk D.fs Led.img=none/\L.base=0/\L.data=[]/\V=⟨1,[]⟩)\/((∃k,lk D.fs Led.img=some ⟨EI (Led.ent L.base L.data),k⟩)/\L.data=FR V/\(FR V).length<=262144)
 bs:∃bs:List (List Rw),L.ents=bs.map FF/\(∀b∈bs,Ia b=0)/\mem=G9 L.base [] bs
 log:(lk D.fs Led.logn=none/\L.ents=[])\/(L.ents≠[]/\∃k,lk D.fs Led.logn=some ⟨HD L.base L.ents,k⟩)
 tab:∀t∈ts,∃k,lk D.fs (Gb t.h.2)=some ⟨EI (EI (Fy t.cs)),k⟩
 b0:0<=L.base
 tok:∀t∈ts,H7 t.cs=0/\(EI (Fy t.cs)).length<=1048576
section
variable {n lv:Int}{V V':Vs}{ts ts':List Tb}{mem mem' l:List Cell}{gone:List Fi}{L L':Led}{D D':Dsk}{dead dead' ok:Bool}{e:Int}{S i:Nat}{M:List Rw}
theorem FI.nil (room:Int):FI H0 (HP room) ⟨1,[]⟩ [] []:=⟨⟨rfl,BS,λp J=>(by cases J)⟩,.inl ⟨rfl,rfl,rfl,rfl⟩,⟨[],rfl,λb z=>(by cases z),rfl⟩,.inl ⟨rfl,rfl⟩,λt r=>(by cases r),BX _,λt r=>(by cases r)⟩
theorem FI.setDead (h:FI L D V ts mem)(d:Bool):FI { L with dead:=d } D V ts mem:=⟨h.fd,h.img,h.bs,h.log,h.tab,h.b0,h.tok⟩
theorem OA (n:Int):Gb n≠Led.logn:=λe=>absurd (congrArg List.head? e) (by show¬ some (116:UInt8)=some 115;decide)
theorem Rv (n:Int):Gb n≠Led.img:=λe=>absurd (congrArg List.head? e) (by show¬ some (116:UInt8)=some 115;decide)
theorem FI.write {b:List Rw}(h:FI L D V ts mem)(hw:NB L D mem dead b e L' D' mem' dead'):FI L' D' V ts mem':=by
 rcases hw with⟨_,_,rfl,rfl,rfl,_⟩|⟨_,_,_,rfl,rfl,rfl,_⟩|⟨_,hc,rfl,rfl,hr⟩
 ·exact h
 ·exact h
 ·rcases Xox (L:=L) (p:=FF b) h.fd with⟨e9,d,he,hA⟩|hA
  ·rw[hA]at hr ⊢;rcases hr with⟨_,_,rfl,_⟩|⟨h9,_⟩
   ·exact h.setDead d
   ·exact absurd h9 he
  ·rw[hA]at hr ⊢;rcases hr with⟨h9,_⟩|⟨_,_,rfl,_⟩
   ·exact absurd rfl h9
   ·obtain⟨bs,b1,J,O⟩:=h.bs;have z:L.ents.length=bs.length:=by rw[b1,An]
    refine⟨h.fd.set EK _,?_,⟨bs++[b],?_,?_,?_⟩,.inr ⟨by simp,?_⟩,?_,h.b0,h.tok⟩
    ·show(lk (EX _ _ _) _=_/\_)\/((∃k,lk (EX _ _ _) _=_)/\_);rw[JD,if_neg EK];exact h.img
    ·show L.ents++_=_;rw[b1,AC];rfl
    ·intro x r;rcases Ay.1 r with r|r
     ·exact J x r
     ·rw[Ah.1 r];exact hc
    ·show Il mem (F0 b (L.last+1))=_;rw[RU,<-O];unfold Led.last;rw[z]
    ·refine⟨((D.old Led.logn).data++EI (Led.ent (L.last+1) (FF b))).length,?_⟩;show lk (EX _ _ _) _=some (⟨HD L.base (L.ents++[FF b]),_⟩:Fil);rw[JD,if_pos rfl,Sd];have e1:(D.old Led.logn).data=HD L.base L.ents:=by
      unfold Dsk.old;rcases h.log with⟨g1,g2⟩|⟨_,k,g2⟩
      ·rw[g1,g2];rfl
      ·rw[g2];rfl
     rw[e1];rfl
    ·intro t Y;show ∃k,lk (EX _ _ _) _=_;rw[JD,if_neg (OA _)];exact h.tab t Y
theorem FI.chg (h:FI L D V ts mem)(hC:JZ L D V ts dead l lv gone e L' D' V' ts' dead')(hS:Sto n V ts mem')(hg:∀f∈gone,f∈V.fs) :
  (e≠0/\V'=V/\ts'=ts/\FI L' D' V ts mem)\/(e=0/\FI L' D' V' ts' []/\FI L' D' V' ts' []/\∃tbs:List Tb,ts'=ts.filter (kp gone)++tbs/\∀t∈tbs,V.next<=t.h.2):=by
 have hy:=(Pp hC).2;rcases hC with⟨h1,rfl,rfl,rfl,rfl,_⟩|⟨hbld,_,fs',hp,_,hv,hv2,hr⟩
 ·exact .inl ⟨h1,rfl,rfl,h⟩
 ·have hx:=Ig hv;have hvn:1<=V.next:=(Ig hS.isv).1;have Y:∀q∈HX V.next (F7 l),V.next<=q.1/\q.1<=1099511627776/\q.2.length<=1048576:=λq z=>by
   unfold HX at z;obtain⟨p,hz,rfl⟩:=Ar.1 z;have hf:Kp lv V.next p.2 p.1∈fs':=hp.mem_iff.2 (List.mem_append_right _ (by unfold F5;exact Ar.2 ⟨p,hz,rfl⟩));have h1:=JH (hx.2.2.2.1 _ hf);have h2:GZ V.next (F5 lv V.next (F7 l))<=1099511627776:=hx.2.1;have g2:V.next+↑p.2<GZ V.next (F5 lv V.next (F7 l)):=h1.2.1;have g3:(((EI (Fy p.1)).length:Nat):Int)<=1048576:=h1.2.2.2.2.2.1;exact⟨by show V.next<=V.next+↑p.2;omega,by show V.next+↑p.2<=_;omega,by show(EI (Fy p.1)).length<=_;omega⟩
  have h5:((HX V.next (F7 l)).map (·.1)).Nodup:=by
   rw[List.Nodup,BU];intro i j hi hj hij O;simp only [An]at hi hj;simp only [CA]at O;unfold HX at O;simp only [CA,List.getElem_zipIdx]at O;omega
  obtain⟨s1,s2,s3,s4⟩:=SE (HX V.next (F7 l)) D h.fd (λq z=>⟨by have:=Y q z;omega,(Y q z).2.1⟩) h5;have hl:∀t∈ts,∀q∈HX V.next (F7 l),Gb t.h.2≠Gb q.1:=λt r q z O=>by
   have h1:=hS.lev r;have h2:=Y q z;have:=OI EA EA O;omega
  have hh:FI L (GY (HX V.next (F7 l)) D).2 V ts mem:=by
   refine⟨s1,?_,h.bs,?_,λt r=>?_,h.b0,h.tok⟩
   ·rw[s3 _ (λq _ O=>Rv _ O.symm)];exact h.img
   ·rw[s3 _ (λq _ O=>OA _ O.symm)];exact h.log
   ·rw[s3 _ (hl t r)];exact h.tab t r
  rcases hr with⟨h1,rfl,rfl,rfl,rfl,rfl,_⟩|⟨h0,rfl,rfl,hr⟩
  ·exact .inl ⟨h1,rfl,rfl,hh⟩
  ·rcases Xqk (L:=L) (i:=L.last) (p:=FR ⟨GZ V.next (F5 lv V.next (F7 l)),fs'⟩) s1 with⟨O,d,he,hW⟩|⟨hi1,hi2,D9,hW,w1,w2,w3⟩
   ·rw[hW]at hr ⊢;rcases hr with⟨_,rfl,rfl,rfl,_⟩|⟨h9,_⟩
    ·exact .inl ⟨he,rfl,rfl,hh.setDead d⟩
    ·exact absurd h9 he
   ·rw[hW]at hr ⊢;rcases hr with⟨h9,_⟩|⟨_,rfl,rfl,rfl,tbs,htb,hts⟩
    ·exact absurd rfl h9
    ·rcases hy with⟨h9,_⟩|⟨_,_,hCS⟩
     ·exact absurd rfl h9
     obtain⟨J,k1,k2⟩:=hCS.tabs hS hg;obtain⟨ktl,ha,kta⟩:=PB k1;have h6:∀t∈J,V.next<=t.h.2:=λt r=>by
      obtain⟨i,hi⟩:=AJ r;rw[(ha i t hi).1];show V.next<=V.next+↑i;omega
     have Z:∀t∈J,∃q∈HX V.next (F7 l),q.1=t.h.2/\q.2=EI (Fy t.cs):=λt r=>by
      obtain⟨i,hi⟩:=AJ r;obtain⟨h1,h2⟩:=ha i t hi;refine⟨(V.next+↑i,EI (Fy t.cs)),?_,by rw[h1],rfl⟩;unfold HX;refine Ar.2 ⟨(t.cs,i),Ak (i:=i) ?_,rfl⟩;rw[KS,h2];rfl
     have hc:0<=L.last:=by have:=h.b0;unfold Led.last;omega
     have hw:FI ⟨L.last,FR ⟨GZ V.next (F5 lv V.next (F7 l)),fs'⟩,[],false⟩ D9 ⟨GZ V.next (F5 lv V.next (F7 l)),fs'⟩ ts' []:=by
      refine⟨w1,.inr ⟨⟨(EI (Led.ent L.last (FR ⟨GZ V.next (F5 lv V.next (F7 l)),fs'⟩))).length,?_⟩,rfl,hv2⟩,⟨[],rfl,λb hb=>(by cases hb),rfl⟩,.inl ⟨?_,rfl⟩,λt r=>?_,hc,λt r=>?_⟩
      ·rw[w3,if_neg EK,if_pos rfl]
      ·rw[w3,if_pos rfl]
      ·rw[w3,if_neg (OA _),if_neg (Rv _)];rw[k2]at r;rcases Ay.1 r with r|r
       ·exact hh.tab t (Az.1 r).1
       ·obtain⟨q,z,q1,q2⟩:=Z t r;obtain⟨k,hk⟩:=s4 h0 q z;exact⟨k,by rw[<-q1,hk,q2]⟩
      ·rw[k2]at r;rcases Ay.1 r with r|r
       ·exact h.tok t (Az.1 r).1
       ·obtain⟨q,z,q1,q2⟩:=Z t r;obtain⟨j,hj⟩:=AJ r;exact⟨hbld t.cs (Ak (ha j t hj).2),by rw[<-q2];exact(Y q z).2.2⟩
     exact .inr ⟨rfl,hw,hw,J,k2,h6⟩
theorem FI.flush (h:FI L D V ts mem)(hS:Sto n V ts mem)(r:Jy L D V ts mem dead ok e L' D' V' ts' mem' dead'):FI L' D' V' ts' mem':=by
 rcases r with⟨_,_,_,rfl,rfl,rfl,rfl,rfl,_⟩|⟨_,_,_,_,rfl,rfl,rfl,rfl,rfl,_⟩|⟨_,_,m,hm,hC,hr⟩
 ·exact h
 ·exact h
 ·rcases h.chg hC hS (λf r=>(by cases r))with⟨h1,rfl,rfl,h2⟩|⟨h1,h2,_⟩
  ·rcases hr with⟨_,_,rfl⟩|⟨h9,_⟩
   ·exact h2
   ·exact absurd h9 h1
  ·rcases hr with⟨h9,_⟩|⟨_,_,rfl⟩
   ·exact absurd h1 h9
   ·exact h2
theorem FI.rem (h:FI L D V ts mem){ns:List EC}(h1:Led.img∉ns)(h2:Led.logn∉ns)(h3:∀t∈ts,Gb t.h.2∉ns):FI L (D.rem ns).2 V ts mem:=by
 obtain⟨r1,_,r⟩:=UY ns D h.fd;exact⟨r1,by rw[r _ h1];exact h.img,h.bs,by rw[r _ h2];exact h.log,λt z=>by rw[r _ (h3 t z)];exact h.tab t z,h.b0,h.tok⟩
theorem FI.comp {did:Bool}(h:FI L D V ts mem)(hS:Sto n V ts mem)(O:Le L D V ts mem dead did e L' D' V' ts' mem' dead'):FI L' D' V' ts' mem':=by
 rcases O with⟨_,_,_,rfl,rfl,rfl,rfl,rfl,_⟩|⟨_,_,_,_,rfl,rfl,rfl,rfl,rfl,_⟩|⟨rfl,_,ok,e1,L1,D1,V1,ts1,mem1,dead1,hF,hr⟩
 ·exact h
 ·exact h
 ·have h1:=h.flush hS hF;rcases hr with⟨_,_,_,rfl,rfl,rfl,rfl,rfl,_⟩|⟨rfl,p,lv,m,e2,D2,dead2,_,hP,hm,hC,rfl,hr⟩
  ·exact h1
  ·obtain⟨_,rfl,r,_⟩:=QJ hS hF;have J:∀f∈p,f∈V1.fs:=λf O=>(hP.sub f O).1;have ha:=(Ig r.isv).2.2.2.2.1;have z:=(Ig r.isv).2.2.2.1;rcases h1.chg hC r J with⟨c1,rfl,rfl,c2⟩|⟨rfl,c2,_,tbs,c3,c4⟩
   ·rcases hr with⟨_,_,_,rfl,_⟩|⟨h9,_⟩
    ·exact c2
    ·exact absurd h9 c1
   ·rcases hr with⟨h9,_⟩|⟨_,rfl,_⟩
    ·exact absurd rfl h9
    ·refine c2.rem (λhs=>?_) (λhs=>?_) (λt Z hs=>?_)
     ·obtain⟨f,_,Y⟩:=Ar.1 hs;exact Rv _ Y
     ·obtain⟨f,_,Y⟩:=Ar.1 hs;exact OA _ Y
     ·obtain⟨f,O,Y⟩:=Ar.1 hs;have hf1:=JH (z f (J f O));rw[c3]at Z;rcases Ay.1 Z with Z|Z
      ·obtain⟨hb,hc⟩:=Az.1 Z;have h8:=r.lev hb;have e8:=OI EA EA Y;obtain⟨g,hg,hv⟩:=r.bwd t hb;have hg1:=JH (z g hg);have e7:f=g:=Lt ha (J f O) hg (by rw[e8,hv.h]);exact L4.1 hc f O (by rw[hv.h,e7])
      ·have h8:=c4 t Z;have e8:=OI EA EA Y;omega
end
def Ks (H:Nat->Prop)(bl bd:Nat)(D:Dsk)(w:World):Prop:=∃(F G:Nat->Prop),FV F bd D w/\LedE G bl bd (.slice none 0 0) (.slice none 0 0) [] H0 w/\(∀k,F k->¬ G k)/\(∀k,F k\/G k->H k)/\∀k,H k->k<w.heap.size
theorem Ks.at {H:Nat->Prop}{bl bd:Nat}{D:Dsk}{w:World}(h:Ks H bl bd D w):LD H bl bd H0 D w:=by
 obtain⟨F,G,h1,h2,h3,h4,r⟩:=h;exact⟨F,G,_,_,_,h1,h2,h3,h4,r⟩
def ImgF (D:Dsk)(i:Int)(p:EC):Prop:=(lk D.fs Led.img=none/\i=0/\p=[])\/∃k,lk D.fs Led.img=some ⟨EI (Led.ent i p),k⟩
theorem Ya1 {D:Dsk}(h:lk D.fs Led.img=none):Lf D Led.img=([],7):=by
 have e:D.readE Led.img=7:=by unfold Dsk.readE Dsk.has;rw[h];rfl
 rw[UE (by rw[e];decide),e]
theorem SX {D:Dsk}{s p:EC}{k:Nat}(h:lk D.fs s=some ⟨EI p,k⟩)(hp:p.length<=1048576):Lf D s=(p,0):=by
 have e:D.readE s=0:=by unfold Dsk.readE Dsk.has;rw[h];rfl
 have e2:D.readB s=EI p:=by unfold Dsk.readB Dsk.read;rw[h];rfl
 rw[S4 e (by rw[e2,Pz p hp]),e2,Pz p hp]
theorem Xy3 : ∀(ps:List EC) (b:Int),HD b ps=(ps.zipIdx.map λq=>Led.ent (b+1+q.2) q.1).flatMap EI:=by
 intro ps;have:∀(ps:List EC) (k:Nat) (b:Int),HD (b+k) ps=((ps.zipIdx k).map λq=>Led.ent (b+1+q.2) q.1).flatMap EI:=by
  intro ps
  induction ps with
  | nil=>intro k b;rfl
  | cons p r ih=>
   intro k b;have h1:=ih (k+1) b;unfold HD;rw[List.zipIdx_cons,Aq,AD,<-h1,show b+(k:Int)+1=b+1+k by omega,show b+1+(k:Int)=b+((k+1:Nat):Int) by omega]
 intro b;have h:=this ps 0 b;simpa using h
theorem Ya2 (H:Nat->Prop)(bl bd:Nat)(D:Dsk)(w:World)(h:Ks H bl bd D w)(hno:D.has (Led.img++[126])=false) :
  Calls Tryz.prog 115 [ED bl 0].toArray w (Fh H w (λu w'=>u=I 0/\Ks (G2 H w w') bl bd D w')):=by
 refine cw Tryz.func115 ?_;have z:=EB.refl w;obtain⟨F,G,hA,r,Y,J,hf⟩:=h;have h00:Ks H bl bd D w:=⟨F,G,hA,r,Y,J,hf⟩;have hl:EL w bl [ED bd 0,S [115],I 0,.slice none 0 0,.slice none 0 0,B false] 147:=r.m;have ha:=r.lt;refine ws λ_ Z1=>wr (da (de Z1 (ws λ_ Z2=>?_)));refine F4 (R:=EB) EB.refl (λ_ _ _=>EB.trans) E9 [3] [(0,.p,false),(1,.p,false),(2,.p,false),(3,.l,false),(4,.p,false),(5,.x,false),(6,.p,false),(7,.x,false),(8,.x,true),(9,.p,false)] rfl E9 E9 (λw1 Z=>?_);have x1:=EJ Z;clear Z;have hl:=hl.ext x1;have r:=r.ext x1;have hA:=hA.ext x1;have z:=z.trans x1;refine dm ?_;refine dz rfl (df 0 rfl (dL rfl (λ_ hR=>((hl.ext hR).at rfl)) (dm ?_)));refine cP (Gl G bl bd _ _ _ H0 _ r) RX.ext λw2 x2=>?_;have r:=r.ext x2;have hA:=hA.ext x2;have z:=z.trans x2;refine dp (Ji rfl rfl EK) (li (e:=9) (sz:=1) (zs:=[S []]) (pv:=[(0,_)]) (cs:=[_]) RX.ext (λb1 w3 e1 x3 m1=>?_));have g1:=z.ge e1;have a1_hE:=r.lt;have O:=hA.lt;have r:=r.ext x3;have hA:=hA.ext x3;have z:=z.trans x3;refine cD (Hc F bd D [Led.img++[126]] _ _ hA (Lx m1) EQ (λ_ hF=>Nat.lt_irrefl b1 (Nat.lt_of_lt_of_eq (O _ hF) e1.symm))) (.inl rfl) λu4 w4 x4 hc=>?_;have hb:=z.size;have r:=r.mod x4 (λk hk h=>Y k h hk);have z:=(z.mod x4).mono (λi hi _=>(J i (.inl hi):H i));rw[WA hno]at hc;obtain⟨rfl,hA⟩:=hc;have hszA:=hb;refine da (de Z2 (EH ?_));refine ro ?_;refine⟨_,rfl,z,rfl,_,G,hA,r,λk hk hg=>hk.elim (λh=>Y k h hg) (λh=>by have:=ha k hg;omega),λk hk=>?_,HV hf z.size⟩;rcases hk with(h|h)|h
 ·exact .inl (J k (.inl h))
 ·exact .inr ⟨by omega,hA.lt k (.inr h)⟩
 ·exact .inl (J k (.inr h))
theorem X7u (H:Nat->Prop)(bl bd:Nat)(D:Dsk)(w:World)(h:Ks H bl bd D w)(hno:lk D.fs Led.img=none) :
  Calls Tryz.prog 116 [ED bl 0].toArray w (Fh H w (λu w'=>u=I 0/\Ks (G2 H w w') bl bd D w')):=by
 refine cw Tryz.func116 ?_;have z:=Vc.Mod.refl H w;obtain⟨F,G,hA,r,ha,O,Y⟩:=h;have h00:Ks H bl bd D w:=⟨F,G,hA,r,ha,O,Y⟩;have hl:EL w bl [ED bd 0,S [115],I 0,.slice none 0 0,.slice none 0 0,B false] 147:=r.m;have hltG:=r.lt;refine ws λ_ Z1=>wr (da (de Z1 (ws λ_ Z2=>?_)));refine F4 (R:=EB) EB.refl (λ_ _ _=>EB.trans) E9 [3] [(0,.p,false),(1,.p,false),(2,.p,false),(3,.l,false),(4,.p,false),(5,.x,false),(6,.x,true),(7,.p,false),(8,.p,false),(9,.p,false),(10,.p,false),(11,.p,false)] rfl E9 E9 (λw1 J=>?_);have x1:=EJ J;clear J;have hl:=hl.ext x1;have r:=r.ext x1;have hA:=hA.ext x1;have z:=z.ext x1;refine dm ?_;refine dz rfl (df 0 rfl (dL rfl (λ_ hR=>((hl.ext hR).at rfl)) (dm ?_)));refine cP (Gl G bl bd _ _ _ H0 _ r) RX.ext λw2 x2=>?_;have r:=r.ext x2;have hA:=hA.ext x2;have z:=z.ext x2;refine cG (Ij F bd D Led.img _ hA EK) RX.all λu3 w3 x3 Z=>?_;have hsz3:=z.size;have r:=r.ext x3;have hA:=hA.ext x3;have z:=z.ext x3;rw[Ya1 hno]at Z;obtain⟨vx,rfl,_⟩:=Z;refine dm ?_;refine dx rfl rfl (dx rfl rfl (da (da (de Z2 (ws λ_ Z3=>ws λ_ Z4=>wr (dm ?_))))));refine dp (G1 rfl rfl) (de Z4 (wi (λc1=>?_) λc1=>?_))
 ·refine ws λ_ Z5=>wr (da (de Z5 (EH ?_)));refine ro ?_;exact⟨_,rfl,z,rfl,F,G,hA,r,ha,λk hk=>.inl (O k hk),HV Y z.size⟩
 exact absurd rfl c1
theorem X7v (H:Nat->Prop)(bl bd:Nat)(D:Dsk)(i:Int)(p:EC)(kk:Nat)(w:World)(h:Ks H bl bd D w)(his:lk D.fs Led.img=some ⟨EI (Led.ent i p),kk⟩)(hi0:0<=i)(hi1:i<=1099511627776)(hpl:p.length<=524288) :
  Calls Tryz.prog 116 [ED bl 0].toArray w (Fh H w (λu w'=>u=I 0/\LD (G2 H w w') bl bd ⟨i,p,[],false⟩ D w')):=by
 refine cw Tryz.func116 ?_;have r:=Vc.Mod.refl H w;obtain⟨F,G,hA,O,hc,Y,J⟩:=h;have h00:Ks H bl bd D w:=⟨F,G,hA,O,hc,Y,J⟩;have z:EL w bl [ED bd 0,S [115],I 0,.slice none 0 0,.slice none 0 0,B false] 147:=O.m;have hf:=O.lt;have h6:=O;have ha:=O.inG bl (.inl rfl);have hblt:=z.lt;have helen:=M3 i p;have hq:=W5 i p;have hp:=congrArg A7 hq;simp only [Ab]at hp;refine ws λ_ Z1=>wr (da (de Z1 (ws λ_ Z2=>?_)));refine F4 (R:=EB) EB.refl (λ_ _ _=>EB.trans) E9 [3] [(0,.p,false),(1,.p,false),(2,.p,false),(3,.l,false),(4,.p,false),(5,.x,false),(6,.x,true),(7,.p,false),(8,.p,false),(9,.p,false),(10,.p,false),(11,.p,false)] rfl E9 E9 (λw1 hr=>?_);have x1:=EJ hr;clear hr;have z:=z.ext x1;have O:=O.ext x1;have hA:=hA.ext x1;have r:=r.ext x1;refine dm ?_;refine dz rfl (df 0 rfl (dL rfl (λ_ hR=>((z.ext hR).at rfl)) (dm ?_)));refine cP (Gl G bl bd _ _ _ H0 _ O) RX.ext λw2 x2=>?_;have z:=z.ext x2;have O:=O.ext x2;have hA:=hA.ext x2;have r:=r.ext x2;refine cG (Ij F bd D Led.img _ hA EK) RX.all λu3 w3 x3 hw=>?_;have hsz3:=r.size;have z:=z.ext x3;have O:=O.ext x3;have hA:=hA.ext x3;have r:=r.ext x3;rw[SX his EA]at hw;obtain⟨vx,rfl,hV⟩:=hw;refine dm ?_;refine dx rfl rfl (dx rfl rfl (da (da (de Z2 (ws λ_ Z3=>ws λ_ Z4=>wr (dm ?_))))));refine dp (G1 rfl rfl) (de Z4 (wi (λc1=>?_) λc1=>?_))
 ·exact absurd c1 EQ
 refine EG (Z3 _ _ (ws λ_ Z5=>ws λ_ Z6=>wr (dm ?_)));refine dp (F8 rfl rfl) (de Z6 (wi (λc2=>?_) λc2=>?_))
 ·exact absurd rfl c2
 refine EG (Z5 _ _ (ws λ_ Z7=>wr (dm ?_)));refine cG (MM (Led.ent i p) vx _ (hV.arr EE) EA) RX.all λu4 w4 x4 xf=>?_;have hj:=r.size;have z:=z.ext x4;have O:=O.ext x4;have hA:=hA.ext x4;have r:=r.ext x4;obtain⟨br,bb,hz,rfl,xa,gbb,hR⟩:=xf;have hbrw:w.heap.size<=br:=Ae hj xa;rw[hq]at hR;refine da (de Z7 (ws λ_ Z8=>wr (dm (dm (dm ?_)))));refine cD (KW br bb hz _ false _ hR (by simp only [Ab];omega)) (.inl rfl) λu5 w5 x5 hy=>?_;have hsz5:=r.size;have z:=z.mod x5 (λZ=>by have h2:bl=br:=Z;omega);have O:=O.mod x5 (λk hk Z=>by have h2:k=br:=Z;have h8:=hf k hk;omega);have hA:=hA.mod x5 (λk hk Z=>by have h2:k=br:=Z;have h8:=J k (Y k (.inl hk));omega);have r:=r.own x5 (λi hi J=>absurd J (Bi.2 ((by have h2:i=br:=hi;omega))));obtain⟨hb,xe,hR⟩:=hy;rw[JK _ _ EA]at hb hR;dsimp only at hb hR;rw[show((i.toNat:Nat):Int)=i by omega]at hb;subst hb;refine dm ?_;refine cD (KI br bb xe _ false _ hR (by simp only [Ab];omega)) (.inl rfl) λvB w6 x6 xc=>?_;have ht:=r.size;have z:=z.mod x6 (λZ=>by have h2:bl=br:=Z;omega);have O:=O.mod x6 (λk hk Z=>by have h2:k=br:=Z;have h8:=hf k hk;omega);have hA:=hA.mod x6 (λk hk Z=>by have h2:k=br:=Z;have h8:=J k (Y k (.inl hk));omega);have r:=r.own x6 (λi hi J=>absurd J (Bi.2 ((by have h2:i=br:=hi;omega))));obtain⟨hh,h7,hR⟩:=xc;rw[K8 _ _ _ EA]at hh hR;dsimp only at hh hR;have hB:=hh.mono ht;refine dz rfl (df 2 rfl (G5 z (λw7 x7 xs7 z=>?_) (hv:=by rfl)));dsimp only [Fe,Ag,Af,Ai]at z;have hA:=hA.mod x7 (λk hk e=>by have h2:k=bl:=e;exact hc k hk (h2▸ha));have hR:=hR.mod x7 (λk hk e=>by have h2:k=bl:=e;rcases hk with Z|⟨Z,_⟩;omega;exact Z rfl);have hB:=hB.mod x7 (λk hk h=>by have h1:=(hB.lt k hk).1;have h2:k=bl:=h;omega);have r:=r.own x7 (λi hi _=>(by have e2:i=bl:=hi;rw[e2];exact Y bl (.inr ha)));refine dz rfl (df 3 rfl (G5 z (λw8 x8 xs8 z=>?_) (hv:=by exact FW.one hB.sl)));dsimp only [Fe,Ag,Af,Ai]at z;have hA:=hA.mod x8 (λk hk e=>by have h2:k=bl:=e;exact hc k hk (h2▸ha));have hR:=hR.mod x8 (λk hk e=>by have h2:k=bl:=e;rcases hk with Z|⟨Z,_⟩;omega;exact Z rfl);have hB:=hB.mod x8 (λk hk h=>by have h1:=(hB.lt k hk).1;have h2:k=bl:=h;omega);have r:=r.own x8 (λi hi _=>(by have e2:i=bl:=hi;rw[e2];exact Y bl (.inr ha)));refine de Z8 (ws λ_ Z9=>ws λ_ h5=>wr (dm ?_));refine cP (PQ br bb h7 [] false _ hR) RX.all λw9 x9=>?_;have z:=z.ext x9;have hA:=hA.ext x9;have hB:=hB.ext x9;have r:=r.ext x9;refine dn (dm ?_);refine I8 36 rfl (λc3=>?_) (λc3=>?_)
 ·simp at c3
 refine dm ?_;refine dz rfl (df 2 rfl (dl rfl (z.at rfl) (dp (FY rfl rfl) (EO (de h5 ?_)))));refine wi (λc4=>?_) λc4=>?_
 ·omega
 refine EG (Z9 _ _ (ws λ_ xb=>wr (da (de xb (EH ?_)))));refine ro ?_;have xd:=h6.image (i:=i) (p:=p) r.size z (hB.arr EE) (λhn=>(hB.base_ge hn).1) hi0 hi1 hpl;exact⟨_,rfl,r,rfl,F,G2 G w _,_,_,_,hA,xd,λk hk hg=>hg.elim (λh=>hc k hk h) (λh=>by have:=J k (Y k (.inl hk));omega),λk hk=>hk.elim (λh=>.inl (Y k (.inl h))) (λh=>h.elim (λh2=>.inl (Y k (.inr h2))) .inr),HV J r.size⟩
theorem X7w (H:Nat->Prop)(bl bd:Nat)(D:Dsk)(L:Led)(w:World)(h:LD H bl bd L D w)(hno:D.has Led.logn=false) :
  Calls Tryz.prog 117 [ED bl 0].toArray w (Fh H w (λu w'=>u=I 0/\LD (G2 H w w') bl bd L D w')):=by
 refine cw Tryz.func117 ?_;have z:=Vc.Mod.refl H w;obtain⟨F,G,vd,ve,vs,hA,r,Z,O,Y⟩:=h;have h00:LD H bl bd L D w:=⟨F,G,vd,ve,vs,hA,r,Z,O,Y⟩;have hl:=r.m;have hltG:=r.lt;have hltF:=hA.lt;refine ws λ_ Z1=>wr (da (de Z1 (ws λ_ Z2=>ws λ_ Z3=>?_)));refine F4 (R:=EB) EB.refl (λ_ _ _=>EB.trans) E9 [3] [(0,.p,false),(1,.p,false),(2,.p,false),(3,.l,false),(4,.p,false),(5,.x,false),(6,.x,true),(7,.p,false)] rfl E9 E9 (λw1 J=>?_);have x1:=EJ J;clear J;have hl:=hl.ext x1;have r:=r.ext x1;have hA:=hA.ext x1;have z:=z.ext x1;refine dm ?_;refine dz rfl (df 0 rfl (dL rfl (λ_ hR=>((hl.ext hR).at rfl)) (dm ?_)));refine cP (FN G bl bd _ _ _ L _ r) RX.ext λw2 x2=>?_;have r:=r.ext x2;have hA:=hA.ext x2;have z:=z.ext x2;refine cP (I7 F bd D Led.logn _ hA) RX.all λw3 x3=>?_;have r:=r.ext x3;have hA:=hA.ext x3;have z:=z.ext x3;refine dn (de Z3 ?_);refine wc (λc1=>?_) λc1=>?_
 ·refine ws λ_ Z4=>wr (da (de Z4 (EH ?_)));refine ro ?_;exact⟨_,rfl,z,rfl,F,G,_,_,_,hA,r,Z,λk hk=>.inl (O k hk),HV Y z.size⟩
 rw[hno]at c1;cases c1
theorem X7x (H:Nat->Prop)(bl bd:Nat)(D:Dsk)(i:Int)(p:EC)(ents:List EC)(kk:Nat)(w:World)(h:LD H bl bd ⟨i,p,[],false⟩ D w)(his:lk D.fs Led.logn=some ⟨HD i ents,kk⟩)(hne:ents≠[])(hel:∀e∈ents,e.length<=65536)(hla:i+ents.length<=1099511627776)(hec:ents.length<=1000000) :
  Calls Tryz.prog 117 [ED bl 0].toArray w (Fh H w (λu w'=>u=I 0/\LD (G2 H w w') bl bd ⟨i,p,ents,false⟩ D w')):=by
 refine cw Tryz.func117 ?_;have Z:=Vc.Mod.refl H w;obtain⟨F,G,vd,ve,vs,hA,r,xi,xb,xp⟩:=h;have h00:LD H bl bd ⟨i,p,[],false⟩ D w:=⟨F,G,vd,ve,vs,hA,r,xi,xb,xp⟩;have hl:=r.m;have hc:=r.lt;have ht:=hA.lt;have yx:=Xy3 ents i;have xd:D.has Led.logn=true:=by unfold Dsk.has;rw[his];rfl
 have yf:D.readE Led.logn=0:=by unfold Dsk.readE;rw[xd];rfl
 have xo:D.readB Led.logn=(ents.zipIdx.map λq:EC×Nat=>Led.ent (i+1+q.2) q.1).flatMap EI:=by unfold Dsk.readB Dsk.read;rw[his];exact yx
 have xg:=Tk hA.wf Led.logn;rw[xo]at xg;have xf:(ents.zipIdx.map λq:EC×Nat=>Led.ent (i+1+q.2) q.1).length=ents.length:=by rw[An,List.length_zipIdx]
 have hblG:=r.inG bl (.inl rfl);have xr:=r.b0;have xr:0<=i:=xr;refine ws λ_ Z1=>wr (da (de Z1 (ws λ_ Z2=>ws λ_ Z3=>?_)));refine F4 (R:=EB) EB.refl (λ_ _ _=>EB.trans) E9 [3] [(0,.p,false),(1,.p,false),(2,.p,false),(3,.l,false),(4,.p,false),(5,.x,false),(6,.x,true),(7,.p,false)] rfl E9 E9 (λw1 xm=>?_);have x1:=EJ xm;clear xm;have hl:=hl.ext x1;have r:=r.ext x1;have hA:=hA.ext x1;have Z:=Z.ext x1;refine dm ?_;refine dz rfl (df 0 rfl (dL rfl (λ_ hR=>((hl.ext hR).at rfl)) (dm ?_)));refine cP (FN G bl bd _ _ _ _ _ r) RX.ext λw2 x2=>?_;have hl:=hl.ext x2;have r:=r.ext x2;have hA:=hA.ext x2;have Z:=Z.ext x2;refine cP (I7 F bd D Led.logn _ hA) RX.all λw3 x3=>?_;have hl:=hl.ext x3;have r:=r.ext x3;have hA:=hA.ext x3;have Z:=Z.ext x3;refine dn (de Z3 ?_);refine wc (λc1=>?_) λc1=>?_
 ·exact absurd c1 (by simp [xd])
 refine EG (Z2 _ _ (ws λ_ Z4=>F4 (R:=EB) EB.refl (λ_ _ _=>EB.trans) E9 [3] [(0,.p,false),(1,.p,false),(2,.p,false),(3,.l,false),(4,.p,false),(5,.x,false),(6,.x,true),(7,.p,false),(8,.p,false),(9,.p,false),(10,.p,false),(11,.p,false)] rfl E9 E9 (λw4 xy=>?_)));have x4:=EJ xy;clear xy;have hl:=hl.ext x4;have r:=r.ext x4;have hA:=hA.ext x4;have Z:=Z.ext x4;refine dm ?_;refine dz rfl (df 0 rfl (dL rfl (λ_ hR=>((hl.ext hR).at rfl)) (dm ?_)));refine cP (FN G bl bd _ _ _ _ _ r) RX.ext λw5 x5=>?_;have hl:=hl.ext x5;have r:=r.ext x5;have hA:=hA.ext x5;have Z:=Z.ext x5;refine cG (Ih F bd D Led.logn _ hA EK) RX.all λu6 w6 x6 y0=>?_;have xq:=Z.size;have hl:=hl.ext x6;have r:=r.ext x6;have hA:=hA.ext x6;have Z:=Z.ext x6;obtain⟨vV,rfl,xx⟩:=y0;rw[xo]at xx;have hV:=xx.mono xq;refine dm ?_;refine dx rfl rfl (dx rfl rfl (da (da (de Z4 (ws λ_ Z5=>ws λ_ Z6=>wr (dm ?_))))));refine dp (F8 rfl rfl) (de Z6 (wi (λc2=>?_) λc2=>?_))
 ·exact absurd yf c2
 refine EG (Z5 _ _ (ws λ_ Z7=>wr (dm ?_)));refine cG (X5q (ents.zipIdx.map λq:EC×Nat=>Led.ent (i+1+q.2) q.1) vV _ (hV.arr EE) (λz hz=>by obtain⟨q,hq,rfl⟩:=Ar.1 hz;have h8:=M3 (i+1+q.2) q.1;have O:=hel q.1 (by obtain⟨j,J⟩:=AJ hq;rw[KS]at J;obtain⟨y,hy,e⟩:=Option.map_eq_some_iff.1 J;rw[<-e];exact Ak hy);omega) xg (by rw[xf];exact hec)) RX.all λu7 w7 x7 ye=>?_;have xe:=Z.size;have hl:=hl.ext x7;have r:=r.ext x7;have hA:=hA.ext x7;have hV:=hV.ext x7;have Z:=Z.ext x7;obtain⟨vr,qs,rfl,xn,xv,ym⟩:=ye;have Y:=xv.mono xe;have hQ:RsE w.heap.size qs w7:=⟨λq hq=>(ym.row q hq).mono xe⟩;have xw:=hQ.lt;have y2:=congrArg A7 xn;rw[An,xf]at y2;refine dm ?_;refine dx rfl rfl (dx rfl rfl (da (da (de Z7 (ws λ_ Z8=>wr (dm ?_))))));refine db (zs:=[.pointer none,.int .i64 0]) (pl:=[(0,1),(1,1)]) (pv:=[(0,_),(1,_)]) (cs:=[_,_]) ?_;refine Gc rfl rfl rfl RX.all (λb1 w8 e1 x8 m1=>?_);have g1:=Z.ge e1;have a1_hl:=hl.lt;have a1_hE:=r.lt;have a1_hA:=hA.lt;have xj:=hV.ltb e1;have hw:=Y.ltb e1;have hl:=hl.ext x8;have r:=r.ext x8;have hA:=hA.ext x8;have hV:=hV.ext x8;have Y:=Y.ext x8;have hQ:=hQ.ext x8;have Z:=Z.ext x8;refine dp (Mv rfl) ?_;obtain⟨N1,hN1⟩:∃z,z=w8.heap.size:=⟨_,rfl⟩;have hr:Sz N1 w8:=⟨Cd hN1⟩;have hwN:w.heap.size<=N1:=by rw[hN1];exact Z.size
 have xl:=hw;have xu:=xj;have xz:∀z∈qs,∀j,z.1.ownBlock=some j->j<b1:=λz hz j J=>by have h8:=(xw z hz j J).2;omega
 have hh:EL w8 b1 [ED bl 0,I (if(0:Nat)=0 then -1 else i+((0:Nat):Int))] 270:=m1;have xk:¬ G b1:=λh9=>by have h8:=hc b1 h9;omega
 have hb1N:b1<N1:=by have:=m1.lt;omega
 refine da (de Z8 (ws λ_ Z9=>ws λ_ yj=>wr (dm ?_)));refine dv 82 1 (Y.arr EE).sl (dm (de yj (EN ?_)));refine Fk (G:=Nat×(Nat->Prop)×Value×List (Value×EC)) (λ(k,Gk,hp,ha)=>[(0,ED bl 0),(3,vV),(6,I ↑((ents.zipIdx.map λq:EC×Nat=>Led.ent (i+1+q.2) q.1).flatMap EI).length),(7,G6 192 [ED b1 0]),(42,vr),(43,I ↑qs.length),(44,I ↑k)]) (λ(k,Gk,hp,ha) w'=>Mod H w w'/\k<=ents.length/\FV F bd D w'/\LedE Gk bl bd vd hp ha ⟨i,p,ents.take k,false⟩ w'/\EL w' b1 [ED bl 0,I (if k=0 then -1 else i+↑k)] 270/\(∀j,Gk j->G j\/N1<=j)/\¬ Gk b1/\Vc.Own Lu 1 82 w.heap.size w' vr qs/\RsE w.heap.size qs w'/\Sz N1 w'/\Vc.Own EP 1 5 w.heap.size w' vV ((ents.zipIdx.map λq:EC×Nat=>Led.ent (i+1+q.2) q.1).flatMap EI)) (λ(k,Gk,hp,ha)=>ents.length-k) (0,G,ve,vs) ?_ ?_ ?_
 ·exact FQ
 ·exact⟨Z,Ad _,hA,r,hh,λj J=>.inl J,xk,Y,hQ,hr,hV⟩
 intro X9 g9 w9 yw;obtain⟨k,Gk,hp,ha⟩:=g9;clear Z hl r hA hV Y hQ m1;obtain⟨Z,hk1,hA,r,hh,hb,xt,Y,hQ,hr,hV⟩:=yw;refine ws λ_ yl=>wr (dp (Fa rfl rfl) (de yl (ws λ_ yc=>wi (λc3=>?_) λc3=>?_)))
 ·obtain⟨e9,hk⟩:∃e9,ents[k]?=some e9:=Fq;obtain⟨q,hkq⟩:∃q,qs[k]?=some q:=Fq;have yz:=hel e9 (Ak hk);have xa:Led.last ⟨i,p,ents.take k,false⟩=i+↑k:=by unfold Led.last;simp only [A4];omega
  have yv:q.2=Led.ent (Led.last ⟨i,p,ents.take k,false⟩+1) e9:=by
   have h9:=congrArg (λz=>z[k]?) xn;simp only [List.getElem?_map,KS,hkq,hk,Option.map_some]at h9;rw[xa,A3.inj h9,show i+1+(k:Int)=i+k+1 by omega]
  have yt:EM EP 1 _ q.1 (Led.ent (Led.last ⟨i,p,ents.take k,false⟩+1) e9):=yv▸(hQ.row q (Ak hkq)).arr EE;have x0:(if k=0 then -1 else i+(k:Int))=-1\/(if k=0 then -1 else i+(k:Int))=Led.last ⟨i,p,ents.take k,false⟩:=by rw[xa];split<;>simp
  have yi:=λj (J:vr.ownBlock=some j)=>xl j J;have yo:=λz (hz:z∈qs) j (J:z.1.ownBlock=some j)=>xz z hz j J;refine EG (yc _ _ (ws λ_ yu=>EN (ws λ_ yd=>wr (di 82 1 (Y.arr EE).sl rfl ((Y.arr EE).lt hkq) (dl rfl (((Y.arr EE).row hkq).at0 rfl) (da (de yd (ws λ_ yn=>wr (dm (dm ?_))))))))));have hwn9:=Z.size;have xc:=hr.le;refine Q3 (vs:=[q.1]) rfl rfl E9 rfl (X5v Gk b1 bl bd vd hp ha ⟨i,p,ents.take k,false⟩ _ e9 q.1 _ r hh xt yt yz (by rw[xa];omega) rfl x0) (λy9 yb yh=>?_);obtain⟨u9,rfl,hf,rfl,hh,yy,x9,xh⟩:=yh;refine⟨_,rfl,(λe=>by cases e),?_⟩;have Y:=Y.mod hf (λj J e=>by have h8:=yi j J;rcases e with e|e;have O:j=b1:=e;omega;have O:=hb j e;rcases O with O|O;have h6:=hc j O;have h5:=(Y.lt j J).1;omega;omega);have hV:=hV.mod hf (λj J e=>by have h8:=xu j J;rcases e with e|e;have O:j=b1:=e;omega;have O:=hb j e;rcases O with O|O;have h6:=hc j O;have h5:=(hV.lt j J).1;omega;omega);have hQ:=hQ.mod hf (λz hz j J e=>by have h8:=yo z hz j J;rcases e with e|e;have O:j=b1:=e;omega;have O:=hb j e;rcases O with O|O;have h6:=hc j O;have h5:=(hQ.lt z hz j J).1;omega;omega);have hA:=hA.mod hf (λj J e=>by rcases e with e|e;have O:j=b1:=e;have h6:=ht j J;omega;have O:=hb j e;rcases O with O|O;exact xi j J O;have h6:=ht j J;omega);have Z:=Z.own hf (λj J hlt9=>by rcases J with e|e;have O:j=b1:=e;omega;have O:=hb j e;rcases O with O|O;exact xb j (.inr O);omega);have hr:Sz N1 yb:=⟨Ae xc hf.size⟩;refine dn (de yn ?_);refine wc (λc4=>?_) λc4=>?_
  ·simp at c4
  refine EG (yu _ _ (wr (pa rfl rfl (dm (EF (?_))))));dsimp only at xh;rw[<-Gs hk]at xh;rw[xa,show i+(k:Int)+1=(if k+1=0 then -1 else i+((k+1:Nat):Int)) by rw[if_neg EA];omega]at hh;exact⟨(k+1,_,yy,x9),FQ,⟨Z,by omega,hA,xh,hh,λj J=>J.elim (hb j) (λh9=>.inr (Ae xc h9.1)),λh9=>h9.elim xt (λh8=>by omega),Y,hQ,hr,hV⟩,by simp only [];omega⟩
 have yk:k=ents.length:=by omega
 subst yk;rw[AK]at r;have ya:=r.len;have hl:=r.m;refine Ff (Z9 _ _ (ws λ_ yg=>ws λ_ yp=>wr (dm (dm ?_))));refine dv 5 1 (hV.arr EE).sl (dp (Fa rfl rfl) (de yp (wi (λc5=>?_) λc5=>?_)))
 ·omega
 refine EG (yg _ _ (ws λ_ y1=>ws λ_ yr=>wr (dm ?_)));refine dz rfl (df 4 rfl (dl rfl (hl.at rfl) (dv 82 1 r.earr.sl (dp (G1 rfl rfl) (de yr (wi (λc6=>?_) λc6=>?_))))))
 ·have h9:ha.length=ents.length:=ya;have h8:(ha.map (·.1)).length=ha.length:=An _;exact absurd (List.eq_nil_of_length_eq_zero EA) hne
 refine EG (y1 _ _ (ws λ_ yq=>wr (da (de yq (EH ?_)))));refine ro ?_;exact⟨_,rfl,Z,rfl,F,Gk,_,_,_,hA,r,λj J hg=>(hb j hg).elim (λh=>xi j J h) (λh=>by have:=ht j J;omega),λj J=>J.elim (λh=>.inl (xb j (.inl h))) (λh=>(hb j h).elim (λh2=>.inl (xb j (.inr h2))) (λh2=>.inr ⟨by omega,r.lt j h⟩)),HV xp Z.size⟩
def Nb : Nat->(Nat->Prop)->Nat->Nat->Led->Dsk->World->Prop
 | 0,H,bl,bd,_,D,w=>Ks H bl bd D w
 | 1,H,bl,bd,_,D,w=>Ks H bl bd D w
 | 2,H,bl,bd,L,D,w=>LD H bl bd ⟨L.base,L.data,[],false⟩ D w
 | _+3,H,bl,bd,L,D,w=>LD H bl bd L D w
theorem Nb.lt : ∀ {k:Nat} {H:Nat->Prop} {bl bd:Nat} {L:Led} {D:Dsk} {w:World},Nb k H bl bd L D w->∀j,H j->j<w.heap.size
 | 0,_,_,_,_,_,_,h=>by obtain⟨_,_,_,_,_,_,r⟩:=h;exact r
 | 1,_,_,_,_,_,_,h=>by obtain⟨_,_,_,_,_,_,r⟩:=h;exact r
 | 2,_,_,_,_,_,_,h=>LD.lt h
 | _+3,_,_,_,_,_,_,h=>LD.lt h
structure LedF (L:Led)(D:Dsk):Prop where
 no:D.has (Led.img++[126])=false
 im:ImgF D L.base L.data
 lo:(lk D.fs Led.logn=none/\L.ents=[])\/(L.ents≠[]/\∃k,lk D.fs Led.logn=some ⟨HD L.base L.ents,k⟩)
 dd:L.dead=false
 b0:0<=L.base
 la:L.last<=1099511627776
 dl:L.data.length<=524288
 el:∀e∈L.ents,e.length<=65536
 ec:L.ents.length<=1000000
theorem LedE.fresh {bl bd:Nat}{w:World}(m:EL w bl [ED bd 0,S [115],I 0,.slice none 0 0,.slice none 0 0,B false] 147):LedE (λj=>j=bl) bl bd (.slice none 0 0) (.slice none 0 0) [] H0 w:=by
 have no:∀k,KD (.slice none 0 0) [] H0.data k->False:=λk hk=>by
  rcases hk with⟨h,_⟩|⟨q,r,_⟩
  ·exact h rfl
  ·cases r
 refine⟨m,EM.nil,Vc.Own.nil,rfl,λq r=>(by cases r),λk hk=>?_,λk hk=>(no k hk).elim,λk hk=>?_,by decide,by decide,by decide,λp z=>(by cases z),by decide⟩
 ·rcases hk with h|h|h
  ·exact h
  ·cases h
  ·exact(no k h).elim
 ·rw[show k=bl from hk];exact m.lt
theorem X7y {L:Led}{D:Dsk}(bl bd:Nat)(hf:LedF L D):∀k,k<3->∃f,[G6 115 [ED bl 0],G6 116 [ED bl 0],G6 117 [ED bl 0]][k]?=some (G6 f [ED bl 0])/\GL Tryz.prog f=true/\
  ∀H r,Nb k H bl bd L D r->Calls Tryz.prog f ([ED bl 0]++[]).toArray r (Fh H r (λu w'=>u=I 0/\Nb (k+1) (G2 H r w') bl bd L D w')):=by
 intro k hk
 match k,hk with
 | 0,_=>exact⟨_,rfl,by kernel_rfl,λH r h=>Ya2 H bl bd D r h hf.no⟩
 | 1,_=>
  refine⟨_,rfl,by kernel_rfl,λH r h=>?_⟩;have J:=hf.la;have z:L.base<=1099511627776:=by unfold Led.last at J;omega
  rcases hf.im with⟨h1,h2,h3⟩|⟨kk,h1⟩
  ·refine(X7u H bl bd D r h h1).mono ?_;rintro e w' ⟨v,he,hx,hu,hs⟩;refine⟨v,he,hx,hu,?_⟩;show LD _ bl bd ⟨L.base,L.data,[],false⟩ D w';rw[h2,h3];exact hs.at
  ·exact X7v H bl bd D L.base L.data kk r h h1 hf.b0 z hf.dl
 | 2,_=>
  refine⟨_,rfl,by kernel_rfl,λH r h=>?_⟩;have e:L=⟨L.base,L.data,L.ents,false⟩:=by rw[<-hf.dd]
  rcases hf.lo with⟨h1,h2⟩|⟨h1,kk,h2⟩
  ·refine(X7w H bl bd D ⟨L.base,L.data,[],false⟩ r h (by unfold Dsk.has;rw[h1];rfl)).mono ?_;rintro e9 w' ⟨v,he,hx,hu,hs⟩;refine⟨v,he,hx,hu,?_⟩;show LD _ bl bd L D w';rw[e,h2];exact hs
  ·refine(X7x H bl bd D L.base L.data L.ents kk r h h2 h1 hf.el hf.la hf.ec).mono ?_;rintro e9 w' ⟨v,he,hx,hu,hs⟩;refine⟨v,he,hx,hu,?_⟩;show LD _ bl bd L D w';rw[e];exact hs
theorem X7z (F:Nat->Prop)(bd:Nat)(D:Dsk)(L:Led)(w:World)(h:FV F bd D w)(hf:LedF L D) :
  Calls Tryz.prog 59 [ED bd 0,S [115]].toArray w (Fh F w (λu w'=>∃bl,u=.tuple #[ED bl 0,I 0]/\w.heap.size<=bl/\LD (G2 F w w') bl bd L D w')):=by
 refine cw Tryz.func59 ?_;have J:=Vc.Mod.refl F w;have hA:=h;have O:=h.lt;refine ws λ_ Z1=>wr (da (da (de Z1 (ws λ_ Z2=>ws λ_ Z3=>wr (dm ?_)))));refine dp (Gj E9 rfl rfl) (dm ?_);refine Fz 12 rfl (λc1=>?_) (λc1=>?_)
 ·exact absurd c1 EQ
 refine dm ?_;refine dt rfl (dp (Fa rfl rfl) (EO ?_));refine dm ?_;refine Fz 17 rfl (λc2=>?_) (λc2=>?_)
 ·exact absurd c2 EK
 refine dm ?_;refine dt rfl (dp (FY rfl rfl) (EO (de Z3 ?_)));refine wi (λc3=>?_) λc3=>?_
 ·exact absurd c3 EK
 refine EG (Z2 _ _ (ws λ_ Z4=>wr (dm (dm ?_))));refine db (zs:=[.pointer none,S [],.int .i64 0,.slice none 0 0,.slice none 0 0,B false]) (pl:=[(0,1),(1,1),(2,1),(3,1),(4,1),(5,1)]) (pv:=[(0,_),(1,_)]) (cs:=[_,_,.int .i64 0,.slice none 0 0,.slice none 0 0,B false]) ?_;refine Gc rfl rfl rfl RX.all (λb1 w1 e1 x1 m1=>?_);have g1:=J.ge e1;have a1_hA:=hA.lt;have hA:=hA.ext x1;have J:=J.ext x1;refine da (de Z4 (ws λ_ Z5=>ws λ_ Z6=>wr (dm ?_)));refine dp (Mv rfl) (dm ?_);refine dp (Mv rfl) (dm ?_);refine dp (Mv rfl) (li (e:=81) (sz:=1) (zs:=[.nilFunc]) (pv:=[(0,_),(1,_),(2,_)]) (cs:=[_,_,_]) RX.all (λb2 w2 e2 x2 m2=>?_));have g2:=J.ge e2;have n2_1:=m1.ltb e2;have a2_hA:=hA.lt;have hA:=hA.ext x2;have m1:=m1.ext x2;have J:=J.ext x2;refine dv 81 1 (m2.arr (enc:=λg:Value=>[g]) (sz:=1) (l:=[G6 115 [ED b1 0],G6 116 [ED b1 0],G6 117 [ED b1 0]]) rfl EE rfl EQ).sl (dm ?_);obtain⟨N1,hN1⟩:∃z,z=w2.heap.size:=⟨_,rfl⟩;have ha:Sz N1 w2:=⟨Cd hN1⟩;have hwN:w.heap.size<=N1:=by rw[hN1];exact J.size
 have hb2N:b2<N1:=by have:=m2.lt;omega
 have h5:Nb 0 (λj=>F j\/j=b1) b1 bd L D w2:=⟨F,λj=>j=b1,hA,LedE.fresh m1,λj r e=>by have h6:=O j r;omega,λj r=>r,λj r=>r.elim (λh9=>by have h6:=O j h9;omega) (λh9=>by rw[h9];exact m1.lt)⟩;refine de Z6 (EN ?_);refine Fk (G:=Nat×(Nat->Prop)) (λ(k,Hk)=>[(6,ED b1 0),(32,.slice (some ⟨b2,0,none⟩) 3 3),(33,I 3),(34,I ↑k)]) (λ(k,Hk) w'=>Mod F w w'/\k<=3/\Nb k Hk b1 bd L D w'/\(∀j,Hk j->F j\/j=b1\/N1<=j)/\EL w' b2 [G6 115 [ED b1 0],G6 116 [ED b1 0],G6 117 [ED b1 0]] 81/\Sz N1 w') (λ(k,Hk)=>3-k) (0,λj=>F j\/j=b1) ?_ ?_ ?_
 ·exact FU
 ·exact⟨J,Ad _,h5,λj r=>r.elim .inl (λh9=>.inr (.inl h9)),m2,ha⟩
 intro X3 g3 w3 hp;obtain⟨k,Hk⟩:=g3;clear J hA m1 m2;obtain⟨J,hk1,Z,hb,m2,ha⟩:=hp;refine ws λ_ Z7=>wr (dp (Fa rfl rfl) (de Z7 (ws λ_ Z8=>wi (λc4=>?_) λc4=>?_)))
 ·obtain⟨f,hk,hy,hg⟩:=X7y b1 bd hf k EA;refine EG (Z8 _ _ (ws λ_ Z9=>EN (ws λ_ ht=>wr (di 81 1 (m2.arr (enc:=λg:Value=>[g]) (sz:=1) (l:=[G6 115 [ED b1 0],G6 116 [ED b1 0],G6 117 [ED b1 0]]) rfl EE rfl EQ).sl rfl ((m2.arr (enc:=λg:Value=>[g]) (sz:=1) (l:=[G6 115 [ED b1 0],G6 116 [ED b1 0],G6 117 [ED b1 0]]) rfl EE rfl EQ).lt hk) (dl rfl (((m2.arr (enc:=λg:Value=>[g]) (sz:=1) (l:=[G6 115 [ED b1 0],G6 116 [ED b1 0],G6 117 [ED b1 0]]) rfl EE rfl EQ).row hk).at0 rfl) (da (de ht ?_)))))));refine ws λ_ hq=>wr (dm ?_);have hlt9:=Z.lt;have hc:=ha.le;refine Q3 (vs:=[]) rfl rfl hy rfl (hg _ _ Z) (λy9 w4 hz=>?_);obtain⟨u9,rfl,x4,rfl,hh⟩:=hz;refine⟨_,rfl,(λe=>by cases e),?_⟩;have m2:=m2.mod x4 (λe=>by have Y:=hb b2 e;rcases Y with Y|Y|Y;have h6:=O b2 Y;omega;omega;omega);have J:=J.own x4 (λj r hlt8=>by rcases hb j r with Y|Y|Y;exact Y;omega;omega);have ha:Sz N1 w4:=⟨Ae hc x4.size⟩;refine da (de hq (ws λ_ hl=>wr (dm ?_)));refine dp (F8 rfl rfl) (de hl (wi (λc5=>?_) λc5=>?_))
  ·exact absurd rfl c5
  refine EG (Z9 _ _ (wr (pa rfl rfl (dm (EF (?_))))));exact⟨(k+1,_),FU,⟨J,by omega,hh,λj r=>r.elim (hb j) (λh9=>.inr (.inr (Ae hc h9.1))),m2,ha⟩,by simp only [];omega⟩
 refine Ff (Z5 _ _ (ws λ_ hw=>wr (dm (da (da (de hw (EH ?_)))))));refine rt ?_;have hr:k=3:=by omega
 subst hr;exact⟨_,rfl,J,b1,rfl,g1,LD.wide (H:=Hk) Z (λj r=>by rcases hb j r with Y|Y|Y;exact .inl Y;exact .inr ⟨by omega,LD.lt Z j r⟩;exact .inr ⟨by omega,LD.lt Z j r⟩) (HV O J.size)⟩
theorem X70 (r:Rw)(x:EC):G7 r++x=Fp r.key++(EV (Kc r.del)++((if r.del then[]else Fp r.val)++x)):=by
 unfold G7 Kc
 cases r.del<;>simp [AA]
theorem Ii {l:List Rw}{r:Rw}{k:Nat}(h:l[k]?=some r):((l.drop k).flatMap G7)=Fp r.key++(EV (Kc r.del)++((if r.del then[]else Fp r.val)++(l.drop (k+1)).flatMap G7)):=by
 rw[HY h,AD,X70]
theorem X1q (l:List Rw)(v:Value)(w:World)(hv:EM EP 1 w v (FF l))(hc:Ia l=0) :
  Calls Tryz.prog 128 [v].toArray w (ER w (λu w'=>∃vl,u=.tuple #[vl,I 0]/\Vc.Own Rw.cs 3 48 w.heap.size w' vl l)):=by
 refine cw Tryz.func128 ?_;have J:=EB.refl w;obtain⟨hl1,hl2,hz,xq⟩:=LI hc;have hbl:=Ns l;have hnl:=Gd l.length;have hbb:(FF l).length<=65536:=by unfold FF;rw[Ab];omega
 have hf:FF l≠[]:=λe=>by
  have Z:=congrArg A7 e;have h8:1<=(EV l.length).length:=Nx 9 _;unfold FF at Z;rw[Ab,Bc]at Z;omega
 refine ws λ_ Z1=>wr (da (da (de Z1 (ws λ_ Z2=>wr (dm ?_)))));refine cG (MM (FF l) v _ (hv.ext J) EA) RX.all λu1 w1 x1 ya=>?_;have xf:=J.size;have J:=J.trans x1;obtain⟨br,bb,yh,rfl,yl,gbb,z⟩:=ya;have hbr:w.heap.size<=br:=Ae xf yl;have ha:=z.lt;have hbrw:br<w1.heap.size:=ha br (.inl rfl);have xh:=Ae xf x1.size;have O:Sz w1.heap.size w1:=⟨Aa _⟩;unfold FF at z;refine da (de Z2 (ws λ_ Z3=>wr (da (de Z3 (ws λ_ Z4=>ws λ_ Z5=>wr (dm ?_))))));refine cD (KW br bb yh _ false _ z (by rw[Ab];omega)) (.inl rfl) λu2 w2 x2 yo=>?_;have hsz2:=J.size;have O:=O.mod x2 trivial;have J:=J.own x2 (λi hi=>(by have h2:i=br:=hi;omega));obtain⟨Y,yn,z⟩:=yo;rw[JK _ _ EA]at Y z;dsimp only at Y z;subst Y;refine da (de Z5 (EN ?_));refine Fk (G:=Nat×Value×Value) (λ(k,vc,vl)=>[(0,v),(2,.slice none 0 0),(3,I 0),(4,ED br 0),(5,vl),(6,I ↑l.length)]) (λ(k,vc,vl) w'=>EB w w'/\k<=l.length/\Rd br bb vc ((l.drop k).flatMap G7) false w'/\Vc.Own Rw.cs 3 48 w1.heap.size w' vl (l.take k)/\Sz w1.heap.size w') (λ(k,vc,vl)=>l.length-k) (0,yn,.slice none 0 0) ?_ ?_ ?_
 ·exact FSq
 ·exact⟨J,Ad _,z,Vc.Own.nil,O⟩
 intro X3 g3 w3 xz;obtain⟨k,vc,vl⟩:=g3;clear J O z;obtain⟨J,hk1,z,ho,O⟩:=xz;refine ws λ_ Z6=>ws λ_ Z7=>wr (dm ?_);refine dv 48 3 (ho.arr EE).sl (dm ?_);refine dp (Fa rfl rfl) (dm ?_);refine Fz 18 rfl (λc1=>?_) (λc1=>?_)
 ·have hkl:k<l.length:=by rw[A4]at c1;omega
  obtain⟨r,hk⟩:∃r,l[k]?=some r:=Fq;have x0:=Np (xq r (Ak hk));have xj:=Ii hk;have hll:=RJ G7 l k;have yi:=congrArg A7 xj;simp only [Ab]at yi;have hgn:=Rc r.del;refine dm ?_;refine cP (P7 br bb vc _ false _ z) RX.all λw4 x4=>?_;have z:=z.ext x4;have ho:=ho.ext x4;have O:=O.ext x4;have J:=J.trans x4;refine EO (de Z7 ?_);refine wc (λc2=>?_) λc2=>?_
  ·refine EG (Z6 _ _ (EN ?_));refine Hz (G:=Nat×Value) (λ(bx,hb)=>[(0,v),(2,.slice none 0 0),(3,I 0),(4,ED br 0),(5,vl),(6,I ↑l.length),(7,ED bx 0)]) (λ(bx,hb) w'=>EB w w'/\w1.heap.size<=bx/\(∀k,vl.ownBlock=some k->k≠bx)/\Rd br bb hb ((if r.del then[]else Fp r.val)++(l.drop (k+1)).flatMap G7) false w'/\Vc.Own Rw.cs 3 48 w1.heap.size w' vl (l.take k)/\Sz w1.heap.size w'/\EL w' bx [S r.key,S [],B r.del] 48) ?_ ?_
   ·refine L0 (R:=Mod (ES br)) J0 JY E9 [2] (.one 0 .p false (.one 3 .p false (.fork (.alt 1 true (.one 2 .l false (.fork (.alt 4 false (.one 5 .p false (.one 6 .p false (.one 7 .x false (.one 8 .x true .nil)))) (.alt 7 false (.one 4 .x false (.one 5 .p false (.one 6 .p false (.one 8 .x true .nil)))) .stop)))) (.alt 7 true (.one 1 .x true (.one 2 .l false (.one 4 .x false (.one 5 .p false (.one 6 .p false (.one 8 .x true .nil)))))) .stop))))) E9 E9 (λw5 xp=>?_);have x5:=EJ xp;clear xp;have z:=z.ext x5;have ho:=ho.ext x5;have O:=O.ext x5;have J:=J.trans x5;refine EY (dm (EF ?_));refine EY (dm (EF ?_));refine JE ?_;refine H6 ?_ ?_
    ·rw[xj]at z;refine cD (KI br bb vc _ false _ z (by simp only [Ab];omega)) (.inl rfl) λu6 w6 x6 ym=>?_;have hsz6:=J.size;have ho:=ho.mod x6 (λk9 Z e=>ho.ne_blk z.m rfl (by rw[Z];exact congrArg some e));have O:=O.mod x6 trivial;have J:=J.own x6 (λi hi=>(by have h2:i=br:=hi;omega));obtain⟨hB,hy,z⟩:=ym;rw[K8 _ _ _ EA]at hB z;dsimp only at hB z;have hq:∀k,Value.ownBlock _=some k->¬ ES br k:=λk9 Z e=>hB.ne_blk z.m rfl (by rw[Z];exact congrArg some e);refine EF (EY (FK rfl (λw' z=>L5 E9 E9 ((hB.mod z hq).arr EE) rfl) (EF (JE ?_))));refine H6 ?_ ?_
     ·refine JT rfl E9 (KW br bb hy _ false _ z (by simp only [Ab];omega)) rfl (.inr λ_ h=>h) (λu7 w7 x7 x3=>?_);have hsz7:=J.size;have ho:=ho.mod x7 (λk9 Z e=>ho.ne_blk z.m rfl (by rw[Z];exact congrArg some e));have O:=O.mod x7 trivial;have J:=J.own x7 (λi hi=>(by have h2:i=br:=hi;omega));obtain⟨Y,hb,z⟩:=x3;rw[JK _ _ EA]at Y z;dsimp only at Y z;subst Y;refine EF (EY (EW (v:=B r.del) rfl (F8 rfl rfl) (by show B _=B _;congr 1;exact OG _) (EF (EY (db (zs:=[S [],S [],B false]) (pl:=[(0,1),(1,1),(2,1)]) (pv:=[(0,_),(2,_)]) (cs:=[_,S [],_]) (EF ?_))))));refine EY (FG (cs:=[S [],S [],B false]) rfl E9 RX.mod (λb1 w8 e1 x8 m1=>?_));have g1:=J.ge e1;have hh:=ho.ltb e1;have a1_hS:=O.le;have a1_hR:=z.lt;have ho:=ho.ext x8;have O:=O.ext x8;have z:=z.ext x8;have J:=J.trans x8;refine EF (EY (FM m1 (λw9 x9 xs9 m1=>?_)));dsimp only [Fe,Ag,Af,Ai]at m1;have ho:=ho.mod x9 (λk hk e=>by have h2:k=b1:=e;have h8:=hh k hk;omega);have O:=O.mod x9 trivial;have z:=z.mod x9 (λk hk e=>by have h2:k=b1:=e;have h8:=ha k (HW (λ_=>hf) hk);omega);have J:=J.o1 x9;refine EF (Im ?_);exact⟨(b1,hb),FQ,J,EA,(by intro k hk e;have h8:=hh k hk;omega),z,ho,O,m1⟩
     refine H6 ?_ ?_
     ·refine FG (cs:=[S [],S [],B false]) rfl E9 RX.mod (λb2 w10 e2 hp m2=>?_);have g2:=J.ge e2;have hl:=ho.ltb e2;have a2_hS:=O.le;have a2_hR:=z.lt;have ho:=ho.ext hp;have O:=O.ext hp;have z:=z.ext hp;have hB:=hB.ext hp;have J:=J.trans hp;refine EF (EY (JT rfl E9 (KW br bb hy _ false _ z (by simp only [Ab];omega)) rfl (.inr λ_ h=>h) (λu11 w11 xd xv=>?_)));have hsz11:=J.size;have ho:=ho.mod xd (λk9 Z e=>ho.ne_blk z.m rfl (by rw[Z];exact congrArg some e));have O:=O.mod xd trivial;have m2:=m2.mod xd (λZ=>by have h2:_=br:=Z;omega);have J:=J.own xd (λi hi=>(by have h2:i=br:=hi;omega));obtain⟨Y,hb,z⟩:=xv;rw[JK _ _ EA]at Y z;dsimp only at Y z;subst Y;refine EF (EY (EW (v:=B r.del) rfl (F8 rfl rfl) (by show B _=B _;congr 1;exact OG _) (EF (EY (db (zs:=[S [],S [],B false]) (pl:=[(0,1),(1,1),(2,1)]) (pv:=[(0,_),(2,_)]) (cs:=[_,S [],_]) (EF ?_))))));refine EY (FM m2 (λw12 hw xs12 m2=>?_));dsimp only [Fe,Ag,Af,Ai]at m2;have ho:=ho.mod hw (λk hk e=>by have h2:k=b2:=e;have h8:=hl k hk;omega);have O:=O.mod hw trivial;have z:=z.mod hw (λk hk e=>by have h2:k=b2:=e;have h8:=ha k (HW (λ_=>hf) hk);omega);have J:=J.o1 hw;refine EF (Im ?_);exact⟨(b2,hb),FQ,J,EA,(by intro k hk e;have h8:=hl k hk;omega),z,ho,O,m2⟩
     exact J8
    refine H6 ?_ ?_
    ·refine FG (cs:=[S [],S [],B false]) rfl E9 RX.all (λb3 w13 e3 ht m3=>?_);have g3:=J.ge e3;have a3_hR:=z.lt;have hr:=ho.ltb e3;have a3_hS:=O.le;have z:=z.ext ht;have ho:=ho.ext ht;have O:=O.ext ht;have J:=J.trans ht;refine EF (EY ?_);rw[xj]at z;refine cD (KI br bb vc _ false _ z (by simp only [Ab];omega)) (.inl rfl) λu14 w14 xc xw=>?_;have hsz14:=J.size;have ho:=ho.mod xc (λk9 Z e=>ho.ne_blk z.m rfl (by rw[Z];exact congrArg some e));have O:=O.mod xc trivial;have m3:=m3.mod xc (λZ=>by have h2:_=br:=Z;omega);have J:=J.own xc (λi hi=>(by have h2:i=br:=hi;omega));obtain⟨hB,hy,z⟩:=xw;rw[K8 _ _ _ EA]at hB z;dsimp only at hB z;have hq:∀k,Value.ownBlock _=some k->¬ ES br k:=λk9 Z e=>hB.ne_blk z.m rfl (by rw[Z];exact congrArg some e);refine EF (EY (FK rfl (λw' z=>L5 E9 E9 ((hB.mod z hq).arr EE) rfl) (EF (EY (JT rfl E9 (KW br bb hy _ false _ z (by simp only [Ab];omega)) rfl (.inr λ_ h=>h) (λu15 w15 h6 xx=>?_))))));have hsz15:=J.size;have ho:=ho.mod h6 (λk9 Z e=>ho.ne_blk z.m rfl (by rw[Z];exact congrArg some e));have O:=O.mod h6 trivial;have m3:=m3.mod h6 (λZ=>by have h2:_=br:=Z;omega);have J:=J.own h6 (λi hi=>(by have h2:i=br:=hi;omega));obtain⟨Y,hb,z⟩:=xx;rw[JK _ _ EA]at Y z;dsimp only at Y z;subst Y;refine EF (EY (EW (v:=B r.del) rfl (F8 rfl rfl) (by show B _=B _;congr 1;exact OG _) (EF (EY (db (zs:=[S [],S [],B false]) (pl:=[(0,1),(1,1),(2,1)]) (pv:=[(0,_),(2,_)]) (cs:=[_,S [],_]) (EF ?_))))));refine EY (FM m3 (λw16 xe xs16 m3=>?_));dsimp only [Fe,Ag,Af,Ai]at m3;have ho:=ho.mod xe (λk hk e=>by have h2:k=b3:=e;have h8:=hr k hk;omega);have O:=O.mod xe trivial;have z:=z.mod xe (λk hk e=>by have h2:k=b3:=e;have h8:=ha k (HW (λ_=>hf) hk);omega);have J:=J.o1 xe;refine EF (Im ?_);exact⟨(b3,hb),FQ,J,EA,(by intro k hk e;have h8:=hr k hk;omega),z,ho,O,m3⟩
    exact J8
   intro X17 ye w17 xu;obtain⟨bx,hb⟩:=ye;clear J z ho O;obtain⟨J,hbx,yf,z,ho,O,m7⟩:=xu;refine ws λ_ Z8=>ws λ_ Z9=>wr (df 2 rfl (dl rfl (m7.at rfl) (dn (de Z9 ?_))));refine wc (λc3=>?_) λc3=>?_
   ·refine KR [.p,.x,.l,.p,.x] rfl (dm ?_);have hbx9:=m7.lt;refine cD (KI br bb hb _ false _ z (by simp only [Ab];omega)) (.inl rfl) λu18 w18 h5 xr=>?_;have hsz18:=J.size;have ho:=ho.mod h5 (λk9 Z e=>ho.ne_blk z.m rfl (by rw[Z];exact congrArg some e));have O:=O.mod h5 trivial;have m7:=m7.mod h5 (λZ=>by have h2:_=br:=Z;omega);have J:=J.own h5 (λi hi=>(by have h2:i=br:=hi;omega));have hd:r.del=false:=by simpa using c3
    obtain⟨xl,yp,z⟩:=xr;rw[hd,if_neg EK,K8 _ _ _ EA]at xl z;dsimp only at xl z;refine dq (L5 E9 E9 (xl.arr EE) rfl) (df 1 rfl (G5 m7 (λw19 xb xs19 m7=>?_) (hv:=by rfl)));dsimp only [Fe,Ag,Af,Ai]at m7;have ho:=ho.mod xb (λk hk e=>by have h2:k=bx:=e;exact absurd h2 (yf k hk));have O:=O.mod xb trivial;have z:=z.mod xb (λk hk e=>by have h2:k=bx:=e;have h8:=ha k (HW (λ_=>hf) hk);omega);have J:=J.o1 xb;refine de Z8 (wr (dm ?_));refine dq (Fb (k:=3) E9 rfl rfl m7.row) (li (e:=48) (sz:=3) (zs:=[S [],S [],B false]) (pv:=[(0,.agg ⟨[_,_,_]⟩)]) (cs:=[_,_,_]) RX.all (λb4 w20 e4 hg m4=>?_));have g4:=J.ge e4;have n4_7:=m7.ltb e4;have o4_ho:=ho.ltb e4;have a4_hS:=O.le;have a4_hR:=z.lt;have ho:=ho.ext hg;have O:=O.ext hg;have m7:=m7.ext hg;have z:=z.ext hg;have J:=J.trans hg;refine Gv (lx:=[r]) (e:=48) (sz:=3) (by':=40) rfl E9 E9 EE ho (m4.arr (enc:=Rw.cs) (sz:=3) (l:=[r]) rfl EE rfl (Ap rfl)) rfl rfl (by intro x _ u hu;simp at hu;rcases hu with rfl|rfl|rfl<;>rfl) (by simp;omega) EK O.le (.inl rfl) (λxg w21 hj xi=>?_);have O:=O.mod xi (by trivial);have z:=z.mod xi (by intro k9 Z e9;have h8:=ha k9 (HW (λ_=>hf) Z);have h7:=(ho.lt k9 e9).1;omega);have J:=J.own xi (λi hi=>(Ae xh (ho.lt i hi).1));have ho:=hj;clear m4;refine da (EF (?_));exact⟨(k+1,yp,xg),FSq,⟨J,by omega,z,by rw[Gs hk];exact ho,O⟩,by simp only [];omega⟩
   have hd:r.del=true:=by simpa using c3
   have yk:r.val=[]:=x0.2.2.2 hd;rw[<-yk]at m7;rw[hd,if_pos rfl,AE]at z;refine EG (Z8 _ _ (wr (dm ?_)));refine dq (Fb (k:=3) E9 rfl rfl m7.row) (li (e:=48) (sz:=3) (zs:=[S [],S [],B false]) (pv:=[(0,.agg ⟨[_,_,_]⟩)]) (cs:=[_,_,_]) RX.all (λb5 w22 e5 xa m5=>?_));have g5:=J.ge e5;have a5_hR:=z.lt;have o5_ho:=ho.ltb e5;have a5_hS:=O.le;have z:=z.ext xa;have ho:=ho.ext xa;have O:=O.ext xa;have J:=J.trans xa;refine Gv (lx:=[r]) (e:=48) (sz:=3) (by':=40) rfl E9 E9 EE ho (m5.arr (enc:=Rw.cs) (sz:=3) (l:=[r]) rfl EE rfl (Ap rfl)) rfl rfl (by intro x _ u hu;simp at hu;rcases hu with rfl|rfl|rfl<;>rfl) (by simp;omega) EK O.le (.inl rfl) (λxg w23 hj xk=>?_);have z:=z.mod xk (by intro k9 Z e9;have h8:=ha k9 (HW (λ_=>hf) Z);have h7:=(ho.lt k9 e9).1;omega);have O:=O.mod xk (by trivial);have J:=J.own xk (λi hi=>(Ae xh (ho.lt i hi).1));have ho:=hj;clear m5;refine da (EF (?_));exact⟨(k+1,hb,xg),FSq,⟨J,by omega,z,by rw[Gs hk];exact ho,O⟩,by simp only [];omega⟩
  cases c2
 have yc:k=l.length:=by rw[A4]at c1;omega
 subst yc;rw[AK]at ho;refine dk (dk (EO (de Z7 ?_)));refine GB rfl (Ff (Z4 _ _ (ws λ_ yb=>ws λ_ yd=>wr (dm ?_))));refine cG (Vj l vl _ (ho.arr EE) EA) RX.all λu24 w24 xo xt=>?_;have hsz24:=J.size;have ho:=ho.ext xo;have J:=J.trans xo;obtain⟨yj,rfl,xn⟩:=xt;rw[if_pos hc]at xn;refine dm ?_;refine dx rfl rfl (dx rfl rfl (da (da (de yd (ws λ_ xy=>wr (dm ?_))))));refine dp (F8 rfl rfl) (dm ?_);refine Fz 47 rfl (λc4=>?_) (λc4=>?_)
 ·exact absurd hc c4
 iterate 2 refine dm ?_
 refine cP (Oh (FF l) (FF l) yj v _ (xn.arr EE) (hv.ext J)) RX.all λw25 xm=>?_;have ho:=ho.ext xm;have J:=J.trans xm;refine dn ?_;refine EO (de xy ?_);refine wc (λc5=>?_) λc5=>?_
 ·simp at c5
 refine EG (yb _ _ (ws λ_ yg=>wr (dm (da (da (de yg (EH ?_)))))));refine rt ?_;exact⟨_,rfl,J,_,rfl,ho.mono xh⟩
theorem X71 {l:List Fi}{f:Fi}{k:Nat}(h:l[k]?=some f):(l.drop k).flatMap GA=EV f.id.toNat++(EV f.lev.toNat++(EV f.size.toNat++(Fp f.fst++(Fp f.lst++(l.drop (k+1)).flatMap GA)))):=by
 rw[HY h,AD];unfold GA;simp only [AA]
theorem X72 {a b c:Nat}(r:EC)(ha:a<=4611686018427387904)(hb:b<=4611686018427387904)(hc:c<=4611686018427387904):IH 3 (EV a++(EV b++(EV c++r))) false=([a,b,c],r,false):=by
 rw[RZ,JK _ false ha];dsimp only;rw[Ro r hb hc]
theorem X73 {b x y z:Nat}{Cs:Nat->List Value} : Gq Cs [(b,0),(b,1),(b,2)] [x,y,z] b=(((Cs b).set 0 (I ↑x)).set 1 (I ↑y)).set 2 (I ↑z):=by simp [Gq]
theorem MP {br b k:Nat} : (k=br\/∃p∈[((b,0):Nat×Nat),(b,1),(b,2)],k=p.1)↔(k=br\/k=b):=by simp
theorem Xy4 {b s:Nat}{w:World}(h:EL w s [ED b 0,ED b 1,ED b 2] 197):EM (λp:Nat×Nat=>[ED p.1 p.2]) 1 w (.slice (some ⟨s,0,none⟩) 3 3) [(b,0),(b,1),(b,2)]:=h.arr (enc:=λp:Nat×Nat=>[ED p.1 p.2]) (sz:=1) (l:=[(b,0),(b,1),(b,2)]) rfl EE rfl EQ
theorem Un {α:Type}{a b c:α}{P:α->Prop}(h1:P a)(h2:P b)(h3:P c):∀p∈[a,b,c],P p:=λp r=>by
 rcases Aj.1 r with rfl|r
 ·exact h1
 ·exact LU h2 h3 p r
theorem Sh (n:Int)(fs:List Fi)(v:Value)(w:World)(hv:EM EP 1 w v (FR ⟨n,fs⟩))(hV:GI ⟨n,fs⟩=true)(hle:(FR ⟨n,fs⟩).length<=1000000) :
  Calls Tryz.prog 61 [v].toArray w (ER w (λu w'=>∃vf,u=.tuple #[.agg ⟨[I n,vf]⟩,I 0]/\Vc.Own Fi.cs 5 62 w.heap.size w' vf fs)):=by
 refine cw Tryz.func61 ?_;have J:=EB.refl w;obtain⟨x0,yb,xw,x7,_⟩:=Ig hV;have x0:1<=n:=x0;have yb:n<=1099511627776:=yb;have xw:fs.length<=1024:=xw;have xp:∀f∈fs,ET f.id:=λf hf=>by
  have r:=JH (x7 f hf);have h8:f.id<n:=r.2.1;unfold ET;omega
 have xg:FR ⟨n,fs⟩=EV n.toNat++(EV fs.length++fs.flatMap GA):=by unfold FR;rw[AA]
 have yc:=congrArg A7 xg;simp only [Ab]at yc;have hb:FR ⟨n,fs⟩≠[]:=λe=>by
  have r:=congrArg A7 xg;have h8:1<=(EV n.toNat).length:=Nx 9 _;rw[e,Ab,Bc]at r;omega
 refine ws λ_ Z1=>wr (FG (cs:=[.int .i64 0,.slice none 0 0]) rfl E9 RX.all (λb1 w1 e1 x1 Y=>?_));have g1:=J.ge e1;have J:=J.trans x1;refine da (de Z1 (ws λ_ Z2=>wr ?_));refine FG (cs:=[.int .i64 0,.slice none 0 0]) rfl E9 RX.all (λb2 w2 e2 x2 O=>?_);have g2:=J.ge e2;have n2_1:=Y.ltb e2;have Y:=Y.ext x2;have J:=J.trans x2;refine de Z2 (ws λ_ Z3=>wr (FG (cs:=[.int .i64 0]) rfl E9 RX.all (λb3 w3 e3 x3 Z=>?_)));have g3:=J.ge e3;have n3_1:=Y.ltb e3;have n3_2:=O.ltb e3;have Y:=Y.ext x3;have O:=O.ext x3;have J:=J.trans x3;refine de Z3 (ws λ_ Z4=>wr (dm ?_));have hb5l:=Z.lt;refine cG (MM (FR ⟨n,fs⟩) v _ (hv.ext J) EA) RX.all λu4 w4 x4 yv=>?_;have xe:=J.size;have Y:=Y.ext x4;have O:=O.ext x4;have Z:=Z.ext x4;have J:=J.trans x4;obtain⟨br,bb,yn,rfl,yr,yw,z⟩:=yv;have hbr:w.heap.size<=br:=Ae xe yr;have gbb2:=yw hb;have hbr2:b3<br:=by omega
 have hw34:=x4.size;have ha:=z.lt;have hbrw:br<w4.heap.size:=ha br (.inl rfl);have xt:=Ae xe x4.size;have hS:Sz w4.heap.size w4:=⟨Aa _⟩;rw[xg]at z;refine da (de Z4 (ws λ_ Z5=>wr (dm ?_)));refine df 0 rfl (li (e:=197) (sz:=1) (zs:=[.pointer none]) (pv:=[(0,_),(1,_)]) (cs:=[_,_]) RX.all (λb4 w5 e4 x5 m4=>?_));have g4:=J.ge e4;have n4_1:=Y.ltb e4;have n4_2:=O.ltb e4;have n4_3:=Z.ltb e4;have a4_hR:=z.lt;have a4_hS:=hS.le;have Y:=Y.ext x5;have O:=O.ext x5;have Z:=Z.ext x5;have z:=z.ext x5;have hS:=hS.ext x5;have J:=J.trans x5;refine cD (ON br bb yn _ false [(b2,0),(b3,0)] (.slice (some ⟨b4,0,none⟩) 2 2) (λk=>if k=b2 then[I 0,.slice none 0 0]else[I 0]) (λk=>if k=b2 then 56 else 3) _ z (by simp only [Ab];omega) (S1 m4) EQ (LU (P:=λp:Nat×Nat=>EL _ p.1 (if p.1=b2 then _ else _) (if p.1=b2 then _ else _)/\p.2<(if p.1=b2 then _ else _:List Value).length) (by rw[if_pos rfl,if_pos rfl];exact⟨O,(by decide:0<2)⟩) (by rw[if_neg EA,if_neg EA];exact⟨Z,Nat.zero_lt_one⟩)) (LU (P:=λp:Nat×Nat=>¬ LW br bb _ p.1) (λr=>by rcases r with r|⟨_,r⟩<;>(dsimp only at r;omega)) (λr=>by rcases r with r|⟨_,r⟩<;>(dsimp only at r;omega))) (λ_ r=>by have h2:b4=br\/b4=b2\/b4=b3:=Oo.1 r;omega)) (.inl rfl) λu6 w6 x6 yt=>?_;have hsz6:=J.size;have Y:=Y.mod x6 (λr=>by have h2:b1=br\/b1=b2\/b1=b3:=Oo.1 r;omega);have hS:=hS.mod x6 trivial;have J:=J.own x6 (λi hi=>(by have h2:=Oo.1 hi;omega));obtain⟨rfl,yu,z,xb⟩:=yt;have hr:b2≠b3:=by omega
 have O:=xb (b2,0) Al;have Z:=xb (b3,0) (Am _ Al);rw[show[((b2,0):Nat×Nat),(b3,0)].length=2 from rfl,Ro _ EA EA]at z O Z;dsimp only at z O Z;rw[TW hr,if_pos rfl,if_pos rfl]at O;rw[Ug hr,if_neg (λe=>hr e.symm),if_neg (λe=>hr e.symm)]at Z;dsimp only [Ag]at O Z;rw[show((n.toNat:Nat):Int)=n by omega]at O;refine de Z5 (ws λ_ Z6=>EN ?_);refine Fk (G:=Nat×Value×Value) (λ(k,vc,vf)=>[(0,v),(2,ED b1 0),(3,I 0),(4,ED b2 0),(5,ED b3 0),(6,ED br 0)]) (λ(k,vc,vf) w'=>EB w w'/\k<=fs.length/\Rd br bb vc ((fs.drop k).flatMap GA) false w'/\Vc.Own Fi.cs 5 62 w4.heap.size w' vf (fs.take k)/\Sz w4.heap.size w'/\EL w' b1 [I 0,.slice none 0 0] 56/\EL w' b2 [I n,vf] 56/\EL w' b3 [I ↑fs.length] 3) (λ(k,vc,vf)=>fs.length-k) (0,yu,.slice none 0 0) ?_ ?_ ?_
 ·exact FSq
 ·exact⟨J,Ad _,z,Vc.Own.nil,hS,Y,O,Z⟩
 intro X7 g7 w7 yq;obtain⟨k,vc,vf⟩:=g7;clear J Y hS z O Z;obtain⟨J,hk1,z,ho,hS,Y,O,Z⟩:=yq;refine ws λ_ Z7=>ws λ_ Z8=>wr (df 1 rfl (dl rfl (O.at rfl) (dv 62 5 (ho.arr EE).sl (dl rfl (Z.at rfl) (dp (Fa rfl rfl) (dm ?_))))));refine Fz 21 rfl (λc1=>?_) (λc1=>?_)
 ·have hkl:k<fs.length:=by rw[A4]at c1;omega
  obtain⟨f,hk⟩:∃f,fs[k]?=some f:=Fq;have xu:=JH (x7 f (Ak hk));have xu:1<=f.id/\f.id<n/\0<=f.lev/\f.lev<=4/\1<=f.size/\f.size<=1048576/\f.fst.length<=4096/\f.lst.length<=4096:=xu;have xx:=X71 hk;have hll:=RJ GA fs k;have yo:=congrArg A7 xx;simp only [Ab]at yo;refine dm ?_;refine cP (P7 br bb vc _ false _ z) RX.all λw8 x8=>?_;have z:=z.ext x8;have ho:=ho.ext x8;have hS:=hS.ext x8;have Y:=Y.ext x8;have O:=O.ext x8;have Z:=Z.ext x8;have J:=J.trans x8;refine EO (de Z8 ?_);refine wc (λc2=>?_) λc2=>?_
  ·refine EG (Z7 _ _ (EN (ws λ_ Z9=>wr (FG (cs:=[.int .i64 0,.int .i64 0,.int .i64 0,S [],S []]) rfl E9 RX.all (λb5 w9 e5 x9 m5=>?_)))));have g5:=J.ge e5;have n5_1:=Y.ltb e5;have n5_2:=O.ltb e5;have n5_3:=Z.ltb e5;have a5_hR:=z.lt;have xi:=ho.ltb e5;have a5_hS:=hS.le;have z:=z.ext x9;have ho:=ho.ext x9;have hS:=hS.ext x9;have Y:=Y.ext x9;have O:=O.ext x9;have Z:=Z.ext x9;have J:=J.trans x9;refine de Z9 (ws λ_ yf=>wr (dm ?_));refine df 0 rfl (df 1 rfl (df 2 rfl (li (e:=197) (sz:=1) (zs:=[.pointer none]) (pv:=[(0,_),(1,_),(2,_)]) (cs:=[_,_,_]) RX.all (λb6 w10 e6 hc m6=>?_))));have g6:=J.ge e6;have n6_1:=Y.ltb e6;have n6_2:=O.ltb e6;have n6_3:=Z.ltb e6;have n6_5:=m5.ltb e6;have a6_hR:=z.lt;have o6_ho:=ho.ltb e6;have a6_hS:=hS.le;have z:=z.ext hc;have ho:=ho.ext hc;have hS:=hS.ext hc;have Y:=Y.ext hc;have O:=O.ext hc;have Z:=Z.ext hc;have m5:=m5.ext hc;have J:=J.trans hc;rw[xx]at z;have xq:=xi;refine cD (ON br bb vc _ false [(b5,0),(b5,1),(b5,2)] (.slice (some ⟨b6,0,none⟩) 3 3) (λ_=>[I 0,I 0,I 0,S [],S []]) (λ_=>62) _ z (by simp only [Ab];omega) (Xy4 m6) EQ (Un (P:=λp:Nat×Nat=>EL _ p.1 _ _/\p.2<5) ⟨m5,(show _<5 by simp)⟩ ⟨m5,(show _<5 by simp)⟩ ⟨m5,(show _<5 by simp)⟩) (Un (P:=λp:Nat×Nat=>¬ LW br bb _ p.1) (λr=>by have h8:=ha _ (HW (λ_=>hb) r);have h7:b5<w4.heap.size:=h8;omega) (λr=>by have h8:=ha _ (HW (λ_=>hb) r);have h7:b5<w4.heap.size:=h8;omega) (λr=>by have h8:=ha _ (HW (λ_=>hb) r);have h7:b5<w4.heap.size:=h8;omega)) (λ_ r=>by have h2:b6=br\/b6=b5:=MP.1 r;omega)) (.inl rfl) λu11 w11 hy xy=>?_;have hsz11:=J.size;have ho:=ho.mod hy (λk9 r e=>by have h2:k9=br\/k9=b5:=MP.1 e;have h8:=(ho.lt k9 r).1;have h7:=xq k9 r;omega);have hS:=hS.mod hy trivial;have Y:=Y.mod hy (λr=>by have h2:b1=br\/b1=b5:=MP.1 r;omega);have O:=O.mod hy (λr=>by have h2:b2=br\/b2=b5:=MP.1 r;omega);have Z:=Z.mod hy (λr=>by have h2:b3=br\/b3=b5:=MP.1 r;omega);have J:=J.own hy (λi hi=>(by have h2:=MP.1 hi;omega));obtain⟨rfl,yi,z,xb⟩:=xy;have m5:=xb (b5,0) Al;rw[show[((b5,0):Nat×Nat),(b5,1),(b5,2)].length=3 from rfl,X72 _ EA EA EA]at z m5;dsimp only at z m5;rw[X73]at m5;dsimp only [Ag]at m5;rw[show((f.id.toNat:Nat):Int)=f.id by omega,show((f.lev.toNat:Nat):Int)=f.lev by omega,show((f.size.toNat:Nat):Int)=f.size by omega]at m5;have xc:∀k,vf.ownBlock=some k->k≠b5:=λk hk e=>by have:=xq k hk;omega
   refine de yf ?_;refine Hz (G:=Nat×Value) (λ(bx,hz)=>[(0,v),(2,ED b1 0),(3,I 0),(4,ED b2 0),(5,ED b3 0),(6,ED br 0),(7,ED bx 0)]) (λ(bx,hz) w'=>EB w w'/\w4.heap.size<=bx/\(∀k,vf.ownBlock=some k->k≠bx)/\Rd br bb hz ((fs.drop (k+1)).flatMap GA) false w'/\Vc.Own Fi.cs 5 62 w4.heap.size w' vf (fs.take k)/\Sz w4.heap.size w'/\EL w' b1 [I 0,.slice none 0 0] 56/\EL w' b2 [I n,vf] 56/\EL w' b3 [I ↑fs.length] 3/\EL w' bx f.cs 62) ?_ ?_
   ·refine F4 (R:=Mod (ES br)) J0 JY E9 [2,5] [(0,.p,false),(3,.p,false),(1,.x,true),(2,.l,false),(4,.x,false),(5,.l,false),(6,.p,false),(7,.x,true),(8,.p,false),(9,.x,true)] rfl E9 E9 (λw12 xf=>?_);have hg:=EJ xf;clear xf;have ho:=ho.ext hg;have hS:=hS.ext hg;have Y:=Y.ext hg;have O:=O.ext hg;have Z:=Z.ext hg;have z:=z.ext hg;have m5:=m5.ext hg;have J:=J.trans hg
    iterate 2 refine dm ?_
    refine cD (KI br bb yi _ false _ z (by simp only [Ab];omega)) (.inl rfl) λu13 w13 hl ya=>?_;have hsz13:=J.size;have ho:=ho.mod hl (λk9 r e=>ho.ne_blk z.m rfl (by rw[r];exact congrArg some e));have hS:=hS.mod hl trivial;have Y:=Y.mod hl (λr=>by have h2:_=br:=r;omega);have O:=O.mod hl (λr=>by have h2:_=br:=r;omega);have Z:=Z.mod hl (λr=>by have h2:_=br:=r;omega);have m5:=m5.mod hl (λr=>by have h2:_=br:=r;omega);have J:=J.own hl (λi hi=>(by have h2:i=br:=hi;omega));obtain⟨hB,yh,z⟩:=ya;rw[K8 _ _ _ EA]at hB z;dsimp only at hB z;have xn:∀k,Value.ownBlock _=some k->¬ ES br k:=λk9 r e=>hB.ne_blk z.m rfl (by rw[r];exact congrArg some e);refine FK rfl (λw' z=>L5 E9 E9 ((hB.mod z xn).arr EE) rfl) (JT rfl E9 (KI br bb yh _ false _ z (by simp only [Ab];omega)) rfl (.inr λ_ h=>h) (λu14 w14 hj xz=>?_));have hsz14:=J.size;have ho:=ho.mod hj (λk9 r e=>ho.ne_blk z.m rfl (by rw[r];exact congrArg some e));have hS:=hS.mod hj trivial;have Y:=Y.mod hj (λr=>by have h2:_=br:=r;omega);have O:=O.mod hj (λr=>by have h2:_=br:=r;omega);have Z:=Z.mod hj (λr=>by have h2:_=br:=r;omega);have m5:=m5.mod hj (λr=>by have h2:_=br:=r;omega);have hB:=hB.mod hj (λk9 r e=>hB.ne_blk z.m rfl (by rw[r];exact congrArg some e));have J:=J.own hj (λi hi=>(by have h2:i=br:=hi;omega));obtain⟨xd,hz,z⟩:=xz;rw[K8 _ _ _ EA]at xd z;dsimp only at xd z;have xj:∀k,Value.ownBlock _=some k->¬ ES br k:=λk9 r e=>xd.ne_blk z.m rfl (by rw[r];exact congrArg some e);refine FK rfl (λw' z=>L5 E9 E9 ((xd.mod z xj).arr EE) rfl) (df 3 rfl (G5 m5 (λw15 hp xs15 m5=>?_) (hv:=by rfl)));dsimp only [Fe,Ag,Af,Ai]at m5;have ho:=ho.mod hp (λk hk e=>by have h2:k=b5:=e;exact absurd h2 (xc k hk));have hS:=hS.mod hp trivial;have Y:=Y.mo hp;have O:=O.mo hp;have Z:=Z.mo hp;have z:=z.mod hp (λk hk e=>by have h2:k=b5:=e;have h8:=ha k (HW (λ_=>hb) hk);rcases hk with r|⟨_,r⟩<;>omega);have J:=J.o1 hp;refine df 4 rfl (G5 m5 (λw16 hq xs16 m5=>?_) (hv:=by rfl));dsimp only [Fe,Ag,Af,Ai]at m5;have ho:=ho.mod hq (λk hk e=>by have h2:k=b5:=e;exact absurd h2 (xc k hk));have hS:=hS.mod hq trivial;have Y:=Y.mo hq;have O:=O.mo hq;have Z:=Z.mo hq;have z:=z.mod hq (λk hk e=>by have h2:k=b5:=e;have h8:=ha k (HW (λ_=>hb) hk);rcases hk with r|⟨_,r⟩<;>omega);have J:=J.o1 hq;refine EF (?_);exact⟨(b5,hz),FQ,J,EA,xc,z,ho,hS,Y,O,Z,m5⟩
   intro X17 yk w17 xv;obtain⟨bx,hz⟩:=yk;clear J ho hS Y O Z z m5;obtain⟨J,hbx,xc,z,ho,hS,Y,O,Z,xa⟩:=xv;refine wr (df 1 rfl (dl rfl (O.at rfl) (dq (Fb (k:=5) E9 rfl rfl xa.row) (li (e:=62) (sz:=5) (zs:=[.int .i64 0,.int .i64 0,.int .i64 0,S [],S []]) (pv:=[(0,.agg ⟨[_,_,_,_,_]⟩)]) (cs:=[_,_,_,_,_]) RX.all (λb7 w18 e7 hh m7=>?_)))));have g7:=J.ge e7;have n7_1:=Y.ltb e7;have n7_2:=O.ltb e7;have n7_3:=Z.ltb e7;have a7_hR:=z.lt;have o7_ho:=ho.ltb e7;have a7_hS:=hS.le;have a7_mf9:=xa.lt;have z:=z.ext hh;have ho:=ho.ext hh;have hS:=hS.ext hh;have Y:=Y.ext hh;have O:=O.ext hh;have Z:=Z.ext hh;have xa:=xa.ext hh;have J:=J.trans hh;refine Gv (lx:=[f]) (e:=62) (sz:=5) (by':=56) rfl E9 E9 EE ho (m7.arr (enc:=Fi.cs) (sz:=5) (l:=[f]) rfl EE rfl (Ap rfl)) rfl rfl (by intro x _ u hu;simp at hu;rcases hu with rfl|rfl|rfl|rfl|rfl<;>rfl) (by simp;omega) EK hS.le (.inl rfl) (λyl w19 xl hw=>?_);have z:=z.mod hw (by intro k9 r e9;have h8:=ha k9 (HW (λ_=>hb) r);have h7:=(ho.lt k9 e9).1;omega);have hS:=hS.mod hw (by trivial);have Y:=Y.mod hw (by intro h;have h1:=(ho.lt _ h).1;omega);have O:=O.mod hw (by intro h;have h1:=(ho.lt _ h).1;omega);have Z:=Z.mod hw (by intro h;have h1:=(ho.lt _ h).1;omega);have J:=J.own hw (λi hi=>(Ae xt (ho.lt i hi).1));have ho:=xl;have xr:=ho.ne_blk O rfl;clear m7;refine df 1 rfl (G5 O (λw20 ht xs20 O=>?_) (hv:=by exact FW.one ho.sl));dsimp only [Fe,Ag,Af,Ai]at O;have z:=z.mod ht (λk hk e=>by have h2:k=b2:=e;have h8:=ha k (HW (λ_=>hb) hk);rcases hk with r|⟨_,r⟩<;>omega);have ho:=ho.mod ht (λk hk e=>by have h2:k=b2:=e;exact xr (hk.trans (congrArg some h2)));have hS:=hS.mod ht trivial;have Y:=Y.mo ht;have Z:=Z.mo ht;have J:=J.o1 ht;refine EF (?_);exact⟨(k+1,hz,yl),FSq,⟨J,by omega,z,by rw[Gs hk];exact ho,hS,Y,O,Z⟩,by simp only [];omega⟩
  cases c2
 have yg:k=fs.length:=by rw[A4]at c1;omega
 subst yg;rw[AK]at ho;have xm:=ho.ne_blk Y rfl;refine dk (dk (EO (de Z8 ?_)));refine GB rfl (Ff (Z6 _ _ (ws λ_ yj=>ws λ_ yd=>wr (dq (Fb (k:=2) E9 rfl rfl O.row) (cG (TE n fs vf _ (ho.arr EE) EA xp) RX.all λu21 w21 h5 xo=>?_)))));have hsz21:=J.size;have z:=z.ext h5;have ho:=ho.ext h5;have Y:=Y.ext h5;have O:=O.ext h5;have J:=J.trans h5;obtain⟨yp,rfl,xk⟩:=xo;rw[if_pos hV]at xk;refine dm ?_;refine dx rfl rfl (dx rfl rfl (da (da (de yd (ws λ_ ym=>wr (dm ?_))))));refine dp (F8 rfl rfl) (dm ?_);refine Fz 52 rfl (λc3=>?_) (λc3=>?_)
 ·exact absurd (if_pos hV) c3
 iterate 2 refine dm ?_
 refine cP (Oh (FR ⟨n,fs⟩) (FR ⟨n,fs⟩) yp v _ (xk.arr EE) (hv.ext J)) RX.all λw22 h6=>?_;have z:=z.ext h6;have ho:=ho.ext h6;have Y:=Y.ext h6;have O:=O.ext h6;have J:=J.trans h6;refine dn ?_;refine EO (de ym ?_);refine wc (λc4=>?_) λc4=>?_
 ·simp at c4
 refine EG (yj _ _ (ws λ_ ye=>wr (dq (Fb (k:=2) E9 rfl rfl O.row) (FM Y (λw23 xh xs23 Y=>?_) (h1:=by(intro u hu;rcases Aj.1 hu with e|hu;subst e;rfl;rw[Ah.1 hu];exact ho.sl.one))))));dsimp only [Fe,Ag,Af,Ai]at Y;have z:=z.mod xh (λk hk e=>by have h2:k=b1:=e;have h8:=ha k (HW (λ_=>hb) hk);rcases hk with r|⟨_,r⟩<;>omega);have ho:=ho.mod xh (λk hk e=>by have h2:k=b1:=e;exact xm (hk.trans (congrArg some h2)));have J:=J.o1 xh;refine da (de ye (EH ?_));refine IG (u:=?v29) rfl rfl rfl rfl E9 rfl Y.row ?h29 ?k29
 case h29=>conv=>lhs;whnf
 exact⟨_,rfl,J,_,rfl,ho.mono xt⟩
theorem WQ (κ:Nat->Nat)(bs bd bl bo bm:Nat)(vf:Value)(L:Led)(D:Dsk)(V:Vs)(ts:List Tb)(mem:List Cell)(dead:Bool)(n:Int)(w:World)(h:StE κ bs bd bl bo bm vf L D V ts mem dead w)(hSt:Sto n V ts mem)(hn:n<=1099511627776)(hal:(Fx mem ts).length<=30000)(hgv:GV w)(hgvs:∀k,Li k->κ k=0) :
  Calls Tryz.prog 16 [ED bs 0].toArray w (Fh (λk=>κ k≠0) w (λu w'=>∃did e κ' bm' vf' L' D' V' ts' mem' dead',u=.tuple #[B did,I e]/\(∀k,k<w.heap.size->κ' k=κ k)/\StE κ' bs bd bl bo bm' vf' L' D' V' ts' mem' dead' w'/\Le L D V ts mem dead did e L' D' V' ts' mem' dead')):=by
 refine cw Tryz.func16 ?_;have hx:=Vc.Mod.refl (λk=>κ k≠0) w;have Z:=h;have zc:∀k,w.heap.size<=k->κ k=0:=λk hk=>AL λh9=>by have:=h.lt k h9;omega
 have hV:=hSt.isv;obtain⟨_,_,zd,_⟩:=Ig hV;have hvl2:V.fs.length<=1024:=zd;have z4:mem.length<=30000:=by unfold Fx at hal;rw[Ab]at hal;omega
 have zh:=λc (hc:c∈mem)=>hSt.cellsB hn c (GC.2 (.inl hc));have htl:=hSt.tlen;refine ws λ_ Z1=>wr (Gc rfl rfl rfl RX.all (λb1 w1 e1 x1 m1=>?_));have g1:=hx.ge e1;have a1_hS:=Z.lt;have Z:=Z.ext x1;have hx:=hx.ext x1;refine da (da (de Z1 (ws λ_ Z2=>ws λ_ Z3=>wr ?_)));refine dl rfl (m1.at rfl) (cP (Qp bs bd bl V.next vf bo bm dead _ Z.m) RX.all λw2 x2=>?_);have Z:=Z.ext x2;have m1:=m1.ext x2;have hx:=hx.ext x2;refine da (de Z3 (ws λ_ Z4=>wr (dm ?_)));refine dp (F8 rfl rfl) (de Z4 (wi (λc1=>?_) λc1=>?_))
 ·refine ws λ_ Z5=>wr (dm (da (da (de Z5 (EH ?_)))));refine rt ?_;have xo:dead=true:=by cases dead with|true=>rfl|false=>exact absurd rfl c1
  subst xo;exact⟨_,rfl,hx,false,9,κ,bm,vf,L,D,V,ts,mem,true,rfl,λ_ _=>rfl,Z,.inl ⟨rfl,rfl,rfl,rfl,rfl,rfl,rfl,rfl,rfl⟩⟩
 have zw:dead=false:=by cases dead with|false=>rfl|true=>exact absurd EK c1
 subst zw;refine EG (Z2 _ _ (ws λ_ Z6=>ws λ_ Z7=>wr (dl rfl (m1.at rfl) (dz rfl (df 2 rfl (dq (Fb E9 rfl rfl (Z.m.part 2 2)) (cG (Wb V.next V.fs vf _ Z.vs EA hV) RX.all λu3 w3 x3 zy=>?_)))))));have hsz3:=hx.size;have Z:=Z.ext x3;have m1:=m1.ext x3;have hx:=hx.ext x3;obtain⟨vp0,rfl,_⟩:=zy;refine dm ?_;refine dx rfl rfl (dx rfl rfl (da (da (de Z7 (ws λ_ Z8=>wr (dm ?_))))));refine dn (de Z8 ?_);refine wc (λc2=>?_) λc2=>?_
 ·refine ws λ_ Z9=>wr (da (da (de Z9 (EH ?_))));refine rt ?_;exact⟨_,rfl,hx,false,0,κ,bm,vf,L,D,V,ts,mem,false,rfl,λ_ _=>rfl,Z,.inr (.inl ⟨rfl,by simpa using c2,rfl,rfl,rfl,rfl,rfl,rfl,rfl,rfl⟩)⟩
 have xd:(IA V.fs).isSome=true:=by simpa using c2
 refine EG (Z6 _ _ (ws λ_ zk=>ws λ_ zm=>wr (dl rfl (m1.at rfl) ?_)));have yq:=hx.size;have y1:=m1.lt;refine cD (Ps κ bs bd bl bo bm vf L D V ts mem false _ Z z4 zh hV (hgv.mod hx (λk hk e=>e (hgvs k hk))) hgvs EA) (.inl rfl) λu4 w4 x4 uh=>?_;have hsz4:=hx.size;have m1:=m1.mod x4 (λe=>e (zc b1 EA));have hx:=hx.own x4 (λi hi xc=>hi);obtain⟨ok,e1,κ1,bm,vf,L1,D1,V,ts1,mem1,dead,rfl,yp,yk,xn⟩:=uh;have Z:=yk;have xg:∀k,k<w.heap.size->κ1 k=κ k:=λk hk=>yp k (A0 hk yq);have x8:κ1 b1=0:=(yp b1 y1).trans (zc b1 EA);obtain⟨N0,hN0⟩:∃z,z=w4.heap.size:=⟨_,rfl⟩;have hb:=Z.lt;rw[<-hN0]at hb;have yx:w.heap.size<=N0:=by rw[hN0];exact hx.size
 have O:Sz N0 w4:=⟨Cd hN0⟩;have hb1N:b1<N0:=by rw[hN0];exact m1.lt
 have xi:∀k,N0<=k->κ1 k=0:=λk hk=>AL λh9=>by have:=hb k h9;omega
 refine dm ?_;refine dx rfl rfl (dx rfl rfl (da (da (de zm (ws λ_ zz=>wr (dm ?_))))));refine dp (F8 rfl rfl) (de zz (wi (λc3=>?_) λc3=>?_))
 ·refine ws λ_ zr=>wr (dm (da (da (de zr (EH ?_)))));refine rt ?_;exact⟨_,rfl,hx,false,e1,κ1,bm,vf,L1,D1,V,ts1,mem1,dead,rfl,xg,Z,.inr (.inr ⟨rfl,xd,ok,e1,L1,D1,V,ts1,mem1,dead,xn,.inl ⟨c3,rfl,rfl,rfl,rfl,rfl,rfl,rfl,rfl⟩⟩)⟩
 have zf:e1=0:=AI c3;subst zf;obtain⟨xo,rfl,hy,y7,hln,zj,_⟩:=QJ hSt xn;obtain⟨p,hp⟩:=Option.isSome_iff_exists.1 (zj xd);obtain⟨lv,hP⟩:=Yas hy.isv hp;obtain⟨f0,y0,zu⟩:=hP.hd;have hlo:=hP.lo;have ha:=Z.mp.at;obtain⟨_,_,yu,y2,_⟩:=Ig hy.isv;have hvl3:V.fs.length<=1024:=yu;have hpl:=hP.len;have htl1:=hy.tlen;have y5:∀f∈V.fs,0<=f.lev/\f.lev<=4:=λf hf=>by have:=JH (y2 f hf);exact⟨this.2.2.1,this.2.2.2.1⟩
 refine EG (zk _ _ (ws λ_ z1=>wr (dl rfl (m1.at rfl) (dz rfl (df 2 rfl (dq (Fb E9 rfl rfl (Z.m.part 2 2)) ?_))))));have xl:=O.le;refine cG (Wb V.next V.fs vf _ Z.vs EA hy.isv) RX.all λu5 w5 x5 ua=>?_;have hsz5:=hx.size;have m1:=m1.ext x5;have Z:=Z.ext x5;have ha:=ha.ext x5;have O:=O.ext x5;have hx:=hx.ext x5;obtain⟨vp,rfl,yc⟩:=ua;have r:Vc.Own Fi.cs 5 62 N0 w5 vp p:=by rw[hp]at yc;exact yc.mono xl
 refine dm ?_;refine dx rfl rfl (dx rfl rfl (da (da (de z1 (ws λ_ zn=>wr (dm ?_))))));refine di 62 5 (r.arr EE).sl rfl ((r.arr EE).lt y0) (df 1 rfl (dl rfl (((r.arr EE).row y0).at rfl) (EW (v:=I ↑lv) rfl (Gx rfl rfl (by unfold ET;omega)) (by show I _=I _;rw[<-zu]) (FG (cs:=[.int .i64 0]) rfl E9 RX.all (λb2 w6 e2 x6 m2=>?_)))));have g2:=hx.ge e2;have n2_1:=m1.ltb e2;have n2_mp9:=ha.lt;have a2_hS:=Z.lt;have a2_hSz:=O.le;have xu:=r.ltb e2;have m1:=m1.ext x6;have Z:=Z.ext x6;have ha:=ha.ext x6;have O:=O.ext x6;have r:=r.ext x6;have hx:=hx.ext x6;refine G5 m2 (λw7 x7 xs7 m2=>?_) (hv:=by rfl);dsimp only [Fe,Ag,Af,Ai]at m2;have m1:=m1.mo x7;have Z:=Z.mod x7 (λk9 h9 e9=>by have h2:k9=b2:=e9;have h8:=hb k9 h9;have h7:=O.le;omega);have ha:=ha.mod x7 (by intro h;have h2:_=b2:=h;omega);have O:=O.mod x7 trivial;have r:=r.mod x7 (by intro k hk h;have h1:=xu k hk;have h2:k=b2:=h;omega);have hx:=hx.o1 x7;refine de zn (ws λ_ zi=>wr (da (de zi (ws λ_ z9=>wr (da (de z9 (ws λ_ ue=>ws λ_ ub=>wr (dm ?_))))))));refine dv 62 5 (r.arr EE).sl (dm (de ub (EN ?_)));refine Fk (G:=Nat×List (Value×List Cell)×Value×Value) (λ(k,qs,vr,vn)=>[(1,ED b1 0),(2,.bool false),(3,I 0),(9,vp),(11,ED b2 0),(12,vr),(13,vn),(55,vp),(56,I ↑p.length),(57,I ↑k)]) (λ(k,qs,vr,vn) w'=>Mod (λk=>κ k≠0) w w'/\EL w' b1 [ED bs 0] 28/\StE κ1 bs bd bl bo bm vf L1 D1 V ts1 [] dead w'/\Vc.Xbn Tryz.prog 104 Gi pO w' bo (ts1.map Tb.kv).length (lk (ts1.map Tb.kv))/\Sz N0 w'/\Vc.Own Fi.cs 5 62 N0 w' vp p/\EL w' b2 [I ↑lv] 3/\k<=p.length/\qs.map (·.2)=(p.take k).map (Ir ts1)/\Vc.Own IR 1 95 N0 w' vr qs/\QsE N0 qs w'/\Vc.Own FT 1 9 N0 w' vn ((p.take k).map λf=>Gb f.id)) (λ(k,qs,vr,vn)=>p.length-k) (0,[],.slice none 0 0,.slice none 0 0) ?_ ?_ ?_
 ·exact HS
 ·exact⟨hx,m1,Z,ha,O,r,m2,Ad _,rfl,Vc.Own.nil,⟨λq hq=>(by cases hq)⟩,Vc.Own.nil⟩
 intro X8 g8 w8 z6;obtain⟨k,qs,vr,vn⟩:=g8;clear hx m1 Z ha O r m2;obtain⟨hx,m1,Z,ha,O,r,m2,hk1,xp,Y,hQ,J⟩:=z6;refine ws λ_ zp=>wr (dp (Fa rfl rfl) (de zp (ws λ_ uc=>wi (λc4=>?_) λc4=>?_)))
 ·obtain⟨f,hk⟩:∃f,p[k]?=some f:=Fq;have yn:=hP.sub f (Ak hk);obtain⟨t,yt,zt⟩:=hy.fwd f yn.1;have ht:Hl ts1 (f.lev,f.id)=some t:=by rw[<-zt.h];exact M4 hy.nod yt
  have xt:=LZ hy.isv f yn.1;have yf:=congrArg A7 xp;rw[An,An,A4]at yf;refine EG (uc _ _ (ws λ_ z7=>EN (ws λ_ ug=>wr (di 62 5 (r.arr EE).sl rfl ((r.arr EE).lt hk) (dq (Fb E9 rfl rfl ((r.arr EE).row hk)) (FG (cs:=[.int .i64 0,.int .i64 0,.int .i64 0,S [],S []]) rfl E9 RX.all (λb3 w9 e3 x9 m3=>?_)))))));have g3:=hx.ge e3;have n3_1:=m1.ltb e3;have n3_2:=m2.ltb e3;have n3_mp9:=ha.lt;have a3_hS:=Z.lt;have a3_hSz:=O.le;have xw:=r.ltb e3;have xh:=Y.ltb e3;have ye:=hQ.lt;have xv:=J.ltb e3;have m1:=m1.ext x9;have Z:=Z.ext x9;have ha:=ha.ext x9;have O:=O.ext x9;have r:=r.ext x9;have m2:=m2.ext x9;have Y:=Y.ext x9;have hQ:=hQ.ext x9;have J:=J.ext x9;have hx:=hx.ext x9;refine FM m3 (λw10 xb xs10 m3=>?_);dsimp only [Fe,Ag,Af,Ai]at m3;have m1:=m1.mo xb;have Z:=Z.mod xb (λk9 h9 e9=>by have h2:k9=b3:=e9;have h8:=hb k9 h9;have h7:=O.le;omega);have ha:=ha.mod xb (by intro h;have h2:_=b3:=h;omega);have O:=O.mod xb trivial;have r:=r.mod xb (by intro k hk h;have h1:=xw k hk;have h2:k=b3:=h;omega);have m2:=m2.mo xb;have Y:=Y.mod xb (by intro k hk h;have h1:=xh k hk;have h2:k=b3:=h;omega);have hQ:=hQ.mod xb (λq hq k hk e9=>by have h2:k=b3:=e9;have h8:=ye q hq k hk;omega);have J:=J.mod xb (by intro k hk h;have h1:=xv k hk;have h2:k=b3:=h;omega);have hx:=hx.o1 xb;refine de ug (ws λ_ uf=>F4 (R:=Mod (λk=>vr.ownBlock=some k)) J0 JY E9 [1,4,6,8,10] [(0,.p,false),(1,.l,false),(2,.p,false),(3,.p,false),(4,.l,false),(5,.p,false),(6,.l,false),(7,.p,false),(8,.l,false),(9,.p,false),(10,.l,false),(11,.x,false),(12,.x,false),(13,.x,false),(14,.p,false)] rfl E9 E9 (λw11 x0=>?_));have hz:=EJ x0;clear x0;have m1:=m1.ext hz;have Z:=Z.ext hz;have ha:=ha.ext hz;have O:=O.ext hz;have r:=r.ext hz;have m2:=m2.ext hz;have Y:=Y.ext hz;have hQ:=hQ.ext hz;have J:=J.ext hz;have m3:=m3.ext hz;have hx:=hx.ext hz;refine dm ?_;refine dL rfl (λ_ hR=>((m1.mod hR (λe=>by have h8:=(Y.lt _ e).1;omega)).at rfl)) (dz rfl (df 4 rfl (dL rfl (λ_ hR=>((Z.m.mod hR (λe=>by have h8:=(Y.lt _ e).1;have h7:=hb bs (by rw[Z.k0];decide);omega)).at rfl)) (df 1 rfl (dL rfl (λ_ hR=>((m3.mod hR (λe=>Y.ne_blk m3 rfl e)).at rfl)) (df 0 rfl (dL rfl (λ_ hR=>((m3.mod hR (λe=>Y.ne_blk m3 rfl e)).at rfl)) (db (zs:=[.int .i64 0,.int .i64 0]) (pl:=[(0,1),(1,1)]) (pv:=[(0,_),(1,_)]) (cs:=[_,_]) ?_))))))));refine FK (v:=ED t.bt 0) rfl (λw' hR=>LV.to (Ly LL (kx:=(f.lev,f.id)) (z0:=none) rfl rfl E9 (ha.mod hR (ha.ne_own Y)) ⟨xt.2,xt.1⟩) (by rw[Ny];exact Xf ht)) ?_;have xl:=O.le;refine cG (Xm t.bt t.vl t.vb t.cs [] [] _ (Z.tb t yt)) RX.mod λvt w12 hj xz=>?_;have hsz12:=hx.size;have m1:=m1.ext hj;have Z:=Z.ext hj;have ha:=ha.ext hj;have O:=O.ext hj;have r:=r.ext hj;have m2:=m2.ext hj;have Y:=Y.ext hj;have hQ:=hQ.ext hj;have J:=J.ext hj;have m3:=m3.ext hj;have hx:=hx.ext hj;rw[RA]at xz;have hg:=xz.mono xl;refine Ib (e:=95) (sz:=1) (zs:=[.slice none 0 0]) (pv:=[(0,?a37_0)]) (cs:=[?a37_0]) rfl E9 ⟨rfl,rfl⟩ E9 rfl ?h37 ?f37 RX.mod (λb4 w13 e4 hh m4=>?k37)
  case h37=>refine⟨rfl,?_,trivial⟩<;>(conv=>lhs;whnf)
  case f37=>simp [Hw,Fe,Aw,hg.sl.cells]
  have g4:=hx.ge e4;have n4_1:=m1.ltb e4;have n4_2:=m2.ltb e4;have n4_3:=m3.ltb e4;have n4_mp9:=ha.lt;have a4_hS:=Z.lt;have a4_hSz:=O.le;have o4_hoP:=r.ltb e4;have o4_hoQ:=Y.ltb e4;have a4_hQ:=hQ.lt;have o4_hoN:=J.ltb e4;have m1:=m1.ext hh;have Z:=Z.ext hh;have ha:=ha.ext hh;have O:=O.ext hh;have r:=r.ext hh;have m2:=m2.ext hh;have Y:=Y.ext hh;have hQ:=hQ.ext hh;have J:=J.ext hh;have m3:=m3.ext hh;have hg:=hg.ext hh;have hx:=hx.ext hh;refine Gv (lx:=[(vt,t.cs)]) (e:=95) (sz:=1) (by':=24) rfl E9 E9 EE Y (m4.arr (enc:=IR) (sz:=1) (l:=[(vt,t.cs)]) rfl EE rfl (Ap rfl)) rfl rfl (by intro x y3 u hu;rw[Ah.1 y3]at hu;simp at hu;rw[hu];exact hg.sl.one) (by simp;omega) EK O.le (.inr λ_ h=>h) (λvq w14 yd hr=>?_);have m1:=m1.mod hr (by intro h;have h1:=(Y.lt _ h).1;omega);have Z:=Z.mod hr (by exact(λk hk e=>absurd (hb k hk) (Bi.2 (Y.lt k e).1)));have ha:=ha.mod hr (ha.ne_own Y);have O:=O.mod hr (by trivial);have r:=r.mod hr (by exact(λk hk=>r.ne Y rfl hk));have m2:=m2.mod hr (by intro h;exact Y.ne_blk m2 rfl h);have hQ:=hQ.mod hr (by exact hQ.ne Y rfl);have J:=J.mod hr (by exact(λk hk=>J.ne Y rfl hk));have m3:=m3.mod hr (by intro h;have h1:=xh _ h;omega);have hg:=hg.mod hr (by exact(λk hk=>hg.ne Y rfl hk));have hx:=hx.own hr (λi hi xc=>(by have:=(Y.lt i hi).1;omega));have Y:=yd;clear m4;refine da (de uf (wr (dm ?_)));refine df 0 rfl (dl rfl (m3.at rfl) (cP (N8 f.id _ (hgv.mod hx (λk hk e=>e (hgvs k hk))) xt.1 (by have:=N9 xt.1;omega)) RX.all λw15 h5=>?_));have m1:=m1.ext h5;have Z:=Z.ext h5;have ha:=ha.ext h5;have O:=O.ext h5;have r:=r.ext h5;have m2:=m2.ext h5;have Y:=Y.ext h5;have hQ:=hQ.ext h5;have J:=J.ext h5;have hg:=hg.ext h5;have hx:=hx.ext h5;refine li (e:=9) (sz:=1) (zs:=[S []]) (pv:=[(0,_)]) (cs:=[_]) RX.all (λb5 w16 e5 h6 m5=>?_);have g5:=hx.ge e5;have n5_1:=m1.ltb e5;have n5_2:=m2.ltb e5;have n5_mp9:=ha.lt;have a5_hS:=Z.lt;have a5_hSz:=O.le;have o5_hoP:=r.ltb e5;have o5_hoQ:=Y.ltb e5;have a5_hQ:=hQ.lt;have o5_hoN:=J.ltb e5;have m1:=m1.ext h6;have Z:=Z.ext h6;have ha:=ha.ext h6;have O:=O.ext h6;have r:=r.ext h6;have m2:=m2.ext h6;have Y:=Y.ext h6;have hQ:=hQ.ext h6;have J:=J.ext h6;have hg:=hg.ext h6;have hx:=hx.ext h6;refine Gv (lx:=[Gb f.id]) (e:=9) (sz:=1) (by':=16) rfl E9 E9 EE J (m5.arr (enc:=FT) (sz:=1) (l:=[Gb f.id]) rfl EE rfl (Ap rfl)) rfl rfl (by intro x _ u hu;simp at hu;rcases hu with rfl<;>rfl) (by simp;omega) EK O.le (.inl rfl) (λzx w17 yi xa=>?_);have m1:=m1.mod xa (by intro h;have h1:=(J.lt _ h).1;omega);have Z:=Z.mod xa (by exact(λk hk e=>absurd (hb k hk) (Bi.2 (J.lt k e).1)));have ha:=ha.mod xa (ha.ne_own J);have O:=O.mod xa (by trivial);have r:=r.mod xa (by exact(λk hk=>r.ne J rfl hk));have m2:=m2.mod xa (by intro h;exact J.ne_blk m2 rfl h);have Y:=Y.mod xa (by exact(λk hk=>Y.ne J rfl hk));have hQ:=hQ.mod xa (by exact hQ.ne J rfl);have hg:=hg.mod xa (by exact(λk hk=>hg.ne J rfl hk));have hx:=hx.own xa (λi hi xc=>(by have:=(J.lt i hi).1;omega));have J:=yi;clear m5;refine da (de z7 (wr ?_));refine pa rfl rfl (dm (EF (?_)));rw[show((p.take k).map λf=>Gb f.id)++[Gb f.id]=(p.take (k+1)).map λf=>Gb f.id by rw[Gs hk,AC];rfl]at J;exact⟨(k+1,qs++[(vt,t.cs)],vq,zx),HS,⟨hx,m1,Z,ha,O,r,m2,by omega,by rw[AC,xp,Gs hk,AC];show _++[t.cs]=_++[Ir ts1 f];rw[Oa ht],Y,hQ.snoc hg,J⟩,by simp only [];omega⟩
 rw[List.take_of_length_le EA]at xp J;have yf:=congrArg A7 xp;rw[An,An]at yf;have yw:qs.flatMap (·.2)=I5 ts1 p:=by rw[Ru xp,PU]
 have hcl:(I5 ts1 p).length<=(Fx [] ts1).length:=by have h9:=Qs p ts1 hy.nod (Xon hP.nod);unfold Fx;rw[AE];exact h9
 refine Ff (ue _ _ (ws λ_ ui=>wr (dm ?_)));have xl:=O.le;refine cG (Qj qs vr _ (Y.arr EE) (λq hq=>(hQ.row q hq).arr EE) EA (by rw[yw];omega)) RX.all λvm w18 xe yv=>?_;have hsz18:=hx.size;have m1:=m1.ext xe;have Z:=Z.ext xe;have O:=O.ext xe;have r:=r.ext xe;have m2:=m2.ext xe;have J:=J.ext xe;have hx:=hx.ext xe;obtain⟨m,xm,za⟩:=yv;rw[yw]at xm;have hw:=za.mono xl;have y6:=OM xm;refine dp (NR rfl) (cD (Yau m vm N0 52 [ED b1 0,ED b2 0] (λc=>!HF V.fs ↑lv c) _ hw EA E9 (λw2 m9 x y3=>Yat bs bd bl V.next vf bo bm dead V.fs x lv b1 b2 w2 (Z.m.mod m9 (λe=>by have h8:=(hw.lt _ e).1;have h7:=hb bs (by rw[Z.k0];decide);omega)) (Z.vs.mod m9 (λhl e=>by have h8:=(hw.lt _ e).1;have h7:=hb (base vf).1 (by rw[Z.k4 hl];decide);omega)) EA y5 EA (m1.mod m9 (λe=>by have h8:=(hw.lt _ e).1;omega)) (m2.mod m9 (λe=>hw.ne_blk m2 rfl e)))) (.inl rfl) λvd y9 xf yy=>?_);have hsz19:=hx.size;have m1:=m1.mod xf (by exact(λe=>by have h8:=(hw.lt _ e).1;omega));have Z:=Z.mod xf (by exact(λk hk e=>absurd (hb k hk) (Bi.2 (hw.lt k e).1)));have O:=O.mod xf (by trivial);have r:=r.mod xf (by exact(λk hk=>r.ne hw rfl hk));have m2:=m2.mod xf (by exact(λe=>hw.ne_blk m2 rfl e));have J:=J.mod xf (by exact(λk hk=>J.ne hw rfl hk));have hx:=hx.own xf (λi hi xc=>absurd xc (Bi.2 ((Ae yx (hw.lt i hi).1))));have e9:m.filter (λx=>!(!HF V.fs ↑lv x))=m.filter (HF V.fs ↑lv):=by congr 1;funext x;rw[Bool.not_not]
 have zb:Vc.Own Cell.cs 4 79 N0 y9 vd (m.filter (HF V.fs ↑lv)):=by rw[<-e9];exact yy
 have hfm:=B0 (HF V.fs ↑lv) m;refine da (de ui (ws λ_ zl=>ws λ_ z3=>wr ?_));refine dl rfl (m1.at rfl) (dm ?_);refine dl rfl (m2.at rfl) (dm ?_);have ze:∀c∈m.filter (HF V.fs ↑lv),c.key.length<=4096/\c.val.length<=16384:=λc hc=>by
  obtain⟨t,ht,_,z8⟩:=(VV hy (λf hf=>(hP.sub f hf).1)).1 (y6.2 c (Az.1 hc).1);have h8:=hSt.cellsB hn c (y7 c (GC.2 (.inr ⟨t,ht,z8⟩)));exact⟨h8.1,h8.2.1⟩
 have hszx:=hx.size;have xl:=O.le;obtain⟨NK,hNK⟩:∃z,z=y9.heap.size:=⟨_,rfl⟩;have yb:(p.map λf=>Gb f.id)≠[]->(base vn).1<NK/\N0<=(base vn).1:=λhl=>by rw[hNK];exact⟨(J.base_ge hl).2,(J.base_ge hl).1⟩
 refine cD (Wl κ1 bs bd bl bo bm vf L1 D1 V ts1 [] dead (m.filter (HF V.fs ↑lv)) vd ↑lv p vp _ Z (zb.arr EE) EA ze EA (r.arr EE) EA (λhl=>xi _ (r.base_ge hl).1) (λf hf=>LZ hy.isv f (hP.sub f hf).1) hy.isv (hgv.mod hx (λk hk e=>e (hgvs k hk))) (λk hk=>(xg k (hgv.lt k hk)).trans (hgvs k hk)) EA (λhl=>xi _ (zb.base_ge hl).1)) (.inl rfl) λu20 w20 yh yo=>?_;have hsz20:=hx.size;have m1:=m1.mod yh (by exact(λe=>e x8));have J:=J.mod yh (by exact(λk hk e=>e (xi k (J.lt k hk).1)));have hx:=hx.own yh (λi hi xc=>(by have e1:κ1 i≠0:=hi;rw[xg i xc]at e1;exact e1));obtain⟨e2,κ2,xr,L2,D2,V2,ts2,dead2,rfl,xj,yk,xk⟩:=yo;have Z:=yk;rw[<-hNK]at xj;have xq:∀k,k<w.heap.size->κ2 k=κ k:=λk hk=>(xj k EA).trans (xg k hk);refine da (de z3 (ws λ_ uj=>wr (dm ?_)));refine dp (F8 rfl rfl) (de uj (wi (λc5=>?_) λc5=>?_))
 ·refine ws λ_ zo=>wr (dm (da (da (de zo (EH ?_)))));refine rt ?_;rw[xo]at xk;exact⟨_,rfl,hx,false,e2,κ2,bm,xr,L2,D2,V2,ts2,[],dead2,rfl,xq,Z,.inr (.inr ⟨rfl,xd,ok,0,L1,D1,V,ts1,[],dead,xn,.inr ⟨rfl,p,lv,m,e2,D2,dead2,hp,hP,xm,xk,rfl,.inl ⟨c5,rfl,rfl,rfl,rfl⟩⟩⟩)⟩
 refine EG (zl _ _ (ws λ_ z2=>ws λ_ ud=>wr (dl rfl (m1.at rfl) (dz rfl (df 0 rfl (dl rfl (Z.m.at rfl) (dm ?_)))))));have y4:=hx.size;obtain⟨F,hD,xy,ym⟩:=Z.ld.disk;refine cD (P5 F bd D2 (p.map λf=>Gb f.id) vn _ hD (J.arr EE) (by rw[An];omega) (λhl e=>by have e1:κ2 (base vn).1=1:=xy _ e;rw[xj _ (yb hl).1,xi _ (yb hl).2]at e1;cases e1)) (.inl rfl) λu21 zg xx yr=>?_;have hsz21:=hx.size;have m1:=m1.mod xx (by exact(λe=>by have e1:κ2 b1=1:=xy _ e;rw[xj b1 EA,x8]at e1;cases e1));have hx:=hx.own xx (λi hi xc=>(by have e1:κ2 i=1:=xy i hi;rw[xq i xc]at e1;show κ i≠0;rw[e1];decide));obtain⟨rfl,yl⟩:=yr;have yj:=Z.ledger (xx.mono (λi hi _=>xy i hi)) (ym _ _ xx yl);have ya:∀k,k<w.heap.size->HE κ2 1 _ _ k=κ k:=λk hk=>(Ld (κ:=κ2) (i:=1) (w':=zg) (A0 hk y4)).trans (xq k hk);have Z:=yj;refine da (de ud (ws λ_ zq=>wr (dm ?_)));refine dp (F8 rfl rfl) (de zq (wi (λc6=>?_) λc6=>?_))
 ·refine ws λ_ zv=>wr (dl rfl (m1.at rfl) (dm ?_));refine cD (Ph bs bd bl V2.next xr bo bm dead2 (D2.rem (p.map λf=>Gb f.id)).1 _ Z.m) (.inl rfl) λu22 w22 y8 yz=>?_;have hsz22:=hx.size;have hx:=hx.own y8 (λi hi xc=>(by have e1:i=bs:=hi;rw[e1,h.k0];decide));obtain⟨rfl,yl⟩:=yz;have yj:=Z.head y8 yl;have Z:=yj;refine da (da (de zv (EH ?_)));refine rt ?_;have yg:e2=0:=AI c5;subst yg;rw[xo]at xk;exact⟨_,rfl,hx,false,_,_,bm,xr,L2,_,V2,ts2,[],_,rfl,ya,Z,.inr (.inr ⟨rfl,xd,ok,0,L1,D1,V,ts1,[],dead,xn,.inr ⟨rfl,p,lv,m,0,D2,dead2,hp,hP,xm,xk,rfl,.inr ⟨rfl,rfl,.inl ⟨c6,rfl,rfl,by simp [c6]⟩⟩⟩⟩)⟩
 refine EG (z2 _ _ (ws λ_ z5=>wr (da (da (de z5 (EH ?_))))));refine rt ?_;have yg:e2=0:=AI c5;subst yg;rw[xo]at xk;exact⟨_,rfl,hx,true,0,_,bm,xr,L2,_,V2,ts2,[],_,rfl,ya,Z,.inr (.inr ⟨rfl,xd,ok,0,L1,D1,V,ts1,[],dead,xn,.inr ⟨rfl,p,lv,m,0,D2,dead2,hp,hP,xm,xk,rfl,.inr ⟨rfl,rfl,.inr ⟨AI c6,rfl,rfl,rfl⟩⟩⟩⟩)⟩
theorem X1r (bt:Nat)(vl vb:Value)(l:List Cell)(w:World)(hT:TblE bt vl vb l w) :
  Calls Tryz.prog 125 [ED bt 0].toArray w (Pure w (S (FZ l 0).key)):=by
 refine cw Tryz.func125 ?_;have r:=EB.refl w;have hT0:=hT;obtain⟨⟨vp,hm⟩,z,hb,J⟩:=hT;obtain⟨hl1,hl2,Z,hen⟩:=L6 J;obtain⟨hAll,hRis⟩:=Ki.1 Z;obtain⟨c,hk⟩:∃c,l[0]?=some c:=Fq;refine ws λ_ Z1=>wr (da (de Z1 (ws λ_ Z2=>ws λ_ Y=>wr (dm ?_))));refine dp (Gj E9 rfl rfl) (de Y (wi (λO=>?_) λO=>?_))
 ·exact absurd O EQ
 refine EG (Z2 _ _ (ws λ_ Z4=>wr (dm ?_)));refine dz rfl (df 0 rfl (dl rfl ((hm.ext r).at rfl) (di 79 4 (z.ext r).sl rfl ((z.ext r).lt hk) (df 0 rfl (dl rfl (((z.ext r).row hk).at rfl) (da (de Z4 (EH ?_))))))));refine ro ?_;rw[Fw hk];exact⟨rfl,r⟩
theorem X74 (bt:Nat)(vl vb:Value)(l:List Cell)(w:World)(hT:TblE bt vl vb l w) :
  Calls Tryz.prog 126 [ED bt 0].toArray w (Pure w (S (FZ l (l.length-1)).key)):=by
 refine cw Tryz.func126 ?_;have r:=EB.refl w;have hT0:=hT;obtain⟨⟨vp,hm⟩,O,hb,Y⟩:=hT;obtain⟨hl1,hl2,hE,hen⟩:=L6 Y;obtain⟨hAll,hRis⟩:=Ki.1 hE;obtain⟨c,hk⟩:∃c,l[l.length-1]?=some c:=Fq;refine ws λ_ Z1=>wr (da (de Z1 (ws λ_ Z2=>ws λ_ Z3=>wr (dm ?_))));refine dp (Gj E9 rfl rfl) (de Z3 (wi (λZ=>?_) λZ=>?_))
 ·exact absurd Z EQ
 refine EG (Z2 _ _ (ws λ_ Z4=>F4 (R:=EB) EB.refl (λ_ _ _=>EB.trans) E9 [3,7,12] [(0,.p,false),(1,.p,false),(2,.p,false),(3,.l,false),(4,.p,false),(5,.p,false),(6,.p,false),(7,.l,false),(8,.p,false),(9,.p,false),(10,.p,false),(11,.p,false),(12,.l,false),(13,.p,false)] rfl E9 E9 (λw1 J=>?_)));have x1:=EJ J;clear J;have r:=r.trans x1;refine dm ?_;refine dz rfl (df 0 rfl (dL rfl (λ_ z=>((hm.ext (r.trans z)).at rfl)) (dm ?_)));refine dz rfl (df 0 rfl (dL rfl (λ_ z=>((hm.ext (r.trans z)).at rfl)) (dv 79 4 (O.ext r).sl (EW (v:=I ↑(l.length-1)) rfl (Ga rfl rfl (by unfold ET;omega)) (by show I _=I _;congr 1;omega) (di 79 4 (O.ext r).sl rfl ((O.ext r).lt hk) (df 0 rfl (dL rfl (λ_ z=>((((O.ext r).ext z).row hk).at rfl)) (da (de Z4 (EH ?_))))))))));refine ro ?_;rw[Fw hk];exact⟨rfl,r⟩
end Go.Proofs.YtiooodckiddpmaaGreatDoor
