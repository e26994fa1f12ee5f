/-
 A part of the proof: LvA LvB LvC LvD LvE LvF LsA LsB MemC SpSkip SpTow MemD MemE MemF.
-/
import Derived.Test.YtiooodckiddpmaaGreatDoorSkA
import Derived.Test.YtiooodckiddpmaaGreatDoorChecked
import Derived.KernelRfl
import Derived.Test.YtiooodckiddpmaaGreatDoorSkD
import Derived.Test.YtiooodckiddpmaaGreatDoorSkB
open List renaming length_append->Aa,take->Ad,set->Af,drop->Ag,mem_singleton->Ah,mem_cons->Aj,mem_of_getElem?->Ak,mem_cons_self->Al,mem_cons_of_mem->Am,map_cons->An,length_map->Ao,getElem?_eq_some_iff->Ap,getElem?_eq_getElem->Ar,mem_append->Aw,replicate->Ax,take_of_length_le->Ay,flatMap_cons->AB,length->AC,nil_append->AE,length_set->AF,length_cons->AG,map_append->AH,append_nil->AO,pairwise_cons->AQ,cons_append->AT,nodup_cons->AV,getElem?_take->AW,all_eq_true->AY,map_nil->Be,getElem?_eq_none->Bm,getElem?_append_left->Bt,mem_append_right->Bw,ext_getElem?->BA,getElem?_set_self->BB,filter_cons->BC,mem_append_left->BD,getElem?_append_right->BE,nodup_append->BG,any_eq_true->BK,flatMap_nil->BU,nodup_nil->BV,getElem?_set_ne->Cb,getElem?_set->C4,all_append->C6,all_cons->CM,all_nil->Df,dropWhile_cons->Ef,head?_cons->Eg,headD_cons->Ei,takeWhile_cons->Ej
open Nat renaming le_refl->Ab,zero_le->Ae,le_trans->Ai,le_of_ble_eq_true->Av,lt_of_lt_of_le->Az,lt_irrefl->A6,zero_add->A9,lt_of_lt_of_eq->AA,not_lt_zero->B6
open Bool renaming and_eq_true->Au,not_eq_true->Cf,true_and->Cq,and_eq_false_iff->C8
open Option renaming some->A0,filter_some->Eh
open Decidable renaming of_not_not->AK
open List.Pairwise renaming nil->Bp
set_option maxRecDepth 100000
set_option maxHeartbeats 4000000
set_option linter.unusedVariables false
set_option linter.unusedSimpArgs false
namespace Go.Proofs.YtiooodckiddpmaaGreatDoor
open Go.Vc Go.Sp
attribute [local irreducible] W XW Dw Gs
theorem TR (a b:EC):(!Op.bytesLess a b && !a == b)=Op.bytesLess b a:=by
 rcases JK a b with h|h|h
 ·subst h;have:=I1 a;simp only [Fg]at this;simp [this]
 ·have h2:=K9 h;simp only [Fg]at h h2;simp [h,h2]
 ·have h2:=K9 h;have h3:=MN h;simp only [Fg]at h h2;simp [h,h2];exact λe=>h3 e.symm
theorem VL (a b:EC):(Op.bytesLess a b || a == b)=!Op.bytesLess b a:=by
 rw[<-TR a b];cases Op.bytesLess a b<;>cases(a == b)<;>rfl
section
variable {P:Program}{E:Fh}{d:Option Tmp}{ty:TypeId}{pos:String}{af:Array Edge}{g:Option (Nat×Bool)}
theorem Tr {x y:Operand}{T U:TypeId}{a b:EC}(hx:ev E x=S a)(hy:ev E y=S b):PV P ⟨d,.binOp .gtr T x y U,ty,pos,af,g⟩ E (.bool (Op.bytesLess b a)):=λw=>by
 rw[<-TR];simp [execOp,hx,hy,eqGuard,binOp,Op.stringOp]
theorem X9v {x y:Operand}{T U:TypeId}{a b:EC}(hx:ev E x=S a)(hy:ev E y=S b):PV P ⟨d,.binOp .leq T x y U,ty,pos,af,g⟩ E (.bool (!Op.bytesLess b a)):=λw=>by
 rw[<-VL];simp [execOp,hx,hy,eqGuard,binOp,Op.stringOp]
end
theorem Xwl {a b:Fi}(h1:a.lev=0)(h2:b.lev=0):Hw a b=GI a.id b.id:=by unfold Hw;rw[if_pos ⟨h1,h2⟩]
theorem U6 {a b:Fi}(h:¬ (a.lev=0/\b.lev=0)):Hw a b=if GI a.lev b.lev≠0 then GI a.lev b.lev else HB a.fst b.fst:=by unfold Hw;rw[if_neg h]
theorem X55 {a b:EC}(h:Fg a b=true):HB a b=-1:=if_pos h
theorem X56 {a b:EC}(h:Fg a b=false)(h2:Fg b a=true):HB a b=1:=by unfold HB;rw[if_neg (by rw[h];decide),if_pos h2]
theorem X57 {a b:EC}(h:Fg a b=false)(h2:Fg b a=false):HB a b=0:=by unfold HB;rw[if_neg (by rw[h];decide),if_neg (by rw[h2];decide)]
def Li : List Int->Int
 | a :: r=>if a≠0 then a else Li r
 | []=>0
theorem Oz (a b:Int):Li [a,b]=if a≠0 then a else b:=by
 unfold Li;unfold Li;unfold Li;split
 ·rfl
 ·split<;>simp_all
theorem Wn {l:List Int}{k:Nat}{x:Int}(h:l[k]?=some x):Li (l.drop k)=if x≠0 then x else Li (l.drop (k+1)):=by rw[Jd h];rfl
theorem Ye (x:Int)(w:World) :
  Calls Tryz.prog 304 [I x].toArray w (Pure w (B false)):=by
 refine cw Tryz.func304 ?_;have r:=ED.refl w;refine ws λ_ z=>wr (da (de z (ws λ_ J=>wr (dm (dm ?_)))));refine dp (FH rfl rfl) (da (de J (EJ ?_)));refine ro ?_;exact⟨by simp,r⟩
theorem TQ (x:EC)(w:World) :
  Calls Tryz.prog 305 [S x].toArray w (Pure w (B false)):=by
 refine cw Tryz.func305 ?_;have r:=ED.refl w;refine ws λ_ z=>wr (da (de z (ws λ_ J=>wr (dm (dm ?_)))));refine dp (Me rfl rfl) (da (de J (EJ ?_)));refine ro ?_;exact⟨by simp,r⟩
theorem Ql (x y:Int)(w:World) :
  Calls Tryz.prog 247 [I x,I y].toArray w (Pure w (I (GI x y))):=by
 refine cw Tryz.func247 ?_;have r:=ED.refl w;refine ws λ_ Z1=>wr (da (de Z1 (ws λ_ Z2=>wr (dm ?_))));refine cP (Ye x _) RX.all λw1 x1=>?_;have r:=r.trans x1;refine da (de Z2 (ws λ_ Z3=>wr (dm ?_)));refine cP (Ye y _) RX.all λw2 x2=>?_;have r:=r.trans x2;refine da (de Z3 (ws λ_ Z4=>ws λ_ Z5=>wr (dm (de Z5 ?_))));refine wc (λc1=>?_) λc1=>?_
 ·cases c1
 refine EI (Z4 _ _ (ws λ_ Z6=>ws λ_ Z7=>wr (dm (de Z7 ?_))));refine wc (λc2=>?_) λc2=>?_
 ·cases c2
 refine EI (Z6 _ _ (ws λ_ Z8=>ws λ_ Z9=>wr (dm (dm ?_))));refine dp (Fb rfl rfl) (de Z9 (wi (λc3=>?_) λc3=>?_))
 ·refine ws λ_ z=>wr (da (de z (EJ ?_)));refine ro ?_;refine⟨?_,r⟩;unfold GI;rw[if_pos EB];done
 refine EI (Z8 _ _ (ws λ_ Y=>ws λ_ J=>wr (dm (dm ?_))));refine dp (Gg rfl rfl) (de J (wi (λc4=>?_) λc4=>?_))
 ·refine ws λ_ Z=>wr (da (de Z (EJ ?_)));refine ro ?_;refine⟨?_,r⟩;unfold GI;rw[if_neg EB,if_pos EB];done
 refine EI (Y _ _ (ws λ_ O=>wr (da (de O (EJ ?_)))));refine ro ?_;refine⟨?_,r⟩;unfold GI;rw[if_neg EB,if_neg EB]
theorem VB (x y:EC)(w:World) :
  Calls Tryz.prog 249 [S x,S y].toArray w (Pure w (I (HB x y))):=by
 refine cw Tryz.func249 ?_;have r:=ED.refl w;refine ws λ_ Z1=>wr (da (de Z1 (ws λ_ Z2=>wr (dm ?_))));refine cP (TQ x _) RX.all λw1 x1=>?_;have r:=r.trans x1;refine da (de Z2 (ws λ_ Z3=>wr (dm ?_)));refine cP (TQ y _) RX.all λw2 x2=>?_;have r:=r.trans x2;refine da (de Z3 (ws λ_ Z4=>ws λ_ Z5=>wr (dm (de Z5 ?_))));refine wc (λc1=>?_) λc1=>?_
 ·cases c1
 refine EI (Z4 _ _ (ws λ_ Z6=>ws λ_ Z7=>wr (dm (de Z7 ?_))));refine wc (λc2=>?_) λc2=>?_
 ·cases c2
 refine EI (Z6 _ _ (ws λ_ Z8=>ws λ_ Z9=>wr (dm (dm ?_))));refine dp (OL rfl rfl) (de Z9 (wc (λz=>?_) λz=>?_))
 ·refine ws λ_ J=>wr (da (de J (EJ ?_)));refine ro ?_;rw[X55 z];exact⟨rfl,r⟩
 refine EI (Z8 _ _ (ws λ_ ha=>ws λ_ Y=>wr (dm (dm ?_))));refine dp (Tr rfl rfl) (de Y (wc (λO=>?_) λO=>?_))
 ·refine ws λ_ hb=>wr (da (de hb (EJ ?_)));refine ro ?_;rw[X56 z O];exact⟨rfl,r⟩
 refine EI (ha _ _ (ws λ_ Z=>wr (da (de Z (EJ ?_)))));refine ro ?_;rw[X57 z O];exact⟨rfl,r⟩
theorem SD (l:List Int)(v:Value)(w:World)(hv:EQ Vc.encI 1 w v l)(hl:l.length<=1000000) :
  Calls Tryz.prog 248 [v].toArray w (Pure w (I (Li l))):=by
 refine cw Tryz.func248 ?_;have r:=ED.refl w;refine ws λ_ Z1=>wr (da (de Z1 (ws λ_ Z2=>wr (da (de Z2 (ws λ_ Z3=>ws λ_ Z4=>wr (dm ?_)))))));refine dv 3 1 hv.sl (dm (de Z4 (EM ?_)));refine Fq (G:=Nat) (λk=>[(3,I 0),(6,v),(7,I ↑l.length),(8,I ↑k)]) (λk w'=>ED w w'/\k<=l.length/\Li l=Li (l.drop k)) (λk=>l.length-k) 0 ?_ ?_ ?_
 ·exact Gc
 ·exact⟨r,Ae _,rfl⟩
 intro X1 g1 w1 z;revert z;revert g1;intro k z;clear r;obtain⟨r,hk1,ho⟩:=z;refine ws λ_ Z5=>wr (dp (Fb rfl rfl) (de Z5 (ws λ_ Z6=>wi (λc1=>?_) λc1=>?_)))
 ·obtain⟨x,hk⟩:∃x,l[k]?=some x:=Fw;refine EI (Z6 _ _ (ws λ_ Z7=>EM (ws λ_ Z=>wr (di 3 1 hv.sl rfl (hv.lt hk) (dl rfl (((hv.ext r).row hk).at0 rfl) (da (de Z (ws λ_ Z9=>wr (dm (dm ?_))))))))));refine dp (FH rfl rfl) (de Z9 (wi (λO=>?_) λO=>?_))
  ·refine ws λ_ J=>wr (dm (da (de J (EJ ?_))));refine ro ?_;refine⟨?_,r⟩;rw[ho,Wn hk,if_pos O]
  refine EI (Z7 _ _ (wr (pa rfl rfl (dm (EH (?_))))));refine⟨k+1,Gc,⟨r,by omega,?_⟩,by omega⟩;rw[ho,Wn hk,if_neg (λe=>e (AK O))]
 refine Fk (Z3 _ _ (ws λ_ Y=>wr (dm (da (de Y (EJ ?_))))));refine ro ?_;refine⟨?_,r⟩;rw[ho,List.drop_eq_nil_of_le EB];rfl
theorem Vi (s:EC)(w:World) :
  Calls Tryz.prog 181 [S s].toArray w (Pure w (B (Lj s))):=by
 refine cw Tryz.func181 ?_;have r:=ED.refl w;refine ws λ_ J=>wr (da (de J (ws λ_ z=>wr (dm ?_))));refine dt rfl (dp (IA rfl rfl) (dm ?_));refine F4 6 rfl (λO=>?_) (λO=>?_)
 ·refine dm ?_;refine dt rfl (dp (IG rfl rfl) (EP ?_));refine da (de z (EJ ?_));refine ro ?_;refine⟨?_,r⟩;simp only [Ending.returned.injEq,Value.bool.injEq];unfold Lj;rw[decide_eq_true (show 1<=s.length by omega),Cq];exact decide_eq_decide.2 EB
 refine dk (dk (dk (EP ?_)));refine da (de z (EJ ?_));refine ro ?_;refine⟨?_,r⟩;simp only [Ending.returned.injEq,Value.bool.injEq];unfold Lj;rw[decide_eq_false (show¬ 1<=s.length by omega)];rfl
theorem RR (a b:Fi)(w:World) :
  Calls Tryz.prog 175 [a.v,b.v].toArray w (Pure w (I (Hw a b))):=by
 refine cw Tryz.func175 ?_;have r:=ED.refl w;refine ws λ_ Z1=>wr (Gn rfl rfl rfl RX.all (λb1 w1 e1 x1 z=>?_));have g1:=r.ge e1;have r:=r.trans x1;refine Gn rfl rfl rfl RX.all (λb2 w2 e2 x2 J=>?_);have g2:=r.ge e2;have n2_1:=z.ltb e2;have z:=z.ext x2;have r:=r.trans x2;refine da (de Z1 (ws λ_ Z2=>ws λ_ Z3=>wr ?_));refine df 1 rfl (dl rfl (z.at rfl) (dp (GB rfl rfl) (dm ?_)));refine F4 8 rfl (λc1=>?_) (λc1=>?_)
 ·refine df 1 rfl (dl rfl (J.at rfl) (dp (GB rfl rfl) (EP (de Z3 ?_))));refine wi (λc2=>?_) λc2=>?_
  ·refine ws λ_ Z4=>wr (df 0 rfl (dl rfl (z.at rfl) (df 0 rfl (dl rfl (J.at rfl) (cP (Ql a.id b.id _) RX.all λw3 x3=>?_)))));have z:=z.ext x3;have J:=J.ext x3;have r:=r.trans x3;refine da (de Z4 (EJ ?_));refine ro ?_;refine⟨?_,r⟩;rw[Xwl EB EB];done
  refine EI (Z2 _ _ (ws λ_ Z5=>F9 (R:=ED) ED.refl (λ_ _ _=>ED.trans) EA [1,3,6,8] [(0,.p,false),(1,.l,false),(2,.p,false),(3,.l,false),(5,.p,false),(6,.l,false),(7,.p,false),(8,.l,false),(4,.x,false),(9,.x,false),(10,.x,false),(11,.x,false),(12,.p,false)] rfl EA EA (λw4 Z=>?_)));have x4:=EL Z;clear Z;have z:=z.ext x4;have J:=J.ext x4;have r:=r.trans x4;refine df 1 rfl (dL rfl (λ_ O=>((z.ext O).at rfl)) (df 1 rfl (dL rfl (λ_ O=>((J.ext O).at rfl)) (df 3 rfl (dL rfl (λ_ O=>((z.ext O).at rfl)) (df 3 rfl (dL rfl (λ_ O=>((J.ext O).at rfl)) (cP (Ql a.lev b.lev _) RX.ext λw5 x5=>?_))))))));have z:=z.ext x5;have J:=J.ext x5;have r:=r.trans x5;refine cP (VB a.fst b.fst _) RX.ext λw6 x6=>?_;have z:=z.ext x6;have J:=J.ext x6;have r:=r.trans x6;refine li (e:=3) (sz:=1) (zs:=[.int .i64 0]) (pv:=[(0,_),(1,_)]) (cs:=[_,_]) RX.ext (λb3 w7 e3 x7 m3=>?_);have g3:=r.ge e3;have n3_1:=z.ltb e3;have n3_2:=J.ltb e3;have z:=z.ext x7;have J:=J.ext x7;have r:=r.trans x7;refine cP (SD [GI a.lev b.lev,HB a.fst b.fst] _ _ (m3.arr (enc:=Vc.encI) (l:=[GI a.lev b.lev,HB a.fst b.fst]) rfl EF rfl ER) ER) RX.ext λw8 x8=>?_;have z:=z.ext x8;have J:=J.ext x8;have r:=r.trans x8;refine da (de Z5 (EJ ?_));refine ro ?_;refine⟨?_,r⟩;rw[U6 EB,Oz]
 refine dk (dk (dk (EP (de Z3 ?_))));refine Hf rfl (EI (Z2 _ _ (ws λ_ Z6=>F9 (R:=ED) ED.refl (λ_ _ _=>ED.trans) EA [1,3,6,8] [(0,.p,false),(1,.l,false),(2,.p,false),(3,.l,false),(5,.p,false),(6,.l,false),(7,.p,false),(8,.l,false),(4,.x,false),(9,.x,false),(10,.x,false),(11,.x,false),(12,.p,false)] rfl EA EA (λw9 Y=>?_))));have x9:=EL Y;clear Y;have z:=z.ext x9;have J:=J.ext x9;have r:=r.trans x9;refine df 1 rfl (dL rfl (λ_ O=>((z.ext O).at rfl)) (df 1 rfl (dL rfl (λ_ O=>((J.ext O).at rfl)) (df 3 rfl (dL rfl (λ_ O=>((z.ext O).at rfl)) (df 3 rfl (dL rfl (λ_ O=>((J.ext O).at rfl)) (cP (Ql a.lev b.lev _) RX.ext λw10 ha=>?_))))))));have r:=r.trans ha;refine cP (VB a.fst b.fst _) RX.ext λw11 hc=>?_;have r:=r.trans hc;refine li (e:=3) (sz:=1) (zs:=[.int .i64 0]) (pv:=[(0,_),(1,_)]) (cs:=[_,_]) RX.ext (λb4 w12 e4 hf m4=>?_);have g4:=r.ge e4;have r:=r.trans hf;refine cP (SD [GI a.lev b.lev,HB a.fst b.fst] _ _ (m4.arr (enc:=Vc.encI) (l:=[GI a.lev b.lev,HB a.fst b.fst]) rfl EF rfl ER) ER) RX.ext λw13 hb=>?_;have r:=r.trans hb;refine da (de Z6 (EJ ?_));refine ro ?_;refine⟨?_,r⟩;rw[U6 EB,Oz]
theorem X9y (a b:Fi)(w:World) :
  Calls Tryz.prog 182 [a.v,b.v].toArray w (Pure w (B (Io a b))):=by
 refine cw Tryz.func182 ?_;have r:=ED.refl w;refine ws λ_ Z1=>wr (Gn rfl rfl rfl RX.all (λb1 w1 e1 x1 z=>?_));have g1:=r.ge e1;have r:=r.trans x1;refine Gn rfl rfl rfl RX.all (λb2 w2 e2 Y J=>?_);have g2:=r.ge e2;have n2_1:=z.ltb e2;have z:=z.ext Y;have r:=r.trans Y;refine da (de Z1 (ws λ_ Z=>ws λ_ Z3=>wr ?_));refine df 1 rfl (dl rfl (z.at rfl) (dp (Gg rfl rfl) (dm ?_)));refine F4 8 rfl (λc1=>?_) (λc1=>?_)
 ·refine df 1 rfl (dl rfl (z.at rfl) (df 1 rfl (dl rfl (J.at rfl) (dp (GB rfl rfl) (EP (de Z3 ?_))))));refine wi (λc2=>?_) λc2=>?_
  ·refine ws λ_ Z4=>wr (df 4 rfl (dl rfl (z.at rfl) (df 3 rfl (dl rfl (J.at rfl) (dp (OL rfl rfl) (da (de Z4 (EJ ?_))))))));refine ro ?_;refine⟨?_,r⟩;unfold Io;rw[if_pos EB];done
  refine EI (Z _ _ (ws λ_ Z5=>wr (dq (Fe (k:=5) EA rfl rfl z.row) (dq (Fe (k:=5) EA rfl rfl J.row) (cP (RR a b _) RX.all λw3 O=>?_)))));have z:=z.ext O;have J:=J.ext O;have r:=r.trans O;refine dp (Fb rfl rfl) (da (de Z5 (EJ ?_)));refine ro ?_;refine⟨?_,r⟩;unfold Io;rw[if_neg EB]
 refine dk (dk (dk (dk (dk (EP (de Z3 ?_))))));refine Hf rfl (EI (Z _ _ (ws λ_ Z6=>wr (dq (Fe (k:=5) EA rfl rfl z.row) (dq (Fe (k:=5) EA rfl rfl J.row) (cP (RR a b _) RX.all λw4 x4=>?_))))));have r:=r.trans x4;refine dp (Fb rfl rfl) (da (de Z6 (EJ ?_)));refine ro ?_;refine⟨?_,r⟩;unfold Io;rw[if_neg EB]
theorem Xiz {lev:Int}{frm to:EC}{f:Fi}(h1:f.lev=lev)(h2:(!Op.bytesLess f.lst frm)=true)(h3:(!Op.bytesLess to f.fst)=true):Jo lev frm to f=true:=by
 unfold Jo;rw[decide_eq_true h1,show Fg f.lst frm=Op.bytesLess f.lst frm from rfl,h2,show Fg to f.fst=Op.bytesLess to f.fst from rfl,h3];rfl
theorem Xi0 {lev:Int}{frm to:EC}{f:Fi}(h1:¬ f.lev=lev):¬ Jo lev frm to f=true:=by unfold Jo;rw[decide_eq_false h1];simp
theorem Xi1 {lev:Int}{frm to:EC}{f:Fi}(h2:(!Op.bytesLess f.lst frm)=false):¬ Jo lev frm to f=true:=by unfold Jo;rw[show Fg f.lst frm=Op.bytesLess f.lst frm from rfl,h2];simp
theorem Xi2 {lev:Int}{frm to:EC}{f:Fi}(h3:(!Op.bytesLess to f.fst)=false):¬ Jo lev frm to f=true:=by unfold Jo;rw[show Fg to f.fst=Op.bytesLess to f.fst from rfl,h3];simp
theorem OC (n:Int)(fs:List Fi)(vf:Value)(lev:Int)(frm to:EC)(w:World)(hv:EQ Fi.cs 5 w vf fs)(hl:fs.length<=100000) :
  Calls Tryz.prog 108 [.agg ⟨[I n,vf]⟩,I lev,S frm,S to].toArray w (ES w (λu w'=>Vc.Own Fi.cs 5 62 w.heap.size w' u (HS fs lev frm to))):=by
 refine cw Tryz.func108 ?_;have r:=ED.refl w;refine ws λ_ Z1=>wr (Gn rfl rfl rfl RX.all (λb1 w1 e1 x1 m1=>?_));have g1:=r.ge e1;have r:=r.trans x1;refine da (de Z1 (ws λ_ Z2=>wr (da (de Z2 (ws λ_ Z3=>ws λ_ Z4=>wr ?_)))));refine df 1 rfl (dl rfl (m1.at rfl) (dv 62 5 (hv.ext r).sl (dm (de Z4 (EM ?_)))));refine Fq (G:=Nat×Value) (λ(k,O)=>[(1,I lev),(2,S frm),(3,S to),(8,.slice none 0 0),(9,O),(13,vf),(14,I ↑fs.length),(15,I ↑k)]) (λ(k,O) w'=>ED w w'/\k<=fs.length/\Vc.Own Fi.cs 5 62 w.heap.size w' O (HS (fs.take k) lev frm to)) (λ(k,O)=>fs.length-k) (0,.slice none 0 0) ?_ ?_ ?_
 ·exact KV
 ·exact⟨r,Ae _,Vc.Own.nil⟩
 intro X2 g2 w2 ha;obtain⟨k,O⟩:=g2;clear r m1;obtain⟨r,hk1,ho⟩:=ha;refine ws λ_ Z5=>wr (dp (Fb rfl rfl) (de Z5 (ws λ_ Z6=>wi (λc1=>?_) λc1=>?_)))
 ·obtain⟨f,hk⟩:∃f,fs[k]?=some f:=Fw;have hlen:=Xkp fs k lev frm to;refine EI (Z6 _ _ (ws λ_ Z=>EM (ws λ_ Z8=>wr (di 62 5 (hv.ext r).sl rfl ((hv.ext r).lt hk) (dq (Fe EA rfl rfl ((hv.ext r).row hk)) (FP (cs:=[.int .i64 0,.int .i64 0,.int .i64 0,S [],S []]) rfl EA RX.all (λb2 w3 e2 x3 J=>?_)))))));have g2:=r.ge e2;have z:=ho.ltb e2;have ho:=ho.ext x3;have r:=r.trans x3;refine FY J (λw4 x4 xs4 J=>?_);dsimp only [EY,Af,Ad,Ag]at J;have ho:=ho.mod x4 (by intro k hk h;have h1:=z k hk;have h2:k=b2:=h;omega);have r:=r.o1 x4;refine de Z8 (ws λ_ Z9=>wr (df 1 rfl (dl rfl (J.at rfl) (dm ?_))));refine dp (GB rfl rfl) (dm ?_);refine F4 23 rfl (λc2=>?_) (λc2=>?_)
  ·refine df 4 rfl (dl rfl (J.at rfl) (dm ?_));refine dp (RW rfl rfl) (EP ?_);refine dm ?_;refine I5 29 rfl (λc3=>?_) (λc3=>?_)
   ·refine df 3 rfl (dl rfl (J.at rfl) (dm ?_));refine dp (X9v rfl rfl) (EP (de Z9 ?_));refine wc (λc4=>?_) λc4=>?_
    ·refine wr (dm ?_);refine dq (Fe (k:=5) EA rfl rfl J.row) (li (e:=62) (sz:=5) (zs:=[.int .i64 0,.int .i64 0,.int .i64 0,S [],S []]) (pv:=[(0,.agg ⟨[_,_,_,_,_]⟩)]) (cs:=[_,_,_,_,_]) RX.all (λb3 w5 e3 x5 m3=>?_));have g3:=r.ge e3;have o3_ho:=ho.ltb e3;have ho:=ho.ext x5;have r:=r.trans x5;refine Hy (lx:=[f]) (e:=62) (sz:=5) (by':=56) rfl EA EA EF ho (m3.arr (enc:=Fi.cs) (sz:=5) (l:=[f]) rfl EF rfl (Av rfl)) rfl rfl (by intro x _ u hu;simp at hu;rcases hu with rfl|rfl|rfl|rfl|rfl<;>rfl) (by simp;omega) EN r.size (.inl rfl) (λvm2 w6 Y x6=>?_);have r:=r.own x6 (λi hi=>(ho.lt i hi).1);have ho:=Y;clear m3;refine da (de Z (wr ?_));refine pa rfl rfl (dm (EH (?_)));refine⟨(k+1,_),KV,⟨r,by omega,?_⟩,by simp only [];omega⟩;rw[PJ hk];rw[if_pos (Xiz EB ‹_› ‹_›)];exact ho
    refine EI (Z _ _ (wr (pa rfl rfl (dm (EH (?_))))));refine⟨(k+1,_),KV,⟨r,by omega,?_⟩,by simp only [];omega⟩;rw[PJ hk];rw[if_neg (Xi2 ‹_›)];exact ho
   refine dk (dk (dk (dk (EP (de Z9 ?_)))));refine Hf rfl (EI (Z _ _ (wr (pa rfl rfl (dm (EH (?_)))))));refine⟨(k+1,_),KV,⟨r,by omega,?_⟩,by simp only [];omega⟩;rw[PJ hk];rw[if_neg (Xi1 ‹_›)];exact ho
  refine dk (dk (dk (dk (EP ?_))));refine dm ?_;refine dk (dk (dk (dk (EP (de Z9 ?_)))));refine Hf rfl (EI (Z _ _ (wr (pa rfl rfl (dm (EH (?_)))))));refine⟨(k+1,_),KV,⟨r,by omega,?_⟩,by simp only [];omega⟩;rw[PJ hk];rw[if_neg (Xi0 EB)];exact ho
 refine Fk (Z3 _ _ (ws λ_ hb=>wr (dm (da (de hb (EJ ?_))))));refine ro ?_;exact⟨_,rfl,r,by rw[Ay EB]at ho;exact ho⟩
def KO {α:Type}(l cur:List α)(k:Nat):Prop:=cur.length=l.length/\∀i,i<l.length->cur[i]?=if i<k\/l.length-1-k<i then l[l.length-1-i]? else l[i]?
theorem X9z {α:Type}(l:List α):KO l l 0:=⟨rfl,λi hi=>by rw[if_neg EB]⟩
theorem Xwp {α:Type}{l cur:List α}{k:Nat}{a b:α}(h:KO l cur k)(hk:2*k+1<l.length)(ha:cur[k]?=some a)(hb:cur[l.length-1-k]?=some b):KO l ((cur.set k b).set (l.length-1-k) a) (k+1):=by
 refine⟨by rw[AF,AF];exact h.1,λi hi=>?_⟩;have h1:=h.2 k EB;have h2:=h.2 (l.length-1-k) EB;rw[ha,if_neg EB]at h1;rw[hb,if_neg EB]at h2;rw[C4]
 by_cases e:l.length-1-k=i
 ·rw[if_pos e,if_pos (by rw[AF,h.1];omega),if_pos EB,h1];congr 1;omega
 ·rw[if_neg e,C4]
  by_cases e2:k=i
  ·rw[if_pos e2,if_pos (by rw[h.1];omega),if_pos EB,h2];congr 1;omega
  ·rw[if_neg e2,h.2 i hi]
   by_cases e3:i<k\/l.length-1-k<i
   ·rw[if_pos e3,if_pos EB]
   ·rw[if_neg e3,if_neg EB]
theorem X0e {α:Type}{l cur:List α}{k:Nat}(h:KO l cur k)(hk:l.length<=2*k+1)(hk2:2*k<=l.length):cur=l.reverse:=by
 apply BA
 intro i
 by_cases hi:i<l.length
 ·rw[h.2 i hi,List.getElem?_reverse hi];split
  ·rfl
  ·congr 1;omega
 ·rw[Bm (by rw[h.1];omega),Bm (by simp;omega)]
def Ny (fs:List Fi)(key:EC):Nat->List Fi
 | 0=>(HS fs 0 key key).reverse
 | n+1=>Ny fs key n++HS fs (↑(n+1)) key key
theorem Yc (fs:List Fi)(key:EC):Ny fs key 4=JY fs key:=rfl
theorem VP (fs:List Fi)(key:EC)(n:Nat):(Ny fs key n).length<=(n+1)*fs.length:=by
 induction n with
 | zero=>unfold Ny;rw[List.length_reverse];have:=Nv fs 0 key key;omega
 | succ n ih=>
  unfold Ny;rw[Aa,Nat.succ_mul];have:=Nv fs (↑(n+1)) key key;omega
theorem Yby (l:List Fi)(v:Value)(Bo:Nat)(w:World)(ho:Vc.Own Fi.cs 5 62 Bo w v l)(hl:l.length<=100000) :
  Calls Tryz.prog 184 [v].toArray w (Ff (λk=>v.ownBlock=some k) w (λu w'=>u=.tuple #[]/\Vc.Own Fi.cs 5 62 Bo w' v l.reverse)):=by
 refine cw Tryz.func184 ?_;have r:=Vc.Mod.refl (λk=>v.ownBlock=some k) w;refine ws λ_ Z1=>wr (dm ?_);refine dv 62 5 (ho.arr EF).sl (EW (v:=I (↑l.length-1-↑(0:Nat))) rfl (Gr rfl rfl (by unfold EU;omega)) (by show I _=I _;congr 1;omega) (da (da (de Z1 (EM ?_)))));refine Fq (G:=Nat×List Fi) (λ(k,cur)=>[(0,v),(2,I ↑k),(3,I (↑l.length-1-↑k))]) (λ(k,cur) w'=>Mod (λk=>v.ownBlock=some k) w w'/\2*k<=l.length/\KO l cur k/\Vc.Own Fi.cs 5 62 Bo w' v cur) (λ(k,cur)=>l.length-k) (0,l) ?_ ?_ ?_
 ·exact Hd
 ·exact⟨r,Ae _,X9z l,ho⟩
 intro X1 g1 w1 hf;obtain⟨k,cur⟩:=g1;clear r ho;obtain⟨r,hk2,Z,ho⟩:=hf;refine ws λ_ Z2=>ws λ_ Z3=>wr (dm (dm ?_));refine dp (Fb rfl rfl) (de Z3 (wi (λc1=>?_) λc1=>?_))
 ·have hcl:=Z.1;obtain⟨a,ha⟩:∃a,cur[k]?=some a:=Fw;obtain⟨b,hb⟩:∃b,cur[l.length-1-k]?=some b:=Fw;obtain⟨cs9,cap9,J,_⟩:=ho.cells (λe=>by rw[e]at ha;simp at ha);refine EI (Z2 _ _ (ws λ_ Z4=>EM (F9 (R:=ED) ED.refl (λ_ _ _=>ED.trans) EA [7,11] [(0,.p,false),(1,.p,false),(2,.p,false),(3,.p,false),(4,.p,false),(5,.p,false),(6,.p,false),(7,.l,false),(8,.p,false),(9,.p,false),(10,.p,false),(11,.l,false),(12,.p,false),(13,.x,true),(14,.p,false),(15,.x,true)] rfl EA EA (λw2 O=>?_))));have x2:=EL O;clear O;have ho:=ho.ext x2;have r:=r.ext x2
  iterate 3 refine dm ?_
  refine EW (v:=I ↑(l.length-1-k)) rfl (MB rfl) (by show I _=I _;congr 1;omega) (dm ?_);refine EW (v:=I ↑(l.length-1-k)) rfl (MB rfl) (by show I _=I _;congr 1;omega) (di 62 5 (ho.arr EF).sl rfl ((ho.arr EF).lt hb) (FW rfl (λw' Y=>Fe EA rfl rfl (((ho.arr EF).ext Y).row hb)) (dm (dm ?_))));refine di 62 5 (ho.arr EF).sl rfl ((ho.arr EF).lt ha) (FW rfl (λw' Y=>Fe EA rfl rfl (((ho.arr EF).ext Y).row ha)) (EW (v:=EE (base v).1 (k*5+0)) rfl (HY (e:=62) (k:=5) EA ho.sl rfl rfl (by omega)) (by rw[J];show EE _ (0+_)=_;rw[A9];rfl) ?_));refine HJ (enc:=Fi.cs) (sz:=5) (i:=k) (j:=0) (x:=b) (vs:=b.cs) EF rfl ho rfl rfl rfl EA (by omega) rfl (Ab 5) (by intro v hv;simp at hv;rcases hv with rfl|rfl|rfl|rfl|rfl<;>rfl) (.inl rfl) (λw3 x3 xs3 z=>?_);have r:=r.own x3 (λi hi hc=>hi);have ho:=z;refine EW (v:=EE (base v).1 ((l.length-1-k)*5+0)) rfl (HY (e:=62) (k:=5) EA ho.sl rfl rfl (by rw[AF];omega)) (by rw[J];show EE _ (0+_)=_;rw[A9];rfl) ?_;refine HJ (enc:=Fi.cs) (sz:=5) (i:=(l.length-1-k)) (j:=0) (x:=a) (vs:=a.cs) EF rfl ho rfl rfl rfl EA (by rw[AF];omega) rfl (Ab 5) (by intro v hv;simp at hv;rcases hv with rfl|rfl|rfl|rfl|rfl<;>rfl) (.inl rfl) (λw4 x4 xs4 z=>?_);have r:=r.own x4 (λi hi hc=>hi);have ho:=z;refine de Z4 (wr (dm ?_));refine pa rfl rfl (dm ?_);refine EW (v:=I (↑l.length-1-↑(k+1))) rfl (Gr rfl rfl (by unfold EU;omega)) (by show I _=I _;congr 1;omega) (da (da (EH (?_))));exact⟨(k+1,_),Hd,⟨r,by omega,Xwp Z EB ha hb,ho⟩,by simp only [];omega⟩
 refine Fk (HH (Hh rfl ?_));rw[X0e Z EB EB]at ho;exact⟨_,rfl,r,rfl,ho⟩
theorem X58 (n:Int)(fs:List Fi)(vf:Value)(key:EC)(w:World)(hv:EQ Fi.cs 5 w vf fs)(hl:fs.length<=100000) :
  Calls Tryz.prog 113 [.agg ⟨[I n,vf]⟩,S key].toArray w (ES w (λu w'=>Vc.Own Fi.cs 5 62 w.heap.size w' u (JY fs key))):=by
 refine cw Tryz.func113 ?_;have r:=ED.refl w;refine ws λ_ Z1=>wr (Gn rfl rfl rfl RX.all (λb1 w1 e1 x1 z=>?_));have g1:=r.ge e1;have r:=r.trans x1;refine da (de Z1 (ws λ_ Z2=>wr ?_));refine dq (Fe (k:=2) EA rfl rfl z.row) (dm (dm ?_));refine cG (OC n fs vf 0 key key _ (hv.ext r) hl) RX.all λY w2 x2 hc=>?_;have Z:=r.size;have z:=z.ext x2;have r:=r.trans x2;have ho:=hc.mono Z;refine da (de Z2 (ws λ_ Z3=>wr (dm ?_)));refine cD (Yby (HS fs 0 key key) Y w.heap.size _ ho (by have:=Nv fs 0 key key;omega)) (.inl rfl) λu3 w3 x3 hg=>?_;have hsz3:=r.size;have z:=z.mod x3 (λe=>ho.ne_blk z rfl e);have r:=r.own x3 (λi hi=>(ho.lt i hi).1);obtain⟨rfl,ho⟩:=hg;refine de Z3 (ws λ_ Z4=>ws λ_ Z5=>wr (da (de Z5 (EM ?_))));refine Fq (G:=Nat×Value) (λ(k,vl)=>[(1,S key),(2,EE b1 0),(4,.slice none 0 0),(5,vl),(6,I ↑(k+1))]) (λ(k,vl) w'=>ED w w'/\EK w' b1 [I n,vf] 56/\k<=4/\Vc.Own Fi.cs 5 62 w.heap.size w' vl (Ny fs key k)) (λ(k,vl)=>4-k) (0,Y) ?_ ?_ ?_
 ·exact FN
 ·exact⟨r,z,Ae _,ho⟩
 intro X4 g4 w4 hb;obtain⟨k,vl⟩:=g4;clear r z ho;obtain⟨r,z,hk1,ho⟩:=hb;refine ws λ_ Z6=>ws λ_ Z7=>wr (dm ?_);refine dp (IG rfl rfl) (de Z7 (wi (λc1=>?_) λc1=>?_))
 ·refine EI (Z6 _ _ (ws λ_ Z8=>EM (wr (dm ?_))));refine dq (Fe (k:=2) EA rfl rfl z.row) (dm (dm (dm ?_)));refine cG (OC n fs vf ↑(k+1) key key _ (hv.ext r) hl) RX.all λvo w5 x5 hf=>?_;have hsz5:=r.size;have z:=z.ext x5;have ho:=ho.ext x5;have r:=r.trans x5;refine LP (lx:=(HS fs ↑(k+1) key key)) (e:=62) (sz:=5) (by':=56) rfl EA EA EF ho ((hf.arr EF)) rfl rfl (by intro x _ u hu;simp at hu;rcases hu with rfl|rfl|rfl|rfl|rfl<;>rfl) (by have h1:=VP fs key k;have h2:=Nv fs ↑(k+1) key key;have h3:(k+1)*fs.length<=5*fs.length:=Nat.mul_le_mul_right _ EB;omega) EN r.size (.inl rfl) (λha w6 O x6 hwh6=>?_);have J:=z.mod x6 (λe=>ho.ne_blk z rfl e);have r:=r.own x6 (λi hi=>(ho.lt i hi).1);have ho:=O;have z:=J;clear J;refine da (de Z8 (wr (dm ?_)));refine EW (v:=I ↑(k+1+1)) rfl (Gy rfl rfl (by unfold EU;omega)) (by show I _=I _;congr 1) (da (EH (?_)));exact⟨(k+1,ha),FN,⟨r,z,by omega,ho⟩,by simp only [];omega⟩
 refine Fk (Z4 _ _ (ws λ_ Z9=>wr (dm (da (de Z9 (EJ ?_))))));refine ro ?_;rw[show k=4 by omega,Yc]at ho;exact⟨_,rfl,r,ho⟩
def MT (ids:List Int):Int->Option Bool:=λx=>if x∈ids then some true else none
theorem Wh (ids:List Int)(x:Int):putF (MT ids) x true=MT (ids++[x]):=by
 funext y
 unfold putF MT
 by_cases e:y=x
 ·simp [e]
 ·simp [e]
theorem Sr (ids:List Int)(x:Int):(MT ids x).getD false=decide (x∈ids):=by
 unfold MT;split<;>simp_all
theorem OG : MapK Tryz.prog 258 3 4 Vc.I B EU:=mapI EA EA W5
theorem WE {l:List Fi}(h:JT l=true){k:Nat}{a b:Fi}(ha:l[k]?=some a)(hb:l[k+1]?=some b):Io a b=true:=by
 induction l generalizing k with
 | nil=>cases ha
 | cons x r ih=>
  cases r with
  | nil=>simp at hb
  | cons y r=>
   unfold JT at h;rw[Au]at h
   cases k with
   | zero=>simp at ha hb;subst ha hb;exact h.1
   | succ k=>exact ih h.2 (by simpa using ha) (by simpa using hb)
theorem X59 {l:List Fi}(h:∀(k:Nat) (a b:Fi),l[k]?=some a->l[k+1]?=some b->Io a b=true):JT l=true:=by
 induction l with
 | nil=>rfl
 | cons x r ih=>
  cases r with
  | nil=>rfl
  | cons y r=>
   unfold JT;rw[h 0 x y rfl rfl,Cq];exact ih (λk a b z J=>h (k+1) a b (by simpa using z) (by simpa using J))
section
variable {n:Int}{fs:List Fi}{k:Nat}{f:Fi}
theorem Qw (h:n<1\/1099511627776<n\/1024<fs.length):GK ⟨n,fs⟩=false:=by
 unfold GK;simp only [C8,decide_eq_false_iff_not];rcases h with h|h|h<;>simp [*]<;>omega
theorem LF (hk:fs[k]?=some f)(h:HW n f=false):GK ⟨n,fs⟩=false:=by
 have:(fs.all (HW n))=false:=by
  rw[<-Cf,AY];intro h2;have:=h2 f (Ak hk);rw[h]at this;cases this
 unfold GK;simp [this]
theorem Na (h:f.id<1\/n<=f.id\/f.lev<0\/4<f.lev\/f.size<1\/1048576<f.size):HW n f=false:=by
 rw[<-Cf];intro h2;unfold HW at h2;simp only [Au,decide_eq_true_eq]at h2;omega
theorem Ybz (h:Lj f.fst=false):HW n f=false:=by unfold HW;simp [h]
theorem Yb0 (h:Lj f.lst=false):HW n f=false:=by unfold HW;simp [h]
theorem Yb1 (h:Op.bytesLess f.lst f.fst=true):HW n f=false:=by unfold HW;rw[show Fg f.lst f.fst=Op.bytesLess f.lst f.fst from rfl,h];simp
theorem X90 (hk:fs[k]?=some f)(h:f.id∈(fs.take k).map (·.id)):GK ⟨n,fs⟩=false:=by
 have:¬ (fs.map (·.id)).Nodup:=by
  intro hn;have e:fs.map (·.id)=(fs.take k).map (·.id)++(fs.drop k).map (·.id):=by rw[<-AH,List.take_append_drop]
  rw[e]at hn;refine(BG.1 hn).2.2 _ h f.id ?_ rfl;rw[Jd hk];simp
 unfold GK;simp [this]
theorem Yb2 {x:Fi}(hk:fs[k]?=some f)(h0:0<k)(hx:fs[k-1]?=some x)(h:Io x f=false):GK ⟨n,fs⟩=false:=by
 have:JT fs=false:=by
  rw[<-Cf];intro h2;have:=WE h2 hx (by rw[show k-1+1=k by omega];exact hk);rw[h]at this;cases this
 unfold GK;simp [this]
theorem Xj (h1:¬ n<1)(h2:¬ 1099511627776<n)(h3:¬ 1024<fs.length)(h4:fs.all (HW n)=true)(h5:(fs.map (·.id)).Nodup)(h6:JT fs=true):GK ⟨n,fs⟩=true:=by
 unfold GK;simp only [Au,decide_eq_true_eq];exact⟨⟨⟨⟨⟨by omega,by omega⟩,by omega⟩,h4⟩,h5⟩,h6⟩
theorem Ui (h:JT (fs.take k)=true)(hk:fs[k]?=some f)(h2:k=0\/∃x,fs[k-1]?=some x/\Io x f=true):JT (fs.take (k+1))=true:=by
 refine X59 λi a b z r=>?_;rw[AW]at z r;split at r
 ·rw[if_pos EB]at z
  by_cases e:i+1<k
  ·exact WE h (k:=i) (by rw[AW,if_pos EB];exact z) (by rw[AW,if_pos e];exact r)
  ·have e1:i+1=k:=by omega
   rw[e1,hk]at r
   cases r
   rcases h2 with h2|⟨x,hx,h3⟩
   ·omega
   ·rw[show k-1=i by omega,z]at hx
    cases hx;exact h3
 ·cases r
theorem TW (h1:¬ f.id<1)(h2:¬ n<=f.id)(h3:¬ f.lev<0)(h4:¬ 4<f.lev)(h5:¬ f.size<1)(h6:¬ 1048576<f.size)(h7:Lj f.fst=true)(h8:Lj f.lst=true)(h9:Op.bytesLess f.lst f.fst=false):HW n f=true:=by
 unfold HW;rw[show Fg f.lst f.fst=Op.bytesLess f.lst f.fst from rfl,h7,h8,h9];simp;omega
end
theorem Pn (n:Int)(fs:List Fi)(vf:Value)(w:World)(hv:EQ Fi.cs 5 w vf fs)(hl:fs.length<=100000)(hid:∀f∈fs,EU f.id) :
  Calls Tryz.prog 103 [.agg ⟨[I n,vf]⟩].toArray w (Pure w (B (GK ⟨n,fs⟩))):=by
 refine cw Tryz.func103 ?_;have z:=ED.refl w;refine ws λ_ Z1=>wr (Gn rfl rfl rfl RX.all (λb1 w1 e1 x1 J=>?_));have g1:=z.ge e1;have z:=z.trans x1;refine da (de Z1 (ws λ_ Z2=>ws λ_ Z3=>wr ?_));refine df 0 rfl (dl rfl (J.at rfl) (dp (Fb rfl rfl) (dm ?_)));refine F4 9 rfl (λc1=>?_) (λc1=>?_)
 ·refine dk (dk (dk (EP ?_)));refine dm ?_;refine dk (dk (dk (dk (EP (de Z3 ?_)))));refine GS rfl (ws λ_ Z4=>wr (da (de Z4 (EJ ?_))));refine ro ?_;refine⟨?_,z⟩;rw[Qw EB]
 refine df 0 rfl (dl rfl (J.at rfl) (dp (Gg rfl rfl) (EP ?_)));refine dm ?_;refine F4 14 rfl (λc2=>?_) (λc2=>?_)
 ·refine dk (dk (dk (dk (EP (de Z3 ?_)))));refine GS rfl (ws λ_ Z5=>wr (da (de Z5 (EJ ?_))));refine ro ?_;refine⟨?_,z⟩;rw[Qw EB]
 refine df 1 rfl (dl rfl (J.at rfl) (dv 62 5 (hv.ext z).sl (dp (Gg rfl rfl) (EP (de Z3 ?_)))));refine wi (λc3=>?_) λc3=>?_
 ·refine ws λ_ Z6=>wr (da (de Z6 (EJ ?_)));refine ro ?_;refine⟨?_,z⟩;rw[Qw EB]
 refine EI (Z2 _ _ (ws λ_ Z7=>wr (Px OG rfl RX.all (λb2 w2 e2 x2 r=>?_))));have g2:=z.ge e2;have n2_1:=J.ltb e2;have J:=J.ext x2;have z:=z.trans x2;refine da (de Z7 (ws λ_ Z8=>ws λ_ Z9=>wr ?_));refine df 1 rfl (dl rfl (J.at rfl) (dv 62 5 (hv.ext z).sl (dm (de Z9 (EM ?_)))));refine Fq (G:=Nat) (λk=>[(1,EE b1 0),(3,.map (some b2)),(22,vf),(23,I ↑fs.length),(24,I ↑k)]) (λk w'=>ED w w'/\EK w' b1 [I n,vf] 56/\k<=fs.length/\((fs.take k).all (HW n))=true/\((fs.take k).map (·.id)).Nodup/\JT (fs.take k)=true/\Vc.Xbq Tryz.prog 3 Vc.I B w' b2 k (MT ((fs.take k).map (·.id)))) (λk=>fs.length-k) 0 ?_ ?_ ?_
 ·exact FN
 ·exact⟨z,J,Ae _,rfl,BV,rfl,r⟩
 intro X3 g3 w3 hr;revert hr;revert g3;intro k hr;clear z J r;obtain⟨z,J,hk1,hA,hN,hO,r⟩:=hr;refine ws λ_ xd=>wr (dp (Fb rfl rfl) (de xd (ws λ_ xn=>wi (λc4=>?_) λc4=>?_)))
 ·obtain⟨f,hk⟩:∃f,fs[k]?=some f:=Fw;refine EI (xn _ _ (ws λ_ hy=>EM (ws λ_ h9=>wr (dm ?_))));refine di 62 5 (hv.ext z).sl rfl ((hv.ext z).lt hk) (dq (Fe EA rfl rfl ((hv.ext z).row hk)) (FP (cs:=[.int .i64 0,.int .i64 0,.int .i64 0,S [],S []]) rfl EA RX.all (λb3 w4 e3 x4 O=>?_)));have g3:=z.ge e3;have n3_1:=J.ltb e3;have n3_mp2:=r.lt;have J:=J.ext x4;have r:=r.ext x4;have z:=z.trans x4;refine da ?_;refine FY O (λw5 x5 xs5 O=>?_);dsimp only [EY,Af,Ad,Ag]at O;have J:=J.mo x5;have r:=r.mod x5 (by intro h;have h2:_=b3:=h;omega);have z:=z.o1 x5;refine de h9 (ws λ_ h8=>ws λ_ Y=>wr (df 0 rfl (dl rfl (O.at rfl) (dp (Fb rfl rfl) (dm ?_)))));refine F4 32 rfl (λc5=>?_) (λc5=>?_)
  ·refine dk (dk (dk (dk (dk (EP ?_)))));refine dm ?_;refine dk (dk (dk (dk (EP ?_))));refine dm ?_;refine dk (dk (dk (EP ?_)));refine dm ?_;refine dk (dk (dk (EP ?_)));refine dm ?_;refine dk (dk (dk (EP ?_)));refine dm ?_;refine dk (dk (dk (EP (de Y ?_))));refine GS rfl (ws λ_ xb=>wr (da (de xb (EJ ?_))));refine ro ?_;refine⟨?_,z⟩;rw[LF hk (Na EB)]
  refine df 0 rfl (dl rfl (O.at rfl) (df 0 rfl (dl rfl (J.at rfl) (dp (IA rfl rfl) (EP ?_)))));refine dm ?_;refine F4 39 rfl (λc6=>?_) (λc6=>?_)
  ·refine dk (dk (dk (dk (EP ?_))));refine dm ?_;refine dk (dk (dk (EP ?_)));refine dm ?_;refine dk (dk (dk (EP ?_)));refine dm ?_;refine dk (dk (dk (EP ?_)));refine dm ?_;refine dk (dk (dk (EP (de Y ?_))));refine GS rfl (ws λ_ xl=>wr (da (de xl (EJ ?_))));refine ro ?_;refine⟨?_,z⟩;rw[LF hk (Na EB)]
  refine dm ?_;refine df 0 rfl (dl rfl (O.at rfl) (dq (L5 OG (kx:=f.id) (z0:=false) rfl rfl EA r (hid f (Ak hk))) (EP ?_)));refine dm ?_;refine I5 45 rfl (λc7=>?_) (λc7=>?_)
  ·refine dk (dk (dk (EP ?_)));refine dm ?_;refine dk (dk (dk (EP ?_)));refine dm ?_;refine dk (dk (dk (EP ?_)));refine dm ?_;refine dk (dk (dk (EP (de Y ?_))));refine GS rfl (ws λ_ xe=>wr (da (de xe (EJ ?_))));refine ro ?_;refine⟨?_,z⟩;rw[Sr]at c7;rw[X90 hk (of_decide_eq_true c7)]
  refine df 1 rfl (dl rfl (O.at rfl) (dp (Fb rfl rfl) (EP ?_)));refine dm ?_;refine F4 50 rfl (λc8=>?_) (λc8=>?_)
  ·refine dk (dk (dk (EP ?_)));refine dm ?_;refine dk (dk (dk (EP ?_)));refine dm ?_;refine dk (dk (dk (EP (de Y ?_))));refine GS rfl (ws λ_ xk=>wr (da (de xk (EJ ?_))));refine ro ?_;refine⟨?_,z⟩;rw[LF hk (Na EB)]
  refine df 1 rfl (dl rfl (O.at rfl) (dp (Gg rfl rfl) (EP ?_)));refine dm ?_;refine F4 55 rfl (λc9=>?_) (λc9=>?_)
  ·refine dk (dk (dk (EP ?_)));refine dm ?_;refine dk (dk (dk (EP (de Y ?_))));refine GS rfl (ws λ_ xf=>wr (da (de xf (EJ ?_))));refine ro ?_;refine⟨?_,z⟩;rw[LF hk (Na EB)]
  refine df 2 rfl (dl rfl (O.at rfl) (dp (Fb rfl rfl) (EP ?_)));refine dm ?_;refine F4 60 rfl (λht=>?_) (λht=>?_)
  ·refine dk (dk (dk (EP (de Y ?_))));refine GS rfl (ws λ_ xh=>wr (da (de xh (EJ ?_))));refine ro ?_;refine⟨?_,z⟩;rw[LF hk (Na EB)]
  refine df 2 rfl (dl rfl (O.at rfl) (dp (Gg rfl rfl) (EP (de Y ?_))));refine wi (λhp=>?_) λhp=>?_
  ·refine ws λ_ xg=>wr (da (de xg (EJ ?_)));refine ro ?_;refine⟨?_,z⟩;rw[LF hk (Na EB)]
  refine EI (h8 _ _ (ws λ_ hz=>ws λ_ hc=>F9 (R:=ED) ED.refl (λ_ _ _=>ED.trans) EA [1,6,12,14,22,26,27] [(0,.p,false),(1,.l,false),(2,.x,true),(3,.p,false),(4,.p,false),(5,.p,false),(6,.l,false),(7,.x,false),(8,.p,false),(9,.p,false),(10,.p,false),(11,.p,false),(12,.l,false),(13,.p,false),(14,.l,false),(15,.p,false),(16,.p,false),(17,.p,false),(18,.p,false),(19,.p,false),(20,.p,false),(21,.p,false),(22,.l,false),(23,.p,false),(24,.p,false),(25,.p,false),(26,.l,false),(27,.l,false),(28,.x,false),(29,.p,false),(30,.p,false),(31,.p,false)] rfl EA EA (λw6 h6=>?_)));have x6:=EL h6;clear h6;have J:=J.ext x6;have r:=r.ext x6;have O:=O.ext x6;have z:=z.trans x6;refine df 3 rfl (dL rfl (λ_ hR=>((O.ext hR).at rfl)) (cP (Vi f.fst _) RX.all λw7 x7=>?_));have J:=J.ext x7;have r:=r.ext x7;have O:=O.ext x7;have z:=z.trans x7;refine dn (dm ?_);refine I5 69 rfl (λhf=>?_) (λhf=>?_)
  ·refine dk (dk (dk (dk (EP ?_))));refine dm ?_;refine dk (dk (dk (dk (dk (EP ?_)))));refine dm ?_
   iterate 13 refine dk ?_
   refine EP (de hc ?_);refine GS rfl (ws λ_ xc=>wr (da (de xc (EJ ?_))));refine ro ?_;refine⟨?_,z⟩;rw[LF hk (Ybz (by simpa using hf))]
  refine df 4 rfl (dL rfl (λ_ hR=>((O.ext hR).at rfl)) (cP (Vi f.lst _) RX.ext λw8 x8=>?_));have J:=J.ext x8;have r:=r.ext x8;have O:=O.ext x8;have z:=z.trans x8;refine dn ?_;refine EP ?_;refine dm ?_;refine I5 75 rfl (λhh=>?_) (λhh=>?_)
  ·refine dk (dk (dk (dk (dk (EP ?_)))));refine dm ?_
   iterate 13 refine dk ?_
   refine EP (de hc ?_);refine GS rfl (ws λ_ xm=>wr (da (de xm (EJ ?_))));refine ro ?_;refine⟨?_,z⟩;rw[LF hk (Yb0 (by simpa using hh))]
  refine df 3 rfl (dL rfl (λ_ hR=>((O.ext hR).at rfl)) (df 4 rfl (dL rfl (λ_ hR=>((O.ext hR).at rfl)) (dp (Tr rfl rfl) (EP ?_)))));refine dm ?_;refine I5 82 rfl (λhg=>?_) (λhg=>?_)
  ·iterate 13 refine dk ?_
   refine EP (de hc ?_);refine GS rfl (ws λ_ xi=>wr (da (de xi (EJ ?_))));refine ro ?_;refine⟨?_,z⟩;rw[LF hk (Yb1 hg)]
  refine dm ?_;refine dp (Gg rfl rfl) (dm ?_);refine F4 85 rfl (λh7=>?_) (λh7=>?_)
  ·obtain⟨x,hk0⟩:∃x,fs[k-1]?=some x:=Fw;refine df 1 rfl (dL rfl (λ_ hR=>((J.ext hR).at rfl)) (dm ?_));refine EW (v:=I ↑(k-1)) rfl (Gr rfl rfl (by unfold EU;omega)) (by show I _=I _;congr 1;omega) (di 62 5 (hv.ext z).sl rfl ((hv.ext z).lt hk0) (FW rfl (λw' hR=>Fe EA rfl rfl (((hv.ext z).ext hR).row hk0)) (FW rfl (λw' hR=>Fe (k:=5) EA rfl rfl (O.ext hR).row) (cP (X9y x f _) RX.ext λw9 x9=>?_))));have J:=J.ext x9;have r:=r.ext x9;have O:=O.ext x9;have z:=z.trans x9;refine dn ?_;refine EP ?_;refine EP (de hc ?_);refine wc (λhw=>?_) λhw=>?_
   ·refine ws λ_ xj=>wr (da (de xj (EJ ?_)));refine ro ?_;refine⟨?_,z⟩;rw[Yb2 hk EB hk0 (by simpa using hw)]
   refine EI (hz _ _ (wr (dm ?_)));refine df 0 rfl (dl rfl (O.at rfl) (Ou OG (kx:=f.id) (a:=true) rfl rfl rfl rfl r (hid f (Ak hk)) (by unfold maxLen;omega) (.inl rfl) (λw10 hq xs10 Z=>?_)));have J:=J.mod hq (by exact λe=>r.ne_blk J e);have O:=O.mod hq (by exact λe=>r.ne_blk O e);have z:=z.own hq (λi hi=>by have hj:i=b2:=hi;subst hj;omega);have r:=Z;refine de hy (wr (pa rfl rfl (dm (EH (?_)))));refine⟨k+1,FN,⟨z,J,by omega,?_,?_,?_,?_⟩,by omega⟩
   ·rw[G1 hk,C6,hA,CM,Df,TW c5 EB c8 c9 ht hp (by simpa using hf) (by simpa using hh) hg];rfl
   ·rw[G1 hk,AH];exact BG.2 ⟨hN,by simp,λa ha b hb e=>by
     rw[Sr]at c7;have e9:=of_decide_eq_false c7;rw[An,Be,Ah]at hb;rw[e,hb]at ha;exact e9 ha⟩
   ·exact Ui hO hk (.inr ⟨x,hk0,by simpa using hw⟩)
   ·rw[Wh,show(Ad k fs).map (λx=>x.id)++[f.id]=(Ad (k+1) fs).map (λx=>x.id) by rw[G1 hk];simp]at r;exact r
  iterate 9 refine dk ?_
  refine EP ?_;refine EP (de hc ?_);refine Hf rfl (EI (hz _ _ (wr (dm ?_))));refine df 0 rfl (dl rfl (O.at rfl) (Ou OG (kx:=f.id) (a:=true) rfl rfl rfl rfl r (hid f (Ak hk)) (by unfold maxLen;omega) (.inl rfl) (λw11 h5 xs11 Z=>?_)));have J:=J.mod h5 (by exact λe=>r.ne_blk J e);have z:=z.own h5 (λi hi=>by have hj:i=b2:=hi;subst hj;omega);have r:=Z;refine de hy (wr (pa rfl rfl (dm (EH (?_)))));refine⟨k+1,FN,⟨z,J,by omega,?_,?_,?_,?_⟩,by omega⟩
  ·rw[G1 hk,C6,hA,CM,Df,TW c5 EB c8 c9 ht hp (by simpa using hf) (by simpa using hh) hg];rfl
  ·rw[G1 hk,AH];exact BG.2 ⟨hN,by simp,λa ha b hb e=>by
    rw[Sr]at c7;have e9:=of_decide_eq_false c7;rw[An,Be,Ah]at hb;rw[e,hb]at ha;exact e9 ha⟩
  ·exact Ui hO hk (.inl EB)
  ·rw[Wh,show(Ad k fs).map (λx=>x.id)++[f.id]=(Ad (k+1) fs).map (λx=>x.id) by rw[G1 hk];simp]at r;exact r
 refine Fk (Z8 _ _ (ws λ_ xa=>wr (da (de xa (EJ ?_)))));refine ro ?_;refine⟨?_,z⟩;rw[Ay EB]at hA hN hO;rw[Xj EB EB EB hA hN hO]
def GF (f:Fi):EC:=(EV f.id.toNat++(EV f.lev.toNat++EV f.size.toNat))++(Fs f.fst++Fs f.lst)
def FO (v:Vs):EC:=(EV v.next.toNat++EV v.fs.length)++v.fs.flatMap GF
theorem P5 {n:Int}(h0:0<=n)(h:n<=4611686018427387904):Gf n=EV n.toNat:=by
 unfold Gf
 congr 1
 unfold Hn;omega
theorem Yb3 {A:EC}{n:Int}{k:Nat}(h0:0<=n)(h:n<=4611686018427387904)(hk:k<=4611686018427387904):A++[n,(k:Int)].flatMap Gf=A++(EV n.toNat++EV k):=by
 simp only [AB,BU,AO,P5 h0 h,P6 hk]
theorem Yb4 {A:EC}{a b c:Int}(ha:0<=a)(ha2:a<=4611686018427387904)(hb:0<=b)(hb2:b<=4611686018427387904)(hc:0<=c)(hc2:c<=4611686018427387904):A++[a,b,c].flatMap Gf=A++(EV a.toNat++(EV b.toNat++EV c.toNat)):=by
 simp only [AB,BU,AO,P5 ha ha2,P5 hb hb2,P5 hc hc2]
theorem row2 {A p q:EC}{v u:Value} : A++List.flatMap Fs (List.map (λq:Value×EC=>q.2) [(v,p),(u,q)])=A++(Fs p++Fs q):=by simp
theorem X6b {v u:Value}{p q:EC}{w:World}{b:Nat}(h:EK w b [v,u] 82):EQ (λq:Value×EC=>[q.1]) 1 w (.slice (some ⟨b,0,none⟩) 2 2) [(v,p),(u,q)]:=h.arr (enc:=λq:Value×EC=>[q.1]) (sz:=1) (l:=[(v,p),(u,q)]) rfl EF rfl ER
theorem Ij {v:Vs}(h:GK v=true):1<=v.next/\v.next<=1099511627776/\v.fs.length<=1024/\(∀f∈v.fs,HW v.next f=true)/\(v.fs.map (·.id)).Nodup/\JT v.fs=true:=by
 unfold GK at h;simp only [Au,decide_eq_true_eq,AY]at h;exact⟨h.1.1.1.1.1,h.1.1.1.1.2,h.1.1.1.2,h.1.1.2,h.1.2,h.2⟩
theorem Jk {n:Int}{f:Fi}(h:HW n f=true):1<=f.id/\f.id<n/\0<=f.lev/\f.lev<=4/\1<=f.size/\f.size<=1048576/\f.fst.length<=4096/\f.lst.length<=4096:=by
 unfold HW Lj at h;simp only [Au,decide_eq_true_eq]at h;omega
theorem X0g {n:Int}{f:Fi}(h:HW n f=true):(GF f).length<=8300:=by
 have:=Jk h;unfold GF Fs;have h1:=Gj f.id.toNat;have h2:=Gj f.lev.toNat;have h3:=Gj f.size.toNat;have h4:=Gj f.fst.length;have h5:=Gj f.lst.length;simp only [Aa];omega
theorem Vm {n:Int}{fs:List Fi}(h:∀f∈fs,HW n f=true)(k:Nat):((fs.take k).flatMap GF).length<=8300*fs.length:=by
 induction fs generalizing k with
 | nil=>simp
 | cons f r ih=>
  cases k with
  | zero=>simp
  | succ k=>
   have h1:=ih (λf z=>h f (Am _ z)) k;have h2:=X0g (h f Al);rw[List.take_succ_cons,AB,Aa,AG];omega
theorem VH (n:Int)(fs:List Fi)(vf:Value)(w:World)(hv:EQ Fi.cs 5 w vf fs)(hl:fs.length<=100000)(hid:∀f∈fs,EU f.id) :
  Calls Tryz.prog 92 [.agg ⟨[I n,vf]⟩].toArray w (ES w (λu w'=>∃vb,u=.tuple #[vb,I (if GK ⟨n,fs⟩=true then 0 else 1)]/\Vc.Own EO 1 5 w.heap.size w' vb (if GK ⟨n,fs⟩=true then FO ⟨n,fs⟩else[]))):=by
 refine cw Tryz.func92 ?_;have z:=ED.refl w;refine ws λ_ Z1=>wr (Gn rfl rfl rfl RX.all (λb1 w1 e1 x1 O=>?_));have g1:=z.ge e1;have z:=z.trans x1;refine da (da (de Z1 (ws λ_ Z2=>ws λ_ Z3=>wr ?_)));refine dq (Fe (k:=2) EA rfl rfl O.row) (cP (Pn n fs vf _ (hv.ext z) hl hid) RX.all λw2 x2=>?_);have O:=O.ext x2;have z:=z.trans x2;refine dn (de Z3 ?_);refine wc (λc1=>?_) λc1=>?_
 ·refine ws λ_ Z4=>wr (da (da (de Z4 (EJ ?_))));refine rt ?_;have hE:GK ⟨n,fs⟩=false:=by simpa using c1
  rw[hE];exact⟨_,rfl,z,_,rfl,Vc.Own.nil⟩
 have hE:GK ⟨n,fs⟩=true:=by simpa using c1
 obtain⟨xm,xq,xi,hc,_,_⟩:=Ij hE;simp only at xm xq xi hc;refine EI (Z2 _ _ (ws λ_ Z5=>wr (FP (cs:=[.slice none 0 0]) rfl EA RX.all (λb2 w3 e2 x3 m2=>?_))));have g2:=z.ge e2;have n2_1:=O.ltb e2;have O:=O.ext x3;have z:=z.trans x3;refine de Z5 (ws λ_ Z6=>wr (df 0 rfl (dl rfl (O.at rfl) (df 1 rfl (dl rfl (O.at rfl) (dv 62 5 (hv.ext z).sl (li (e:=3) (sz:=1) (zs:=[.int .i64 0]) (pv:=[(0,_),(1,_)]) (cs:=[_,_]) RX.all (λb3 w4 e3 x4 m3=>?_))))))));have g3:=z.ge e3;have n3_1:=O.ltb e3;have n3_2:=m2.ltb e3;have O:=O.ext x4;have m2:=m2.ext x4;have z:=z.trans x4;have r:Wr w.heap.size b2 (.slice none 0 0) [] w4:=⟨m2,Vc.Own.nil⟩;refine cD (JZ w.heap.size b2 (.slice none 0 0) _ [n,↑fs.length] (.slice (some ⟨b3,0,none⟩) 2 2) _ r (Ai (Ab 0:([]:EC).length<=0) EB) z.size (m3.arr (enc:=Vc.encI) (sz:=1) (l:=[n,↑fs.length]) rfl EF rfl ER) ER (λk9 Y _ hr=>by have hw:b3=k9:=hr;subst hw;exact(Y.elim (λh=>by omega) (λh=>by cases h)))) (.inl rfl) λu5 w5 x5 xl=>?_;have hsz5:=z.size;have O:=O.mod x5 (λY=>Y.elim (λh=>by have h2:b1=b2:=h;omega) (λh=>by cases h));have z:=z.own x5 (λi hi=>r.ge g2 hi);obtain⟨rfl,v1,r,xa⟩:=xl;rw[Yb3 EB EB EB,AE]at r;have hln16:=trivial;refine de Z6 (ws λ_ Z7=>ws λ_ Z8=>wr (df 1 rfl (dl rfl (O.at rfl) (dv 62 5 (hv.ext z).sl (dm (de Z8 (EM ?_)))))));refine Fq (G:=Nat×Value) (λ(k,vc)=>[(2,.slice none 0 0),(3,I 0),(4,EE b2 0),(18,vf),(19,I ↑fs.length),(20,I ↑k)]) (λ(k,vc) w'=>ED w w'/\k<=fs.length/\Wr w.heap.size b2 vc ((EV n.toNat++EV fs.length)++(fs.take k).flatMap GF) w') (λ(k,vc)=>fs.length-k) (0,v1) ?_ ?_ ?_
 ·exact G2
 ·exact⟨z,Ae _,by simpa using r⟩
 intro X6 g6 w6 xf;obtain⟨k,vc⟩:=g6;clear z O r;obtain⟨z,hk1,r⟩:=xf;refine ws λ_ Z9=>wr (dp (Fb rfl rfl) (de Z9 (ws λ_ xj=>wi (λc2=>?_) λc2=>?_)))
 ·obtain⟨f,hk⟩:∃f,fs[k]?=some f:=Fw;have hof:=Jk (hc f (Ak hk));have xk:=Vm hc k;have xr:=Gj n.toNat;have h5:=Gj fs.length;have hq:((EV n.toNat++EV fs.length)++(fs.take k).flatMap GF).length<=9000000:=by rw[Aa,Aa];omega
  refine EI (xj _ _ (ws λ_ xu=>EM (ws λ_ xh=>wr (di 62 5 (hv.ext z).sl rfl ((hv.ext z).lt hk) (dq (Fe EA rfl rfl ((hv.ext z).row hk)) (FP (cs:=[.int .i64 0,.int .i64 0,.int .i64 0,S [],S []]) rfl EA RX.all (λb4 w7 e4 x7 J=>?_)))))));have g4:=z.ge e4;have Z:=r.lt;have r:=r.ext x7;have z:=z.trans x7;refine FY J (λw8 x8 xs8 J=>?_);dsimp only [EY,Af,Ad,Ag]at J;have r:=r.mod x8 (λk9 Y h=>by have h2:k9=b4:=h;subst h2;exact A6 _ (AA (Z _ Y) e4.symm));have z:=z.o1 x8;refine de xh (ws λ_ xg=>wr (df 0 rfl (dl rfl (J.at rfl) (df 1 rfl (dl rfl (J.at rfl) (df 2 rfl (dl rfl (J.at rfl) (li (e:=3) (sz:=1) (zs:=[.int .i64 0]) (pv:=[(0,_),(1,_),(2,_)]) (cs:=[_,_,_]) RX.all (λb5 w9 e5 x9 m5=>?_)))))))));have g5:=z.ge e5;have n5_4:=J.ltb e5;have hj:=r.lt;have r:=r.ext x9;have J:=J.ext x9;have z:=z.trans x9;have xn:¬ H2 b2 vc b4:=λY=>(A6 b4 (AA (Z _ Y) e4.symm));have xd:=J.lt;refine cD (JZ w.heap.size b2 vc _ [f.id,f.lev,f.size] (.slice (some ⟨b5,0,none⟩) 3 3) _ r (Ai hq EB) z.size (m5.arr (enc:=Vc.encI) (sz:=1) (l:=[f.id,f.lev,f.size]) rfl EF rfl ER) ER (λk9 Y _ hr=>by have hw:b5=k9:=hr;subst hw;exact(A6 b5 (AA (hj _ Y) e5.symm)))) (.inl rfl) λu10 w10 xb h8=>?_;have hsz10:=z.size;have J:=J.mod xb xn;have z:=z.own xb (λi hi=>r.ge g2 hi);obtain⟨rfl,v2,r,xa⟩:=h8;rw[Yb4 EB EB EB EB EB EB]at r;have hln31:=trivial;have hz:((EV n.toNat++EV fs.length)++(fs.take k).flatMap GF).length<=9000000:=hq;have hq1:=Gj f.id.toNat;have hq2:=Gj f.lev.toNat;have hq3:=Gj f.size.toNat;have hln3:(((EV n.toNat++EV fs.length)++(fs.take k).flatMap GF)++(EV f.id.toNat++(EV f.lev.toNat++EV f.size.toNat))).length<=9000100:=by simp only [Aa]at hz ⊢;omega
  refine de xg (KW [.p,.l,.x,.p,.l,.x,.x,.x] rfl (df 3 rfl (dl rfl (J.at rfl) (Mz (e:=5) rfl EA EA EA rfl RX.all (λb6 h6 w11 e6 hy ha=>?_)))));have g6:=z.ge e6;have n6_4:=J.ltb e6;have hp:=r.lt;have J:=J.ext hy;have r:=r.ext hy;have z:=z.trans hy;refine df 4 rfl (dl rfl (J.at rfl) (Mz (e:=5) rfl EA EA EA rfl RX.all (λb7 h7 w12 e7 hh ht=>?_)));have g7:=z.ge e7;have n7_4:=J.ltb e7;have hf:=r.lt;have J:=J.ext hh;have r:=r.ext hh;have ha:=ha.ext hh;have z:=z.trans hh;refine li (e:=82) (sz:=1) (zs:=[.slice none 0 0]) (pv:=[(0,_),(1,_)]) (cs:=[_,_]) RX.all (λb8 w13 e8 hb m8=>?_);have g8:=z.ge e8;have n8_4:=J.ltb e8;have hg:=r.lt;have J:=J.ext hb;have r:=r.ext hb;have ha:=ha.ext hb;have ht:=ht.ext hb;have z:=z.trans hb;have xd:=J.lt;refine cD (Lc w.heap.size b2 v2 _ [(.slice (some ⟨b6,0,none⟩) f.fst.length h6,f.fst),(.slice (some ⟨b7,0,none⟩) f.lst.length h7,f.lst)] (.slice (some ⟨b8,0,none⟩) 2 2) _ r EB z.size (X6b m8) (LZ (P:=λq:Value×EC=>EQ EO 1 _ q.1 q.2) ha ht) (LZ (P:=λq:Value×EC=>q.2.length<=1000000) (show f.fst.length<=1000000 by omega) (show f.lst.length<=1000000 by omega)) ER (λ_ Y=>(A6 b8 (AA (hg _ Y) e8.symm))) (LZ (P:=λq:Value×EC=>q.2≠[]->¬ H2 b2 v2 (base q.1).1) (λ_ Y=>(A6 b6 (AA (hp _ Y) e6.symm))) (λ_ Y=>(A6 b7 (AA (hf _ Y) e7.symm))))) (.inl rfl) λu14 w14 xo xc=>?_;have hsz14:=z.size;have z:=z.own xo (λi hi=>r.ge g2 hi);obtain⟨rfl,v3,r,xa⟩:=xc;rw[row2]at r;refine de xu (wr (pa rfl rfl (dm (EH (?_)))));refine⟨(k+1,v3),G2,⟨z,by omega,?_⟩,by simp only [];omega⟩;rw[G1 hk,List.flatMap_append,AB,BU,AO,show GF f=(EV f.id.toNat++(EV f.lev.toNat++EV f.size.toNat))++(Fs f.fst++Fs f.lst) from rfl];simpa only [List.append_assoc]using r
 have xk:=Vm hc k;have xr:=Gj n.toNat;have h5:=Gj fs.length;have hln1:((EV n.toNat++EV fs.length)++(fs.take k).flatMap GF).length<=9000000:=by rw[Aa,Aa];omega
 refine Fk (Z7 _ _ (ws λ_ xe=>wr (cG (N3 w.heap.size b2 vc _ _ r EB) RX.all λvo w15 xp hB=>?_)));have hsz15:=z.size;have z:=z.trans xp;refine da (da (de xe (EJ ?_)));refine rt ?_;rw[show k=fs.length by omega,List.take_length]at hB;rw[if_pos hE,if_pos hE];exact⟨_,rfl,z,_,rfl,hB.mono EB⟩
theorem Rf {α:Type}{l:List α}{p:α->Bool}{k:Nat}{c:α}(h:l[k]?=some c)(ha:(l.take k).any p=false)(hp:p c=false):(l.take (k+1)).any p=false:=by
 rw[G1 h,List.any_append,ha];simp [hp]
def JR {α:Type}(l:List α)(p:α->Bool)(i:Int):Prop:=(i=-1/\l.any p=false)\/∃k:Nat,i=k/\(l.take k).any p=false/\∃x,l[k]?=some x/\p x=true
theorem UX {α:Type}{l:List α}{p:α->Bool}{i:Int}(h:JR l p i):decide (0<=i)=l.any p:=by
 rcases h with⟨rfl,h⟩|⟨k,rfl,_,x,hx,hp⟩
 ·rw[h];rfl
 ·rw[BK.2 ⟨x,Ak hx,hp⟩];simp
theorem X6c (l:List Fi)(v:Value)(f:Nat)(cs:List Value)(p:Fi->Bool)(w:World)(hv:EQ Fi.cs 5 w v l)(hl:l.length<=1000000)(hcb:GM Tryz.prog f=true)(hc:∀J,ED w J->∀x∈l,Calls Tryz.prog f ([x.v]++cs).toArray J (Pure J (B (p x)))) :
  Calls Tryz.prog 245 [v,I7 f cs].toArray w (ES w (λu _=>∃i:Int,u=I i/\JR l p i)):=by
 refine cw Tryz.func245 ?_;have r:=ED.refl w;refine ws λ_ Z1=>wr (da (de Z1 (ws λ_ Z2=>ws λ_ Z3=>wr (dm ?_))));refine dv 62 5 hv.sl (dm (de Z3 (EM ?_)));refine Fq (G:=Nat) (λk=>[(0,v),(1,I7 f cs),(7,I ↑l.length),(8,I ↑k)]) (λk w'=>ED w w'/\k<=l.length/\(l.take k).any p=false) (λk=>l.length-k) 0 ?_ ?_ ?_
 ·exact Gc
 ·exact⟨r,Ae _,rfl⟩
 intro X1 g1 w1 z;revert z;revert g1;intro k z;clear r;obtain⟨r,hk1,O⟩:=z;refine ws λ_ Z4=>wr (dp (Fb rfl rfl) (de Z4 (ws λ_ Z5=>wi (λc1=>?_) λc1=>?_)))
 ·obtain⟨x,hk⟩:∃x,l[k]?=some x:=Fw;refine EI (Z5 _ _ (ws λ_ Z6=>EM (ws λ_ Z7=>wr (dm (da (de Z7 (ws λ_ Z8=>wr (dm (dm (dm ?_))))))))));refine di 62 5 hv.sl rfl (hv.lt hk) (dq (Fe EA rfl rfl ((hv.ext r).row hk)) (PP (vs:=[x.v]) (cs:=cs) rfl rfl hcb (hc _ r x (Ak hk)) rfl RX.all (λJ x2=>?_)));have r:=r.trans x2;refine de Z8 (wc (λZ=>?_) λZ=>?_)
  ·refine ws λ_ Z9=>wr (dm (da (de Z9 (EJ ?_))));refine ro ?_;exact⟨_,rfl,r,_,rfl,.inr ⟨k,rfl,O,x,hk,Z⟩⟩
  refine EI (Z6 _ _ (wr (pa rfl rfl (dm (EH (?_))))));refine⟨k+1,Gc,⟨r,by omega,Rf hk O (by simpa using Z)⟩,by omega⟩
 refine Fk (Z2 _ _ (ws λ_ Y=>wr (da (de Y (EJ ?_)))));refine ro ?_;rw[Ay EB]at O;exact⟨_,rfl,r,-1,rfl,.inl ⟨rfl,O⟩⟩
theorem X6d (l:List Cell)(v:Value)(f:Nat)(cs:List Value)(p:Cell->Bool)(w:World)(hv:EQ Cell.cs 4 w v l)(hl:l.length<=1000000)(hcb:GM Tryz.prog f=true)(hc:∀J,ED w J->∀x∈l,Calls Tryz.prog f ([x.v]++cs).toArray J (Pure J (B (p x)))) :
  Calls Tryz.prog 107 [v,I7 f cs].toArray w (ES w (λu _=>∃i:Int,u=I i/\JR l p i)):=by
 refine cw Tryz.func107 ?_;have r:=ED.refl w;refine ws λ_ Z1=>wr (da (de Z1 (ws λ_ Z2=>ws λ_ Z3=>wr (dm ?_))));refine dv 79 4 hv.sl (dm (de Z3 (EM ?_)));refine Fq (G:=Nat) (λk=>[(0,v),(1,I7 f cs),(7,I ↑l.length),(8,I ↑k)]) (λk w'=>ED w w'/\k<=l.length/\(l.take k).any p=false) (λk=>l.length-k) 0 ?_ ?_ ?_
 ·exact Gc
 ·exact⟨r,Ae _,rfl⟩
 intro X1 g1 w1 z;revert z;revert g1;intro k z;clear r;obtain⟨r,hk1,O⟩:=z;refine ws λ_ Z4=>wr (dp (Fb rfl rfl) (de Z4 (ws λ_ Z5=>wi (λc1=>?_) λc1=>?_)))
 ·obtain⟨x,hk⟩:∃x,l[k]?=some x:=Fw;refine EI (Z5 _ _ (ws λ_ Z6=>EM (ws λ_ Z7=>wr (dm (da (de Z7 (ws λ_ Z8=>wr (dm (dm (dm ?_))))))))));refine di 79 4 hv.sl rfl (hv.lt hk) (dq (Fe EA rfl rfl ((hv.ext r).row hk)) (PP (vs:=[x.v]) (cs:=cs) rfl rfl hcb (hc _ r x (Ak hk)) rfl RX.all (λJ x2=>?_)));have r:=r.trans x2;refine de Z8 (wc (λZ=>?_) λZ=>?_)
  ·refine ws λ_ Z9=>wr (dm (da (de Z9 (EJ ?_))));refine ro ?_;exact⟨_,rfl,r,_,rfl,.inr ⟨k,rfl,O,x,hk,Z⟩⟩
  refine EI (Z6 _ _ (wr (pa rfl rfl (dm (EH (?_))))));refine⟨k+1,Gc,⟨r,by omega,Rf hk O (by simpa using Z)⟩,by omega⟩
 refine Fk (Z2 _ _ (ws λ_ Y=>wr (da (de Y (EJ ?_)))));refine ro ?_;rw[Ay EB]at O;exact⟨_,rfl,r,-1,rfl,.inl ⟨rfl,O⟩⟩
theorem X6e (l:List Fi)(v:Value)(f:Nat)(cs:List Value)(p:Fi->Bool)(w:World)(hv:EQ Fi.cs 5 w v l)(hl:l.length<=1000000)(hcb:GM Tryz.prog f=true)(hc:∀z,ED w z->∀x∈l,Calls Tryz.prog f ([x.v]++cs).toArray z (Pure z (B (p x)))) :
  Calls Tryz.prog 172 [v,I7 f cs].toArray w (Pure w (B (l.any p))):=by
 refine cw Tryz.func172 ?_;have r:=ED.refl w;refine ws λ_ Z=>wr (da (de Z (ws λ_ O=>wr (dm (dm ?_)))));refine cG (X6c l v f cs p _ (hv.ext r) hl hcb (λz Y=>hc z (r.trans Y))) RX.all λu1 w1 x1 J=>?_;have hsz1:=r.size;have r:=r.trans x1;obtain⟨i,rfl,hi⟩:=J;refine dp (IA rfl rfl) (da (de O (EJ ?_)));refine ro ?_;exact⟨by rw[<-UX hi],r⟩
theorem X91 (f:Fi)(id:Int)(bi:Nat)(w:World)(hi:EK w bi [I id] 3) :
  Calls Tryz.prog 173 [f.v,EE bi 0].toArray w (Pure w (B (decide (f.id=id)))):=by
 refine cw Tryz.func173 ?_;have r:=ED.refl w;refine ws λ_ O=>wr (Gn rfl rfl rfl RX.all (λb1 w1 e1 Y J=>?_));have g1:=r.ge e1;have r:=r.trans Y;refine da (de O (ws λ_ z=>wr ?_));refine df 0 rfl (dl rfl (J.at rfl) (dl rfl ((hi.ext r).at rfl) (dp (GB rfl rfl) (da (de z (EJ ?_))))));refine ro ?_;exact⟨by simp,r⟩
theorem X92 (l:List Int)(v:Value)(y:Int)(w:World)(hv:EQ Vc.encI 1 w v l)(hl:l.length<=1000000) :
  Calls Tryz.prog 244 [v,I y].toArray w (ES w (λu _=>∃i:Int,u=I i/\JR l (λz=>decide (y=z)) i)):=by
 refine cw Tryz.func244 ?_;have r:=ED.refl w;refine ws λ_ Z1=>wr (da (de Z1 (ws λ_ Z2=>ws λ_ Z3=>wr (dm ?_))));refine dv 3 1 hv.sl (dm (de Z3 (EM ?_)));refine Fq (G:=Nat) (λk=>[(0,v),(1,I y),(7,I ↑l.length),(8,I ↑k)]) (λk w'=>ED w w'/\k<=l.length/\(l.take k).any (λz=>decide (y=z))=false) (λk=>l.length-k) 0 ?_ ?_ ?_
 ·exact Gc
 ·exact⟨r,Ae _,rfl⟩
 intro X1 g1 w1 J;revert J;revert g1;intro k J;clear r;obtain⟨r,hk1,O⟩:=J;refine ws λ_ Z4=>wr (dp (Fb rfl rfl) (de Z4 (ws λ_ Z5=>wi (λc1=>?_) λc1=>?_)))
 ·obtain⟨x,hk⟩:∃x,l[k]?=some x:=Fw;refine EI (Z5 _ _ (ws λ_ Z6=>EM (ws λ_ Z7=>wr (dm (da (de Z7 (ws λ_ Z8=>wr (dm (dm (dm ?_))))))))));refine di 3 1 hv.sl rfl (hv.lt hk) (dl rfl (((hv.ext r).row hk).at0 rfl) (dp (GB rfl rfl) (de Z8 (wi (λZ=>?_) λZ=>?_))))
  ·refine ws λ_ Z9=>wr (dm (da (de Z9 (EJ ?_))));refine ro ?_;exact⟨_,rfl,r,_,rfl,.inr ⟨k,rfl,O,x,hk,by simpa using Z⟩⟩
  refine EI (Z6 _ _ (wr (pa rfl rfl (dm (EH (?_))))));refine⟨k+1,Gc,⟨r,by omega,Rf hk O (by simpa using Z)⟩,by omega⟩
 refine Fk (Z2 _ _ (ws λ_ Y=>wr (da (de Y (EJ ?_)))));refine ro ?_;rw[Ay EB]at O;exact⟨_,rfl,r,-1,rfl,.inl ⟨rfl,O⟩⟩
theorem Tu (l:List Int)(v:Value)(y:Int)(w:World)(hv:EQ Vc.encI 1 w v l)(hl:l.length<=1000000) :
  Calls Tryz.prog 171 [v,I y].toArray w (Pure w (B (decide (y∈l)))):=by
 refine cw Tryz.func171 ?_;have r:=ED.refl w;refine ws λ_ Y=>wr (da (de Y (ws λ_ O=>wr (dm (dm ?_)))));refine cG (X92 l v y _ (hv.ext r) hl) RX.all λu1 w1 Z J=>?_;have hsz1:=r.size;have r:=r.trans Z;obtain⟨i,rfl,hi⟩:=J;refine dp (IA rfl rfl) (da (de O (EJ ?_)));refine ro ?_;refine⟨?_,r⟩;have e:decide (y∈l)=l.any (λz=>decide (y=z)):=by
  rw[Bool.eq_iff_iff,decide_eq_true_iff,BK];exact⟨λh=>⟨y,h,by simp⟩,λ⟨z,hz,e⟩=>by rw[of_decide_eq_true e];exact hz⟩
 rw[e,<-UX hi]
structure GV (w:World):Prop where
 tab : Lib.TabIs Tryz.prog w "internal/strconv.uint64pow10" .u64 Lib.pow10Tab
@[reducible] def Ls : Nat → Prop := λ k => Tryz.prog.globalNamed "internal/strconv.uint64pow10" = some k
theorem GV.at {w:World}(h:GV w):∃g cs a b,Ls g/\w.heap[g]?=some (.cells cs a b)/\cs=(Lib.pow10Tab.map λz=>Value.int .u64 z).toArray:=by
 have r:=h.tab;unfold Lib.TabIs World.var? at r;rw[Option.bind_eq_some_iff]at r;obtain⟨g,J,h2⟩:=r;split at h2
 ·rename_i cs a b O;exact⟨g,cs,a,b,J,O,A0.inj h2⟩
 ·cases h2
theorem GV.lt {w:World}(h:GV w):∀k,Ls k->k<w.heap.size:=λk hk=>by
 obtain⟨g,cs,a,b,r,z,_⟩:=h.at;have:g=k:=A0.inj (r.symm.trans hk);rw[<-this];exact(Array.getElem?_eq_some_iff.1 z).1
theorem GV.mod {S:Nat->Prop}{w w':World}(h:GV w)(x:Vc.Mod S w w')(hS:∀k,Ls k->¬ S k):GV w':=by
 obtain⟨g,cs,a,b,hg,hc,he⟩:=h.at;refine⟨?_⟩;unfold Lib.TabIs World.var?;rw [show Tryz.prog.globalNamed "internal/strconv.uint64pow10" = some g from hg, Option.bind_some, x.block g (h.lt g hg) (hS g hg), hc, he]
theorem GV.ext {w w':World}(h:GV w)(x:ED w w'):GV w':=h.mod x (λ_ _ h=>h)
theorem X93 (n:Int)(w:World)(hg:GV w)(hn:EU n):Calls Tryz.prog 106 [I n].toArray w (Pure w (S (Lib.itoa n))):=by
 refine(Tryz.strconv_Itoa n hn.1 (by have:=hn.2;omega) w hg.tab).mono ?_;rintro e w' ⟨rfl,k,os,rfl⟩;exact⟨rfl,⟨rfl,rfl,rfl,by simp [Go.Sort.grow,Go.World.drewN],λi hi _=>by simp only [Go.Sort.grow,Go.World.drewN];rw[Array.getElem?_append_left hi]⟩⟩
def FJ (n:Int):EC:=116 :: Lib.itoa n
theorem ND (n:Int)(w:World)(hg:GV w)(hn:EU n)(hl:(Lib.itoa n).length<=100) :
  Calls Tryz.prog 50 [I n].toArray w (Pure w (S (FJ n))):=by
 refine cw Tryz.func50 ?_;have r:=ED.refl w;refine ws λ_ z=>wr (da (de z (ws λ_ O=>wr (dm ?_))));refine cP (X93 n _ (hg.ext r) hn) RX.all λw1 J=>?_;have r:=r.trans J;refine dp (II rfl rfl (by simp;omega)) (da (de O (EJ ?_)));refine ro ?_;exact⟨rfl,r⟩
@[reducible] def H3 (bd bl:Nat) (n:Int) (vf:Value) (bo bm:Nat) (dead:Bool):List Value:=[EE bd 0,EE bl 0,I n,vf,.map (some bo),EE bm 0,B dead]
theorem Q2 (bs bd bl:Nat)(n:Int)(vf:Value)(bo bm:Nat)(dead:Bool)(w:World)(hs:EK w bs (H3 bd bl n vf bo bm dead) 90) :
  Calls Tryz.prog 38 [EE bs 0].toArray w (Pure w (I (if dead=true then 9 else 0))):=by
 refine cw Tryz.func38 ?_;have r:=ED.refl w;refine ws λ_ Z1=>wr (da (de Z1 (ws λ_ Y=>EM (ws λ_ Z3=>wr (dm ?_)))));refine dp (Gi EA rfl rfl) (da (de Z3 ?_));refine wi (λJ=>?_) λJ=>?_
 ·exact absurd J ER
 refine ws λ_ Z=>wr (dm ?_);refine dz rfl (df 6 rfl (dl rfl ((hs.ext r).at rfl) (da (de Z ?_))));refine wc (λz=>?_) λz=>?_
 ·refine ws λ_ O=>wr (da (de O (EJ ?_)));refine ro ?_;rw[if_pos z];exact⟨rfl,r⟩
 refine EI (Y _ _ (ws λ_ Z6=>wr (da (de Z6 (EJ ?_)))));refine ro ?_;rw[if_neg (by rw[z];decide)];exact⟨rfl,r⟩
theorem Pr (bs bd bl:Nat)(n:Int)(vf:Value)(bo bm:Nat)(dead:Bool)(e:Int)(w:World)(hs:EK w bs (H3 bd bl n vf bo bm dead) 90) :
  Calls Tryz.prog 41 [EE bs 0,I e].toArray w (Ff (ET bs) w (λu w'=>u=I e/\EK w' bs (H3 bd bl n vf bo bm (dead || decide (e≠0))) 90)):=by
 refine cw Tryz.func41 ?_;have r:=Vc.Mod.refl (ET bs) w;refine ws λ_ Z=>wr (da (de Z (ws λ_ J=>ws λ_ Z3=>wr (dm ?_))));refine dp (FH rfl rfl) (de Z3 (wi (λz=>?_) λz=>?_))
 ·refine wr (dm ?_);refine dz rfl (df 6 rfl (G4 hs (λw1 x1 xs1 hs=>?_)));dsimp only [EY,Af,Ad,Ag]at hs;have r:=r.own x1 (λi hi _=>hi);refine de J (ws λ_ Y=>wr (dm (da (de Y (EJ ?_)))));refine ro ?_;exact⟨_,rfl,r,rfl,by rw[decide_eq_true z,Bool.or_true];exact hs⟩
 refine EI (J _ _ (ws λ_ O=>wr (dm (da (de O (EJ ?_))))));refine ro ?_;exact⟨_,rfl,r,rfl,by rw[decide_eq_false z,Bool.or_false];exact hs⟩
structure RRep (X:Nat->Prop)(w:World)(bx:Nat)(l:List Cell):Prop where
 out:∃vL,EK w bx [vL] 215/\EQ Cell.cs 4 w vL l/\(l≠[]->(base vL).1≠bx/\X (base vL).1)/\(∀j,X j->j<w.heap.size)
def NI (F:Nat->Prop)(w w':World):Nat->Prop:=λk=>F k\/(w.heap.size<=k/\k<w'.heap.size)
end Go.Proofs.YtiooodckiddpmaaGreatDoor
namespace Go.Sp
open Go.Vc
def Gm (h:Nat->Nat):List Nat->Nat->Nat
 | [],_=>0
 | j :: r,row=>if row<h j then j else Gm h r row
def GY (h:Nat->Nat):List Nat->Nat->Nat
 | [],_=>0
 | j :: r,row=>if ∃i∈r,row<h i then GY h r row else if row<h j then j else 0
def Hi (h:Nat->Nat)(nx:Nat->List Nat):List Nat->Prop
 | []=>True
 | i :: r=>(∀row,row<h i->(nx i)[row]?=some (Gm h r row))/\Hi h nx r
theorem Q3 {h:Nat->Nat}{row:Nat} : ∀ {R S:List Nat},(∀i∈R,¬ row<h i)->Gm h (R++S) row=Gm h S row
 | [],S,_=>rfl
 | j :: r,S,hn=>by
  simp only [AT,Gm];rw[if_neg (hn j Al)];exact Q3 (λi hi=>hn i (Am _ hi))
theorem Sm (h:Nat->Nat)(row:Nat):∀(R S:List Nat),(∃R1 j R2,R=R1++j :: R2/\row<h j/\Gm h (R++S) row=j/\(∀i∈R1,¬ row<h i))\/((∀i∈R,¬ row<h i)/\Gm h (R++S) row=Gm h S row)
 | [],S=>.inr ⟨(λi hi=>by cases hi),rfl⟩
 | j :: r,S=>by
  by_cases hj:row<h j
  ·exact .inl ⟨[],j,r,rfl,hj,by simp [Gm,hj],(λi hi=>by cases hi)⟩
  ·rcases Sm h row r S with⟨R1,k,R2,rfl,hk,he,hn⟩|⟨hn,he⟩
   ·refine .inl ⟨j :: R1,k,R2,rfl,hk,?_,λi hi=>?_⟩
    ·simp only [AT,Gm,if_neg hj]at he ⊢;exact he
    ·rcases Aj.1 hi with rfl|hi
     ·exact hj
     ·exact hn i hi
   ·refine .inr ⟨λi hi=>?_,?_⟩
    ·rcases Aj.1 hi with rfl|hi
     ·exact hj
     ·exact hn i hi
    ·simp only [AT,Gm,if_neg hj];exact he
theorem RG (h:Nat->Nat)(row:Nat):∀S:List Nat,Gm h S row=0\/(Gm h S row∈S/\row<h (Gm h S row))
 | []=>.inl rfl
 | j :: r=>by
  simp only [Gm]
  by_cases hj:row<h j
  ·rw[if_pos hj];exact .inr ⟨Al,hj⟩
  ·rw[if_neg hj];rcases RG h row r with e|⟨e,e2⟩
   ·exact .inl e
   ·exact .inr ⟨Am _ e,e2⟩
theorem Qk {h:Nat->Nat}{row at':Nat} : ∀ {A R:List Nat},row<h at'->(∀i∈R,¬ row<h i)->GY h (A++at' :: R) row=at'
 | [],R,ha,hn=>by
  simp only [AE,GY];rw[if_neg (by rintro ⟨i,hi,hlt⟩;exact hn i hi hlt),if_pos ha]
 | j :: A,R,ha,hn=>by
  simp only [AT,GY];rw[if_pos ⟨at',by simp,ha⟩];exact Qk ha hn
theorem Qi {h:Nat->Nat}{nx:Nat->List Nat} : ∀ {A R:List Nat} {i:Nat},Hi h nx (A++i :: R)->∀row,row<h i->(nx i)[row]?=some (Gm h R row)
 | [],_,_,hl=>hl.1
 | _ :: A,_,_,hl=>Qi (A:=A) hl.2
theorem VZ {h h':Nat->Nat}{nx nx':Nat->List Nat}{q:Nat} : ∀(A S:List Nat),(∀i∈A++S,h' i=h i/\i≠q)->Hi h nx (A++S)->
  (∀i∈S,nx' i=nx i)->(∀row,row<h' q->(nx' q)[row]?=some (Gm h S row))->
  (∀i∈A,∀row,row<h i->(nx' i)[row]?=if GY h A row=i/\row<h' q then some q else(nx i)[row]?)->A.Nodup->
  Hi h' nx' (A++q :: S)
 | [],S,hh,hl,hS,hq,_,_=>by
  have hn:∀T:List Nat,(∀i∈T,h' i=h i)->∀row,Gm h' T row=Gm h T row:=by
   intro T
   induction T with
   | nil=>intro _ _;rfl
   | cons j r ih=>intro z row;simp only [Gm];rw[z j Al,ih (λi hi=>z i (Am _ hi))]
  have hb:∀T:List Nat,(∀i∈T,h' i=h i/\nx' i=nx i)->Hi h nx T->Hi h' nx' T:=by
   intro T
   induction T with
   | nil=>intro _ _;trivial
   | cons j r ih=>
    intro z hl;obtain⟨h1,h2⟩:=z j Al;refine⟨λrow J=>?_,ih (λi hi=>z i (Am _ hi)) hl.2⟩;rw[h2,hn r (λi hi=>(z i (Am _ hi)).1)];exact hl.1 row (by rw[<-h1];exact J)
  refine⟨λrow J=>?_,hb S (λi hi=>⟨(hh i (by simpa using hi)).1,hS i hi⟩) (by simpa using hl)⟩;rw[hq row J,hn S (λi hi=>(hh i (by simpa using hi)).1)]
 | a :: A,S,hh,hl,hS,hq,hA,hnd=>by
  have Y:=AV.1 hnd;have hg:=VZ (h:=h) (h':=h') (nx:=nx) (nx':=nx') (q:=q) A S (λi hi=>hh i (Am _ hi)) hl.2 hS hq (λi hi row J=>by
   have h1:=hA i (Am _ hi) row J;have e:GY h (a :: A) row=GY h A row:=by
    simp only [GY];rw[if_pos ⟨i,hi,J⟩]
   rw[e]at h1;exact h1) Y.2
  refine⟨λrow J=>?_,hg⟩;have ha:=(hh a Al);rw[ha.1]at J;have h1:=hA a Al row J;have h2:(nx a)[row]?=some (Gm h (A++S) row):=hl.1 row J;show(nx' a)[row]?=some (Gm h' (A++q :: S) row);rw[h1];have hf:∀T:List Nat,(∀i∈T,h' i=h i)->Gm h' (T++q :: S) row=if ∃i∈T,row<h i then Gm h (T++S) row else if row<h' q then q else Gm h S row:=by
   intro T
   induction T with
   | nil=>
    intro _;have hn:∀T:List Nat,(∀i∈T,h' i=h i)->Gm h' T row=Gm h T row:=by
     intro T
     induction T with
     | nil=>intro _;rfl
     | cons j r ih=>intro z;simp only [Gm];rw[z j Al,ih (λi hi=>z i (Am _ hi))]
    simp only [AE,Gm];rw[hn S (λi hi=>(hh i (Am _ (by simp [hi]))).1)];simp
   | cons j r ih=>
    intro z;simp only [AT,Gm];rw[z j Al,ih (λi hi=>z i (Am _ hi))]
    by_cases hj:row<h j
    ·simp [hj]
    ·simp [hj]
  rw[hf A (λi hi=>(hh i (Am _ (by simp [hi]))).1)]
  by_cases hex:∃i∈A,row<h i
  ·rw[if_pos hex];have hp:¬ (GY h (a :: A) row=a/\row<h' q):=by
    rintro ⟨he,_⟩;simp only [GY]at he;rw[if_pos hex]at he;have:GY h A row∈A:=by
     have hc:∀T:List Nat,(∃i∈T,row<h i)->GY h T row∈T:=by
      intro T
      induction T with
      | nil=>rintro ⟨i,hi,_⟩;cases hi
      | cons j r ih=>
       intro hx;simp only [GY]
       by_cases hr2:∃i∈r,row<h i
       ·rw[if_pos hr2];exact Am _ (ih hr2)
       ·rw[if_neg hr2];obtain⟨i,hi,O⟩:=hx;rcases Aj.1 hi with rfl|hi
        ·rw[if_pos O];exact Al
        ·exact absurd ⟨i,hi,O⟩ hr2
     exact hc A hex
    rw[he]at this;exact Y.1 this
   rw[if_neg hp,h2]
  ·rw[if_neg hex];have he:GY h (a :: A) row=a:=by
    simp only [GY];rw[if_neg hex,if_pos J]
   have Z:Gm h (A++S) row=Gm h S row:=Q3 (λi hi O=>hex ⟨i,hi,O⟩)
   by_cases hq':row<h' q
   ·rw[if_pos ⟨he,hq'⟩,if_pos hq']
   ·rw[if_neg (λx=>hq' x.2),if_neg hq',h2,Z]
structure Tow where
 c:Cell
 bk:Nat
 h:Nat
@[reducible] def Tow.sl (t:Tow):Value:=.slice (some ⟨t.bk,0,none⟩) t.h t.h
@[reducible] def Tow.enc (t:Tow):List Value:=[S t.c.key,S t.c.val,B t.c.del,I t.c.seq,t.sl]
def hgt (a:List Tow)(i:Nat):Nat:=(a[i]?.map Tow.h).getD 0
def HA (a:List Tow)(i:Nat):Cell:=(a[i]?.map Tow.c).getD Cell.zero
theorem TY {a:List Tow}{i:Nat}{t:Tow}(h:a[i]?=some t):hgt a i=t.h:=by simp [hgt,h]
theorem Nr {a:List Tow}{i:Nat}{t:Tow}(h:a[i]?=some t):HA a i=t.c:=by simp [HA,h]
def Fv (a:List Tow)(L:List Nat)(c:Cell):List Nat:=L.takeWhile λi=>Fa (HA a i) c
def Fp (a:List Tow)(L:List Nat)(c:Cell):List Nat:=L.dropWhile λi=>Fa (HA a i) c
theorem N6 (a:List Tow)(L:List Nat)(c:Cell):Fv a L c++Fp a L c=L:=List.takeWhile_append_dropWhile ..
structure Skip (a:List Tow)(nx:Nat->List Nat)(L:List Nat)(l:List Cell):Prop where
 len:a.length=L.length+1
 mem:∀i∈L,1<=i/\i<a.length
 nd:L.Nodup
 cells:l=L.map (HA a)
 h0:hgt a 0=12
 hle:∀i,i<a.length->1<=hgt a i/\hgt a i<=12
 link:Hi (hgt a) nx (0 :: L)
section
variable {a:List Tow}{nx:Nat->List Nat}{L:List Nat}{l:List Cell}{c:Cell}
theorem Xws {i:Nat}(h:i∈Fv a L c):Fa (HA a i) c=true:=
 AY.1 (List.all_takeWhile (p:=λi=>Fa (HA a i) c) (l:=L)) i h
theorem MA {i:Nat}(h:i∈Fv a L c):i∈L:=by rw[<-N6 a L c];exact BD _ h
theorem NG {i:Nat}(h:i∈Fp a L c):i∈L:=by rw[<-N6 a L c];exact Bw _ h
theorem Tp {i:Nat}{r:List Nat}(h:Fp a L c=i :: r):Fa (HA a i) c=false:=by
 have:=List.head?_dropWhile_not (λi=>Fa (HA a i) c) L;rw[show List.dropWhile (λi=>Fa (HA a i) c) L=Fp a L c from rfl,h]at this;simpa using this
theorem X6f (a:List Tow)(L:List Nat)(c:Cell):pre (L.map (HA a)) c=(Fv a L c).map (HA a):=by
 unfold pre Fv;rw[List.takeWhile_map];rfl
theorem MJ (a:List Tow)(L:List Nat)(c:Cell):HF (L.map (HA a)) c=(Fp a L c).map (HA a):=by
 unfold HF Fp;rw[List.dropWhile_map];rfl
theorem Skip.mem0 (h:Skip a nx L l){i:Nat}(hi:i∈0 :: L):i<a.length:=by
 rcases Aj.1 hi with rfl|hi
 ·have:=h.len;omega
 ·exact(h.mem i hi).2
theorem Skip.pos (h:Skip a nx L l){i:Nat}(hi:i∈L):i≠0:=by have:=(h.mem i hi).1;omega
theorem Skip.nextR (h:Skip a nx L l){A R:List Nat}{i row:Nat}(hp:0 :: Fv a L c=A++i :: R)(hr:row<hgt a i):(nx i)[row]?=some (Gm (hgt a) (R++Fp a L c) row):=by
 have r:=h.link;have e:0 :: L=A++i :: (R++Fp a L c):=by
  have e2:0 :: (Fv a L c++Fp a L c)=A++i :: (R++Fp a L c):=by rw[<-AT,hp];simp
  rwa [N6]at e2
 rw[e]at r;exact Qi r row hr
theorem Skip.next_in (h:Skip a nx L l){A R:List Nat}{i row:Nat}(hp:0 :: Fv a L c=A++i :: R) :
  Gm (hgt a) (R++Fp a L c) row=0\/Gm (hgt a) (R++Fp a L c) row∈L:=by
 rcases RG (hgt a) row (R++Fp a L c)with e|⟨e,_⟩
 ·exact .inl e
 ·refine .inr ?_;rcases Aw.1 e with e|e
  ·have:Gm (hgt a) (R++Fp a L c) row∈0 :: Fv a L c:=by rw[hp];simp [e]
   rcases Aj.1 this with e2|e2
   ·-- 0 is not of what stands behind
    exfalso;rw[e2]at e
    cases A with
    | nil=>
     rw[AE]at hp;have r:R=Fv a L c:=by injection hp with _ h2;exact h2.symm
     rw[r]at e;exact h.pos (MA e) rfl
    | cons x A=>
     rw[AT]at hp;have r:Fv a L c=A++i :: R:=by injection hp
     exact h.pos (MA (by rw[r];simp [e])) rfl
   ·exact MA e2
  ·exact NG e
theorem Skip.behind (h:Skip a nx L l){A R:List Nat}{i j:Nat}(hp:0 :: Fv a L c=A++i :: R)(hj:j∈R):j∈Fv a L c:=by
 cases A with
 | nil=>
  rw[AE]at hp;have r:Fv a L c=R:=by injection hp
  rw[r];exact hj
 | cons x A=>
  rw[AT]at hp;have r:Fv a L c=A++i :: R:=by injection hp
  rw[r];simp [hj]
theorem Skip.step (h:Skip a nx L l)(hs:Fx l){A R:List Nat}{i row:Nat}{t:Tow}(hp:0 :: Fv a L c=A++i :: R)(h0:Gm (hgt a) (R++Fp a L c) row≠0)
  (ht:a[Gm (hgt a) (R++Fp a L c) row]?=some t) (hl:Fa t.c c=true) :
  ∃A' R',0 :: Fv a L c=A'++Gm (hgt a) (R++Fp a L c) row :: R'/\row<hgt a (Gm (hgt a) (R++Fp a L c) row)/\R'.length<R.length:=by
 rcases Sm (hgt a) row R (Fp a L c)with⟨R1,j,R2,e,hj,e2,_⟩|⟨_,e2⟩
 ·rw[e2];refine⟨A++i :: R1,R2,?_,hj,?_⟩
  ·rw[hp,e];simp
  ·rw[e];simp;omega
 ·exfalso;rw[e2]at h0 ht;rcases RG (hgt a) row (Fp a L c)with e3|⟨e3,_⟩
  ·exact h0 e3
  ·-- a cell of the rest is not ahead
   cases hsu:Fp a L c with
   | nil=>rw[hsu]at e3;cases e3
   | cons s r=>
    have h1:=Tp hsu;rw[hsu]at e3;rw[hsu]at ht;have z:Fa (HA a (Gm (hgt a) (s :: r) row)) c=true:=by rw[Nr ht];exact hl
    rcases Aj.1 e3 with e4|e4
    ·rw[e4,h1]at z;cases z
    ·have J:Fx (HF l c):=by
      have h2:Fx (pre l c++HF l c):=by rw[MK];exact hs
      exact(List.pairwise_append.1 h2).2.1
     rw[h.cells,MJ,hsu,An]at J;have:=List.rel_of_pairwise_cons J (List.mem_map_of_mem (f:=HA a) e4);have:=N2 this z;rw[h1]at this;cases this
theorem Skip.stop (h:Skip a nx L l){A R:List Nat}{i row:Nat}(hp:0 :: Fv a L c=A++i :: R)(hr:row<hgt a i)
  (hn:Gm (hgt a) (R++Fp a L c) row=0\/∃t,a[Gm (hgt a) (R++Fp a L c) row]?=some t/\Fa t.c c=false) :
  GY (hgt a) (0 :: Fv a L c) row=i:=by
 rw[hp];refine Qk hr λj J z=>?_;rcases Sm (hgt a) row R (Fp a L c)with⟨R1,k,R2,e,hk,e2,_⟩|⟨hno,_⟩
 ·have r:=h.behind hp (j:=k) (by rw[e];simp);rw[e2]at hn;rcases hn with hn|⟨t,ht,hl⟩
  ·exact h.pos (MA r) hn
  ·have:=Xws r;rw[Nr ht,hl]at this;cases this
 ·exact hno j J z
theorem WA {h:Nat->Nat} : ∀ {R:List Nat},(∀i∈R,1<=h i)->Gm h R 0=R.headD 0
 | [],_=>rfl
 | j :: r,hh=>by simp [Gm];intro h0;have:=hh j Al;omega
theorem Xps {h:Nat->Nat} : ∀ {A:List Nat} {x:Nat},(∀i∈A++[x],1<=h i)->GY h (A++[x]) 0=x:=λ {A x} hh=>
 Qk (hh x ER) (λi hi=>by cases hi)
theorem Skip.last (h:Skip a nx L l)(c:Cell):∃A i,0 :: Fv a L c=A++[i]/\GY (hgt a) (0 :: Fv a L c) 0=i/\i<a.length/\(nx i)[0]?=some ((Fp a L c).headD 0):=by
 obtain⟨A,i,e⟩:∃A i,0 :: Fv a L c=A++[i]:=⟨(0 :: Fv a L c).dropLast,(0 :: Fv a L c).getLast ER,(List.dropLast_concat_getLast ER).symm⟩;have z:∀j∈0 :: Fv a L c,j<a.length:=λj r=>by
  rcases Aj.1 r with rfl|r
  ·exact h.mem0 Al
  ·exact h.mem0 (Am _ (MA r))
 have hi:i<a.length:=z i (by rw[e];simp);refine⟨A,i,e,?_,hi,?_⟩
 ·rw[e];exact Xps (λj r=>(h.hle j (z j (by rw[e];exact r))).1)
 ·have:=h.nextR (c:=c) (A:=A) (R:=[]) (i:=i) (row:=0) e (by have:=(h.hle i hi).1;omega);rw[this,AE,WA (λj r=>(h.hle j (h.mem0 (Am _ (NG r)))).1)]
theorem Skip.next0 (h:Skip a nx L l){D r:List Nat}{i:Nat}(hp:Fp a L c=D++i :: r):i∈L/\(nx i)[0]?=some (r.headD 0):=by
 have O:L=Fv a L c++(D++i :: r):=by rw[<-hp,N6]
 have z:i∈L:=by rw[O];simp
 have Z:∀j∈r,j∈L:=λj J=>by rw[O];simp [J]
 refine⟨z,?_⟩;have Y:=h.link;have e:0 :: L=(0 :: Fv a L c++D)++i :: r:=by
  have e2:0 :: (Fv a L c++(D++i :: r))=(0 :: Fv a L c++D)++i :: r:=by simp
  rwa [<-O]at e2
 rw[e]at Y;rw[Qi Y 0 (by have:=(h.hle i (h.mem i z).2).1;omega),WA (λj J=>(h.hle j (h.mem j (Z j J)).2).1)]
theorem RB {key:EC}{seq:Int} : ∀ {l:List Cell},Fx l->first l key seq=((HF l ⟨key,[],false,seq⟩).head?).filter λs=>decide (s.key=key)
 | [],_=>rfl
 | x :: l,hs=>by
  have O:Fx l:=(AQ.1 hs).2;have hx:∀y∈l,Fa x y=true:=(AQ.1 hs).1;have ih:=RB (key:=key) (seq:=seq) O;unfold first HF at *
  rw[List.find?_cons,Ef]
  by_cases hl:Fa x ⟨key,[],false,seq⟩=true
  ·rw[if_pos hl];have hn:(decide (x.key=key) && decide (x.seq<=seq))=false:=by
    rw[Jf]at hl;rcases hl with hl|⟨e,hl⟩
    ·have:=MN hl;simp only []at this;simp [this]
    ·simp only []at e hl;simp [e];omega
   rw[hn];exact ih
  ·rw[if_neg hl];simp only [Eg,Eh];have r:¬ (Fg x.key key=true\/(x.key=key/\seq<x.seq)):=λh=>hl ((Jf _ _).2 h)
   by_cases e:x.key=key
   ·have Z:x.seq<=seq:=by
     by_cases Z:x.seq<=seq
     ·exact Z
     ·exact absurd (.inr ⟨e,by omega⟩) r
    simp [e,Z]
   ·have hgt:Fg key x.key=true:=by
     rcases JK x.key key with h|h|h
     ·exact absurd h e
     ·exact absurd (.inl h) r
     ·exact h
    have Y:∀y∈l,(decide (y.key=key) && decide (y.seq<=seq))=false:=λy J=>by
     have h1:=(Jf _ _).1 (hx y J);have h2:y.key≠key:=by
      rintro rfl;rcases h1 with h1|⟨h1,_⟩
      ·rw[K9 h1]at hgt;cases hgt
      ·exact e h1
     simp [h2]
    have z:l.find? (λc=>decide (c.key=key) && decide (c.seq<=seq))=none:=by
     rw[List.find?_eq_none];intro y J;rw[Y y J];decide
    simp [e,z]
theorem Skip.first_none (h:Skip a nx L l)(hs:Fx l){key:EC}{seq:Int}(h0:(Fp a L ⟨key,[],false,seq⟩).headD 0=0):first l key seq=none:=by
 rw[RB hs,h.cells,MJ]
 cases hsu:Fp a L ⟨key,[],false,seq⟩with
 | nil=>rfl
 | cons i r=>
  rw[hsu]at h0;exact absurd h0 (h.pos (NG (c:=⟨key,[],false,seq⟩) (by rw[hsu];simp)))
theorem Skip.first_at (h:Skip a nx L l)(hs:Fx l){key:EC}{seq:Int}{t:Tow}(h0:(Fp a L ⟨key,[],false,seq⟩).headD 0≠0)(ht:a[(Fp a L ⟨key,[],false,seq⟩).headD 0]?=some t):first l key seq=if t.c.key=key then some t.c else none:=by
 rw[RB hs,h.cells,MJ]
 cases hsu:Fp a L ⟨key,[],false,seq⟩with
 | nil=>rw[hsu]at h0;exact absurd rfl h0
 | cons i r=>
  rw[hsu]at ht;simp only [Ei]at ht;simp only [An,Eg,Eh,Nr ht]
  by_cases e:t.c.key=key<;>simp [e]
theorem Skip.head_at (h:Skip a nx L l)(h0:(Fp a L c).headD 0≠0):∃t,a[(Fp a L c).headD 0]?=some t:=by
 cases hsu:Fp a L c with
 | nil=>rw[hsu]at h0;exact absurd rfl h0
 | cons i r=>exact⟨_,Ar (h.mem i (NG (c:=c) (by rw[hsu];simp))).2⟩
theorem VM {p q:Cell->Bool} : ∀ {l:List Cell},(∀x y,q x=false->Fa x y=true->q y=false)->Fx l->(∀x∈l,p x=true)->l.filter (λx=>p x && q x)=l.takeWhile q
 | [],_,_,_=>rfl
 | x :: l,hq,hs,hp=>by
  have r:=AQ.1 hs;rw[BC,Ej,hp x Al,Cq]
  cases hx:q x with
  | true=>simp [VM hq r.2 (λy z=>hp y (Am _ z))]
  | false=>
   simp only [Bool.false_eq_true,if_false];rw[List.filter_eq_nil_iff];intro y z;simp [hq x y hx (r.1 y z)]
theorem Xz {frm to:EC} : ∀ {l:List Cell},Fx l->(∀x∈l,x.seq<=4611686018427387904)->HC l frm to=(HF l ⟨frm,[],false,4611686018427387904⟩).takeWhile λx=>(decide (to=[]) || Fg x.key to)
 | [],_,_=>rfl
 | x :: l,hs,hb=>by
  have O:=AQ.1 hs;have hbx:=hb x Al;unfold HC HF;rw[Ef]
  by_cases hl:Fa x ⟨frm,[],false,4611686018427387904⟩=true
  ·rw[if_pos hl];have Y:Fg x.key frm=true:=by
    rw[Jf]at hl;rcases hl with hl|⟨_,hl⟩
    ·exact hl
    ·simp only []at hl;omega
   have ih:=Xz (frm:=frm) (to:=to) O.2 (λy J=>hb y (Am _ J));unfold HC HF at ih;rw[BC,if_neg (by simp [JN,Y])];exact ih
  ·rw[if_neg hl];have r:Fg x.key frm=false:=by
    cases hh:Fg x.key frm with
    | false=>rfl
    | true=>exact absurd ((Jf _ _).2 (.inl hh)) hl
   have z:∀y∈x :: l,(!Fg y.key frm)=true:=λy J=>by
    rcases Aj.1 J with rfl|J
    ·rw[r];rfl
    ·cases hh:Fg y.key frm with
     | false=>rfl
     | true=>
      rcases(Jf _ _).1 (O.1 y J)with h1|⟨h1,_⟩
      ·rw[Jl _ _ _ h1 hh]at r;cases r
      ·rw[h1,hh]at r;cases r
   exact VM (p:=λy=>!Fg y.key frm) (λu v hu Z=>by
    simp only [Bool.or_eq_false_iff,decide_eq_false_iff_not]at hu ⊢;refine⟨hu.1,?_⟩
    cases hh:Fg v.key to with
    | false=>rfl
    | true=>
     rcases(Jf _ _).1 Z with h1|⟨h1,_⟩
     ·rw[Jl _ _ _ h1 hh]at hu;cases hu.2
     ·rw[h1,hh]at hu;cases hu.2) hs z
theorem Vy {α:Type}{p:α->Bool} : ∀ {D r:List α},(∀x∈D,p x=true)->(∀x,r.head?=some x->p x=false)->(D++r).takeWhile p=D
 | [],[],_,_=>rfl
 | [],x :: r,_,h=>by simp [h x rfl]
 | d :: D,r,h1,h2=>by
  rw[AT,Ej,if_pos (h1 d Al),Vy (λx z=>h1 x (Am _ z)) h2]
theorem Skip.scan_done (h:Skip a nx L l)(hs:Fx l)(hb:∀x∈l,x.seq<=4611686018427387904){frm to:EC}{D r:List Nat}(e:Fp a L ⟨frm,[],false,4611686018427387904⟩=D++r)
  (hD:∀i∈D,to=[]\/Fg (HA a i).key to=true) (hr:∀i,r.head?=some i->¬ (to=[]\/Fg (HA a i).key to=true)):HC l frm to=D.map (HA a):=by
 rw[Xz hs hb,h.cells,MJ,e,AH];refine Vy (λx z=>?_) (λx z=>?_)
 ·obtain⟨i,hi,rfl⟩:=List.mem_map.1 z;simpa using hD i hi
 ·rw[List.head?_map]at z;obtain⟨i,hi,rfl⟩:=Option.map_eq_some_iff.1 z;have:=hr i hi;rw[not_or]at this;simp [this.1,this.2]
theorem Skip.last_in (h:Skip a nx L l)(c:Cell){row:Nat}(hr:row<12) :
  ∃A R,0 :: Fv a L c=A++GY (hgt a) (0 :: Fv a L c) row :: R/\row<hgt a (GY (hgt a) (0 :: Fv a L c) row)/\(∀i∈R,¬ row<hgt a i):=by
 have key:∀T:List Nat,(∃i∈T,row<hgt a i)->∃A R,T=A++GY (hgt a) T row :: R/\row<hgt a (GY (hgt a) T row)/\(∀i∈R,¬ row<hgt a i):=by
  intro T
  induction T with
  | nil=>rintro ⟨i,hi,_⟩;cases hi
  | cons j r ih=>
   intro O
   by_cases hr2:∃i∈r,row<hgt a i
   ·obtain⟨A,R,e,h2,h3⟩:=ih hr2;have e2:GY (hgt a) (j :: r) row=GY (hgt a) r row:=by simp only [GY];rw[if_pos hr2]
    rw[e2];exact⟨j :: A,R,by rw[AT,<-e],h2,h3⟩
   ·have J:row<hgt a j:=by
     obtain⟨i,hi,z⟩:=O;rcases Aj.1 hi with rfl|hi
     ·exact z
     ·exact absurd ⟨i,hi,z⟩ hr2
    have e2:GY (hgt a) (j :: r) row=j:=by simp only [GY];rw[if_neg hr2,if_pos J]
    rw[e2];exact⟨[],r,rfl,J,λi hi z=>hr2 ⟨i,hi,z⟩⟩
 exact key _ ⟨0,Al,by rw[h.h0];exact hr⟩
theorem Skip.has_none (h:Skip a nx L l)(h0:(Fp a L c).headD 0=0):has l c=false:=by
 unfold has;rw[h.cells,MJ]
 cases hsu:Fp a L c with
 | nil=>rfl
 | cons i r=>
  rw[hsu]at h0;exact absurd h0 (h.pos (NG (c:=c) (by rw[hsu];simp)))
theorem Skip.has_at (h:Skip a nx L l){t:Tow}(h0:(Fp a L c).headD 0≠0)(ht:a[(Fp a L c).headD 0]?=some t):has l c=!Fa c t.c:=by
 unfold has;rw[h.cells,MJ]
 cases hsu:Fp a L c with
 | nil=>rw[hsu]at h0;exact absurd rfl h0
 | cons i r=>
  rw[hsu]at ht;simp only [Ei]at ht;have hn:=Tp hsu;rw[Nr ht]at hn;simp only [An,Nr ht]
  cases hl:Fa c t.c with
  | false=>
   have:=Sa hn hl;simp [this.1,this.2]
  | true=>
   simp only [Bool.not_true,C8,decide_eq_false_iff_not]
   by_cases e:t.c.key=c.key
   ·right;intro e2;rw[Sg e.symm e2.symm]at hl
    cases hl
   ·exact .inl e
theorem Xpt {α:Type}{x y:List α}{n:Nat}(hx:x.length=n)(hy:y.length=n)(h:∀i,i<n->x[i]?=y[i]?):x=y:=by
 apply BA
 intro i
 by_cases hi:i<n
 ·exact h i hi
 ·rw[Bm EB,Bm EB]
theorem Skip.put (h:Skip a nx L l){t:Tow}{nx2:Nat->List Nat}(htc:t.c=c)(hh:1<=t.h/\t.h<=12)
  (hlen:∀i,i<a.length->(nx i).length=hgt a i/\(nx2 i).length=hgt a i)
  (hq:∀row,row<t.h->(nx2 a.length)[row]?=some (Gm (hgt a) (Fp a L c) row))
  (hlay:∀i row,i<a.length->row<hgt a i->(nx2 i)[row]?=if row<t.h/\GY (hgt a) (0 :: Fv a L c) row=i then some a.length else(nx i)[row]?) :
  Skip (a++[t]) nx2 (Fv a L c++a.length :: Fp a L c) (pre l c++c :: HF l c):=by
 have J:=N6 a L c;have hg:∀i,i<a.length->hgt (a++[t]) i=hgt a i:=λi hi=>by unfold hgt;rw[Bt hi]
 have hb:hgt (a++[t]) a.length=t.h:=by unfold hgt;simp
 have hc:∀i,i<a.length->HA (a++[t]) i=HA a i:=λi hi=>by unfold HA;rw[Bt hi]
 have hz:HA (a++[t]) a.length=c:=by unfold HA;simp [htc]
 have r:∀i,i∈Fv a L c++Fp a L c->1<=i/\i<a.length:=λi hi=>h.mem i (by rw[J]at hi;exact hi);have hj:0<a.length:=by have:=h.len;omega
 have ht:(0 :: (Fv a L c++Fp a L c)).Nodup:=AV.2 ⟨λh0=>by have:=(r 0 h0).1;omega,by rw[J];exact h.nd⟩;have hf:(0 :: Fv a L c).Nodup:=by
  have:(0 :: Fv a L c++Fp a L c).Nodup:=ht;exact(BG.1 this).1
 have hl:∀i∈0 :: Fv a L c,∀j∈Fp a L c,i≠j:=by
  have:(0 :: Fv a L c++Fp a L c).Nodup:=ht;exact(BG.1 this).2.2
 have ha:∀row,row<12->GY (hgt a) (0 :: Fv a L c) row∈0 :: Fv a L c:=λrow Z=>by
  obtain⟨A,R,e,_⟩:=h.last_in c Z;rw[e];have e':GY (hgt a) (A++GY (hgt a) (0 :: Fv a L c) row :: R) row=GY (hgt a) (0 :: Fv a L c) row:=by rw[<-e]
  rw[e'];simp
 have Y:∀i∈0 :: Fv a L c,i<a.length:=λi hi=>by
  rcases Aj.1 hi with rfl|hi
  ·exact hj
  ·exact(r i (BD _ hi)).2
 refine⟨?_,?_,?_,?_,?_,?_,?_⟩
 ·have e:=congrArg AC J;rw[Aa]at e;rw[Aa,Aa,AG,h.len];simp;omega
 ·intro i hi;rw[Aa];simp only [Aw,Aj]at hi;rcases hi with hi|rfl|hi
  ·have:=r i (BD _ hi);simp;omega
  ·simp;omega
  ·have:=r i (Bw _ hi);simp;omega
 ·have hw:(Fv a L c++Fp a L c).Nodup:=by rw[J];exact h.nd
  have hp:=BG.1 hw;refine BG.2 ⟨hp.1,AV.2 ⟨λhm=>?_,hp.2.1⟩,λx O y hy=>?_⟩
  ·have:=(r _ (Bw _ hm)).2;omega
  ·rcases Aj.1 hy with rfl|hy
   ·have:=(r x (BD _ O)).2;omega
   ·exact hp.2.2 x O y hy
 ·have e1:pre l c=(Fv a L c).map (HA a):=by rw[h.cells,X6f]
  have e2:HF l c=(Fp a L c).map (HA a):=by rw[h.cells,MJ]
  rw[e1,e2,AH,An,hz];have e3:∀T:List Nat,(∀i∈T,i<a.length)->T.map (HA (a++[t]))=T.map (HA a):=λT hT=>List.map_congr_left (λi hi=>hc i (hT i hi));rw[e3 _ (λi hi=>(r i (BD _ hi)).2),e3 _ (λi hi=>(r i (Bw _ hi)).2)]
 ·rw[hg 0 hj];exact h.h0
 ·intro i hi;rw[Aa]at hi
  by_cases hia:i<a.length
  ·rw[hg i hia];exact h.hle i hia
  ·have:i=a.length:=by simp at hi;omega
   rw[this,hb];exact hh
 ·show Hi (hgt (a++[t])) nx2 ((0 :: Fv a L c)++a.length :: Fp a L c);refine VZ (h:=hgt a) (nx:=nx) (0 :: Fv a L c) (Fp a L c) (λi hi=>?_) (by rw[AT,J];exact h.link) (λi hi=>?_) (λrow Z=>?_) (λi hi row Z=>?_) hf
  ·have z:i<a.length:=by
    rcases Aw.1 hi with hi|hi
    ·exact Y i hi
    ·exact(r i (Bw _ hi)).2
   exact⟨hg i z,by omega⟩
  ·have z:=(r i (Bw _ hi)).2;refine Xpt (hlen i z).2 (hlen i z).1 (λrow Z=>?_);rw[hlay i row z Z,if_neg];rintro ⟨h1,h2⟩;exact hl _ (ha row EB) i hi h2
  ·rw[hb]at Z;exact hq row Z
  ·rw[hlay i row (Y i hi) Z,hb]
   by_cases O:row<t.h/\GY (hgt a) (0 :: Fv a L c) row=i
   ·rw[if_pos O,if_pos ⟨O.2,O.1⟩]
   ·rw[if_neg O,if_neg (λy=>O ⟨y.2,y.1⟩)]
theorem Xpu (l:List Cell)(c:Cell):He (pre l c++c :: HF l c)=He l+Gt c:=by
 have e:He l=He (pre l c++HF l c):=by rw[MK]
 rw[e];unfold He;simp only [AH,An,List.sum_append,List.sum_cons];omega
theorem Xwt (l:List Cell)(c:Cell):(pre l c++c :: HF l c).length=l.length+1:=by
 have e:l.length=(pre l c++HF l c).length:=by rw[MK]
 rw[e];simp only [Aa,AG];omega
end
end Go.Sp
namespace Go.Proofs.YtiooodckiddpmaaGreatDoor
open Go.Vc Go.Sp
attribute [local irreducible] W XW Dw Gs
structure MemAt (w:World)(bm:Nat)(va vd:Value)(a:List Tow)(nx:Nat->List Nat)(dr:List Nat)(n sz:Nat):Prop where
 hm:EK w bm [va,vd,I n,I sz] 155
 hA:Vc.Own Tow.enc 5 172 0 w va a
 hd:Vc.Own Iz 1 174 0 w vd dr
 hN:∀i t,a[i]?=some t->EK w t.bk (Ga (nx i)) 3/\(nx i).length=t.h
 d2:∀(i j:Nat) s t,a[i]?=some s->a[j]?=some t->s.bk=t.bk->i=j
theorem MemAt.arr {w:World}{bm:Nat}{va vd:Value}{a:List Tow}{nx:Nat->List Nat}{dr:List Nat}{n sz:Nat}(h:MemAt w bm va vd a nx dr n sz):EQ Tow.enc 5 w va a:=h.hA.arr (λx=>rfl)
theorem X0h {w:World}{t:Tow}{q:List Nat}(h:EK w t.bk (Ga q) 3/\q.length=t.h)(hh:t.h<=12):EQ M3 1 w t.sl q:=
 h.1.arr (Xt7 q).symm (λx=>rfl) h.2.symm EB
theorem MemAt.next {w:World}{bm:Nat}{va vd:Value}{a:List Tow}{nx:Nat->List Nat}{dr:List Nat}{n sz i:Nat}{t:Tow}(h:MemAt w bm va vd a nx dr n sz){L:List Nat}{l:List Cell}{nx':Nat->List Nat}(hs:Skip a nx' L l)(ht:a[i]?=some t):EQ M3 1 w t.sl (nx i):=
 X0h (h.hN i t ht) (by have:=(hs.hle i (Ap.1 ht).1).2;rwa [TY ht]at this)
theorem MemAt.ext {w w':World}{bm:Nat}{va vd:Value}{a:List Tow}{nx:Nat->List Nat}{dr:List Nat}{n sz:Nat}(h:MemAt w bm va vd a nx dr n sz)(x:ED w w'):MemAt w' bm va vd a nx dr n sz:=
 ⟨h.hm.ext x,h.hA.ext x,h.hd.ext x,λi t r=>⟨(h.hN i t r).1.ext x,(h.hN i t r).2⟩,h.d2⟩
theorem X0i (a:List Tow)(L:List Nat)(c:Cell):(Fp a L c).length<=L.length:=by
 have:=congrArg AC (N6 a L c);rw[Aa]at this;omega
theorem VV (l:List Cell):HC l [] []=l:=by
 unfold HC;rw[List.filter_eq_self];intro x _;have:Fg x.key []=false:=by cases x.key<;>rfl
 simp [JN,this]
theorem UQ (bm:Nat)(va vd:Value)(a:List Tow)(nx:Nat->List Nat)(dr:List Nat)(n sz:Nat)(L:List Nat)(l:List Cell)(c:Cell)(w:World)(h:MemAt w bm va vd a nx dr n sz)(hs:Skip a nx L l)(hsd:Fx l)(hal:a.length<=1000000) :
  Calls Tryz.prog 167 [EE bm 0,c.v].toArray w (ES w (λv _=>∃q:List Nat,v=.agg ⟨Ga q⟩/\q.length=12/\∀row,row<12->q[row]?=some (GY (hgt a) (0 :: Fv a L c) row))):=by
 refine cw Tryz.func167 ?_;have J:=ED.refl w;have hm:=h.hm;have hA:=h.arr;refine ws λ_ Z1=>wr (Gn rfl rfl rfl RX.all (λb1 w1 e1 x1 O=>?_));have g1:=J.ge e1;have J:=J.trans x1;refine FP (cs:=[.int .i64 0,.int .i64 0,.int .i64 0,.int .i64 0,.int .i64 0,.int .i64 0,.int .i64 0,.int .i64 0,.int .i64 0,.int .i64 0,.int .i64 0,.int .i64 0]) rfl EA RX.all (λb2 w2 e2 x2 Y=>?_);have g2:=J.ge e2;have n2_1:=O.ltb e2;have O:=O.ext x2;have J:=J.trans x2;refine de Z1 (ws λ_ Z2=>wr (FP (cs:=[.int .i64 0,.int .i64 0,.int .i64 0,.int .i64 0,.int .i64 0,.int .i64 0,.int .i64 0,.int .i64 0,.int .i64 0,.int .i64 0,.int .i64 0,.int .i64 0]) rfl EA RX.all (λb3 w3 e3 x3 Z=>?_)));have g3:=J.ge e3;have n3_1:=O.ltb e3;have n3_2:=Y.ltb e3;have O:=O.ext x3;have Y:=Y.ext x3;have J:=J.trans x3;refine de Z2 (ws λ_ Z3=>wr (da (de Z3 (ws λ_ Z4=>ws λ_ Z5=>wr (da (de Z5 (EM ?_)))))));refine Fq (G:=Int×Nat×List Nat) (λ(z,p,q)=>[(0,EE bm 0),(3,EE b1 0),(4,EE b2 0),(5,EE b3 0),(6,I ↑p),(7,I z)]) (λ(z,p,q) w'=>ED w w'/\EK w' b1 c.cs 79/\EK w' b2 (Ga (Ax 12 0)) 244/\EK w' b3 (Ga q) 244/\-1<=z/\z<=11/\p∈0 :: Fv a L c/\z<hgt a p/\q.length=12/\∀row:Nat,z<row->row<12->q[row]?=some (GY (hgt a) (0 :: Fv a L c) row)) (λ(z,p,q)=>(z+1).toNat) (11,0,Ax 12 0) ?_ ?_ ?_
 ·exact G2
 ·exact⟨J,O,Y,Z,by omega,by omega,Al,by rw[hs.h0];decide,rfl,λrow h1 h2=>absurd h1 EB⟩
 intro X4 g4 w4 h7;obtain⟨z,p,q⟩:=g4;clear J O Y Z;obtain⟨J,O,Y,Z,hz1,hz2,hb,hg,hq,hf⟩:=h7;refine ws λ_ Z6=>ws λ_ Z7=>wr (dm ?_);refine dp (IA rfl rfl) (de Z7 (wi (λc1=>?_) λc1=>?_))
 ·obtain⟨r,rfl⟩:=Int.eq_ofNat_of_zero_le c1;obtain⟨ta,hka⟩:∃t,a[p]?=some t:=⟨_,Ar (by rcases Aj.1 hb with rfl|hb;exact hs.mem0 Al;exact hs.mem0 (Am _ (MA hb)))⟩;have hh:=h.next hs hka;obtain⟨A,R,hp⟩:∃A R,0 :: Fv a L c=A++p :: R:=List.append_of_mem hb;have hr:=hs.nextR hp (row:=r) EB;refine EI (Z6 _ _ (ws λ_ Z8=>EM (ws λ_ Z9=>ws λ_ h9=>wr (dm ?_))));refine dz rfl (df 0 rfl (dl rfl ((hm.ext J).at rfl) (dm ?_)));refine di 172 5 hA.sl rfl (hA.lt hka) (df 4 rfl (dl rfl (((hA.ext J).row hka).at rfl) (dm ?_)));refine di 3 1 hh.sl rfl (hh.lt hr) (dl rfl (((hh.ext J).row hr).at0 rfl) (da (de h9 (EM ?_))));refine Fq (G:=Nat×Nat×List Nat) (λ(p2,x,R)=>[(0,EE bm 0),(3,EE b1 0),(4,EE b2 0),(5,EE b3 0),(6,I ↑p2),(7,I ↑r),(8,I ↑x)]) (λ(p2,x,R) w'=>ED w w'/\EK w' b1 c.cs 79/\EK w' b2 (Ga (Ax 12 0)) 244/\EK w' b3 (Ga q) 244/\(∃A,0 :: Fv a L c=A++p2 :: R)/\r<hgt a p2/\x=Gm (hgt a) (R++Fp a L c) r) (λ(p2,x,R)=>R.length) (p,Gm (hgt a) (R++Fp a L c) r,R) ?_ ?_ ?_
  ·exact Gb
  ·exact⟨J,O,Y,Z,⟨A,hp⟩,by omega,rfl⟩
  intro X5 g5 w5 xa;obtain⟨p2,x,R⟩:=g5;clear J O Y Z;obtain⟨J,O,Y,Z,⟨A,hp⟩,hg,ha⟩:=xa;refine ws λ_ xc=>ws λ_ hz=>F9 (R:=ED) ED.refl (λ_ _ _=>ED.trans) EA [6,10,11] [(0,.p,false),(1,.p,false),(2,.p,false),(3,.p,false),(4,.p,false),(5,.p,false),(6,.l,false),(7,.p,false),(8,.p,false),(9,.p,false),(10,.l,false),(11,.l,false),(12,.x,false),(13,.p,false)] rfl EA EA (λw6 hw=>?_);have x6:=EL hw;clear hw;have O:=O.ext x6;have Y:=Y.ext x6;have Z:=Z.ext x6;have J:=J.trans x6;refine dm ?_;refine dp (FH rfl rfl) (dm ?_);refine F4 26 rfl (λc2=>?_) (λc2=>?_)
  ·obtain⟨tn,hkn⟩:∃t,a[x]?=some t:=by
    rcases hs.next_in hp (row:=r)with e|e
    ·exact absurd (congrArg (λz:Nat=>(z:Int)) (ha.trans e)) c2
    ·exact⟨_,Ar (by rw[ha];exact hs.mem0 (Am _ e))⟩
   refine dm ?_;refine dz rfl (df 0 rfl (dL rfl (λ_ hR=>((hm.ext (J.trans hR)).at rfl)) (dm ?_)));refine di 172 5 hA.sl rfl (hA.lt hkn) (df 0 rfl (FW rfl (λw' hR=>Fe EA rfl rfl (((hA.ext (J.trans hR)).row hkn).sub 0 4)) (FW rfl (λw' hR=>Fe (k:=4) EA rfl rfl (O.ext hR).row) (cP (Ns tn.c c _) RX.ext λw7 x7=>?_))));have O:=O.ext x7;have Y:=Y.ext x7;have Z:=Z.ext x7;have J:=J.trans x7;refine EP (de hz ?_);refine wc (λc3=>?_) λc3=>?_
   ·obtain⟨A',R',hj,hc,h8⟩:=hs.step hsd hp (row:=r) (by rw[<-ha];intro e;exact c2 (by rw[e];rfl)) (by rw[<-ha];exact hkn) c3;rw[<-ha]at hj hc;have ht:=h.next hs hkn;have hy:=hs.nextR hj hc;refine EI (xc _ _ (ws λ_ h6=>EM (wr (dm (da (de h6 (wr (dm ?_))))))));refine dz rfl (df 0 rfl (dl rfl ((hm.ext J).at rfl) (dm ?_)));refine di 172 5 hA.sl rfl (hA.lt hkn) (df 4 rfl (dl rfl (((hA.ext J).row hkn).at rfl) (dm ?_)));refine di 3 1 ht.sl rfl (ht.lt hy) (dl rfl (((ht.ext J).row hy).at0 rfl) (da (EH (?_))));refine⟨(x,Gm (hgt a) (R'++Fp a L c) r,R'),Gb,⟨J,O,Y,Z,⟨A',hj⟩,hc,rfl⟩,h8⟩
   refine Fk (Z9 _ _ (wr (dm (dm ?_))));refine dp (Ko (m:=12) (e:=3) (k:=1) EA rfl rfl EB) (G4 Z (λw8 x8 xs8 Z=>?_) (hv:=by rfl) (ho:=by simp;omega));rw[MR]at Z;have O:=O.mo x8;have Y:=Y.mo x8;have J:=J.o1 x8;refine de Z8 (wr (dm ?_));refine ps rfl rfl (da (EH (?_)));have hl:=hs.stop hp hg (by exact .inr ⟨tn,by rw[<-ha];exact hkn,c3⟩);refine⟨((r:Int)-1,p2,q.set r p2),G2,⟨J,O,Y,Z,by omega,by omega,by rw[hp];simp,by omega,by simp [hq],λrow h1 h2=>?_⟩,by simp only [];omega⟩
   by_cases e:row=r
   ·subst e;rw[BB EB,hl]
   ·rw[Cb EB];exact hf row EB h2
  iterate 10 refine dk ?_
  refine EP (de hz ?_);refine Hf rfl (Fk (Z9 _ _ (wr (dm (dm ?_)))));refine dp (Ko (m:=12) (e:=3) (k:=1) EA rfl rfl EB) (G4 Z (λw9 x9 xs9 Z=>?_) (hv:=by rfl) (ho:=by simp;omega));rw[MR]at Z;have O:=O.mo x9;have Y:=Y.mo x9;have J:=J.o1 x9;refine de Z8 (wr (dm ?_));refine ps rfl rfl (da (EH (?_)));have hl:=hs.stop hp hg (by exact .inl (by rw[<-ha];omega));refine⟨((r:Int)-1,p2,q.set r p2),G2,⟨J,O,Y,Z,by omega,by omega,by rw[hp];simp,by omega,by simp [hq],λrow h1 h2=>?_⟩,by simp only [];omega⟩
  by_cases e:row=r
  ·subst e;rw[BB EB,hl]
  ·rw[Cb EB];exact hf row EB h2
 refine Fk (Z4 _ _ (ws λ_ h5=>wr (dq (Fe (k:=12) EA rfl (by simp [hq]) Z.row) ?_)));refine Ox (m:=12) (vs:=?u30) rfl rfl ?h30 EA ?c30 ?d30 Y ?n30 (.inl rfl) (λw10 xb xs10 Y=>?k30)
 case h30=>conv=>lhs;whnf
 case c30=>simp [hq]
 case d30=>rfl
 case n30=>simp [Value.oneCell']
 have J:=J.o1 xb;refine de h5 (EJ (Nu (k:=12) rfl rfl rfl EA (by simp [hq]) Y.row ?_));exact⟨_,rfl,J,q,rfl,hq,λrow h2=>hf row EB h2⟩
theorem SC (bm:Nat)(va vd:Value)(a:List Tow)(nx:Nat->List Nat)(dr:List Nat)(n sz:Nat)(L:List Nat)(l:List Cell)(c:Cell)(w:World)(h:MemAt w bm va vd a nx dr n sz)(hs:Skip a nx L l)(hsd:Fx l)(hal:a.length<=1000000) :
  Calls Tryz.prog 111 [EE bm 0,c.v].toArray w (Pure w (I ↑((Fp a L c).headD 0))):=by
 refine cw Tryz.func111 ?_;have r:=ED.refl w;have hm:=h.hm;have hA:=h.arr;refine ws λ_ Z1=>wr (Gn rfl rfl rfl RX.all (λb1 w1 e1 x1 m1=>?_));have g1:=r.ge e1;have r:=r.trans x1;refine da (de Z1 (ws λ_ Z2=>?_));refine F9 (R:=ED) ED.refl (λ_ _ _=>ED.trans) EA [3,5,10,12] [(0,.p,false),(1,.p,false),(2,.p,false),(3,.l,false),(4,.p,false),(5,.l,false),(6,.x,false),(7,.p,false),(8,.p,false),(9,.p,false),(10,.l,false),(11,.p,false),(12,.l,false),(13,.p,false)] rfl EA EA (λw2 Y=>?_);have x2:=EL Y;clear Y;have m1:=m1.ext x2;have r:=r.trans x2;refine dm ?_;refine dz rfl (df 0 rfl (dL rfl (λ_ J=>((hm.ext (r.trans J)).at rfl)) (dm ?_)));refine FW rfl (λw' J=>Fe (k:=4) EA rfl rfl (m1.ext J).row) (cG (UQ bm va vd a nx dr n sz L l c _ (h.ext r) hs hsd hal) RX.ext λv3 w3 x3 hc=>?_);have hsz3:=r.size;have r:=r.trans x3;obtain⟨q,rfl,hq,ha⟩:=hc;obtain⟨A,i0,hp,hb,hf,O⟩:=hs.last c;obtain⟨t0,hk0⟩:∃t,a[i0]?=some t:=⟨_,Ar hf⟩;have z:=h.next hs hk0;have Z:(Ga q)[0]?=some (I ↑i0):=by rw[List.getElem?_map,ha 0 EN,hb];rfl
 refine dp (Rv (m:=12) (e:=3) EA EA rfl rfl EN Z) (di 172 5 hA.sl rfl (hA.lt hk0) (df 4 rfl (dL rfl (λ_ J=>(((hA.ext (r.trans J)).row hk0).at rfl)) (di 3 1 z.sl rfl (z.lt O) (dL rfl (λ_ J=>(((z.ext (r.trans J)).row O).at0 rfl)) (da (de Z2 (EJ ?_))))))));refine ro ?_;exact⟨rfl,r⟩
theorem Yb5 (bm:Nat)(va vd:Value)(a:List Tow)(nx:Nat->List Nat)(dr:List Nat)(n sz:Nat)(L:List Nat)(l:List Cell)(key:EC)(seq:Int)(w:World)(h:MemAt w bm va vd a nx dr n sz)(hs:Skip a nx L l)(hsd:Fx l)(hal:a.length<=1000000) :
  Calls Tryz.prog 112 [EE bm 0,S key,I seq].toArray w (Pure w (.tuple #[((first l key seq).getD Cell.zero).v,B (first l key seq).isSome])):=by
 refine cw Tryz.func112 ?_;have r:=ED.refl w;have hm:=h.hm;have hA:=h.arr;refine ws λ_ Z1=>wr (FP (cs:=[S [],S [],B false,.int .i64 0]) rfl EA RX.all (λb1 w1 e1 x1 z=>?_));have g1:=r.ge e1;have r:=r.trans x1;refine da (de Z1 (ws λ_ Z2=>ws λ_ Z3=>wr (dm ?_)));refine dp (Gi EA rfl rfl) (de Z3 (wi (λc1=>?_) λc1=>?_))
 ·cases c1
 refine EI (Z2 _ _ (ws λ_ Z4=>wr (dm (dm (dm ?_)))));refine db (zs:=[S [],S [],B false,.int .i64 0]) (pl:=[(0,1),(1,1),(2,1),(3,1)]) (pv:=[(0,_),(3,_)]) (cs:=[_,S [],B false,_]) ?_;refine cP (SC bm va vd a nx dr n sz L l ⟨key,[],false,seq⟩ _ (h.ext r) hs hsd hal) RX.all λw2 x2=>?_;have z:=z.ext x2;have r:=r.trans x2;refine da (de Z4 (ws λ_ Z5=>ws λ_ Z6=>wr (dm ?_)));refine dp (GB rfl rfl) (dm ?_);refine F4 19 rfl (λc2=>?_) (λc2=>?_)
 ·have O:=hs.first_none hsd (key:=key) (seq:=seq) EB
  iterate 11 refine dk ?_
  refine EP (de Z6 ?_);refine GS rfl (ws λ_ Z7=>wr (db (zs:=[S [],S [],B false,.int .i64 0]) (pl:=[(0,1),(1,1),(2,1),(3,1)]) (pv:=[]) (cs:=[S [],S [],B false,.int .i64 0]) ?_));refine FY z (λw3 x3 xs3 z=>?_);dsimp only [EY,Af,Ad,Ag]at z;have r:=r.o1 x3;refine da (de Z7 (EJ ?_));rw[O];refine IH (u:=?v14) rfl rfl rfl rfl EA rfl z.row ?h14 ?k14
  case h14=>conv=>lhs;whnf
  exact⟨rfl,r⟩
 have Y:(Fp a L ⟨key,[],false,seq⟩).headD 0≠0:=by omega
 obtain⟨ti,J⟩:=hs.head_at Y;have O:=hs.first_at hsd Y J;refine dm ?_;refine dz rfl (df 0 rfl (dl rfl ((hm.ext r).at rfl) (dm ?_)));refine di 172 5 hA.sl rfl (hA.lt J) (df 0 rfl (df 0 rfl (dl rfl (((hA.ext r).row J).at rfl) (dm ?_))));refine dp (Me rfl rfl) (EP (de Z6 ?_));refine wi (λZ=>?_) λZ=>?_
 ·refine ws λ_ Z8=>wr (db (zs:=[S [],S [],B false,.int .i64 0]) (pl:=[(0,1),(1,1),(2,1),(3,1)]) (pv:=[]) (cs:=[S [],S [],B false,.int .i64 0]) ?_);refine FY z (λw4 x4 xs4 z=>?_);dsimp only [EY,Af,Ad,Ag]at z;have r:=r.o1 x4;refine da (de Z8 (EJ ?_));rw[O];refine IH (u:=?v22) rfl rfl rfl rfl EA rfl z.row ?h22 ?k22
  case h22=>conv=>lhs;whnf
  rw[if_neg Z];exact⟨rfl,r⟩
 refine EI (Z5 _ _ (ws λ_ Z9=>wr (dm ?_)));refine dz rfl (df 0 rfl (dl rfl ((hm.ext r).at rfl) (dm ?_)));refine di 172 5 hA.sl rfl (hA.lt J) (df 0 rfl (dq (Fe EA rfl rfl (((hA.ext r).row J).sub 0 4)) (FY z (λw5 x5 xs5 z=>?_))));dsimp only [EY,Af,Ad,Ag]at z;have r:=r.o1 x5;refine da (de Z9 (EJ ?_));rw[O];refine IH (u:=?v27) rfl rfl rfl rfl EA rfl z.row ?h27 ?k27
 case h27=>conv=>lhs;whnf
 rw[if_pos (AK Z)];exact⟨rfl,r⟩
theorem X94 (bm:Nat)(va vd:Value)(a:List Tow)(nx:Nat->List Nat)(dr:List Nat)(n sz:Nat)(L:List Nat)(l:List Cell)(w:World)(h:MemAt w bm va vd a nx dr n sz)(hs:Skip a nx L l)(hsd:Fx l)(hal:a.length<=1000000) :
  Calls Tryz.prog 43 [EE bm 0].toArray w (Pure w (I ↑(a.length-1))):=by
 refine cw Tryz.func43 ?_;have r:=ED.refl w;have hm:=h.hm;have hA:=h.arr;refine ws λ_ Y=>wr (da (de Y (ws λ_ J=>ws λ_ Z=>wr (dm ?_))));refine dp (Gi EA rfl rfl) (de Z (wi (λz=>?_) λz=>?_))
 ·cases z
 refine EI (J _ _ (ws λ_ O=>wr (dm ?_)));refine dz rfl (df 0 rfl (dl rfl ((hm.ext r).at rfl) (dv 172 5 hA.sl (ps rfl rfl (da (de O (EJ ?_)))))));refine ro ?_;refine⟨?_,r⟩;have:=hs.len;rw[Int.ofNat_sub EB];rfl
theorem X95 (bm:Nat)(va vd:Value)(a:List Tow)(nx:Nat->List Nat)(dr:List Nat)(n sz:Nat)(L:List Nat)(l:List Cell)(frm to:EC)(w:World)(h:MemAt w bm va vd a nx dr n sz)(hs:Skip a nx L l)(hsd:Fx l)(hal:a.length<=1000000)(hb:∀x∈l,x.seq<=4611686018427387904) :
  Calls Tryz.prog 57 [EE bm 0,S frm,S to].toArray w (ES w (λv' w'=>Vc.Own Cell.cs 4 79 w.heap.size w' v' (HC l frm to))):=by
 refine cw Tryz.func57 ?_;have z:=ED.refl w;have hm:=h.hm;have hA:=h.arr;refine ws λ_ Z1=>wr (da (de Z1 (ws λ_ Z2=>ws λ_ Z3=>wr (dm ?_))));refine dp (Gi EA rfl rfl) (de Z3 (wi (λc1=>?_) λc1=>?_))
 ·cases c1
 refine EI (Z2 _ _ (ws λ_ Z4=>wr (da (de Z4 (ws λ_ Z5=>ws λ_ Z6=>wr (dm (dm ?_)))))));refine db (zs:=[S [],S [],B false,.int .i64 0]) (pl:=[(0,1),(1,1),(2,1),(3,1)]) (pv:=[(0,_),(3,_)]) (cs:=[_,S [],B false,_]) ?_;refine cP (SC bm va vd a nx dr n sz L l ⟨frm,[],false,4611686018427387904⟩ _ (h.ext z) hs hsd hal) RX.all λw1 x1=>?_;have z:=z.trans x1;refine da (de Z6 (EM ?_));refine Fq (G:=List Nat×List Nat×Value) (λ(D,r,vm)=>[(0,EE bm 0),(2,S to),(6,.slice none 0 0),(7,vm),(8,I ↑(r.headD 0))]) (λ(D,r,vm) w'=>ED w w'/\Fp a L ⟨frm,[],false,4611686018427387904⟩=D++r/\(∀i∈D,to=[]\/Fg (HA a i).key to=true)/\Vc.Own Cell.cs 4 79 w.heap.size w' vm (D.map (HA a))) (λ(D,r,vm)=>r.length) ([],Fp a L ⟨frm,[],false,4611686018427387904⟩,.slice none 0 0) ?_ ?_ ?_
 ·exact FN
 ·exact⟨z,rfl,λi hi=>(by cases hi),Vc.Own.nil⟩
 intro X2 g2 w2 hz;obtain⟨D,r,vm⟩:=g2;clear z;obtain⟨z,hp,hD,ho⟩:=hz;refine ws λ_ Z7=>ws λ_ Z8=>wr (dm ?_);refine dp (FH rfl rfl) (de Z8 (wi (λc2=>?_) λc2=>?_))
 ·obtain⟨i,r',rfl⟩:∃i r',r=i :: r':=by
   cases r with
   | nil=>exact absurd rfl c2
   | cons i r'=>exact⟨i,r',rfl⟩
  obtain⟨hr,hn⟩:=hs.next0 hp;obtain⟨ti,hki⟩:∃t,a[i]?=some t:=⟨_,Ar (hs.mem i hr).2⟩;have Y:=h.next hs hki;have O:=Nr hki;have hDl:D.length<=L.length:=by
   have h1:=X0i a L ⟨frm,[],false,4611686018427387904⟩;rw[hp,Aa]at h1;omega
  have hal2:=hs.len;refine EI (Z7 _ _ (ws λ_ Z9=>EM (ws λ_ hy=>wr (dm ?_))));refine dz rfl (df 0 rfl (dl rfl ((hm.ext z).at rfl) (dm ?_)));refine di 172 5 hA.sl rfl (hA.lt hki) (df 0 rfl (dq (Fe EA rfl rfl (((hA.ext z).row hki).sub 0 4)) (FP (cs:=[S [],S [],B false,.int .i64 0]) rfl EA RX.all (λb1 w3 e1 x3 Z=>?_))));have g1:=z.ge e1;have hc:=ho.ltb e1;have ho:=ho.ext x3;have z:=z.trans x3;refine FY Z (λw4 x4 xs4 Z=>?_);dsimp only [EY,Af,Ad,Ag]at Z;have ho:=ho.mod x4 (by intro k hk h;have h1:=hc k hk;have h2:k=b1:=h;omega);have z:=z.o1 x4;refine de hy (ws λ_ hq=>ws λ_ hl=>wr (dm ?_));refine dp (Me rfl rfl) (dm ?_);refine F4 38 rfl (λc3=>?_) (λc3=>?_)
  ·refine df 0 rfl (dl rfl (Z.at rfl) (dm ?_));refine dp (RW rfl rfl) (EP (de hl ?_));refine wc (λc4=>?_) λc4=>?_
   ·refine Fk (Z5 _ _ (ws λ_ hw=>wr (dm (da (de hw (EJ ?_))))));refine ro ?_;have hf:=hs.scan_done hsd hb hp hD (λj J=>by
     first
     | (
      have hh:i=j:=by simpa using J
      subst hh;rw[O,not_or];exact⟨c3,by simpa using c4⟩)
     | (
      cases r with
      | nil=>cases J
      | cons j' r'=>exact absurd (hs.next0 hp).1 (λhm=>c2 (λe=>hs.pos hm (by have e2:((j':Nat):Int)=0:=e;omega)))))
    exact⟨_,rfl,z,by rw[hf];exact ho⟩
   refine EI (hq _ _ (wr (dm ?_)));refine dq (Fe (k:=4) EA rfl rfl Z.row) (li (e:=79) (sz:=4) (zs:=[S [],S [],B false,.int .i64 0]) (pv:=[(0,.agg ⟨[_,_,_,_]⟩)]) (cs:=[_,_,_,_]) RX.all (λb2 w5 e2 x5 m2=>?_));have g2:=z.ge e2;have n2_1:=Z.ltb e2;have o2_ho:=ho.ltb e2;have ho:=ho.ext x5;have Z:=Z.ext x5;have z:=z.trans x5;refine Hy (lx:=[ti.c]) (e:=79) (sz:=4) (by':=48) rfl EA EA EF ho (m2.arr (enc:=Cell.cs) (sz:=4) (l:=[ti.c]) rfl EF rfl (Av rfl)) rfl rfl (by intro x _ u hu;simp at hu;rcases hu with rfl|rfl|rfl|rfl<;>rfl) (by simp;omega) EN z.size (.inl rfl) (λhg w6 ha x6=>?_);have Z:=Z.mod x6 (by intro h;have h1:=hc _ h;omega);have z:=z.own x6 (λi hi=>(ho.lt i hi).1);have ho:=ha;clear m2;refine da (de Z9 (wr (dm ?_)));refine dz rfl (df 0 rfl (dl rfl ((hm.ext z).at rfl) (dm ?_)));refine di 172 5 hA.sl rfl (hA.lt hki) (df 4 rfl (dl rfl (((hA.ext z).row hki).at rfl) (di 3 1 Y.sl rfl (Y.lt hn) (dl rfl (((Y.ext z).row hn).at0 rfl) (da (EH (?_)))))));refine⟨(D++[i],r',hg),FN,⟨z,by rw[hp];simp,λj J=>?_,by rw[AH];simpa [O]using ho⟩,by simp⟩;rcases Aw.1 J with J|J
   ·exact hD j J
   ·rw[Ah.1 J,O];exact .inr (by simpa using c4)
  refine dk (dk (dk (dk (EP (de hl ?_)))));refine Hf rfl (EI (hq _ _ (wr (dm ?_))));refine dq (Fe (k:=4) EA rfl rfl Z.row) (li (e:=79) (sz:=4) (zs:=[S [],S [],B false,.int .i64 0]) (pv:=[(0,.agg ⟨[_,_,_,_]⟩)]) (cs:=[_,_,_,_]) RX.all (λb3 w7 e3 x7 m3=>?_));have g3:=z.ge e3;have o3_ho:=ho.ltb e3;have ho:=ho.ext x7;have z:=z.trans x7;refine Hy (lx:=[ti.c]) (e:=79) (sz:=4) (by':=48) rfl EA EA EF ho (m3.arr (enc:=Cell.cs) (sz:=4) (l:=[ti.c]) rfl EF rfl (Av rfl)) rfl rfl (by intro x _ u hu;simp at hu;rcases hu with rfl|rfl|rfl|rfl<;>rfl) (by simp;omega) EN z.size (.inl rfl) (λhg w8 ha x8=>?_);have z:=z.own x8 (λi hi=>(ho.lt i hi).1);have ho:=ha;clear m3;refine da (de Z9 (wr (dm ?_)));refine dz rfl (df 0 rfl (dl rfl ((hm.ext z).at rfl) (dm ?_)));refine di 172 5 hA.sl rfl (hA.lt hki) (df 4 rfl (dl rfl (((hA.ext z).row hki).at rfl) (di 3 1 Y.sl rfl (Y.lt hn) (dl rfl (((Y.ext z).row hn).at0 rfl) (da (EH (?_)))))));refine⟨(D++[i],r',hg),FN,⟨z,by rw[hp];simp,λj J=>?_,by rw[AH];simpa [O]using ho⟩,by simp⟩;rcases Aw.1 J with J|J
  ·exact hD j J
  ·rw[Ah.1 J,O];exact .inl (by simpa using c3)
 refine Fk (Z5 _ _ (ws λ_ ht=>wr (dm (da (de ht (EJ ?_))))));refine ro ?_;have hf:=hs.scan_done hsd hb hp hD (λj J=>by
  first
  | (
   have hh:i=j:=by simpa using J
   subst hh;rw[O,not_or];exact⟨c3,by simpa using c4⟩)
  | (
   cases r with
   | nil=>cases J
   | cons j' r'=>exact absurd (hs.next0 hp).1 (λhm=>c2 (λe=>hs.pos hm (by have e2:((j':Nat):Int)=0:=e;omega)))))
 exact⟨_,rfl,z,by rw[hf];exact ho⟩
theorem Yb6 (bm:Nat)(va vd:Value)(a:List Tow)(nx:Nat->List Nat)(dr:List Nat)(n sz:Nat)(L:List Nat)(l:List Cell)(w:World)(h:MemAt w bm va vd a nx dr n sz)(hs:Skip a nx L l)(hsd:Fx l)(hal:a.length<=1000000)(hb:∀x∈l,x.seq<=4611686018427387904) :
  Calls Tryz.prog 46 [EE bm 0].toArray w (ES w (λv' w'=>Vc.Own Cell.cs 4 79 w.heap.size w' v' l)):=by
 refine cw Tryz.func46 ?_;have r:=ED.refl w;refine ws λ_ O=>wr (da (de O (ws λ_ J=>wr (dm ?_))));refine cG (X95 bm va vd a nx dr n sz L l [] [] _ (h.ext r) hs hsd hal hb) RX.all λv1 w1 Y z=>?_;have hsz1:=r.size;have r:=r.trans Y;have ho:=z;refine da (de J (EJ ?_));refine ro ?_;exact⟨_,rfl,r,by rwa [VV]at ho⟩
def foot (bm:Nat)(va vd:Value)(a:List Tow)(k:Nat):Prop:=k=bm\/va.ownBlock=some k\/vd.ownBlock=some k\/∃t∈a,t.bk=k
section
variable {w w':World}{bm:Nat}{va vd:Value}{a:List Tow}{nx:Nat->List Nat}{dr:List Nat}{n sz:Nat}{S:Nat->Prop}{L:List Nat}{l:List Cell}
theorem MemAt.mod (h:MemAt w bm va vd a nx dr n sz)(x:Mod S w w')(hS:∀k,foot bm va vd a k->¬ S k):MemAt w' bm va vd a nx dr n sz:=
 ⟨h.hm.mod x (hS _ (.inl rfl)),h.hA.mod x (λk hk=>hS k (.inr (.inl hk))),h.hd.mod x (λk hk=>hS k (.inr (.inr (.inl hk)))),
  λi t r=>⟨(h.hN i t r).1.mod x (hS _ (.inr (.inr (.inr ⟨t,Ak r,rfl⟩)))),(h.hN i t r).2⟩,h.d2⟩
theorem MemAt.lt (h:MemAt w bm va vd a nx dr n sz){k:Nat}(hk:foot bm va vd a k):k<w.heap.size:=by
 rcases hk with rfl|hk|hk|⟨t,ht,rfl⟩
 ·exact h.hm.lt
 ·exact(h.hA.lt k hk).2
 ·exact(h.hd.lt k hk).2
 ·obtain⟨i,hi⟩:=List.mem_iff_getElem?.1 ht;exact(h.hN i t hi).1.lt
theorem MemAt.setn (h:MemAt w bm va vd a nx dr n sz){n' sz':Nat}(x:Mod (ET bm) w w')(hm:EK w' bm [va,vd,I ↑n',I ↑sz'] 155):MemAt w' bm va vd a nx dr n' sz':=
 ⟨hm,h.hA.mod x (λk hk e=>h.hA.ne_blk h.hm rfl (by rw[hk];exact congrArg some e)),h.hd.mod x (λk hk e=>h.hd.ne_blk h.hm rfl (by rw[hk];exact congrArg some e)),
  λi t r=>⟨(h.hN i t r).1.mod x (λe=>(h.hN i t r).1.ne h.hm rfl e),(h.hN i t r).2⟩,h.d2⟩
def HU (nx:Nat->List Nat)(p:Nat)(q:List Nat):Nat->List Nat:=λi=>if i=p then q else nx i
theorem MemAt.setN (h:MemAt w bm va vd a nx dr n sz){p:Nat}{t:Tow}{q:List Nat}(ht:a[p]?=some t)(x:Mod (ET t.bk) w w')(hq:EK w' t.bk (Ga q) 3)(hl:q.length=t.h):MemAt w' bm va vd a (HU nx p q) dr n sz:=by
 refine⟨h.hm.mod x (λe=>h.hm.ne (h.hN p t ht).1 rfl e),h.hA.mod x (λk hk e=>h.hA.ne_blk (h.hN p t ht).1 rfl (by rw[hk];exact congrArg some e)),h.hd.mod x (λk hk e=>h.hd.ne_blk (h.hN p t ht).1 rfl (by rw[hk];exact congrArg some e)),
  λi s hs=>?_,h.d2⟩
 unfold HU
 by_cases e:i=p
 ·subst e;rw[ht]at hs
  cases hs
  rw[if_pos rfl];exact⟨hq,hl⟩
 ·rw[if_neg e];exact⟨(h.hN i s hs).1.mod x (λe2=>e (h.d2 i p s t hs ht e2)),(h.hN i s hs).2⟩
theorem MemAt.grow (h:MemAt w bm va vd a nx dr n sz){w1 w2:World}{va':Value}{t:Tow}{q:List Nat}{sz':Nat}(x:Mod (λk=>va.ownBlock=some k) w w1)(hA:Vc.Own Tow.enc 5 172 0 w1 va' (a++[t]))(y:Mod (ET bm) w1 w2)
  (hm:EK w2 bm [va',vd,I ↑n,I ↑sz'] 155) (hq:EK w t.bk (Ga q) 3) (hl:q.length=t.h) (hn:∀s∈a,s.bk≠t.bk):MemAt w2 bm va' vd (a++[t]) (HU nx a.length q) dr n sz':=by
 have z:EK w1 bm [va,vd,I ↑n,I ↑sz] 155:=h.hm.mod x (λe=>h.hA.ne_blk h.hm rfl e);have J:∀ {b:Nat} {cs:List Value},EK w b cs 3->EK w2 b cs 3:=λ {b cs} hb=>(hb.mod x (λe=>h.hA.ne_blk hb rfl e)).mod y (λe=>hb.ne h.hm rfl e);refine⟨hm,hA.mod y (λk hk e=>hA.ne_blk z rfl (by rw[hk];exact congrArg some e)),(h.hd.mod x (λk hk e=>h.hd.ne h.hA rfl hk e)).mod y (λk hk e=>h.hd.ne_blk h.hm rfl (by rw[hk];exact congrArg some e)),λi s hs=>?_,λi j s u hs hu e=>?_⟩
 ·by_cases hi:i<a.length
  ·rw[Bt hi]at hs;unfold HU;rw[if_neg EB];exact⟨J (h.hN i s hs).1,(h.hN i s hs).2⟩
  ·have r:=(Ap.1 hs).1;rw[Aa]at r;have e:i=a.length:=by simp at r;omega
   subst e;rw[BE (Ab _)]at hs;simp at hs;subst hs;unfold HU;rw[if_pos rfl];exact⟨J hq,hl⟩
 ·have at':∀(i:Nat) (s:Tow),(a++[t])[i]?=some s->(i<a.length/\a[i]?=some s)\/(i=a.length/\s=t):=λi s hs=>by
   by_cases hi:i<a.length
   ·rw[Bt hi]at hs;exact .inl ⟨hi,hs⟩
   ·have r:=(Ap.1 hs).1;rw[Aa]at r;have e:i=a.length:=by simp at r;omega
    subst e;rw[BE (Ab _)]at hs;simp at hs;exact .inr ⟨rfl,hs.symm⟩
  rcases at' i s hs with⟨_,h1⟩|⟨h1,rfl⟩<;>rcases at' j u hu with⟨_,h2⟩|⟨h2,rfl⟩
  ·exact h.d2 i j s u h1 h2 e
  ·exact absurd e (hn s (Ak h1))
  ·exact absurd e.symm (hn u (Ak h2))
  ·omega
end
def FG (F:Nat->Prop)(w:World)(bm:Nat)(l:List Cell):Prop:=∃(va vd:Value) (a:List Tow) (nx:Nat->List Nat) (dr:List Nat) (L:List Nat),
 MemAt w bm va vd a nx dr l.length (He l)/\Skip a nx L l/\Fx l/\(∀k,foot bm va vd a k->F k)/\(∀k,F k->k<w.heap.size)
theorem FG.mod {F S:Nat->Prop}{w w':World}{bm:Nat}{l:List Cell}(h:FG F w bm l)(x:Mod S w w')(hS:∀k,F k->¬ S k):FG F w' bm l:=by
 obtain⟨va,vd,a,nx,dr,L,h1,h2,h3,h4,r⟩:=h;exact⟨va,vd,a,nx,dr,L,h1.mod x (λk hk=>hS k (h4 k hk)),h2,h3,h4,λk hk=>Az (r k hk) x.size⟩
theorem FG.ext {F:Nat->Prop}{w w':World}{bm:Nat}{l:List Cell}(h:FG F w bm l)(x:ED w w'):FG F w' bm l:=h.mod x (λ_ _ h=>h)
theorem FG.more {F:Nat->Prop}{w w':World}{bm:Nat}{l:List Cell}(h:FG F w bm l)(x:ED w w'):FG (NI F w w') w' bm l:=by
 obtain⟨va,vd,a,nx,dr,L,h1,h2,h3,h4,r⟩:=h.ext x;exact⟨va,vd,a,nx,dr,L,h1,h2,h3,λk hk=>.inl (h4 k hk),λk hk=>hk.elim (r k) (λh=>h.2)⟩
theorem X0j {a:List Tow}{nx nxk:Nat->List Nat}{q:List Nat}{k p x:Nat}(hlay:∀i row,i<a.length->row<hgt a i->(nxk i)[row]?=if row<k/\q[row]?=some i then some x else(nx i)[row]?)(hq:q[k]?=some p)(hl:k<(nxk p).length) :
  ∀i row,i<a.length->row<hgt a i->(HU nxk p ((nxk p).set k x) i)[row]?=if row<k+1/\q[row]?=some i then some x else(nx i)[row]?:=by
 intro i row hi r;unfold HU
 by_cases e:i=p
 ·subst e;rw[if_pos rfl]
  by_cases e2:row=k
  ·subst e2;rw[BB hl,if_pos ⟨by omega,hq⟩]
  ·rw[Cb EB,hlay i row hi r]
   by_cases e3:row<k/\q[row]?=some i
   ·rw[if_pos e3,if_pos ⟨by omega,e3.2⟩]
   ·rw[if_neg e3,if_neg (λh=>e3 ⟨by omega,h.2⟩)]
 ·rw[if_neg e,hlay i row hi r]
  by_cases e3:row<k/\q[row]?=some i
  ·rw[if_pos e3,if_pos ⟨by omega,e3.2⟩]
  ·rw[if_neg e3,if_neg (λh=>e3 ⟨by
    have:row≠k:=λz=>by rw[z,hq]at h;exact e (A0.inj h.2).symm
    omega,h.2⟩)]
structure TowS (t:Tow):Prop where
 sl:Gd t.sl t.h
theorem Oq (t:Tow):TowS t:=⟨.inr (.inl ⟨t.bk,0,t.h,rfl,Ab _⟩)⟩
theorem X6g {h:Nat->Nat}{S tn:List Nat}{k:Nat}(ht:∀row,row<k->tn[row]?=some (Gm h S row))(hl:k<tn.length):∀row,row<k+1->(tn.set k (Gm h S k))[row]?=some (Gm h S row):=λrow hr=>by
 by_cases e:row=k
 ·subst e;rw[BB hl]
 ·rw[Cb EB];exact ht row EB
theorem T3 (bm:Nat)(va vd:Value)(dr:List Nat)(n sz:Nat)(w:World)(hm:EK w bm [va,vd,I n,I sz] 155)(hd:Vc.Own Iz 1 174 0 w vd dr)(hn:n<=1000000) :
  Calls Tryz.prog 168 [EE bm 0].toArray w (Ff (ET bm) w (λv w'=>∃z:Nat,v=I ↑z/\1<=z/\z<=12/\EK w' bm [va,vd,I ↑(n+1),I sz] 155)):=by
 refine cw Tryz.func168 ?_;have r:=ED.refl w;have J:EQ Iz 1 w vd dr:=hd.arr (λx=>rfl);have hne:dr≠[]->¬ ET bm (base vd).1:=λhl e=>hd.ne_blk hm rfl (by rw[<-e];exact hd.base_block hl);refine ws λ_ Z1=>wr (da (de Z1 (ws λ_ Z2=>wr (dm ?_))));refine dz rfl (df 2 rfl (dl rfl ((hm.ext r).at rfl) (dp (JO (k:=.u32) rfl EA EA) (dp (T5 rfl rfl) (da (de Z2 ?_))))));refine Hz (G:=Int) (λd=>[(0,EE bm 0),(2,I 0),(3,.int .u32 d)]) (λd w'=>ED w w'/\True) ?_ ?_
 ·refine ws λ_ Z3=>wr (dm ?_);refine dz rfl (df 1 rfl (dl rfl ((hm.ext r).at rfl) (dv 174 1 J.sl (dp (Gg rfl rfl) (de Z3 (wi (λc1=>?_) λc1=>?_))))))
  ·have ha:0<dr.length:=by omega
   obtain⟨u,hkd⟩:∃u,dr[n % dr.length]?=some u:=⟨_,Ar (Nat.mod_lt _ ha)⟩;refine F9 (R:=ED) ED.refl (λ_ _ _=>ED.trans) EA [4,8,12,16] [(0,.p,false),(1,.p,false),(2,.p,false),(3,.p,false),(4,.l,false),(5,.p,false),(6,.p,false),(7,.p,false),(8,.l,false),(9,.p,false),(10,.p,false),(11,.p,false),(12,.l,false),(13,.p,false),(14,.p,false),(15,.p,false),(16,.l,false),(17,.p,false),(18,.p,false)] rfl EA EA (λw1 hb=>?_);have x1:=EL hb;clear hb;have r:=r.trans x1
   iterate 2 refine dm ?_
   refine dz rfl (df 1 rfl (dL rfl (λ_ O=>((hm.ext (r.trans O)).at rfl)) (dm ?_)));refine dz rfl (df 2 rfl (dL rfl (λ_ O=>((hm.ext (r.trans O)).at rfl)) (dm ?_)));refine dz rfl (df 1 rfl (dL rfl (λ_ O=>((hm.ext (r.trans O)).at rfl)) (dv 174 1 J.sl (dp (Ot rfl rfl EB EB) (dp (HY (i:=n % dr.length) (e:=174) (k:=1) EA J.sl rfl rfl (J.lt hkd)) (dL rfl (λ_ O=>(((J.ext (r.trans O)).row hkd).at0 rfl)) (dp (Lw EN rfl rfl) (da (EH (?_))))))))));exact⟨_,Hd,r,trivial⟩
  refine EI ?_;exact⟨_,Hd,r,trivial⟩
 intro X2 g2 w2 Y;revert Y;revert g2;intro d Y;clear r;obtain⟨r,_⟩:=Y;refine ws λ_ Z4=>wr (dm ?_);refine dz rfl (df 2 rfl (dl rfl ((hm.ext r).at rfl) (pa rfl rfl (dz rfl (df 2 rfl (G4 (hm.ext r) (λw3 x3 xs3 hm=>?_) (hv:=by rfl)))))));dsimp only [EY,Af,Ad,Ag]at hm;have r:=(r.mod x3).mono (λi hi _=>(hi:(ET bm) i));refine de Z4 (ws λ_ Z5=>wr (da (de Z5 (ws λ_ Z6=>EM ?_))));refine Fq (G:=Int×Nat) (λ(d,z)=>[(2,I 0),(3,.int .u32 d),(4,I ↑z)]) (λ(d,z) w'=>Mod (ET bm) w w'/\EK w' bm [va,vd,I ↑(n+1),I ↑sz] 155/\1<=z/\z<=12) (λ(d,z)=>12-z) (d,1) ?_ ?_ ?_
 ·exact Hd
 ·exact⟨r,hm,by omega,by omega⟩
 intro X4 g4 w4 hf;obtain⟨d,z⟩:=g4;clear r hm;obtain⟨r,hm,hc,Z⟩:=hf;refine ws λ_ Z7=>ws λ_ Z8=>wr (dm ?_);refine dp (Fb rfl rfl) (dm ?_);refine F4 44 rfl (λc2=>?_) (λc2=>?_)
 ·refine dm ?_;refine dp (Lw EN rfl rfl) (dp (GB rfl rfl) (EP (de Z8 ?_)));refine wi (λc3=>?_) λc3=>?_
  ·refine EI (Z7 _ _ (EM (ws λ_ Z9=>wr (dm ?_))));refine dp (N4 rfl rfl EN) (da (de Z9 (wr (dm ?_))));refine pa rfl rfl (da (EH (?_)));exact⟨(_,z+1),Hd,⟨r,hm,by omega,by omega⟩,by simp only [];omega⟩
  refine Fk (Z6 _ _ (ws λ_ hj=>wr (dm (da (de hj (EJ ?_))))));refine ro ?_;exact⟨_,rfl,r,z,rfl,hc,Z,hm⟩
 refine dk (dk (dk (EP (de Z8 ?_))));refine Hf rfl (Fk (Z6 _ _ (ws λ_ hg=>wr (dm (da (de hg (EJ ?_)))))));refine ro ?_;exact⟨_,rfl,r,z,rfl,hc,Z,hm⟩
theorem X96 (bm:Nat)(va vd:Value)(a:List Tow)(nx:Nat->List Nat)(dr:List Nat)(n sz:Nat)(L:List Nat)(l:List Cell)(F:Nat->Prop)(c:Cell)(w:World)(h:MemAt w bm va vd a nx dr n sz)(hs:Skip a nx L l)(hsd:Fx l)(hal:a.length<=1000000)(hszl:sz=He l)(hnl:n=l.length)(hF:∀k,foot bm va vd a k->F k)(hFl:∀k,F k->k<w.heap.size)(hszb:sz<=1000000000000) :
  Calls Tryz.prog 89 [EE bm 0,c.v].toArray w (λe w'=>e=.returned (B (put l c).1)/\Mod F w w'/\FG (NI F w w') w' bm (put l c).2):=by
 refine cw Tryz.func89 ?_;have z:=ED.refl w;have r:=h;have hg:∀k,foot bm va vd a k->k<w.heap.size:=λk hk=>hFl k (hF k hk);have hbm:bm<w.heap.size:=hg bm (.inl rfl);have yg:FG F w bm l:=⟨va,vd,a,nx,dr,L,by rw[<-hnl,<-hszl];exact h,hs,hsd,hF,hFl⟩;have hal2:=hs.len;have hlL:l.length=L.length:=(congrArg AC hs.cells).trans (Ao ..);refine ws λ_ Z1=>wr (Gn rfl rfl rfl RX.all (λb1 w1 e1 x1 J=>?_));have g1:=z.ge e1;have r:=r.ext x1;have z:=z.trans x1;refine da (de Z1 (ws λ_ Z2=>ws λ_ Z3=>wr (dm ?_)));refine dp (Gi EA rfl rfl) (dm ?_);refine F4 12 rfl (λc1=>?_) (λc1=>?_)
 ·cases c1
 refine dq (Fe (k:=4) EA rfl rfl J.row) (cP (Ri c _) RX.all λw2 x2=>?_);have r:=r.ext x2;have J:=J.ext x2;have z:=z.trans x2;refine dn ?_;refine EP (de Z3 ?_);refine wc (λc2=>?_) λc2=>?_
 ·refine ws λ_ Z4=>wr (da (de Z4 (EJ ?_)));dsimp only [Ip,Nh,Mn];refine ro ?_;have hp:put l c=(false,l):=by simp at c2;simp [put,c2]
  rw[hp];exact⟨rfl,z.mono (λ_ h _=>h.elim),yg.more z⟩
 have hy:Gl c=true:=by simpa using c2
 refine EI (Z2 _ _ (ws λ_ Z5=>wr (dm ?_)));refine dq (Fe (k:=4) EA rfl rfl J.row) (cG (UQ bm va vd a nx dr n sz L l c _ r hs hsd hal) RX.all λv3 w3 x3 zh=>?_);have hsz3:=z.size;have r:=r.ext x3;have J:=J.ext x3;have z:=z.trans x3;obtain⟨q,rfl,hq,ym⟩:=zh;obtain⟨A,i0,hp,zb,y9,y0⟩:=hs.last c;obtain⟨t0,hk0⟩:∃t,a[i0]?=some t:=⟨_,Ar y9⟩;have za:q[0]?=some i0:=by rw[ym 0 EN,zb]
 refine FP (cs:=[.int .i64 0,.int .i64 0,.int .i64 0,.int .i64 0,.int .i64 0,.int .i64 0,.int .i64 0,.int .i64 0,.int .i64 0,.int .i64 0,.int .i64 0,.int .i64 0]) rfl EA RX.all (λb2 w4 e2 x4 O=>?_);have g2:=z.ge e2;have n2_1:=J.ltb e2;have r:=r.ext x4;have J:=J.ext x4;have z:=z.trans x4;refine Ox (m:=12) (vs:=?u9) rfl rfl ?h9 EA ?c9 ?d9 O ?n9 (.inl rfl) (λw5 x5 xs5 O=>?k9)
 case h9=>conv=>lhs;whnf
 case c9=>simp [hq]
 case d9=>rfl
 case n9=>simp [Value.oneCell']
 have r:=r.mod x5 (λk hk e=>by have h1:=hg k hk;have h2:k=b2:=e;omega);have J:=J.mo x5;have z:=z.o1 x5;refine de Z5 ?_;refine Hz (G:=Unit) (λu=>[(0,EE bm 0),(3,EE b1 0),(5,EE b2 0)]) (λu w'=>ED w w'/\MemAt w' bm va vd a nx dr n sz/\EK w' b1 c.cs 79/\EK w' b2 (Ga q) 244/\has l c=false) ?_ ?_
 ·refine ws λ_ Z6=>F9 (R:=ED) ED.refl (λ_ _ _=>ED.trans) EA [3,5,8,10] [(0,.p,false),(1,.p,false),(2,.p,false),(3,.l,false),(4,.p,false),(5,.l,false),(6,.p,false),(7,.p,false),(8,.l,false),(9,.p,false),(10,.l,false),(11,.p,false)] rfl EA EA (λw6 yw=>?_);have x6:=EL yw;clear yw;have r:=r.ext x6;have J:=J.ext x6;have O:=O.ext x6;have z:=z.trans x6;refine dm ?_;refine dz rfl (df 0 rfl (dL rfl (λ_ Y=>((r.hm.ext Y).at rfl)) (dp (Ko (m:=12) (e:=3) (k:=1) EA rfl rfl EN) (dL rfl (λ_ Y=>((O.ext Y).at (Mm za))) (di 172 5 r.arr.sl rfl (r.arr.lt hk0) (df 4 rfl (dL rfl (λ_ Y=>(((r.arr.ext Y).row hk0).at rfl)) (di 3 1 (r.next hs hk0).sl rfl ((r.next hs hk0).lt y0) (dL rfl (λ_ Y=>((((r.next hs hk0).ext Y).row y0).at0 rfl)) (da (de Z6 (ws λ_ Z7=>?_))))))))))));refine F9 (R:=ED) ED.refl (λ_ _ _=>ED.trans) EA [3,7,11] [(0,.p,false),(1,.p,false),(2,.p,false),(3,.l,false),(4,.p,false),(5,.p,false),(6,.p,false),(7,.l,false),(8,.p,false),(9,.p,false),(10,.p,false),(11,.l,false),(12,.x,false),(13,.p,false),(14,.p,false)] rfl EA EA (λw7 y3=>?_);have x7:=EL y3;clear y3;have r:=r.ext x7;have J:=J.ext x7;have O:=O.ext x7;have z:=z.trans x7;refine dm ?_;refine dp (FH rfl rfl) (dm ?_);refine F4 33 rfl (λc3=>?_) (λc3=>?_)
  ·have xx:(Fp a L c).headD 0≠0:=by omega
   obtain⟨ti,yi⟩:=hs.head_at xx;have hb:=hs.has_at xx yi;refine FW rfl (λw' Y=>Fe (k:=4) EA rfl rfl (J.ext Y).row) (dm ?_);refine dz rfl (df 0 rfl (dL rfl (λ_ Y=>((r.hm.ext Y).at rfl)) (dm ?_)));refine di 172 5 r.arr.sl rfl (r.arr.lt yi) (df 0 rfl (FW rfl (λw' Y=>Fe EA rfl rfl (((r.arr.ext Y).row yi).sub 0 4)) (cP (Ns c ti.c _) RX.ext λw8 x8=>?_)));have r:=r.ext x8;have J:=J.ext x8;have O:=O.ext x8;have z:=z.trans x8;refine dn ?_;refine EP (de Z7 ?_);refine wc (λc4=>?_) λc4=>?_
   ·refine ws λ_ Z8=>wr (da (de Z8 (EJ ?_)));dsimp only [Ip,Nh,Mn];refine ro ?_;have hp:put l c=(false,l):=by rw[c4]at hb;simp [put,hb]
    rw[hp];exact⟨rfl,z.mono (λ_ h _=>h.elim),yg.more z⟩
   refine EI ?_;exact⟨(),Hd,z,r,J,O,by rw[hb];simpa using c4⟩
  have hb:=hs.has_none (c:=c) EB
  iterate 11 refine dk ?_
  refine EP (de Z7 ?_);refine Hf rfl (EI ?_);exact⟨(),Hd,z,r,J,O,by exact hb⟩
 intro X9 g9 w9 yn;revert yn;revert g9;intro u yn;clear z r J O;obtain⟨z,r,J,O,yx⟩:=yn;refine Hz (G:=Nat×Nat×Nat) (λ(bn,bt,Z)=>[(0,EE bm 0),(3,EE b1 0),(5,EE b2 0),(7,EE bt 0)]) (λ(bn,bt,Z) w'=>Mod F w w'/\EK w' b1 c.cs 79/\EK w' b2 (Ga q) 244/\EK w' bt (Tow.enc ⟨c,bn,Z⟩) 172/\EK w' bn (Ga (Ax Z 0)) 3/\MemAt w' bm va vd a nx dr (n+1) sz/\1<=Z/\Z<=12/\w.heap.size<=bn/\w.heap.size<=bt) ?_ ?_
 ·refine Lb (R:=Mod (ET bm)) Jz JV EA [0] (.one 0 .l false (.one 1 .p false (.fork (.alt 2 false (.fork (.alt 3 false (.one 4 .p false (.one 5 .x false (.one 6 .x true .nil))) (.alt 5 false (.one 3 .x false (.one 4 .p false (.one 6 .x true .nil))) .stop))) (.alt 5 false (.one 2 .x false (.one 3 .x false (.one 4 .p false (.one 6 .x true .nil)))) .stop))))) EA EA (λw10 xz=>?_);have xo:=EL xz;clear xz;have r:=r.ext xo;have J:=J.ext xo;have O:=O.ext xo;have z:=z.trans xo;refine EX (FW rfl (λw' Y=>Fe (k:=4) EA rfl rfl (J.mod Y (λe=>J.ne r.hm rfl e)).row) (EH (EX (dm (EH ?_)))));refine Ju ?_;refine H6 ?_ ?_
  ·refine JP rfl EA (T3 bm va vd dr n sz _ r.hm r.hd EB) rfl (.inr λ_ h=>h) (λv11 w11 xv y1=>?_);have hsz11:=z.size;have J:=J.mod xv (λe=>J.ne r.hm rfl e);have O:=O.mod xv (λe=>O.ne r.hm rfl e);have z:=(z.mod xv).mono (λi hi _=>((by rw[show i=bm from hi];exact hF bm (.inl rfl)):F i));obtain⟨Z,rfl,h5,hf,hc⟩:=y1;have r:=r.setn xv hc;refine EH (Ju ?_);refine H6 ?_ ?_
   ·refine LN (e:=3) (sz:=1) (by':=8) (zs:=[.int .i64 0]) rfl EA EA EA rfl rfl EB EB RX.mod (λb3 w12 e3 xn m3=>?_);have g3:=z.ge e3;have n3_1:=J.ltb e3;have n3_2:=O.ltb e3;have J:=J.ext xn;have O:=O.ext xn;have r:=r.ext xn;have z:=z.ext xn;refine EH (EX (db (zs:=[S [],S [],B false,.int .i64 0,.slice none 0 0]) (pl:=[(0,4),(4,1)]) (pv:=[(0,.agg ⟨[_,_,_,_]⟩),(1,_)]) (cs:=[_,_,_,_,_]) (EH ?_)));refine EX (FP (cs:=[S [],S [],B false,.int .i64 0,.slice none 0 0]) rfl EA RX.mod (λb4 w13 e4 h8 m4=>?_));have g4:=z.ge e4;have n4_1:=J.ltb e4;have n4_2:=O.ltb e4;have n4_3:=m3.ltb e4;have J:=J.ext h8;have O:=O.ext h8;have r:=r.ext h8;have m3:=m3.ext h8;have z:=z.ext h8;refine EH (EX (FY m4 (λw14 xb xs14 m4=>?_)));dsimp only [EY,Af,Ad,Ag]at m4;have J:=J.mo xb;have O:=O.mo xb;have r:=r.mod xb (λk hk e=>by have h1:=hg k hk;have h2:k=b4:=e;omega);have m3:=m3.mo xb;have z:=z.o1 xb;refine EH (Ii (⟨(b3,b4,Z),Gc,z,J,O,m4,?_,r,h5,hf,g3,g4⟩));have hl:=m3;rw[OQ]at hl;exact hl
   refine H6 ?_ ?_
   ·refine FP (cs:=[S [],S [],B false,.int .i64 0,.slice none 0 0]) rfl EA RX.mod (λb5 w15 e5 xu m5=>?_);have g5:=z.ge e5;have n5_1:=J.ltb e5;have n5_2:=O.ltb e5;have J:=J.ext xu;have O:=O.ext xu;have r:=r.ext xu;have z:=z.ext xu;refine EH (EX (LN (e:=3) (sz:=1) (by':=8) (zs:=[.int .i64 0]) rfl EA EA EA rfl rfl EB EB RX.mod (λb6 w16 e6 xf m6=>?_)));have g6:=z.ge e6;have n6_1:=J.ltb e6;have n6_2:=O.ltb e6;have n6_5:=m5.ltb e6;have J:=J.ext xf;have O:=O.ext xf;have r:=r.ext xf;have m5:=m5.ext xf;have z:=z.ext xf;refine EH (EX (db (zs:=[S [],S [],B false,.int .i64 0,.slice none 0 0]) (pl:=[(0,4),(4,1)]) (pv:=[(0,.agg ⟨[_,_,_,_]⟩),(1,_)]) (cs:=[_,_,_,_,_]) (EH ?_)));refine EX (FY m5 (λw17 xh xs17 m5=>?_));dsimp only [EY,Af,Ad,Ag]at m5;have J:=J.mo xh;have O:=O.mo xh;have r:=r.mod xh (λk hk e=>by have h1:=hg k hk;have h2:k=b5:=e;omega);have m6:=m6.mo xh;have z:=z.o1 xh;refine EH (Ii (⟨(b6,b5,Z),Gc,z,J,O,m5,?_,r,h5,hf,g6,g5⟩));have hl:=m6;rw[OQ]at hl;exact hl
   exact Jv
  refine H6 ?_ ?_
  ·refine FP (cs:=[S [],S [],B false,.int .i64 0,.slice none 0 0]) rfl EA RX.mod (λb7 w18 e7 xm m7=>?_);have g7:=z.ge e7;have n7_1:=J.ltb e7;have n7_2:=O.ltb e7;have r:=r.ext xm;have J:=J.ext xm;have O:=O.ext xm;have z:=z.trans xm;refine EH (EX (JP rfl EA (T3 bm va vd dr n sz _ r.hm r.hd EB) rfl (.inr λ_ h=>h) (λv19 w19 xa y5=>?_)));have hsz19:=z.size;have J:=J.mod xa (λe=>J.ne r.hm rfl e);have O:=O.mod xa (λe=>O.ne r.hm rfl e);have m7:=m7.mod xa (λe=>m7.ne r.hm rfl e);have z:=(z.mod xa).mono (λi hi _=>((by rw[show i=bm from hi];exact hF bm (.inl rfl)):F i));obtain⟨Z,rfl,h5,hf,hc⟩:=y5;have r:=r.setn xa hc;refine EH (EX (LN (e:=3) (sz:=1) (by':=8) (zs:=[.int .i64 0]) rfl EA EA EA rfl rfl EB EB RX.mod (λb8 w20 e8 xl m8=>?_)));have g8:=z.ge e8;have n8_1:=J.ltb e8;have n8_2:=O.ltb e8;have n8_7:=m7.ltb e8;have J:=J.ext xl;have O:=O.ext xl;have m7:=m7.ext xl;have r:=r.ext xl;have z:=z.ext xl;refine EH (EX (db (zs:=[S [],S [],B false,.int .i64 0,.slice none 0 0]) (pl:=[(0,4),(4,1)]) (pv:=[(0,.agg ⟨[_,_,_,_]⟩),(1,_)]) (cs:=[_,_,_,_,_]) (EH ?_)));refine EX (FY m7 (λw21 xg xs21 m7=>?_));dsimp only [EY,Af,Ad,Ag]at m7;have J:=J.mo xg;have O:=O.mo xg;have r:=r.mod xg (λk hk e=>by have h1:=hg k hk;have h2:k=b7:=e;omega);have m8:=m8.mo xg;have z:=z.o1 xg;refine EH (Ii (⟨(b8,b7,Z),Gc,z,J,O,m7,?_,r,h5,hf,g8,g7⟩));have hl:=m8;rw[OQ]at hl;exact hl
  exact Jv
 intro X22 zv w22 y4;obtain⟨bn,bt,Z⟩:=zv;clear z r J O;obtain⟨z,J,O,hT,hB,r,h5,hf,zm,hbt⟩:=y4;refine ws λ_ Z9=>ws λ_ zo=>wr (df 4 rfl (dl rfl (hT.at rfl) (dv 3 1 (Oq ⟨c,bn,Z⟩).sl (dm (de zo (EM ?_))))));refine Fq (G:=Nat×List Nat×(Nat->List Nat)) (λ(k,tn,ha)=>[(0,EE bm 0),(3,EE b1 0),(5,EE b2 0),(7,EE bt 0),(53,I ↑Z),(54,I ↑k)]) (λ(k,tn,ha) w'=>Mod F w w'/\EK w' b1 c.cs 79/\EK w' b2 (Ga q) 244/\EK w' bt (Tow.enc ⟨c,bn,Z⟩) 172/\EK w' bn (Ga tn) 3/\MemAt w' bm va vd a ha dr (n+1) sz/\k<=Z/\tn.length=Z/\(∀row,row<k->tn[row]?=some (Gm (hgt a) (Fp a L c) row))/\(∀i row,i<a.length->row<hgt a i->(ha i)[row]?=if row<k/\q[row]?=some i then some a.length else(nx i)[row]?)) (λ(k,tn,ha)=>Z-k) (0,Ax Z 0,nx) ?_ ?_ ?_
 ·exact G2
 ·exact⟨z,J,O,hT,hB,r,Ae _,by simp,λrow h=>absurd h (B6 _),λi row _ _=>by rw[if_neg (λe=>absurd e.1 (B6 _))]⟩
 intro X23 zq w23 y2;obtain⟨k,tn,ha⟩:=zq;clear z J O hT hB r;obtain⟨z,J,O,hT,hB,r,hkh,xp,yz,xd⟩:=y2;refine ws λ_ zg=>wr (dp (Fb rfl rfl) (de zg (ws λ_ zn=>wi (λc5=>?_) λc5=>?_)))
 ·have yf:k<12:=by omega
  have yl:=ym k yf;obtain⟨A',R',yp,yh,zp⟩:=hs.last_in c yf;obtain⟨p,hpe⟩:∃p,GY (hgt a) (0 :: Fv a L c) k=p:=⟨_,rfl⟩;rw[hpe]at yl yp yh;have yq:p∈0 :: Fv a L c:=by rw[yp];simp
  have yt:p<a.length:=by
   rcases Aj.1 yq with e|e
   ·rw[e];exact hs.mem0 Al
   ·exact hs.mem0 (Am _ (MA e))
  obtain⟨tp,hkp⟩:∃t,a[p]?=some t:=⟨_,Ar yt⟩;have zj:foot bm va vd a tp.bk:=.inr (.inr (.inr ⟨tp,Ak hkp,rfl⟩));have xr:(ha p)[k]?=some (Gm (hgt a) (Fp a L c) k):=by
   rw[xd p k yt yh,if_neg (λe=>absurd e.1 (A6 _)),hs.nextR yp yh,Q3 zp]
  have yr:k<(ha p).length:=(Ap.1 xr).1;refine EI (zn _ _ (ws λ_ zi=>EM (ws λ_ y8=>wr (dm (da (de y8 (ws λ_ y7=>?_)))))));refine F9 (R:=ED) ED.refl (λ_ _ _=>ED.trans) EA [3,6] [(0,.p,false),(1,.p,false),(2,.p,false),(3,.l,false),(4,.p,false),(5,.p,false),(6,.l,false),(7,.p,false),(8,.p,false)] rfl EA EA (λw24 x0=>?_);have hz:=EL x0;clear x0;have J:=J.ext hz;have O:=O.ext hz;have hT:=hT.ext hz;have hB:=hB.ext hz;have r:=r.ext hz;have z:=z.ext hz;refine dm ?_;refine dz rfl (df 0 rfl (dL rfl (λ_ Y=>((r.hm.ext Y).at rfl)) (dm ?_)));refine dp (Ko (m:=12) (e:=3) (k:=1) EA rfl rfl EB) (dL rfl (λ_ Y=>((O.ext Y).at (Mm yl))) (di 172 5 r.arr.sl rfl (r.arr.lt hkp) (da (de y7 ?_))));refine F9 (R:=ED) ED.refl (λ_ _ _=>ED.trans) EA [1,6,11,14,18] [(0,.p,false),(1,.l,false),(2,.p,false),(3,.p,false),(4,.p,false),(5,.p,false),(6,.l,false),(7,.p,false),(8,.p,false),(9,.p,false),(10,.p,false),(11,.l,false),(12,.p,false),(13,.p,false),(14,.l,false),(15,.p,false),(16,.p,false),(17,.p,false),(18,.l,false),(19,.p,false),(20,.p,false),(21,.x,true),(22,.p,false),(23,.x,true)] rfl EA EA (λw25 yd=>?_);have h6:=EL yd;clear yd;have J:=J.ext h6;have O:=O.ext h6;have hT:=hT.ext h6;have hB:=hB.ext h6;have r:=r.ext h6;have z:=z.ext h6;refine df 4 rfl (dL rfl (λ_ Y=>((hT.ext Y).at rfl)) (dm (dm ?_)));refine dz rfl (df 4 rfl (dL rfl (λ_ Y=>(((r.arr.ext Y).row hkp).at rfl)) (dm (dm ?_))));refine dz rfl (df 4 rfl (dL rfl (λ_ Y=>(((r.arr.ext Y).row hkp).at rfl)) (dm ?_)));refine di 3 1 (r.next hs hkp).sl rfl ((r.next hs hkp).lt xr) (dL rfl (λ_ Y=>((((r.next hs hkp).ext Y).row xr).at0 rfl)) (dm ?_));refine dz rfl (df 0 rfl (dL rfl (λ_ Y=>((r.hm.ext Y).at rfl)) (dv 172 5 r.arr.sl (di 3 1 (Oq ⟨c,bn,Z⟩).sl rfl (show k<Z by omega) ?_))));refine MH (b:=bn) (o:=0+k*1) (v:=?v40) rfl rfl ?h40 ?n40 EA (hB) ?o40 (.inl rfl) (λzf xk xs26 yu=>?k40)
  case h40=>conv=>lhs;whnf
  case n40=>rfl
  case o40=>simp;omega
  have J:=J.mod xk (λe=>J.ne hB rfl e);have O:=O.mod xk (λe=>O.ne hB rfl e);have hT:=hT.mod xk (λe=>hT.ne hB rfl e);have r:=r.mod xk (λk hk e=>by have h1:=hg k hk;have h2:k=bn:=e;omega);have z:=z.own xk (λi hi hw=>absurd hi (by intro e;have e2:i=bn:=e;omega));have hB:EK zf bn (Ga (tn.set k (Gm (hgt a) (Fp a L c) k))) 3:=by
   have e:=yu;rw[MR]at e;exact e
  have xj:=xp;have xp:(tn.set k (Gm (hgt a) (Fp a L c) k)).length=Z:=by rw[AF];exact xj
  refine di 3 1 (r.next hs hkp).sl rfl ((r.next hs hkp).lt xr) ?_;refine MH (b:=tp.bk) (o:=0+k*1) (v:=?v41) rfl rfl ?h41 ?n41 EA ((r.hN p tp hkp).1) ?o41 (.inl rfl) (λw27 h7 xs27 y6=>?k41)
  case h41=>conv=>lhs;whnf
  case n41=>rfl
  case o41=>simp;omega
  have J:=J.mod h7 (λe=>J.ne (r.hN p tp hkp).1 rfl e);have O:=O.mod h7 (λe=>O.ne (r.hN p tp hkp).1 rfl e);have hT:=hT.mod h7 (λe=>hT.ne (r.hN p tp hkp).1 rfl e);have hB:=hB.mod h7 (λe=>by have h1:=hg tp.bk zj;have h2:bn=tp.bk:=e;omega);have z:=z.own h7 (λi hi hw=>hF i (.inr (.inr (.inr ⟨tp,Ak hkp,Eq.symm hi⟩))));have r:=r.setN (q:=(ha p).set k a.length) hkp h7 (by have e:=y6;rw[MR]at e;exact e) (by rw[AF];exact(r.hN p tp hkp).2);refine de zi (wr (pa rfl rfl (dm (EH (?_)))));refine⟨(k+1,tn.set k (Gm (hgt a) (Fp a L c) k),HU ha p ((ha p).set k a.length)),G2,⟨z,J,O,hT,hB,r,by omega,xp,X6g yz EB,X0j xd yl yr⟩,by simp only [];omega⟩
 refine Fk (Z9 _ _ (ws λ_ zk=>F9 (R:=Mod (λk=>va.ownBlock=some k)) Jz JV EA [4,5] [(0,.p,false),(1,.p,false),(2,.p,false),(3,.p,false),(4,.l,false),(5,.l,false),(6,.x,false),(7,.x,false),(8,.p,false),(9,.p,false),(10,.x,true)] rfl EA EA (λw28 ye=>?_)));have xc:=EL ye;clear ye;have J:=J.ext xc;have hT:=hT.ext xc;have hB:=hB.ext xc;have r:=r.ext xc;have z:=z.ext xc
 iterate 2 refine dm ?_
 refine dz rfl (df 0 rfl (dL rfl (λ_ Y=>((r.hm.mod Y (λe=>r.hA.ne_blk r.hm rfl e)).at rfl)) (FW rfl (λw' Y=>Fe (k:=5) EA rfl rfl (hT.mod Y (λe=>by have h1:=hg bt (.inr (.inl e));omega)).row) (li (e:=172) (sz:=5) (zs:=[S [],S [],B false,.int .i64 0,.slice none 0 0]) (pv:=[(0,.agg ⟨[_,_,_,_,_]⟩)]) (cs:=[_,_,_,_,_]) RX.mod (λb9 ze e9 xq m9=>?_)))));have g9:=z.ge e9;have n9_1:=J.ltb e9;have J:=J.ext xq;have hB:=hB.ext xq;have r:=r.ext xq;have z:=z.ext xq;refine LP (e:=172) (sz:=5) (by':=72) rfl EA EA EF r.hA (m9.arr (enc:=Tow.enc) (sz:=5) (l:=[⟨c,bn,Z⟩]) rfl EF rfl ER) rfl rfl (by intro x z u hu;simp at z;subst z;simp at hu;rcases hu with rfl|rfl|rfl|rfl|rfl<;>rfl) (by simp;omega) EN (Ae _) (.inr λ_ h=>h) (λvp zw xw xe zu=>?_);have xi:=r;have zc:=hB;have hwA:ze.heap.size<=zw.heap.size:=xe.size;have hsA:=z.size;have J:=J.mod xe (λe=>xi.hA.ne_blk J rfl e);have z:=z.own xe (λi hi hw=>hF i (.inr (.inl hi)));have hc:=xi.hm.mod xe (λe=>xi.hA.ne_blk xi.hm rfl e);refine dz rfl (df 0 rfl ?_);refine MH (b:=bm) (o:=0) (v:=?v46) rfl rfl ?h46 ?n46 EA (hc) ?o46 (.inl rfl) (λw31 yj xs31 xy=>?k46)
 case h46=>conv=>lhs;whnf
 case n46=>exact Gd.one xw.sl
 case o46=>exact Av rfl
 have J:=J.mod yj (λe=>J.ne hc rfl e);have z:=z.own yj (λi hi hw=>hF i (.inl hi));dsimp only [Af]at xy;have r:=xi.grow (t:=⟨c,bn,Z⟩) (q:=tn) xe xw yj xy zc xp (λs hs e=>by have h1:=hg s.bk (.inr (.inr (.inr ⟨s,hs,rfl⟩)));have h2:s.bk=bn:=e;omega);refine de zk (ws λ_ zt=>F9 (R:=ED) ED.refl (λ_ _ _=>ED.trans) EA [3,4] [(0,.p,false),(1,.p,false),(2,.p,false),(3,.l,false),(4,.l,false),(5,.x,false),(6,.p,false),(7,.p,false),(8,.p,false),(9,.x,true)] rfl EA EA (λw32 yb=>?_));have yo:=EL yb;clear yb;have J:=J.ext yo;have r:=r.ext yo;have z:=z.ext yo;refine dm ?_;refine dz rfl (df 3 rfl (dL rfl (λ_ Y=>((r.hm.ext Y).at rfl)) (FW rfl (λw' Y=>Fe (k:=4) EA rfl rfl (J.ext Y).row) (cP (Qv c _ (by simp only [Gl,Au,decide_eq_true_eq]at hy;omega) (by simp only [Gl,Au,decide_eq_true_eq]at hy;omega)) RX.ext λw33 yy=>?_))));have r:=r.ext yy;have z:=z.ext yy;refine dp (Gy rfl rfl (by simp only [Gl,Au,decide_eq_true_eq]at hy;unfold EU Gt;omega)) (dz rfl (df 3 rfl ?_));refine MH (b:=bm) (o:=3) (v:=?v48) rfl rfl ?h48 ?n48 EA (r.hm) ?o48 (.inl rfl) (λw34 yv xs34 ya=>?k48)
 case h48=>conv=>lhs;whnf
 case n48=>rfl
 case o48=>exact Av rfl
 have z:=z.own yv (λi hi hw=>hF i (.inl hi));dsimp only [Af]at ya;have r:=r.setn (n':=n+1) (sz':=sz+Gt c) yv ya;refine de zt (ws λ_ zd=>wr (da (de zd (EJ ?_))));dsimp only [Ip,Nh,Mn];refine ro ?_;have hp:put l c=(true,pre l c++c :: HF l c):=by simp [put,yx,hy]
 rw[hp];have zr:k=Z:=by omega
 have yk:∀i,i<a.length->(nx i).length=hgt a i/\(HU ha a.length tn i).length=hgt a i:=λi hi=>by
  have ht:a[i]?=some a[i]:=Ar hi;rw[TY ht];exact⟨(h.hN i _ ht).2,(r.hN i a[i] (by rw[Bt hi];exact ht)).2⟩
 have zl:=hs.put (t:=⟨c,bn,Z⟩) (nx2:=HU ha a.length tn) rfl ⟨h5,hf⟩ yk (λrow hr=>by
  have hr':row<Z:=hr;unfold HU;rw[if_pos rfl];exact yz row EB) (λi row hi hr=>by
  unfold HU;rw[if_neg EB,xd i row hi hr];have hhi:=(hs.hle i hi).2;have e:(row<k/\q[row]?=some i)↔(row<Z/\GY (hgt a) (0 :: Fv a L c) row=i):=by rw[ym row EB,A0.injEq,zr]
  by_cases h1:row<k/\q[row]?=some i
  ·rw[if_pos h1,if_pos (e.1 h1)]
  ·rw[if_neg h1,if_neg (λh2=>h1 (e.2 h2))])
 have yc:=hsd.put c;rw[hp]at yc;refine⟨rfl,z,vp,vd,a++[⟨c,bn,Z⟩],HU ha a.length tn,dr,_,by rw[Xwt,Xpu,<-hnl,<-hszl];exact r,zl,yc,λj hj=>?_,λj hj=>hj.elim (λh=>Az (hFl j h) z.size) (λh=>h.2)⟩;have hw:=r.lt hj;rcases hj with rfl|hj|hj|⟨s,hs',rfl⟩
 ·exact .inl (hF _ (.inl rfl))
 ·rcases zu with e|e
  ·exact .inl (hF j (.inr (.inl (by rw[<-e];exact hj))))
  ·rw[e]at hj;have e2:=A0.inj hj;exact .inr ⟨by omega,hw⟩
 ·exact .inl (hF j (.inr (.inr (.inl hj))))
 ·rcases Aw.1 hs' with hm|hm
  ·exact .inl (hF _ (.inr (.inr (.inr ⟨s,hm,rfl⟩))))
  ·rw[Ah.1 hm]at hw ⊢;exact .inr ⟨zm,hw⟩
theorem Rs {w0 w:World}{b3 b5 b9:Nat}{vc:Value}{dr:List Nat}(m3:EK w b3 ((Ax 12 [I 0]).flatten) 3)(m5:EK w b5 [S [],S [],B false,I 0,.slice (some ⟨b3,0,none⟩) 12 12] 172)
  (hc:Vc.Own Iz 1 174 w0.heap.size w vc dr) (m9:EK w b9 [.slice (some ⟨b5,0,none⟩) 1 1,vc,I 0,I 0] 155) (g3:w0.heap.size<=b3) (g5:w0.heap.size<=b5) (g9:w0.heap.size<=b9) :
  FG (λk=>w0.heap.size<=k/\k<w.heap.size) w b9 []:=by
 rw[OQ]at m3;have J:MemAt w b9 (.slice (some ⟨b5,0,none⟩) 1 1) vc [⟨Cell.zero,b3,12⟩] (λ_=>Ax 12 0) dr 0 0:=by
  refine⟨m9,m5.own (enc:=Tow.enc) (l:=[⟨Cell.zero,b3,12⟩]) (Ae _) rfl EF rfl ER,hc.mono (Ae _),λi t r=>?_,λi j s t hs r _=>?_⟩
  ·cases i with
   | zero=>simp at r;subst r;exact⟨m3,by simp⟩
   | succ i=>simp at r
  ·cases i with
   | zero=>cases j with
    | zero=>rfl
    | succ j=>simp at r
   | succ i=>simp at hs
 refine⟨_,_,_,_,_,[],J,⟨rfl,λi hi=>(by cases hi),BV,rfl,rfl,λi hi=>?_,⟨λrow O=>?_,trivial⟩⟩,Bp,λk hk=>⟨?_,J.lt hk⟩,λk hk=>hk.2⟩
 ·have:i=0:=by simp at hi;exact hi
  subst this;exact⟨(show 1<=12 by decide),(show 12<=12 by decide)⟩
 ·have z:row<12:=O;rw[List.getElem?_replicate_of_lt z];rfl
 ·rcases hk with rfl|hk|hk|⟨t,r,rfl⟩
  ·exact g9
  ·have:b5=k:=A0.inj hk;omega
  ·exact(hc.lt k hk).1
  ·rw[Ah.1 r];exact g3
theorem QM (dr:List Nat)(v:Value)(w:World)(hv:EQ Iz 1 w v dr)(hl:dr.length<=1000000) :
  Calls Tryz.prog 102 [v].toArray w (ES w (λv' w'=>Vc.Own Iz 1 174 w.heap.size w' v' dr)):=by
 refine cw Tryz.func102 ?_;have r:=ED.refl w;refine ws λ_ Z1=>wr (da (de Z1 (ws λ_ Z=>ws λ_ Z3=>wr (dm ?_))));refine dp (NA (e:=174) (k:=1) EA hv.sl rfl rfl) (de Z3 (wc (λO=>?_) λO=>?_))
 ·refine ws λ_ Z4=>wr (da (de Z4 (EJ ?_)));refine ro ?_;have hn:=Xo6 hv.sl O;have J:=List.eq_nil_of_length_eq_zero hn.2;subst J;exact⟨_,rfl,r,Vc.Own.nil⟩
 refine EI (Z _ _ (ws λ_ Z5=>wr (Qb (e:=174) (sz:=1) rfl EA RX.all (λb1 w1 e1 x1 m1=>?_))));have g1:=r.ge e1;have r:=r.trans x1;refine dm ?_;have ho:=m1.own (enc:=Iz) (B:=w.heap.size) (l:=([]:List Nat)) (sz:=1) (m:=0) g1 rfl EF rfl ER;refine Hy (e:=174) (sz:=1) (by':=4) rfl EA EA EF ho ((hv.ext r)) rfl rfl (by intro x _ u hu;simp at hu;rcases hu with rfl<;>rfl) (by simp;omega) EN r.size (.inl rfl) (λvp w2 z Y=>?_);have r:=r.own Y (λi hi=>(ho.lt i hi).1);have ho:=z;refine da (de Z5 (EJ ?_));refine ro ?_;exact⟨_,rfl,r,by simpa using ho⟩
theorem VR (dr:List Nat)(v:Value)(w:World)(hv:EQ Iz 1 w v dr)(hl:dr.length<=1000000) :
  Calls Tryz.prog 47 [v].toArray w (ES w (λv' w'=>∃bm,v'=EE bm 0/\FG (λk=>w.heap.size<=k/\k<w'.heap.size) w' bm [])):=by
 refine cw Tryz.func47 ?_;have z:=ED.refl w;refine ws λ_ Z1=>wr (da (de Z1 (ws λ_ Z2=>?_)));refine Lb (R:=ED) ED.refl (λ_ _ _=>ED.trans) EA [] (.one 3 .p false (.fork (.alt 0 true (.one 1 .p false (.fork (.alt 2 true (.one 4 .x true (.one 5 .p false (.one 6 .x true (.one 7 .p false .nil)))) (.alt 4 true (.one 2 .x true (.one 5 .p false (.one 6 .x true (.one 7 .p false .nil)))) .stop)))) (.alt 4 true (.one 0 .x true (.one 1 .p false (.one 2 .x true (.one 5 .p false (.one 6 .x true (.one 7 .p false .nil)))))) .stop)))) EA EA (λw1 hc=>?_);have x1:=EL hc;clear hc;have z:=z.trans x1;refine EX (dm (EH ?_));refine Ju ?_;refine H6 ?_ ?_
 ·refine LN (e:=3) (sz:=1) (by':=8) (zs:=[.int .i64 0]) rfl EA EA EA rfl rfl (Av rfl) (Av rfl) RX.all (λb1 w2 e1 x2 J=>?_);have g1:=z.ge e1;have z:=z.trans x2;refine EH (EX (db (zs:=[S [],S [],B false,.int .i64 0,.slice none 0 0]) (pl:=[(0,4),(4,1)]) (pv:=[(1,_)]) (cs:=[S [],S [],B false,.int .i64 0,_]) (EH ?_)));refine Ju ?_;refine H6 ?_ ?_
  ·refine li (e:=172) (sz:=5) (zs:=[S [],S [],B false,.int .i64 0,.slice none 0 0]) (pv:=[(0,.agg ⟨[_,_,_,_,_]⟩)]) (cs:=[_,_,_,_,_]) RX.all (λb2 w3 e2 x3 m2=>?_);have g2:=z.ge e2;have n2_1:=J.ltb e2;have J:=J.ext x3;have z:=z.trans x3;refine EH (EX (cG (QM dr v _ (hv.ext z) hl) RX.all λvc w4 x4 r=>?_));have hb:=z.size;have J:=J.ext x4;have m2:=m2.ext x4;have z:=z.trans x4;have r:=r.mono hb;refine EH (EX ?_);refine dp (M4 (zs:=[.slice none 0 0,.slice none 0 0,.int .i64 0,.int .i64 0]) (pl:=[(0,1),(1,1),(2,1),(3,1)]) (pv:=[(0,?a5_0),(1,?a5_1)]) (cs:=[?a5_0,?a5_1,.int .i64 0,.int .i64 0]) EA EA ?h5 ?f5) ?k5
   case h5=>refine⟨rfl,?_,rfl,?_,trivial⟩<;>(conv=>lhs;whnf)
   case f5=>rcases r.sl with⟨rfl,_⟩|⟨_,_,_,rfl,_⟩|⟨_,_,_,rfl⟩<;>rfl
   refine EH (EX (Gn rfl rfl rfl RX.all (λb3 w5 e3 x5 m3=>?_)));have g3:=z.ge e3;have n3_1:=J.ltb e3;have n3_2:=m2.ltb e3;have o3_hcf:=r.ltb e3;have J:=J.ext x5;have m2:=m2.ext x5;have r:=r.ext x5;have z:=z.trans x5;refine EH (EX (da (EH ?_)));refine Ii (Z2 _ _ (EJ (ro ?_)));exact⟨_,rfl,z,b3,rfl,Rs J m2 r m3 g1 g2 g3⟩
  refine H6 ?_ ?_
  ·refine cG (QM dr v _ (hv.ext z) hl) RX.all λvc w6 x6 r=>?_;have ha:=z.size;have J:=J.ext x6;have z:=z.trans x6;have r:=r.mono ha;refine EH (EX (li (e:=172) (sz:=5) (zs:=[S [],S [],B false,.int .i64 0,.slice none 0 0]) (pv:=[(0,.agg ⟨[_,_,_,_,_]⟩)]) (cs:=[_,_,_,_,_]) RX.all (λb4 w7 e4 x7 m4=>?_)));have g4:=z.ge e4;have n4_1:=J.ltb e4;have o4_hcf:=r.ltb e4;have J:=J.ext x7;have r:=r.ext x7;have z:=z.trans x7;refine EH (EX ?_);refine dp (M4 (zs:=[.slice none 0 0,.slice none 0 0,.int .i64 0,.int .i64 0]) (pl:=[(0,1),(1,1),(2,1),(3,1)]) (pv:=[(0,?a9_0),(1,?a9_1)]) (cs:=[?a9_0,?a9_1,.int .i64 0,.int .i64 0]) EA EA ?h9 ?f9) ?k9
   case h9=>refine⟨rfl,?_,rfl,?_,trivial⟩<;>(conv=>lhs;whnf)
   case f9=>rcases r.sl with⟨rfl,_⟩|⟨_,_,_,rfl,_⟩|⟨_,_,_,rfl⟩<;>rfl
   refine EH (EX (Gn rfl rfl rfl RX.all (λb5 w8 e5 x8 m5=>?_)));have g5:=z.ge e5;have n5_1:=J.ltb e5;have n5_4:=m4.ltb e5;have o5_hcf:=r.ltb e5;have J:=J.ext x8;have r:=r.ext x8;have m4:=m4.ext x8;have z:=z.trans x8;refine EH (EX (da (EH ?_)));refine Ii (Z2 _ _ (EJ (ro ?_)));exact⟨_,rfl,z,b5,rfl,Rs J m4 r m5 g1 g4 g5⟩
  exact Jv
 refine H6 ?_ ?_
 ·refine cG (QM dr v _ (hv.ext z) hl) RX.all λvc w9 x9 r=>?_;have hf:=z.size;have z:=z.trans x9;have r:=r.mono hf;refine EH (EX (LN (e:=3) (sz:=1) (by':=8) (zs:=[.int .i64 0]) rfl EA EA EA rfl rfl (Av rfl) (Av rfl) RX.all (λb6 w10 e6 hg Y=>?_)));have g6:=z.ge e6;have o6_hcf:=r.ltb e6;have r:=r.ext hg;have z:=z.trans hg;refine EH (EX (db (zs:=[S [],S [],B false,.int .i64 0,.slice none 0 0]) (pl:=[(0,4),(4,1)]) (pv:=[(1,_)]) (cs:=[S [],S [],B false,.int .i64 0,_]) (EH ?_)));refine EX (li (e:=172) (sz:=5) (zs:=[S [],S [],B false,.int .i64 0,.slice none 0 0]) (pv:=[(0,.agg ⟨[_,_,_,_,_]⟩)]) (cs:=[_,_,_,_,_]) RX.all (λb7 w11 e7 Z m7=>?_));have g7:=z.ge e7;have n7_6:=Y.ltb e7;have o7_hcf:=r.ltb e7;have r:=r.ext Z;have Y:=Y.ext Z;have z:=z.trans Z;refine EH (EX ?_);refine dp (M4 (zs:=[.slice none 0 0,.slice none 0 0,.int .i64 0,.int .i64 0]) (pl:=[(0,1),(1,1),(2,1),(3,1)]) (pv:=[(0,?a14_0),(1,?a14_1)]) (cs:=[?a14_0,?a14_1,.int .i64 0,.int .i64 0]) EA EA ?h14 ?f14) ?k14
  case h14=>refine⟨rfl,?_,rfl,?_,trivial⟩<;>(conv=>lhs;whnf)
  case f14=>rcases r.sl with⟨rfl,_⟩|⟨_,_,_,rfl,_⟩|⟨_,_,_,rfl⟩<;>rfl
  refine EH (EX (Gn rfl rfl rfl RX.all (λb8 w12 e8 O m8=>?_)));have g8:=z.ge e8;have n8_6:=Y.ltb e8;have n8_7:=m7.ltb e8;have o8_hcf:=r.ltb e8;have r:=r.ext O;have Y:=Y.ext O;have m7:=m7.ext O;have z:=z.trans O;refine EH (EX (da (EH ?_)));refine Ii (Z2 _ _ (EJ (ro ?_)));exact⟨_,rfl,z,b8,rfl,Rs Y m7 r m8 g6 g7 g8⟩
 exact Jv
section
variable {F:Nat->Prop}{bm:Nat}{l:List Cell}
theorem FG.lt {w:World}(h:FG F w bm l):∀k,F k->k<w.heap.size:=by
 obtain⟨va,vd,a,nx,dr,L,h1,h2,h3,h4,r⟩:=h;exact r
theorem FG.calls_put (c:Cell)(w:World)(h:FG F w bm l)(hl:l.length<=900000)(hz:He l<=1000000000000):Calls Tryz.prog 89 [EE bm 0,c.v].toArray w (Ff F w (λv w'=>v=B (put l c).1/\FG (NI F w w') w' bm (put l c).2)):=by
 obtain⟨va,vd,a,nx,dr,L,h1,h2,h3,h4,r⟩:=h;have hlL:l.length=L.length:=(congrArg AC h2.cells).trans (Ao ..);have hal:=h2.len;exact Calls.mono (X96 bm va vd a nx dr _ _ L l F c w h1 h2 h3 EB rfl rfl h4 r hz) λe w' ⟨h1,h2,h3⟩=>⟨_,h1,h2,rfl,h3⟩
theorem FG.calls_get (key:EC)(seq:Int)(w:World)(h:FG F w bm l)(hl:l.length<=900000):Calls Tryz.prog 112 [EE bm 0,S key,I seq].toArray w (Pure w (.tuple #[((first l key seq).getD Cell.zero).v,B (first l key seq).isSome])):=by
 obtain⟨va,vd,a,nx,dr,L,h1,h2,h3,h4,h5⟩:=h;have hlL:l.length=L.length:=(congrArg AC h2.cells).trans (Ao ..);have hal:=h2.len;exact Yb5 bm va vd a nx dr _ _ L l key seq w h1 h2 h3 EB
theorem FG.calls_len (w:World)(h:FG F w bm l)(hl:l.length<=900000):Calls Tryz.prog 43 [EE bm 0].toArray w (Pure w (I ↑l.length)):=by
 obtain⟨va,vd,a,nx,dr,L,h1,h2,h3,h4,h5⟩:=h;have hlL:l.length=L.length:=(congrArg AC h2.cells).trans (Ao ..);have hal:=h2.len;have:=X94 bm va vd a nx dr _ _ L l w h1 h2 h3 EB;rwa [show a.length-1=l.length by omega]at this
theorem FG.calls_all (w:World)(h:FG F w bm l)(hl:l.length<=900000)(hb:∀x∈l,x.seq<=4611686018427387904):Calls Tryz.prog 46 [EE bm 0].toArray w (ES w (λv' w'=>Vc.Own Cell.cs 4 79 w.heap.size w' v' l)):=by
 obtain⟨va,vd,a,nx,dr,L,h1,h2,h3,h4,h5⟩:=h;have hlL:l.length=L.length:=(congrArg AC h2.cells).trans (Ao ..);have hal:=h2.len;exact Yb6 bm va vd a nx dr _ _ L l w h1 h2 h3 EB hb
end
end Go.Proofs.YtiooodckiddpmaaGreatDoor
