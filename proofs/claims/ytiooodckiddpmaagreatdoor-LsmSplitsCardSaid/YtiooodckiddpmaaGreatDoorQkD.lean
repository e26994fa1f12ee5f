/-
  A part of the proof.
-/
import Derived.Test.YtiooodckiddpmaaGreatDoorQkA
import Derived.Test.YtiooodckiddpmaaGreatDoorChecked
import Derived.KernelRfl
import Derived.Test.YtiooodckiddpmaaGreatDoorQkC
import Derived.Test.YtiooodckiddpmaaGreatDoorQkB
import Derived.Lib.ItoaLen
open Nat renaming le_refl->Aa,zero_le->Ab,le_trans->Ae,le_of_ble_eq_true->Aj,lt_of_lt_of_le->Ax,zero_add->A0,lt_irrefl->A4,lt_of_lt_of_eq->AD,beq->AM,not_lt->AP,mod_lt->Be,not_lt_zero->Bg,sub_zero->C8,eq_zero_or_pos->CJ,le_of_lt->D8,succ_le_succ->ES
open List renaming length_append->Ad,mem_singleton->Af,mem_of_getElem?->Ag,mem_cons->Ah,mem_cons_self->Ai,mem_append->Ak,map_cons->Am,replicate->An,mem_cons_of_mem->Ao,getElem?_eq_some_iff->Ap,take_of_length_le->Ar,getElem?_eq_getElem->Au,mem_filter->Av,length_map->Aw,mem_map->Ay,eq_nil_of_length_eq_zero->Az,append_assoc->A3,length->A5,map_append->A6,length_set->A9,length_cons->AA,nil_append->AB,length_take->A7,getElem?_map->AG,append_nil->AH,pairwise_cons->AI,take->AL,set->AN,all_eq_true->AO,getElem?_of_mem->AQ,take_append_drop->AS,sum_cons->AT,drop->AU,take_length->AV,length_filter_le->AZ,flatMap_append->Bb,length_drop->AX,map_nil->Bf,getElem?_eq_none->Bh,pairwise_append->Bj,nodup_cons->Bk,filter_append->Bs,mem_append_right->Bz,sum_append->B0,any_eq_true->B7,mem_append_left->B8,ext_getElem?->BB,foldl_append->BC,drop_of_length_le->BD,getElem?_set_self->BE,filter_eq_self->BG,nodup_append->BM,getD_eq_getElem?_getD->BN,mem_flatMap->BU,drop_eq_nil_of_le->BW,drop_zero->Ce,getElem?_set_ne->Cg,not_mem_nil->Co,find?_some->Cp,mem_of_mem_take->Cr,mem_map_of_mem->Ct,mem_of_mem_drop->C2,find?_eq_none->C3,pairwise_iff_getElem->C4,foldlM->CC,takeWhile_cons->CO,pairwise_singleton->Da,length_take_le'->Dy,dropWhile_cons->Dz,zip->D5,getElem?_zipWith->D6,getElem?_zip_eq_some->Ed,mem_or_eq_of_mem_set->Eh,mem_of_mem_eraseIdx->Ei,all_eq_false->EN,getElem?_append->EO,getElem?_eq_none_iff->EP,map_fst_zip->EQ,length_zip->ER,eraseIdx_eq_take_drop_succ->ET
open Option renaming some->Al,map_eq_some_iff->Bp,map_some->Cn
open Bool renaming and_eq_true->Aq,not_eq_true'->BI,not_eq_true->Cb,false_eq_true->Cq,and_eq_false_iff->CN
open Decidable renaming of_not_not->AE,byContradiction->Bc
open UInt32 renaming ofNat->AJ
open List.Pairwise renaming nil->Bq,filter->Cu,imp->EZ,sublist->Fa
open Prod renaming mk->B5,ext->Dv
open Int renaming le_refl->BV,lt_trichotomy->Ee
open List.Sublist renaming map->CH
set_option maxRecDepth 100000
set_option maxHeartbeats 4000000
set_option linter.unusedVariables false
set_option linter.unusedSimpArgs false
namespace Go.Proofs.YtiooodckiddpmaaGreatDoor
open Go.Vc Go.Sp
attribute [local irreducible] W XW Dw G9
theorem Pi {x y z:Fh}(h1:F0 y x=false)(h2:F0 z y=false):F0 z x=false:=by
 cases h:F0 z x with
 | false=>rfl
 | true=>
  rcases K5 x y with e|e|e
  ·rw[e,h2]at h;cases h
  ·rw[J9 _ _ _ h e]at h2;cases h2
  ·rw[e]at h1;cases h1
theorem UW (a b:Int):(Hp a b<0)↔a<b:=by
 unfold Hp;split
 ·simp [*]
 ·split<;>simp<;>omega
theorem XE (a b:Int):(Hp a b=0)↔a=b:=by
 unfold Hp;split
 ·simp;omega
 ·split<;>simp<;>omega
theorem X2n (a b:Fh):(Ie a b<0)↔F0 a b=true:=by
 unfold Ie;split
 ·simp [*]
 ·split<;>simp [*]
theorem RM (a b:Fi):FX HK a b=true↔(a.lev<b.lev\/(a.lev=b.lev/\((a.lev=0/\a.id<b.id)\/(a.lev≠0/\F0 a.fst b.fst=true)))):=by
 unfold FX HK;rw[decide_eq_true_iff]
 by_cases h:a.lev=0/\b.lev=0
 ·rw[if_pos h,UW];simp [h.1,h.2]
 ·rw[if_neg h]
  by_cases h2:Hp a.lev b.lev≠0
  ·rw[if_pos h2,UW];have:=mt (XE a.lev b.lev).2 h2
   constructor
   ·exact .inl
   ·rintro (h3|h3)
    ·exact h3
    ·exact absurd h3.1 this
  ·rw[if_neg h2,X2n];have:=(XE a.lev b.lev).1 (AE h2);have h0:a.lev≠0:=λe=>h ⟨e,by rw[<-this];exact e⟩;simp [this,h0,this▸h0]
theorem Ye {a b:Fi} : FX HK a b=false↔¬ (a.lev<b.lev\/(a.lev=b.lev/\((a.lev=0/\a.id<b.id)\/(a.lev≠0/\F0 a.fst b.fst=true)))):=by
 rw[<-RM];simp
theorem Yc8 : Ord (FX HK):=⟨λx y z h1 h2=>(by
 rw[Ye]at *;simp only [not_or,not_and,Cb]at *;refine⟨by omega,λe=>⟨λr=>?_,λr=>?_⟩⟩
 ·have e1:z.lev=y.lev:=by omega
  have g1:=(h1.2 Fb).1 Fb;have g2:=(h2.2 e1).1 Fb;omega
 ·have e1:z.lev=y.lev:=by omega
  exact Pi ((h1.2 Fb).2 Fb) ((h2.2 e1).2 Fb)),λx y h=>(by
 rw[RM]at h;rw[Ye];simp only [not_or,not_and,Cb];refine⟨by omega,λe=>⟨λr=>?_,λr=>?_⟩⟩
 ·rcases h with h|⟨_,⟨_,h⟩|⟨h,_⟩⟩<;>omega
 ·rcases h with h|⟨_,⟨h,_⟩|⟨_,h⟩⟩
  ·omega
  ·omega
  ·exact KR h)⟩
def Ls (fs:List Fi)(gone:List Int):Bool:=decide gone.Nodup && gone.all λi=>fs.any λf=>decide (f.id=i)
def IR (fs:List Fi)(gone:List Int):List Fi:=fs.filter λf=>!decide (f.id∈gone)
def Im (n:Int)(add:List Fi):Int:=add.foldl (λx f=>max x (f.id+1)) n
def Ll (v:Vs)(gone:List Int)(add:List Fi):Bool:=Hw v && Ls v.fs gone && add.all λf=>decide (f.id<=1099511627776)
variable {fs:List Fi}{i:Int}{k:Nat}
theorem X2o {gone:List Int}(hk:gone[k]?=some i)(h:i∈(gone.take k).drop 0):Ls fs gone=false:=by
 unfold Ls;rw[CN];left;rw[decide_eq_false_iff_not];intro hn;rw[Ce]at h;obtain⟨j,r⟩:=AQ h;rw[List.getElem?_take]at r;split at r
 ·rename_i z;obtain⟨h1,rfl⟩:=Ap.1 hk;obtain⟨h2,h3⟩:=Ap.1 r;exact C4.1 hn j k h2 h1 z h3
 ·cases r
theorem Xyn {gone:List Int}(hk:gone[k]?=some i)(h:(fs.any λf=>decide (f.id=i))=false):Ls fs gone=false:=by
 unfold Ls;rw[CN];right;rw[EN];exact⟨i,Ag hk,by rw[h];decide⟩
theorem Xyo {gone:List Int}(hk:gone[k]?=some i)(h:Ls fs (gone.take k)=true)(h1:i∉(gone.take k).drop 0)(h2:(fs.any λf=>decide (f.id=i))=true):Ls fs (gone.take (k+1))=true:=by
 unfold Ls at *;rw[Aq,decide_eq_true_iff]at *;rw[GQ hk,List.all_append,h.2];refine⟨BM.2 ⟨h.1,by simp,λa r b hb e=>h1 ?_⟩,by simp [h2]⟩;rw[Af.1 hb]at e;rw[Ce,<-e];exact r
theorem Uw {gone:List Int}{f:Fi}(hk:fs[k]?=some f):IR (fs.take (k+1)) gone=if f.id∈gone then IR (fs.take k) gone else IR (fs.take k) gone++[f]:=by
 unfold IR;rw[GQ hk,Bs]
 by_cases h:f.id∈gone<;>simp [h]
theorem SL (fs:List Fi)(gone:List Int)(k:Nat):(IR (fs.take k) gone).length<=fs.length:=by
 have h1:(IR (fs.take k) gone).length<=(fs.take k).length:=AZ _ _;have h2:(fs.take k).length<=fs.length:=Dy ..;omega
theorem Xyp {n:Int}{add:List Fi}{f:Fi}(hk:add[k]?=some f):Im n (add.take (k+1))=max (Im n (add.take k)) (f.id+1):=by
 unfold Im;rw[GQ hk,BC];rfl
theorem QM {v:Vs}{gone:List Int}{add:List Fi}(h:Hw v=false\/Ls v.fs gone=false\/∃f∈add,¬ f.id<=1099511627776):Ll v gone add=false:=by
 unfold Ll;rcases h with h|h|⟨f,hf,h⟩
 ·rw[h];rfl
 ·rw[h];simp
 ·rw[CN];right;rw[EN];exact⟨f,hf,by simpa using h⟩
theorem RF {v:Vs}{gone:List Int}{add:List Fi}(h1:Hw v=true)(h2:Ls v.fs gone=true)(h3:∀f∈add,f.id<=1099511627776):Ll v gone add=true:=by
 unfold Ll;rw[h1,h2];simp only [Bool.and_self,Bool.true_and,AO,decide_eq_true_eq];exact h3
theorem X2p (n:Int)(fs:List Fi)(vf:Value)(gone:List Int)(vg:Value)(add:List Fi)(va:Value)(w:World)(hf:Fs Fi.cs 5 w vf fs)(hfl:fs.length<=40000)(hid:∀f∈fs,Fx f.id)(hg:Fs Vc.encI 1 w vg gone)(hgl:gone.length<=40000)(ha:Fs Fi.cs 5 w va add)(hal:add.length<=40000)(had:∀f∈add,Fx f.id) :
  Gf 91 [.agg ⟨[I n,vf]⟩,vg,va] w λu w'=>(Ll ⟨n,fs⟩ gone add=false/\u=.tuple #[.agg ⟨[I 0,.slice none 0 0]⟩,I 1])\/(Ll ⟨n,fs⟩ gone add=true/\∃fs',fs'.Perm (IR fs gone++add)/\Up (FX HK) fs'/\((Hw ⟨Im n add,fs'⟩=false/\u=.tuple #[.agg ⟨[I 0,.slice none 0 0]⟩,I 1])\/(Hw ⟨Im n add,fs'⟩=true/\∃vx,u=.tuple #[.agg ⟨[I (Im n add),vx]⟩,I 0]/\Vc.Own Fi.cs 5 62 w.heap.size w' vx fs'))):=by
 refine cE Tryz.func91 λr=>go ?_;refine Gx rfl rfl rfl RX.all (λb1 w1 e1 x1 J=>?_);have g1:=r.ge e1;have r:=r.trans x1;refine aL [.int .i64 0,.slice none 0 0] λb2 w2 e2 x2 z=>?_;have g2:=r.ge e2;have n2_1:=J.ltb e2;refine Fz x2 J r λJ r=>go ?_;refine dq (Fy (k:=2) Fe rfl rfl J.row) (cP (Qp n fs vf _ (hf.ext r) Fb hid) RX.all λw3 x3=>FB x3 J z r λJ z r=>?_);refine FZ (λc1=>?_) λc1=>?_
 ·refine go ?_;refine db (zs:=[.int .i64 0,.slice none 0 0]) (pl:=[(0,1),(1,1)]) (pv:=[]) (cs:=[.int .i64 0,.slice none 0 0]) ?_;refine Gc z (λw4 x4 xs4 z=>?_);have J:=J.mo x4;have r:=r.o1 x4;refine go ?_;refine It (u:=?v6) rfl rfl rfl rfl Fe rfl z.row ?h6 ?k6
  case h6=>conv=>lhs;whnf
  exact⟨_,rfl,r,.inl ⟨QM (.inl (by simpa using c1)),rfl⟩⟩
 have hV:Hw ⟨n,fs⟩=true:=by simpa using c1
 refine go ?_;refine db (zs:=[.int .i64 0,.slice none 0 0]) (pl:=[(0,1),(1,1)]) (pv:=[(0,_)]) (cs:=[_,.slice none 0 0]) ?_;refine aL [.int .i64 0,.slice none 0 0] λb3 w5 e3 x5 H=>?_;have g3:=r.ge e3;have n3_1:=J.ltb e3;have n3_2:=z.ltb e3;refine FB x5 J z r λJ z r=>Gc H (λw6 x6 xs6 H=>?_);have J:=J.mo x6;have z:=z.mo x6;have r:=r.o1 x6;refine FL 3 1 (hg.ext r).sl ?_;refine F9 (G:=Nat) (λk=>[(1,vg),(2,va),(3,Fg b1 0),(6,Fg b2 0),(8,Fg b3 0),(22,vg),(23,I ↑gone.length),(24,I ↑k)]) (λk w'=>Fp w w'/\Fo w' b1 [I n,vf] 56/\Fo w' b2 [I 0,.slice none 0 0] 56/\Fo w' b3 [I n,.slice none 0 0] 56/\k<=gone.length/\Ls fs (gone.take k)=true) (λk=>gone.length-k) 0 ⟨r,J,z,H,Ab _,rfl⟩ ?_;rintro _ k w7 ⟨r,J,z,H,hk1,hgo⟩;refine Fk (λc2=>?_) λc2=>?_
 ·obtain⟨i,hk⟩:∃i,gone[k]?=some i:=F8;refine FK 3 1 hg.sl (hg.lt hk) ?_;refine dl rfl (((hg.ext r).row hk).at0 rfl) (aL [.int .i64 0] λb4 w8 e4 x8 m4=>?_);have g4:=r.ge e4;have n4_1:=J.ltb e4;have n4_2:=z.ltb e4;have n4_3:=H.ltb e4;refine FP x8 J z H r λJ z H r=>go ?_;refine HG m4 (λw9 x9 xs9 m4=>?_) (hv:=by rfl);have J:=J.mo x9;have z:=z.mo x9;have H:=H.mo x9;have r:=r.o1 x9;refine Gn 1002010051000 λw10 xj=>FV xj J z H m4 r λJ z H m4 r=>?_;refine go ?_;refine dp (H8 (e:=3) (k:=1) Fe (hg.ext r).sl rfl rfl rfl Fb Fb) (Gp (YO ((gone.take k).drop 0) (Hb 1 vg 0 k) i _ ((hg.ext r).slice (Ab _) Fb) (by rw[AX,A7];omega)) λw11 xm=>FV xm J z H m4 r λJ z H m4 r=>?_);refine go ?_;refine Il 34 rfl (λc3=>?_) (λc3=>?_)
  ·refine go ?_;refine GD rfl (go ?_);refine db (zs:=[.int .i64 0,.slice none 0 0]) (pl:=[(0,1),(1,1)]) (pv:=[]) (cs:=[.int .i64 0,.slice none 0 0]) ?_;refine Gc z (λw12 hw xs12 z=>?_);have J:=J.mo hw;have H:=H.mo hw;have m4:=m4.mo hw;have r:=r.o1 hw;refine go ?_;refine It (u:=?v21) rfl rfl rfl rfl Fe rfl z.row ?h21 ?k21
   case h21=>conv=>lhs;whnf
   exact⟨_,rfl,r,.inl ⟨QM (.inr (.inl (X2o hk (by simpa using c3)))),rfl⟩⟩
  refine go ?_;refine dp (Pc rfl) (cP (X7v fs vf 173 [Fg b4 0] (λf=>decide (f.id=i)) _ (hf.ext r) Fb Fe (λw2 x2 x _=>Yaz x i _ w2 (m4.ext x2))) RX.ext λw13 xn=>FP xn J z H r λJ z H r=>?_);refine FZ (λc4=>?_) λc4=>?_
  ·refine go ?_;refine db (zs:=[.int .i64 0,.slice none 0 0]) (pl:=[(0,1),(1,1)]) (pv:=[]) (cs:=[.int .i64 0,.slice none 0 0]) ?_;refine Gc z (λw14 h7 xs14 z=>?_);have J:=J.mo h7;have H:=H.mo h7;have r:=r.o1 h7;refine go ?_;refine It (u:=?v27) rfl rfl rfl rfl Fe rfl z.row ?h27 ?k27
   case h27=>conv=>lhs;whnf
   exact⟨_,rfl,r,.inl ⟨QM (.inr (.inl (Xyn hk (by simpa using c4)))),rfl⟩⟩
  refine go ?_;exact FJ (k+1) ⟨r,J,z,H,by omega,Xyo hk hgo (by simpa using c3) (by simpa using c4)⟩
 rw[Ar Fb]at hgo;refine FL 62 5 (hf.ext r).sl ?_;refine F9 (G:=Nat×Value) (λ(k,vb)=>[(1,vg),(2,va),(6,Fg b2 0),(8,Fg b3 0),(44,vf),(45,I ↑fs.length),(46,I ↑k)]) (λ(k,vb) w'=>Fp w w'/\Fo w' b1 [I n,vf] 56/\Fo w' b2 [I 0,.slice none 0 0] 56/\k<=fs.length/\Fo w' b3 [I n,vb] 56/\Vc.Own Fi.cs 5 62 w.heap.size w' vb (IR (fs.take k) gone)) (λ(k,vb)=>fs.length-k) (0,.slice none 0 0) ⟨r,J,z,Ab _,H,Vc.Own.nil⟩ ?_;rintro _ ⟨k,vb⟩ w15 ⟨r,J,z,hk1,H,ho⟩;refine Fk (λc5=>?_) λc5=>?_
 ·obtain⟨f,hk⟩:∃f,fs[k]?=some f:=F8;have O:=SL fs gone k;refine FK 62 5 hf.sl (hf.lt hk) ?_;refine dq (Fy Fe rfl rfl ((hf.ext r).row hk)) (aL [.int .i64 0,.int .i64 0,.int .i64 0,S [],S []] λb5 w16 e5 xi m5=>?_);have g5:=r.ge e5;have n5_1:=J.ltb e5;have n5_2:=z.ltb e5;have n5_3:=H.ltb e5;have h9:=ho.ltb e5;refine FV xi J z H ho r λJ z H ho r=>Gc m5 (λw17 Z xs17 m5=>?_);have J:=J.mo Z;have z:=z.mo Z;have H:=H.mo Z;have ho:=ho.mod Z Fw;have r:=r.o1 Z;refine Gp (YO gone vg f.id _ (hg.ext r) Fb) λw18 xq=>H3 xq J z H ho m5 r λJ z H ho m5 r=>?_;refine FZ (λc6=>?_) λc6=>?_
  ·refine go ?_;refine dq (Fy (k:=5) Fe rfl rfl m5.row) (lA 62 rfl λb6 w19 e6 xg m6=>?_);have g6:=r.ge e6;have n6_1:=J.ltb e6;have n6_2:=z.ltb e6;have n6_3:=H.ltb e6;have n6_5:=m5.ltb e6;have o6_ho:=ho.ltb e6;refine H3 xg J z H ho m5 r λJ z H ho m5 r=>G1 f ho m6 λvp w20 hc hj=>?_;have J:=J.mod hj Fw;have z:=z.mod hj Fw;have H:=H.mod hj Fw;have m5:=m5.mod hj (by intro h;have h1:=h9 _ h;omega);have r:=r.own hj F4;have ho:=hc;have h5:∀k,vp.ownBlock=some k->¬ Fu b3 k:=λk hk e=>ho.ne_blk H rfl (hk.trans (congrArg some e));clear m6;refine go ?_;refine HG H (λw21 hz xs21 H=>?_) (hv:=by exact Fv.one ho.sl);have J:=J.mo hz;have z:=z.mo hz;have ho:=ho.mod hz Fw;have r:=r.o1 hz;refine go ?_;rw[show IR (fs.take k) gone++[f]=IR (fs.take (k+1)) gone by rw[Uw hk,if_neg (by simpa using c6)]]at ho;exact⟨(k+1,vp),GY,⟨r,J,z,by omega,H,ho⟩,by simp only [];omega⟩
  refine go ?_;rw[show IR (fs.take k) gone=IR (fs.take (k+1)) gone by rw[Uw hk,if_pos (by simpa using c6)]]at ho;exact⟨(k+1,vb),GY,⟨r,J,z,by omega,H,ho⟩,by simp only [];omega⟩
 rw[Ar Fb]at ho;refine FL 62 5 (ha.ext r).sl ?_;refine F9 (G:=Nat×Value) (λ(j,vb)=>[(6,Fg b2 0),(8,Fg b3 0),(62,va),(63,I ↑add.length),(64,I ↑j)]) (λ(j,vb) w'=>Fp w w'/\Fo w' b1 [I n,vf] 56/\Fo w' b2 [I 0,.slice none 0 0] 56/\j<=add.length/\(∀f∈add.take j,f.id<=1099511627776)/\Fo w' b3 [I (Im n (add.take j)),vb] 56/\Vc.Own Fi.cs 5 62 w.heap.size w' vb (IR fs gone++add.take j)) (λ(j,vb)=>add.length-j) (0,vb) ⟨r,J,z,Ab _,(λf hf=>by cases hf),H,by simpa using ho⟩ ?_;rintro _ ⟨j,vb⟩ w22 ⟨r,J,z,hj1,hA,H,ho⟩;refine Fk (λc7=>?_) λc7=>?_
 ·obtain⟨f,hk⟩:∃f,add[j]?=some f:=F8;have O:=SL fs gone fs.length;rw[AV]at O;have xo:=had f (Ag hk);unfold Fx at xo;have h5:∀k,vb.ownBlock=some k->¬ Fu b3 k:=λk hk e=>ho.ne_blk H rfl (hk.trans (congrArg some e));refine FK 62 5 ha.sl (ha.lt hk) ?_;refine dq (Fy Fe rfl rfl ((ha.ext r).row hk)) (aL [.int .i64 0,.int .i64 0,.int .i64 0,S [],S []] λb7 w23 e7 xh Y=>?_);have g7:=r.ge e7;have n7_1:=J.ltb e7;have n7_2:=z.ltb e7;have n7_3:=H.ltb e7;have h8:=ho.ltb e7;refine FV xh J z H ho r λJ z H ho r=>Gc Y (λw24 hl xs24 Y=>?_);have J:=J.mo hl;have z:=z.mo hl;have H:=H.mo hl;have ho:=ho.mod hl Fw;have r:=r.o1 hl;refine Fk (λc8=>?_) λc8=>?_
  ·refine go ?_;refine db (zs:=[.int .i64 0,.slice none 0 0]) (pl:=[(0,1),(1,1)]) (pv:=[]) (cs:=[.int .i64 0,.slice none 0 0]) ?_;refine Gc z (λw25 hp xs25 z=>?_);have J:=J.mo hp;have H:=H.mo hp;have ho:=ho.mod hp Fw;have Y:=Y.mo hp;have r:=r.o1 hp;refine go ?_;refine It (u:=?v43) rfl rfl rfl rfl Fe rfl z.row ?h43 ?k43
   case h43=>conv=>lhs;whnf
   exact⟨_,rfl,r,.inl ⟨QM (.inr (.inr ⟨f,Ag hk,by omega⟩)),rfl⟩⟩
  refine go ?_;refine dp (Sr rfl rfl) (go ?_);refine HG H (λw26 hr xs26 H=>?_) (hv:=by rfl);have J:=J.mo hr;have z:=z.mo hr;have ho:=ho.mod hr Fw;have Y:=Y.mo hr;have r:=r.o1 hr;refine go ?_;refine dq (Fy (k:=5) Fe rfl rfl Y.row) (lA 62 rfl λb8 w27 e8 xl m8=>?_);have g8:=r.ge e8;have n8_1:=J.ltb e8;have n8_2:=z.ltb e8;have n8_3:=H.ltb e8;have n8_7:=Y.ltb e8;have o8_ho:=ho.ltb e8;refine H3 xl J z H ho Y r λJ z H ho Y r=>G1 f ho m8 λvp w28 hc hh=>?_;have J:=J.mod hh Fw;have z:=z.mod hh Fw;have H:=H.mod hh Fw;have Y:=Y.mod hh (by intro h;have h1:=h8 _ h;omega);have r:=r.own hh F4;have ho:=hc;have h5:∀k,vp.ownBlock=some k->¬ Fu b3 k:=λk hk e=>ho.ne_blk H rfl (hk.trans (congrArg some e));clear m8;refine go ?_;refine HG H (λw29 hy xs29 H=>?_) (hv:=by exact Fv.one ho.sl);have J:=J.mo hy;have z:=z.mo hy;have ho:=ho.mod hy Fw;have r:=r.o1 hy;refine go ?_;rw[<-Xyp hk]at H;rw[A3,<-GQ hk]at ho;exact FJ (j+1,vp) ⟨r,J,z,by omega,λq hq=>(by rw[GQ hk]at hq;rcases Ak.1 hq with h|h;exact hA q h;rw[Af.1 h];omega),H,ho⟩
 have hne2:∀k,vb.ownBlock=some k->¬ Fu b2 k:=λk hk e=>ho.ne_blk z rfl (hk.trans (congrArg some e));have O:=SL fs gone fs.length;rw[AV]at O;rw[Ar Fb]at ho H hA;refine Gw (Ybo _ vb w.heap.size 175 HK _ ho (by simp;omega) Fe (λw2 x y=>Sc x y w2) Yc8) λu30 w30 xa xd=>?_;have hsz30:=r.size;have z:=z.mod xa Fw;have H:=H.mod xa Fw;have r:=r.own xa F4;obtain⟨rfl,l2,ho,ht,xe⟩:=xd;have xc:=ht.length_eq;rw[Ad]at xc;refine go ?_;refine dq (Fy (k:=2) Fe rfl rfl H.row) (cP (Qp (Im n add) l2 vb _ (ho.arr Ff) Fb (λf xk=>(Ak.1 (ht.mem_iff.1 xk)).elim (λh=>hid f (Av.1 h).1) (had f))) RX.all λw31 xp=>FP xp z H ho r λz H ho r=>?_);refine FZ (λc9=>?_) λc9=>?_
 ·refine go ?_;refine db (zs:=[.int .i64 0,.slice none 0 0]) (pl:=[(0,1),(1,1)]) (pv:=[]) (cs:=[.int .i64 0,.slice none 0 0]) ?_;refine Gc z (λw32 xb xs32 z=>?_);have H:=H.mo xb;have ho:=ho.mod xb Fw;have r:=r.o1 xb;refine go ?_;refine It (u:=?v52) rfl rfl rfl rfl Fe rfl z.row ?h52 ?k52
  case h52=>conv=>lhs;whnf
  exact⟨_,rfl,r,.inr ⟨RF hV hgo hA,l2,ht,xe,.inl ⟨by simpa using c9,rfl⟩⟩⟩
 refine go ?_;refine dq (Fy (k:=2) Fe rfl rfl H.row) (Gc z (λw33 xf xs33 z=>?_) (h1:=by(intro u hu;rcases Ah.1 hu with e|hu;subst e;rfl;rw[Af.1 hu];exact ho.sl.one)));have ho:=ho.mod xf Fw;have r:=r.o1 xf;refine go ?_;refine It (u:=?v55) rfl rfl rfl rfl Fe rfl z.row ?h55 ?k55
 case h55=>conv=>lhs;whnf
 exact⟨_,rfl,r,.inr ⟨RF hV hgo hA,l2,ht,xe,.inr ⟨by simpa using c9,vb,rfl,ho⟩⟩⟩
end Go.Proofs.YtiooodckiddpmaaGreatDoor
namespace Go.Sp
open Go.Vc (Fh)
def Jx (l:List Cell):Prop:=∀c∈l,∀d∈l,c.key=d.key->c.seq=d.seq->c=d
def Ju (l:List Cell)(c:Cell):Prop:=c∈l/\∀d∈l,d.key=c.key->d.seq<=c.seq
theorem QS (k:Fh):∀l:List Cell,(∀c∈l,c.key≠k)\/∃c,Ju l c/\c.key=k
 | []=>.inl λc z=>by cases z
 | a :: r=>by
  by_cases e:a.key=k
  ·right;rcases QS k r with h|⟨c,h,hk⟩
   ·refine⟨a,⟨Ai,λd hd he=>?_⟩,e⟩;rcases Ah.1 hd with rfl|hd
    ·exact BV _
    ·exact absurd (he.trans e) (h d hd)
   ·by_cases hs:a.seq<=c.seq
    ·refine⟨c,⟨Ao _ h.1,λd hd he=>?_⟩,hk⟩;rcases Ah.1 hd with rfl|hd
     ·exact hs
     ·exact h.2 d hd he
    ·refine⟨a,⟨Ai,λd hd he=>?_⟩,e⟩;rcases Ah.1 hd with rfl|hd
     ·exact BV _
     ·have:=h.2 d hd (he.trans (e.trans hk.symm));omega
  ·rcases QS k r with h|⟨c,h,hk⟩
   ·left;intro c z;rcases Ah.1 z with rfl|z
    ·exact e
    ·exact h c z
   ·right;refine⟨c,⟨Ao _ h.1,λd hd he=>?_⟩,hk⟩;rcases Ah.1 hd with rfl|hd
    ·exact absurd (he.trans hk) e
    ·exact h.2 d hd he
theorem Ws {α:Type}{lt:α->α->Bool}(hi:∀x,lt x x=false)(ha:∀x y,lt x y=true->lt y x=false):∀l m:List α,(l.Pairwise λx y=>lt x y=true)->(m.Pairwise λx y=>lt x y=true)->(∀x,x∈l↔x∈m)->l=m
 | [],[],_,_,_=>rfl
 | [],b :: m,_,_,h=>by have:=(h b).2 Ai;cases this
 | a :: l,[],_,_,h=>by have:=(h a).1 Ai;cases this
 | a :: l,b :: m,hl,hm,h=>by
  rw[AI]at hl hm;have e:a=b:=by
   rcases Ah.1 ((h a).1 Ai)with e|h1
   ·exact e
   ·rcases Ah.1 ((h b).2 Ai)with e|h2
    ·exact e.symm
    ·have:=ha _ _ (hm.1 a h1);rw[hl.1 b h2]at this;cases this
  subst e
  congr 1
  refine Ws hi ha l m hl.2 hm.2 λx=>⟨λr=>?_,λr=>?_⟩
  ·rcases Ah.1 ((h x).1 (Ao _ r))with rfl|h1
   ·have:=hl.1 x r;rw[hi]at this;cases this
   ·exact h1
  ·rcases Ah.1 ((h x).2 (Ao _ r))with rfl|h1
   ·have:=hm.1 x r;rw[hi]at this;cases this
   ·exact h1
def KH (a b:Cell):Bool:=decide (a.key=b.key)
def Mg (l m:List Cell):Prop:=∃l':List Cell,l'.Perm l/\Up less l'/\m=JY KH l'
theorem X2q {x p:Cell}(h:less x p=false)(hk:¬ x.key=p.key):F0 p.key x.key=true:=by
 rcases K5 x.key p.key with e|e|e
 ·exact absurd e hk
 ·have:less x p=true:=(J6 x p).2 (.inl e);rw[this]at h;cases h
 ·exact e
theorem Vq {x p:Cell}(h:less x p=false)(hk:x.key=p.key):x.seq<=p.seq:=by
 refine Int.not_lt.1 λr=>?_;have:less x p=true:=(J6 x p).2 (.inr ⟨hk,r⟩);rw[this]at h;cases h
theorem V0 : ∀(r:List Cell) (p:Cell),Up less (p :: r)->Jx (p :: r)->(Jp (JP KH p r)/\(∀c∈JP KH p r,F0 p.key c.key=true))/\∀c,c∈JP KH p r↔(c.key≠p.key/\Ju r c)
 | [],p,_,_=>⟨⟨Bq,λc z=>(by cases z)⟩,λc=>⟨λz=>(by cases z),λz=>(by cases z.2.1)⟩⟩
 | x :: r,p,hu,hq=>by
  have O:Up less (x :: r):=(AI.1 hu).2;have ha:=(AI.1 hu).1 x Ai;obtain⟨⟨i1,Z⟩,i3⟩:=V0 r x O (λc z d hd=>hq c (Ao _ z) d (Ao _ hd));have H:∀c:Cell,c.key≠x.key->(Ju (x :: r) c↔Ju r c):=λc z=>by
   constructor
   ·rintro ⟨h1,h2⟩;rcases Ah.1 h1 with rfl|h1
    ·exact absurd rfl z
    ·exact⟨h1,λd hd=>h2 d (Ao _ hd)⟩
   ·rintro ⟨h1,h2⟩;refine⟨Ao _ h1,λd hd he=>?_⟩;rcases Ah.1 hd with rfl|hd
    ·exact absurd he.symm z
    ·exact h2 d hd he
  unfold JP
  by_cases e:x.key=p.key
  ·rw[if_pos (show KH x p=true by simpa [KH]using e)];refine⟨⟨i1,λc z=>e▸Z c z⟩,λc=>?_⟩;rw[i3 c,<-e]
   constructor
   ·rintro ⟨h1,h2⟩;exact⟨h1,(H c h1).2 h2⟩
   ·rintro ⟨h1,h2⟩;exact⟨h1,(H c h1).1 h2⟩
  ·rw[if_neg (show¬ KH x p=true by simpa [KH]using e)];have J:=X2q ha e;refine⟨⟨AI.2 ⟨Z,i1⟩,λc z=>?_⟩,λc=>?_⟩
   ·rcases Ah.1 z with rfl|z
    ·exact J
    ·exact J9 _ _ _ J (Z c z)
   ·have Y:Ju (x :: r) x:=⟨Ai,λd hd he=>by
     rcases Ah.1 hd with rfl|hd
     ·exact BV _
     ·exact Vq ((AI.1 O).1 d hd) he⟩
    constructor
    ·intro z;rcases Ah.1 z with rfl|z
     ·exact⟨e,Y⟩
     ·have h1:=(i3 c).1 z;exact⟨λe2=>(by have:=J9 _ _ _ J (Z c z);rw[e2,IC]at this;cases this),(H c h1.1).2 h1.2⟩
    ·rintro ⟨h1,h2⟩
     by_cases e2:c.key=x.key
     ·have:c=x:=hq c (Ao _ h2.1) x (Ao _ Ai) e2 (by
       have g1:=h2.2 x Ai e2.symm;have g2:=Y.2 c h2.1 e2;omega)
      rw[this];exact Ai
     ·exact Ao _ ((i3 c).2 ⟨e2,(H c e2).1 h2⟩)
variable {l m:List Cell}
theorem QC (hq:Jx l)(h:Mg l m):Jp m/\∀c,c∈m↔Ju l c:=by
 obtain⟨l',H,hu,rfl⟩:=h;have Z:∀c,Ju l c↔Ju l' c:=λc=>by
  unfold Ju
  constructor
  ·rintro ⟨h1,h2⟩;exact⟨H.mem_iff.2 h1,λd hd=>h2 d (H.mem_iff.1 hd)⟩
  ·rintro ⟨h1,h2⟩;exact⟨H.mem_iff.1 h1,λd hd=>h2 d (H.mem_iff.2 hd)⟩
 have O:Jx l':=λc z d hd=>hq c (H.mem_iff.1 z) d (H.mem_iff.1 hd)
 suffices hs:Jp (JY KH l')/\∀c,c∈JY KH l'↔Ju l' c from⟨hs.1,λc=>(hs.2 c).trans (Z c).symm⟩
 clear Z H hq
 cases l' with
 | nil=>exact⟨Bq,λc=>⟨λz=>(by cases z),λz=>(by cases z.1)⟩⟩
 | cons x r=>
  obtain⟨⟨i1,i2⟩,Y⟩:=V0 r x hu O;refine⟨AI.2 ⟨i2,i1⟩,λc=>?_⟩;have J:Ju (x :: r) x:=⟨Ai,λd hd he=>by
   rcases Ah.1 hd with rfl|hd
   ·exact BV _
   ·exact Vq ((AI.1 hu).1 d hd) he⟩
  unfold JY
  constructor
  ·intro z;rcases Ah.1 z with rfl|z
   ·exact J
   ·have h1:=(Y c).1 z;refine⟨Ao _ h1.2.1,λd hd he=>?_⟩;rcases Ah.1 hd with rfl|hd
    ·exact absurd he.symm h1.1
    ·exact h1.2.2 d hd he
  ·intro h2
   by_cases e2:c.key=x.key
   ·have:c=x:=O c h2.1 x Ai e2 (by
     have g1:=h2.2 x Ai e2.symm;have g2:=J.2 c h2.1 e2;omega)
    rw[this];exact Ai
   ·refine Ao _ ((Y c).2 ⟨e2,?_⟩);rcases Ah.1 h2.1 with rfl|h1
    ·exact absurd rfl e2
    ·exact⟨h1,λd hd=>h2.2 d (Ao _ hd)⟩
def Told (l:List Cell)(M:List Rw):Prop:=(M.Pairwise λa b=>F0 a.key b.key=true)/\∀r,r∈M↔∃c,Ju l c/\c.del=false/\r=⟨c.key,c.val,false⟩
variable {M:List Rw}
theorem X76 {M':List Rw}(h:Told l M)(h':Told l M'):M=M':=
 Ws (lt:=λa b:Rw=>F0 a.key b.key) (λx=>IC _) (λx y=>KR) M M' h.1 h'.1 λr=>(h.2 r).trans (h'.2 r).symm
def Iy (m:List Cell):List Rw:=(m.filter λc=>!c.del).map λc=>⟨c.key,c.val,false⟩
theorem X77 (hq:Jx l)(h:Mg l m):Told l (Iy m):=by
 obtain⟨h1,h2⟩:=QC hq h;refine⟨?_,λr=>?_⟩
 ·unfold Iy;rw[List.pairwise_map];exact EZ (λh=>h) (Cu _ h1)
 ·unfold Iy;simp only [Ay,Av,BI]
  constructor
  ·rintro ⟨c,⟨hc,hd⟩,rfl⟩;exact⟨c,(h2 c).1 hc,hd,rfl⟩
  ·rintro ⟨c,hc,hd,rfl⟩;exact⟨c,⟨(h2 c).2 hc,hd⟩,rfl⟩
variable {l':List Cell}
theorem PG (h:Told l M)(hs:∀c∈l',c∈l)(hk:∀c,Ju l c->c∈l'\/(c.del=true/\∀d∈l',d.key≠c.key)):Told l' M:=by
 refine⟨h.1,λr=>?_⟩;rw[h.2 r]
 constructor
 ·rintro ⟨c,hc,hd,rfl⟩;rcases hk c hc with h1|⟨h1,_⟩
  ·exact⟨c,⟨h1,λd hd he=>hc.2 d (hs d hd) he⟩,hd,rfl⟩
  ·rw[h1]at hd;cases hd
 ·rintro ⟨c,hc,hd,rfl⟩;rcases QS c.key l with h1|⟨t,ht,htk⟩
  ·exact absurd rfl (h1 c (hs c hc.1))
  ·rcases hk t ht with h2|⟨_,h2⟩
   ·refine⟨c,⟨hs c hc.1,λd hd he=>?_⟩,hd,rfl⟩;have g1:=ht.2 d hd (he.trans htk.symm);have g2:=hc.2 t h2 htk;omega
   ·exact absurd htk.symm (h2 c hc.1)
def Ip (M:List Rw)(c:Cell):List Rw:=(M.filter λr=>F0 r.key c.key)++((if c.del then[]else[⟨c.key,c.val,false⟩])++M.filter λr=>F0 c.key r.key)
theorem Xyq {c:Cell}(h:Told l M)(hn:∀d∈l,d.key=c.key->d.seq<c.seq):Told (c :: l) (Ip M c):=by
 have H:∀d:Cell,Ju (c :: l) d↔(d=c\/(d.key≠c.key/\Ju l d)):=λd=>by
  constructor
  ·rintro ⟨h1,h2⟩;rcases Ah.1 h1 with rfl|h1
   ·exact .inl rfl
   ·refine .inr ⟨λe=>?_,h1,λx z=>h2 x (Ao _ z)⟩;have g1:=h2 c Ai e.symm;have g2:=hn d h1 e;omega
  ·rintro (rfl|⟨h1,h2⟩)
   ·refine⟨Ai,λx z he=>?_⟩;rcases Ah.1 z with rfl|z
    ·exact BV _
    ·have:=hn x z he;omega
   ·refine⟨Ao _ h2.1,λx z he=>?_⟩;rcases Ah.1 z with rfl|z
    ·exact absurd he.symm h1
    ·exact h2.2 x z he
 refine⟨?_,λr=>?_⟩
 ·unfold Ip;refine Bj.2 ⟨Cu _ h.1,Bj.2 ⟨?_,Cu _ h.1,λx z y J=>?_⟩,λx z y J=>?_⟩
  ·split
   ·exact Bq
   ·exact Da _ _
  ·split at z
   ·cases z
   ·rw[Af.1 z];exact(Av.1 J).2
  ·have O:=(Av.1 z).2;rcases Ak.1 J with J|J
   ·split at J
    ·cases J
    ·rw[Af.1 J];exact O
   ·exact J9 _ _ _ O (Av.1 J).2
 ·have Y:r∈Ip M c↔((r∈M/\r.key≠c.key)\/(c.del=false/\r=⟨c.key,c.val,false⟩)):=by
   unfold Ip;simp only [Ak,Av]
   constructor
   ·rintro (⟨h1,h2⟩|h1|⟨h1,h2⟩)
    ·exact .inl ⟨h1,MZ h2⟩
    ·split at h1
     ·cases h1
     ·rename_i Z;exact .inr ⟨by simpa using Z,Af.1 h1⟩
    ·exact .inl ⟨h1,(MZ h2).symm⟩
   ·rintro (⟨h1,h2⟩|⟨h1,rfl⟩)
    ·rcases K5 r.key c.key with e|e|e
     ·exact absurd e h2
     ·exact .inl ⟨h1,e⟩
     ·exact .inr (.inr ⟨h1,e⟩)
    ·right;left;rw[if_neg (by rw[h1];decide)];exact Af.2 rfl
  rw[Y,h.2 r]
  constructor
  ·rintro (⟨⟨d,hd,h1,rfl⟩,h2⟩|⟨h1,rfl⟩)
   ·exact⟨d,(H d).2 (.inr ⟨h2,hd⟩),h1,rfl⟩
   ·exact⟨c,(H c).2 (.inl rfl),h1,rfl⟩
  ·rintro ⟨d,hd,h1,rfl⟩;rcases(H d).1 hd with rfl|⟨h2,h3⟩
   ·exact .inr ⟨h1,rfl⟩
   ·exact .inl ⟨⟨d,h3,h1,rfl⟩,h2⟩
theorem Xlh (h:Told l M)(he:∀c,c∈l↔c∈l'):Told l' M:=
 PG h (λc r=>(he c).2 r) λc r=>.inl ((he c).1 r.1)
theorem X5 : ∀(cs:List Cell) {l:List Cell} {M:List Rw},Told l M->Jp cs->(∀d∈l,∀c∈cs,d.key=c.key->d.seq<c.seq)->Told (cs++l) (cs.foldl Ip M)
 | [],l,M,h,_,_=>h
 | c :: cs,l,M,h,hk,hn=>by
  rw[Jp,AI]at hk;have h1:=Xyq (c:=c) h (λd hd=>hn d hd c Ai);have h2:=X5 cs h1 hk.2 λd hd x r he=>by
   rcases Ah.1 hd with rfl|hd
   ·have:=hk.1 x r;rw[he,IC]at this;cases this
   ·exact hn d hd x (Ao _ r) he
  refine Xlh h2 λx=>?_;simp only [Ak,Ah]
  constructor
  ·rintro (h|h|h)
   ·exact .inl (.inr h)
   ·exact .inl (.inl h)
   ·exact .inr h
  ·rintro ((h|h)|h)
   ·exact .inr (.inl h)
   ·exact .inl h
   ·exact .inr (.inr h)
theorem X2r (hq:Jx l)(h:Told l M){key:Fh}{o:Option Cell}(ho:match o with|some c=>Ju l c/\c.key=key|none=>∀c∈l,c.key≠key):
  match M.find? (λr=>decide (r.key=key))with|some r=>∃c,o=some c/\c.del=false/\c.val=r.val|none=>∀c,o=some c->c.del=true:=by
 have H:∀r,r∈M->r.key=key->∃c,o=some c/\c.del=false/\c.val=r.val:=λr J hk=>by
  obtain⟨c,z,hd,rfl⟩:=(h.2 r).1 J
  cases o with
  | none=>exact absurd hk (ho c z.1)
  | some d=>
   have:c=d:=hq c z.1 d ho.1.1 (hk.trans ho.2.symm) (by
    have g1:=z.2 d ho.1.1 (ho.2.trans hk.symm);have g2:=ho.1.2 c z.1 (hk.trans ho.2.symm);omega)
   subst this;exact⟨c,rfl,hd,rfl⟩
 cases hf:M.find? (λr=>decide (r.key=key))with
 | some r=>exact H r (List.mem_of_find?_eq_some hf) (by simpa using Cp hf)
 | none=>
  intro c z
  cases hd:c.del with
  | true=>rfl
  | false=>
   subst z;have:(⟨c.key,c.val,false⟩:Rw)∈M:=(h.2 _).2 ⟨c,ho.1,hd,rfl⟩;have h2:=C3.1 hf _ this;simp [ho.2]at h2
end Go.Sp
namespace Go.Vc
open Go.RowKit
section
variable {α:Type}{enc:α->List Value}{sz T B:Nat}{w:World}
variable {P:Program}{n:Nat}{E:FE}{ds:List (Option Tmp)}{R:World->World->Prop}{rs:List (Oper×Fl×Bool)}{K:FE->World->Prop}{d:Nat}{pos:String}{af:Array Edge}{g:Option (Nat×Bool)}{anc:Bool}{ty:TypeId}
theorem Xyr {s x:Operand}{t ti e by' m:Nat}(henc:∀x,(enc x).length=sz)(hg:FT ds E g=true)(ht:IH P t=some (e,sz))(hE:Mx P e sz by'=true)(hti:HU P ti=some .i64)
  (hs:ev E s=.slice none 0 0) (hx:ev E x=I ↑m) (hm:0<m) (hbytes:m*by'<=140737488355328) (hby:1<=by') (hB:B<=w.heap.size) (hR:RX R anc)
  (h:∀v' w',Fv v' m->Own enc sz e B w' (Hb sz v' 0 0) []->Fp w w'->Dw P n ds R rs K (FR E d v') w') :
  Dw P n ds R ((⟨some d,.call { callee:=.builtin .append,args:=#[s,x],argTypes:=#[t,ti] },ty,pos,af,g⟩,.x,anc) :: rs) K E w:=by
 obtain⟨hu,_⟩:=KX ht;obtain⟨i,z,hi,hz,H,r,hj,hp⟩:=Pm hE;have Y:P.underlying ti=some (.int .i64):=by
  unfold HU at hti;split at hti
  ·rename_i k hk;cases hti;exact hk
  ·cases hti
 have hml:m<=140737488355328:=by have:=Nat.mul_le_mul_left m hby;omega
 have hq:IntKind.i64.wrap (m:Int)=m:=KU (by unfold Fx;omega);have h0:¬ ((m:Int)<0):=by omega
 have J:¬ (281474976710656<(m:Int)*(i.bytes:Int)):=by
  rw[r];have:((m*by':Nat):Int)<=140737488355328:=by omega
  rw[Int.natCast_mul]at this;omega
 have hn:m≠0:=by omega
 have hh:¬ (9223372036854775807<(m:Int)):=by omega
 have hf:¬ (281474976710656<Builtin.nextslicecap m 0*i.bytes):=by rw[nextslicecap_zero hm,r];omega
 have hl:¬ m*i.size=0:=by rw[H];exact Nat.ne_of_gt (Nat.mul_pos hm hp)
 have O:¬ i.size=0:=by omega
 have hc:grownCap w m 0 e<=maxLen:=grownCap_le_maxLen w m 0 e (by unfold maxLen;omega);have ha:=grownCap_ge w m 0 e;have hr:(Builtin.append_ #[t,ti] ty #[.slice none 0 0,I ↑m]).run P w=.ok (.slice (some ⟨w.heap.size,0,none⟩) m (grownCap w m 0 e)) (w.drew.alloc (.cells (Builtin.zeroCells z.cells m++Builtin.zeroCells z.cells (grownCap w m 0 e-m)) e)):=by
  simp [Builtin.append_,run_underlying hu,run_underlying Y,sizeOf,typeInfo,zeroValue,hi,hz,hn,hh,hf,Question.forced,run_firstCells_none,newRow,grownCap,asInt,asIntOf,hq,h0,J,hl,O]
 have Z:Fp w (w.drew.alloc (.cells (Builtin.zeroCells z.cells m++Builtin.zeroCells z.cells (grownCap w m 0 e-m)) e)):=Fp.trans (Fp.drew _) (Fp.alloc _ _);refine I1 (v:=.slice (some ⟨w.heap.size,0,none⟩) m (grownCap w m 0 e)) (w':=_) hg ?_ (hR.use Z) (h _ _ (.inr (.inl ⟨_,_,_,rfl,ha⟩)) ?_ Z)
 ·simp only [execOp,resolve,invoke,builtin,Sem.run_bind,Sem.run_pure,Result.andThen_ok,List.map_toArray,Am,Bf,hs,hx,hr]
 ·refine⟨by simp,.inr ⟨w.heap.size,grownCap w m 0 e,Builtin.zeroCells z.cells m++Builtin.zeroCells z.cells (grownCap w m 0 e-m),?_,hB,?_,Ab _,hc,?_,by simp⟩⟩
  ·simp [Hb,Addr.add]
  ·exact heap_alloc_new w.drew _
  ·simp only [Array.size_append,size_zeroCells,hj,<-Nat.add_mul]
   congr 1;omega
end
end Go.Vc
namespace Go.Proofs.YtiooodckiddpmaaGreatDoor
open Go.Vc Go.Sp
attribute [local irreducible] W XW Dw G9
def JH (a b:Cell):Int:=if less a b=true then -1 else if less b a=true then 1 else 0
theorem Xp : FX JH=less:=by
 funext a b
 unfold FX JH
 cases h:less a b with
 | true=>simp
 | false=>
  cases h2:less b a with
  | true=>simp
  | false=>simp
theorem X2s : Ord less:=⟨λx y z h1 h2=>(by
 cases h:less z x with
 | false=>rfl
 | true=>
  cases h3:less x y with
  | true=>rw[Om h h3]at h2;cases h2
  | false=>
   have r:=RA h1 h3;have:=J6 z x;rw[h]at this;have h4:less z y=true:=(J6 z y).2 (by
    rcases this.1 rfl with e|⟨e1,e2⟩
    ·exact .inl (by rw[r.1];exact e)
    ·exact .inr ⟨e1.trans r.1.symm,by omega⟩)
   rw[h4]at h2;cases h2),λx y h=>Xts h⟩
theorem X78 : Ord (FX JH):=Xp▸X2s
@[reducible] def KO (q:Value×List Cell):List Value:=[q.1]
variable {k:Nat}
theorem Xw {qs:List (Value×List Cell)}{q:Value×List Cell}(h:qs[k]?=some q):(qs.take (k+1)).flatMap (·.2)=(qs.take k).flatMap (·.2)++q.2:=by
 obtain⟨hk,rfl⟩:=Ap.1 h;rw[List.take_succ_eq_append_getElem hk,Bb];simp
theorem SG (qs:List (Value×List Cell))(k:Nat):((qs.take k).flatMap (·.2)).length<=(qs.flatMap (·.2)).length:=by
 have h:=congrArg (λm=>(m.flatMap (·.2)).length) (AS k qs);simp only [Bb,Ad]at h;omega
variable {l:List Cell}
theorem Vj {cur:List Cell}{i n:Nat}(hc:cur.length=l.length)(he:∀j,n<=j+1->cur[j]?=l[j]?)(hi:n<=k+i+1):((cur.take l.length).drop k)[i]?=l[k+i]?:=by
 rw[<-hc,AV,List.getElem?_drop,he _ hi]
theorem Yc9 (a b:Cell)(w:World) :
  FW 98 [a.v,b.v] w (I (JH a b)):=by
 refine cE Tryz.func98 λr=>go ?_;refine Gx rfl rfl rfl RX.all (λb1 w1 e1 x1 z=>?_);have g1:=r.ge e1;have r:=r.trans x1;refine Gx rfl rfl rfl RX.all (λb2 w2 e2 x2 H=>?_);have g2:=r.ge e2;have n2_1:=z.ltb e2;refine Fz x2 z r λz r=>go ?_;refine dq (Fy (k:=4) Fe rfl rfl z.row) (dq (Fy (k:=4) Fe rfl rfl H.row) (cP (Oc a b _) RX.all λw3 Y=>FB Y z H r λz H r=>?_));refine FZ (λJ=>?_) λJ=>?_
 ·refine go ?_;refine⟨?_,r⟩;unfold JH;rw[if_pos J]
 refine go ?_;refine dq (Fy (k:=4) Fe rfl rfl H.row) (dq (Fy (k:=4) Fe rfl rfl z.row) (cP (Oc b a _) RX.all λw4 Z=>?_));have r:=r.trans Z;refine FZ (λO=>?_) λO=>?_
 ·refine go ?_;refine⟨?_,r⟩;unfold JH;rw[if_neg (by rw[J];decide),if_pos O]
 refine go ?_;refine⟨?_,r⟩;unfold JH;rw[if_neg (by rw[J];decide),if_neg (by rw[O];decide)]
theorem Yda (a b:Cell)(w:World) :
  FW 101 [a.v,b.v] w (B (KH a b)):=by
 refine cE Tryz.func101 λr=>go ?_;refine Gx rfl rfl rfl RX.all (λb1 w1 e1 J z=>?_);have g1:=r.ge e1;have r:=r.trans J;refine Gx rfl rfl rfl RX.all (λb2 w2 e2 H m2=>?_);have g2:=r.ge e2;have n2_1:=z.ltb e2;refine Fz H z r λz r=>go ?_;refine dp (Kr rfl rfl) (go ?_);exact⟨rfl,r⟩
theorem X79 (n:Nat)(w:World)(hn:n<=10000000) :
  Gf 179 [.slice none 0 0,I ↑n] w λu w'=>Vc.Own Cell.cs 4 79 w.heap.size w' u []:=by
 refine cE Tryz.func179 λr=>?_;refine Fk (λO=>?_) λO=>?_
 ·omega
 refine go ?_;refine dp (Wp (e:=79) (k:=4) Fe rfl) (go ?_);refine dp (Pb (e:=79) (k:=4) (n:=0) Fe (.inl ⟨rfl,rfl⟩) rfl) (F3 (v:=I 0) rfl (Gz (a:=0) (b:=0) rfl rfl (by unfold Fx;omega)) rfl (F3 (v:=I ↑n) rfl (Gz rfl rfl (by unfold Fx;omega)) (by show I _=I _;rfl) ?_));refine Fk (λH=>?_) λH=>?_
 ·refine go ?_;refine dp (Wp (e:=79) (k:=4) Fe rfl) (F3 (v:=.slice none 0 0) rfl (H8 (e:=79) (k:=4) (m:=0) (a:=0) (b:=0) Fe (.inl ⟨rfl,rfl⟩) rfl rfl rfl (Aa 0) (Aa 0)) rfl (go ?_));refine Xyr (enc:=Cell.cs) (sz:=4) (e:=79) (m:=n) (by':=48) (B:=w.heap.size) Ff rfl Fe Fe Fe rfl rfl Fb Fb Fj r.size RX.all (λva w1 z ho J=>?_);have r:=r.trans J;refine go ?_;refine dp (Pb (e:=79) (k:=4) (n:=0) Fe (.inl ⟨rfl,rfl⟩) rfl) (dp (H8 (e:=79) (k:=4) (a:=0) (b:=0) Fe z rfl rfl rfl (Aa 0) (Ab _)) (go ?_));exact⟨_,rfl,r,ho⟩
 refine go ?_;exact⟨_,rfl,r,Vc.Own.nil⟩
theorem Xyu (qs:List (Value×List Cell))(v:Value)(w:World)(hv:Fs KO 1 w v qs)(hq:∀q∈qs,Fs Cell.cs 4 w q.1 q.2)(hl:qs.length<=1000000)(htot:(qs.flatMap (·.2)).length<=10000000) :
  Gf 96 [v] w λu w'=>Vc.Own Cell.cs 4 79 w.heap.size w' u (qs.flatMap (·.2)):=by
 refine cE Tryz.func96 λr=>FL 95 1 (hv.ext r).sl ?_;refine F9 (G:=Nat) (λk=>[(0,v),(2,.slice none 0 0),(3,I ↑((qs.take k).flatMap (·.2)).length),(9,v),(10,I ↑qs.length),(11,I ↑k)]) (λk w'=>Fp w w'/\k<=qs.length) (λk=>qs.length-k) 0 ⟨r,Ab _⟩ ?_;rintro _ k w1 ⟨r,hk1⟩;refine Fk (λc1=>?_) λc1=>?_
 ·obtain⟨q,hk⟩:∃q,qs[k]?=some q:=F8;have J:=hq q (Ag hk);have H:=Xw hk;have ha:=SG qs (k+1);have z:=congrArg A5 H;rw[Ad]at z;refine FK 95 1 hv.sl (hv.lt hk) ?_;refine dl rfl (((hv.ext r).row hk).at0 rfl) (FL 79 4 J.sl ?_);refine F3 (v:=I ↑((qs.take (k+1)).flatMap (·.2)).length) rfl (GJ rfl rfl (by unfold Fx;omega)) (by show I _=I _;congr 1;omega) ?_;refine Fk (λc2=>?_) λc2=>?_
  ·omega
  refine go ?_;exact FJ (k+1) ⟨r,by omega⟩
 refine Ge (X79 ((qs.take k).flatMap (·.2)).length _ (Ae (SG qs k) htot)) λvg w2 x2 Z=>?_;have Y:=r.size;have r:=r.trans x2;have ho:=Z.mono Y;refine FL 95 1 (hv.ext r).sl ?_;refine F9 (G:=Nat×Value) (λ(j,vb)=>[(2,.slice none 0 0),(6,vb),(25,v),(26,I ↑qs.length),(27,I ↑j)]) (λ(j,vb) w'=>Fp w w'/\j<=qs.length/\Vc.Own Cell.cs 4 79 w.heap.size w' vb ((qs.take j).flatMap (·.2))) (λ(j,vb)=>qs.length-j) (0,vg) ⟨r,Ab _,by simpa using ho⟩ ?_;rintro _ ⟨j,vb⟩ w3 ⟨r,hj1,ho⟩;refine Fk (λc3=>?_) λc3=>?_
 ·obtain⟨q,hk⟩:∃q,qs[j]?=some q:=F8;have J:=hq q (Ag hk);have H:=Xw hk;have ha:=SG qs (j+1);have z:=congrArg A5 H;rw[Ad]at z;refine FK 95 1 hv.sl (hv.lt hk) ?_;refine dl rfl (((hv.ext r).row hk).at0 rfl) (go ?_);refine Hf ho (J.ext r) λvp w4 O x4=>?_;have r:=r.own x4 F4;have ho:=O;refine go ?_;rw[<-H]at ho;exact FJ (j+1,vp) ⟨r,by omega,ho⟩
 refine go ?_;rw[Ar Fb]at ho;exact⟨_,rfl,r,ho⟩
theorem X8a (l:List Cell)(v:Value)(Bo f:Nat)(p:Cell->Cell->Bool)(w:World)(ho:Vc.Own Cell.cs 4 79 Bo w v l)(hl:l.length<=10000000)(hcb:Hj Tryz.prog f=true)(hc:∀w2 x y,Calls Tryz.prog f [Cell.v x,Cell.v y].toArray w2 (Pure w2 (B (p x y)))) :
  Gy 100 [v,GZ f] w (λk=>v.ownBlock=some k) λu w'=>Vc.Own Cell.cs 4 79 Bo w' u (JY p l)/\u.ownBlock=v.ownBlock:=by
 refine cM Tryz.func100 (λk=>v.ownBlock=some k) λr=>?_;have J:=ho.sl;refine go ?_;refine dv 79 4 (ho.arr Ff).sl ?_;refine Fk (λc1=>?_) λc1=>?_
 ·refine go ?_;exact⟨_,rfl,r,by rw[Xqm Fb];exact ho,rfl⟩
 refine F9 (G:=Nat) (λk=>[(0,v),(1,GZ f),(5,I ↑k)]) (λk w'=>Mod (λk=>v.ownBlock=some k) w w'/\1<=k/\k<=l.length/\JY p (l.take k)=l.take k/\Vc.Own Cell.cs 4 79 Bo w' v l) (λk=>l.length-k) 1 ⟨r,Aa _,by omega,TR p l,ho⟩ ?_;rintro _ k w1 ⟨r,hk1,hkl,hcn,ho⟩;refine go ?_;refine dv 79 4 (ho.arr Ff).sl ?_;refine Fk (λc2=>?_) λc2=>?_
 ·obtain⟨x,hxk⟩:∃x,l[k]?=some x:=F8;obtain⟨y,hyk⟩:∃x,l[k-1]?=some x:=F8;refine Gn 151000010000 λw2 x2=>Fz x2 ho r λho r=>?_;refine go ?_;refine di 79 4 (ho.arr Ff).sl rfl ((ho.arr Ff).lt hxk) (Gd rfl (λw' hR=>Fy Fe rfl rfl (((ho.arr Ff).ext hR).row hxk)) (gn ?_));refine F3 (v:=I ↑(k-1)) rfl (Gz rfl rfl (by unfold Fx;omega)) (by show I _=I _;congr 1;omega) (di 79 4 (ho.arr Ff).sl rfl ((ho.arr Ff).lt hyk) (Gd rfl (λw' hR=>Fy Fe rfl rfl (((ho.arr Ff).ext hR).row hyk)) (LG (vs:=[x.v,y.v]) rfl rfl hcb (hc _ x y) rfl RX.all (λw3 x3=>Fz x3 ho r λho r=>?_))));refine FZ (λc3=>?_) λc3=>?_
  ·refine go ?_;refine dp (H8 (e:=79) (k:=4) (m:=l.length) (a:=k) (b:=l.length) Fe J rfl rfl rfl Fb Fb) (F9 (G:=Nat×Nat×List Cell) (λ(i,k2,cur)=>[(0,v),(1,GZ f),(5,I ↑k2),(6,Hb 4 v k l.length),(7,I ↑i)]) (λ(i,k2,cur) w'=>Mod (λk=>v.ownBlock=some k) w w'/\1<=i/\KP p l (k+i) k2 cur/\Vc.Own Cell.cs 4 79 Bo w' v cur) (λ(i,k2,cur)=>l.length-(k+i)) (1,k,l) ⟨r,Aa _,Ybf Fb hcn hxk hyk c3,ho⟩ ?_);rintro _ ⟨i,k2,cur⟩ w4 ⟨r,hi1,hr,ho⟩;have Y:=hr.1;have hr2:=hr.2.1;have hr3:=hr.2.2.1;have hlen9:((cur.take l.length).drop k).length=l.length-k:=by rw[AX,A7];omega
   refine go ?_;refine dv 79 4 ((ho.arr Ff).slice (lo:=k) (hi:=l.length) Fb Fb).sl ?_;refine Fk (λc4=>?_) λc4=>?_
   ·obtain⟨x,hxl⟩:∃x,l[k+i]?=some x:=F8;obtain⟨y,hyl⟩:∃x,l[k+i-1]?=some x:=F8;have O:((cur.take l.length).drop k)[i]?=some x:=(Vj Y hr.2.2.2.2 Fb).trans hxl;have Z:((cur.take l.length).drop k)[i-1]?=some y:=(Vj Y hr.2.2.2.2 Fb).trans (by rw[<-hyl];congr 1;omega);have ha:=Kb ho (λe=>by rw[e]at Y;simp at Y;omega);refine Gn 1051000010000 λw5 x5=>Fz x5 ho r λho r=>?_;refine go ?_;refine di 79 4 ((ho.arr Ff).slice (lo:=k) (hi:=l.length) Fb Fb).sl rfl (((ho.arr Ff).slice (lo:=k) (hi:=l.length) Fb Fb).lt O) (Gd rfl (λw' hR=>Fy Fe rfl rfl ((((ho.arr Ff).slice (lo:=k) (hi:=l.length) Fb Fb).ext hR).row O)) (gn ?_));refine F3 (v:=I ↑(i-1)) rfl (Gz rfl rfl (by unfold Fx;omega)) (by show I _=I _;congr 1;omega) (di 79 4 ((ho.arr Ff).slice (lo:=k) (hi:=l.length) Fb Fb).sl rfl (((ho.arr Ff).slice (lo:=k) (hi:=l.length) Fb Fb).lt Z) (Gd rfl (λw' hR=>Fy Fe rfl rfl ((((ho.arr Ff).slice (lo:=k) (hi:=l.length) Fb Fb).ext hR).row Z)) (LG (vs:=[x.v,y.v]) rfl rfl hcb (hc _ x y) rfl RX.all (λw6 x6=>Fz x6 ho r λho r=>?_))));refine FZ (λc5=>?_) λc5=>?_
    ·refine go ?_;refine di 79 4 ((ho.arr Ff).slice (lo:=k) (hi:=l.length) Fb Fb).sl rfl (((ho.arr Ff).slice (lo:=k) (hi:=l.length) Fb Fb).lt O) (dq (Fy Fe rfl rfl (((ho.arr Ff).slice (lo:=k) (hi:=l.length) Fb Fb).row O)) (F3 (v:=Fg (base v).1 (k2*4+0)) rfl (Ii (i:=k2) (e:=79) (k:=4) Fe ho.sl rfl rfl Fb) (by rw[ha];show Fg _ (0+_)=_;rw[A0];rfl) ?_));refine HO (enc:=Cell.cs) (sz:=4) (l:=cur) (i:=k2) (j:=0) (x:=x) (vs:=x.cs) Ff rfl ho rfl rfl rfl Fe Fb rfl (Aa 4) (by intro v hv;simp at hv;rcases hv with rfl|rfl|rfl|rfl<;>rfl) (.inl rfl) (λw7 x7 xs7 H=>?_);have r:=r.own x7 F4;have ho:=H;refine go ?_;exact⟨(i+1,k2+1,_),GC,⟨r,by omega,Xsx hr hxl hyl (by simpa using c5),ho⟩,by simp only [];omega⟩
    refine go ?_;exact⟨(i+1,k2,cur),GC,⟨r,by omega,Xyi hr hxl hyl (by simpa using c5),ho⟩,by simp only [];omega⟩
   refine go ?_;refine dp (H8 (e:=79) (k:=4) (m:=cur.length) (a:=k2) (b:=cur.length) Fe ho.sl rfl rfl rfl Fb Fb) ?_;refine Yc (enc:=Cell.cs) (sz:=4) (e:=79) (l:=cur) (k:=k2) (zs:=[S [],S [],B false,.int .i64 0]) Ff rfl Fe Fe rfl Fj (by intro z hz;simp at hz;rcases hz with rfl|rfl|rfl|rfl<;>rfl) ho rfl Fb (.inl rfl) (λw8 x8 xs8 H=>?_);have r:=r.own x8 F4;have ho:=H;refine go ?_;refine dp (H8 (e:=79) (k:=4) (m:=l.length) (a:=0) (b:=k2) Fe J rfl rfl rfl Fb Fb) (go ?_);rw[hr.2.2.2.1,Ar Fb]at ho;exact⟨_,rfl,r,ho,Xoq J⟩
  refine go ?_;exact FJ (k+1) ⟨r,by omega,by omega,by rw[Qj Fb hxk hyk,if_neg (by rw[c3];decide),hcn,List.take_add_one,hxk];rfl,ho⟩
 refine go ?_;rw[Ar Fb]at hcn;exact⟨_,rfl,r,by rw[hcn];exact ho,rfl⟩
theorem SZ (qs:List (Value×List Cell))(v:Value)(w:World)(hv:Fs KO 1 w v qs)(hq:∀q∈qs,Fs Cell.cs 4 w q.1 q.2)(hl:qs.length<=1000000)(htot:(qs.flatMap (·.2)).length<=10000000) :
  Gf 45 [v] w λu w'=>∃m,Mg (qs.flatMap (·.2)) m/\Vc.Own Cell.cs 4 79 w.heap.size w' u m:=by
 refine cE Tryz.func45 λr=>Ge (Xyu qs v _ (hv.ext r) (λq h=>(hq q h).ext r) hl htot) λvb w1 x1 Y=>?_;have H:=r.size;have r:=r.trans x1;have ho:=Y.mono H;refine Gw (Ybk _ vb w.heap.size 98 JH _ ho htot Fe (λw2 x y=>Yc9 x y w2) X78) λu2 w2 x2 O=>?_;have hsz2:=r.size;have r:=r.own x2 F4;obtain⟨rfl,l2,ho,z,J⟩:=O;rw[Xp]at J;refine Gw (X8a l2 vb w.heap.size 101 KH _ ho (by have:=z.length_eq;omega) Fe (λw2 x y=>Yda x y w2)) λvr w3 x3 Z=>?_;have hsz3:=r.size;have r:=r.own x3 F4;obtain⟨ho,_⟩:=Z;refine go ?_;exact⟨_,rfl,r,_,⟨l2,z,J,rfl⟩,ho⟩
def K8 (s:List (List Cell)×Nat)(c:Cell):List (List Cell)×Nat:=if s.1=[]\/4096<s.2+G5 c then(s.1++[[c]],G5 c)else(s.1.dropLast++[s.1.getLastD []++[c]],s.2+G5 c)
def IT (l:List Cell)(k:Nat):List (List Cell)×Nat:=(l.take k).foldl K8 ([],0)
def Gu (l:List Cell):List (List Cell):=(l.foldl K8 ([],0)).1
theorem OV {c:Cell}(h:l[k]?=some c):IT l (k+1)=K8 (IT l k) c:=by
 unfold IT;rw[GQ h,BC];rfl
theorem SF (h:l.length<=k):(IT l k).1=Gu l:=by unfold IT Gu;rw[Ar h]
theorem Xqs (s:List (List Cell)×Nat)(c:Cell):(K8 s c).1.flatten=s.1.flatten++[c]/\(K8 s c).1.length<=s.1.length+1:=by
 unfold K8;split
 ·simp
 ·rename_i h;rw[not_or]at h;rcases List.eq_nil_or_concat s.1 with e|⟨a,b,e⟩
  ·exact absurd e h.1
  ·rw[e];simp
theorem NI (l:List Cell):∀k,k<=l.length->(IT l k).1.flatten=l.take k/\(IT l k).1.length<=k
 | 0,_=>⟨rfl,Aa _⟩
 | k+1,h=>by
  have r:=NI l k Fb;have hk:l[k]?=some l[k]:=Au Fb;have h2:=Xqs (IT l k) l[k];rw[OV hk,h2.1,r.1,<-GQ hk];exact⟨rfl,by omega⟩
theorem Th (l:List Cell):(Gu l).flatten=l:=by
 rw[<-SF (Aa l.length),(NI l _ (Aa _)).1,AV]
variable {sg:List Cell}{ss:List (List Cell)}
theorem WE (h:ss.flatten=l)(hs:sg∈ss):sg.length<=l.length:=by
 subst h;rw[List.length_flatten]
 induction ss with
 | nil=>cases hs
 | cons a r ih=>
  simp only [Am,AT];rcases Ah.1 hs with rfl|hs
  ·omega
  ·have:=ih hs;omega
theorem VE (hc:∀c∈l,G5 c<=30000):∀k,k<=l.length->(IT l k).2<=30000
 | 0,_=>Ab _
 | k+1,h=>by
  have hk:l[k]?=some l[k]:=Au Fb;rw[OV hk];have:=hc l[k] (List.getElem_mem _);unfold K8;split
  ·exact this
  ·rename_i h2;rw[not_or]at h2;show(IT l k).2+G5 l[k]<=30000;omega
theorem UY {s:List (List Cell)×Nat}{c:Cell}(h:s.1=[]\/4096<s.2+G5 c):K8 s c=(s.1++[[]++[c]],0+G5 c):=by unfold K8;rw[if_pos h,A0];rfl
theorem Xt9 {s:List Cell}{z:Nat}{c:Cell}(h:¬ 4096<z+G5 c):K8 (ss++[s],z) c=(ss++[s++[c]],z+G5 c):=by
 unfold K8;rw[if_neg (by rw[not_or];exact⟨by simp,h⟩)];simp
structure Md where
 f:Fi
 vl:Value
 vb:Value
@[reducible] def Md.cs (m:Md):List Value:=[I m.f.id,I m.f.lev,I m.f.size,S m.f.fst,S m.f.lst,m.vl,m.vb]
@[reducible] def Md.v (m:Md):Value:=.agg ⟨m.cs⟩
structure MdR (w:World)(v:Value)(l:List Md):Prop where
 row:∀ {i:Nat} {x:Md},l[i]?=some x->Jt w (base v).1 (i*7+0) x.cs
section
variable {b0 B B1:Nat}{lv next:Int}{w w':World}{v va:Value}{S:Nat->Prop}
variable {l:List Md}
theorem S9 (h:Vc.Own Md.cs 7 161 B w v l):MdR w v l:=⟨λ {i x} hi=>by
 have h2:=(h.arr Ff).row hi;rw[Kb h (λe=>by rw[e]at hi;simp at hi),A0]at h2;exact h2⟩
theorem Qm {α:Type}(ys:List α)(x z:α):(ys++[x]).getD ys.length z=x:=by simp
theorem Q9 {α:Type}(ys:List α)(x z:α):(ys++[x]).set ys.length z=ys++[z]:=by simp
def MG (b0:Nat)(lv next:Int)(i:Nat)(x:Md)(sg:List Cell)(w:World):Prop:=x.f.id=next+↑i/\x.f.lev=lv/\x.f.size=0/\x.f.fst=(GB sg 0).key/\x.f.lst=(GB sg (sg.length-1)).key/\x.vb=.slice none 0 0/\sg≠[]/\Vc.Own Cell.cs 4 79 b0 w x.vl sg
variable {i:Nat}{sg:List Cell}
theorem MG.mod {x:Md}(h:MG b0 lv next i x sg w)(m:Vc.Mod S w w')(hS:∀k,x.vl.ownBlock=some k->¬ S k):MG b0 lv next i x sg w':=by
 obtain⟨h1,h2,h3,h4,z,J,H,r⟩:=h;exact⟨h1,h2,h3,h4,z,J,H,r.mod m hS⟩
def J3 (b0 B1:Nat)(lv next:Int)(ys:List Md)(ss:List (List Cell))(w:World):Prop:=ys.length=ss.length/\∀i x sg,ys[i]?=some x->ss[i]?=some sg->MG b0 lv next i x sg w/\∀k,x.vl.ownBlock=some k->k<B1
variable {ss:List (List Cell)}{ys:List Md}
theorem J3.mod (h:J3 b0 B1 lv next ys ss w)(m:Vc.Mod S w w')(hS:∀x∈ys,∀k,x.vl.ownBlock=some k->¬ S k):J3 b0 B1 lv next ys ss w':=
 ⟨h.1,λi x sg r hs=>⟨(h.2 i x sg r hs).1.mod m (hS x (Ag r)),(h.2 i x sg r hs).2⟩⟩
theorem J3.ext (h:J3 b0 B1 lv next ys ss w)(m:Fp w w'):J3 b0 B1 lv next ys ss w':=h.mod m (λ_ _ _ _ h=>h)
instance {ys : List Md} {ss:List (List Cell)} : Up w w' (J3 b0 B1 lv next ys ss w) (J3 b0 B1 lv next ys ss w'):=⟨λx h=>J3.ext h x⟩
theorem J3.at (h:J3 b0 B1 lv next ys ss w){x:Md}(hx:x∈ys):∃i sg,MG b0 lv next i x sg w/\∀k,x.vl.ownBlock=some k->k<B1:=by
 obtain⟨i,hi⟩:=AQ hx;have r:=(Ap.1 hi).1;exact⟨i,_,h.2 i x _ hi (Au (by rw[<-h.1];exact r))⟩
theorem J3.ne (h:J3 b0 B1 lv next ys ss w)(ho:Vc.Own Md.cs 7 161 B w va l):∀x∈ys,∀k,x.vl.ownBlock=some k->¬ va.ownBlock=some k:=λx z k hk=>by
 obtain⟨i,sg,r,_⟩:=h.at z;exact r.2.2.2.2.2.2.2.ne ho rfl hk
variable {s:List Cell}
theorem J3.sep {vl:Value}(h:J3 b0 B1 lv next ys ss w)(hl:Vc.Own Cell.cs 4 79 B1 w vl s):∀x∈ys,∀k,x.vl.ownBlock=some k->¬ vl.ownBlock=some k:=λx r k hk e=>by
 obtain⟨i,sg,_,h2⟩:=h.at r;have h3:=h2 k hk;have h4:=(hl.lt k e).1;omega
def Ka (b0:Nat)(lv next:Int)(xs:List Md)(R:List (List Cell))(w:World):Prop:=(xs=[]/\R=[])\/∃ys x ss s B1,xs=ys++[x]/\R=ss++[s]/\(b0<=B1/\Sz B1 w)/\J3 b0 B1 lv next ys ss w/\MG b0 lv next ys.length x s w/\Vc.Own Cell.cs 4 79 B1 w x.vl s
variable {R:List (List Cell)}{xs:List Md}
theorem Ka.mod (h:Ka b0 lv next xs R w)(m:Vc.Mod S w w')(hS:∀x∈xs,∀k,x.vl.ownBlock=some k->¬ S k):Ka b0 lv next xs R w':=by
 rcases h with h|⟨ys,x,ss,s,B1,rfl,h2,h3,h4,h5,h6⟩
 ·exact .inl h
 ·exact .inr ⟨ys,x,ss,s,B1,rfl,h2,⟨h3.1,h3.2.mod m trivial⟩,h4.mod m (λz r=>hS z (B8 _ r)),h5.mod m (hS x F5),h6.mod m (hS x F5)⟩
theorem Ka.lt (h:Ka b0 lv next xs R w):∀x∈xs,∀k,x.vl.ownBlock=some k->k<w.heap.size:=by
 rcases h with⟨rfl,_⟩|⟨ys,x,ss,s,B1,rfl,h2,h3,h4,h5,h6⟩
 ·intro x J;cases J
 ·intro z r k hk;rcases Ak.1 r with r|r
  ·obtain⟨i,sg,H,_⟩:=h4.at r;exact(H.2.2.2.2.2.2.2.lt k hk).2
  ·rw[Af.1 r]at hk;exact(h6.lt k hk).2
theorem Ka.ext (h:Ka b0 lv next xs R w)(m:Fp w w'):Ka b0 lv next xs R w':=h.imp id λ⟨ys,x,ss,s,B1,h1,h2,h3,h4,h5,h6⟩=>⟨ys,x,ss,s,B1,h1,h2,⟨h3.1,h3.2.ext m⟩,h4.ext m,h5.mod m (λ_ _ h=>h),h6.ext m⟩
instance {xs : List Md} {R:List (List Cell)} : Up w w' (Ka b0 lv next xs R w) (Ka b0 lv next xs R w'):=⟨λx h=>Ka.ext h x⟩
theorem Ka.len (h:Ka b0 lv next xs R w):xs.length=R.length:=by
 rcases h with⟨rfl,rfl⟩|⟨ys,x,ss,s,B1,rfl,rfl,h3,h4,h5,h6⟩
 ·rfl
 ·simp [h4.1]
theorem Ka.all (h:Ka b0 lv next xs R w)(hs:b0<=w.heap.size):∃Bn,b0<=Bn/\Sz Bn w/\J3 b0 Bn lv next xs R w:=by
 refine⟨w.heap.size,hs,⟨Aa _⟩,?_⟩;rcases h with⟨rfl,rfl⟩|⟨ys,x,ss,s,B1,rfl,rfl,h3,h4,h5,h6⟩
 ·exact⟨rfl,λi x sg O=>by simp at O⟩
 ·refine⟨by simp [h4.1],λi z sg r hs=>?_⟩;have J:MG b0 lv next i z sg w:=by
   rw[EO]at r hs;rw[<-h4.1]at hs;split at r
   ·rename_i hi;rw[if_pos hi]at hs;exact(h4.2 i z sg r hs).1
   ·rename_i hi;rw[if_neg hi]at hs;have H:i-ys.length=0:=by
     rcases CJ (i-ys.length)with e|e
     ·exact e
     ·rw[Bh (by simp;omega)]at r;cases r
    rw[H]at r hs;simp at r hs;subst r;subst hs;rw[show i=ys.length by omega];exact h5
  exact⟨J,λk hk=>(J.2.2.2.2.2.2.2.lt k hk).2⟩
def Lw (lv next:Int)(j:Nat)(sg:List Cell):Fi:=⟨next+↑j,lv,↑(F7 (Gg sg)).length,(GB sg 0).key,(GB sg (sg.length-1)).key⟩
def J2 (b0 B2:Nat)(lv next:Int)(i:Nat)(xs:List Md)(ss:List (List Cell))(w:World):Prop:=xs.length=ss.length/\∀j x sg,xs[j]?=some x->ss[j]?=some sg->(j<i->x.f=Lw lv next j sg/\ID sg=0/\Fs Fq 1 w x.vb (F7 (Gg sg))/\B2<=(base x.vb).1/\x.vl.oneCell'=true)/\(i<=j->MG b0 lv next j x sg w)
variable {B2:Nat}
theorem J2.mod (h:J2 b0 B2 lv next i xs ss w)(ho:Vc.Own Md.cs 7 161 B w va l)(hv:∀k,va.ownBlock=some k->k<B2)(m:Vc.Mod (λk=>va.ownBlock=some k) w w'):J2 b0 B2 lv next i xs ss w':=
 ⟨h.1,λj x sg H hs=>⟨λr=>by
  obtain⟨h1,h2,h3,h4,J⟩:=(h.2 j x sg H hs).1 r;exact⟨h1,h2,h3.mod m (λ_ e=>by have:=hv _ e;omega),h4,J⟩,λr=>by
  have z:=(h.2 j x sg H hs).2 r;exact z.mod m (λk hk=>z.2.2.2.2.2.2.2.ne ho rfl hk)⟩⟩
theorem J2.ext (h:J2 b0 B2 lv next i xs ss w)(m:Fp w w'):J2 b0 B2 lv next i xs ss w':=
 ⟨h.1,λj x sg z hs=>⟨λr=>by
  obtain⟨h1,h2,h3,h4,H⟩:=(h.2 j x sg z hs).1 r;exact⟨h1,h2,h3.ext m,h4,H⟩,λr=>((h.2 j x sg z hs).2 r).mod m (λ_ _ h=>h)⟩⟩
instance {B2 i:Nat} {xs:List Md} {ss:List (List Cell)} : Up w w' (J2 b0 B2 lv next i xs ss w) (J2 b0 B2 lv next i xs ss w'):=⟨λx h=>J2.ext h x⟩
theorem J2.zero (h:J3 b0 B1 lv next xs ss w):J2 b0 B2 lv next 0 xs ss w:=⟨h.1,λj x sg r hs=>⟨λz=>absurd z (Bg j),λ_=>(h.2 j x sg r hs).1⟩⟩
theorem J2.step {x:Md}{vb:Value}(h:J2 b0 B2 lv next i xs ss w)(hx:xs[i]?=some x)(hs:ss[i]?=some sg)(hb:ID sg=0)(ha:Fs Fq 1 w vb (F7 (Gg sg)))(hg:B2<=(base vb).1):
  J2 b0 B2 lv next (i+1) (xs.set i ⟨⟨x.f.id,x.f.lev,↑(F7 (Gg sg)).length,x.f.fst,x.f.lst⟩,x.vl,vb⟩) ss w:=by
 refine⟨by rw[A9];exact h.1,λj z sz H r=>?_⟩;have J:=(Ap.1 hx).1
 by_cases e:i=j
 ·subst e;rw[BE J]at H;rw[hs]at r
  cases H;cases r
  obtain⟨h1,h2,h3,h4,Z,h6,h7,O⟩:=(h.2 i x sg hx hs).2 (Aa _);exact⟨λ_=>⟨by unfold Lw;rw[h1,h2,h4,Z],hb,ha,hg,O.sl.one⟩,λhh=>by omega⟩
 ·rw[Cg e]at H;exact⟨λY=>(h.2 j z sz H r).1 Fb,λY=>(h.2 j z sz H r).2 Fb⟩
def L0 (b0:Nat)(lv next:Int)(xs:List Md)(ss:List (List Cell))(w:World):Prop:=xs.length=ss.length/\∀j x sg,xs[j]?=some x->ss[j]?=some sg->x.f=Lw lv next j sg/\ID sg=0/\Fs Fq 1 w x.vb (F7 (Gg sg))/\b0<=(base x.vb).1/\x.vl.oneCell'=true
theorem J2.fin (h:J2 b0 B2 lv next i xs ss w)(hi:xs.length<=i)(hb:b0<=B2):L0 b0 lv next xs ss w:=⟨h.1,λj x sg r hs=>by
 have hil:=(Ap.1 r).1;obtain⟨h1,h2,h3,h4,z⟩:=(h.2 j x sg r hs).1 Fb;exact⟨h1,h2,h3,Ae hb h4,z⟩⟩
theorem U6 (s:List Cell)(c:Cell):GB (s++[c]) ((s++[c]).length-1)=c:=by
 unfold GB;simp
theorem Ydb (hs:s≠[])(c:Cell):GB (s++[c]) 0=GB s 0:=by
 cases s with
 | nil=>exact absurd rfl hs
 | cons a r=>rfl
end
theorem X8b (l:List Cell)(v:Value)(lv next:Int)(w:World)(hv:Fs Cell.cs 4 w v l)(hl0:l.length<=30000)(hc9:∀c∈l,c.key.length<=4096/\c.val.length<=16384)(hlv:0<=lv/\lv<=100)(hnx:0<=next/\next<=1099511627776) :
  Gf 90 [v,I lv,I next] w λu w'=>(∃sg∈Gu l,ID sg≠0/\u=.tuple #[.slice none 0 0,I (ID sg)])\/∃va xs,u=.tuple #[va,I 0]/\Vc.Own Md.cs 7 161 w.heap.size w' va xs/\L0 w.heap.size lv next xs (Gu l) w':=by
 refine cE Tryz.func90 λH=>FL 79 4 (hv.ext H).sl ?_;refine F9 (G:=Nat×List Md×Value) (λ(k,xs,va)=>[(1,I lv),(2,I next),(6,.slice none 0 0),(7,I 0),(8,va),(9,I ↑(IT l k).2),(18,v),(19,I ↑l.length),(20,I ↑k)]) (λ(k,xs,va) w'=>Fp w w'/\k<=l.length/\(IT l k).2<=30000/\Vc.Own Md.cs 7 161 w.heap.size w' va xs/\Ka w.heap.size lv next xs (IT l k).1 w') (λ(k,xs,va)=>l.length-k) (0,[],.slice none 0 0) ⟨H,Ab _,Ab _,Vc.Own.nil,.inl ⟨rfl,rfl⟩⟩ ?_;rintro _ ⟨k,xs,va⟩ w1 ⟨H,hk1,hz1,ho,hI⟩;refine Fk (λc1=>?_) λc1=>?_
 ·obtain⟨c,hk⟩:∃c,l[k]?=some c:=F8;have hcs:=hc9 c (Ag hk);have hcz:G5 c<=30000:=by unfold G5;omega
  have xk:=hI.len;have hrl:=(NI l k hk1).2;refine FK 79 4 hv.sl (hv.lt hk) ?_;refine dq (Fy Fe rfl rfl ((hv.ext H).row hk)) (aL [S [],S [],B false,.int .i64 0] λb1 w2 e1 x2 Z=>?_);have g1:=H.ge e1;have o1_ho:=ho.ltb e1;have hg:=hI.lt;refine FB x2 ho hI H λho hI H=>Gc Z (λw3 x3 xs3 Z=>?_);have ho:=ho.mod x3 Fw;have hI:=hI.mod x3 (λx9 ha k9 xl e9=>by have h2:k9=b1:=e9;have h8:=hg x9 ha k9 xl;omega);have H:=H.o1 x3;refine go ?_;refine dq (Fy (k:=4) Fe rfl rfl Z.row) (cP (Sm c _ Fb Fb) RX.all λw4 x4=>FP x4 ho hI Z H λho hI Z H=>g0 ?_);refine GK (G:=List Md×Md×List (List Cell)×List Cell×Value×Nat×Nat) (λ(ys,x,ss,s,va,z,B1)=>[(1,I lv),(2,I next),(6,.slice none 0 0),(7,I 0),(8,va),(9,I ↑z),(11,Fg b1 0),(12,I ↑(G5 c)),(18,v),(19,I ↑l.length),(20,I ↑k)]) (λ(ys,x,ss,s,va,z,B1) w'=>Fp w w'/\Fo w' b1 c.cs 79/\IT l (k+1)=(ss++[s++[c]],z+G5 c)/\w.heap.size<=B1/\z<=60000/\Sz B1 w'/\Vc.Own Md.cs 7 161 w.heap.size w' va (ys++[x])/\J3 w.heap.size B1 lv next ys ss w'/\Vc.Own Cell.cs 4 79 B1 w' x.vl s/\x.f.id=next+↑ys.length/\x.f.lev=lv/\x.f.size=0/\x.f.fst=(GB (s++[c]) 0).key/\x.vb=.slice none 0 0/\ys.length<=k/\x.vl.ownBlock≠some b1) ?_ ?_
  ·refine go ?_;refine dv 161 7 (ho.arr Ff).sl ?_;refine ds1 29 (λc2=>?_) λc2=>?_
   ·obtain⟨Bn,hp,r,O⟩:=hI.all H.size;have hh:IT l (k+1)=((IT l k).1++[[]++[c]],0+G5 c):=by rw[OV hk,UY (.inl (Az Fb))]
    refine go ?_;refine GD rfl (go ?_);refine dv 161 7 (ho.arr Ff).sl (go ?_);refine db (zs:=[.int .i64 0,.int .i64 0,.int .i64 0,S [],S []]) (pl:=[(0,1),(1,1),(2,1),(3,1),(4,1)]) (pv:=[(0,_),(1,_),(3,_)]) (cs:=[_,_,.int .i64 0,_,S []]) ?_;refine db (zs:=[.int .i64 0,.int .i64 0,.int .i64 0,S [],S [],.slice none 0 0,.slice none 0 0]) (pl:=[(0,5),(5,1),(6,1)]) (pv:=[(0,.agg ⟨[_,_,_,_,_]⟩)]) (cs:=[_,_,_,_,_,.slice none 0 0,.slice none 0 0]) ?_;refine lA 161 rfl λb2 w5 e2 x5 m2=>?_;have g2:=H.ge e2;have n2_1:=Z.ltb e2;have o2_ho:=ho.ltb e2;refine FV x5 ho Z O r H λho Z O r H=>?_;refine G1 (⟨⟨next+↑xs.length,lv,0,c.key,[]⟩,.slice none 0 0,.slice none 0 0⟩) ho m2 (λvn w6 J x6=>?_) (h1:=(by intro x ha u hu;rw[Af.1 ha]at hu;simp at hu;rcases hu with rfl|rfl|rfl|rfl|rfl|rfl|rfl<;>rfl));have Z:=Z.mod x6 Fw;have O:=O.mod x6 (by exact O.ne ho);have r:=r.mod x6 Fw;have H:=H.own x6 F4;have ho:=J;clear m2;refine go ?_;exact⟨(xs,⟨⟨next+↑xs.length,lv,0,c.key,[]⟩,.slice none 0 0,.slice none 0 0⟩,(IT l k).1,[],vn,0,Bn),Nn,H,Z,hh,hp,Ab _,r,ho,O,Vc.Own.nil,rfl,rfl,rfl,rfl,rfl,by omega,by simp [Value.ownBlock]⟩
   refine Fk (λc3=>?_) λc3=>?_
   ·obtain⟨Bn,hp,r,O⟩:=hI.all H.size;have hh:IT l (k+1)=((IT l k).1++[[]++[c]],0+G5 c):=by rw[OV hk,UY (.inr Fb)]
    refine go ?_;refine dv 161 7 (ho.arr Ff).sl (go ?_);refine db (zs:=[.int .i64 0,.int .i64 0,.int .i64 0,S [],S []]) (pl:=[(0,1),(1,1),(2,1),(3,1),(4,1)]) (pv:=[(0,_),(1,_),(3,_)]) (cs:=[_,_,.int .i64 0,_,S []]) ?_;refine db (zs:=[.int .i64 0,.int .i64 0,.int .i64 0,S [],S [],.slice none 0 0,.slice none 0 0]) (pl:=[(0,5),(5,1),(6,1)]) (pv:=[(0,.agg ⟨[_,_,_,_,_]⟩)]) (cs:=[_,_,_,_,_,.slice none 0 0,.slice none 0 0]) ?_;refine lA 161 rfl λb3 w7 e3 x7 m3=>?_;have g3:=H.ge e3;have n3_1:=Z.ltb e3;have o3_ho:=ho.ltb e3;refine FV x7 ho Z O r H λho Z O r H=>?_;refine G1 (⟨⟨next+↑xs.length,lv,0,c.key,[]⟩,.slice none 0 0,.slice none 0 0⟩) ho m3 (λvn w8 J x8=>?_) (h1:=(by intro x ha u hu;rw[Af.1 ha]at hu;simp at hu;rcases hu with rfl|rfl|rfl|rfl|rfl|rfl|rfl<;>rfl));have Z:=Z.mod x8 Fw;have O:=O.mod x8 (by exact O.ne ho);have r:=r.mod x8 Fw;have H:=H.own x8 F4;have ho:=J;clear m3;refine go ?_;exact⟨(xs,⟨⟨next+↑xs.length,lv,0,c.key,[]⟩,.slice none 0 0,.slice none 0 0⟩,(IT l k).1,[],vn,0,Bn),Nn,H,Z,hh,hp,Ab _,r,ho,O,Vc.Own.nil,rfl,rfl,rfl,rfl,rfl,by omega,by simp [Value.ownBlock]⟩
   rcases hI with⟨rfl,_⟩|⟨ys,x,ss,s,B1,rfl,hR,⟨hb1,r⟩,O,hL,Y⟩
   ·simp at c2
   have h6:x.vl.ownBlock≠some b1:=λe=>by have:=hg x F5 b1 e;omega
   refine go ?_;exact⟨(ys,x,ss,s,va,(IT l k).2,B1),Nn,H,Z,by rw[OV hk,show IT l k=(ss++[s],(IT l k).2) from Dv hR rfl,Xt9 Fb],hb1,by omega,r,ho,O,Y,hL.1,hL.2.1,hL.2.2.1,by rw[Ydb hL.2.2.2.2.2.2.1];exact hL.2.2.2.1,hL.2.2.2.2.2.1,by simp at xk;omega,h6⟩
  rintro _ ⟨ys,x,ss,s,va,z,B1⟩ w9 ⟨H,Z,hR2,hb1,hz9,r,ho,O,Y,q1,q2,q3,q4,q5,q6,h6⟩;have xf:(ys++[x])[ys.length]?=some x:=by simp
  have xj:s.length<=30000:=by
   have h9:=(NI l (k+1) Fb).1;rw[hR2]at h9;have h8:=WE h9 (show s++[c]∈ss++[s++[c]] by simp);rw[Ad,A7]at h8;omega
  refine go ?_;refine dv 161 7 (ho.arr Ff).sl (F3 (v:=I ↑ys.length) rfl (Gz rfl rfl (by unfold Fx;simp;omega)) (by show I _=I _;congr 1;simp) (F3 (v:=Fg (base va).1 (ys.length*7+0)) rfl (Ii (i:=ys.length) (e:=161) (k:=7) Fe ho.sl rfl rfl (by simp;done)) (by rw[Kb ho F5];show Fg _ (0+_)=_;rw[A0];rfl) (go ?_)));refine Kf (R:=Mod (λk=>va.ownBlock=some k\/x.vl.ownBlock=some k)) HT Ir Fe [6,10] (.one 0 .p false (.one 1 .p false (.one 2 .p false (.one 3 .p false (.one 4 .p false (.one 6 .l false (.one 9 .p false (.one 10 .l false (.fork (.alt 5 false (.one 7 .x false (.one 8 .x false (.one 11 .p false (.one 12 .p false (.one 13 .x false (.one 14 .p false (.one 15 .p false (.one 16 .p false (.one 17 .x true .nil))))))))) (.alt 7 false (.one 5 .x false (.one 8 .x false (.one 11 .p false (.one 12 .p false (.one 13 .x false (.one 14 .p false (.one 15 .p false (.one 16 .p false (.one 17 .x true .nil))))))))) .stop))))))))))) Fe Fe (λxp xc=>?_);have xn:=FC xc;clear xc;refine H3 xn Z ho O Y r H λZ ho O Y r H=>go ?_;refine df 5 (rfl) (go ?_);refine Gd rfl (λw' hR=>Fy (k:=4) Fe rfl rfl (Z.mod hR (λe=>e.elim (λe=>ho.ne_blk Z rfl e) h6)).row) (go ?_);refine dL rfl (λ_ hR=>((Z.mod hR (λe=>e.elim (λe=>ho.ne_blk Z rfl e) h6)).at rfl)) (go ?_);refine IQ ?_;refine Hc ?_ ?_
  ·refine I1 (v:=x.vl) (w':=xp) rfl (Nc Fe rfl (((S9 ho).row xf).at rfl)) (λ_=>HT _) (go ?_);refine lA 79 rfl (λb4 w11 e4 xo m4=>?_) (hR:=RX.mod);have g4:=H.ge e4;have o4_ho:=ho.ltb e4;have o4_hl:=Y.ltb e4;refine FV xo ho O Y r H λho O Y r H=>go ?_;refine G1 c Y m4 (λvp w12 hj h5=>?_) (h1:=(by intro x ha u hu;rw[Af.1 ha]at hu;simp at hu;rcases hu with rfl|rfl|rfl|rfl<;>rfl)) (hb:=(by have:=xj;simp;omega)) (hB:=r.le) (hR:=(.inr (λw9 h9=>h9.mono (λi hi _=>.inr hi))));have ho:=ho.mod h5 (by exact(λk hk=>ho.ne Y rfl hk));have O:=O.mod h5 (by exact O.sep Y);have r:=r.mod h5 Fw;have H:=H.own h5 (λi hi=>(Ae hb1 (Y.lt i hi).1));have Y:=hj;clear m4;refine go ?_;refine df 5 (rfl) (go ?_);refine HO (enc:=Md.cs) (sz:=7) (l:=(ys++[x])) (i:=ys.length) (j:=5) (x:=⟨x.f,vp,x.vb⟩) (vs:=[vp]) Ff rfl ho rfl rfl (by exact Y.sl.cells) Fe (by simp;done) (by rw[Qm];rfl) (Aj rfl) (by intro u hu;rw[Af.1 hu];exact Y.sl.one) (.inr (λw9 h9=>h9.mono (λi hi _=>.inl hi))) (λw13 h7 xs13 J=>?_);have O:=O.mod h7 (O.ne ho);have Y:=Y.mod h7 (λk hk=>Y.ne ho rfl hk);have r:=r.mod h7 trivial;have H:=H.own h7 F4;have ho:=J;rw[Q9]at ho;refine go ?_;refine HO (enc:=Md.cs) (sz:=7) (l:=(ys++[⟨x.f,vp,x.vb⟩])) (i:=ys.length) (j:=4) (x:=⟨⟨x.f.id,x.f.lev,x.f.size,x.f.fst,c.key⟩,vp,x.vb⟩) (vs:=[S c.key]) Ff rfl ho rfl rfl rfl Fe (by simp;done) (by rw[Qm];rfl) (Aj rfl) (by intro u hu;rw[Af.1 hu];rfl) (.inl rfl) (λw14 ht xs14 J=>?_);have O:=O.mod ht (O.ne ho);have Y:=Y.mod ht (λk hk=>Y.ne ho rfl hk);have r:=r.mod ht trivial;have H:=H.own ht F4;have ho:=J;rw[Q9]at ho;refine go ?_;have xd:=VE (l:=l) (λc hc=>by have:=hc9 c hc;unfold G5;omega) (k+1) Fb;refine⟨(k+1,ys++[⟨⟨x.f.id,x.f.lev,x.f.size,x.f.fst,c.key⟩,vp,x.vb⟩],va),?_,⟨H,by omega,xd,ho,.inr ⟨ys,_,ss,s++[c],B1,rfl,by rw[hR2],⟨hb1,r⟩,O,⟨q1,q2,q3,q4,by rw[U6],q5,by simp,Y.mono hb1⟩,Y⟩⟩,by simp only [];omega⟩;dsimp only;rw[hR2];exact KV
  refine Hc ?_ ?_
  ·refine lA 79 rfl (λb5 xr e5 xm m5=>?_) (hR:=RX.mod);have g5:=H.ge e5;have o5_ho:=ho.ltb e5;have o5_hl:=Y.ltb e5;refine FV xm ho O Y r H λho O Y r H=>go ?_;refine I1 (v:=x.vl) (w':=xr) rfl (Nc Fe rfl (((S9 ho).row xf).at rfl)) (λ_=>HT _) (go ?_);refine G1 c Y m5 (λvp w16 hj hr=>?_) (h1:=(by intro x ha u hu;rw[Af.1 ha]at hu;simp at hu;rcases hu with rfl|rfl|rfl|rfl<;>rfl)) (hb:=(by have:=xj;simp;omega)) (hB:=r.le) (hR:=(.inr (λw9 h9=>h9.mono (λi hi _=>.inr hi))));have ho:=ho.mod hr (by exact(λk hk=>ho.ne Y rfl hk));have O:=O.mod hr (by exact O.sep Y);have r:=r.mod hr Fw;have H:=H.own hr (λi hi=>(Ae hb1 (Y.lt i hi).1));have Y:=hj;clear m5;refine go ?_;refine df 5 (rfl) (go ?_);refine HO (enc:=Md.cs) (sz:=7) (l:=(ys++[x])) (i:=ys.length) (j:=5) (x:=⟨x.f,vp,x.vb⟩) (vs:=[vp]) Ff rfl ho rfl rfl (by exact Y.sl.cells) Fe (by simp;done) (by rw[Qm];rfl) (Aj rfl) (by intro u hu;rw[Af.1 hu];exact Y.sl.one) (.inr (λw9 h9=>h9.mono (λi hi _=>.inl hi))) (λw17 hw xs17 J=>?_);have O:=O.mod hw (O.ne ho);have Y:=Y.mod hw (λk hk=>Y.ne ho rfl hk);have r:=r.mod hw trivial;have H:=H.own hw F4;have ho:=J;rw[Q9]at ho;refine go ?_;refine HO (enc:=Md.cs) (sz:=7) (l:=(ys++[⟨x.f,vp,x.vb⟩])) (i:=ys.length) (j:=4) (x:=⟨⟨x.f.id,x.f.lev,x.f.size,x.f.fst,c.key⟩,vp,x.vb⟩) (vs:=[S c.key]) Ff rfl ho rfl rfl rfl Fe (by simp;done) (by rw[Qm];rfl) (Aj rfl) (by intro u hu;rw[Af.1 hu];rfl) (.inl rfl) (λw18 xb xs18 J=>?_);have O:=O.mod xb (O.ne ho);have Y:=Y.mod xb (λk hk=>Y.ne ho rfl hk);have r:=r.mod xb trivial;have H:=H.own xb F4;have ho:=J;rw[Q9]at ho;refine go ?_;have xd:=VE (l:=l) (λc hc=>by have:=hc9 c hc;unfold G5;omega) (k+1) Fb;refine⟨(k+1,ys++[⟨⟨x.f.id,x.f.lev,x.f.size,x.f.fst,c.key⟩,vp,x.vb⟩],va),?_,⟨H,by omega,xd,ho,.inr ⟨ys,_,ss,s++[c],B1,rfl,by rw[hR2],⟨hb1,r⟩,O,⟨q1,q2,q3,q4,by rw[U6],q5,by simp,Y.mono hb1⟩,Y⟩⟩,by simp only [];omega⟩;dsimp only;rw[hR2];exact KV
  exact IZ
 have hnx9:xs.length<=30000:=by have h8:=hI.len;have h9:=(NI l k hk1).2;omega
 obtain⟨Bn,hp,_,O⟩:=hI.all H.size;rw[SF Fb]at O;obtain⟨B2,hB2,hvf,hS,hP⟩:∃B2,w.heap.size<=B2/\(∀k,va.ownBlock=some k->k<B2)/\Sz B2 _/\J2 w.heap.size B2 lv next 0 xs (Gu l) _:=⟨_,H.size,λk hk=>(ho.lt k hk).2,⟨Aa _⟩,J2.zero O⟩;clear O;refine go ?_;refine dv 161 7 (ho.arr Ff).sl (F9 (G:=Nat×List Md) (λ(i,ms)=>[(8,va),(72,va),(73,I ↑xs.length),(74,I ↑i)]) (λ(i,ms) w'=>Fp w w'/\i<=xs.length/\ms.length=xs.length/\Vc.Own Md.cs 7 161 w.heap.size w' va ms/\J2 w.heap.size B2 lv next i ms (Gu l) w'/\Sz B2 w') (λ(i,ms)=>xs.length-i) (0,xs) ⟨H,Ab _,rfl,ho,hP,hS⟩ ?_);rintro _ ⟨i,ms⟩ w19 ⟨H,hi1,hml,ho,hP,hS⟩;refine Fk (λc4=>?_) λc4=>?_
 ·obtain⟨x,hk⟩:∃x,ms[i]?=some x:=F8;obtain⟨sg,hsi⟩:∃sg,(Gu l)[i]?=some sg:=⟨_,Au (by have:=hP.1;omega)⟩;have xt:=(hP.2 i x sg hk hsi).2 (Aa _);have hsl9:=WE (Th l) (Ag hsi);have xh:ms≠[]:=λe=>by rw[e]at hk;simp at hk
  refine go ?_;refine F3 (v:=Fg (base va).1 (i*7+0)) rfl (Ii (i:=i) (e:=161) (k:=7) Fe ho.sl rfl rfl Fb) (by rw[Kb ho xh];show Fg _ (0+_)=_;rw[A0];rfl) (go ?_);refine df 5 (rfl) (dl rfl (((S9 ho).row hk).at rfl) ?_);have xv:=hS.le;refine cG (Uz sg x.vl _ ((xt.2.2.2.2.2.2.2.ext (Fp.refl _)).arr Ff) Fb) RX.all λu20 w20 xu xg=>?_;have hsz20:=H.size;refine FP xu ho hP hS H λho hP hS H=>?_;obtain⟨hz,rfl,xw⟩:=xg;refine Fk (λc5=>?_) λc5=>?_
  ·refine go ?_;exact⟨_,rfl,H,.inl ⟨sg,Ag hsi,c5,rfl⟩⟩
  have xi:ID sg=0:=AE c5;obtain⟨hf,xq⟩:=xw xi;have xe:=Ae xv xq;refine FL 5 1 hf.sl ?_;refine go ?_;refine df 6 (rfl) ?_;refine HO (enc:=Md.cs) (sz:=7) (l:=ms) (i:=i) (j:=6) (x:=⟨x.f,x.vl,hz⟩) (vs:=[hz]) Ff rfl ho rfl rfl (by exact hf.sl.cells) Fe (by omega) (by rw[BN,hk];rfl) (Aj rfl) (by intro u hu;rw[Af.1 hu];exact hf.sl.one) (.inl rfl) (λw21 xa xs21 J=>?_);have hP:=hP.mod ho hvf xa;have hf:=hf.mod xa (λ_ e=>by have:=hvf _ e;omega);have hS:=hS.mod xa trivial;have H:=H.own xa F4;have ho:=J;refine go ?_;refine HO (enc:=Md.cs) (sz:=7) (l:=(ms.set i ⟨x.f,x.vl,hz⟩)) (i:=i) (j:=2) (x:=⟨⟨x.f.id,x.f.lev,↑(F7 (Gg sg)).length,x.f.fst,x.f.lst⟩,x.vl,hz⟩) (vs:=[I ↑(F7 (Gg sg)).length]) Ff rfl ho rfl rfl rfl Fe (by simp;omega) (by rw[BN,BE Fb];rfl) (Aj rfl) (by intro u hu;rw[Af.1 hu];rfl) (.inl rfl) (λw22 hq xs22 J=>?_);have hP:=hP.mod ho hvf hq;have hf:=hf.mod hq (λ_ e=>by have:=hvf _ e;omega);have hS:=hS.mod hq trivial;have H:=H.own hq F4;have ho:=J;rw[List.set_set]at ho;refine go ?_;exact⟨(i+1,_),He,⟨H,by omega,by rw[A9];exact hml,ho,hP.step hk hsi xi hf xe,hS⟩,by simp only [];omega⟩
 refine go ?_;exact⟨_,rfl,H,.inr ⟨va,ms,rfl,ho,hP.fin Fb hB2⟩⟩
@[reducible] def Yd0 (q:Md×Fh):List Value:=q.1.cs
def IK : List (Int×Fh)->Dsk->Int×Dsk
 | [],D=>(0,D)
 | q :: r,D=>if(D.save (Iv q.1) q.2).1≠0 then D.save (Iv q.1) q.2 else IK r (D.save (Iv q.1) q.2).2
variable {D:Dsk}{qs:List (Int×Fh)}
theorem VZ {q:Int×Fh}(h:qs[k]?=some q)(he:(D.save (Iv q.1) q.2).1≠0):IK (qs.drop k) D=D.save (Iv q.1) q.2:=by
 rw[IW h];unfold IK;rw[if_pos he]
theorem Xs {q:Int×Fh}(h:qs[k]?=some q)(he:(D.save (Iv q.1) q.2).1=0):IK (qs.drop k) D=IK (qs.drop (k+1)) (D.save (Iv q.1) q.2).2:=by
 rw[IW h];rw[IK.eq_2,if_neg (by rw[he];decide)]
theorem Sa {n:Int}(h:Fx n):(Lib.itoa n).length<=21:=Lib.itoa_length_le n h.1 (by have:=h.2;omega)
theorem Xyv {n:Int}(h:Fx n):(Iv n).length<=22:=by have:=Sa h;unfold Iv;simp;omega
theorem X8c (κ:Nat->Nat)(bs bd bl bo bm:Nat)(vf:Value)(L:Led)(D:Dsk)(V:Vs)(ts:List Tb)(mem:List Cell)(dead:Bool)(qs:List (Md×Fh))(va:Value)(w:World)(h:StE κ bs bd bl bo bm vf L D V ts mem dead w)(hg:GV w)(hgs:∀k,Mf k->κ k=0)(ha:Fs Md.cs 7 w va (qs.map (·.1)))(hal:qs.length<=40000)(hak:qs≠[]->κ (base va).1=0)(hq:∀q∈qs,Fs Fq 1 w q.1.vb q.2/\q.2.length<=2001000020/\Fx q.1.f.id/\(q.2≠[]->κ (base q.1.vb).1=0)/\q.1.vl.oneCell'=true) :
  Gy 93 [Fg bs 0,va] w (λk=>κ k=1) λu w'=>u=I (IK (qs.map λq=>(q.1.f.id,q.2)) D).1/\∃κ',(∀k,k<w.heap.size->κ' k=κ k)/\StE κ' bs bd bl bo bm vf L (IK (qs.map λq=>(q.1.f.id,q.2)) D).2 V ts mem dead w':=by
 refine cM Tryz.func93 (λk=>κ k=1) λr=>?_;have z:=h;have hlt0:=h.lt;have hmlen:(qs.map (·.1)).length=qs.length:=Aw _;refine go ?_;refine dv 161 7 (ha.mod r (λhl e=>by have e2:κ (base va).1=1:=e;rw[hak (by rintro rfl;exact hl rfl)]at e2;cases e2)).sl (F9 (G:=Nat×(Nat->Nat)×Dsk) (λ(k,κ1,D1)=>[(0,Fg bs 0),(8,va),(9,I ↑(qs.map (·.1)).length),(10,I ↑k)]) (λ(k,κ1,D1) w'=>Mod (λk=>κ k=1) w w'/\k<=qs.length/\IK (qs.map λq=>(q.1.f.id,q.2)) D=IK ((qs.map λq=>(q.1.f.id,q.2)).drop k) D1/\(∀k,k<w.heap.size->κ1 k=κ k)/\StE κ1 bs bd bl bo bm vf L D1 V ts mem dead w') (λ(k,κ1,D1)=>qs.length-k) (0,κ,D) ⟨r,Ab _,rfl,λ_ _=>rfl,z⟩ ?_);rintro _ ⟨k,κ1,D1⟩ w1 ⟨r,hk1,hsv,hmv,z⟩;refine Fk (λc1=>?_) λc1=>?_
 ·obtain⟨q,hk⟩:∃q,qs[k]?=some q:=F8;obtain⟨Z,hy,hh,hw,xb⟩:=hq q (Ag hk);have hz:(qs.map (·.1))[k]?=some q.1:=by simp [hk]
  have hf:((qs.map λq=>(q.1.f.id,q.2)))[k]?=some (q.1.f.id,q.2):=by simp [hk]
  have hnl:=Xyv hh;have hil:=Sa hh;refine FK 161 7 ha.sl (ha.lt hz) ?_;refine dq (Fy Fe rfl rfl ((ha.mod r (λhl e=>by have e2:κ (base va).1=1:=e;rw[hak (by rintro rfl;exact hl rfl)]at e2;cases e2)).row hz)) (aL [.int .i64 0,.int .i64 0,.int .i64 0,S [],S [],.slice none 0 0,.slice none 0 0] λb1 w2 e1 x2 m1=>?_);have g1:=r.ge e1;have J:=z.lt;refine Fz x2 z r λz r=>?_;refine Gc m1 (λw3 x3 xs3 m1=>?_) (h1:=by(intro u hu;simp only [Ah,Co,or_false]at hu;rcases hu with e|e|e|e|e|e|e<;>subst e<;>first|rfl|exact xb|exact Z.sl.one));have z:=z.mod x3 (λk9 h9 e9=>by have h2:k9=b1:=e9;have h8:=J k9 h9;omega);have r:=r.o1 x3;refine go ?_;refine Kf (R:=Mod (λk=>κ1 k=1)) HT Ir Fe [3,6,9] (.one 0 .p false (.one 1 .p false (.one 2 .p false (.one 3 .l false (.one 4 .p false (.one 5 .p false (.one 6 .l false (.one 8 .p false (.one 9 .l false (.fork (.alt 7 false (.one 10 .x false (.one 11 .x false (.one 12 .p false .nil))) (.alt 10 false (.one 7 .x false (.one 11 .x false (.one 12 .p false .nil))) .stop)))))))))))) Fe Fe (λw4 h5=>?_);have x4:=FC h5;clear h5;refine FB x4 z m1 r λz m1 r=>go ?_;refine dL rfl (λ_ hR=>((z.m.mod hR (λe=>by have e2:κ1 bs=1:=e;rw[z.k0]at e2;cases e2)).at rfl)) (go ?_);refine dL rfl (λ_ hR=>((m1.mod hR (λe=>by have e2:κ1 b1=1:=e;have:=J b1 (by rw[e2];decide);omega)).at rfl)) (go ?_);refine df 6 (rfl) (go ?_);refine dL rfl (λ_ hR=>((m1.mod hR (λe=>by have e2:κ1 b1=1:=e;have:=J b1 (by rw[e2];decide);omega)).at rfl)) (go ?_);refine IQ ?_;refine Hc ?_ ?_
  ·refine cP (T8 q.1.f.id _ (hg.mod r (λk hk e=>by have e2:κ k=1:=e;rw[hgs k hk]at e2;cases e2)) hh Fb) RX.mod λw5 x5=>Fz x5 z r λz r=>go ?_;refine Io (e:=82) (sz:=1) (zs:=[.slice none 0 0]) (pv:=[(0,?a6_0)]) (cs:=[?a6_0]) rfl Fe ⟨rfl,rfl⟩ Fe rfl ?h6 ?f6 RX.mod (λb2 w6 e2 x6 m2=>?k6)
   case h6=>refine⟨rfl,?_,trivial⟩<;>(conv=>lhs;whnf)
   case f6=>simp [Hm,Gr,An,Z.sl.cells]
   have g2:=r.ge e2;have a2_hS:=z.lt;refine Fz x6 z r λz r=>go ?_;have hc:=r.size;obtain⟨F,hD,O,Y⟩:=z.ld.disk;refine J8 rfl Fe (RN F bd D1 (Iv q.1.f.id) q.2 q.1.vb _ _ hD (m2.arr (enc:=λx:Value=>[x]) (sz:=1) (l:=[q.1.vb]) rfl Ff rfl F5) (Z.mod r (λhl e=>by have e2:κ (base q.1.vb).1=1:=e;rw[hw hl]at e2;cases e2)) hy Fb) rfl (.inr λw9 h9=>h9.mono (λi hi _=>O i hi)) (λu7 w7 x7 xc=>?_);have hsz7:=r.size;have r:=r.own x7 (λi hi hj=>(by have e1:=O i hi;rw[<-hmv i hj];exact e1));obtain⟨rfl,hp⟩:=xc;have ht:=z.ledger (x7.mono (λi hi _=>O i hi)) (Y _ _ x7 hp);have H:=λk (hk:k<w.heap.size)=>(M4 (κ:=κ1) (i:=1) (w':=w7) (Ax hk hc)).trans (hmv k hk);have z:=ht;refine Fk (λc2=>?_) λc2=>?_
   ·refine go ?_;rw[hsv,VZ hf c2];exact⟨_,rfl,r,rfl,_,H,z⟩
   refine go ?_;exact⟨(k+1,_,_),He,⟨r,by omega,by rw[hsv,Xs hf (AE (by exact c2))],H,z⟩,by simp only [];omega⟩
  refine Hc ?_ ?_
  ·refine Io (e:=82) (sz:=1) (zs:=[.slice none 0 0]) (pv:=[(0,?a13_0)]) (cs:=[?a13_0]) rfl Fe ⟨rfl,rfl⟩ Fe rfl ?h13 ?f13 RX.mod (λb3 w8 e3 x8 m3=>?k13)
   case h13=>refine⟨rfl,?_,trivial⟩<;>(conv=>lhs;whnf)
   case f13=>simp [Hm,Gr,An,Z.sl.cells]
   have g3:=r.ge e3;have a3_hS:=z.lt;refine Fz x8 z r λz r=>go ?_;refine cP (T8 q.1.f.id _ (hg.mod r (λk hk e=>by have e2:κ k=1:=e;rw[hgs k hk]at e2;cases e2)) hh Fb) RX.mod λw9 x9=>FB x9 z m3 r λz m3 r=>go ?_;have hc:=r.size;obtain⟨F,hD,O,Y⟩:=z.ld.disk;refine J8 rfl Fe (RN F bd D1 (Iv q.1.f.id) q.2 q.1.vb _ _ hD (m3.arr (enc:=λx:Value=>[x]) (sz:=1) (l:=[q.1.vb]) rfl Ff rfl F5) (Z.mod r (λhl e=>by have e2:κ (base q.1.vb).1=1:=e;rw[hw hl]at e2;cases e2)) hy Fb) rfl (.inr λw9 h9=>h9.mono (λi hi _=>O i hi)) (λu10 xa hr h7=>?_);have hsz10:=r.size;have r:=r.own hr (λi hi hj=>(by have e1:=O i hi;rw[<-hmv i hj];exact e1));obtain⟨rfl,hp⟩:=h7;have ht:=z.ledger (hr.mono (λi hi _=>O i hi)) (Y _ _ hr hp);have H:=λk (hk:k<w.heap.size)=>(M4 (κ:=κ1) (i:=1) (w':=xa) (Ax hk hc)).trans (hmv k hk);have z:=ht;refine Fk (λc3=>?_) λc3=>?_
   ·refine go ?_;rw[hsv,VZ hf c3];exact⟨_,rfl,r,rfl,_,H,z⟩
   refine go ?_;exact⟨(k+1,_,_),He,⟨r,by omega,by rw[hsv,Xs hf (AE (by exact c3))],H,z⟩,by simp only [];omega⟩
  exact IZ
 refine go ?_;rw[hsv,BD (by rw[Aw];simp at c1;omega)];exact⟨_,rfl,r,rfl,_,hmv,z⟩
def Kw (κ:Nat->Nat)(bt:Nat)(vl vb:Value):Nat->Nat:=λk=>if k=bt\/k=(base vl).1\/k=(base vb).1 then 6 else κ k
theorem Xua (tbs:List Tb):∀ts:List Tb,(tbs.foldl Hr ts).length<=ts.length+tbs.length:=by
 induction tbs with
 | nil=>intro ts;exact Aa _
 | cons t r ih=>
  intro ts;have h1:=ih (Hr ts t);have h2:(Hr ts t).length<=ts.length+1:=by unfold Hr;split<;>simp
  show((r.foldl Hr (Hr ts t)).length<=_);simp only [AA];omega
def M1 (ts:List Tb)(gone:List Fi):List Tb:=gone.foldl (λts f=>Ki ts (f.lev,f.id)) ts
theorem Xqt {ts:List Tb}{gone:List Fi}{j:Nat}{f:Fi}(h:gone[j]?=some f):M1 ts (gone.take (j+1))=Ki (M1 ts (gone.take j)) (f.lev,f.id):=by unfold M1;rw[GQ h,BC];rfl
section
variable {κ:Nat->Nat}{bs bd bl bo bm:Nat}{vf:Value}{L:Led}{D:Dsk}{V:Vs}{ts:List Tb}{mem:List Cell}{dead:Bool}{w w':World}
theorem StE.addT {t:Tb}(h:StE κ bs bd bl bo bm vf L D V ts mem dead w)(hT:TblE t.bt t.vl t.vb t.cs w)(hn:∀k,Ke t.bt t.vl t.vb k->κ k=0)(m:Vc.Mod (Fu bo) w w')(hm:Gl Tryz.prog 104 GH pO w' bo (FG (ts.map Tb.kv) t.h (some t.bt))):StE (Kw κ t.bt t.vl t.vb) bs bd bl bo bm vf L D V (Hr ts t) mem dead w':=by
 have o:∀k,κ k≠0->Kw κ t.bt t.vl t.vb k=κ k:=λk hk=>by
  unfold Kw;rw[if_neg];intro e;exact hk (hn k e)
 have z:=h.relab o (λk hk=>by
  unfold Kw at hk;split at hk
  ·rename_i e;exact hT.lt k e
  ·exact h.lt k hk)
 refine z.setMap m (by rw[X74];exact hm) λq r=>?_;rcases X2j r with rfl|r
 ·exact⟨hT,λk hk=>by unfold Kw;rw[if_pos hk]⟩
 ·exact⟨z.tb q r,z.k6 q r⟩
theorem StE.subT {x:Int×Int}(h:StE κ bs bd bl bo bm vf L D V ts mem dead w)(m:Vc.Mod (Fu bo) w w')(hm:Gl Tryz.prog 104 GH pO w' bo (G2 (ts.map Tb.kv) x)):StE κ bs bd bl bo bm vf L D V (Ki ts x) mem dead w':=
 h.setMap m (by rw[X75];exact hm) λq r=>⟨h.tb q (Av.1 r).1,h.k6 q (Av.1 r).1⟩
end
theorem X8d (κ:Nat->Nat)(bs bd bl bo bm:Nat)(vf:Value)(L:Led)(D:Dsk)(V:Vs)(ts:List Tb)(mem:List Cell)(dead:Bool)(V':Vs)(vf':Value)(qs:List (Md×List Cell))(va:Value)(gone:List Fi)(vg:Value)(w:World)(h:StE κ bs bd bl bo bm vf L D V ts mem dead w)(hvf:Fs Fi.cs 5 w vf' V'.fs)(hvk:V'.fs≠[]->κ (base vf').1=0)(ha:Fs Md.cs 7 w va (qs.map (·.1)))(hal:qs.length<=40000)(hak:qs≠[]->κ (base va).1=0)(hq:∀q∈qs,Fs Fq 1 w q.1.vb (F7 (Gg q.2))/\ID q.2=0/\Fx q.1.f.id/\Fx q.1.f.lev/\(F7 (Gg q.2)≠[]->κ (base q.1.vb).1=0)/\q.1.vl.oneCell'=true)(hg:Fs Fi.cs 5 w vg gone)(hgl:gone.length<=40000)(hgk:gone≠[]->κ (base vg).1=0)(hgi:∀f∈gone,Fx f.id/\Fx f.lev)(htl:ts.length<=1000000) :
  Gy 95 [Fg bs 0,.agg ⟨[I V'.next,vf']⟩,va,vg] w (λk=>κ k≠0) λu w'=>u=I 0/\∃κ' ts',(∀k,k<w.heap.size->(V'.fs≠[]->k≠(base vf').1)->κ' k=κ k)/\(∃tbs:List Tb,tbs.map (λt=>(t.h,t.cs))=qs.map (λq=>((q.1.f.lev,q.1.f.id),q.2))/\ts'=M1 (tbs.foldl Hr ts) gone)/\StE κ' bs bd bl bo bm vf' L D V' ts' mem dead w':=by
 refine cM Tryz.func95 (λk=>κ k≠0) λz=>?_;have r:=h;have hmlen:(qs.map (·.1)).length=qs.length:=Aw _;refine go ?_;refine Gx rfl rfl rfl RX.all (λb1 w1 e1 x1 H=>?_);have g1:=z.ge e1;have a1_hS:=r.lt;refine Fz x1 r z λr z=>go ?_;refine dv 161 7 (ha.mod z (λJ e=>e (hak (by rintro rfl;exact J rfl)))).sl (F9 (G:=Nat×(Nat->Nat)×List Tb) (λ(k,κ1,tbs)=>[(0,Fg bs 0),(3,vg),(5,Fg b1 0),(15,va),(16,I ↑(qs.map (·.1)).length),(17,I ↑k)]) (λ(k,κ1,tbs) w'=>Mod (λk=>κ k≠0) w w'/\k<=qs.length/\tbs.length=k/\tbs.map (λt=>(t.h,t.cs))=(qs.take k).map (λq=>((q.1.f.lev,q.1.f.id),q.2))/\(∀k,k<w.heap.size->κ1 k=κ k)/\StE κ1 bs bd bl bo bm vf L D V (tbs.foldl Hr ts) mem dead w'/\Fo w' b1 [I V'.next,vf'] 56) (λ(k,κ1,tbs)=>qs.length-k) (0,κ,[]) ⟨z,Ab _,rfl,rfl,λ_ _=>rfl,r,H⟩ ?_);rintro _ ⟨k,κ1,tbs⟩ w2 ⟨z,hk1,htl9,htb,hmv,r,H⟩;refine Fk (λc1=>?_) λc1=>?_
 ·obtain⟨q,hk⟩:∃q,qs[k]?=some q:=F8;obtain⟨hw,xh,xm,xa,xi,xk⟩:=hq q (Ag hk);have xc:(qs.map (·.1))[k]?=some q.1:=by simp [hk]
  have hwsz:=z.size;refine FK 161 7 ha.sl (ha.lt xc) ?_;refine dq (Fy Fe rfl rfl ((ha.mod z (λJ e=>e (hak (by rintro rfl;exact J rfl)))).row xc)) (aL [.int .i64 0,.int .i64 0,.int .i64 0,S [],S [],.slice none 0 0,.slice none 0 0] λb2 w3 e2 x3 m2=>?_);have g2:=z.ge e2;have n2_1:=H.ltb e2;have hh:=r.lt;refine FB x3 r H z λr H z=>?_;refine Gc m2 (λw4 x4 xs4 m2=>?_) (h1:=by(intro u hu;simp only [Ah,Co,or_false]at hu;rcases hu with e|e|e|e|e|e|e<;>subst e<;>first|rfl|exact xk|exact hw.sl.one));have r:=r.mod x4 (λk9 h9 e9=>by have h2:k9=b2:=e9;have h8:=hh k9 h9;omega);have H:=H.mo x4;have z:=z.o1 x4;refine go ?_;refine df 6 (rfl) (go ?_);have xe:=r.lt;refine cG (Yan q.2 q.1.vb _ (hw.mod z (λJ e=>e (xi J))) xh) RX.all λu5 w5 x5 xn=>?_;have hsz5:=z.size;refine FP x5 r H m2 z λr H m2 z=>?_;obtain⟨bt,vl,hc,rfl,hT,hy⟩:=xn;have xj:∀k,Ke bt vl hc k->κ1 k=0:=λk hk=>Bc λh9=>by have h1:=hy k hk;have h2:=xe k h9;omega
  refine Fk (λc2=>?_) λc2=>?_
  ·exact absurd rfl c2
  refine go ?_;refine HM (R:=Mod (Fu bo)) HT Ir Fe [3,6,9] [(0,.p,false),(1,.p,false),(2,.p,false),(3,.l,false),(4,.p,false),(5,.p,false),(6,.l,false),(7,.p,false),(8,.p,false),(9,.l,false),(10,.p,false),(11,.p,false),(12,.x,true)] rfl Fe Fe (λw6 h7=>?_);have x6:=FC h7;clear h7;refine FV x6 r H m2 hT z λr H m2 hT z=>go ?_;refine df 4 (rfl) (dL rfl (λ_ hR=>((r.m.mod hR (λe=>r.mp.at.ne_blk r.m e)).at rfl)) (go ?_));refine dL rfl (λ_ hR=>((m2.mod hR (λe=>r.mp.at.ne_blk m2 e)).at rfl)) (go ?_);refine dL rfl (λ_ hR=>((m2.mod hR (λe=>r.mp.at.ne_blk m2 e)).at rfl)) (db (zs:=[.int .i64 0,.int .i64 0]) (pl:=[(0,1),(1,1)]) (pv:=[(0,_),(1,_)]) (cs:=[_,_]) ?_);refine go ?_;refine St NE (kx:=(q.1.f.lev,q.1.f.id)) (a:=some bt) rfl rfl rfl rfl r.mp ⟨xa,xm⟩ (by have:=Xua tbs ts;rw[Aw];unfold maxLen;omega) (.inl rfl) (λw7 x7 xs7 Y=>?_);have O:=r.addT (t:=⟨(q.1.f.lev,q.1.f.id),bt,vl,hc,q.2⟩) hT xj x7 Y;clear hT;have hj:=H.mod x7 (λe=>r.mp.at.ne_blk H e);have z:=z.own x7 (λi hi h6=>by have Z:i=bo:=hi;rw[Z,h.k2];decide);have r:=O;have xd:∀k,k<w.heap.size->Kw κ1 bt vl hc k=κ k:=λk hk=>by
   unfold Kw;rw[if_neg (λe=>by have:=hy k e;omega)];exact hmv k hk
  have H:=hj;refine go ?_;exact⟨(k+1,_,tbs++[⟨(q.1.f.lev,q.1.f.id),bt,vl,hc,q.2⟩]),Hn,⟨z,by omega,by simp [htl9],by rw[A6,htb,GQ hk,A6];rfl,xd,by rw[BC];exact r,H⟩,by simp only [];omega⟩
 have xg:k=qs.length:=by omega
 subst xg;rw[AV]at htb;refine FL 62 5 (hg.mod z (λJ e=>e (hgk J))).sl ?_;refine F9 (G:=Nat) (λj=>[(0,Fg bs 0),(5,Fg b1 0),(45,vg),(46,I ↑gone.length),(47,I ↑j)]) (λj w'=>Mod (λk=>κ k≠0) w w'/\j<=gone.length/\StE κ1 bs bd bl bo bm vf L D V (M1 (tbs.foldl Hr ts) (gone.take j)) mem dead w'/\Fo w' b1 [I V'.next,vf'] 56) (λj=>gone.length-j) 0 ⟨z,Ab _,r,H⟩ ?_;rintro _ j w8 ⟨z,hj1,r,H⟩;refine Fk (λc3=>?_) λc3=>?_
 ·obtain⟨f,hk⟩:∃f,gone[j]?=some f:=F8;obtain⟨xb,h5⟩:=hgi f (Ag hk);refine FK 62 5 hg.sl (hg.lt hk) ?_;refine dq (Fy Fe rfl rfl ((hg.mod z (λJ e=>e (hgk J))).row hk)) (aL [.int .i64 0,.int .i64 0,.int .i64 0,S [],S []] λb3 w9 e3 x9 m3=>?_);have g3:=z.ge e3;have n3_1:=H.ltb e3;have hr:=r.lt;refine FB x9 r H z λr H z=>Gc m3 (λw10 hp xs10 m3=>?_);have r:=r.mod hp (λk9 h9 e9=>by have h2:k9=b3:=e9;have h8:=hr k9 h9;omega);have H:=H.mo hp;have z:=z.o1 hp;refine go ?_;refine HM (R:=Mod (Fu bo)) HT Ir Fe [3,5,7] [(0,.p,false),(1,.p,false),(2,.p,false),(3,.l,false),(4,.p,false),(5,.l,false),(6,.p,false),(7,.l,false),(8,.p,false),(9,.x,false)] rfl Fe Fe (λw11 hf=>?_);have xf:=FC hf;clear hf;refine FP xf r H m3 z λr H m3 z=>go ?_;refine df 4 (rfl) (dL rfl (λ_ hR=>((r.m.mod hR (λe=>r.mp.at.ne_blk r.m e)).at rfl)) (go ?_));refine dL rfl (λ_ hR=>((m3.mod hR (λe=>r.mp.at.ne_blk m3 e)).at rfl)) (go ?_);refine dL rfl (λ_ hR=>((m3.mod hR (λe=>r.mp.at.ne_blk m3 e)).at rfl)) (db (zs:=[.int .i64 0,.int .i64 0]) (pl:=[(0,1),(1,1)]) (pv:=[(0,_),(1,_)]) (cs:=[_,_]) ?_);refine RT NE (kx:=(f.lev,f.id)) rfl rfl rfl r.mp ⟨h5,xb⟩ (.inr λ_ h=>h) (λw12 ht xs12 Y=>?_);have O:=r.subT ht Y;have hj:=H.mod ht (λe=>r.mp.at.ne_blk H e);have z:=z.own ht (λi hi h6=>by have Z:i=bo:=hi;rw[Z,h.k2];decide);have r:=O;have H:=hj;refine go ?_;rw[<-Xqt hk]at r;exact FJ (j+1) ⟨z,by omega,r,H⟩
 refine go ?_;refine dq (Fy (k:=2) Fe rfl rfl H.row) (go ?_);refine OA (v:=.agg ⟨[I V'.next,vf']⟩) (vs:=[I V'.next,vf']) rfl rfl rfl rfl Fe r.m (Aj rfl) (by intro u hu;rcases Ah.1 hu with e|hu;subst e;rfl;rw[Af.1 hu];exact hvf.sl.one) (.inl rfl) (λw13 hz xs13 Y=>?_);have O:=r.setV (V':=V') (vf':=vf') hz Y (hvf.mod z (λJ e=>e (hvk J))) (λJ=>(hmv _ (hvf.base_lt Fj J)).trans (hvk J));have z:=z.own hz (λi hi h6=>by have Z:i=bs:=hi;rw[Z,h.k0];decide);have r:=O;refine go ?_;rw[Ar Fb]at r;refine⟨_,rfl,z,rfl,_,_,?_,⟨tbs,htb,rfl⟩,r⟩;intro k hk xl;split
 ·exact hmv k hk
 ·rename_i h9;unfold L4;rw[if_neg (xl h9)];exact hmv k hk
def MJ (D:Dsk)(i:Int)(p:Fh):Int×Dsk:=if(D.save Led.img (Led.ent i p)).1=0 then(D.save Led.img (Led.ent i p)).2.rems [Led.logn]else D.save Led.img (Led.ent i p)
variable {L:Led}{i:Int}{p:Fh}
theorem X8e (h:L.dead=true):L.write D i p=(9,L,D):=by unfold Led.write;rw[if_pos h]
theorem W9 (h:L.dead=false)(h2:i<L.last\/1099511627776<i):L.write D i p=(1,L,D):=by unfold Led.write;rw[if_neg (by rw[h];decide),if_pos h2]
theorem X8f (h:L.dead=false)(h2:¬ (i<L.last\/1099511627776<i))(h3:524288<p.length):L.write D i p=(5,L,D):=by unfold Led.write;rw[if_neg (by rw[h];decide),if_neg h2,if_pos h3]
theorem Ybq (h:L.dead=false)(h2:¬ (i<L.last\/1099511627776<i))(h3:¬ 524288<p.length)(h4:(MJ D i p).1≠0):L.write D i p=((MJ D i p).1,{ L with dead:=true },(MJ D i p).2):=by unfold Led.write;rw[if_neg (by rw[h];decide),if_neg h2,if_neg h3];exact if_pos h4
theorem X8g (h:L.dead=false)(h2:¬ (i<L.last\/1099511627776<i))(h3:¬ 524288<p.length)(h4:¬ (MJ D i p).1≠0):L.write D i p=(0,⟨i,p,[],false⟩,(MJ D i p).2):=by unfold Led.write;rw[if_neg (by rw[h];decide),if_neg h2,if_neg h3];exact if_neg h4
theorem LedE.image {G:Nat->Prop}{bl bd:Nat}{vd ve vp:Value}{vs:List (Value×Fh)}{w0 w':World}(h:LedE G bl bd vd ve vs L w0)(hs:w0.heap.size<=w'.heap.size)(hm:Fo w' bl [Fg bd 0,S [115],I i,vp,.slice none 0 0,B false] 147)(ha:Fs Fq 1 w' vp p)(hf:p≠[]->w0.heap.size<=(base vp).1)(h0:0<=i)(h1:i<=1099511627776)(hp:p.length<=524288):
  LedE (FSq G w0 w') bl bd vp (.slice none 0 0) [] ⟨i,p,[],false⟩ w':=by
 refine⟨hm,ha,Vc.Own.nil,rfl,(λq r=>by cases r),λk hk=>?_,λk hk=>?_,Jk h.lt hs,h0,h1,hp,(λq r=>by cases r),(by simpa [Led.last]using h1)⟩
 ·rcases hk with rfl|hk|hk|⟨q,r,_⟩
  ·exact .inl (h.inG _ (.inl rfl))
  ·cases hk
  ·obtain⟨z,rfl⟩:=hk;exact .inr ⟨hf z,ha.base_lt Fj z⟩
  ·cases r
 ·rcases hk with hk|⟨q,r,_⟩
  ·obtain⟨z,rfl⟩:=hk;refine⟨λe=>?_,λe=>by cases e⟩;have h1:=hf z;have h2:=h.lt bl (h.inG bl (.inl rfl));rw[e]at h1;omega
  ·cases r
theorem X8h (H:Nat->Prop)(bl bd:Nat)(L:Led)(D:Dsk)(ix:Int)(p:Fh)(vp:Value)(w:World)(h:LD H bl bd L D w)(hp:Fs Fq 1 w vp p)(hpl:p.length<=1000000)(hpH:p≠[]->¬ H (base vp).1) :
  Gy 94 [Fg bl 0,I ix,vp] w H λu w'=>u=I (L.write D ix p).1/\LD (FSq H w w') bl bd (L.write D ix p).2.1 (L.write D ix p).2.2 w':=by
 refine cE Tryz.func94 λr=>?_;have hh:=h;obtain⟨F,G,vd,ve,vs,hA,z,ha,Z,hc⟩:=h;have J:=z.m;have hla:=z.la;have hb0:=z.b0;have hl0:0<=L.last:=by unfold Led.last;omega
 have Y:=z.lt;have hblt:=J.lt;have xl:=Gq (HC ix);have hbl1:([ix].flatMap G4).length<=10:=by simpa [G4]using xl
 have helen:=P6 ix p;refine go ?_;refine dp (GS Fe rfl rfl) ?_;refine Fk (λc1=>?_) λc1=>?_
 ·exact absurd c1 F5
 refine FZ (λc2=>?_) λc2=>?_
 ·refine go ?_;rw[X8e c2];exact⟨_,rfl,r.mono (λ_ h _=>h.elim),rfl,hh.grow r⟩
 refine Gp (H5 G bl bd vd ve vs L _ z) λw1 x1=>FP x1 J z hA r λJ z hA r=>?_;refine ds1 22 (λc3=>?_) λc3=>?_
 ·refine go ?_;refine GD rfl (go ?_);rw[W9 c2 Fb];exact⟨_,rfl,r.mono (λ_ h _=>h.elim),rfl,hh.grow r⟩
 refine Fk (λc4=>?_) λc4=>?_
 ·refine go ?_;rw[W9 c2 Fb];exact⟨_,rfl,r.mono (λ_ h _=>h.elim),rfl,hh.grow r⟩
 have hr:¬ (ix<L.last\/1099511627776<ix):=by omega
 refine FL 5 1 hp.sl ?_;refine Fk (λc5=>?_) λc5=>?_
 ·refine go ?_;rw[X8f c2 hr Fb];exact⟨_,rfl,r.mono (λ_ h _=>h.elim),rfl,hh.grow r⟩
 have hj:¬ 524288<p.length:=by omega
 refine go ?_;refine aL [.slice none 0 0] λb1 w2 e1 x2 m1=>?_;have g1:=r.ge e1;have a1_hl:=J.lt;have a1_hE:=z.lt;have a1_hA:=hA.lt;refine FP x2 J z hA r λJ z hA r=>go ?_;refine li (e:=3) (sz:=1) (zs:=[.int .i64 0]) (pv:=[(0,_)]) (cs:=[_]) RX.all (λb2 w3 e2 x3 m2=>?_);have g2:=r.ge e2;have n2_1:=m1.ltb e2;have a2_hl:=J.lt;have a2_hE:=z.lt;have a2_hA:=hA.lt;refine FV x3 J z hA m1 r λJ z hA m1 r=>?_;have O:Wr w.heap.size b1 (.slice none 0 0) [] w3:=⟨m1,Vc.Own.nil⟩;refine cD (KT w.heap.size b1 (.slice none 0 0) [] [ix] (.slice (some ⟨b2,0,none⟩) 1 1) _ O F5 r.size (m2.arr (enc:=Vc.encI) (sz:=1) (l:=[ix]) rfl Ff rfl F5) F5 (λk hk _ e=>hk.elim (λh=>by have e2:b2=k:=e;omega) (λh=>by cases h))) (.inl rfl) λu4 w4 x4 xt=>?_;have hsz4:=r.size;have J:=J.mod x4 (λh=>by have h8:=O.ge g1 h;omega);have z:=z.mod x4 (λk hk h=>by have h9:=Y k hk;have h8:=O.ge g1 h;omega);have hA:=hA.mod x4 (λk hk h=>by have h9:=hc k (Z k (.inl hk));have h8:=O.ge g1 h;omega);have r:=r.own x4 (λi hi=>O.ge g1 hi);obtain⟨rfl,v2,O,hg2⟩:=xt;refine go ?_;refine Io (e:=82) (sz:=1) (zs:=[.slice none 0 0]) (pv:=[(0,?a27_0)]) (cs:=[?a27_0]) rfl Fe ⟨rfl,rfl⟩ Fe rfl ?h27 ?f27 RX.all (λb3 w5 e3 x5 m3=>?k27)
 case h27=>refine⟨rfl,?_,trivial⟩<;>(conv=>lhs;whnf)
 case f27=>simp [Hm,Gr,An,hp.sl.cells]
 have g3:=r.ge e3;have a3_hl:=J.lt;have a3_hE:=z.lt;have a3_hA:=hA.lt;have hf:=O.lt;refine FV x5 J z hA O r λJ z hA O r=>cD (Mb w.heap.size b1 v2 _ [(vp,p)] (.slice (some ⟨b3,0,none⟩) 1 1) _ O (by rw[AB];omega) r.size (Lf m3) (λq h=>by rw[Af.1 h];exact hp.ext r) (λq h=>by rw[Af.1 h];exact hpl) F5 (λ_ h=>A4 b3 (AD (hf _ h) e3.symm)) (λq h J h2=>by rw[Af.1 h]at J h2;have h8:=hp.base_lt Fj J;have h7:=O.ge g1 h2;exact absurd (Ax h8 h7) (A4 _))) (.inl rfl) λu6 w6 x6 xp=>?_;have hsz6:=r.size;have J:=J.mod x6 (λh=>by have h8:=O.ge g1 h;omega);have z:=z.mod x6 (λk hk h=>by have h9:=Y k hk;have h8:=O.ge g1 h;omega);have hA:=hA.mod x6 (λk hk h=>by have h9:=hc k (Z k (.inl hk));have h8:=O.ge g1 h;omega);have r:=r.own x6 (λi hi=>O.ge g1 hi);obtain⟨rfl,v3,O,hg3⟩:=xp;refine g0 ?_;refine GK (G:=(Nat->Prop)×Dsk×Int) (λ(F1,D1,e1)=>[(0,Fg bl 0),(1,I ix),(2,vp),(6,I 0),(8,I e1)]) (λ(F1,D1,e1) w'=>Mod H w w'/\G6 F1 bd D1 w'/\LedE G bl bd vd ve vs L w'/\(∀k,F1 k->F k\/w.heap.size<=k)/\Fo w' bl [Fg bd 0,S [115],I L.base,vd,ve,B L.dead] 147/\D.save Led.img (Led.ent ix p)=(e1,D1)) ?_ ?_
 ·refine wd 10522201000 λw7 x7=>FV x7 J z hA O r λJ z hA O r=>go ?_;refine cP (HD G bl bd vd ve vs L _ z) RX.ext λw8 x8=>FV x8 J z hA O r λJ z hA O r=>cG (Od w.heap.size b1 v3 _ _ O (by simp only [AB,Ad,Am,Bf,List.flatMap_cons,List.flatMap_nil,AH,FA,G4]at *;have h5:=Gq p.length;omega)) RX.ext λvo w9 x9 hB=>?_;have hsz9:=r.size;refine FP x9 J z hA r λJ z hA r=>?_;rw[show([]++[ix].flatMap G4)++List.flatMap FA ([(vp,p)].map (λq:Value×Fh=>q.2))=Led.ent ix p by rw[AB];exact WD Fb Fb]at hB;refine Io (e:=82) (sz:=1) (zs:=[.slice none 0 0]) (pv:=[(0,?a30_0)]) (cs:=[?a30_0]) rfl Fe ⟨rfl,rfl⟩ Fe rfl ?h30 ?f30 RX.ext (λb4 w10 e4 xq m4=>?k30)
  case h30=>refine⟨rfl,?_,trivial⟩<;>(conv=>lhs;whnf)
  case f30=>simp [Hm,Gr,An,hB.sl.cells]
  have g4:=r.ge e4;have a4_hl:=J.lt;have a4_hE:=z.lt;have a4_hA:=hA.lt;have o4_hB:=hB.ltb e4;refine FV xq J z hA hB r λJ z hA hB r=>cD (RN F bd D Led.img (Led.ent ix p) vo _ _ hA (m4.arr (enc:=λx:Value=>[x]) (sz:=1) (l:=[vo]) rfl Ff rfl F5) (hB.arr Ff) Fb Fj) (.inl rfl) λu11 w11 hz xg=>?_;have h6:=r.size;have J:=J.mod hz (λh=>ha bl h (z.inG bl (.inl rfl)));have z:=z.mod hz (λk hk h=>ha k h hk);have r:=(r.mod hz).mono (λi hi hc=>(Z i (.inl hi):H i));obtain⟨rfl,hA⟩:=xg;have xi:=h6;refine go ?_;exact⟨(_,_,_),GC,r,hA,z,MU xi,J,rfl⟩
 rintro _ ⟨F1,D1,e1⟩ w12 ⟨r,hA,z,hsub1,J,hR1⟩;have hs1:=r.size;refine GK (G:=(Nat->Prop)×Dsk×Int) (λ(F2,D2,e)=>[(0,Fg bl 0),(1,I ix),(2,vp),(6,I 0),(8,I e)]) (λ(F2,D2,e) w'=>Mod H w w'/\G6 F2 bd D2 w'/\LedE G bl bd vd ve vs L w'/\(∀k,F2 k->F k\/w.heap.size<=k)/\Fo w' bl [Fg bd 0,S [115],I L.base,vd,ve,B L.dead] 147/\MJ D ix p=(e,D2)) ?_ ?_
 ·refine Fk (λc6=>?_) λc6=>?_
  ·refine wd 1052201000 λw13 xv=>FP xv hA z J r λhA z J r=>go ?_;refine cP (GR G bl bd vd ve vs L _ z) RX.ext λw14 xm=>FP xm hA z J r λhA z J r=>li (e:=9) (sz:=1) (zs:=[S []]) (pv:=[(0,_)]) (cs:=[_]) RX.ext (λb5 w15 e5 xn m5=>?_);have g5:=r.ge e5;have hy:=hA.lt;have a5_hE:=z.lt;have a5_hl:=J.lt;refine FP xn hA z J r λhA z J r=>cD (Iz F1 bd D1 [Led.logn] _ _ hA (LU m5) F5 (λ_ hF=>A4 b5 (AD (hy _ hF) e5.symm))) (.inl rfl) λu16 w16 hw xh=>?_;have hsz16:=r.size;have z:=z.mod hw (λk hk h=>(hsub1 _ h).elim (λh=>ha _ h hk) (λh=>by have h9:=Y _ hk;omega));have J:=J.mod hw (λh=>(hsub1 _ h).elim (λh=>ha _ h (z.inG bl (.inl rfl))) (λh=>by have h9:=Y _ (z.inG bl (.inl rfl));omega));have r:=r.own hw (λi hi hc=>Z i (.inl ((hsub1 i hi).resolve_right Fb)));obtain⟨rfl,hA⟩:=xh;refine go ?_;exact⟨(_,_,_),GC,r,hA,z,λk hk=>hk.elim (hsub1 k) (λh9=>.inr Fb),J,by unfold MJ;rw[hR1,if_pos c6]⟩
  refine go ?_;exact⟨(F1,D1,e1),GC,r,hA,z,hsub1,J,by unfold MJ;rw[hR1,if_neg c6]⟩
 rintro _ ⟨F2,D2,e⟩ w17 ⟨r,hA,z,hsub,J,hR⟩;have hsw:=r.size;refine Gw (X4i G bl bd vd ve vs L e _ z) λu18 xr xk xe=>?_;have hsz18:=r.size;have hA:=hA.mod xk (λk hk e9=>by have e8:k=bl:=e9;subst e8;exact(hsub _ hk).elim (λh=>ha _ h (z.inG _ (.inl rfl))) (λh=>by have h9:=Y _ (z.inG _ (.inl rfl));omega));have r:=r.own xk (λi hi hc=>(by have e2:i=bl:=hi;rw[e2];exact Z bl (.inr (z.inG bl (.inl rfl)))));obtain⟨rfl,z⟩:=xe;refine Fk (λc7=>?_) λc7=>?_
 ·have xa:e=0:=c7;have hq:{ L with dead:=L.dead || decide (e≠0) } = L:=by rw[c2,xa];cases L;simp at c2 ⊢;exact c2
  rw[hq]at z;have J:=z.m;have xu:=hA.lt;have xj:=r.size;refine Ge (Nt p vp _ (hp.mod r hpH) Fb) λvc w19 xd hC=>?_;have hsz19:=r.size;refine FB xd hA J r λhA J r=>?_;have hne3:=hC.ne_blk J rfl;refine go ?_;refine HG J (λw20 xb xs20 J=>?_) (hv:=by rfl);have hA:=hA.mod xb (λk hk e9=>by have e8:k=bl:=e9;subst e8;exact(hsub _ hk).elim (λh=>ha _ h (z.inG _ (.inl rfl))) (λh=>by have h9:=Y _ (z.inG _ (.inl rfl));omega));have hC:=hC.mod xb Fw;have r:=r.own xb (λi hi _=>(by have e2:i=bl:=hi;rw[e2];exact Z bl (.inr (z.inG bl (.inl rfl)))));refine go ?_;refine HG J (λw21 xc xs21 J=>?_) (hv:=by exact hC.sl.one);have hA:=hA.mod xc (λk hk e9=>by have e8:k=bl:=e9;subst e8;exact(hsub _ hk).elim (λh=>ha _ h (z.inG _ (.inl rfl))) (λh=>by have h9:=Y _ (z.inG _ (.inl rfl));omega));have hC:=hC.mod xc Fw;have r:=r.own xc (λi hi _=>(by have e2:i=bl:=hi;rw[e2];exact Z bl (.inr (z.inG bl (.inl rfl)))));refine go ?_;refine HG J (λxf ht xs22 J=>?_) (hv:=by rfl);have hA:=hA.mod ht (λk hk e9=>by have e8:k=bl:=e9;subst e8;exact(hsub _ hk).elim (λh=>ha _ h (z.inG _ (.inl rfl))) (λh=>by have h9:=Y _ (z.inG _ (.inl rfl));omega));have hC:=hC.mod ht Fw;have r:=r.own ht (λi hi _=>(by have e2:i=bl:=hi;rw[e2];exact Z bl (.inr (z.inG bl (.inl rfl)))));refine go ?_;have hs22:=xd.size;rw[c2]at J;have xo:=z.image (w':=xf) (i:=ix) (p:=p) Fb J (hC.arr Ff) (λhn=>(hC.base_ge hn).1) Fb Fb Fb;refine⟨_,rfl,r,?_⟩;rw[X8g c2 hr hj (by rw[hR,xa];simp),hR,xa];refine⟨rfl,F2,FSq G xr xf,vc,_,_,hA,xo,λk hk hg=>?_,λk hk=>hk.elim (λh=>(hsub k h).elim (λh2=>.inl (Z k (.inl h2))) (λh2=>.inr ⟨h2,hA.lt k h⟩)) (λh=>?_),Jk hc r.size⟩
  ·rcases hg with hg|hg
   ·exact(hsub k hk).elim (λh=>ha k h hg) (λh=>by have:=Y k hg;omega)
   ·have:=xu k hk;omega
  ·rcases h with h|h
   ·exact .inl (Z k (.inr h))
   ·exact .inr ⟨Ae xj h.1,h.2⟩
 refine go ?_;have hq:{ L with dead:=L.dead || decide (e≠0) } = { L with dead:=true }:=by rw[c2];simp [show¬ e=0 from c7]
 rw[hq]at z;refine⟨_,rfl,r,?_⟩;rw[Ybq c2 hr hj (by rw[hR];exact c7),hR];exact⟨rfl,F2,G,vd,ve,vs,hA,z,λk hk hg=>(hsub k hk).elim (λh=>ha k h hg) (λh=>by have:=Y k hg;omega),λk hk=>hk.elim (λh=>(hsub k h).elim (λh2=>.inl (Z k (.inl h2))) (λh2=>.inr ⟨h2,hA.lt k h⟩)) (λh=>.inl (Z k (.inr h))),Jk hc r.size⟩
def Gm (lv next:Int)(ss:List (List Cell)):List Fi:=ss.zipIdx.map λp=>Lw lv next p.2 p.1
def Ko (next:Int)(ss:List (List Cell)):List (Int×Fh):=ss.zipIdx.map λp=>(next+↑p.2,F7 (Gg p.1))
def M3 (lv next:Int)(ss:List (List Cell)):List ((Int×Int)×List Cell):=ss.zipIdx.map λp=>((lv,next+↑p.2),p.1)
def JJ (b0 B1:Nat)(lv next:Int)(xs:List Md)(ss:List (List Cell))(w:World):Prop:=L0 b0 lv next xs ss w/\∀x∈xs,(base x.vb).1<B1
section
variable {b0 B1:Nat}{lv next:Int}{xs:List Md}{ss:List (List Cell)}{w w':World}{S:Nat->Prop}
theorem JJ.mod (h:JJ b0 B1 lv next xs ss w)(m:Vc.Mod S w w')(hS:∀k,b0<=k->k<B1->¬ S k):JJ b0 B1 lv next xs ss w':=
 ⟨⟨h.1.1,λj x sg r hs=>by
  obtain⟨h1,h2,h3,h4,z⟩:=h.1.2 j x sg r hs;exact⟨h1,h2,h3.mod m (λ_=>hS _ h4 (h.2 x (Ag r))),h4,z⟩⟩,h.2⟩
theorem JJ.ext (h:JJ b0 B1 lv next xs ss w)(m:Fp w w'):JJ b0 B1 lv next xs ss w':=h.mod m (λ_ _ _ h=>h)
instance : Up w w' (JJ b0 B1 lv next xs ss w) (JJ b0 B1 lv next xs ss w'):=⟨λx h=>JJ.ext h x⟩
theorem L0.up (h:L0 b0 lv next xs ss w):JJ b0 w.heap.size lv next xs ss w:=⟨h,λx z=>by
 obtain⟨i,hi⟩:=AQ z;have r:=(Ap.1 hi).1;obtain⟨h1,h2,h3,h4,h5⟩:=h.2 i x _ hi (Au (by rw[<-h.1];exact r));exact h3.base_lt Fj (λe=>by have:=KA (Gg (ss[i]'(by rw[<-h.1];exact r)));rw[e]at this;simp at this)⟩
theorem Nb {α:Type}(l:List α)(i:Nat):l.zipIdx[i]?=l[i]?.map λx=>(x,i):=by
 rw[List.getElem?_zipIdx];simp
theorem L0.files (h:L0 b0 lv next xs ss w):xs.map (·.f)=Gm lv next ss/\(xs.zip (ss.map λsg=>F7 (Gg sg))).map (λq=>(q.1.f.id,q.2))=Ko next ss/\(xs.zip ss).map (λq=>((q.1.f.lev,q.1.f.id),q.2))=M3 lv next ss:=by
 have z:∀i x,xs[i]?=some x->∃sg,ss[i]?=some sg/\x.f=Lw lv next i sg:=λi x hi=>by
  have J:=(Ap.1 hi).1;have hs:ss[i]?=some (ss[i]'(by rw[<-h.1];exact J)):=Au _;exact⟨_,hs,(h.2 i x _ hi hs).1⟩
 have r:∀i,xs[i]?=none->ss[i]?=none:=λi hi=>by
  rw[EP]at *;rw[<-h.1];exact hi
 refine⟨?_,?_,?_⟩
 ·apply BB
  intro i;unfold Gm;rw[AG,AG,Nb]
  cases hi:xs[i]? with
  | none=>rw[r i hi];rfl
  | some x=>obtain⟨sg,hs,H⟩:=z i x hi;rw[hs];simp [H]
 ·apply BB
  intro i;unfold Ko;rw[AG,AG,Nb]
  cases hi:xs[i]? with
  | none=>rw[r i hi];simp [D5,D6,hi]
  | some x=>obtain⟨sg,hs,H⟩:=z i x hi;simp [D5,D6,hi,hs,H,Lw]
 ·apply BB
  intro i;unfold M3;rw[AG,AG,Nb]
  cases hi:xs[i]? with
  | none=>rw[r i hi];simp [D5,D6,hi]
  | some x=>obtain⟨sg,hs,H⟩:=z i x hi;simp [D5,D6,hi,hs,H,Lw]
end
def L9 (L:Led)(D:Dsk)(V:Vs)(ts:List Tb)(dead:Bool)(l:List Cell)(lv:Int)(gone:List Fi)(e:Int)(L':Led)(D':Dsk)(V':Vs)(ts':List Tb)(dead':Bool):Prop:=
 (e≠0/\L'=L/\D'=D/\V'=V/\ts'=ts/\dead'=dead/\((∃sg∈Gu l,ID sg≠0)\/Ll V (gone.map (·.id)) (Gm lv V.next (Gu l))=false\/∃fs',fs'.Perm (IR V.fs (gone.map (·.id))++Gm lv V.next (Gu l))/\Up (FX HK) fs'/\(Hw ⟨Im V.next (Gm lv V.next (Gu l)),fs'⟩=false\/262144<(Ig ⟨Im V.next (Gm lv V.next (Gu l)),fs'⟩).length)))\/
 ((∀sg∈Gu l,ID sg=0)/\Ll V (gone.map (·.id)) (Gm lv V.next (Gu l))=true/\∃fs',fs'.Perm (IR V.fs (gone.map (·.id))++Gm lv V.next (Gu l))/\Up (FX HK) fs'/\Hw ⟨Im V.next (Gm lv V.next (Gu l)),fs'⟩=true/\(Ig ⟨Im V.next (Gm lv V.next (Gu l)),fs'⟩).length<=262144/\
  (((IK (Ko V.next (Gu l)) D).1≠0/\e=(IK (Ko V.next (Gu l)) D).1/\L'=L/\D'=(IK (Ko V.next (Gu l)) D).2/\V'=V/\ts'=ts/\dead'=true)\/
   ((IK (Ko V.next (Gu l)) D).1=0/\L'=(L.write (IK (Ko V.next (Gu l)) D).2 L.last (Ig ⟨Im V.next (Gm lv V.next (Gu l)),fs'⟩)).2.1/\D'=(L.write (IK (Ko V.next (Gu l)) D).2 L.last (Ig ⟨Im V.next (Gm lv V.next (Gu l)),fs'⟩)).2.2/\
    (((L.write (IK (Ko V.next (Gu l)) D).2 L.last (Ig ⟨Im V.next (Gm lv V.next (Gu l)),fs'⟩)).1≠0/\e=(L.write (IK (Ko V.next (Gu l)) D).2 L.last (Ig ⟨Im V.next (Gm lv V.next (Gu l)),fs'⟩)).1/\V'=V/\ts'=ts/\dead'=true)\/
     ((L.write (IK (Ko V.next (Gu l)) D).2 L.last (Ig ⟨Im V.next (Gm lv V.next (Gu l)),fs'⟩)).1=0/\e=0/\V'=⟨Im V.next (Gm lv V.next (Gu l)),fs'⟩/\dead'=dead/\∃tbs:List Tb,tbs.map (λt=>(t.h,t.cs))=M3 lv V.next (Gu l)/\ts'=M1 (tbs.foldl Hr ts) gone)))))
theorem Np {v:Vs}(h:Hw v=true):∀f∈v.fs,Fx f.id/\Fx f.lev:=λf z=>by
 obtain⟨h1,h2,h3,h4,_⟩:=JG h;have r:=h4 f z;simp only [I9,Aq,decide_eq_true_eq]at r;exact⟨⟨by omega,by omega⟩,⟨by omega,by omega⟩⟩
variable {b0:Nat}{lv:Int}{w:World}{xs:List Md}
theorem L0.mono {b:Nat}{next:Int}(h:L0 b0 lv next xs ss w)(hb:b<=b0):L0 b lv next xs ss w:=⟨h.1,λj x sg r hs=>by
 obtain⟨h1,h2,h3,h4,z⟩:=h.2 j x sg r hs;exact⟨h1,h2,h3,Ae hb h4,z⟩⟩
theorem Xub (l:List Cell):(Gu l).length<=l.length:=by
 rw[<-SF (Aa l.length)];exact(NI l _ (Aa _)).2
theorem X2t {next:Int}(hn:0<=next/\next<=1099511627776)(hl:ss.length<=100000):∀f∈Gm lv next ss,Fx f.id:=λf r=>by
 unfold Gm at r;obtain⟨p,z,rfl⟩:=Ay.1 r;obtain⟨i,hi⟩:=AQ z;rw[Nb]at hi;obtain⟨sg,hs,rfl⟩:=Bp.1 hi;have:=(Ap.1 hs).1;show Fx (next+↑i);unfold Fx;omega
theorem Xyw (h:ID sg=0):(F7 (Gg sg)).length<=1048588:=by
 have h1:=(Nv h).2.2.2;unfold HI at h1;rw[KA];split at h1
 ·cases h1
 ·omega
theorem JJ.zip {B1:Nat}{next:Int}(h:JJ b0 B1 lv next xs ss w)(hn:0<=next/\next<=1099511627776)(hlv:0<=lv/\lv<=100)(hl:ss.length<=100000):∀q∈xs.zip ss,Fs Fq 1 w q.1.vb (F7 (Gg q.2))/\ID q.2=0/\Fx q.1.f.id/\Fx q.1.f.lev/\(b0<=(base q.1.vb).1/\(base q.1.vb).1<B1)/\q.1.vl.oneCell'=true:=λq r=>by
 obtain⟨i,hi⟩:=AQ r;rw[Ed]at hi;obtain⟨h1,h2,h3,h4,z⟩:=h.1.2 i q.1 q.2 hi.1 hi.2;have:=(Ap.1 hi.2).1;rw[h1];exact⟨h3,h2,by show Fx (next+↑i);unfold Fx;omega,by show Fx lv;unfold Fx;omega,⟨h4,h.2 _ (Ag hi.1)⟩,z⟩
theorem JJ.zip2 {B1:Nat}{next:Int}(h:JJ b0 B1 lv next xs ss w)(hn:0<=next/\next<=1099511627776)(hlv:0<=lv/\lv<=100)(hl:ss.length<=100000):∀q∈xs.zip (ss.map λsg=>F7 (Gg sg)),Fs Fq 1 w q.1.vb q.2/\q.2.length<=2001000020/\Fx q.1.f.id/\(b0<=(base q.1.vb).1/\(base q.1.vb).1<B1)/\q.1.vl.oneCell'=true:=λq r=>by
 obtain⟨i,hi⟩:=AQ r;rw[Ed,AG]at hi;obtain⟨sg,hs,he⟩:=Bp.1 hi.2;obtain⟨h1,h2,h3,h4,z,H⟩:=h.zip hn hlv hl (q.1,sg) (Ag (i:=i) (by rw[Ed];exact⟨hi.1,hs⟩));rw[<-he];have h9:(F7 (Gg sg)).length<=1048588:=Xyw h2;exact⟨h1,by omega,h3,z,H⟩
theorem LD.calls_last {H:Nat->Prop}{bl bd:Nat}(h:LD H bl bd L D w):Calls Tryz.prog 55 [Fg bl 0].toArray w (Pure w (I L.last)):=by
 obtain⟨F,G,vd,ve,vs,h1,h2,_⟩:=h;exact H5 G bl bd vd ve vs L w h2
theorem Xow (κ:Nat->Nat)(bs bd bl bo bm:Nat)(vf:Value)(L:Led)(D:Dsk)(V:Vs)(ts:List Tb)(mem:List Cell)(dead:Bool)(l:List Cell)(vc:Value)(lv:Int)(gone:List Fi)(vg:Value)(w:World)(h:StE κ bs bd bl bo bm vf L D V ts mem dead w)(hc:Fs Cell.cs 4 w vc l)(hll:l.length<=30000)(hc9:∀c∈l,c.key.length<=4096/\c.val.length<=16384)(hlv:0<=lv/\lv<=100)(hg:Fs Fi.cs 5 w vg gone)(hgl:gone.length<=30000)(hgk:gone≠[]->κ (base vg).1=0)(hgi:∀f∈gone,Fx f.id/\Fx f.lev)(hV:Hw V=true)(hgv:GV w)(hgvs:∀k,Mf k->κ k=0)(htl:ts.length<=900000)(hck:l≠[]->κ (base vc).1=0) :
  Gy 44 [Fg bs 0,vc,I lv,vg] w (λk=>κ k≠0) λu w'=>∃e κ' vf' L' D' V' ts' dead',u=I e/\(∀k,k<w.heap.size->κ' k=κ k)/\StE κ' bs bd bl bo bm vf' L' D' V' ts' mem dead' w'/\L9 L D V ts dead l lv gone e L' D' V' ts' dead':=by
 refine cM Tryz.func44 (λk=>κ k≠0) λJ=>?_;have O:=h;obtain⟨hn1,hn2,hvl,hvo,_⟩:=JG hV;have yg:=Np hV;have hsgl:=Xub l;have hh:∀k,w.heap.size<=k->κ k=0:=λk hk=>Bc λh9=>by have:=h.lt k h9;omega
 have hwid:∀k,w.heap.size<=k->¬ Fu bs k:=λk hk e=>by have e2:k=bs:=e;have h1:=hh k hk;rw[e2,h.k0]at h1;cases h1
 refine go ?_;refine dl rfl (O.m.at rfl) (cG (X8b l vc lv V.next _ (hc.mod J (λhl e=>e (hck hl))) hll hc9 hlv Fb) RX.all λu1 w1 x1 ym=>?_);have xo:=J.size;refine Fz x1 O J λO J=>?_;obtain⟨va,e1,hu,hmk⟩:∃va e1,u1=.tuple #[va,I e1]/\((e1≠0/\∃sg∈Gu l,ID sg≠0)\/(e1=0/\∃xs,Vc.Own Md.cs 7 161 w.heap.size w1 va xs/\L0 w.heap.size lv V.next xs (Gu l) w1)):=by
  rcases ym with⟨sg,h1,h2,h3⟩|⟨va,xs,h1,h2,h3⟩
  ·exact⟨_,_,h3,.inl ⟨h2,sg,h1,h2⟩⟩
  ·exact⟨_,_,h1,.inr ⟨rfl,xs,h2.mono xo,h3.mono xo⟩⟩
 subst hu;refine Fk (λc1=>?_) λc1=>?_
 ·refine go ?_;rcases hmk with⟨_,h9⟩|⟨h9,_⟩
  ·exact⟨_,rfl,J,e1,κ,vf,L,D,V,ts,dead,rfl,λ_ _=>rfl,O,.inl ⟨c1,rfl,rfl,rfl,rfl,rfl,.inl h9⟩⟩
  ·exact absurd h9 c1
 rcases hmk with⟨h9,_⟩|⟨h9,xs,r,hMF⟩
 ·exact absurd h9 c1
 obtain⟨yj,y2,yt⟩:=hMF.files;have xg:∀sg∈Gu l,ID sg=0:=λsg hs=>by
  obtain⟨i,hi⟩:=AQ hs;have xy:=(Ap.1 hi).1;exact(hMF.2 i _ sg (Au (by rw[hMF.1];exact xy)) hi).2.1
 have hxl:=hMF.1;obtain⟨B1,hB1,H,hG⟩:∃B1,w.heap.size<=B1/\Sz B1 _/\JJ w.heap.size B1 lv V.next xs (Gu l) _:=⟨_,J.size,⟨Aa _⟩,hMF.up⟩;refine FL 62 5 (hg.mod J (λhl e=>e (hgk hl))).sl ?_;refine F9 (G:=Nat×Value) (λ(k,vi)=>[(0,Fg bs 0),(3,vg),(8,I 0),(9,va),(10,I e1),(11,vi),(36,vg),(37,I ↑gone.length),(38,I ↑k)]) (λ(k,vi) w'=>Mod (λk=>κ k≠0) w w'/\StE κ bs bd bl bo bm vf L D V ts mem dead w'/\Vc.Own Md.cs 7 161 w.heap.size w' va xs/\JJ w.heap.size B1 lv V.next xs (Gu l) w'/\Sz B1 w'/\k<=gone.length/\Vc.Own Vc.encI 1 3 B1 w' vi ((gone.take k).map (·.id))) (λ(k,vi)=>gone.length-k) (0,.slice none 0 0) ⟨J,O,r,hG,H,Ab _,Vc.Own.nil⟩ ?_;rintro _ ⟨k,vi⟩ w2 ⟨J,O,r,hG,H,hk1,Y⟩;refine Fk (λc2=>?_) λc2=>?_
 ·obtain⟨f,hk⟩:∃f,gone[k]?=some f:=F8;refine FK 62 5 hg.sl (hg.lt hk) ?_;refine dq (Fy Fe rfl rfl ((hg.mod J (λhl e=>e (hgk hl))).row hk)) (aL [.int .i64 0,.int .i64 0,.int .i64 0,S [],S []] λb1 w3 e1 x3 m1=>?_);have g1:=J.ge e1;have a1_hS:=O.lt;have o1_hoM:=r.ltb e1;have xi:=H.le;have o1_ho1:=Y.ltb e1;refine H3 x3 O r hG H Y J λO r hG H Y J=>Gc m1 (λw4 x4 xs4 m1=>?_);have O:=O.mod x4 (λk9 h9 e9=>by have h2:k9=b1:=e9;have h8:=h.lt;have h7:=hh k9 Fb;exact h9 h7);have r:=r.mod x4 Fw;have hG:=hG.mod x4 (λk9 _ h9 e9=>by have h2:k9=b1:=e9;have h8:=xi;omega);have H:=H.mod x4 trivial;have Y:=Y.mod x4 Fw;have J:=J.o1 x4;refine go ?_;refine li (e:=3) (sz:=1) (zs:=[.int .i64 0]) (pv:=[(0,_)]) (cs:=[_]) RX.all (λb2 w5 e2 x5 m2=>?_);have g2:=J.ge e2;have a2_hS:=O.lt;have o2_hoM:=r.ltb e2;have a2_hSz:=H.le;have o2_ho1:=Y.ltb e2;refine H3 x5 O r hG H Y J λO r hG H Y J=>G1 f.id Y m2 (λy6 w6 xq x6=>?_) (h1:=(by intro x y9 u hu;rw[Af.1 y9]at hu;simp at hu;rw[hu];rfl)) (hB:=H.le);have O:=O.mod x6 (by exact(λk hk e=>hk (hh k (Ae hB1 (Y.lt k e).1))));have r:=r.mod x6 (by exact(λk hk=>r.ne Y rfl hk));have hG:=hG.mod x6 (by exact(λk _ h2 e=>absurd (Y.lt k e).1 (Nat.not_le.2 h2)));have H:=H.mod x6 Fw;have J:=J.own x6 (λi hi xd=>(by have:=(Y.lt i hi).1;omega));have Y:=xq;clear m2;refine go ?_;rw[show(gone.take k).map (·.id)++[f.id]=(gone.take (k+1)).map (·.id) by rw[GQ hk,A6];rfl]at Y;exact FJ (k+1,y6) ⟨J,O,r,hG,H,by omega,Y⟩
 rw[Ar Fb]at Y;refine go ?_;refine dv 161 7 (r.arr Ff).sl (F9 (G:=Nat×Value) (λ(k,vad)=>[(0,Fg bs 0),(3,vg),(8,I 0),(9,va),(10,I e1),(11,vi),(14,vad),(48,va),(49,I ↑xs.length),(50,I ↑k)]) (λ(k,vad) w'=>Mod (λk=>κ k≠0) w w'/\StE κ bs bd bl bo bm vf L D V ts mem dead w'/\Vc.Own Md.cs 7 161 w.heap.size w' va xs/\JJ w.heap.size B1 lv V.next xs (Gu l) w'/\Sz B1 w'/\Vc.Own Vc.encI 1 3 B1 w' vi (gone.map (·.id))/\k<=xs.length/\Vc.Own Fi.cs 5 62 B1 w' vad ((xs.take k).map (·.f))) (λ(k,vad)=>xs.length-k) (0,.slice none 0 0) ⟨J,O,r,hG,H,Y,Ab _,Vc.Own.nil⟩ ?_);rintro _ ⟨k,vad⟩ w7 ⟨J,O,r,hG,H,Y,hk1,ha⟩;refine Fk (λc3=>?_) λc3=>?_
 ·obtain⟨x,hk⟩:∃x,xs[k]?=some x:=F8;obtain⟨sg,hsg⟩:∃sg,(Gu l)[k]?=some sg:=F8;obtain⟨_,_,y0,_,y7⟩:=hG.1.2 k x sg hk hsg;refine go ?_;refine di 161 7 (r.arr Ff).sl rfl ((r.arr Ff).lt hk) (dq (Fy Fe rfl rfl ((r.arr Ff).row hk)) (aL [.int .i64 0,.int .i64 0,.int .i64 0,S [],S [],.slice none 0 0,.slice none 0 0] λb3 w8 e3 x8 m3=>?_));have g3:=J.ge e3;have a3_hS:=O.lt;have o3_hoM:=r.ltb e3;have xk:=H.le;have o3_ho1:=Y.ltb e3;have o3_ho2:=ha.ltb e3;refine Lk x8 O r hG H Y ha J λO r hG H Y ha J=>?_;refine Gc m3 (λw9 x9 xs9 m3=>?_) (h1:=by(intro u hu;simp only [Ah,Co,or_false]at hu;rcases hu with e|e|e|e|e|e|e<;>subst e<;>first|rfl|exact y7|exact y0.sl.one));have O:=O.mod x9 (λk9 h9 e9=>by have h2:k9=b3:=e9;have h8:=h.lt;have h7:=hh k9 Fb;exact h9 h7);have r:=r.mod x9 Fw;have hG:=hG.mod x9 (λk9 _ h9 e9=>by have h2:k9=b3:=e9;have h8:=xk;omega);have H:=H.mod x9 trivial;have Y:=Y.mod x9 Fw;have ha:=ha.mod x9 Fw;have J:=J.o1 x9;refine gc ?_;refine dm ?_;refine df 0 rfl (dq (LV.to (v':=x.f.v) (Fy Fe rfl rfl (m3.part 0 5)) rfl) (lA 62 rfl λb4 w10 e4 yv m4=>?_));have g4:=J.ge e4;have a4_hS:=O.lt;have o4_hoM:=r.ltb e4;have a4_hSz:=H.le;have o4_ho1:=Y.ltb e4;have o4_ho2:=ha.ltb e4;refine Lk yv O r hG H Y ha J λO r hG H Y ha J=>G1 x.f ha m4 (λy5 w11 xw hz=>?_) (hB:=H.le);have O:=O.mod hz (by exact(λk hk e=>hk (hh k (Ae hB1 (ha.lt k e).1))));have r:=r.mod hz (by exact(λk hk=>r.ne ha rfl hk));have hG:=hG.mod hz (by exact(λk _ h2 e=>absurd (ha.lt k e).1 (Nat.not_le.2 h2)));have H:=H.mod hz Fw;have Y:=Y.mod hz (by exact(λk hk=>Y.ne ha rfl hk));have J:=J.own hz (λi hi xd=>(by have:=(ha.lt i hi).1;omega));have ha:=xw;clear m4;refine go ?_;rw[show(xs.take k).map (·.f)++[x.f]=(xs.take (k+1)).map (·.f) by rw[GQ hk,A6];rfl]at ha;exact FJ (k+1,y5) ⟨J,O,r,hG,H,Y,by omega,ha⟩
 rw[Ar Fb]at ha;refine go ?_;refine dq (Fy Fe rfl rfl (O.m.part 2 2)) (Ge (X2p V.next V.fs vf (gone.map (·.id)) vi (xs.map (·.f)) vad _ O.vs Fb (λf hf=>(yg f hf).1) (Y.arr Ff) (by rw[Aw];omega) (ha.arr Ff) (by rw[Aw];omega) (by rw[yj];exact X2t Fb Fb)) λyn yr yz xp=>?_);have xu:=J.size;refine FV yz O r hG H J λO r hG H J=>?_;rw[yj]at xp;obtain⟨n2,vx,e2,fs2,hu,Z,hch⟩:∃n2 vx e2 fs2,yn=.tuple #[.agg ⟨[I n2,vx]⟩,I e2]/\Vc.Own Fi.cs 5 62 w.heap.size yr vx fs2/\((e2≠0/\(Ll V (gone.map (·.id)) (Gm lv V.next (Gu l))=false\/∃fs',fs'.Perm (IR V.fs (gone.map (·.id))++(Gm lv V.next (Gu l)))/\Up (FX HK) fs'/\Hw ⟨Im V.next (Gm lv V.next (Gu l)),fs'⟩=false))\/(e2=0/\Ll V (gone.map (·.id)) (Gm lv V.next (Gu l))=true/\fs2.Perm (IR V.fs (gone.map (·.id))++(Gm lv V.next (Gu l)))/\Up (FX HK) fs2/\Hw ⟨Im V.next (Gm lv V.next (Gu l)),fs2⟩=true/\n2=Im V.next (Gm lv V.next (Gu l)))):=by
  rcases xp with⟨h1,h2⟩|⟨h1,fs',h2,h3,⟨h4,h5⟩|⟨h4,vx,h5,h6⟩⟩
  ·exact⟨_,_,_,[],h2,Vc.Own.nil,.inl ⟨by decide,.inl h1⟩⟩
  ·exact⟨_,_,_,[],h5,Vc.Own.nil,.inl ⟨by decide,.inr ⟨fs',h2,h3,h4⟩⟩⟩
  ·exact⟨_,_,_,fs',h5,h6.mono xu,.inr ⟨rfl,h1,h2,h3,h4,rfl⟩⟩
 subst hu;refine go ?_;refine aL [.int .i64 0,.slice none 0 0] λb5 w13 e5 y1 m5=>?_;have g5:=J.ge e5;have a5_hS:=O.lt;have o5_hoM:=r.ltb e5;have xj:=H.le;have o5_hoV:=Z.ltb e5;refine H3 y1 O r hG H Z J λO r hG H Z J=>Gc m5 (λw14 hy xs14 m5=>?_) (h1:=by(intro u hu;rcases Ah.1 hu with e|hu;subst e;rfl;rw[Af.1 hu];exact Z.sl.one));have O:=O.mod hy (λk9 h9 e9=>by have h2:k9=b5:=e9;have h8:=h.lt;have h7:=hh k9 Fb;exact h9 h7);have r:=r.mod hy Fw;have hG:=hG.mod hy (λk9 _ h9 e9=>by have h2:k9=b5:=e9;have h8:=xj;omega);have H:=H.mod hy trivial;have Z:=Z.mod hy Fw;have J:=J.o1 hy;refine Fk (λc4=>?_) λc4=>?_
 ·refine go ?_;rcases hch with⟨_,h9|⟨fs3,p1,p2,p3⟩⟩|⟨h9,_⟩
  ·exact⟨_,rfl,J,5,κ,vf,L,D,V,ts,dead,rfl,λ_ _=>rfl,O,.inl ⟨by decide,rfl,rfl,rfl,rfl,rfl,.inr (.inl h9)⟩⟩
  ·exact⟨_,rfl,J,5,κ,vf,L,D,V,ts,dead,rfl,λ_ _=>rfl,O,.inl ⟨by decide,rfl,rfl,rfl,rfl,rfl,.inr (.inr ⟨fs3,p1,p2,.inl p3⟩)⟩⟩
  ·exact absurd h9 c4
 rcases hch with⟨h9,_⟩|⟨h9,hck1,hcp,hcu,hV2,hn9⟩
 ·exact absurd h9 c4
 subst hn9;have xx:=Np hV2;obtain⟨_,_,x0,_⟩:=JG hV2;refine go ?_;refine dq (Fy (k:=2) Fe rfl rfl m5.row) (cG (X19 (Im V.next (Gm lv V.next (Gu l))) fs2 vx _ (Z.arr Ff) (by have:fs2.length<=1024:=x0;omega) (λf hf=>(xx f hf).1)) RX.all λu15 y4 yq xz=>?_);have xr:=J.size;refine Lk yq O r hG H Z m5 J λO r hG H Z m5 J=>?_;obtain⟨vp,rfl,xl⟩:=xz;rw[if_pos hV2]at xl;have hj:=xl.mono xr;refine go ?_;refine dv 5 1 (hj.arr Ff).sl ?_;refine Fk (λc5=>?_) λc5=>?_
 ·refine go ?_;exact⟨_,rfl,J,5,κ,vf,L,D,V,ts,dead,rfl,λ_ _=>rfl,O,.inl ⟨by decide,rfl,rfl,rfl,rfl,rfl,.inr (.inr ⟨fs2,hcp,hcu,.inr Fb⟩)⟩⟩
 refine go ?_;obtain⟨NK,hNK⟩:∃z,z=y4.heap.size:=⟨_,rfl⟩;have hNw:w.heap.size<=NK:=by rw[hNK];exact J.size
 have yb:Ig ⟨Im V.next (Gm lv V.next (Gu l)),fs2⟩≠[]->(base vp).1<NK/\w.heap.size<=(base vp).1:=λhl=>by rw[hNK];exact⟨(hj.base_ge hl).2,(hj.base_ge hl).1⟩
 have xc:fs2≠[]->(base vx).1<NK/\w.heap.size<=(base vx).1:=λhl=>by rw[hNK];exact⟨(Z.base_ge hl).2,(Z.base_ge hl).1⟩
 have xb:xs≠[]->(base va).1<NK/\w.heap.size<=(base va).1:=λhl=>by rw[hNK];exact⟨(r.base_ge hl).2,(r.base_ge hl).1⟩
 have hBN:B1<=NK:=by rw[hNK];exact H.le
 have hmN:b5<NK:=by rw[hNK];exact m5.lt
 have yx:(xs.zip ((Gu l).map λsg=>F7 (Gg sg))).map (·.1)=xs:=EQ (by rw[Aw];omega);have xf:∀k,w.heap.size<=k->¬ κ k=1:=λk hk e=>by rw[hh k hk]at e;cases e
 refine J8 rfl Fe (X8c κ bs bd bl bo bm vf L D V ts mem dead (xs.zip ((Gu l).map λsg=>F7 (Gg sg))) va _ O (hgv.mod J (λk hk e=>e (hgvs k hk))) hgvs (by rw[yx];exact r.arr Ff) (by rw[ER];omega) (λhl=>hh _ (xb (by rintro rfl;simp at hl)).2) (λq hq=>by
  obtain⟨g1,g2,g3,g4,g5⟩:=hG.zip2 Fb hlv Fb q hq;exact⟨g1,g2,g3,λ_=>hh _ g4.1,g5⟩)) rfl (.inl rfl) (λu16 yu hw xn=>?_)
 have hsz16:=J.size;have r:=r.mod hw (by exact(λk hk e=>xf k (r.lt k hk).1 e));have hG:=hG.mod hw (by exact(λk h1 _ e=>xf k h1 e));have Z:=Z.mod hw (by exact(λk hk e=>xf k (Z.lt k hk).1 e));have m5:=m5.mod hw (by exact(λe=>xf _ Fb e));have hj:=hj.mod hw (by exact(λk hk e=>xf k (hj.lt k hk).1 e));have J:=J.own hw F4;rw[y2,<-hNK]at xn;obtain⟨rfl,κ1,hr,xt⟩:=xn;have O:=xt;have ht:Sz NK yu:=⟨by rw[hNK];exact hw.size⟩;refine Fk (λc6=>?_) λc6=>?_
 ·refine Gw (PJ bs bd bl V.next vf bo bm dead (IK (Ko V.next (Gu l)) D).1 _ O.m) λu17 w17 x7 ye=>?_;have hsz17:=J.size;have J:=J.own x7 (λi hi xd=>(by have e1:i=bs:=hi;rw[e1,h.k0];decide));obtain⟨rfl,xv⟩:=ye;have xe:=O.head x7 xv;have O:=xe;refine go ?_;exact⟨_,rfl,J,_,κ1,vf,_,_,V,ts,_,rfl,λk hk=>hr k Fb,O,.inr ⟨xg,hck1,fs2,hcp,hcu,hV2,by omega,.inl ⟨c6,rfl,rfl,rfl,rfl,rfl,by simp [c6]⟩⟩⟩
 refine go ?_;refine HM (R:=Mod (λk=>κ1 k=1)) HT Ir Fe [3,7] [(0,.p,false),(1,.p,false),(2,.p,false),(3,.l,false),(4,.p,false),(5,.p,false),(6,.p,false),(7,.l,false),(9,.p,false),(8,.x,false),(10,.x,false),(11,.p,false)] rfl Fe Fe (λw18 xm=>?_);have y3:=FC xm;clear xm;refine Jb y3 r hG Z m5 hj O ht J λr hG Z m5 hj O ht J=>go ?_;refine dL rfl (λ_ hR=>((O.m.mod hR (λe=>by have e2:κ1 bs=1:=e;rw[O.k0]at e2;cases e2)).at rfl)) (go ?_);refine dL rfl (λ_ hR=>((O.m.mod hR (λe=>by have e2:κ1 bs=1:=e;rw[O.k0]at e2;cases e2)).at rfl)) (go ?_);refine cP (O.ld.calls_last) RX.mod λw19 yk=>Jb yk r hG Z m5 hj O ht J λr hG Z m5 hj O ht J=>?_;have x2:=ht.le;refine J8 rfl Fe (X8h _ bl bd L (IK (Ko V.next (Gu l)) D).2 L.last (Ig ⟨Im V.next (Gm lv V.next (Gu l)),fs2⟩) vp _ O.ld (hj.arr Ff) Fb (λhl e=>by have e1:κ1 (base vp).1=1:=e;rw[hr _ (yb hl).1,hh _ (yb hl).2]at e1;cases e1)) rfl (.inr λw9 h9=>h9) (λu20 yw xa yc=>?_);have hsz20:=J.size;have J:=J.own xa (λi hi xd=>(by have e1:κ1 i=1:=hi;rw[<-hr i Fb,e1];decide));obtain⟨rfl,xy⟩:=yc;have xe:=O.ledger xa xy;have hp:=λk (hk:k<NK)=>(M4 (κ:=κ1) (i:=1) (w':=yw) (Ax hk x2)).trans (hr k hk);have xh:∀k,w.heap.size<=k->k<NK->¬ κ1 k=1:=λk h1 h2 e=>by rw[hr k h2,hh k h1]at e;cases e
 have r:=r.arr Ff |>.mod xa (λhl=>xh _ (xb hl).2 (xb hl).1);have Z:=Z.arr Ff |>.mod xa (λhl=>xh _ (xc hl).2 (xc hl).1);have hG:=hG.mod xa (λk h1 h2=>xh k h1 Fb);have m5:=m5.mod xa (λe=>xh _ Fb Fb e);have O:=xe;refine Fk (λc7=>?_) λc7=>?_
 ·refine Gw (PJ bs bd bl V.next vf bo bm dead (L.write (IK (Ko V.next (Gu l)) D).2 L.last (Ig ⟨Im V.next (Gm lv V.next (Gu l)),fs2⟩)).1 _ O.m) λu21 w21 yi ya=>?_;have hsz21:=J.size;have J:=J.own yi (λi hi xd=>(by have e1:i=bs:=hi;rw[e1,h.k0];decide));obtain⟨rfl,xv⟩:=ya;have xe:=O.head yi xv;have O:=xe;refine go ?_;exact⟨_,rfl,J,_,_,vf,_,_,V,ts,_,rfl,λk hk=>hp k Fb,O,.inr ⟨xg,hck1,fs2,hcp,hcu,hV2,by omega,.inr ⟨AE c6,rfl,rfl,.inl ⟨c7,rfl,rfl,rfl,by simp [c7]⟩⟩⟩⟩
 refine go ?_;refine dq (Fy (k:=2) Fe rfl rfl m5.row) (go ?_);have y8:(xs.zip (Gu l)).map (·.1)=xs:=EQ Fb;have yh:=J.size;refine J8 rfl Fe (X8d _ bs bd bl bo bm vf _ _ V ts mem dead ⟨Im V.next (Gm lv V.next (Gu l)),fs2⟩ vx (xs.zip (Gu l)) va gone vg _ O Z (λhl=>(hp _ (xc hl).1).trans (hh _ (xc hl).2)) (by rw[y8];exact r) (by rw[ER];omega) (λhl=>(hp _ (xb (by rintro rfl;simp at hl)).1).trans (hh _ (xb (by rintro rfl;simp at hl)).2)) (λq hq=>by
  obtain⟨g1,g2,g3,g4,g5,g6⟩:=hG.zip Fb hlv Fb q hq;exact⟨g1,g2,g3,g4,λ_=>(hp _ Fb).trans (hh _ g5.1),g6⟩) (hg.mod J (λhl e=>e (hgk hl))) Fb (λhl=>(hp _ (by have:=hg.base_lt Fj hl;omega)).trans (hgk hl)) hgi Fb) rfl (.inl rfl) (λu22 w22 yo yf=>?_)
 have hsz22:=J.size;have J:=J.own yo (λi hi xd=>(by rw[<-hp i Fb];exact hi));obtain⟨rfl,κ3,yp,yd,⟨tbs,yl,yy⟩,xt⟩:=yf;have O:=xt;refine go ?_;exact⟨_,rfl,J,0,κ3,vx,_,_,_,yp,dead,rfl,λk hk=>(yd k (Ax hk yh) (λhl e=>by have:=(xc hl).2;omega)).trans (hp k Fb),O,.inr ⟨xg,hck1,fs2,hcp,hcu,hV2,by omega,.inr ⟨AE c6,rfl,rfl,.inr ⟨AE c7,rfl,rfl,rfl,tbs,yl.trans yt,yy⟩⟩⟩⟩
def Tt (L:Led)(D:Dsk)(mem:List Cell)(dead:Bool)(l:List Rw)(e:Int)(L':Led)(D':Dsk)(mem':List Cell)(dead':Bool):Prop:=
 (dead=true/\e=9/\L'=L/\D'=D/\mem'=mem/\dead'=dead)\/(dead=false/\IM l≠0/\e=IM l/\L'=L/\D'=D/\mem'=mem/\dead'=dead)\/
 (dead=false/\IM l=0/\L'=(L.append D (GN l)).2.2.1/\D'=(L.append D (GN l)).2.2.2/\(((L.append D (GN l)).2.1≠0/\e=(L.append D (GN l)).2.1/\mem'=mem/\dead'=true)\/((L.append D (GN l)).2.1=0/\e=0/\mem'=JA mem (Gj l (L.append D (GN l)).1)/\dead'=false)))
def Lv (L:Led)(D:Dsk)(V:Vs)(ts:List Tb)(mem:List Cell)(dead ok:Bool)(e:Int)(L':Led)(D':Dsk)(V':Vs)(ts':List Tb)(mem':List Cell)(dead':Bool):Prop:=
 (dead=true/\ok=false/\e=9/\L'=L/\D'=D/\V'=V/\ts'=ts/\mem'=mem/\dead'=dead)\/(dead=false/\mem=[]/\ok=false/\e=0/\L'=L/\D'=D/\V'=V/\ts'=ts/\mem'=mem/\dead'=dead)\/
 (dead=false/\mem≠[]/\∃m,Mg mem m/\L9 L D V ts dead m 0 [] e L' D' V' ts' dead'/\((e≠0/\ok=false/\mem'=mem)\/(e=0/\ok=true/\mem'=[])))
theorem Uj (h:∀c∈l,G5 c<=20496):HE l<=l.length*20496:=by
 induction l with
 | nil=>simp [HE]
 | cons c r ih=>
  have h1:=h c Ai;have h2:=ih (λx z=>h x (Ao _ z));unfold HE at *;simp only [Am,AT,AA]at *;omega
theorem Xqu {l:List Rw}{seq:Int}(h:IM l=0):HE (Gj l seq)<=10500000:=by
 obtain⟨h1,h2,h3,h4⟩:=Ox h;have h5:=OY l seq;have h6:=Uj (l:=Gj l seq) (λc z=>by
  obtain⟨r,H,rfl⟩:=Sn z;have:=OP (h4 r H);unfold G5 Rw.cell;simp only [];omega)
 omega
theorem Xyx {α:Type}(eq:α->α->Bool):∀l:List α,(JY eq l).length<=l.length/\∀x∈JY eq l,x∈l:=by
 have h:∀(r:List α) (p:α),(JP eq p r).length<=r.length/\∀x∈JP eq p r,x∈r:=by
  intro r
  induction r with
  | nil=>intro p;exact⟨Aa _,λx z=>z⟩
  | cons a r ih=>
   intro p;unfold JP;have:=ih a;split
   ·exact⟨Nat.le_succ_of_le this.1,λx z=>Ao _ (this.2 x z)⟩
   ·exact⟨ES this.1,λx z=>(Ah.1 z).elim (λe=>e▸Ai) (λh=>Ao _ (this.2 x h))⟩
 intro l
 cases l with
 | nil=>exact⟨Aa _,λx z=>z⟩
 | cons a r=>exact⟨ES (h r a).1,λx z=>(Ah.1 z).elim (λe=>e▸Ai) (λH=>Ao _ ((h r a).2 x H))⟩
theorem OH {m:List Cell}(h:Mg l m):m.length<=l.length/\∀c∈m,c∈l:=by
 obtain⟨l',r,hu,rfl⟩:=h;have:=Xyx KH l';exact⟨by rw[<-r.length_eq];exact this.1,λc z=>r.mem_iff.1 (this.2 c z)⟩
section
variable {κ:Nat->Nat}{bs bd bl bo bm:Nat}{vf:Value}{L:Led}{D:Dsk}{V:Vs}{ts:List Tb}{mem:List Cell}{dead:Bool}{w w':World}
theorem StE.setM {bm':Nat}{mem':List Cell}{F:Nat->Prop}(h:StE κ bs bd bl bo bm vf L D V ts mem dead w)(m:Vc.Mod (Fu bs) w w')(hm:Fo w' bs (Ik bd bl V.next vf bo bm' dead) 90)(hM:Ga F w bm' mem')(hF:∀k,F k->κ k=0)[DecidablePred F]:StE (λk=>if F k then 3 else κ k) bs bd bl bo bm' vf L D V ts mem' dead w':=by
 have r:=h.relab (κ':=λk=>if F k then 3 else κ k) (λk hk=>if_neg (λe=>hk (hF k e))) (λk hk=>by
  by_cases e:F k
  ·exact hM.lt k e
  ·rw[if_neg e]at hk;exact h.lt k hk)
 have o:∀k,(if F k then 3 else κ k)≠5->¬ Fu bs k:=λk hk e=>hk (by have e2:k=bs:=e;rw[e2];exact r.k0);exact⟨hm,r.ld.mod m (λk hk=>o k (by rw[hk];decide)),r.mp.mod m (o _ (by rw[r.k2];decide)),(Ga.mod hM m (λk hk=>o k (by rw[if_pos hk];decide))).to (λk hk=>if_pos hk) (λk hk=>Ax (r.lt k (by rw[hk];decide)) m.size),r.vs.mod m (λH=>o _ (by rw[r.k4 H];decide)),λt z=>(r.tb t z).mod m (λk hk=>o k (by rw[r.k6 t z k hk];decide)),r.k0,r.k2,r.k4,r.k6,λk hk=>Ax (r.lt k hk) m.size⟩
end
theorem Rq (κ:Nat->Nat)(bs bd bl bo bm:Nat)(vf:Value)(L:Led)(D:Dsk)(V:Vs)(ts:List Tb)(mem:List Cell)(dead:Bool)(l:List Rw)(v:Value)(w:World)(h:StE κ bs bd bl bo bm vf L D V ts mem dead w)(hv:Fs Rw.cs 3 w v l)(hl:l.length<=100000)(hvk:l≠[]->κ (base v).1=0)(hml:mem.length<=600000)(hcnt:L.ents.length<=900000)(hmz:HE mem<=100000000000) :
  Gy 14 [Fg bs 0,v] w (λk=>κ k≠0) λu w'=>∃e κ' L' D' mem' dead',u=I e/\(∀k,k<w.heap.size->κ' k=κ k)/\StE κ' bs bd bl bo bm vf L' D' V ts mem' dead' w'/\Tt L D mem dead l e L' D' mem' dead':=by
 refine cM Tryz.func14 (λk=>κ k≠0) λH=>?_;have z:=h;have hj:∀k,w.heap.size<=k->κ k=0:=λk hk=>Bc λh9=>by have:=h.lt k h9;omega
 refine Gp (Sj bs bd bl V.next vf bo bm dead _ z.m) λw1 x1=>Fz x1 z H λz H=>?_;refine Fk (λc1=>?_) λc1=>?_
 ·refine go ?_;have ht:dead=true:=by cases dead with|true=>rfl|false=>exact absurd rfl c1
  subst ht;exact⟨_,rfl,H,9,κ,L,D,mem,true,rfl,λ_ _=>rfl,z,.inl ⟨rfl,rfl,rfl,rfl,rfl,rfl⟩⟩
 have hq:dead=false:=by cases dead with|false=>rfl|true=>exact absurd Fj c1
 subst hq;refine Ge (X14 l v _ (hv.mod H (λhl e=>e (hvk hl))) Fb) λu2 w2 x2 hy=>?_;have hg:=H.size;refine Fz x2 z H λz H=>?_;obtain⟨vb,rfl,hc⟩:=hy;have Z:=hc.mono hg;refine Fk (λc2=>?_) λc2=>?_
 ·refine go ?_;exact⟨_,rfl,H,_,κ,L,D,mem,false,rfl,λ_ _=>rfl,z,.inr (.inl ⟨rfl,c2,rfl,rfl,rfl,rfl,rfl⟩)⟩
 have O:IM l=0:=AE c2;rw[if_pos O]at Z;obtain⟨hr1,hr2,hr3,hz⟩:=Ox O;have hbl9:=PO l;have hnl9:=Gq l.length;have h5:(GN l).length<=1000000:=by unfold GN;rw[Ad];omega
 refine go ?_;refine dl rfl (z.m.at rfl) (go ?_);have hf:=H.size;refine cD (X1o _ bl bd L D (GN l) vb _ z.ld (Z.arr Ff) h5 Fb (λhl e=>by have e1:κ (base vb).1=1:=e;rw[hj _ (Z.base_ge hl).1]at e1;cases e1)) (.inl rfl) λu3 w3 x3 hp=>?_;have hsz3:=H.size;have H:=H.own x3 F4;obtain⟨rfl,h7⟩:=hp;have J:=z.ledger x3 h7;have Y:∀k,k<w.heap.size->IF κ 1 _ _ k=κ k:=λk hk=>M4 (κ:=κ) (i:=1) (w':=w3) (Ax hk hf);have z:=J;refine Fk (λc3=>?_) λc3=>?_
 ·refine Gw (PJ bs bd bl V.next vf bo bm false (L.append D (GN l)).2.1 _ z.m) λu4 w4 x4 h8=>?_;have hsz4:=H.size;have H:=H.own x4 (λi hi hw=>(by have e1:i=bs:=hi;rw[e1,h.k0];decide));obtain⟨rfl,hh⟩:=h8;have J:=z.head x4 hh;have z:=J;refine go ?_;exact⟨_,rfl,H,_,_,_,_,mem,_,rfl,Y,z,.inr (.inr ⟨rfl,O,rfl,rfl,.inl ⟨c3,rfl,rfl,by simp [c3]⟩⟩)⟩
 refine go ?_;have hlt9:=z.lt;have ha:=H.size;refine cD (Ya6 _ bs bd bl V.next vf bo bm false mem l v (L.append D (GN l)).1 _ z.m z.mr (by rw[z.k0];decide) (hv.mod H (λhl e=>e (hvk hl))) Fb (λr hr=>by have:=OP (hz r hr);omega) Fb (by have:=Xqu (seq:=(L.append D (GN l)).1) O;omega)) (.inl rfl) λu5 w5 x5 xa=>?_;have hsz5:=H.size;have H:=H.own x5 (λi hi hw=>(by rw[<-Y i Fb];have e1:=hi;rw[e1];decide));obtain⟨rfl,h6⟩:=xa;have J:=z.setMem x5 h6;have z:=J;refine go ?_;exact⟨_,rfl,H,0,_,_,_,_,false,rfl,λk hk=>(M4 (Ax hk ha)).trans (Y k hk),z,.inr (.inr ⟨rfl,O,rfl,rfl,.inr ⟨AE c3,rfl,rfl,rfl⟩⟩)⟩
theorem T7 (κ:Nat->Nat)(bs bd bl bo bm:Nat)(vf:Value)(L:Led)(D:Dsk)(V:Vs)(ts:List Tb)(mem:List Cell)(dead:Bool)(w:World)(h:StE κ bs bd bl bo bm vf L D V ts mem dead w)(hml:mem.length<=30000)(hmc:∀c∈mem,c.key.length<=4096/\c.val.length<=16384/\c.seq<=4611686018427387904)(hV:Hw V=true)(hgv:GV w)(hgvs:∀k,Mf k->κ k=0)(htl:ts.length<=900000) :
  Gy 15 [Fg bs 0] w (λk=>κ k≠0) λu w'=>∃ok e κ' bm' vf' L' D' V' ts' mem' dead',u=.tuple #[B ok,I e]/\(∀k,k<w.heap.size->κ' k=κ k)/\StE κ' bs bd bl bo bm' vf' L' D' V' ts' mem' dead' w'/\Lv L D V ts mem dead ok e L' D' V' ts' mem' dead':=by
 refine cM Tryz.func15 (λk=>κ k≠0) λH=>?_;have r:=h;have xb:∀k,w.heap.size<=k->κ k=0:=λk hk=>Bc λh9=>by have:=h.lt k h9;omega
 refine Gp (Sj bs bd bl V.next vf bo bm dead _ r.m) λw1 x1=>Fz x1 r H λr H=>?_;refine ds1 10 (λc1=>?_) λc1=>?_
 ·refine go ?_;refine GD rfl (go ?_);have xe:dead=true:=by cases dead with|true=>rfl|false=>exact absurd rfl c1
  subst xe;exact⟨_,rfl,H,false,9,κ,bm,vf,L,D,V,ts,mem,true,rfl,λ_ _=>rfl,r,.inl ⟨rfl,rfl,rfl,rfl,rfl,rfl,rfl,rfl,rfl⟩⟩
 have xd:dead=false:=by cases dead with|false=>rfl|true=>exact absurd Fj c1
 subst xd;refine go ?_;refine df 5 (rfl) (dl rfl (r.m.at rfl) (cP (r.mr.calls_len _ Fb) RX.all λw2 x2=>Fz x2 r H λr H=>?_));refine Fk (λc2=>?_) λc2=>?_
 ·refine go ?_;exact⟨_,rfl,H,false,0,κ,bm,vf,L,D,V,ts,mem,false,rfl,λ_ _=>rfl,r,.inr (.inl ⟨rfl,Az Fb,rfl,rfl,rfl,rfl,rfl,rfl,rfl,rfl⟩)⟩
 refine go ?_;refine df 5 (rfl) (dl rfl (r.m.at rfl) (cG (r.mr.calls_all _ Fb (λc hc=>(hmc c hc).2.2)) RX.all λva w3 x3 hg=>?_));have hp:=H.size;refine Fz x3 r H λr H=>?_;have J:=hg.mono hp;refine Io (e:=95) (sz:=1) (zs:=[.slice none 0 0]) (pv:=[(0,?a20_0)]) (cs:=[?a20_0]) rfl Fe ⟨rfl,rfl⟩ Fe rfl ?h20 ?f20 RX.all (λb1 w4 e1 x4 m1=>?k20)
 case h20=>refine⟨rfl,?_,trivial⟩<;>(conv=>lhs;whnf)
 case f20=>simp [Hm,Gr,An,J.sl.cells]
 have g1:=H.ge e1;have a1_hS:=r.lt;have o1_hoA:=J.ltb e1;refine FB x4 r J H λr J H=>cG (SZ [(va,mem)] _ _ (m1.arr (enc:=KO) (sz:=1) (l:=[(va,mem)]) rfl Ff rfl F5) (λq hq=>by rw[Af.1 hq];exact J.arr Ff) F5 (by simp;omega)) RX.all λvm w5 x5 xk=>?_;have hr:=H.size;refine Fz x5 r H λr H=>?_;obtain⟨m,hy,hh⟩:=xk;have Z:Mg mem m:=by simpa using hy
 have hw:=hh.mono hr;have h5:=OH Z;have h6:=H.size;refine cD (Xow κ bs bd bl bo bm vf L D V ts mem false m vm 0 [] (.slice none 0 0) _ r (hw.arr Ff) Fb (λc hc=>⟨(hmc c (h5.2 c hc)).1,(hmc c (h5.2 c hc)).2.1⟩) Fj ((Vc.Own.nil (enc:=Fi.cs) (sz:=5) (T:=0) (B:=0)).arr Ff) Fj (λh9=>absurd rfl h9) (λf hf=>by cases hf) hV (hgv.mod H (λk hk e=>e (hgvs k hk))) hgvs htl (λhl=>xb _ (hw.base_ge hl).1)) (.inl rfl) λu6 w6 x6 xc=>?_;have hsz6:=H.size;have H:=H.own x6 F4;obtain⟨e1,κ1,hz,L1,D1,V1,ts1,dead1,rfl,h7,xa,hj⟩:=xc;have r:=xa;have O:∀k,k<w.heap.size->κ1 k=κ k:=λk hk=>h7 k (Ax hk h6);refine Fk (λc3=>?_) λc3=>?_
 ·refine go ?_;exact⟨_,rfl,H,false,e1,κ1,bm,hz,L1,D1,V1,ts1,mem,dead1,rfl,O,r,.inr (.inr ⟨rfl,λe=>c2 (by rw[e];rfl),m,Z,hj,.inl ⟨c3,rfl,rfl⟩⟩)⟩
 refine go ?_;have Y:=r.lt;obtain⟨N0,hN0⟩:∃z,z=w6.heap.size:=⟨_,rfl⟩;have ht:w.heap.size<=N0:=by rw[hN0];exact H.size
 rw[<-hN0]at Y;refine cG (Yc6 [] (.slice none 0 0) _ ((Vc.Own.nil (enc:=Jy) (sz:=1) (T:=0) (B:=0)).arr Ff) Fj) RX.all λu7 w7 x7 xh=>?_;have hsz7:=H.size;refine Fz x7 r H λr H=>?_;obtain⟨bm2,rfl,ha⟩:=xh;rw[<-hN0]at ha;have h8:∀k,N0<=k/\k<w7.heap.size->κ1 k=0:=λk hk=>Bc λh9=>by have:=Y k h9;omega
 refine go ?_;refine df 5 (rfl) (JV rfl rfl rfl rfl Fe r.m (Aj rfl) (.inl rfl) (λw8 x8 xs8 xi=>?_));have xf:=r.setM x8 xi ha h8;have H:=H.own x8 (λi hi hlt=>by have xj:i=bs:=hi;rw[xj,h.k0];decide);have r:=xf;refine go ?_;have xg:e1=0:=AE c3;subst xg;exact⟨_,rfl,H,true,0,_,bm2,hz,L1,D1,V1,ts1,[],dead1,rfl,λk hk=>(if_neg (λe=>absurd (Ax hk ht) (AP.2 e.1))).trans (O k hk),r,.inr (.inr ⟨rfl,λe=>c2 (by rw[e];rfl),m,Z,hj,.inr ⟨rfl,rfl,rfl⟩⟩)⟩
end Go.Proofs.YtiooodckiddpmaaGreatDoor

namespace Go.Proofs.YtiooodckiddpmaaGreatDoor
open Go.Vc Go.Sp
attribute [local irreducible] W XW Dw G9
def FQ (mem:List Cell)(ts:List Tb):List Cell:=mem++ts.flatMap (·.cs)
variable {ts:List Tb}
theorem Hg {mem:List Cell}{c:Cell}: c∈FQ mem ts↔c∈mem\/∃t∈ts,c∈t.cs:=by unfold FQ;rw[Ak,BU]
theorem LZ {α β:Type}{f:α->β} : ∀ {l:List α},(l.map f).Nodup->∀ {x y:α},x∈l->y∈l->f x=f y->x=y
 | [],_,_,_,hx,_,_=>by cases hx
 | a :: r,h,x,y,hx,hy,e=>by
  rw[Am,Bk]at h;rcases Ah.1 hx with ex|hx2
  ·rcases Ah.1 hy with ey|hy2
   ·rw[ex,ey]
   ·exact absurd (by rw[<-ex,e];exact Ct hy2) h.1
  ·rcases Ah.1 hy with ey|hy2
   ·exact absurd (by rw[<-ey,<-e];exact Ct hx2) h.1
   ·exact LZ h.2 hx2 hy2 e
theorem Tp {a b c:Fh}(h1:F0 a b=true)(h2:F0 c b=false):F0 a c=true:=by
 rcases K5 a c with e|e|e
 ·rw[e,h2]at h1;cases h1
 ·exact e
 ·rw[J9 _ _ _ e h1]at h2;cases h2
theorem OT {a b c:Fh}(h1:F0 b a=false)(h2:F0 b c=true):F0 a c=true:=by
 rcases K5 a c with e|e|e
 ·rw[e,h2]at h1;cases h1
 ·exact e
 ·rw[J9 _ _ _ h2 e]at h1;cases h1
def NH (a b:Fi):Prop:=a.lev<b.lev\/(a.lev=b.lev/\((a.lev=0/\a.id<b.id)\/(0<a.lev/\F0 a.lst b.fst=true)))
variable {f:Fi}
theorem X8i {n:Int}(h:I9 n f=true):F0 f.lst f.fst=false:=by
 unfold I9 at h;simp only [Aq,BI]at h;exact h.2
theorem Ybr {n:Int}{a b:Fi}(ha:I9 n a=true)(h:IU a b=true):NH a b:=by
 have h0:=(ME ha).2.2.1;unfold IU at h;split at h
 ·rename_i e;exact .inr ⟨e.2,.inr ⟨e.1,h⟩⟩
 ·rename_i e;rcases(RM a b).1 h with h|⟨h1,⟨h2,h3⟩|⟨h2,h3⟩⟩
  ·exact .inl h
  ·exact .inr ⟨h1,.inl ⟨h2,h3⟩⟩
  ·exact absurd ⟨by omega,h1⟩ e
theorem X2u {a b c:Fi}(hb:F0 b.lst b.fst=false)(h1:NH a b)(h2:NH b c):NH a c:=by
 rcases h1 with h1|⟨h1,h1'|h1'⟩
 ·rcases h2 with h2|⟨h2,_⟩
  ·exact .inl Fb
  ·exact .inl Fb
 ·rcases h2 with h2|⟨h2,h2'|h2'⟩
  ·exact .inl Fb
  ·exact .inr ⟨by omega,.inl ⟨h1'.1,by omega⟩⟩
  ·omega
 ·rcases h2 with h2|⟨h2,h2'|h2'⟩
  ·exact .inl Fb
  ·omega
  ·exact .inr ⟨by omega,.inr ⟨h1'.1,J9 _ _ _ (Tp h1'.2 hb) h2'.2⟩⟩
theorem UM {n:Int} : ∀ {fs:List Fi},(∀f∈fs,I9 n f=true)->KB fs=true->fs.Pairwise NH
 | [],_,_=>Bq
 | [a],_,_=>Da _ _
 | a :: b :: r,ho,h=>by
  unfold KB at h;rw[Aq]at h;have J:=UM (λf O=>ho f (Ao _ O)) h.2;have z:=Ybr (ho a Ai) h.1;refine AI.2 ⟨λx H=>?_,J⟩;rcases Ah.1 H with rfl|H
  ·exact z
  ·exact X2u (X8i (ho b F5)) z ((AI.1 J).1 x H)
theorem Uo {V:Vs}(h:Hw V=true):V.fs.Pairwise NH:=by
 obtain⟨_,_,_,h4,_,r⟩:=JG h;exact UM h4 r
variable {α:Type}
theorem Q5 {R:α->α->Prop}{l:List α}(h:l.Pairwise R){x y:α}(hx:x∈l)(hy:y∈l):x=y\/R x y\/R y x:=by
 induction l with
 | nil=>cases hx
 | cons a r ih=>
  rw[AI]at h;rcases Ah.1 hx with ex|hx2
  ·rcases Ah.1 hy with ey|hy2
   ·exact .inl (ex.trans ey.symm)
   ·exact .inr (.inl (ex▸h.1 y hy2))
  ·rcases Ah.1 hy with ey|hy2
   ·exact .inr (.inr (ey▸h.1 x hx2))
   ·exact ih h.2 hx2 hy2
theorem Xy0 {V:Vs}(h:Hw V=true){g:Fi}(hf:f∈V.fs)(hg:g∈V.fs)(hl:f.lev=g.lev)(h0:0<f.lev):f=g\/F0 f.lst g.fst=true\/F0 g.lst f.fst=true:=by
 rcases Q5 (Uo h) hf hg with e|e|e
 ·exact .inl e
 ·rcases e with e|⟨_,e|e⟩
  ·omega
  ·omega
  ·exact .inr (.inl e.2)
 ·rcases e with e|⟨_,e|e⟩
  ·omega
  ·omega
  ·exact .inr (.inr e.2)
structure TV (t:Tb)(f:Fi):Prop where
 h:t.h=(f.lev,f.id)
 ne:t.cs≠[]
 fst:f.fst=(GB t.cs 0).key
 lst:f.lst=(GB t.cs (t.cs.length-1)).key
variable {i:Nat}{l:List Cell}
theorem FY {c:Cell}(h:l[i]?=some c):GB l i=c:=by unfold GB;rw[h];rfl
theorem X8j (hu:Jp l){c:Cell}(hc:c∈l):F0 c.key (GB l 0).key=false/\F0 (GB l (l.length-1)).key c.key=false:=by
 obtain⟨i,hi⟩:=AQ hc;obtain⟨h1,rfl⟩:=Ap.1 hi;have r:=C4.1 hu;rw[FY (Au (show 0<l.length by omega)),FY (Au (show l.length-1<l.length by omega))]
 constructor
 ·rcases CJ i with rfl|h0
  ·exact IC _
  ·exact KR (r 0 i Fb h1 h0)
 ·by_cases e:i=l.length-1
  ·subst e;exact IC _
  ·exact KR (r i (l.length-1) h1 Fb Fb)
theorem TV.rng {t:Tb}(h:TV t f)(hu:Jp t.cs){c:Cell}(hc:c∈t.cs):F0 c.key f.fst=false/\F0 f.lst c.key=false:=by
 rw[h.fst,h.lst];exact X8j hu hc
def QG (t u:Tb):Prop:=t.h.1<u.h.1\/(t.h.1=0/\u.h.1=0/\u.h.2<t.h.2)
structure Sto (n:Int)(V:Vs)(ts:List Tb)(mem:List Cell):Prop where
 isv:Hw V=true
 fwd:∀f∈V.fs,∃t∈ts,TV t f
 bwd:∀t∈ts,∃f∈V.fs,TV t f
 nod:(ts.map (·.h)).Nodup
 up:∀t∈ts,Jp t.cs
 okc:∀c∈FQ mem ts,Gk c=true/\c.seq<=n
 ms:FO mem
 n1:∀c∈mem,∀t∈ts,∀d∈t.cs,d.key=c.key->d.seq<c.seq
 n2:∀t∈ts,∀u∈ts,QG t u->∀c∈t.cs,∀d∈u.cs,d.key=c.key->d.seq<c.seq
theorem R9 (h:FO l):Jx l:=λc r d hd hk hs=>by
 rcases Q5 h r hd with e|e|e
 ·exact e
 ·rw[Te hk hs]at e;cases e
 ·rw[Te hk.symm hs.symm]at e;cases e
theorem Tx (h:Jp l){c d:Cell}(hc:c∈l)(hd:d∈l)(hk:c.key=d.key):c=d:=by
 rcases Q5 h hc hd with e|e|e
 ·exact e
 ·exact absurd hk (MZ e)
 ·exact absurd hk.symm (MZ e)
section
variable {n:Int}{V:Vs}{ts:List Tb}{mem:List Cell}
theorem Sto.lev (h:Sto n V ts mem){t:Tb}(ht:t∈ts):0<=t.h.1/\t.h.1<=4/\1<=t.h.2/\t.h.2<V.next:=by
 obtain⟨f,r,hv⟩:=h.bwd t ht;have:=ME ((JG h.isv).2.2.2.1 f r);rw[hv.h];exact⟨this.2.2.1,this.2.2.2.1,this.1,this.2.1⟩
theorem Sto.apart (h:Sto n V ts mem){t u:Tb}(ht:t∈ts)(hu:u∈ts)(hl:t.h.1=u.h.1)(h0:0<t.h.1){c d:Cell}(hc:c∈t.cs)(hd:d∈u.cs)(hk:d.key=c.key):t=u:=by
 obtain⟨f,O,hv⟩:=h.bwd t ht;obtain⟨g,Y,r⟩:=h.bwd u hu;obtain⟨z,J⟩:=hv.rng (h.up t ht) hc;obtain⟨b1,H⟩:=r.rng (h.up u hu) hd;rw[hk]at b1 H;have e1:t.h.1=f.lev:=by rw[hv.h]
 have e2:u.h.1=g.lev:=by rw[r.h]
 rcases Xy0 h.isv O Y Fb Fb with e|e|e
 ·refine LZ h.nod ht hu ?_;rw[hv.h,r.h,e]
 ·rw[OT J e]at b1;cases b1
 ·rw[OT H e]at z;cases z
theorem Sto.uniq (h:Sto n V ts mem):Jx (FQ mem ts):=λc r d hd hk hs=>by
 rcases Hg.1 r with r|⟨t,ht,r⟩
 ·rcases Hg.1 hd with hd|⟨u,hu,hd⟩
  ·exact R9 h.ms c r d hd hk hs
  ·have:=h.n1 c r u hu d hd hk.symm;omega
 ·rcases Hg.1 hd with hd|⟨u,hu,hd⟩
  ·have:=h.n1 d hd t ht c r hk;omega
  ·by_cases e:t=u
   ·subst e;exact Tx (h.up t ht) r hd hk
   ·have l1:=h.lev ht;have l2:=h.lev hu;have z:t.h≠u.h:=λe2=>e (LZ h.nod ht hu e2);rcases Ee t.h.1 u.h.1 with g|g|g
    ·have:=h.n2 t ht u hu (.inl g) c r d hd hk.symm;omega
    ·by_cases g0:0<t.h.1
     ·exact absurd (h.apart ht hu g g0 r hd hk.symm) e
     ·rcases Ee t.h.2 u.h.2 with k|k|k
      ·have:=h.n2 u hu t ht (.inr ⟨by omega,by omega,k⟩) d hd c r hk;omega
      ·exact absurd (Dv g k) z
      ·have:=h.n2 t ht u hu (.inr ⟨by omega,by omega,k⟩) c r d hd hk.symm;omega
    ·have:=h.n2 u hu t ht (.inl g) d hd c r hk;omega
end
theorem Xuc {h:Int×Int}(hn:∀t∈ts,t.h≠h):HH ts h=none:=by
 unfold HH;rw[C3];intro t r;simpa using hn t r
theorem NR (hn:(ts.map (·.h)).Nodup){t:Tb}(ht:t∈ts):HH ts t.h=some t:=by
 cases e:HH ts t.h with
 | none=>
  unfold HH at e;rw[C3]at e;have:=e t ht;simp at this
 | some u=>
  have h1:=PY e;have h2:u.h=t.h:=by unfold HH at e;simpa using Cp e
  rw[LZ hn h1 ht h2]
theorem Ur : ∀(tbs ts:List Tb),(∀t∈tbs,∀u∈ts,u.h≠t.h)->(tbs.map (·.h)).Nodup->tbs.foldl Hr ts=ts++tbs
 | [],ts,_,_=>by simp
 | t :: r,ts,h,hn=>by
  rw[Am,Bk]at hn;have e:Hr ts t=ts++[t]:=by
   unfold Hr;rw[Xuc (λu hu=>h t Ai u hu)];rfl
  rw[List.foldl_cons,e,Ur r (ts++[t]) (λq z u hu=>?_) hn.2]
  ·simp
  ·rcases Ak.1 hu with hu|hu
   ·exact h q (Ao _ z) u hu
   ·rw[Af.1 hu];exact λe2=>hn.1 (by rw[e2];exact Ct z)
def kp (gone:List Fi)(t:Tb):Bool:=gone.all λf=>decide (t.h≠(f.lev,f.id))
theorem XA : ∀(gone:List Fi) (ts:List Tb),M1 ts gone=ts.filter (kp gone)
 | [],ts=>by
  exact(BG.2 λt _=>rfl).symm
 | f :: r,ts=>by
  show M1 (Ki ts (f.lev,f.id)) r=_;rw[XA r,Ki,List.filter_filter]
  congr 1
  funext t
  show(kp r t && decide (t.h≠(f.lev,f.id)))=(decide (t.h≠(f.lev,f.id)) && kp r t);rw[Bool.and_comm]
theorem MW {gone:List Fi}{t:Tb} : kp gone t=true↔∀f∈gone,t.h≠(f.lev,f.id):=by
 unfold kp;simp
theorem Xy1 (s:List (List Cell)×Nat)(c:Cell)(h:∀g∈s.1,g≠[]):∀g∈(K8 s c).1,g≠[]:=by
 unfold K8;split
 ·intro g r;rcases Ak.1 r with r|r
  ·exact h g r
  ·rw[Af.1 r];simp
 ·intro g r;rcases Ak.1 r with r|r
  ·exact h g (List.dropLast_subset _ r)
  ·rw[Af.1 r];simp
theorem XJ (l:List Cell):∀g∈Gu l,g≠[]:=by
 unfold Gu
 suffices hs:∀(l:List Cell) (s:List (List Cell)×Nat),(∀g∈s.1,g≠[])->∀g∈(l.foldl K8 s).1,g≠[] from hs l _ (λg z=>by cases z)
 intro l
 induction l with
 | nil=>exact λs h=>h
 | cons c r ih=>exact λs h=>ih _ (Xy1 s c h)
structure ChS (V:Vs)(ts:List Tb)(l:List Cell)(lv:Int)(gone:List Fi)(V':Vs)(ts':List Tb):Prop where
 ok:Ll V (gone.map (·.id)) (Gm lv V.next (Gu l))=true
 vs:∃fs',fs'.Perm (IR V.fs (gone.map (·.id))++Gm lv V.next (Gu l))/\Hw ⟨Im V.next (Gm lv V.next (Gu l)),fs'⟩=true/\V'=⟨Im V.next (Gm lv V.next (Gu l)),fs'⟩
 tb:∃tbs:List Tb,tbs.map (λt=>(t.h,t.cs))=M3 lv V.next (Gu l)/\ts'=M1 (tbs.foldl Hr ts) gone
theorem XR (L:Led)(D:Dsk)(p:Fh):(L.write D L.last p).2.1.last=L.last/\(L.write D L.last p).2.1.ents.length<=L.ents.length:=by
 unfold Led.write;split
 ·exact⟨rfl,Aa _⟩
 split
 ·exact⟨rfl,Aa _⟩
 split
 ·exact⟨rfl,Aa _⟩
 dsimp only
 repeat' split
 all_goals first|exact⟨rfl,Aa _⟩|exact⟨by unfold Led.last;simp,Ab _⟩
variable {lv:Int}
theorem TB {L L':Led}{D D':Dsk}{V V':Vs}{ts':List Tb}{dead dead':Bool}{e:Int}{gone:List Fi}(h:L9 L D V ts dead l lv gone e L' D' V' ts' dead'):
  (L'.last=L.last/\L'.ents.length<=L.ents.length)/\((e≠0/\V'=V/\ts'=ts)\/(e=0/\dead'=dead/\ChS V ts l lv gone V' ts')):=by
 rcases h with⟨h1,rfl,_,h2,h3,_⟩|⟨_,hok,fs',hp,_,hv,_,⟨h1,rfl,rfl,_,h2,h3,_⟩|⟨_,rfl,_,⟨h1,rfl,h2,h3,_⟩|⟨_,h1,h2,h3,h4⟩⟩⟩
 ·exact⟨⟨rfl,Aa _⟩,.inl ⟨h1,h2,h3⟩⟩
 ·exact⟨⟨rfl,Aa _⟩,.inl ⟨h1,h2,h3⟩⟩
 ·exact⟨XR _ _ _,.inl ⟨h1,h2,h3⟩⟩
 ·exact⟨XR _ _ _,.inr ⟨h1,h3,hok,⟨fs',hp,hv,h2⟩,h4⟩⟩
variable {ss:List (List Cell)}{tbs:List Tb}
theorem WO {next:Int}(h:tbs.map (λt=>(t.h,t.cs))=M3 lv next ss):
  tbs.length=ss.length/\(∀(i:Nat) (t:Tb),tbs[i]?=some t->t.h=(lv,next+↑i)/\ss[i]?=some t.cs)/\(∀(i:Nat) (sg:List Cell),ss[i]?=some sg->∃t,tbs[i]?=some t/\t.h=(lv,next+↑i)/\t.cs=sg):=by
 have z:tbs.length=ss.length:=by
  have:=congrArg A5 h;unfold M3 at this;simpa using this
 have r:∀(i:Nat) (t:Tb),tbs[i]?=some t->t.h=(lv,next+↑i)/\ss[i]?=some t.cs:=λi t hi=>by
  have h1:=congrArg (λl=>l[i]?) h;unfold M3 at h1;simp only [AG,Nb,hi,Cn]at h1
  cases hs:ss[i]? with
  | none=>rw[hs]at h1;simp at h1
  | some sg=>
   rw[hs]at h1;simp only [Cn,Al.injEq,B5.injEq]at h1;exact⟨h1.1,by rw[h1.2]⟩
 refine⟨z,r,λi sg hi=>?_⟩;have hil:=(Ap.1 hi).1;have h1:tbs[i]?=some (tbs[i]'Fb):=Au _;obtain⟨h2,h3⟩:=r i _ h1;rw[hi]at h3;exact⟨_,h1,h2,(Al.inj h3).symm⟩
theorem Xud {next:Int}(h:tbs.map (λt=>(t.h,t.cs))=M3 lv next ss):tbs.flatMap (·.cs)=ss.flatten:=by
 obtain⟨hl,h1,_⟩:=WO h;rw[List.flatMap_def]
 congr 1
 apply BB
 intro i;rw[AG]
 cases hi:tbs[i]? with
 | none=>rw[EP]at hi;rw[Bh Fb];rfl
 | some t=>rw[(h1 i t hi).2];rfl
theorem X8k {next:Int}(h:f∈Gm lv next ss):∃(i:Nat) (sg:List Cell),ss[i]?=some sg/\f=Lw lv next i sg:=by
 unfold Gm at h;obtain⟨p,r,rfl⟩:=Ay.1 h;obtain⟨i,hi⟩:=AQ r;rw[Nb]at hi;obtain⟨sg,hs,rfl⟩:=Bp.1 hi;exact⟨i,sg,hs,rfl⟩
theorem X2v {next:Int}{sg:List Cell}(h:ss[i]?=some sg):Lw lv next i sg∈Gm lv next ss:=by
 unfold Gm;refine Ay.2 ⟨(sg,i),Ag (i:=i) ?_,rfl⟩;rw[Nb,h];rfl
section
variable {n lv:Int}{V V':Vs}{ts ts':List Tb}{mem l:List Cell}{gone:List Fi}
theorem ChS.sto (h:Sto n V ts mem)(c:ChS V ts l lv gone V' ts')(hg:∀f∈gone,f∈V.fs)(hlu:Jp l)(hl:∀c∈l,c∈FQ mem ts)
  (hA:∀u∈ts,kp gone u=true->(lv<u.h.1\/(lv=0/\u.h.1=0))->∀c∈l,∀d∈u.cs,d.key=c.key->d.seq<c.seq)
  (hB:∀t∈ts,kp gone t=true->t.h.1<lv->∀c∈t.cs,∀d∈l,d.key=c.key->d.seq<c.seq) :
  Sto n V' ts' []/\∃tbs:List Tb,ts'=ts.filter (kp gone)++tbs/\tbs.flatMap (·.cs)=l:=by
 obtain⟨hok,⟨fs',hp,hv,rfl⟩,tbs,hz,xb⟩:=c;obtain⟨htl,hr,h9⟩:=WO hz;have J:=Xud hz;rw[Th]at J;have Y:∀t∈tbs,t.h.1=lv/\V.next<=t.h.2/\∃i:Nat,t.h.2=V.next+↑i/\(Gu l)[i]?=some t.cs:=λt r=>by
  obtain⟨i,hi⟩:=AQ r;obtain⟨h1,h2⟩:=hr i t hi;rw[h1];exact⟨rfl,by show V.next<=V.next+↑i;omega,i,rfl,h2⟩
 have hy:∀t∈tbs,∀u∈ts,u.h≠t.h:=λt r u hu e=>by
  have h1:=(Y t r).2.1;have h2:=(h.lev hu).2.2.2;rw[e]at h2;omega
 have h7:(tbs.map (·.h)).Nodup:=by
  rw[List.Nodup,C4];intro i j hi hj hij e;simp only [Aw]at hi hj;simp only [List.getElem_map]at e;rw[(hr i _ (Au hi)).1,(hr j _ (Au hj)).1]at e;have:=(B5.inj e).2;omega
 have xc:∀t∈tbs,kp gone t=true:=λt r=>MW.2 λf O e=>by
  have h1:=(Y t r).2.1;have h2:=(ME ((JG h.isv).2.2.2.1 f (hg f O))).2.1;rw[e]at h1;have h3:V.next<=f.id:=h1;omega
 have Z:ts'=ts.filter (kp gone)++tbs:=by
  rw[xb,Ur tbs ts hy h7,XA,Bs,BG.2 xc]
 refine⟨?_,tbs,Z,J⟩;have z:∀t,t∈ts'↔(t∈ts/\kp gone t=true)\/t∈tbs:=λt=>by rw[Z,Ak,Av]
 have xa:(Gu l).flatten=l:=Th l;have hw:∀t∈tbs,∀c∈t.cs,c∈l:=λt r c H=>by rw[<-J];exact BU.2 ⟨t,r,H⟩
 have h6:=(JG h.isv).2.2.2.2.1;have hx:(Gu l).flatten.Pairwise λa b=>F0 a.key b.key=true:=by rw[xa];exact hlu
 rw[List.pairwise_flatten]at hx;have hh:∀f∈V.fs,∀t∈ts,TV t f->(kp gone t=true↔f.id∉gone.map (·.id)):=λf O t r hv=>by
  rw[MW]
  constructor
  ·intro h1 h2;obtain⟨g,hq,xd⟩:=Ay.1 h2;have:g=f:=LZ h6 (hg g hq) O xd;exact h1 g hq (by rw[hv.h,this])
  ·intro h1 g hq e;refine h1 (Ay.2 ⟨g,hq,?_⟩);rw[hv.h]at e;exact(B5.inj e).2.symm
 refine⟨hv,λf O=>?_,λt r=>?_,?_,λt r=>?_,λc H=>?_,Bq,λc H=>(by cases H),λt r u hu hn c H d hd hk=>?_⟩
 ·rcases Ak.1 (hp.mem_iff.1 O)with O|O
  ·unfold IR at O;obtain⟨h5,xe⟩:=Av.1 O;obtain⟨t,r,hv⟩:=h.fwd f h5;exact⟨t,(z t).2 (.inl ⟨r,(hh f h5 t r hv).2 (by simpa using xe)⟩),hv⟩
  ·obtain⟨i,sg,hs,rfl⟩:=X8k O;obtain⟨t,r,h1,h2⟩:=h9 i sg hs;exact⟨t,(z t).2 (.inr (Ag r)),h1,by rw[h2];exact XJ l sg (Ag hs),by rw[h2];rfl,by rw[h2];rfl⟩
 ·rcases(z t).1 r with⟨r,hk⟩|r
  ·obtain⟨f,O,hv⟩:=h.bwd t r;refine⟨f,hp.mem_iff.2 (B8 _ ?_),hv⟩;unfold IR;refine Av.2 ⟨O,?_⟩;simpa using(hh f O t r hv).1 hk
  ·obtain⟨i,hi⟩:=AQ r;obtain⟨h1,h2⟩:=hr i t hi;exact⟨Lw lv V.next i t.cs,hp.mem_iff.2 (Bz _ (X2v h2)),h1,XJ l _ (Ag h2),rfl,rfl⟩
 ·rw[Z,A6];refine BM.2 ⟨List.Nodup.sublist (CH _ List.filter_sublist) h.nod,h7,λa ha b hb e=>?_⟩;obtain⟨u,hu,rfl⟩:=Ay.1 ha;obtain⟨t,r,rfl⟩:=Ay.1 hb;exact hy t r u (Av.1 hu).1 e
 ·rcases(z t).1 r with⟨r,_⟩|r
  ·exact h.up t r
  ·obtain⟨_,_,i,_,h2⟩:=Y t r;exact hx.1 _ (Ag h2)
 ·rcases Hg.1 H with H|⟨t,r,H⟩
  ·cases H
  ·rcases(z t).1 r with⟨r,_⟩|r
   ·exact h.okc c (Hg.2 (.inr ⟨t,r,H⟩))
   ·exact h.okc c (hl c (hw t r c H))
 ·rcases(z t).1 r with⟨r,hkt⟩|r
  ·rcases(z u).1 hu with⟨hu,hku⟩|hu
   ·exact h.n2 t r u hu hn c H d hd hk
   ·obtain⟨g1,g2,_⟩:=Y u hu;have g3:=h.lev r;rcases hn with hn|⟨_,_,hn⟩
    ·exact hB t r hkt Fb c H d (hw u hu d hd) hk
    ·omega
  ·obtain⟨g1,g2,i,g4,g5⟩:=Y t r;rcases(z u).1 hu with⟨hu,hku⟩|hu
   ·refine hA u hu hku ?_ c (hw t r c H) d hd hk;rcases hn with hn|⟨hn1,hn2,_⟩
    ·exact .inl Fb
    ·exact .inr ⟨by omega,hn2⟩
   ·obtain⟨k1,k2,j,k4,k5⟩:=Y u hu;rcases hn with hn|⟨_,_,hn⟩
    ·omega
    ·have h8:j<i:=by omega
     obtain⟨hi,xf⟩:=Ap.1 g5;obtain⟨hj,xg⟩:=Ap.1 k5;have:=C4.1 hx.2 j i hj hi h8 d (by rw[xg];exact hd) c (by rw[xf];exact H);exact absurd hk (MZ this)
theorem ChS.flush {m:List Cell}{M:List Rw}(h:Sto n V ts mem)(hm:Mg mem m)(c:ChS V ts m 0 [] V' ts')(hT:Sp.Told (FQ mem ts) M):Sto n V' ts' []/\Sp.Told (FQ [] ts') M/\(∃tbs:List Tb,ts'=ts++tbs/\tbs.flatMap (·.cs)=m):=by
 obtain⟨J,H⟩:=QC (R9 h.ms) hm;obtain⟨h1,tbs,h2,h3⟩:=c.sto h (λf Y=>(by cases Y)) J (λc r=>Hg.2 (.inl ((H c).1 r).1)) (λu hu _ _ c r d hd hk=>h.n1 c ((H c).1 r).1 u hu d hd hk) (λt z _ hl=>by have:=(h.lev z).1;omega);have h4:ts.filter (kp [])=ts:=BG.2 λt _=>rfl;rw[h4]at h2;refine⟨h1,PG hT (λc r=>?_) (λc r=>.inl ?_),tbs,h2,h3⟩
 ·rcases Hg.1 r with r|⟨t,z,r⟩
  ·cases r
  ·rw[h2]at z;rcases Ak.1 z with z|z
   ·exact Hg.2 (.inr ⟨t,z,r⟩)
   ·refine Hg.2 (.inl ((H c).1 ?_).1);rw[<-h3];exact BU.2 ⟨t,z,r⟩
 ·rcases Hg.1 r.1 with hc1|⟨t,z,hc1⟩
  ·have:c∈m:=(H c).2 ⟨hc1,λd hd=>r.2 d (Hg.2 (.inl hd))⟩;rw[<-h3]at this;obtain⟨t,z,O⟩:=BU.1 this;exact Hg.2 (.inr ⟨t,by rw[h2];exact Bz _ z,O⟩)
  ·exact Hg.2 (.inr ⟨t,by rw[h2];exact B8 _ z,hc1⟩)
end
structure PickP (V:Vs)(p:List Fi)(lv:Int):Prop where
 hd:∃f,p[0]?=some f/\f.lev+1=lv
 sub:∀f∈p,f∈V.fs/\(f.lev=lv-1\/f.lev=lv)
 lo:1<=lv/\lv<=4
 src:lv=1->∀f∈V.fs,f.lev=0->f∈p
 ovr:∀f∈p,f.lev=lv-1->∀g∈V.fs,g.lev=lv->F0 g.lst f.fst=false->F0 f.lst g.fst=false->g∈p
 len:p.length<=V.fs.length
 nod:(p.map (·.id)).Nodup
def Jr (ts:List Tb)(p:List Fi):List Cell:=p.flatMap λf=>match HH ts (f.lev,f.id)with
 | some t=>t.cs
 | none=>[]
def I5 (fs:List Fi)(lv:Int)(c:Cell):Bool:=!c.del || fs.any λf=>decide (lv<f.lev) && (!F0 f.lst c.key && !F0 c.key f.fst)
section
variable {n lv:Int}{V V':Vs}{ts ts':List Tb}{m:List Cell}{p:List Fi}{M:List Rw}
theorem UU (h:Sto n V ts [])(hp:∀f∈p,f∈V.fs){c:Cell} : c∈Jr ts p↔∃t∈ts,kp p t=false/\c∈t.cs:=by
 unfold Jr;rw[BU]
 constructor
 ·rintro ⟨f,r,hc⟩;obtain⟨t,z,hv⟩:=h.fwd f (hp f r);rw[<-hv.h,NR h.nod z]at hc;refine⟨t,z,?_,hc⟩
  cases hk:kp p t with
  | false=>rfl
  | true=>exact absurd hv.h (MW.1 hk f r)
 ·rintro ⟨t,z,hk,hc⟩;have:¬ ∀f∈p,t.h≠(f.lev,f.id):=λh2=>by rw[MW.2 h2]at hk;cases hk
  obtain⟨f,r⟩:=Classical.not_forall.1 this;rw[Classical.not_imp]at r;have e:=Classical.not_not.1 r.2;refine⟨f,r.1,?_⟩;rw[<-e,NR h.nod z];exact hc
theorem V5 (h:Sto n V ts [])(hp:PickP V p lv){t:Tb}(ht:t∈ts)(hk:kp p t=false):∃f∈p,TV t f/\(t.h.1=lv-1\/t.h.1=lv):=by
 have:¬ ∀f∈p,t.h≠(f.lev,f.id):=λh2=>by rw[MW.2 h2]at hk;cases hk
 obtain⟨f,z⟩:=Classical.not_forall.1 this;rw[Classical.not_imp]at z;have e:=Classical.not_not.1 z.2;obtain⟨g,H,hv⟩:=h.bwd t ht;have r:=(JG h.isv).2.2.2.2.1;have e2:f=g:=LZ r (hp.sub f z.1).1 H (by have:=hv.h;rw[e]at this;exact(B5.inj this).2);subst e2;have:=(hp.sub f z.1).2;refine⟨f,z.1,hv,?_⟩;rw[hv.h];exact this
theorem Wg (h:Sto n V ts [])(hp:PickP V p lv){t u:Tb}(ht:t∈ts)(hkt:kp p t=false)(hu:u∈ts)(hku:kp p u=true){c d:Cell}(hc:c∈t.cs)(hd:d∈u.cs)(hk:d.key=c.key):lv<u.h.1\/QG u t:=by
 obtain⟨f,hf,hv,H⟩:=V5 h hp ht hkt;obtain⟨g,Y,z⟩:=h.bwd u hu;have e1:t.h.1=f.lev:=by rw[hv.h]
 have e2:u.h.1=g.lev:=by rw[z.h]
 have r:g∉p:=λh2=>MW.1 hku g h2 z.h;have hlo:=hp.lo;rcases Ee lv u.h.1 with q|q|q
 ·exact .inl q
 ·exfalso;rcases H with H|H
  ·obtain⟨J,Z⟩:=hv.rng (h.up t ht) hc;obtain⟨b1,O⟩:=z.rng (h.up u hu) hd;rw[hk]at b1 O;exact r (hp.ovr f hf Fb g Y Fb (by
    cases e:F0 g.lst f.fst with
    | false=>rfl
    | true=>rw[OT O e]at J;cases J) (by
    cases e:F0 f.lst g.fst with
    | false=>rfl
    | true=>rw[OT Z e]at b1;cases b1))
  ·have:=h.apart ht hu Fb Fb hc hd hk;rw[this,hku]at hkt;cases hkt
 ·right
  by_cases q2:u.h.1<t.h.1
  ·exact .inl q2
  ·exfalso
   by_cases q3:lv=1
   ·exact r (hp.src q3 g Y (by have:=h.lev hu;omega))
   ·have:=h.apart ht hu Fb Fb hc hd hk;rw[this,hku]at hkt;cases hkt
theorem ChS.merge (h:Sto n V ts [])(hp:PickP V p lv)(hm:Mg (Jr ts p) m)(c:ChS V ts (m.filter (I5 V.fs lv)) lv p V' ts')(hT:Sp.Told (FQ [] ts) M) :
  Sto n V' ts' []/\Sp.Told (FQ [] ts') M/\(∃tbs:List Tb,ts'=ts.filter (kp p)++tbs/\tbs.flatMap (·.cs)=m.filter (I5 V.fs lv)):=by
 have hy:∀f∈p,f∈V.fs:=λf hf=>(hp.sub f hf).1;have hj:∀c,c∈Jr ts p↔∃t∈ts,kp p t=false/\c∈t.cs:=λc=>UU h hy;have Z:∀c∈Jr ts p,c∈FQ [] ts:=λc r=>by
  obtain⟨t,z,_,h2⟩:=(hj c).1 r;exact Hg.2 (.inr ⟨t,z,h2⟩)
 have hq:Jx (Jr ts p):=λc r d hd=>h.uniq c (Z c r) d (Z d hd);obtain⟨hz,hr⟩:=QC hq hm;have hlo:=hp.lo;have hx:∀c∈m.filter (I5 V.fs lv),∃t∈ts,kp p t=false/\c∈t.cs:=λc r=>(hj c).1 ((hr c).1 (Av.1 r).1).1;obtain⟨h1,tbs,h2,h3⟩:=c.sto h hy (Cu _ hz) (λc r=>by
  obtain⟨t,z,_,J⟩:=hx c r;exact Hg.2 (.inr ⟨t,z,J⟩)) (λu hu Y hl c r d hd hk=>by
  obtain⟨t,z,O,J⟩:=hx c r;obtain⟨f,hf,hv,hlt⟩:=V5 h hp z O;exact h.n2 t z u hu (.inl (by rcases hl with hl|hl<;>omega)) c J d hd hk) (λt z O hl c r d hd hk=>by
  obtain⟨u,hu,Y,H⟩:=hx d hd;rcases Wg h hp hu Y z O H r hk.symm with q|q
  ·omega
  ·exact h.n2 t z u hu q c r d H hk)
 refine⟨h1,PG hT (λc r=>?_) (λc r=>?_),tbs,h2,h3⟩
 ·rcases Hg.1 r with r|⟨t,z,r⟩
  ·cases r
  ·rw[h2]at z;rcases Ak.1 z with z|z
   ·exact Hg.2 (.inr ⟨t,(Av.1 z).1,r⟩)
   ·have:c∈m.filter (I5 V.fs lv):=by rw[<-h3];exact BU.2 ⟨t,z,r⟩
    exact Z c ((hr c).1 (Av.1 this).1).1
 ·rcases Hg.1 r.1 with hc1|⟨t,z,J⟩
  ·cases hc1
  ·cases O:kp p t with
   | true=>exact .inl (Hg.2 (.inr ⟨t,by rw[h2];exact B8 _ (Av.2 ⟨z,O⟩),J⟩))
   | false=>
    have h5:c∈Jr ts p:=(hj c).2 ⟨t,z,O,J⟩;have hh:c∈m:=(hr c).2 ⟨h5,λd hd=>r.2 d (Z d hd)⟩
    by_cases hs:I5 V.fs lv c=true
    ·have:c∈m.filter (I5 V.fs lv):=Av.2 ⟨hh,hs⟩;rw[<-h3]at this;obtain⟨u,hu,hcu⟩:=BU.1 this;exact .inl (Hg.2 (.inr ⟨u,by rw[h2];exact Bz _ hu,hcu⟩))
    ·right;have ha:I5 V.fs lv c=false:=by simpa using hs
     unfold I5 at ha;rw[Bool.or_eq_false_iff]at ha;refine⟨by simpa using ha.1,λd hd hk=>?_⟩;rcases Hg.1 hd with hd|⟨u,hu,H⟩
     ·cases hd
     ·rw[h2]at hu;rcases Ak.1 hu with hu|hu
      ·obtain⟨hu,Y⟩:=Av.1 hu;rcases Wg h hp z O hu Y J H hk with q|q
       ·obtain⟨g,hg,hw⟩:=h.bwd u hu;obtain⟨b1,b2⟩:=hw.rng (h.up u hu) H;have h9:=List.any_eq_false.1 ha.2 g hg;rw[hk]at b1 b2;have e2:u.h.1=g.lev:=by rw[hw.h]
        rw[b1,b2,decide_eq_true (show lv<g.lev by omega)]at h9;exact h9 rfl
       ·have g1:=h.n2 u hu t z q d H c J hk.symm;have g2:=r.2 d (Hg.2 (.inr ⟨u,hu,H⟩)) hk;omega
      ·have:d∈m.filter (I5 V.fs lv):=by rw[<-h3];exact BU.2 ⟨u,hu,H⟩
       obtain⟨q1,q2⟩:=Av.1 this;rw[Tx hz q1 hh hk]at q2;exact hs q2
end
section
variable {P:Program}{E:FE}{d:Option Tmp}{ty:TypeId}{pos:String}{af:Array Edge}{g:Option (Nat×Bool)}
def Jd (a b:Fh):Fh:=if F0 b a=true then b else a
def Jg (a b:Fh):Fh:=if F0 a b=true then b else a
variable {ts:Array TypeId}
theorem Vl {x y:Operand}{a b:Fh}(hx:ev E x=S a)(hy:ev E y=S b):PV P ⟨d,.call { callee:=.builtin .min,args:=#[x,y],argTypes:=ts },ty,pos,af,g⟩ E (S (Jd a b)):=λw=>by
 have h:=Y3 a b
 cases h2:Op.bytesLess b a with
 | true=>rw[h2]at h;simp [execOp,resolve,invoke,builtin,Builtin.min_,Builtin.min2,hx,hy,CC,Op.stringOp,Jd,F0,h2,h,asBool]
 | false=>rw[h2]at h;simp [execOp,resolve,invoke,builtin,Builtin.min_,Builtin.min2,hx,hy,CC,Op.stringOp,Jd,F0,h2,h,asBool]
theorem W5 {x y:Operand}{a b:Fh}(hx:ev E x=S a)(hy:ev E y=S b):PV P ⟨d,.call { callee:=.builtin .max,args:=#[x,y],argTypes:=ts },ty,pos,af,g⟩ E (S (Jg a b)):=λw=>by
 cases h2:Op.bytesLess a b with
 | true=>simp [execOp,resolve,invoke,builtin,Builtin.max_,Builtin.max2,hx,hy,CC,Op.stringOp,Jg,F0,h2,asBool]
 | false=>simp [execOp,resolve,invoke,builtin,Builtin.max_,Builtin.max2,hx,hy,CC,Op.stringOp,Jg,F0,h2,asBool]
end
variable {T k:Nat}
theorem PH {P:Program}{E:FE}{dd:Option Tmp}{ty:TypeId}{pos:String}{af:Array Edge}{g:Option (Nat×Bool)}{m e:Nat}{ps:List (Nat×Operand)}{zs cs:List Value}{pv:List (Nat×Value)}(hz:KW P T=some zs)(hT:Po P T=some (m,e,k))(hv:Lg E ps pv)(hf:Hm (λi=>some (i*k,k)) zs pv=some cs):
  PV P ⟨dd,.build T ps.toArray,ty,pos,af,g⟩ E (.agg ⟨cs⟩):=λw=>by
 obtain⟨z,r,J⟩:=OR (P:=P) (w:=w) hz;have hm:=Lg.map hv;obtain⟨hu,f,H,hk⟩:=SX hT;have h2:=T5 (λi=>some (i*k,k)) pv zs cs hf;simp [execOp,Instr.build,r,J,underlying,hu,sizeOf,typeInfo,H,hk,hm,h2]
def Gi (fs:List Fi)(i:Int):List Fi:=fs.filter λf=>decide (f.lev=i)
variable {fs:List Fi}
theorem RO (h:fs[k]?=some f)(i:Int):Gi (fs.take (k+1)) i=Gi (fs.take k) i++(if f.lev=i then[f]else[]):=by
 unfold Gi;rw[GQ h,Bs]
 by_cases e:f.lev=i<;>simp [e]
theorem Ys (fs:List Fi)(k:Nat)(i:Int):(Gi (fs.take k) i).length<=fs.length:=by
 unfold Gi;have h1:=AZ (λf:Fi=>decide (f.lev=i)) (fs.take k);have h2:(fs.take k).length<=fs.length:=Dy ..;omega
def HJ (fs:List Fi):List Nat:=(List.range 5).map λi:Nat=>(Gi fs (i:Int)).length
theorem Ni (fs:List Fi)(h:i<5):(HJ fs)[i]?=some (Gi fs ↑i).length:=by
 unfold HJ;rw[AG,List.getElem?_range h];rfl
theorem Xy5 {lv:Nat}(h:fs[k]?=some f)(he:f.lev=↑lv)(hl:lv<5):(HJ (fs.take k)).set lv ((Gi (fs.take k) ↑lv).length+1)=HJ (fs.take (k+1)):=by
 apply BB
 intro i
 by_cases hi:i<5
 ·rw[Ni _ hi]
  by_cases e:lv=i
  ·subst e;rw[BE (by unfold HJ;simpa using hl),RO h,if_pos he];simp
  ·rw[Cg e,Ni _ hi,RO h,if_neg Fb];simp
 ·rw[Bh (by simp [HJ];omega),Bh (by simp [HJ];omega)]
def OK (fs:List Fi)(F:Int×Int->Option Fi):Prop:=∀(i:Int) (j:Nat),F (i,↑j)=(Gi fs i)[j]?
theorem Ydc : OK [] (λ_=>none):=λi j=>rfl
theorem X2w {F:Int×Int->Option Fi}(h:fs[k]?=some f)(hF:OK (fs.take k) F):OK (fs.take (k+1)) (putF F (f.lev,↑(Gi (fs.take k) f.lev).length) f):=λi j=>by
 rw[RO h];unfold putF
 by_cases e:f.lev=i
 ·subst e;rw[if_pos rfl]
  by_cases e2:j=(Gi (fs.take k) f.lev).length
  ·subst e2;simp
  ·rw[if_neg (by simp;omega),hF,EO];split
   ·rfl
   ·rw[Bh Fb,Bh (by simp;omega)]
 ·rw[if_neg (by simp;exact λe2=>absurd e2.symm e),if_neg e,AH,hF]
theorem X8l (a b:Fi)(h:Fi.v a=Fi.v b):a=b:=by
 obtain⟨a1,a2,a3,a4,a5⟩:=a;obtain⟨b1,b2,b3,b4,b5⟩:=b;simp [Fi.v]at h;obtain⟨rfl,rfl,rfl,rfl,rfl⟩:=h;rfl
theorem O0 : MapK Tryz.prog 177 181 62 GH Fi.v Kq:=Tu (i:=3) Fe Fe (Xt3 Fe Fe Fe) Fe Fe Fe Fe Fe Fe X8l
theorem X2x (n:Int)(fs:List Fi)(vf:Value)(w:World)(hv:Fs Fi.cs 5 w vf fs)(hl:fs.length<=100000)(hlv:∀f∈fs,0<=f.lev/\f.lev<=4) :
  Gf 104 [.agg ⟨[I n,vf]⟩] w λu w'=>∃b F,u=.tuple #[.agg ⟨G0 (HJ fs)⟩,.map (some b)]/\OK fs F/\Vc.Xbf Tryz.prog 181 GH Fi.v w' b fs.length F:=by
 refine cE Tryz.func104 λH=>go ?_;refine Gx rfl rfl rfl RX.all (λb1 w1 e1 x1 J=>?_);have g1:=H.ge e1;have H:=H.trans x1;refine aL [.int .i64 0,.int .i64 0,.int .i64 0,.int .i64 0,.int .i64 0] λb2 w2 e2 x2 O=>?_;have g2:=H.ge e2;have n2_1:=J.ltb e2;refine Fz x2 J H λJ H=>go ?_;refine aL [.int .i64 0,.int .i64 0,.int .i64 0,.int .i64 0,.int .i64 0] λb3 w3 e3 x3 Y=>?_;have g3:=H.ge e3;have n3_1:=J.ltb e3;have n3_2:=O.ltb e3;refine FB x3 J O H λJ O H=>go ?_;refine Qz O0 rfl RX.all (λb4 w4 e4 x4 r=>?_);have g4:=H.ge e4;have n4_1:=J.ltb e4;have n4_2:=O.ltb e4;have n4_3:=Y.ltb e4;refine FP x4 J O Y H λJ O Y H=>FL 62 5 (hv.ext H).sl ?_;refine F9 (G:=Nat×(Int×Int->Option Fi)) (λ(k,F)=>[(2,Fg b2 0),(3,.map none),(4,Fg b3 0),(5,.map (some b4)),(10,vf),(11,I ↑fs.length),(12,I ↑k)]) (λ(k,F) w'=>Fp w w'/\Fo w' b1 [I n,vf] 56/\Fo w' b2 [I 0,I 0,I 0,I 0,I 0] 176/\k<=fs.length/\OK (fs.take k) F/\Fo w' b3 (G0 (HJ (fs.take k))) 176/\Vc.Xbf Tryz.prog 181 GH Fi.v w' b4 k F) (λ(k,F)=>fs.length-k) (0,λ_=>none) ⟨H,J,O,Ab _,Ydc,Y,r⟩ ?_;rintro _ ⟨k,F⟩ w5 ⟨H,J,O,hk1,hPl,Y,r⟩;refine Fk (λc1=>?_) λc1=>?_
 ·obtain⟨f,hk⟩:∃f,fs[k]?=some f:=F8;have hlf:=hlv f (Ag hk);obtain⟨lv,hle⟩:∃lv:Nat,f.lev=↑lv:=⟨f.lev.toNat,by omega⟩;have hc:lv<5:=by omega
  have hg:=Ni (fs.take k) hc;have hxl:=Ys fs k ↑lv;have hq:=Xy5 hk hle hc;have hp:=X2w hk hPl;rw[hle]at hp;refine FK 62 5 hv.sl (hv.lt hk) ?_;refine dq (Fy Fe rfl rfl ((hv.ext H).row hk)) (aL [.int .i64 0,.int .i64 0,.int .i64 0,S [],S []] λb5 w6 e5 x6 Z=>?_);have g5:=H.ge e5;have n5_1:=J.ltb e5;have n5_2:=O.ltb e5;have n5_3:=Y.ltb e5;have n5_mp4:=r.lt;refine FV x6 J O Y r H λJ O Y r H=>Gc Z (λw7 x7 xs7 Z=>?_);have J:=J.mo x7;have O:=O.mo x7;have Y:=Y.mo x7;have r:=r.mod x7 Fw;have H:=H.o1 x7;refine go ?_;refine HM (R:=Mod (Fu b4)) HT Ir Fe [2,4,6,8] [(0,.p,false),(1,.p,false),(2,.l,false),(3,.p,false),(4,.l,false),(5,.p,false),(6,.l,false),(7,.p,false),(8,.l,false),(9,.x,true)] rfl Fe Fe (λw8 hj=>?_);have x8:=FC hj;clear hj;refine H3 x8 J O Y r Z H λJ O Y r Z H=>go ?_;refine Gd rfl (λw' hR=>LV.to (Nc Fe rfl ((Z.mod hR (λe=>r.ne_blk Z e)).at rfl)) (congrArg (λz=>I z) hle)) (go ?_);refine Gd rfl (λw' hR=>LV.to (Nc Fe rfl ((Z.mod hR (λe=>r.ne_blk Z e)).at rfl)) (congrArg (λz=>I z) hle)) (dp (La (m:=5) (e:=3) (k:=1) Fe rfl rfl Fb) (dL rfl (λ_ hR=>((Y.mod hR (λe=>r.ne_blk Y e)).at (MN hg))) (F3 (v:=GH (↑lv,↑(Gi (fs.take k) ↑lv).length)) rfl (PH (zs:=[I 0,I 0]) (m:=2) (e:=3) (k:=1) (pv:=[(0,I ↑lv),(1,I ↑(Gi (fs.take k) ↑lv).length)]) (cs:=[I ↑lv,I ↑(Gi (fs.take k) ↑lv).length]) Fe Fe He rfl) rfl (Gd rfl (λw' hR=>Fy (k:=5) Fe rfl rfl (Z.mod hR (λe=>r.ne_blk Z e)).row) ?_))));refine OM O0 (kx:=(↑lv,↑(Gi (fs.take k) ↑lv).length)) (a:=f) rfl rfl rfl rfl r ⟨by unfold Fx;omega,by unfold Fx;omega⟩ (by unfold maxLen;omega) (.inl rfl) (λw9 x9 xs9 hf=>?_);have J:=J.mod x9 Fw;have O:=O.mod x9 Fw;have Y:=Y.mod x9 Fw;have Z:=Z.mod x9 Fw;have H:=H.own x9 F4;have r:=hf;refine gc ?_;refine df 1 rfl (dq (LV.to (Nc Fe rfl (Z.at rfl)) (congrArg (λz=>I z) hle)) (dp (La (m:=5) (e:=3) (k:=1) Fe rfl rfl Fb) (dl rfl (Y.at (MN hg)) (F3 (v:=I ↑((Gi (fs.take k) ↑lv).length+1)) rfl (GJ rfl rfl (by unfold Fx;omega)) (by show I _=I _;congr 1) (dp (La (m:=5) (e:=3) (k:=1) Fe rfl rfl Fb) (KK Y (λw10 ha xs10 Y=>?_) (hv:=by rfl) (ho:=by rw[Aw];simp only [HJ,Aw,List.length_range];omega)))))));rw[NQ]at Y;have J:=J.mo ha;have O:=O.mo ha;have r:=r.mod ha Fw;have H:=H.o1 ha;refine go ?_;exact⟨(k+1,_),GY,⟨H,J,O,by omega,hp,by rw[<-hq];exact Y,r⟩,by simp only [];omega⟩
 refine go ?_;refine dq (Fy (k:=5) Fe rfl (by rw[Aw];simp [HJ]) Y.row) (go ?_);refine OI (m:=5) (vs:=?u9) rfl rfl ?h9 Fe ?c9 ?d9 O ?n9 (.inl rfl) (λw11 hh xs11 O=>?k9)
 case h9=>conv=>lhs;whnf
 case c9=>rw[Aw];simp [HJ]
 case d9=>rfl
 case n9=>simp [Value.oneCell']
 have r:=r.mod hh Fw;have H:=H.o1 hh;refine go ?_;refine It (u:=?v11) rfl rfl rfl rfl Fe rfl O.row ?h11 ?k11
 case h11=>conv=>lhs;whnf
 have hr:k=fs.length:=by omega
 subst hr;rw[AV]at hPl;exact⟨_,rfl,H,b4,F,by rw[AV],hPl,r⟩
section
variable {P:Program}{E:FE}{ty:TypeId}{pos:String}{af:Array Edge}{g:Option (Nat×Bool)}
end
theorem PI {m q l:List α}(h:∀x∈m,x∈l)(hc:∀x∈q,x∈l):∀x∈m++q,x∈l:=λx r=>(Ak.1 r).elim (h x) (hc x)
def KM (fs:List Fi):Prop:=4<=Hz fs 0\/4<Hz fs 1\/16<Hz fs 2\/64<Hz fs 3
def LP (fs:List Fi)(k q:Nat):Prop:=Hz fs 0<4/\((k=1/\q=1)\/(k=2/\q=4/\Hz fs 1<=4)\/(k=3/\q=16/\Hz fs 1<=4/\Hz fs 2<=16)\/(k=4/\q=64/\Hz fs 1<=4/\Hz fs 2<=16/\Hz fs 3<=64))
variable {q:Nat}
theorem LP.le (h:LP fs k q):k<=4/\q<=64:=by have h2:=h.2;omega
theorem LP.step (h:LP fs k q)(hk:k<4)(hc:(fs.filter λf=>decide (f.lev=↑k)).length<=4*q):LP fs (k+1) (4*q):=by
 obtain⟨h0,⟨rfl,rfl⟩|⟨rfl,rfl,h1⟩|⟨rfl,rfl,h1,h2⟩|⟨rfl,rfl,h1,h2,h3⟩⟩:=h
 ·exact⟨h0,.inr (.inl ⟨rfl,rfl,hc⟩)⟩
 ·exact⟨h0,.inr (.inr (.inl ⟨rfl,rfl,h1,hc⟩))⟩
 ·exact⟨h0,.inr (.inr (.inr ⟨rfl,rfl,h1,h2,hc⟩))⟩
 ·exact absurd hk Fj
theorem LP.hit (h:LP fs k q)(hk:k<4)(hc:4*q<(fs.filter λf=>decide (f.lev=↑k)).length):KM fs:=by
 obtain⟨h0,⟨rfl,rfl⟩|⟨rfl,rfl,h1⟩|⟨rfl,rfl,h1,h2⟩|⟨rfl,rfl,h1,h2,h3⟩⟩:=h
 ·exact .inr (.inl hc)
 ·exact .inr (.inr (.inl hc))
 ·exact .inr (.inr (.inr hc))
 ·exact absurd hk Fj
theorem LP.no (h:LP fs k q)(hk:¬ k<4):¬ KM fs:=by
 obtain⟨h0,⟨rfl,rfl⟩|⟨rfl,rfl,h1⟩|⟨rfl,rfl,h1,h2⟩|⟨rfl,rfl,h1,h2,h3⟩⟩:=h
 ·exact absurd Fj hk
 ·exact absurd Fj hk
 ·exact absurd Fj hk
 ·intro r;unfold KM at r;omega
theorem Rz {p:Fi->Bool}(h:(fs.filter p)[i]?=some f):f∈fs:=(Av.1 (Ag h)).1
theorem X2y (n:Int)(fs:List Fi)(vf:Value)(s:Fh)(w:World)(hv:Fs Fi.cs 5 w vf fs)(hl:fs.length<=100000000) :
  Gf 213 [.agg ⟨[I n,vf]⟩,S s] w λu w'=>∃m,Vc.Own Fi.cs 5 62 w.heap.size w' u m/\m.length<=500000000/\∀f∈m,f∈fs:=by
 refine cE Tryz.func213 λr=>go ?_;refine Gx rfl rfl rfl RX.all (λb1 w1 e1 x1 H=>?_);have g1:=r.ge e1;have r:=r.trans x1;refine go ?_;refine dq (Fy (k:=2) Fe rfl rfl H.row) (Ge (NP n fs vf 0 s s _ (hv.ext r) hl) λZ w2 x2 hj=>?_);have hg:=r.size;refine Fz x2 H r λH r=>?_;obtain⟨z,hh,zl,zm⟩:=hj;have O:=hh.mono hg;obtain⟨B9,hB9⟩:∃B9,B9=w2.heap.size:=⟨_,rfl⟩;have ha:w.heap.size<=B9:=by rw[hB9];exact r.size
 have hr:∀k,Z.ownBlock=some k->k<B9:=λk hk=>by rw[hB9];exact(O.lt k hk).2
 have J:Sz B9 w2:=⟨Nat.le_of_eq hB9⟩;refine go ?_;refine dv 62 5 (O.arr Ff).sl (F9 (G:=Nat×Value×List Fi) (λ(i,vm,m)=>[(1,S s),(2,Fg b1 0),(4,.slice none 0 0),(5,Z),(6,vm),(7,I (↑i-1))]) (λ(i,vm,m) w'=>Fp w w'/\Fo w' b1 [I n,vf] 56/\Vc.Own Fi.cs 5 62 w.heap.size w' Z z/\Sz B9 w'/\i<=z.length/\m.length+i<=z.length/\(∀f∈m,f∈fs)/\Vc.Own Fi.cs 5 62 B9 w' vm m) (λ(i,vm,m)=>i) (z.length,.slice none 0 0,[]) ⟨r,H,O,J,Aa _,by simp,λc hc=>(by cases hc),Vc.Own.nil⟩ ?_);rintro _ ⟨i,vm,m⟩ w3 ⟨r,H,O,J,hi1,hml,hm,ho⟩;refine go ?_;refine dp (HW rfl rfl) ?_;refine Fk (λc1=>?_) λc1=>?_
 ·have hi0:0<i:=by omega
  obtain⟨f,hk⟩:∃f,z[i-1]?=some f:=F8;refine gc ?_
  iterate 2 refine dm ?_
  refine W4 (v:=I ↑(i-1)) rfl (by show I _=I _;congr 1;omega) (di 62 5 (O.arr Ff).sl rfl ((O.arr Ff).lt hk) (dq (Fy Fe rfl rfl ((O.arr Ff).row hk)) (lA 62 rfl λb2 w4 e2 x4 m2=>?_)));have g2:=r.ge e2;have n2_1:=H.ltb e2;have o2_hz:=O.ltb e2;have a2_hS:=J.le;have o2_ho:=ho.ltb e2;refine FV x4 H O J ho r λH O J ho r=>G1 f ho m2 (λv2 w5 Y x5=>?_) (hB:=J.le);have H:=H.mod x5 Fw;have O:=O.mod x5 (by exact(λk hk e=>by have h1:=(ho.lt k e).1;have h2:=hr k hk;omega));have J:=J.mod x5 Fw;have r:=r.own x5 (λi hi=>(Ae ha (ho.lt i hi).1));have ho:=Y;clear m2;refine gn ?_;refine F3 (v:=I (↑(i-1)-1)) rfl (Gz rfl rfl (by unfold Fx;omega)) (by show I _=I _;congr 1;omega) (go ?_);exact FJ (i-1,v2,m++[f]) ⟨r,H,O,J,by omega,by simp;omega,Le hm (zm f (Ag hk)),ho⟩
 refine F9 (G:=Nat×Value×List Fi) (λ(k,vm,m)=>[(1,S s),(2,Fg b1 0),(4,.slice none 0 0),(6,vm),(8,I ↑k)]) (λ(k,vm,m) w'=>Fp w w'/\Fo w' b1 [I n,vf] 56/\Sz B9 w'/\1<=k/\k<=5/\m.length<=100000000*k/\(∀f∈m,f∈fs)/\Vc.Own Fi.cs 5 62 B9 w' vm m) (λ(k,vm,m)=>5-k) (1,vm,m) ⟨r,H,J,by omega,by omega,by omega,hm,ho⟩ ?_;rintro _ ⟨k,vm,m⟩ w6 ⟨r,H,J,hk1,hk5,hml,hm,ho⟩;refine go ?_;refine dp (IA rfl rfl) ?_;refine Fk (λc2=>?_) λc2=>?_
 ·refine go ?_;refine dq (Fy (k:=2) Fe rfl rfl H.row) (Ge (NP n fs vf _ s s _ (hv.ext r) hl) λvhq w7 x7 hp=>?_);have hf:=r.size;refine FP x7 H J ho r λH J ho r=>?_;obtain⟨q,ht,ql,qm⟩:=hp;have hq:=ht.mono hf;refine Hf ho (hq.arr Ff) (λv3 w8 Y x8=>?_) (hB:=J.le);have H:=H.mod x8 Fw;have J:=J.mod x8 Fw;have r:=r.own x8 (λi hi=>(Ae ha (ho.lt i hi).1));have ho:=Y;refine go ?_;exact FJ (k+1,v3,m++q) ⟨r,H,J,by omega,by omega,by simp;omega,PI hm qm,ho⟩
 refine go ?_;exact⟨_,rfl,r,m,ho.mono ha,by omega,hm⟩
theorem YF (n:Int)(fs:List Fi)(vf:Value)(w:World)(hv:Fs Fi.cs 5 w vf fs)(hl:fs.length<=100000000)(hs:∀f∈fs,f.fst.length<=140737488355328/\f.lst.length<=140737488355328) :
  Gf 142 [.agg ⟨[I n,vf]⟩] w λu w'=>∃(vm:Value) (m:List Fi) (b:Bool),u=.tuple #[vm,B b]/\Vc.Own Fi.cs 5 62 w.heap.size w' vm m/\m.length<=2*fs.length+1/\(∀f∈m,f∈fs)/\(b=true↔Qy n fs/\KM fs)/\(b=true->m≠[]):=by
 refine cE Tryz.func142 λr=>go ?_;refine Gx rfl rfl rfl RX.all (λb1 w1 e1 x1 z=>?_);have g1:=r.ge e1;have r:=r.trans x1;refine go ?_;refine dq (Fy (k:=2) Fe rfl rfl z.row) (cG (PF n fs vf _ (hv.ext r) hl hs) RX.all λu2 w2 x2 xu=>?_);have hsz2:=r.size;refine Fz x2 z r λz r=>?_;obtain⟨b9,rfl,hh⟩:=xu;refine FZ (λc1=>?_) λc1=>?_
 ·have hbf:b9=false:=by simpa using c1
  refine go ?_;exact⟨_,rfl,r,.slice none 0 0,[],false,rfl,Vc.Own.nil,by simp,λc hc=>(by cases hc),⟨λe=>(by cases e),λh=>(by have:=hh.2 h.1;simp_all)⟩,λe=>(by cases e)⟩
 have hr:b9=true:=by simpa using c1
 have hzl:=AZ (λf:Fi=>decide (f.lev=0)) fs;refine go ?_;refine dq (Fy (k:=2) Fe rfl rfl z.row) (cG (XO n fs vf 0 _ (hv.ext r) hl) RX.all λxh w3 x3 xl=>?_);have xf:=r.size;refine Fz x3 z r λz r=>?_;have O:=xl.mono xf;refine go ?_;refine dv 62 5 (O.arr Ff).sl (dp (HW rfl rfl) ?_);refine Fk (λc2=>?_) λc2=>?_
 ·obtain⟨f0,hk0⟩:∃x,(fs.filter λf=>decide (f.lev=0))[0]?=some x:=F8;refine Gn 10010001000 λw4 x4=>FB x4 z O r λz O r=>?_;refine go ?_;refine di 62 5 (O.arr Ff).sl rfl ((O.arr Ff).lt hk0) (go ?_);refine dL rfl (λ_ hR=>((((O.arr Ff).ext hR).row hk0).at rfl)) (go ?_);refine di 62 5 (O.arr Ff).sl rfl ((O.arr Ff).lt hk0) (go ?_);refine dL rfl (λ_ hR=>((((O.arr Ff).ext hR).row hk0).at rfl)) (F9 (G:=Nat×Fh×Fh) (λ(i,fr,to)=>[(1,Fg b1 0),(2,.slice none 0 0),(3,.bool false),(4,xh),(5,S fr),(6,S to),(7,I ↑i)]) (λ(i,fr,to) w'=>Fp w w'/\Fo w' b1 [I n,vf] 56/\Vc.Own Fi.cs 5 62 w.heap.size w' xh (fs.filter λf=>decide (f.lev=0))/\i<=(fs.filter λf=>decide (f.lev=0)).length) (λ(i,fr,to)=>(fs.filter λf=>decide (f.lev=0)).length-i) (0,f0.fst,f0.lst) ⟨r,z,O,Ab _⟩ ?_);rintro _ ⟨i,fr,to⟩ w5 ⟨r,z,O,hi1⟩;refine go ?_;refine dv 62 5 (O.arr Ff).sl ?_;refine Fk (λc3=>?_) λc3=>?_
  ·obtain⟨g,hk⟩:∃x,(fs.filter λf=>decide (f.lev=0))[i]?=some x:=F8;refine Gn 10001000000100000 λw6 x6=>FB x6 z O r λz O r=>?_;refine go ?_;refine di 62 5 (O.arr Ff).sl rfl ((O.arr Ff).lt hk) (go ?_);refine dL rfl (λ_ hR=>((((O.arr Ff).ext hR).row hk).at rfl)) (dp (Vl rfl rfl) (go ?_));refine di 62 5 (O.arr Ff).sl rfl ((O.arr Ff).lt hk) (go ?_);refine dL rfl (λ_ hR=>((((O.arr Ff).ext hR).row hk).at rfl)) (dp (W5 rfl rfl) (go ?_));exact⟨(i+1,_,_),GY,⟨r,z,O,by omega⟩,by simp only [];omega⟩
  refine go ?_;refine dq (Fy (k:=2) Fe rfl rfl z.row) (Ge (NP n fs vf 1 fr to _ (hv.ext r) hl) λxe w7 x7 xv=>?_);have xb:=r.size;refine FB x7 z O r λz O r=>?_;obtain⟨q,ha,ql,qm⟩:=xv;have Y:=ha.mono xb;refine Hf O (Y.arr Ff) λxq w8 xj x8=>?_;have z:=z.mod x8 Fw
  try have Y:=Y.mod x8 (by first|assumption|(intro h;have h1:=(O.lt _ h).1;omega))
  have r:=r.own x8 F4;have O:=xj;refine go ?_;refine⟨_,rfl,r,xq,_,true,rfl,O,by simp;omega,PI (λx hf=>(Av.1 hf).1) qm,⟨λ_=>⟨hh.1 hr,.inl (by show 4<=(fs.filter λf=>decide (f.lev=0)).length;omega)⟩,λ_=>rfl⟩,λ_ e=>?_⟩;have e8:=(List.append_eq_nil_iff.1 e).1;rw[e8]at c2;simp at c2
 refine F9 (G:=Nat×Nat) (λ(k,q)=>[(1,Fg b1 0),(8,I ↑q),(9,I ↑k)]) (λ(k,q) w'=>Fp w w'/\Fo w' b1 [I n,vf] 56/\LP fs k q) (λ(k,q)=>4-k) (1,1) ⟨r,z,⟨by show(fs.filter λf=>decide (f.lev=0)).length<4;omega,.inl ⟨rfl,rfl⟩⟩⟩ ?_;rintro _ ⟨k,q⟩ w9 ⟨r,z,hF⟩;refine Fk (λc4=>?_) λc4=>?_
 ·refine go ?_;refine F3 (v:=I ↑(4*q)) rfl (Kp rfl rfl (by have:=hF.le;unfold Fx;omega)) (by show I _=I _;first|rfl|(congr 1;omega)) (go ?_);refine dq (Fy (k:=2) Fe rfl rfl z.row) (Ge (XO n fs vf ↑k _ (hv.ext r) hl) λhp w10 xr xa=>?_);have h5:=r.size;refine Fz xr z r λz r=>?_;have H:=xa.mono h5;refine go ?_;refine dv 62 5 (H.arr Ff).sl (go ?_);refine dp (IA rfl rfl) ?_;refine Fk (λc5=>?_) λc5=>?_
  ·refine go ?_;exact FJ (k+1,4*q) ⟨r,z,hF.step Fb Fb⟩
  obtain⟨f0,hk0⟩:∃x,(fs.filter λf=>decide (f.lev=↑k))[0]?=some x:=F8;have hll:=AZ (λf:Fi=>decide (f.lev=↑k)) fs;refine go ?_;refine di 62 5 (H.arr Ff).sl rfl ((H.arr Ff).lt hk0) (dq (Fy Fe rfl rfl ((H.arr Ff).row hk0)) (aL [.int .i64 0,.int .i64 0,.int .i64 0,S [],S []] λb2 w11 e2 xk J=>?_));have g2:=r.ge e2;have n2_1:=z.ltb e2;have o2_hl9:=H.ltb e2;refine FB xk z H r λz H r=>Gc J (λw12 h7 xs12 J=>?_)
  try have z:=z.mo h7
  have H:=H.mod h7 Fw;have r:=r.o1 h7;refine F9 (G:=Nat×Fi) (λ(j,f)=>[(1,Fg b1 0),(8,I ↑(4*q)),(9,I ↑k),(10,hp),(11,Fg b2 0),(12,I ↑j)]) (λ(j,f) w'=>Fp w w'/\Fo w' b1 [I n,vf] 56/\Vc.Own Fi.cs 5 62 w.heap.size w' hp (fs.filter λf=>decide (f.lev=↑k))/\j<=(fs.filter λf=>decide (f.lev=↑k)).length/\f∈fs/\Fo w' b2 f.cs 62) (λ(j,f)=>(fs.filter λf=>decide (f.lev=↑k)).length-j) (0,f0) ⟨r,z,H,Ab _,Rz hk0,J⟩ ?_;rintro _ ⟨j,f⟩ w13 ⟨r,z,H,hj1,hfm,J⟩;refine go ?_;refine dv 62 5 (H.arr Ff).sl ?_;refine Fk (λc6=>?_) λc6=>?_
  ·obtain⟨g,hk⟩:∃x,(fs.filter λf=>decide (f.lev=↑k))[j]?=some x:=F8;refine Gn 101010000 λw14 xo=>FP xo z H J r λz H J r=>?_;refine go ?_;refine di 62 5 (H.arr Ff).sl rfl ((H.arr Ff).lt hk) (go ?_);refine dL rfl (λ_ hR=>((((H.arr Ff).ext hR).row hk).at rfl)) ?_;refine Fk (λc7=>?_) λc7=>?_
   ·refine go ?_;refine di 62 5 (H.arr Ff).sl rfl ((H.arr Ff).lt hk) (dq (Fy Fe rfl rfl ((H.arr Ff).row hk)) (Gc J (λw15 hy xs15 J=>?_)))
    try have z:=z.mo hy
    have H:=H.mod hy Fw;have r:=r.o1 hy;refine go ?_;exact⟨(j+1,_),Hn,⟨r,z,H,by omega,by first|exact hfm|exact Rz hk,J⟩,by simp only [];omega⟩
   refine go ?_;exact⟨(j+1,_),Hn,⟨r,z,H,by omega,by first|exact hfm|exact Rz hk,J⟩,by simp only [];omega⟩
  refine go ?_;refine Kf (R:=Mod (λk=>k≠b1/\k≠b2)) HT Ir Fe [0,2,6,8] (.one 0 .l false (.one 2 .l false (.one 3 .p false (.one 4 .p false (.one 5 .p false (.one 6 .l false (.one 7 .p false (.one 8 .l false (.fork (.alt 1 false (.one 9 .x false (.one 10 .x false (.one 11 .p false (.one 12 .p false .nil)))) (.alt 9 false (.one 1 .x false (.one 10 .x false (.one 11 .p false (.one 12 .p false .nil)))) .stop))))))))))) Fe Fe (λw16 hj=>?_);have xn:=FC hj;clear hj;refine FB xn z J r λz J r=>go ?_;refine Gd rfl (λw' hR=>Fy (k:=5) Fe rfl rfl (J.mod hR (λh=>h.2 rfl)).row) (go ?_);refine Gd rfl (λw' hR=>Fy (k:=2) Fe rfl rfl (z.mod hR (λh=>h.1 rfl)).row) (go ?_);refine dL rfl (λ_ hR=>((J.mod hR (λh=>h.2 rfl)).at rfl)) (go ?_);refine dL rfl (λ_ hR=>((J.mod hR (λh=>h.2 rfl)).at rfl)) (go ?_);refine IQ ?_;refine Hc ?_ ?_
  ·refine lA 62 rfl (λb3 w17 e3 xp m3=>?_) (hR:=RX.mod);have g3:=r.ge e3;have n3_1:=z.ltb e3;have n3_2:=J.ltb e3;refine FB xp z J r λz J r=>go ?_;refine cG (NP n fs vf _ _ _ _ (hv.ext r) hl) RX.mod λxe w18 xd xc=>?_;have h6:=r.size;refine FP xd z J m3 r λz J m3 r=>?_;obtain⟨q,ha,ql,qm⟩:=xc;have Y:=ha.mono h6;have xw:=xd.size;refine go ?_;have ho:=m3.own (enc:=Fi.cs) (B:=w.heap.size) (l:=[f]) (sz:=5) (m:=1) g3 rfl Ff rfl (Aj rfl);refine Hf ho (Y.arr Ff) (λht w19 Z hg=>?_) (hR:=(.inr λw9 h9=>h9.mono (λk hk _=>by have h8:b3=k:=Al.inj hk;have h1:=z.lt;have h2:=J.lt;exact⟨by omega,by omega⟩)));have z:=z.mod hg Fw
   try have J:=J.mod hg (by first|(intro h;have h2:b3=b2:=Al.inj h;omega)|(intro h;have h1:=(ho.lt _ h).1;omega)|(intro h;have h1:=o2_ho _ h;omega)|(intro h;exact ho.ne_blk J rfl h))
   try have Y:=Y.mod hg (by first|assumption|(intro h;have h1:=(ho.lt _ h).1;omega))
   have r:=r.own hg F4;have ho:=Z;refine go ?_;exact⟨_,rfl,r,ht,_,true,rfl,ho,by simp;omega,PI (λx hf=>by rw[Af.1 hf];exact hfm) qm,⟨λ_=>⟨hh.1 hr,hF.hit Fb Fb⟩,λ_=>rfl⟩,λ_ e=>by cases e⟩
  refine Hc ?_ ?_
  ·refine cG (NP n fs vf _ _ _ _ (hv.ext r) hl) RX.mod λxe w20 xg xi=>?_;have hw:=r.size;refine FB xg z J r λz J r=>?_;obtain⟨q,ha,ql,qm⟩:=xi;have Y:=ha.mono hw;have xw:=xg.size;refine go ?_;refine lA 62 rfl (λb4 w21 e4 xt m4=>?_) (hR:=RX.mod);have g4:=r.ge e4;have n4_1:=z.ltb e4;have n4_2:=J.ltb e4;refine FP xt z J Y r λz J Y r=>go ?_;have ho:=m4.own (enc:=Fi.cs) (B:=w.heap.size) (l:=[f]) (sz:=5) (m:=1) g4 rfl Ff rfl (Aj rfl);refine Hf ho (Y.arr Ff) (λht w22 Z xm=>?_) (hR:=(.inr λw9 h9=>h9.mono (λk hk _=>by have h8:b4=k:=Al.inj hk;have h1:=z.lt;have h2:=J.lt;exact⟨by omega,by omega⟩)));have r:=r.own xm F4;have ho:=Z;refine go ?_;exact⟨_,rfl,r,ht,_,true,rfl,ho,by simp;omega,PI (λx hf=>by rw[Af.1 hf];exact hfm) qm,⟨λ_=>⟨hh.1 hr,hF.hit Fb Fb⟩,λ_=>rfl⟩,λ_ e=>by cases e⟩
  exact IZ
 refine go ?_;exact⟨_,rfl,r,.slice none 0 0,[],false,rfl,Vc.Own.nil,by simp,λc hc=>(by cases hc),⟨λe=>(by cases e),λh=>absurd h.2 (hF.no Fb)⟩,λe=>(by cases e)⟩
section
variable {out:List Cell}{r:Rw}{seq:Int}{j:Nat}{d:Cell}
theorem TJ (h:out[j]?=some d)(hl:F0 d.key r.key=true):(out.drop j).takeWhile (λx=>F0 x.key r.key)=d :: (out.drop (j+1)).takeWhile (λx=>F0 x.key r.key)/\(out.drop j).dropWhile (λx=>F0 x.key r.key)=(out.drop (j+1)).dropWhile (λx=>F0 x.key r.key):=by
 rw[IW h,CO,Dz];simp [hl]
theorem TY (h:out[j]?=some d)(hl:F0 d.key r.key=false):(out.drop j).takeWhile (λx=>F0 x.key r.key)=[]/\(out.drop j).dropWhile (λx=>F0 x.key r.key)=out.drop j:=by
 rw[IW h,CO,Dz];simp [hl]
theorem VC (h:out.length<=j):(out.drop j).takeWhile (λx=>F0 x.key r.key)=[]/\(out.drop j).dropWhile (λx=>F0 x.key r.key)=out.drop j:=by
 rw[BW h];exact⟨rfl,rfl⟩
theorem Xs8 (h:out[j]?=some d)(e:d.key=r.key):Ht out (r.cell seq)=out:=by
 unfold Ht;rw[if_pos (B7.2 ⟨d,Ag h,by simp [e,Rw.cell]⟩)]
theorem W6 (hu:Jp out)(h1:out.takeWhile (λx=>F0 x.key r.key)=out.take j)(h2:out.dropWhile (λx=>F0 x.key r.key)=out.drop j)(h3:out.length<=j\/∃d,out[j]?=some d/\d.key≠r.key):Ht out (r.cell seq)=out.take j++r.cell seq :: out.drop j:=by
 have hn:¬ (out.any λx=>decide (x.key=(r.cell seq).key))=true:=by
  intro h;obtain⟨x,z,e⟩:=B7.1 h;have e:x.key=r.key:=of_decide_eq_true e;rw[<-AS j out]at z;rcases Ak.1 z with z|z
  ·rw[<-h1]at z;have:=AO.1 (List.all_takeWhile (p:=λx:Cell=>F0 x.key r.key) (l:=out)) x z;rw[e,IC]at this;cases this
  ·rcases h3 with h3|⟨d,hd,h3⟩
   ·rw[BW h3]at z;cases z
   ·have H:F0 d.key r.key=false:=by
     have:=List.head?_dropWhile_not (λx:Cell=>F0 x.key r.key) out;rw[h2,IW hd]at this;simpa using this
    rw[IW hd]at z;rcases Ah.1 z with rfl|z
    ·exact h3 e
    ·have J:Jp (out.drop j):=Fa (List.drop_sublist _ _) hu;rw[IW hd]at J;have:=(AI.1 J).1 x z;rw[e,H]at this;cases this
 unfold Ht;rw[if_neg hn];show out.takeWhile (λx=>F0 x.key r.key)++_ :: out.dropWhile (λx=>F0 x.key r.key)=_;rw[h1,h2]
theorem Xqx {l:List Rw}{k:Nat}(h:l[k]?=some r):Gj (l.drop k) seq=Ht (Gj (l.drop (k+1)) seq) (r.cell seq):=by rw[IW h];rfl
end
theorem X2z (l:List Rw)(v:Value)(seq:Int)(w:World)(hv:Fs Rw.cs 3 w v l)(hl:l.length<=100000) :
  Gf 56 [v,I seq] w λu w'=>Vc.Own Cell.cs 4 79 w.heap.size w' u (Gj l seq):=by
 refine cE Tryz.func56 λz=>FL 48 3 (hv.ext z).sl ?_;refine F3 (v:=I (↑l.length-1-↑(0:Nat))) rfl (Gz rfl rfl (by unfold Fx;omega)) (by show I _=I _;congr 1;omega) (F9 (G:=Nat×Value) (λ(k,vo)=>[(0,v),(1,I seq),(4,.slice none 0 0),(5,vo),(6,I (↑l.length-1-↑k))]) (λ(k,vo) w'=>Fp w w'/\k<=l.length/\Vc.Own Cell.cs 4 79 w.heap.size w' vo (Gj (l.drop (l.length-k)) seq)/\Fs Cell.cs 4 w' vo (Gj (l.drop (l.length-k)) seq)) (λ(k,vo)=>l.length-k) (0,.slice none 0 0) ⟨z,Ab _,by rw[C8,BD (Aa _)];exact Vc.Own.nil,by rw[C8,BD (Aa _)];exact Fs.nil⟩ ?_);rintro _ ⟨k,vo⟩ w1 ⟨z,hk1,J,hA⟩;refine go ?_;refine dp (HW rfl rfl) ?_;refine Fk (λc1=>?_) λc1=>?_
 ·obtain⟨r,hk⟩:∃r,l[l.length-1-k]?=some r:=F8;have hg:=Xqx (seq:=seq) hk;rw[show l.length-1-k+1=l.length-k by omega,show l.length-1-k=l.length-(k+1) by omega]at hg;have xe:=OY (l.drop (l.length-k)) seq;have hz:=Pz (l.drop (l.length-k)) seq;rw[AX]at xe;refine g0 ?_;refine wS (g0 ?_);refine wS (g0 ?_);refine GK (G:=Nat) (λj=>[(0,v),(1,I seq),(4,.slice none 0 0),(5,vo),(6,I (↑l.length-1-↑k)),(7,I ↑j)]) (λj w'=>Fp w w'/\Vc.Own Cell.cs 4 79 w.heap.size w' vo (Gj (l.drop (l.length-k)) seq)/\Fs Cell.cs 4 w' vo (Gj (l.drop (l.length-k)) seq)/\j<=(Gj (l.drop (l.length-k)) seq).length/\(Gj (l.drop (l.length-k)) seq).takeWhile (λx:Cell=>F0 x.key r.key)=(Gj (l.drop (l.length-k)) seq).take j/\(Gj (l.drop (l.length-k)) seq).dropWhile (λx:Cell=>F0 x.key r.key)=(Gj (l.drop (l.length-k)) seq).drop j) ?_ ?_
  ·refine F9 (G:=Nat) (λj=>[(0,v),(1,I seq),(4,.slice none 0 0),(5,vo),(6,I (↑l.length-1-↑k)),(7,I ↑j)]) (λj w'=>Fp w w'/\Vc.Own Cell.cs 4 79 w.heap.size w' vo (Gj (l.drop (l.length-k)) seq)/\Fs Cell.cs 4 w' vo (Gj (l.drop (l.length-k)) seq)/\j<=(Gj (l.drop (l.length-k)) seq).length/\(Gj (l.drop (l.length-k)) seq).takeWhile (λx:Cell=>F0 x.key r.key)=(Gj (l.drop (l.length-k)) seq).take j++((Gj (l.drop (l.length-k)) seq).drop j).takeWhile (λx:Cell=>F0 x.key r.key)/\(Gj (l.drop (l.length-k)) seq).dropWhile (λx:Cell=>F0 x.key r.key)=((Gj (l.drop (l.length-k)) seq).drop j).dropWhile (λx:Cell=>F0 x.key r.key)) (λj=>(Gj (l.drop (l.length-k)) seq).length-j) 0 ⟨z,J,hA,Ab _,rfl,rfl⟩ ?_;rintro _ j w2 ⟨z,J,hA,hj1,ht,hdw⟩;refine Gn 100100001000000000 λw3 x3=>FB x3 J hA z λJ hA z=>?_;refine FL 79 4 hA.sl ?_;refine ds1 20 (λc2=>?_) λc2=>?_
   ·obtain⟨d,hd⟩:∃d,(Gj (l.drop (l.length-k)) seq)[j]?=some d:=F8;refine FK 79 4 hA.sl (hA.lt hd) ?_;refine go ?_;refine dL rfl (λ_ hR=>(((hA.ext hR).row hd).at rfl)) (dm ?_);refine F3 (v:=I ↑(l.length-1-k)) rfl (Lr rfl) (by show I _=I _;congr 1;omega) (di 48 3 hv.sl rfl (hv.lt hk) (go ?_));refine dL rfl (λ_ hR=>(((hv.ext (z.trans hR)).row hk).at rfl)) (dp (LS rfl rfl) ?_);refine FZ (λc3=>?_) λc3=>?_
    ·refine go ?_;refine FJ (j+1) ⟨z,J,hA,by omega,?_,?_⟩
     ·rw[ht,(TJ hd c3).1,GQ hd];simp
     ·rw[hdw,(TJ hd c3).2]
    refine go ?_;exact⟨j,Hn,z,J,hA,hj1,by rw[ht,(TY hd c3).1,AH],by rw[hdw,(TY hd c3).2]⟩
   refine go ?_;refine GL rfl (go ?_);exact⟨j,Hn,z,J,hA,hj1,by rw[ht,(VC Fb).1,AH],by rw[hdw,(VC Fb).2]⟩
  rintro _ j w4 ⟨z,J,hA,hj1,ht,hdw⟩;refine Gn 100100001000000000 λw5 x5=>FB x5 J hA z λJ hA z=>?_;refine FL 79 4 hA.sl ?_;refine ds1 39 (λc4=>?_) λc4=>?_
  ·obtain⟨d,hd⟩:∃d,(Gj (l.drop (l.length-k)) seq)[j]?=some d:=F8;refine FK 79 4 hA.sl (hA.lt hd) ?_;refine go ?_;refine dL rfl (λ_ hR=>(((hA.ext hR).row hd).at rfl)) (dm ?_);refine F3 (v:=I ↑(l.length-1-k)) rfl (Lr rfl) (by show I _=I _;congr 1;omega) (di 48 3 hv.sl rfl (hv.lt hk) (go ?_));refine dL rfl (λ_ hR=>(((hv.ext (z.trans hR)).row hk).at rfl)) (dp (Kr rfl rfl) ?_);refine Fk (λc5=>?_) λc5=>?_
   ·refine gn ?_;refine F3 (v:=I (↑l.length-1-↑(k+1))) rfl (Gz rfl rfl (by unfold Fx;omega)) (by show I _=I _;congr 1;omega) (go ?_);refine FJ (k+1,vo) ⟨z,by omega,?_,?_⟩
    ·rw[hg,Xs8 hd c5];exact J
    ·rw[hg,Xs8 hd c5];exact hA
   refine go ?_;have ha:=z;have hD:w.heap.size<=w5.heap.size:=z.size;have hf:=hA;have H:=J;have Y:=(hv.ext z);refine HM (R:=Mod (Ia w5.heap.size)) (Far.refl _) Far.trans Fe [8] [(1,.p,false),(2,.p,false),(3,.p,false),(5,.p,false),(6,.p,false),(7,.p,false),(8,.l,false),(9,.p,false),(0,.x,false),(4,.x,false),(10,.x,true),(11,.x,false),(12,.x,false),(13,.p,false)] rfl Fe Fe (λw6 hy=>?_);have x6:=FC hy;clear hy;refine FB x6 J hA z λJ hA z=>?_;have hs:Mod (Ia w5.heap.size) w5 w6:=Far.of_ext x6;refine go ?_;refine dp (H8 (e:=79) (k:=4) Fe hA.sl rfl rfl rfl Fb Fb) (dm ?_);refine F3 (v:=I ↑(l.length-1-k)) rfl (Lr rfl) (by show I _=I _;congr 1;omega) (di 48 3 hv.sl rfl (hv.lt hk) (Gd rfl (λw' hR=>Fy Fe rfl rfl ((Y.far Fj (hs.own hR (λ_ h _=>h))).row hk)) (go ?_)));refine IY (e:=79) (sz:=4) rfl Fe RX.far (λb1 w7 e1 x7 m1=>?_);have g1:=z.ge e1;have o1_hO:=J.ltb e1;have a1_hA:=Fs.base_lt hA Fj;have gs1:w5.heap.size<=b1:=by have:=hs.size;omega
   refine FP x7 J hA z hs λJ hA z hs=>?_;have ho:=m1.own (enc:=Cell.cs) (B:=w5.heap.size) (l:=[]) (sz:=4) (m:=0) gs1 rfl Ff rfl (Aj rfl);refine HZ (e:=79) (sz:=4) (by':=48) rfl Fe Fe Ff ho ((hA).slice (Ab _) hj1) rfl rfl (by intro x _ u hu;simp at hu;rcases hu with rfl|rfl|rfl|rfl<;>rfl) (by simp;omega) Fj hs.size (.inr (Far.own ho (Aa _))) (λvp w8 O x8=>?_);have hs:=hs.own x8 F4;have J:=J.mod x8 (by intro k9 h9 e9;have h8:=(H.lt k9 h9).2;have h7:=(ho.lt k9 e9).1;omega);have hA:=hA.mod x8 (by intro hc e9;have h8:=(H.lt _ (H.base_block hc)).2;have h7:=(ho.lt _ e9).1;omega);have z:=z.own x8 (λi hi=>(by have h1:=(ho.lt i hi).1;have:=ha.size;omega));have ho:=O;refine cP (Sb r seq _) RX.all λw9 x9=>FV x9 J hA ho z hs λJ hA ho z hs=>lA 79 rfl (λb2 w10 e2 xg m2=>?_) (hR:=RX.far);have g2:=z.ge e2;have o2_hO:=J.ltb e2;have a2_hA:=Fs.base_lt hA Fj;have gs2:w5.heap.size<=b2:=by have:=hs.size;omega
   refine FV xg J hA ho z hs λJ hA ho z hs=>G1 (r.cell seq) ho m2 (λvq w11 O hh=>?_) (hR:=(.inr (Far.own ho (Aa _))));have hs:=hs.own hh F4;have J:=J.mod hh (by intro k9 h9 e9;have h8:=(H.lt k9 h9).2;have h7:=(ho.lt k9 e9).1;omega);have hA:=hA.mod hh (by intro hc e9;have h8:=(H.lt _ (H.base_block hc)).2;have h7:=(ho.lt _ e9).1;omega);have z:=z.own hh (λi hi=>(by have h1:=(ho.lt i hi).1;have:=ha.size;omega));have ho:=O;clear m2;refine go ?_;clear hs ha hf H Y;refine go ?_;refine dp (H8 (e:=79) (k:=4) Fe hA.sl rfl rfl rfl Fb Fb) ?_;have ho:=ho.mono hD;refine HZ (e:=79) (sz:=4) (by':=48) rfl Fe Fe Ff ho ((hA).slice hj1 (Aa _)) rfl rfl (by intro x _ u hu;simp at hu;rcases hu with rfl|rfl|rfl|rfl<;>rfl) (by simp;omega) Fj z.size (.inl rfl) (λvr xd O xh=>?_);have z:=z.own xh F4;have ho:=O;refine gn ?_;refine F3 (v:=I (↑l.length-1-↑(k+1))) rfl (Gz rfl rfl (by unfold Fx;omega)) (by show I _=I _;congr 1;omega) (go ?_);have hr:Gj (l.drop (l.length-(k+1))) seq=(Gj (l.drop (l.length-k)) seq).take j++[r.cell seq]++(Gj (l.drop (l.length-k)) seq).drop j:=by rw[hg,W6 hz ht hdw (.inr ⟨d,hd,c5⟩)];simp
   have Z:Vc.Own Cell.cs 4 79 w.heap.size xd vr ((Gj (l.drop (l.length-k)) seq).take j++[r.cell seq]++(Gj (l.drop (l.length-k)) seq).drop j):=by
    have:=ho;simpa using this
   rw[<-hr]at Z;exact FJ (k+1,vr) ⟨z,by omega,Z,Z.arr Ff⟩
  refine go ?_;refine GL rfl (go ?_);have ha:=z;have hD:w.heap.size<=w5.heap.size:=z.size;have hf:=hA;have H:=J;have Y:=(hv.ext z);refine HM (R:=Mod (Ia w5.heap.size)) (Far.refl _) Far.trans Fe [8] [(1,.p,false),(2,.p,false),(3,.p,false),(5,.p,false),(6,.p,false),(7,.p,false),(8,.l,false),(9,.p,false),(0,.x,false),(4,.x,false),(10,.x,true),(11,.x,false),(12,.x,false),(13,.p,false)] rfl Fe Fe (λh5 hp=>?_);have hw:=FC hp;clear hp;refine FB hw J hA z λJ hA z=>?_;have hs:Mod (Ia w5.heap.size) w5 h5:=Far.of_ext hw;refine go ?_;refine dp (H8 (e:=79) (k:=4) Fe hA.sl rfl rfl rfl Fb Fb) (dm ?_);refine F3 (v:=I ↑(l.length-1-k)) rfl (Lr rfl) (by show I _=I _;congr 1;omega) (di 48 3 hv.sl rfl (hv.lt hk) (Gd rfl (λw' hR=>Fy Fe rfl rfl ((Y.far Fj (hs.own hR (λ_ h _=>h))).row hk)) (go ?_)));refine IY (e:=79) (sz:=4) rfl Fe RX.far (λb3 w14 e3 xc m3=>?_);have g3:=z.ge e3;have o3_hO:=J.ltb e3;have a3_hA:=Fs.base_lt hA Fj;have gs3:w5.heap.size<=b3:=by have:=hs.size;omega
  refine FP xc J hA z hs λJ hA z hs=>?_;have ho:=m3.own (enc:=Cell.cs) (B:=w5.heap.size) (l:=[]) (sz:=4) (m:=0) gs3 rfl Ff rfl (Aj rfl);refine HZ (e:=79) (sz:=4) (by':=48) rfl Fe Fe Ff ho ((hA).slice (Ab _) hj1) rfl rfl (by intro x _ u hu;simp at hu;rcases hu with rfl|rfl|rfl|rfl<;>rfl) (by simp;omega) Fj hs.size (.inr (Far.own ho (Aa _))) (λvp w15 O hj=>?_);have hs:=hs.own hj F4;have J:=J.mod hj (by intro k9 h9 e9;have h8:=(H.lt k9 h9).2;have h7:=(ho.lt k9 e9).1;omega);have hA:=hA.mod hj (by intro hc e9;have h8:=(H.lt _ (H.base_block hc)).2;have h7:=(ho.lt _ e9).1;omega);have z:=z.own hj (λi hi=>(by have h1:=(ho.lt i hi).1;have:=ha.size;omega));have ho:=O;refine cP (Sb r seq _) RX.all λw16 xb=>FV xb J hA ho z hs λJ hA ho z hs=>lA 79 rfl (λb4 w17 e4 xf m4=>?_) (hR:=RX.far);have g4:=z.ge e4;have o4_hO:=J.ltb e4;have a4_hA:=Fs.base_lt hA Fj;have gs4:w5.heap.size<=b4:=by have:=hs.size;omega
  refine FV xf J hA ho z hs λJ hA ho z hs=>G1 (r.cell seq) ho m4 (λvq w18 O hq=>?_) (hR:=(.inr (Far.own ho (Aa _))));have J:=J.mod hq (by intro k9 h9 e9;have h8:=(H.lt k9 h9).2;have h7:=(ho.lt k9 e9).1;omega);have hA:=hA.mod hq (by intro hc e9;have h8:=(H.lt _ (H.base_block hc)).2;have h7:=(ho.lt _ e9).1;omega);have z:=z.own hq (λi hi=>(by have h1:=(ho.lt i hi).1;have:=ha.size;omega));have ho:=O;clear m4;refine go ?_;clear hs ha hf H Y;refine go ?_;refine dp (H8 (e:=79) (k:=4) Fe hA.sl rfl rfl rfl Fb Fb) ?_;have ho:=ho.mono hD;refine HZ (e:=79) (sz:=4) (by':=48) rfl Fe Fe Ff ho ((hA).slice hj1 (Aa _)) rfl rfl (by intro x _ u hu;simp at hu;rcases hu with rfl|rfl|rfl|rfl<;>rfl) (by simp;omega) Fj z.size (.inl rfl) (λvr xa O h6=>?_);have z:=z.own h6 F4;have ho:=O;refine gn ?_;refine F3 (v:=I (↑l.length-1-↑(k+1))) rfl (Gz rfl rfl (by unfold Fx;omega)) (by show I _=I _;congr 1;omega) (go ?_);have hr:Gj (l.drop (l.length-(k+1))) seq=(Gj (l.drop (l.length-k)) seq).take j++[r.cell seq]++(Gj (l.drop (l.length-k)) seq).drop j:=by rw[hg,W6 hz ht hdw (.inl Fb)];simp
  have Z:Vc.Own Cell.cs 4 79 w.heap.size xa vr ((Gj (l.drop (l.length-k)) seq).take j++[r.cell seq]++(Gj (l.drop (l.length-k)) seq).drop j):=by
   have:=ho;simpa using this
  rw[<-hr]at Z;exact FJ (k+1,vr) ⟨z,by omega,Z,Z.arr Ff⟩
 refine go ?_;rw[show k=l.length by omega,Nat.sub_self,Ce]at J;exact⟨_,rfl,z,J⟩
theorem S7 (p:Fh)(v:Value)(w:World)(hv:Fs Fq 1 w v p)(hl:p.length<=10000000000000) :
  Gf 207 [v] w λu w'=>∃vb e l,u=.tuple #[vb,I e]/\Vc.Own Fq 1 5 w.heap.size w' vb l/\l.length<=p.length+12:=by
 refine cE Tryz.func207 λz=>FL 5 1 (hv.ext z).sl ?_;refine Fk (λc1=>?_) λc1=>?_
 ·refine go ?_;exact⟨_,rfl,z,_,_,[],rfl,Vc.Own.nil,Ab _⟩
 refine FL 5 1 (hv.ext z).sl ?_;refine dp (OE (n:=p.length) rfl Fe Fe) (cG (Ry (AJ p.length) _) RX.all λv1 w1 x1 Y=>?_);have J:=z.size;have z:=z.trans x1;have ho:=Y.mono J;have hfl:=N6 (AJ p.length);refine Ge (UQ _ v1 _ (ho.arr Ff) Fb) λu2 w2 x2 ha=>?_;have hsz2:=z.size;refine Fz x2 ho z λho z=>?_;obtain⟨s1,rfl⟩:=ha;have hs1:=N6 s1;refine cG (Ry s1 _) RX.all λv2 w3 x3 Z=>?_;have hsz3:=z.size;refine Fz x3 ho z λho z=>Hf ho (Z.arr Ff) λv3 w4 H x4=>?_;have z:=z.own x4 F4;have ho:=H;refine go ?_;refine Hf ho (hv.ext z) λv4 w5 H x5=>?_;have z:=z.own x5 F4;have ho:=H;refine Ge (UQ _ v4 _ (ho.arr Ff) (by simp;omega)) λu6 w6 x6 O=>?_;have hsz6:=z.size;refine Fz x6 ho z λho z=>?_;obtain⟨s2,rfl⟩:=O;have hs2:=N6 s2;refine cG (Ry s2 _) RX.all λv5 w7 x7 Z=>?_;have hsz7:=z.size;refine Fz x7 ho z λho z=>Hf ho (Z.arr Ff) λv6 w8 H x8=>?_;have z:=z.own x8 F4;have ho:=H;refine go ?_;exact⟨_,rfl,z,_,_,_,rfl,ho,by simp;omega⟩
theorem Xza (l:List Rw)(v:Value)(w:World)(hv:Fs Rw.cs 3 w v l)(hl:l.length<=100000)(hks:∀r∈l,r.key.length<=1000000/\r.val.length<=1000000) :
  Gf 134 [v] w λu w'=>∃vb,u=.tuple #[vb,I (IM l)]/\Vc.Own Fq 1 5 w.heap.size w' vb (if IM l=0 then GN l else[]):=by
 refine cE Tryz.func134 λz=>?_;have hn0:=Gq 0;have hn1:=Gq 1;have hnn:=Gq l.length;refine Gp (X15 l v _ (hv.ext z) Fb (λr hr=>by have:=hks r hr;omega)) λw1 x1=>?_;have z:=z.trans x1;refine Fk (λc1=>?_) λc1=>?_
 ·refine go ?_;rw[if_neg c1];exact⟨_,rfl,z,_,rfl,Vc.Own.nil⟩
 have hE:IM l=0:=AE c1;obtain⟨hl1,hl2,hz,O⟩:=Ox hE;refine FL 48 3 (hv.ext z).sl ?_;refine cG (My l.length _ Fb) RX.all λv1 w2 x2 ha=>?_;have Y:=z.size;have z:=z.trans x2;have ho:=ha.mono Y;refine F9 (G:=Nat×Value) (λ(k,vc)=>[(0,v),(2,.slice none 0 0),(3,I 0),(5,vc),(6,I ↑k)]) (λ(k,vc) w'=>Fp w w'/\k<=l.length/\Vc.Own Fq 1 5 w.heap.size w' vc (F6 l.length++(l.take k).flatMap Hs)) (λ(k,vc)=>l.length-k) (0,v1) ⟨z,Ab _,by simpa using ho⟩ ?_;rintro _ ⟨k,vc⟩ w3 ⟨z,hk1,ho⟩;refine FL 48 3 (hv.ext z).sl ?_;refine Fk (λc2=>?_) λc2=>?_
 ·obtain⟨r,hk⟩:∃r,l[k]?=some r:=F8;have hrs:=OP (O r (Ag hk));have hbl:=S4 l k;have hr1:(FA r.key).length<=10+r.key.length:=by unfold FA;have:=Gq r.key.length;simp;omega
  have hr2:(FA r.val).length<=10+r.val.length:=by unfold FA;have:=Gq r.val.length;simp;omega
  refine gw ?_;refine JM [.p,.p,.p,.p,.p,.l,.x,.x,.x,.p] rfl (FK 48 3 hv.sl (hv.lt hk) ?_);refine go ?_;refine dl rfl (((hv.ext z).row hk).at rfl) (KC (e:=5) rfl Fe Fe Fe rfl RX.all (λb1 cap1 w4 e1 x4 hg=>?_));have g1:=z.ge e1;have o1_ho:=ho.ltb e1;refine Fz x4 ho z λho z=>cG (Ns r.key _ _ hg Fb) RX.all λvq w5 x5 J=>?_;have hsz5:=z.size;refine Fz x5 ho z λho z=>Hf ho (J.arr Ff) (λv2 w6 H x6=>?_) (hb:=(by simp only [Ad];omega));have z:=z.own x6 F4;have ho:=H;refine FK 48 3 hv.sl (hv.lt hk) ?_;refine go ?_;refine dl rfl (((hv.ext z).row hk).at rfl) ?_;refine FZ (λc3=>?_) λc3=>?_
  ·refine Ge (My 1 _ Fb) λvn w7 x7 J=>?_;have hsz7:=z.size;refine Fz x7 ho z λho z=>Hf ho (J.arr Ff) (λv3 w8 H x8=>?_) (hb:=(by simp only [Ad];omega));have z:=z.own x8 F4;have ho:=H;refine go ?_;refine FJ (k+1,v3) ⟨z,by omega,?_⟩;rw[Q8 hk,show Hs r=FA r.key++(if r.del then F6 1 else F6 0++FA r.val) from rfl,c3];simpa only [A3,AH,if_true,if_false,Cq]using ho
  refine Ge (My 0 _ Fb) λvn w9 x9 J=>?_;have hsz9:=z.size;refine Fz x9 ho z λho z=>Hf ho (J.arr Ff) (λv4 w10 H hc=>?_) (hb:=(by simp only [Ad];omega));have z:=z.own hc F4;have ho:=H;refine gw ?_;refine JM [.p,.p,.p,.p,.p,.l,.x,.x,.x,.p] rfl (FK 48 3 hv.sl (hv.lt hk) ?_);refine go ?_;refine dl rfl (((hv.ext z).row hk).at rfl) (KC (e:=5) rfl Fe Fe Fe rfl RX.all (λb2 cap2 w11 e2 Z hh=>?_));have g2:=z.ge e2;have o2_ho:=ho.ltb e2;refine Fz Z ho z λho z=>cG (Ns r.val _ _ hh Fb) RX.all λvq w12 hj J=>?_;have hsz12:=z.size;refine Fz hj ho z λho z=>Hf ho (J.arr Ff) (λv5 w13 H hf=>?_) (hb:=(by simp only [Ad];omega));have z:=z.own hf F4;have ho:=H;refine go ?_;refine FJ (k+1,v5) ⟨z,by omega,?_⟩;rw[Q8 hk,show Hs r=FA r.key++(if r.del then F6 1 else F6 0++FA r.val) from rfl,c3];simpa only [A3,AH,if_true,if_false,Cq]using ho
 refine go ?_;rw[show k=l.length by omega,AV]at ho;rw[if_pos hE,hE];exact⟨_,rfl,z,_,rfl,ho⟩
theorem Nx (n:Int)(w:World)(h0:0<=n)(hn:n<=4611686018427387904):Calls Tryz.prog 205 [I n].toArray w (GX w (λu w'=>∃r,Vc.Own Fq 1 5 w.heap.size w' u r/\r.length<=10)):=by
 obtain⟨m,rfl⟩:∃m:Nat,n=m:=⟨n.toNat,by omega⟩;refine(My m w Fb).mono ?_;rintro e w' ⟨v,he,hx,ho⟩;exact⟨v,he,hx,_,ho,Gq _⟩
theorem Pk (p:Fh)(v:Value)(w:World)(hv:Fs Fq 1 w v p)(hl:p.length<=10000000000000):Calls Tryz.prog 206 [v].toArray w (GX w (λu w'=>∃r,Vc.Own Fq 1 5 w.heap.size w' u r/\r.length<=p.length+10)):=by
 refine(Ns p v w hv hl).mono ?_;rintro e w' ⟨u,he,hx,ho⟩;refine⟨u,he,hx,_,ho,?_⟩;have:=Gq p.length;unfold FA;rw[Ad];omega
theorem M9 {c:Cell}(h:Gk c=true):c.key.length<=4096/\c.val.length<=16384/\1<=c.seq/\c.seq<=1099511627776:=by
 have h1:=KF h;exact⟨h1.1,h1.2.1,h1.2.2.2.1,h1.2.2.2.2.1⟩
theorem Xy (l:List Cell)(v:Value)(w:World)(hv:Fs Cell.cs 4 w v l)(hl:l.length<=1000000000000) :
  Gf 277 [v] w λu _=>∃e:Int,u=I e/\(e=0->∀c∈l,Gk c=true):=by
 refine cE Tryz.func277 λz=>F9 (G:=Nat) (λk=>[(0,v),(3,I ↑k)]) (λk w'=>Fp w w'/\k<=l.length/\∀c∈l.take k,Gk c=true) (λk=>l.length-k) 0 ⟨z,Ab _,λc Y=>(by cases Y)⟩ ?_;rintro _ k w1 ⟨z,hk1,hA⟩;refine FL 79 4 (hv.ext z).sl ?_;refine Fk (λc1=>?_) λc1=>?_
 ·obtain⟨c,hk⟩:∃c,l[k]?=some c:=F8;refine FK 79 4 hv.sl (hv.lt hk) ?_;refine dq (Fy Fe rfl rfl ((hv.ext z).row hk)) (cP (S6 c _) RX.all λw2 x2=>?_);have z:=z.trans x2;refine FZ (λJ=>?_) λJ=>?_
  ·refine go ?_;exact⟨_,rfl,z,1,rfl,λe=>(by cases e)⟩
  refine go ?_;exact⟨k+1,Mw,⟨z,by omega,λx H=>by
   rw[GQ hk]at H;rcases Ak.1 H with h9|h9
   ·exact hA x h9
   ·rw[Af.1 h9];simpa using J⟩,by omega⟩
 refine F9 (G:=Nat) (λk=>[(0,v),(4,I ↑k)]) (λk w'=>Fp w w'/\1<=k) (λk=>l.length-k) 1 ⟨z,Aa _⟩ ?_;rintro _ k w3 ⟨z,hk2⟩;refine FL 79 4 (hv.ext z).sl ?_;refine Fk (λZ=>?_) λZ=>?_
 ·obtain⟨c,hk⟩:∃c,l[k]?=some c:=F8;obtain⟨d,hkd⟩:∃d,l[k-1]?=some d:=F8;refine Gn 105100010000 λw4 O=>?_;have z:=z.trans O;refine gn ?_;refine F3 (v:=I ↑(k-1)) rfl (Gz rfl rfl (by unfold Fx;omega)) (by show I _=I _;congr 1;omega) (di 79 4 hv.sl rfl (hv.lt hkd) (Gd rfl (λw' hR=>Fy Fe rfl rfl ((hv.ext (z.trans hR)).row hkd)) (FK 79 4 hv.sl (hv.lt hk) ?_)));refine Gd rfl (λw' hR=>Fy Fe rfl rfl ((hv.ext (z.trans hR)).row hk)) (cP (R5 d c _) RX.all λw5 x5=>?_);have z:=z.trans x5;refine FZ (λc4=>?_) λc4=>?_
  ·refine go ?_;exact⟨_,rfl,z,11,rfl,λe=>(by cases e)⟩
  refine go ?_;exact FJ (k+1) ⟨z,by omega⟩
 refine go ?_;rw[Ar Fb]at hA;exact⟨_,rfl,z,0,rfl,λ_=>hA⟩
theorem Xzc (a b:Fh)(w:World)(ha:a.length<=1000000000)(hb:b.length<=1000000000) :
  Gf 318 [S a,S b] w λu _=>∃n:Nat,u=I ↑n/\n<=b.length:=by
 refine cE Tryz.func318 λz=>F9 (G:=Nat) (λk=>[(0,S a),(1,S b),(4,I 0),(5,I ↑k)]) (λk w'=>Fp w w'/\k<=b.length) (λk=>b.length-k) 0 ⟨z,Ab _⟩ ?_;rintro _ k w1 ⟨z,hk1⟩;refine Gn 10000000000000000000 λw2 J=>?_;have z:=z.trans J;refine ds1 10 (λY=>?_) λY=>?_
 ·refine ds1 16 (λO=>?_) λO=>?_
  ·obtain⟨x,hka⟩:∃x,a[k]?=some x:=F8;obtain⟨y,hkb⟩:∃y,b[k]?=some y:=F8;refine go ?_;refine dp (QE Fe rfl rfl hka) (go ?_);refine dp (QE Fe rfl rfl hkb) (dp (QP rfl rfl) ?_);refine Fk (λH=>?_) λH=>?_
   ·refine go ?_;exact FJ (k+1) ⟨z,by omega⟩
   refine go ?_;exact⟨_,rfl,z,k,rfl,hk1⟩
  refine go ?_;refine GL rfl (go ?_);exact⟨_,rfl,z,k,rfl,hk1⟩
 refine go ?_;refine GL rfl (go ?_);exact⟨_,rfl,z,k,rfl,hk1⟩
theorem X8m (l:List Cell)(v:Value)(w:World)(hv:Fs Cell.cs 4 w v l)(hl:l.length<=5000) :
  Gf 279 [v] w λu w'=>∃vb e bs,u=.tuple #[vb,I e]/\Vc.Own Fq 1 5 w.heap.size w' vb bs/\bs.length<=l.length*30000:=by
 refine cE Tryz.func279 λz=>Ge (Xy l v _ (hv.ext z) Fb) λu1 w1 x1 hr=>?_;have hsz1:=z.size;have z:=z.trans x1;obtain⟨e9,rfl,h8⟩:=hr;refine Fk (λc1=>?_) λc1=>?_
 ·refine go ?_;exact⟨_,rfl,z,_,_,[],rfl,Vc.Own.nil,Ab _⟩
 have ha:=h8 (AE c1);refine F9 (G:=Nat×Value×Fh) (λ(k,vc,bs)=>[(0,v),(2,.slice none 0 0),(3,I 0),(5,vc),(6,I ↑k)]) (λ(k,vc,bs) w'=>Fp w w'/\k<=l.length/\bs.length<=k*30000/\Vc.Own Fq 1 5 w.heap.size w' vc bs) (λ(k,vc,bs)=>l.length-k) (0,.slice none 0 0,[]) ⟨z,Ab _,Aa _,Vc.Own.nil⟩ ?_;rintro _ ⟨k,vc,bs⟩ w2 ⟨z,hk1,hbz,ho⟩;refine FL 79 4 (hv.ext z).sl ?_;refine Fk (λc2=>?_) λc2=>?_
 ·obtain⟨c,hk⟩:∃c,l[k]?=some c:=F8;obtain⟨hb1,hb2,hb3,hb4⟩:=M9 (ha c (Ag hk));refine g0 ?_;refine wS (g0 ?_);refine wS (g0 ?_);refine GK (G:=Nat) (λq=>[(0,v),(2,.slice none 0 0),(3,I 0),(5,vc),(6,I ↑k),(7,I ↑q)]) (λq w'=>Fp w w'/\Vc.Own Fq 1 5 w.heap.size w' vc bs/\q<=c.key.length) ?_ ?_
  ·refine go ?_;refine F3 (v:=I ↑(k % 4)) rfl (N8 rfl rfl Fb Fj) (by show I _=I _;rfl) ?_;refine Fk (λc3=>?_) λc3=>?_
   ·obtain⟨d,hkd⟩:∃d,l[k-1]?=some d:=F8;have hbd:=M9 (ha d (Ag hkd));refine wd 10510000100000 λw3 x3=>Fz x3 ho z λho z=>gn ?_;refine F3 (v:=I ↑(k-1)) rfl (Gz rfl rfl (by unfold Fx;omega)) (by show I _=I _;congr 1;omega) (di 79 4 hv.sl rfl (hv.lt hkd) (go ?_));refine dL rfl (λ_ hR=>(((hv.ext (z.trans hR)).row hkd).at rfl)) (FK 79 4 hv.sl (hv.lt hk) ?_);refine go ?_;refine dL rfl (λ_ hR=>(((hv.ext (z.trans hR)).row hk).at rfl)) (cG (Xzc d.key c.key _ Fb Fb) RX.all λu4 w4 x4 xf=>?_);have hsz4:=z.size;refine Fz x4 ho z λho z=>?_;obtain⟨q,rfl,h9⟩:=xf;refine go ?_;exact⟨q,Hn,z,ho,h9⟩
   refine go ?_;exact⟨0,Hn,z,ho,Ab _⟩
  rintro _ q w5 ⟨z,ho,hqc⟩;refine Ge (Nx (↑q) _ Fb Fb) λvq w6 x6 xb=>?_;have hsz6:=z.size;refine Fz x6 ho z λho z=>?_;obtain⟨Y,Z,O⟩:=xb;refine Hf ho (Z.arr Ff) λv1 w7 H x7=>?_;have z:=z.own x7 F4;have ho:=H;obtain⟨bs,hbx⟩:∃bx,bx=bs++Y:=⟨_,rfl⟩;rw[<-hbx]at ho;have J:=congrArg A5 hbx;rw[Ad]at J;refine gw ?_;refine JM [.p,.p,.p,.p,.p,.l,.p,.p,.x,.x,.x,.p] rfl (FK 79 4 hv.sl (hv.lt hk) ?_);refine go ?_;refine dl rfl (((hv.ext z).row hk).at rfl) (go ?_);refine dpw (SQ Fe rfl rfl rfl hqc (Aa _)) ?_;refine KC (e:=5) rfl Fe Fe Fe rfl RX.all (λb1 cap1 w8 e1 x8 hw=>?_);have g1:=z.ge e1;have o1_ho:=ho.ltb e1;refine Fz x8 ho z λho z=>cG (Pk _ _ _ hw (by simp;omega)) RX.all λvq w9 x9 xg=>?_;have hsz9:=z.size;refine Fz x9 ho z λho z=>?_;obtain⟨Y,Z,O⟩:=xg;have xe:Y.length<=c.key.length+10:=by simp only [AX,A7]at O;omega
  refine Hf ho (Z.arr Ff) λv2 w10 H xc=>?_;have z:=z.own xc F4;have ho:=H;obtain⟨bs,hbx⟩:∃bx,bx=bs++Y:=⟨_,rfl⟩;rw[<-hbx]at ho;have J:=congrArg A5 hbx;rw[Ad]at J;refine FK 79 4 hv.sl (hv.lt hk) ?_;refine go ?_;refine dl rfl (((hv.ext z).row hk).at rfl) (cG (Nx c.seq _ Fb Fb) RX.all λvq w11 hj hh=>?_);have hsz11:=z.size;refine Fz hj ho z λho z=>?_;obtain⟨Y,Z,O⟩:=hh;refine Hf ho (Z.arr Ff) λv3 w12 H xd=>?_;have z:=z.own xd F4;have ho:=H;obtain⟨bs,hbx⟩:∃bx,bx=bs++Y:=⟨_,rfl⟩;rw[<-hbx]at ho;have J:=congrArg A5 hbx;rw[Ad]at J;refine FK 79 4 hv.sl (hv.lt hk) ?_;refine go ?_;refine dl rfl (((hv.ext z).row hk).at rfl) ?_;refine FZ (λc4=>?_) λc4=>?_
  ·refine Ge (Nx 1 _ Fb Fb) λvq w13 ht hg=>?_;have hsz13:=z.size;refine Fz ht ho z λho z=>?_;obtain⟨Y,Z,O⟩:=hg;refine Hf ho (Z.arr Ff) λv4 w14 H h6=>?_;have z:=z.own h6 F4;have ho:=H;obtain⟨bs,hbx⟩:∃bx,bx=bs++Y:=⟨_,rfl⟩;rw[<-hbx]at ho;have J:=congrArg A5 hbx;rw[Ad]at J;refine go ?_;exact⟨(k+1,v4,_),GC,⟨z,by omega,by omega,ho⟩,by simp only [];omega⟩
  refine Ge (Nx 0 _ Fb Fb) λvq w15 h7 hf=>?_;have hsz15:=z.size;refine Fz h7 ho z λho z=>?_;obtain⟨Y,Z,O⟩:=hf;refine Hf ho (Z.arr Ff) λv5 w16 H h5=>?_;have z:=z.own h5 F4;have ho:=H;obtain⟨bs,hbx⟩:∃bx,bx=bs++Y:=⟨_,rfl⟩;rw[<-hbx]at ho;have J:=congrArg A5 hbx;rw[Ad]at J;refine gw ?_;refine JM [.p,.p,.p,.p,.p,.l,.x,.x,.x,.p] rfl (FK 79 4 hv.sl (hv.lt hk) ?_);refine go ?_;refine dl rfl (((hv.ext z).row hk).at rfl) (KC (e:=5) rfl Fe Fe Fe rfl RX.all (λb2 cap2 w17 e2 xa hy=>?_));have g2:=z.ge e2;have o2_ho:=ho.ltb e2;refine Fz xa ho z λho z=>cG (Pk _ _ _ hy (by omega)) RX.all λvq w18 hz hc=>?_;have hsz18:=z.size;refine Fz hz ho z λho z=>?_;obtain⟨Y,Z,O⟩:=hc;have xe:Y.length<=c.val.length+10:=by omega
  refine Hf ho (Z.arr Ff) λv6 w19 H hp=>?_;have z:=z.own hp F4;have ho:=H;obtain⟨bs,hbx⟩:∃bx,bx=bs++Y:=⟨_,rfl⟩;rw[<-hbx]at ho;have J:=congrArg A5 hbx;rw[Ad]at J;refine go ?_;exact⟨(k+1,v6,_),GC,⟨z,by omega,by omega,ho⟩,by simp only [];omega⟩
 refine go ?_;exact⟨_,rfl,z,_,_,bs,rfl,ho,by omega⟩
section
variable {P:Program}{E:FE}{dd:Option Tmp}{ty:TypeId}{pos:String}{af:Array Edge}{g:Option (Nat×Bool)}{x y:Operand}{T U:TypeId}
theorem X8n {a:UInt32}{n:Nat}(h0:0<n)(hn:n<4294967296)(hx:ev E x=Ha a)(hy:ev E y=Ha (AJ n)):PV P ⟨dd,.binOp .rem T x y U,ty,pos,af,g⟩ E (.int .u32 ((a.toNat % n:Nat):Int)):=by
 have e:(AJ n).toNat=n:=by rw[UInt32.toNat_ofNat'];exact Nat.mod_eq_of_lt hn
 have:=N8 (P:=P) (dd:=dd) (ty:=ty) (pos:=pos) (af:=af) (g:=g) (T:=T) (U:=U) hx hy Fb (by rw[e];omega);rwa [e,show((a.toNat:Nat):Int) % (n:Int)=((a.toNat % n:Nat):Int) by omega]at this
theorem Ybs {n:Nat}(hn:n<4294967296)(hx:ev E x=.int .u32 (n:Int))(hT:(P.underlying T).isSome=true)(hU:HU P U=some .i64):PV P ⟨dd,.convert T U x,ty,pos,af,g⟩ E (I ↑n):=by
 have:=JS (P:=P) (d:=dd) (ty:=ty) (pos:=pos) (af:=af) (g:=g) hx hT hU;rwa [KU (by unfold Fx;omega)]at this
end
theorem ND {a:Nat}(h:a<=9223372036854775807):IntKind.i64.wrap ((a:Int) / 8)=((a / 8:Nat):Int):=by rw[KU (by unfold Fx;omega)];omega
@[reducible] def JQ (q:Value×List Cell):List Value:=[q.1]
structure RcE (B:Nat)(qs:List (Value×List Cell))(w:World):Prop where
 row:∀q∈qs,Vc.Own Cell.cs 4 79 B w q.1 q.2
section
variable {B B':Nat}{qs:List (Value×List Cell)}{S:Nat->Prop}{w w':World}
theorem RcE.ext (h:RcE B qs w)(x:Fp w w'):RcE B qs w':=⟨λq z=>(h.row q z).ext x⟩
instance : Up w w' (RcE B qs w) (RcE B qs w'):=⟨λx h=>RcE.ext h x⟩
theorem RcE.mod (h:RcE B qs w)(m:Vc.Mod S w w')(hS:∀q∈qs,∀k,q.1.ownBlock=some k->¬ S k):RcE B qs w':=⟨λq z=>(h.row q z).mod m (hS q z)⟩
theorem RcE.ne {α:Type}{enc:α->List Value}{sz T:Nat}{v:Value}{l:List α}(h:RcE B qs w)(ho:Vc.Own enc sz T B' w v l)(hT:AM 79 T=false):∀q∈qs,∀k,q.1.ownBlock=some k->¬ v.ownBlock=some k:=λq z k hk=>(h.row q z).ne ho hT hk
theorem RcE.snoc {v:Value}{l:List Cell}(h:RcE B qs w)(ho:Vc.Own Cell.cs 4 79 B w v l):RcE B (qs++[(v,l)]) w:=⟨λq z=>(Ak.1 z).elim (h.row q) (λe=>by rw[Af.1 e];exact ho)⟩
theorem RcE.lt (h:RcE B qs w):∀q∈qs,∀k,q.1.ownBlock=some k->B<=k/\k<w.heap.size:=λq z k hk=>(h.row q z).lt k hk
end
def Ja (l:List Cell)(qs:List (Value×List Cell)):Prop:=∀q∈qs,q.2≠[]/\q.2.length<=l.length/\∀c∈q.2,c∈l
theorem Ja.snoc {qs:List (Value×List Cell)}{v:Value}{s:List Cell}(h:Ja l qs)(h1:s≠[])(h2:s.length<=l.length)(h3:∀c∈s,c∈l):Ja l (qs++[(v,s)]):=λq z=>(Ak.1 z).elim (h q) (λe=>by rw[Af.1 e];exact⟨h1,h2,h3⟩)
theorem X8o (s:Fh)(w:World)(hs:s.length<=1000000000) :
  Gf 334 [S s] w λu _=>∃h:UInt32,u=Ha h:=by
 refine cE Tryz.func334 λz=>F9 (G:=Nat×UInt32) (λ(k,h)=>[(0,S s),(2,.int .u32 0),(3,Ha h),(4,I ↑k)]) (λ(k,h) w'=>Fp w w'/\k<=s.length) (λ(k,h)=>s.length-k) (0,2166136261) ⟨z,Ab _⟩ ?_;rintro _ ⟨k,h⟩ w1 ⟨z,hk1⟩;refine Fk (λH=>?_) λH=>?_
 ·obtain⟨c,hk⟩:∃c,s[k]?=some c:=F8;refine go ?_;refine dp (QE Fe rfl rfl hk) (dp (MF rfl Fe Fe) (dp (NS rfl rfl) (dp (PX (b:=16777619) rfl rfl) (go ?_))));exact⟨(k+1,_),He,⟨z,by omega⟩,by simp only [];omega⟩
 refine go ?_;exact⟨_,rfl,z,h,rfl⟩
theorem Ybt (s:Fh)(i n:Nat)(w:World)(hs:s.length<=1000000000)(h0:0<n)(hn:n<4294967296) :
  Gf 319 [S s,I ↑i,I ↑n] w λu _=>∃q:Nat,u=I ↑q/\q<n:=by
 refine cE Tryz.func319 λz=>Ge (X8o s _ hs) λu1 w1 J H=>?_;have hsz1:=z.size;have z:=z.trans J;obtain⟨h,rfl⟩:=H;refine go ?_;refine dp (LB (b:=17) Fj rfl rfl) (go ?_);refine dp (Oq (b:=15) Fj rfl rfl) (dp (Pe rfl rfl) (go ?_));refine dp (OE rfl Fe Fe) (go ?_);refine dp (PX rfl rfl) (dp (TX rfl rfl) (go ?_));refine dp (OE rfl Fe Fe) (dp (X8n h0 hn rfl rfl) (dp (Ybs (Nat.lt_trans (Be _ h0) hn) rfl Fe Fe) (go ?_)));exact⟨_,rfl,z,_,rfl,Be _ h0⟩
theorem X8p (l:List Fh)(v:Value)(w:World)(hv:Fs G8 1 w v l)(hl:l.length<=1000000)(hs:∀s∈l,s.length<=1000000000) :
  Gf 280 [v] w λu w'=>∃bs,Vc.Own Fq 1 5 w.heap.size w' u bs/\bs.length<=8+2*l.length:=by
 refine cE Tryz.func280 λH=>?_;obtain⟨N9,hN9⟩:∃z,z=max 8 ((10*l.length+7) / 8):=⟨_,rfl⟩;have hn1:8<=N9/\N9<=8+2*l.length:=by omega
 refine FL 9 1 (hv.ext H).sl ?_;refine F3 (v:=I ↑(10*l.length)) rfl (Kp rfl rfl (by unfold Fx;omega)) (by show I _=I _;rfl) (F3 (v:=I ↑(10*l.length+7)) rfl (GJ rfl rfl (by unfold Fx;omega)) (by show I _=I _;rfl) (F3 (v:=I ↑((10*l.length+7) / 8)) rfl (Qa rfl rfl Fb Fj) (by show I _=I _;rw[ND Fb]) (F3 (v:=I ↑N9) rfl (Vf rfl rfl) (by show I _=I _;rw[hN9]) (Mk (e:=5) (sz:=1) (by':=1) (zs:=[.int .u8 0]) rfl Fe Fe Fe rfl rfl Fb Fb RX.all (λb1 w1 e1 x1 Y=>?_)))));have g1:=H.ge e1;have H:=H.trans x1;refine F9 (G:=Nat×Fh) (λ(k,b)=>[(0,v),(2,.slice none 0 0),(3,.slice (some ⟨b1,0,none⟩) N9 N9),(4,I ↑k)]) (λ(k,b) w'=>Fp w w'/\k<=l.length/\b.length=N9/\Vc.Own Fq 1 5 w.heap.size w' (.slice (some ⟨b1,0,none⟩) N9 N9) b) (λ(k,b)=>l.length-k) (0,An N9 0) ⟨H,Ab _,List.length_replicate,Y.own (enc:=Fq) (sz:=1) (l:=An N9 0) g1 (WQ _) Ff F5 (by simp;omega)⟩ ?_;rintro _ ⟨k,b⟩ w2 ⟨H,hk1,hbl,ho⟩;refine FL 9 1 (hv.ext H).sl ?_;refine Fk (λc1=>?_) λc1=>?_
 ·obtain⟨s,hk⟩:∃s,l[k]?=some s:=F8;refine F9 (G:=Nat×Fh) (λ(j,b)=>[(0,v),(2,.slice none 0 0),(3,.slice (some ⟨b1,0,none⟩) N9 N9),(4,I ↑k),(5,I ↑j)]) (λ(j,b) w'=>Fp w w'/\j<=6/\b.length=N9/\Vc.Own Fq 1 5 w.heap.size w' (.slice (some ⟨b1,0,none⟩) N9 N9) b) (λ(j,b)=>6-j) (0,b) ⟨H,Ab _,hbl,ho⟩ ?_;rintro _ ⟨j,b⟩ w3 ⟨H,hj1,hbl,ho⟩;refine Fk (λc2=>?_) λc2=>?_
  ·refine FK 9 1 hv.sl (hv.lt hk) ?_;refine dl rfl (((hv.ext H).row hk).at0 rfl) (go ?_);refine dv 5 1 (ho.arr Ff).sl (F3 (v:=I ↑(8*N9)) rfl (Kp rfl rfl (by unfold Fx;omega)) (by show I _=I _;congr 1;omega) (cG (Ybt s j (8*N9) _ (hs s (Ag hk)) Fb Fb) RX.all λu4 w4 Z O=>?_));have hsz4:=H.size;refine Fz Z ho H λho H=>?_;obtain⟨q,rfl,hq⟩:=O;obtain⟨c,hc⟩:∃c,b[q / 8]?=some c:=F8;refine go ?_;refine F3 (v:=I ↑(q / 8)) rfl (Qa rfl rfl Fb Fj) (by show I _=I _;rw[ND Fb]) (go ?_);refine F3 (v:=I ↑(q / 8)) rfl (Qa rfl rfl Fb Fj) (by show I _=I _;rw[ND Fb]) (di 5 1 (ho.arr Ff).sl rfl ((ho.arr Ff).lt hc) (dl rfl (((ho.arr Ff).row hc).at0 rfl) (go ?_)));refine F3 (v:=I ↑(q % 8)) rfl (N8 rfl rfl Fb Fj) (by show I _=I _;rfl) (dp (Lh Fb rfl Fe Fe) (dp (SK rfl rfl) (dp (PW rfl rfl) (F3 (v:=Fg b1 (q / 8*1+0)) rfl (Ii (e:=5) (k:=1) Fe ho.sl rfl rfl Fb) (by show Fg b1 (0+q / 8*1)=_;rw[A0];rfl) (HO (enc:=Fq) (sz:=1) (i:=q / 8) (j:=0) (x:=c ||| Jh q) (vs:=[b8 (c ||| Jh q)]) Ff rfl ho rfl rfl rfl Fe Fb rfl (Aa 1) (by intro v hv;rw[Af.1 hv];rfl) (.inl rfl) (λw5 x5 xs5 J=>?_))))));have H:=H.own x5 F4;have ho:=J;refine go ?_;exact⟨(j+1,_),GC,⟨H,by omega,by rw[A9];exact hbl,ho⟩,by simp only [];omega⟩
  refine go ?_;exact FJ (k+1,b) ⟨H,by omega,hbl,ho⟩
 refine go ?_;exact⟨_,rfl,H,b,ho,by omega⟩
theorem Xzd (l:List Cell)(v:Value)(w:World)(hv:Fs Cell.cs 4 w v l)(hl:l.length<=1000000000000)(hs:∀c∈l,c.key.length<=1000000/\c.val.length<=1000000) :
  Gf 216 [v] w λu w'=>∃qs,Vc.Own JQ 1 95 w.heap.size w' u qs/\RcE w.heap.size qs w'/\Ja l qs/\qs.length<=l.length:=by
 refine cE Tryz.func216 λH=>F9 (G:=Nat×Nat×Value×List Cell×Value×List (Value×List Cell)×Nat) (λ(k,N,vn,m,vq,qs,z)=>[(0,v),(2,.slice none 0 0),(3,vq),(4,vn),(5,I ↑z),(6,I ↑k)]) (λ(k,N,vn,m,vq,qs,z) w'=>Fp w w'/\k<=l.length/\qs.length+m.length<=k/\m.length<=k/\z<=m.length*3000000/\(∀c∈m,c∈l)/\Ja l qs/\(∀q∈qs,∀k,q.1.ownBlock=some k->k<N)/\w.heap.size<=N/\Vc.Own JQ 1 95 w.heap.size w' vq qs/\Vc.Own Cell.cs 4 79 N w' vn m/\RcE w.heap.size qs w'/\Sz N w') (λ(k,N,vn,m,vq,qs,z)=>l.length-k) (0,w.heap.size,.slice none 0 0,[],.slice none 0 0,[],0) ⟨H,Ab _,Aa _,Aa _,Aa _,λc hc=>(by cases hc),λq Z=>(by cases Z),λq Z=>(by cases Z),Aa _,Vc.Own.nil,Vc.Own.nil,⟨λq Z=>(by cases Z)⟩,⟨H.size⟩⟩ ?_;rintro _ ⟨k,N,vn,m,vq,qs,z⟩ w1 ⟨H,hk1,hql,hml,hzl,hm,hsg,hqlt,hwN,ho,hn,J,O⟩;refine FL 79 4 (hv.ext H).sl ?_;refine Fk (λc1=>?_) λc1=>?_
 ·obtain⟨c,hk⟩:∃c,l[k]?=some c:=F8;have hj:=Ag hk;have hsc:=hs c hj;have hsz9:G5 c=c.key.length+c.val.length+16:=rfl;refine FK 79 4 hv.sl (hv.lt hk) ?_;refine dq (Fy Fe rfl rfl ((hv.ext H).row hk)) (cP (UP c _ Fb Fb) RX.all λw2 x2=>FV x2 ho hn J O H λho hn J O H=>g0 ?_);refine GK (G:=Nat×Value×List Cell×Value×List (Value×List Cell)×Nat) (λ(N,vn,m,vq,qs,z)=>[(0,v),(2,.slice none 0 0),(3,vq),(4,vn),(5,I ↑z),(6,I ↑k),(7,I ↑(G5 c))]) (λ(N,vn,m,vq,qs,z) w'=>Fp w w'/\qs.length+m.length<=k/\m.length<=k/\z<=m.length*3000000/\(∀c∈m,c∈l)/\Ja l qs/\(∀q∈qs,∀k,q.1.ownBlock=some k->k<N)/\w.heap.size<=N/\Vc.Own JQ 1 95 w.heap.size w' vq qs/\Vc.Own Cell.cs 4 79 N w' vn m/\RcE w.heap.size qs w'/\Sz N w') ?_ ?_
  ·refine go ?_;refine dv 79 4 (hn.arr Ff).sl ?_;refine ds1 22 (λc2=>?_) λc2=>?_
   ·have hh:m≠[]:=λe=>by rw[e]at c2;simp at c2
    refine Fk (λc3=>?_) λc3=>?_
    ·refine go ?_;refine Io (e:=95) (sz:=1) (zs:=[.slice none 0 0]) (pv:=[(0,?a18_0)]) (cs:=[?a18_0]) rfl Fe ⟨rfl,rfl⟩ Fe rfl ?h18 ?f18 RX.all (λb1 w3 e1 x3 m1=>?k18)
     case h18=>refine⟨rfl,?_,trivial⟩<;>(conv=>lhs;whnf)
     case f18=>simp [Hm,Gr,An,hn.sl.cells]
     have g1:=H.ge e1;have o1_ho:=ho.ltb e1;have o1_hn:=hn.ltb e1;have q1_hQ:=J.lt;have a1_hz:=O.le;refine FV x3 ho hn J O H λho hn J O H=>G1 (vn,m) ho m1 (λha w4 Y x4=>?_) (h1:=(by intro x hf u hu;rw[Af.1 hf]at hu;rw[Af.1 hu];exact hn.sl.one));have hn:=hn.mod x4 (by exact(λk hk=>hn.ne ho rfl hk));have J:=J.mod x4 (by exact J.ne ho rfl);have O:=O.mod x4 Fw;have H:=H.own x4 F4;have ho:=Y;clear m1;refine go ?_;exact⟨(_,.slice none 0 0,[],ha,qs++[(vn,m)],0),GY,H,by simp;omega,Ab _,Aa _,λc hc=>(by cases hc),hsg.snoc hh Fb hm,λq Z k hk=>(Ak.1 Z).elim (λh9=>(J.lt q h9 k hk).2) (λh9=>by rw[Af.1 h9]at hk;exact(hn.lt k hk).2),H.size,ho,Vc.Own.nil,J.snoc (hn.mono hwN),⟨Aa _⟩⟩
    refine go ?_;exact⟨(N,vn,m,vq,qs,z),GY,H,hql,hml,hzl,hm,hsg,hqlt,hwN,ho,hn,J,O⟩
   refine go ?_;refine GL rfl (go ?_);exact⟨(N,vn,m,vq,qs,z),GY,H,hql,hml,hzl,hm,hsg,hqlt,hwN,ho,hn,J,O⟩
  rintro _ ⟨N,vn,m,vq,qs,z⟩ w5 ⟨H,hql,hml,hzl,hm,hsg,hqlt,hwN,ho,hn,J,O⟩;refine FK 79 4 hv.sl (hv.lt hk) ?_;refine dq (Fy Fe rfl rfl ((hv.ext H).row hk)) (lA 79 rfl λb2 w6 e2 x6 m2=>?_);have g2:=H.ge e2;have o2_ho:=ho.ltb e2;have o2_hn:=hn.ltb e2;have q2_hQ:=J.lt;have a2_hz:=O.le;refine FV x6 ho hn J O H λho hn J O H=>G1 c hn m2 (λhr w7 hg x7=>?_) (hB:=O.le);have ho:=ho.mod x7 (by exact(λk hk=>ho.ne hn rfl hk));have J:=J.mod x7 (by exact(λq9 hp k hk e=>by have h1:=hqlt q9 hp k hk;have h2:=(hn.lt k e).1;omega));have O:=O.mod x7 Fw;have H:=H.own x7 (λi hi=>(by have:=(hn.lt i hi).1;omega));have hn:=hg;clear m2;refine go ?_;exact FJ (k+1,N,hr,m++[c],vq,qs,z+G5 c) ⟨H,by omega,by simp;omega,by simp;omega,by simp;omega,Le hm hj,hsg,hqlt,hwN,ho,hn,J,O⟩
 refine g0 ?_;refine GK (G:=Value×List (Value×List Cell)) (λ(vq,qs)=>[(2,.slice none 0 0),(3,vq)]) (λ(vq,qs) w'=>Fp w w'/\qs.length<=l.length/\Ja l qs/\Vc.Own JQ 1 95 w.heap.size w' vq qs/\RcE w.heap.size qs w') ?_ ?_
 ·refine go ?_;refine dv 79 4 (hn.arr Ff).sl ?_;refine Fk (λc4=>?_) λc4=>?_
  ·refine go ?_;refine Io (e:=95) (sz:=1) (zs:=[.slice none 0 0]) (pv:=[(0,?a36_0)]) (cs:=[?a36_0]) rfl Fe ⟨rfl,rfl⟩ Fe rfl ?h36 ?f36 RX.all (λb3 w8 e3 x8 m3=>?k36)
   case h36=>refine⟨rfl,?_,trivial⟩<;>(conv=>lhs;whnf)
   case f36=>simp [Hm,Gr,An,hn.sl.cells]
   have g3:=H.ge e3;have o3_ho:=ho.ltb e3;have o3_hn:=hn.ltb e3;have q3_hQ:=J.lt;refine FP x8 ho hn J H λho hn J H=>G1 (vn,m) ho m3 (λha w9 Y x9=>?_) (h1:=(by intro x hf u hu;rw[Af.1 hf]at hu;rw[Af.1 hu];exact hn.sl.one));have hn:=hn.mod x9 (by exact(λk hk=>hn.ne ho rfl hk));have J:=J.mod x9 (by exact J.ne ho rfl);have H:=H.own x9 F4;have ho:=Y;clear m3;refine go ?_;exact⟨(ha,qs++[(vn,m)]),Mw,H,by simp;omega,hsg.snoc (λe=>by rw[e]at c4;simp at c4) Fb hm,ho,J.snoc (hn.mono hwN)⟩
  refine go ?_;exact⟨(vq,qs),Mw,H,by omega,hsg,ho,J⟩
 rintro _ ⟨vq,qs⟩ w10 ⟨H,hql,hsg,ho,J⟩;refine go ?_;exact⟨_,rfl,H,qs,ho,J,hsg,hql⟩
theorem Xze (l:List Cell)(v:Value)(w:World)(hv:Fs Cell.cs 4 w v l)(hl:l.length<=1000000000000)(hs:∀c∈l,c.key.length<=1000000/\c.val.length<=1000000) :
  Gf 278 [v] w λu w'=>∃qs,Vc.Own JQ 1 95 w.heap.size w' u qs/\RcE w.heap.size qs w'/\Ja l qs/\qs.length<=l.length:=by
 refine cE Tryz.func278 λH=>F9 (G:=Nat×Nat×Value×List Cell×Value×List (Value×List Cell)×Nat) (λ(k,N,vn,m,vq,qs,z)=>[(0,v),(2,.slice none 0 0),(3,vq),(4,vn),(5,I ↑z),(6,I ↑k)]) (λ(k,N,vn,m,vq,qs,z) w'=>Fp w w'/\k<=l.length/\qs.length+m.length<=k/\m.length<=k/\z<=m.length*3000000/\(∀c∈m,c∈l)/\Ja l qs/\(∀q∈qs,∀k,q.1.ownBlock=some k->k<N)/\w.heap.size<=N/\Vc.Own JQ 1 95 w.heap.size w' vq qs/\Vc.Own Cell.cs 4 79 N w' vn m/\RcE w.heap.size qs w'/\Sz N w') (λ(k,N,vn,m,vq,qs,z)=>l.length-k) (0,w.heap.size,.slice none 0 0,[],.slice none 0 0,[],0) ⟨H,Ab _,Aa _,Aa _,Aa _,λc hc=>(by cases hc),λq Z=>(by cases Z),λq Z=>(by cases Z),Aa _,Vc.Own.nil,Vc.Own.nil,⟨λq Z=>(by cases Z)⟩,⟨H.size⟩⟩ ?_;rintro _ ⟨k,N,vn,m,vq,qs,z⟩ w1 ⟨H,hk1,hql,hml,hzl,hm,hsg,hqlt,hwN,ho,hn,J,O⟩;refine FL 79 4 (hv.ext H).sl ?_;refine Fk (λc1=>?_) λc1=>?_
 ·obtain⟨c,hk⟩:∃c,l[k]?=some c:=F8;have hj:=Ag hk;have hsc:=hs c hj;have hsz9:G5 c=c.key.length+c.val.length+16:=rfl;refine FK 79 4 hv.sl (hv.lt hk) ?_;refine dq (Fy Fe rfl rfl ((hv.ext H).row hk)) (cP (UP c _ Fb Fb) RX.all λw2 x2=>FV x2 ho hn J O H λho hn J O H=>g0 ?_);refine GK (G:=Nat×Value×List Cell×Value×List (Value×List Cell)×Nat) (λ(N,vn,m,vq,qs,z)=>[(0,v),(2,.slice none 0 0),(3,vq),(4,vn),(5,I ↑z),(6,I ↑k),(7,I ↑(G5 c))]) (λ(N,vn,m,vq,qs,z) w'=>Fp w w'/\qs.length+m.length<=k/\m.length<=k/\z<=m.length*3000000/\(∀c∈m,c∈l)/\Ja l qs/\(∀q∈qs,∀k,q.1.ownBlock=some k->k<N)/\w.heap.size<=N/\Vc.Own JQ 1 95 w.heap.size w' vq qs/\Vc.Own Cell.cs 4 79 N w' vn m/\RcE w.heap.size qs w'/\Sz N w') ?_ ?_
  ·refine go ?_;refine dv 79 4 (hn.arr Ff).sl ?_;refine ds1 22 (λc2=>?_) λc2=>?_
   ·have hh:m≠[]:=λe=>by rw[e]at c2;simp at c2
    refine Fk (λc3=>?_) λc3=>?_
    ·refine go ?_;refine Io (e:=95) (sz:=1) (zs:=[.slice none 0 0]) (pv:=[(0,?a18_0)]) (cs:=[?a18_0]) rfl Fe ⟨rfl,rfl⟩ Fe rfl ?h18 ?f18 RX.all (λb1 w3 e1 x3 m1=>?k18)
     case h18=>refine⟨rfl,?_,trivial⟩<;>(conv=>lhs;whnf)
     case f18=>simp [Hm,Gr,An,hn.sl.cells]
     have g1:=H.ge e1;have o1_ho:=ho.ltb e1;have o1_hn:=hn.ltb e1;have q1_hQ:=J.lt;have a1_hz:=O.le;refine FV x3 ho hn J O H λho hn J O H=>G1 (vn,m) ho m1 (λha w4 Y x4=>?_) (h1:=(by intro x hf u hu;rw[Af.1 hf]at hu;rw[Af.1 hu];exact hn.sl.one));have hn:=hn.mod x4 (by exact(λk hk=>hn.ne ho rfl hk));have J:=J.mod x4 (by exact J.ne ho rfl);have O:=O.mod x4 Fw;have H:=H.own x4 F4;have ho:=Y;clear m1;refine go ?_;exact⟨(_,.slice none 0 0,[],ha,qs++[(vn,m)],0),GY,H,by simp;omega,Ab _,Aa _,λc hc=>(by cases hc),hsg.snoc hh Fb hm,λq Z k hk=>(Ak.1 Z).elim (λh9=>(J.lt q h9 k hk).2) (λh9=>by rw[Af.1 h9]at hk;exact(hn.lt k hk).2),H.size,ho,Vc.Own.nil,J.snoc (hn.mono hwN),⟨Aa _⟩⟩
    refine go ?_;exact⟨(N,vn,m,vq,qs,z),GY,H,hql,hml,hzl,hm,hsg,hqlt,hwN,ho,hn,J,O⟩
   refine go ?_;refine GL rfl (go ?_);exact⟨(N,vn,m,vq,qs,z),GY,H,hql,hml,hzl,hm,hsg,hqlt,hwN,ho,hn,J,O⟩
  rintro _ ⟨N,vn,m,vq,qs,z⟩ w5 ⟨H,hql,hml,hzl,hm,hsg,hqlt,hwN,ho,hn,J,O⟩;refine FK 79 4 hv.sl (hv.lt hk) ?_;refine dq (Fy Fe rfl rfl ((hv.ext H).row hk)) (lA 79 rfl λb2 w6 e2 x6 m2=>?_);have g2:=H.ge e2;have o2_ho:=ho.ltb e2;have o2_hn:=hn.ltb e2;have q2_hQ:=J.lt;have a2_hz:=O.le;refine FV x6 ho hn J O H λho hn J O H=>G1 c hn m2 (λhr w7 hg x7=>?_) (hB:=O.le);have ho:=ho.mod x7 (by exact(λk hk=>ho.ne hn rfl hk));have J:=J.mod x7 (by exact(λq9 hp k hk e=>by have h1:=hqlt q9 hp k hk;have h2:=(hn.lt k e).1;omega));have O:=O.mod x7 Fw;have H:=H.own x7 (λi hi=>(by have:=(hn.lt i hi).1;omega));have hn:=hg;clear m2;refine go ?_;exact FJ (k+1,N,hr,m++[c],vq,qs,z+G5 c) ⟨H,by omega,by simp;omega,by simp;omega,by simp;omega,Le hm hj,hsg,hqlt,hwN,ho,hn,J,O⟩
 refine g0 ?_;refine GK (G:=Value×List (Value×List Cell)) (λ(vq,qs)=>[(2,.slice none 0 0),(3,vq)]) (λ(vq,qs) w'=>Fp w w'/\qs.length<=l.length/\Ja l qs/\Vc.Own JQ 1 95 w.heap.size w' vq qs/\RcE w.heap.size qs w') ?_ ?_
 ·refine go ?_;refine dv 79 4 (hn.arr Ff).sl ?_;refine Fk (λc4=>?_) λc4=>?_
  ·refine go ?_;refine Io (e:=95) (sz:=1) (zs:=[.slice none 0 0]) (pv:=[(0,?a36_0)]) (cs:=[?a36_0]) rfl Fe ⟨rfl,rfl⟩ Fe rfl ?h36 ?f36 RX.all (λb3 w8 e3 x8 m3=>?k36)
   case h36=>refine⟨rfl,?_,trivial⟩<;>(conv=>lhs;whnf)
   case f36=>simp [Hm,Gr,An,hn.sl.cells]
   have g3:=H.ge e3;have o3_ho:=ho.ltb e3;have o3_hn:=hn.ltb e3;have q3_hQ:=J.lt;refine FP x8 ho hn J H λho hn J H=>G1 (vn,m) ho m3 (λha w9 Y x9=>?_) (h1:=(by intro x hf u hu;rw[Af.1 hf]at hu;rw[Af.1 hu];exact hn.sl.one));have hn:=hn.mod x9 (by exact(λk hk=>hn.ne ho rfl hk));have J:=J.mod x9 (by exact J.ne ho rfl);have H:=H.own x9 F4;have ho:=Y;clear m3;refine go ?_;exact⟨(ha,qs++[(vn,m)]),Mw,H,by simp;omega,hsg.snoc (λe=>by rw[e]at c4;simp at c4) Fb hm,ho,J.snoc (hn.mono hwN)⟩
  refine go ?_;exact⟨(vq,qs),Mw,H,by omega,hsg,ho,J⟩
 rintro _ ⟨vq,qs⟩ w10 ⟨H,hql,hsg,ho,J⟩;refine go ?_;exact⟨_,rfl,H,qs,ho,J,hsg,hql⟩
theorem X20 (l:List Cell)(v:Value)(w:World)(hv:Fs Cell.cs 4 w v l)(hl:l.length<=1000000000000) :
  Gf 217 [v] w λu w'=>∃vb e bs,u=.tuple #[vb,I e]/\Vc.Own Fq 1 5 w.heap.size w' vb bs/\bs.length<=900000000000/\(e=0->l.length<=4096/\∀c∈l,Gk c=true):=by
 refine cE Tryz.func217 λz=>FL 79 4 (hv.ext z).sl ?_;refine ds1 16 (λc1=>?_) λc1=>?_
 ·refine go ?_;refine GD rfl (go ?_);exact⟨_,rfl,z,_,1,[],rfl,Vc.Own.nil,Ab _,λe=>(by cases e)⟩
 refine FL 79 4 (hv.ext z).sl ?_;refine Fk (λc2=>?_) λc2=>?_
 ·refine go ?_;exact⟨_,rfl,z,_,1,[],rfl,Vc.Own.nil,Ab _,λe=>(by cases e)⟩
 refine Ge (Xy l v _ (hv.ext z) Fb) λu1 w1 x1 xw=>?_;have hsz1:=z.size;have z:=z.trans x1;obtain⟨e9,rfl,x8⟩:=xw;refine Fk (λc3=>?_) λc3=>?_
 ·refine go ?_;exact⟨_,rfl,z,_,e9,[],rfl,Vc.Own.nil,Ab _,λe=>absurd e c3⟩
 have hf:=x8 (AE c3);refine Ge (Xze l v _ (hv.ext z) Fb (λc hc=>by have:=M9 (hf c hc);omega)) λvR w2 x2 yb=>?_;have hz:=z.size;have z:=z.trans x2;obtain⟨qs,xy,yf,yr,hql⟩:=yb;have hR:=xy.mono hz;have J:RcE w.heap.size qs _:=⟨λq hq=>(yf.row q hq).mono hz⟩;have H:=hR.arr Ff;refine FL 95 1 H.sl ?_;refine cG (Nx (↑qs.length) _ Fb Fb) RX.all λvc w3 x3 yh=>?_;have xh:=z.size;refine FP x3 H hR J z λH hR J z=>?_;obtain⟨bs,xv,yn⟩:=yh;have ho:=xv.mono xh;refine F9 (G:=Nat×Value×Fh) (λ(k,vc,bs)=>[(0,v),(2,.slice none 0 0),(3,I 0),(5,vR),(6,vc),(7,I ↑k)]) (λ(k,vc,bs) w'=>Fp w w'/\Vc.Own JQ 1 95 w.heap.size w' vR qs/\RcE w.heap.size qs w'/\k<=qs.length/\bs.length<=10+k*130000000/\Vc.Own Fq 1 5 w.heap.size w' vc bs) (λ(k,vc,bs)=>qs.length-k) (0,vc,bs) ⟨z,hR,J,Ab _,by omega,ho⟩ ?_;rintro _ ⟨k,vc,bs⟩ w4 ⟨z,hR,J,hk1,yn,ho⟩;have H:=hR.arr Ff;refine FL 95 1 H.sl ?_;refine Fk (λc4=>?_) λc4=>?_
 ·obtain⟨q,hkq⟩:∃q,qs[k]?=some q:=F8;have h6:=Ag hkq;obtain⟨ye,hq2,ym⟩:=yr q h6;have hq0:=List.length_pos_iff.2 ye;obtain⟨c,hkl⟩:∃c,q.2[q.2.length-1]?=some c:=F8;obtain⟨hb1,hb2,hb3,hb4⟩:=M9 (hf c (ym c (Ag hkl)));have hh:=(J.row q h6).arr Ff;refine g0 ?_;refine wS (g0 ?_);refine GK (G:=Nat) (λbL=>[(0,v),(2,.slice none 0 0),(3,I 0),(5,vR),(6,vc),(7,I ↑k),(8,Fg bL 0)]) (λbL w'=>Fp w w'/\Vc.Own JQ 1 95 w.heap.size w' vR qs/\RcE w.heap.size qs w'/\Vc.Own Fq 1 5 w.heap.size w' vc bs/\Fo w' bL c.cs 79) ?_ ?_
  ·have x0:=z;have hD:w.heap.size<=w4.heap.size:=z.size;have xe:=J;have xp:=hR;have ha:=H;have xn:=ho;have ht:=hh;have xm:=(hv.ext z);refine HM (R:=Mod (Ia w4.heap.size)) (Far.refl _) Far.trans Fe [3,7,11] [(0,.p,false),(1,.p,false),(2,.p,false),(3,.l,false),(4,.p,false),(5,.p,false),(6,.p,false),(7,.l,false),(8,.p,false),(9,.p,false),(10,.p,false),(11,.l,false),(12,.x,false),(13,.x,true)] rfl Fe Fe (λw5 xu=>?_);have x5:=FC xu;clear xu;refine H3 x5 hR J H ho hh z λhR J H ho hh z=>?_;have hs:Mod (Ia w4.heap.size) w4 w5:=Far.of_ext x5;refine FK 95 1 H.sl (H.lt hkq) ?_;refine dL rfl (λ_ hR=>(((ha.far Fj (hs.own hR (λ_ h _=>h))).row hkq).at0 rfl)) (FK 95 1 H.sl (H.lt hkq) ?_);refine dL rfl (λ_ hR=>(((ha.far Fj (hs.own hR (λ_ h _=>h))).row hkq).at0 rfl)) (dv 79 4 hh.sl (F3 (v:=I ↑(q.2.length-1)) rfl (Gz rfl rfl (by unfold Fx;omega)) (by show I _=I _;congr 1;omega) (di 79 4 hh.sl rfl (hh.lt hkl) (Gd rfl (λw' hR=>Fy Fe rfl rfl ((ht.far Fj (hs.own hR (λ_ h _=>h))).row hkl)) (aL [S [],S [],B false,.int .i64 0] (λb1 w6 e1 x6 m1=>?_) (hR:=RX.far))))));have g1:=z.ge e1;have o1_hR:=hR.ltb e1;have xc:=J.lt;have a1_hRa:=Fs.base_lt H Fj;have o1_ho:=ho.ltb e1;have gs1:w4.heap.size<=b1:=by have:=hs.size;omega
   refine H3 x6 hR J H ho z hs λhR J H ho z hs=>Gc m1 (λw7 x7 xs7 m1=>?_);have hR:=hR.mod x7 Fw;have J:=J.mod x7 (λq9 yl k hk e=>by have h2:k=b1:=e;have h1:=(xc q9 yl k hk).2;omega);have H:=H.mod x7 Fw;have ho:=ho.mod x7 Fw;have z:=z.o1 x7;clear hs x0 xe xp ha xn ht xm;refine go ?_;exact⟨b1,GY,z,hR,J,ho,m1⟩
  rintro _ bL w8 ⟨z,hR,J,ho,mL⟩;have H:=hR.arr Ff;refine FK 95 1 H.sl (H.lt hkq) ?_;refine dl rfl ((H.row hkq).at0 rfl) ?_;have yk:=ho.lt;refine cG (X8m q.2 q.1 _ ((J.row q h6).arr Ff) Fb) RX.all λu9 w9 x9 yu=>?_;have hsz9:=z.size;refine FV x9 hR J ho mL z λhR J ho mL z=>?_;obtain⟨hg,e8,b9,rfl,hB,xd⟩:=yu;have hb8:b9.length<=4096*30000:=Ae xd (Nat.mul_le_mul_right _ Fb);have hd:∀k,hg.ownBlock=some k->¬ vc.ownBlock=some k:=λk hk e=>by have h9:=(hB.lt k hk).1;have h8:=(yk k e).2;omega
  refine gw ?_;refine JM [.p,.p,.l,.x,.x,.x,.p] rfl (go ?_);refine KC (e:=5) rfl Fe Fe Fe rfl RX.all (λb2 cap2 w10 e2 ya yj=>?_);have g2:=z.ge e2;have o2_hR:=hR.ltb e2;have q2_hQ:=J.lt;have o2_ho:=ho.ltb e2;have a2_mL:=mL.lt;refine H3 ya hR J ho mL hB z λhR J ho mL hB z=>cG (Pk _ _ _ yj (by omega)) RX.all λvq w11 yg xj=>?_;have hsz11:=z.size;refine H3 yg hR J ho mL hB z λhR J ho mL hB z=>?_;obtain⟨r9,hq,hy⟩:=xj;have hr8:r9.length<=c.key.length+10:=by omega
  refine LY (lx:=r9) (e:=5) (sz:=1) (by':=1) rfl Fe Fe Ff ho ((hq.arr Ff)) rfl rfl (by intro x _ u hu;simp at hu;rcases hu with rfl<;>rfl) Fb Fj z.size (.inl rfl) (λv1 w12 O hr h7=>?_);have hw:=h7;have xa:=hB.lt;have hR:=hR.mod hr (by exact(λk hk=>hR.ne ho rfl hk));have J:=J.mod hr (by exact J.ne ho rfl);have mL:=mL.mod hr Fw;have hB:=hB.mod hr Fw;have z:=z.own hr F4;have ho:=O;obtain⟨bs,hbx⟩:∃bx,bx=bs++r9:=⟨_,rfl⟩;rw[<-hbx]at ho;have Z:=congrArg A5 hbx;rw[Ad]at Z;have hd:∀k,hg.ownBlock=some k->¬ v1.ownBlock=some k:=λk hk e=>hw.elim (λe9=>hd k hk (e9.symm.trans e)) (λe9=>by have h9:=(xa k hk).2;have h8:=Al.inj (e9.symm.trans e);omega);refine Ge (Nx c.seq _ Fb Fb) λvq w13 yi xr=>?_;have hsz13:=z.size;refine H3 yi hR J ho mL hB z λhR J ho mL hB z=>?_;obtain⟨r9,hq,hy⟩:=xr;refine LY (lx:=r9) (e:=5) (sz:=1) (by':=1) rfl Fe Fe Ff ho ((hq.arr Ff)) rfl rfl (by intro x _ u hu;simp at hu;rcases hu with rfl<;>rfl) Fb Fj z.size (.inl rfl) (λv2 w14 O hp xb=>?_);have hw:=xb;have xa:=hB.lt;have hR:=hR.mod hp (by exact(λk hk=>hR.ne ho rfl hk));have J:=J.mod hp (by exact J.ne ho rfl);have mL:=mL.mod hp Fw;have hB:=hB.mod hp Fw;have z:=z.own hp F4;have ho:=O;obtain⟨bs,hbx⟩:∃bx,bx=bs++r9:=⟨_,rfl⟩;rw[<-hbx]at ho;have Z:=congrArg A5 hbx;rw[Ad]at Z;have hd:∀k,hg.ownBlock=some k->¬ v2.ownBlock=some k:=λk hk e=>hw.elim (λe9=>hd k hk (e9.symm.trans e)) (λe9=>by have h9:=(xa k hk).2;have h8:=Al.inj (e9.symm.trans e);omega);refine Ge (Pk _ hg _ (hB.arr Ff) Fb) λvq w15 x4 xf=>?_;have hsz15:=z.size;refine H3 x4 hR J ho mL hB z λhR J ho mL hB z=>?_;obtain⟨r9,hq,hy⟩:=xf;refine Hf ho (hq.arr Ff) λv3 w16 O hj=>?_;have hR:=hR.mod hj (by exact(λk hk=>hR.ne ho rfl hk));have J:=J.mod hj (by exact J.ne ho rfl);have mL:=mL.mod hj Fw;have hB:=hB.mod hj Fw;have z:=z.own hj F4;have ho:=O;obtain⟨bs,hbx⟩:∃bx,bx=bs++r9:=⟨_,rfl⟩;rw[<-hbx]at ho;have Z:=congrArg A5 hbx;rw[Ad]at Z;refine go ?_;exact⟨(k+1,v3,_),Hn,⟨z,hR,J,by omega,by omega,ho⟩,by simp only [];omega⟩
 refine F9 (G:=Nat×Value×List Fh) (λ(k,vk,ks)=>[(0,v),(2,.slice none 0 0),(3,I 0),(6,vc),(11,vk),(12,I ↑k)]) (λ(k,vk,ks) w'=>Fp w w'/\Vc.Own Fq 1 5 w.heap.size w' vc bs/\k<=l.length/\ks.length<=k/\(∀s∈ks,s.length<=4096)/\Vc.Own G8 1 9 w.heap.size w' vk ks) (λ(k,vk,ks)=>l.length-k) (0,.slice none 0 0,[]) ⟨z,ho,Ab _,Aa _,λs hs=>(by cases hs),Vc.Own.nil⟩ ?_;rintro _ ⟨k,vk,ks⟩ w17 ⟨z,ho,hk2,hkl2,hks,Y⟩;refine FL 79 4 (hv.ext z).sl ?_;refine Fk (λc5=>?_) λc5=>?_
 ·obtain⟨c,hk⟩:∃c,l[k]?=some c:=F8;have hbc:=M9 (hf c (Ag hk));refine g0 ?_;refine wS (g0 ?_);refine GK (G:=Bool) (λbb=>[(0,v),(2,.slice none 0 0),(3,I 0),(6,vc),(11,vk),(12,I ↑k),(93,.bool bb)]) (λbb w'=>Fp w w'/\Vc.Own Fq 1 5 w.heap.size w' vc bs/\Vc.Own G8 1 9 w.heap.size w' vk ks/\True) ?_ ?_
  ·refine wd 10010000010000000 λw18 yv=>FB yv ho Y z λho Y z=>?_;refine ds1 80 (λc6=>?_) λc6=>?_
   ·refine go ?_;exact⟨_,GY,z,ho,Y,trivial⟩
   obtain⟨d,hkd⟩:∃d,l[k-1]?=some d:=F8;refine FK 79 4 hv.sl (hv.lt hk) ?_;refine go ?_;refine dL rfl (λ_ hR=>(((hv.ext (z.trans hR)).row hk).at rfl)) (gn ?_);refine F3 (v:=I ↑(k-1)) rfl (Gz rfl rfl (by unfold Fx;omega)) (by show I _=I _;congr 1;omega) (di 79 4 hv.sl rfl (hv.lt hkd) (go ?_));refine dL rfl (λ_ hR=>(((hv.ext (z.trans hR)).row hkd).at rfl)) (dp (Mt rfl rfl) (go ?_));exact⟨_,GY,z,ho,Y,trivial⟩
  rintro _ bb w19 ⟨z,ho,Y,htr⟩;refine wc (λc7=>?_) λc7=>?_
  ·refine FK 79 4 hv.sl (hv.lt hk) ?_;refine go ?_;refine dl rfl (((hv.ext z).row hk).at rfl) (li (e:=9) (sz:=1) (zs:=[S []]) (pv:=[(0,_)]) (cs:=[_]) RX.all (λb3 w20 e3 yp m3=>?_));have g3:=z.ge e3;have o3_ho:=ho.ltb e3;have o3_hS:=Y.ltb e3;refine FB yp ho Y z λho Y z=>G1 c.key Y m3 λyd w21 xl xq=>?_;have ho:=ho.mod xq (λk hk=>ho.ne Y rfl hk);have z:=z.own xq F4;have Y:=xl;clear m3;refine go ?_;exact FJ (k+1,yd,ks++[c.key]) ⟨z,ho,by omega,by simp;omega,λs hs=>(Ak.1 hs).elim (hks s) (λh9=>by rw[Af.1 h9];omega),Y⟩
  refine go ?_;exact FJ (k+1,vk,ks) ⟨z,ho,by omega,by omega,hks,Y⟩
 refine FL 79 4 (hv.ext z).sl ?_;refine cG (Nx (↑l.length) _ Fb Fb) RX.all λvq w22 xx xk=>?_;have hsz22:=z.size;refine FB xx ho Y z λho Y z=>?_;obtain⟨r9,hq,hy⟩:=xk;refine Hf ho (hq.arr Ff) λv6 w23 O xg=>?_;have Y:=Y.mod xg (by exact(λk hk=>Y.ne ho rfl hk));have z:=z.own xg F4;have ho:=O;obtain⟨bs,hbx⟩:∃bx,bx=bs++r9:=⟨_,rfl⟩;rw[<-hbx]at ho;have Z:=congrArg A5 hbx;rw[Ad]at Z;refine Ge (X8p ks vk _ (Y.arr Ff) Fb (λs hs=>by have:=hks s hs;omega)) λhg w24 yo xt=>?_;have hsz24:=z.size;refine Fz yo ho z λho z=>?_;obtain⟨b9,hB,xd⟩:=xt;refine cG (Pk _ hg _ (hB.arr Ff) Fb) RX.all λvq w25 yq xi=>?_;have hsz25:=z.size;refine Fz yq ho z λho z=>?_;obtain⟨r9,hq,hy⟩:=xi;refine Hf ho (hq.arr Ff) λv7 w26 O yt=>?_;have z:=z.own yt F4;have ho:=O;obtain⟨bs,hbx⟩:∃bx,bx=bs++r9:=⟨_,rfl⟩;rw[<-hbx]at ho;have Z:=congrArg A5 hbx;rw[Ad]at Z;refine Ge (S7 bs v7 _ (ho.arr Ff) Fb) λu27 w27 yc xo=>?_;have h5:=z.size;have z:=z.trans yc;obtain⟨vz,ez,bz,rfl,hZ,hz9⟩:=xo;have xz:=h5;refine go ?_;exact⟨_,rfl,z,_,ez,bz,rfl,hZ.mono xz,by omega,λ_=>⟨by omega,hf⟩⟩
structure Rf where
 nm:Fh
 v:Value
 n:Nat
 la:Int
@[reducible] def Rf.cs (f:Rf):List Value:=[S f.nm,f.v,I f.la]
structure RfE (L:List Rf)(w:World):Prop where
 row:∀f∈L,∃bs:Fh,Vc.Own Fq 1 5 0 w f.v bs/\bs.length=f.n
def Gv (L:List Rf):Nat:=(L.map (·.n)).sum
section
variable {L:List Rf}{w w':World}{S:Nat->Prop}{f:Rf}{i:Nat}
theorem RfE.mod (h:RfE L w)(m:Vc.Mod S w w')(hS:∀f∈L,∀k,f.v.ownBlock=some k->¬ S k):RfE L w':=⟨λf z=>by
 obtain⟨bs,h1,h2⟩:=h.row f z;exact⟨bs,h1.mod m (hS f z),h2⟩⟩
theorem RfE.ne {α:Type}{enc:α->List Value}{sz T B:Nat}{v:Value}{l:List α}(h:RfE L w)(ho:Vc.Own enc sz T B w v l)(hT:AM 5 T=false):∀f∈L,∀k,f.v.ownBlock=some k->¬ v.ownBlock=some k:=λf z k hk=>by
 obtain⟨bs,h1,h2⟩:=h.row f z;exact h1.ne ho hT hk
theorem RfE.ne_blk {b T:Nat}{cs:List Value}(h:RfE L w)(hb:Fo w b cs T)(hT:AM 5 T=false):∀f∈L,∀k,f.v.ownBlock=some k->¬ k=b:=λf z k hk e=>by
 obtain⟨bs,h1,h2⟩:=h.row f z;exact h1.ne_blk hb hT (by rw[hk,e])
theorem RfE.lt (h:RfE L w):∀f∈L,∀k,f.v.ownBlock=some k->k<w.heap.size:=λf z k hk=>by
 obtain⟨bs,h1,h2⟩:=h.row f z;exact(h1.lt k hk).2
theorem RfE.one (h:RfE L w)(hf:f∈L):f.v.oneCell'=true:=by
 obtain⟨bs,h1,h2⟩:=h.row f hf;exact h1.sl.one
theorem X8q (h:L[i]?=some f):Gv (L.take (i+1))=Gv (L.take i)+f.n:=by unfold Gv;rw[GQ h,A6,B0];simp
theorem X8r (i:Nat):Gv (L.take i)<=Gv L:=by
 have h:=congrArg Gv (AS i L);unfold Gv at *;rw[A6,B0]at h;omega
end
structure D3 (G:Nat->Prop)(bx:Nat)(room:Int)(vL:Value)(L:List Rf)(left:Int)(w:World):Prop where
 m:Fo w bx [I room,vL,I left] 138
 o:Vc.Own Rf.cs 3 226 0 w vL L
 e:RfE L w
 g0:G bx
 gL:∀k,vL.ownBlock=some k->G k
 gf:∀f∈L,∀k,f.v.ownBlock=some k->G k
 nl:∀f∈L,f.nm.length<=64
 r1:0<=room/\room<=1073741824
 us:(Gv L:Int)<=room
 le:L.length<=4096
 lf:-1<=left/\left<=9223372036854775807
section
variable {G G':Nat->Prop}{bx:Nat}{room left left':Int}{vL:Value}{L:List Rf}{w w':World}{S:Nat->Prop}
theorem D3.mod (h:D3 G bx room vL L left w)(m:Vc.Mod S w w')(hS:∀k,G k->¬ S k):D3 G bx room vL L left w':=⟨h.m.mod m (hS bx h.g0),h.o.mod m (λk hk=>hS k (h.gL k hk)),h.e.mod m (λf z k hk=>hS k (h.gf f z k hk)),h.g0,h.gL,h.gf,h.nl,h.r1,h.us,h.le,h.lf⟩
theorem D3.ext (h:D3 G bx room vL L left w)(m:Fp w w'):D3 G bx room vL L left w':=h.mod m (λ_ _ h=>h)
instance : Up w w' (D3 G bx room vL L left w) (D3 G bx room vL L left w'):=⟨λx h=>D3.ext h x⟩
theorem D3.wide (h:D3 G bx room vL L left w)(hG:∀k,G k->G' k):D3 G' bx room vL L left w:=⟨h.m,h.o,h.e,hG bx h.g0,λk hk=>hG k (h.gL k hk),λf z k hk=>hG k (h.gf f z k hk),h.nl,h.r1,h.us,h.le,h.lf⟩
theorem D3.bit (h:D3 G bx room vL L left w)(m:Vc.Mod (Fu bx) w w')(hm:Fo w' bx [I room,vL,I left'] 138)(hl:-1<=left'/\left'<=9223372036854775807):D3 G bx room vL L left' w':=
 ⟨hm,h.o.mod m (λk hk e=>h.o.ne_blk h.m rfl (by rw[hk,show k=bx from e])),h.e.mod m (λf z k hk e=>h.e.ne_blk h.m rfl f z k hk e),h.g0,h.gL,h.gf,h.nl,h.r1,h.us,h.le,hl⟩
end
def HB (L:List Rf)(s:Fh):Nat:=(L.takeWhile λf=>F0 f.nm s).length
def L5 (L:List Rf)(s:Fh):Bool:=decide (L[HB L s]?.map (·.nm)=some s)
theorem Vi (L:List Rf)(s:Fh):HB L s<=L.length:=(List.takeWhile_sublist _).length_le
variable {L:List Rf}{s:Fh}
theorem NW (h:L5 L s=true):HB L s<L.length:=by
 unfold L5 at h
 by_cases h9:HB L s<L.length
 ·exact h9
 ·rw[Bh Fb]at h;simp at h
theorem Ydd {f:Rf}(hi:L[i]?=some f)(h:L.takeWhile (λf=>F0 f.nm s)=L.take i++(L.drop i).takeWhile (λf=>F0 f.nm s))(hf:F0 f.nm s=true):L.takeWhile (λf=>F0 f.nm s)=L.take (i+1)++(L.drop (i+1)).takeWhile (λf=>F0 f.nm s):=by
 rw[h,IW hi,CO,if_pos hf,GQ hi,A3];rfl
theorem Ux (hl:i<=L.length)(h:L.takeWhile (λf=>F0 f.nm s)=L.take i++(L.drop i).takeWhile (λf=>F0 f.nm s))(hf:∀f,L[i]?=some f->F0 f.nm s=false):HB L s=i:=by
 have e:(L.drop i).takeWhile (λf=>F0 f.nm s)=[]:=by
  by_cases h9:i<L.length
  ·have hk:L[i]?=some L[i]:=Au h9;rw[IW hk,CO,if_neg (by rw[hf _ hk];decide)]
  ·rw[BD Fb];rfl
 unfold HB;rw[h,e,AH,A7];omega
theorem P3 (G:Nat->Prop)(bx:Nat)(room:Int)(vL:Value)(L:List Rf)(left:Int)(l:List Fh)(v:Value)(w:World)(h:D3 G bx room vL L left w)(hv:Fs G8 1 w v l)(hl:l.length<=100) :
  Gf 226 [Fg bx 0,v] w λu _=>∃e:Int,u=I e/\(e=0->∀s∈l,s.length<=64):=by
 refine cE Tryz.func226 λz=>?_;have hm:=h.m;have hbxl:=hm.lt;have hla:=h.o.arr Ff;have hle:=h.le;refine Fk (λY=>?_) λY=>?_
 ·refine go ?_;exact⟨_,rfl,z,9,rfl,λe=>(by cases e)⟩
 refine F9 (G:=Nat) (λk=>[(1,v),(5,I ↑k)]) (λk w'=>Fp w w'/\k<=l.length/\∀s∈l.take k,s.length<=64) (λk=>l.length-k) 0 ⟨z,Ab _,λs hs=>(by cases hs)⟩ ?_;rintro _ k w1 ⟨z,hk1,hA⟩;refine FL 9 1 (hv.ext z).sl ?_;refine Fk (λO=>?_) λO=>?_
 ·obtain⟨s,hk⟩:∃s,l[k]?=some s:=F8;refine FK 9 1 hv.sl (hv.lt hk) ?_;refine dl rfl (((hv.ext z).row hk).at0 rfl) ?_;refine ds1 23 (λJ=>?_) λJ=>?_
  ·refine go ?_;refine GD rfl (go ?_);exact⟨_,rfl,z,1,rfl,λe=>(by cases e)⟩
  refine FK 9 1 hv.sl (hv.lt hk) ?_;refine dl rfl (((hv.ext z).row hk).at0 rfl) ?_;refine Fk (λZ=>?_) λZ=>?_
  ·refine go ?_;exact⟨_,rfl,z,1,rfl,λe=>(by cases e)⟩
  refine go ?_;exact⟨k+1,Mw,⟨z,by omega,λx H=>by
   rw[GQ hk]at H;rcases Ak.1 H with h9|h9
   ·exact hA x h9
   ·rw[Af.1 h9];omega⟩,by omega⟩
 refine go ?_;rw[Ar Fb]at hA;exact⟨_,rfl,z,0,rfl,λ_=>hA⟩
theorem GP (G:Nat->Prop)(bx:Nat)(room:Int)(vL:Value)(L:List Rf)(left:Int)(s:Fh)(w:World)(h:D3 G bx room vL L left w) :
  FW 227 [Fg bx 0,S s] w (.tuple #[I ↑(HB L s),B (L5 L s)]):=by
 refine cE Tryz.func227 λz=>?_;have hm:=h.m;have hbxl:=hm.lt;have H:=h.o.arr Ff;have hle:=h.le;refine wS (g0 ?_);refine wS (g0 ?_);refine GK (G:=Unit) (λZ=>[(0,Fg bx 0),(1,S s),(4,I 0),(5,.bool false),(6,I ↑(HB L s))]) (λZ w'=>Fp w w'/\True) ?_ ?_
 ·refine F9 (G:=Nat) (λi=>[(0,Fg bx 0),(1,S s),(4,I 0),(5,.bool false),(6,I ↑i)]) (λi w'=>Fp w w'/\i<=L.length/\L.takeWhile (λf=>F0 f.nm s)=L.take i++(L.drop i).takeWhile (λf=>F0 f.nm s)) (λi=>L.length-i) 0 ⟨z,Ab _,rfl⟩ ?_;rintro _ i w1 ⟨z,hi1,hin⟩;refine go ?_;refine dl rfl ((hm.ext z).at rfl) (dv 226 3 (H.ext z).sl ?_);refine ds1 14 (λc1=>?_) λc1=>?_
  ·obtain⟨f,hk⟩:∃f,L[i]?=some f:=F8;refine go ?_;refine dl rfl ((hm.ext z).at rfl) (FK 226 3 H.sl (H.lt hk) ?_);refine go ?_;refine dl rfl (((H.ext z).row hk).at rfl) (go ?_);refine dp (LS rfl rfl) ?_;refine FZ (λY=>?_) λY=>?_
   ·refine go ?_;exact FJ (i+1) ⟨z,by omega,Ydd hk hin Y⟩
   refine go ?_;have J:HB L s=i:=Ux hi1 hin (λf9 O=>by rw[hk]at O;rw[<-Al.inj O];simpa using Y);rw[J];exact⟨(),GC,z,trivial⟩
  refine go ?_;refine GL rfl (go ?_);have J:HB L s=i:=Ux hi1 hin (λf9 O=>absurd (Ap.1 O).1 Fb);rw[J];exact⟨(),GC,z,trivial⟩
 rintro _ Z w2 ⟨z,htr⟩;refine Gn 10000010001000000100000 λw3 x3=>?_;have z:=z.trans x3;refine go ?_;refine dL rfl (λ_ hR=>((hm.ext (z.trans hR)).at rfl)) (dv 226 3 (H.ext z).sl ?_);refine ds1 36 (λc3=>?_) λc3=>?_
 ·obtain⟨f,hk⟩:∃f,L[HB L s]?=some f:=F8;refine go ?_;refine dL rfl (λ_ hR=>((hm.ext (z.trans hR)).at rfl)) (FK 226 3 H.sl (H.lt hk) ?_);refine go ?_;refine dL rfl (λ_ hR=>(((H.ext (z.trans hR)).row hk).at rfl)) (go ?_);refine dp (Kr rfl rfl) (go ?_);refine⟨?_,z⟩;unfold L5;rw[hk];simp
 refine go ?_;refine⟨?_,z⟩;rw[show L5 L s=false by unfold L5;rw[Bh Fb];simp]
theorem X8s (G:Nat->Prop)(bx:Nat)(room:Int)(vL:Value)(L:List Rf)(left:Int)(w:World)(h:D3 G bx room vL L left w) :
  FW 275 [Fg bx 0] w (I ↑(Gv L)):=by
 refine cE Tryz.func275 λz=>?_;have hm:=h.m;have hbxl:=hm.lt;have H:=h.o.arr Ff;have hle:=h.le;refine F9 (G:=Nat) (λi=>[(0,Fg bx 0),(2,I 0),(3,I ↑(Gv (L.take i))),(4,I ↑i)]) (λi w'=>Fp w w'/\i<=L.length) (λi=>L.length-i) 0 ⟨z,Ab _⟩ ?_;rintro _ i w1 ⟨z,hi1⟩;refine go ?_;refine dl rfl ((hm.ext z).at rfl) (dv 226 3 (H.ext z).sl ?_);refine Fk (λY=>?_) λY=>?_
 ·obtain⟨f,hk⟩:∃f,L[i]?=some f:=F8;obtain⟨bs,J,O⟩:=h.e.row f (Ag hk);have hs1:=X8q hk;have hs2:=X8r (L:=L) (i+1);have hus:=h.us;have hr1:=h.r1;refine go ?_;refine dl rfl ((hm.ext z).at rfl) (FK 226 3 H.sl (H.lt hk) ?_);refine go ?_;refine dl rfl (((H.ext z).row hk).at rfl) (F3 (v:=I ↑f.n) rfl (Pb (e:=5) (k:=1) Fe ((J.ext z).arr Ff).sl rfl) (by rw[O]) (F3 (v:=I ↑(Gv (L.take (i+1)))) rfl (GJ rfl rfl (by unfold Fx;omega)) (by show I _=I _;congr 1;omega) (go ?_)));exact FJ (i+1) ⟨z,by omega⟩
 refine go ?_;rw[Ar Fb];exact⟨rfl,z⟩
theorem OS (G:Nat->Prop)(bx:Nat)(room:Int)(vL:Value)(L:List Rf)(left:Int)(w:World)(h:D3 G bx room vL L left w) :
  Gy 229 [Fg bx 0] w (Fu bx) λu w'=>u=I 0/\∃left',D3 G bx room vL L left' w':=by
 refine cE Tryz.func229 λz=>?_;have hm:=h.m;have hlf:=h.lf;refine Fk (λJ=>?_) λJ=>?_
 ·refine go ?_;refine HG hm (λw1 H xs1 hm=>?_);have z:=(z.mod H).mono (λi hi _=>(hi:(Fu bx) i));refine go ?_;exact⟨_,rfl,z,rfl,_,h.bit z hm Fb⟩
 refine go ?_;exact⟨_,rfl,z.mono (λ_ h _=>h.elim),rfl,_,h.ext z⟩
def NA (G:Nat->Prop)(bx:Nat)(w:World):Prop:=(∃room vL L left,D3 G bx room vL L left w)/\∀k,G k->k<w.heap.size
variable {w:World}
theorem RfE.one0 {j:Nat}(h:RfE L w){f:Rf}(hf:f∈(L.take i).drop j):f.v.oneCell'=true:=h.one (Cr (C2 hf))
section
variable {G:Nat->Prop}{bx:Nat}{room left left':Int}{vL v':Value}{L L':List Rf}{w w':World}
theorem D3.new (h:D3 G bx room vL L left w)(m:Vc.Mod (Fu bx) w w')(hm:Fo w' bx [I room,v',I left'] 138){B:Nat}(ho:Vc.Own Rf.cs 3 226 B w' v' L')(hs:∀f∈L',f.nm.length<=64/\((∃g∈L,f.v=g.v/\f.n=g.n)\/(f.v=.slice none 0 0/\f.n=0)))(hu:(Gv L':Int)<=room)(hl:L'.length<=4096)(hl2:-1<=left'/\left'<=9223372036854775807) :
  D3 (λk=>G k\/B<=k) bx room v' L' left' w':=by
 have he:=h.e.mod m (h.e.ne_blk h.m rfl);refine⟨hm,ho.mono (Ab _),⟨λf z=>?_⟩,.inl h.g0,λk hk=>.inr (ho.lt k hk).1,λf z k hk=>?_,λf z=>(hs f z).1,h.r1,hu,hl,hl2⟩
 ·rcases(hs f z).2 with⟨g,hg,e1,e2⟩|⟨e1,e2⟩
  ·rw[e1,e2];exact he.row g hg
  ·rw[e1,e2];exact⟨[],Vc.Own.nil,rfl⟩
 ·rcases(hs f z).2 with⟨g,hg,e1,e2⟩|⟨e1,e2⟩
  ·rw[e1]at hk;exact .inl (h.gf g hg k hk)
  ·rw[e1]at hk;cases hk
theorem D3.fin (h:D3 (λk=>G k\/w.heap.size<=k) bx room vL L left w')(hlt:∀k,G k->k<w.heap.size)(hs:w.heap.size<=w'.heap.size):NA (FSq G w w') bx w':=by
 have go:∀k,(G k\/w.heap.size<=k)->k<w'.heap.size->FSq G w w' k:=λk hk H=>hk.imp id (λe=>⟨e,H⟩);exact⟨⟨_,_,_,_,h.m,h.o,h.e,go _ h.g0 h.m.lt,λk hk=>go k (h.gL k hk) (h.o.lt k hk).2,λf z k hk=>go k (h.gf f z k hk) (h.e.lt f z k hk),h.nl,h.r1,h.us,h.le,h.lf⟩,Jk hlt hs⟩
theorem D3.fin0 (h:D3 G bx room vL L left w')(hlt:∀k,G k->k<w.heap.size)(hs:w.heap.size<=w'.heap.size):NA (FSq G w w') bx w':=(h.wide (λ_ h=>.inl h)).fin hlt hs
variable {i:Nat}
theorem D3.setF {f x:Rf}(h:D3 G bx room vL L left w)(m:Vc.Mod (λk=>vL.ownBlock=some k) w w')(ho:Vc.Own Rf.cs 3 226 0 w' vL (L.set i x))(J:L[i]?=some f)(hn:x.nm=f.nm)(hx:∃bs:Fh,Vc.Own Fq 1 5 0 w' x.v bs/\bs.length=x.n)(hg:∀k,x.v.ownBlock=some k->G k)(hu:(Gv (L.set i x):Int)<=room):D3 G bx room vL (L.set i x) left w':=by
 have he:=h.e.mod m (λf J k hk e=>h.e.ne h.o rfl f J k hk e);have H:=Ag J;refine⟨h.m.mod m (λe=>h.o.ne_blk h.m rfl e),ho,⟨λg z=>?_⟩,h.g0,h.gL,λg z k hk=>?_,λg z=>?_,h.r1,hu,by rw[A9];exact h.le,h.lf⟩
 ·rcases Eh z with h9|h9
  ·exact he.row g h9
  ·rw[h9];exact hx
 ·rcases Eh z with h9|h9
  ·exact h.gf g h9 k hk
  ·rw[h9]at hk;exact hg k hk
 ·rcases Eh z with h9|h9
  ·exact h.nl g h9
  ·rw[h9,hn];exact h.nl f H
theorem Vv {f x:Rf}(h:L[i]?=some f):Gv (L.set i x)+f.n=Gv L+x.n:=by
 have z:=(Ap.1 h).1;have h1:L=L.take i++f :: L.drop (i+1):=by rw[<-IW h,AS]
 have h2:L.set i x=L.take i++x :: L.drop (i+1):=by rw[List.set_eq_take_append_cons_drop,if_pos z]
 have e1:=congrArg Gv h1;have e2:=congrArg Gv h2;unfold Gv at *;simp only [A6,B0,Am,AT]at e1 e2;omega
theorem Oe {f:Rf}(h:L[i]?=some f):Gv (L.eraseIdx i)+f.n=Gv L/\(L.eraseIdx i).length+1=L.length:=by
 have hl:=(Ap.1 h).1;have h1:L=L.take i++f :: L.drop (i+1):=by rw[<-IW h,AS]
 have e1:=congrArg Gv h1;rw[ET];unfold Gv at *;simp only [A6,B0,Am,AT]at e1 ⊢;refine⟨by omega,?_⟩;simp only [Ad,A7,AX];omega
end
theorem WR {f x:Rf}(h:L[i]?=some f):L.getD i x=f:=by rw[BN,h];rfl
theorem QW (G:Nat->Prop)(bx:Nat)(room:Int)(vL:Value)(L:List Rf)(left:Int)(s:Fh)(w:World)(h:D3 G bx room vL L left w) :
  Gy 228 [Fg bx 0,S s] w (Fu bx) λu w'=>u=.tuple #[]/\∃vL',D3 (λk=>G k\/w.heap.size<=k) bx room vL' (if L5 L s then L.eraseIdx (HB L s)else L) left w':=by
 refine cE Tryz.func228 λz=>?_;have hm:=h.m;have hbxl:=hm.lt;have O:=h.o.arr Ff;have hle:=h.le;refine Gp (GP G bx room vL L left s _ (h.ext z)) λw1 x1=>?_;have z:=z.trans x1;refine FZ (λc1=>?_) λc1=>?_
 ·have Y:=NW c1;obtain⟨f,hk⟩:∃f,L[HB L s]?=some f:=⟨_,Au Y⟩;have hc:=z;have hD:w.heap.size<=w1.heap.size:=z.size;have Z:=(O.ext z);have J:=(hm.ext z);refine HM (R:=Mod (Ia w1.heap.size)) (Far.refl _) Far.trans Fe [5,12] [(0,.p,false),(2,.p,false),(3,.p,false),(4,.p,false),(5,.l,false),(6,.p,false),(7,.p,false),(9,.p,false),(10,.p,false),(11,.p,false),(12,.l,false),(13,.p,false),(14,.p,false),(15,.p,false),(1,.x,false),(8,.x,false),(16,.x,false),(17,.p,false),(18,.p,false),(19,.x,true)] rfl Fe Fe (λw2 hf=>?_);have x2:=FC hf;clear hf;have z:=z.trans x2;have hs:Mod (Ia w1.heap.size) w1 w2:=Far.of_ext x2;refine go ?_;refine dL rfl (λ_ hR=>((J.far (hs.own hR (λ_ h _=>h))).at rfl)) (go ?_);refine dp (H8 (e:=226) (k:=3) Fe O.sl rfl rfl rfl (Ab _) (D8 Y)) (go ?_);refine dL rfl (λ_ hR=>((J.far (hs.own hR (λ_ h _=>h))).at rfl)) (gn ?_);refine F3 (v:=I ↑(HB L s+1)) rfl (GJ rfl rfl (by unfold Fx;omega)) (by show I _=I _;rfl) (dp (H8 (e:=226) (k:=3) Fe O.sl rfl rfl rfl Y (Aa _)) (IY (e:=226) (sz:=3) rfl Fe RX.far (λb1 w3 e1 x3 m1=>?_)));have g1:=z.ge e1;have gs1:w1.heap.size<=b1:=by have:=hs.size;omega
  refine Fz x3 z hs λz hs=>?_;have ho:=m1.own (enc:=Rf.cs) (B:=w1.heap.size) (l:=[]) (sz:=3) (m:=0) gs1 rfl Ff rfl (Aj rfl);refine HZ (e:=226) (sz:=3) (by':=48) rfl Fe Fe Ff ho (((O.ext z)).slice (Ab _) (D8 Y)) rfl rfl (by intro x ha u hu;have h7:=h.e.one0 ha;simp at hu;rcases hu with rfl|rfl|rfl;rfl;exact h7;rfl) (by simp;omega) Fj hs.size (.inr (Far.own ho (Aa _))) (λv1 w4 H x4=>?_);have hs:=hs.own x4 F4;have z:=z.own x4 (λi hi=>(by have h1:=(ho.lt i hi).1;have:=hc.size;omega));have ho:=H;refine HZ (e:=226) (sz:=3) (by':=48) rfl Fe Fe Ff ho (((O.ext z)).slice Y (Aa _)) rfl rfl (by intro x ha u hu;have h7:=h.e.one0 ha;simp at hu;rcases hu with rfl|rfl|rfl;rfl;exact h7;rfl) (by simp;omega) Fj hs.size (.inr (Far.own ho (Aa _))) (λv2 w5 H x5=>?_);have z:=z.own x5 (λi hi=>(by have h1:=(ho.lt i hi).1;have:=hc.size;omega));have ho:=H;refine go ?_;refine KK (hm.ext z) (λw6 x6 xs6 hm=>?_) (hv:=by exact Fv.one ho.sl);dsimp only [Gr,AN,AL,AU]at hm;have ho:=ho.mod x6 Fw;have z:=(z.mod x6).mono (λi hi _=>(hi:(Fu bx) i));clear hs hc Z J;refine go ?_;refine HV (Hx rfl ?_);rw[if_pos c1];have he:=Oe hk;have hh:Vc.Own Rf.cs 3 226 w.heap.size w6 v2 (L.eraseIdx (HB L s)):=by rw[ET];simpa using ho.mono hD
  exact⟨_,rfl,z,rfl,v2,h.new z hm hh (λg hg=>⟨h.nl g (Ei hg),.inl ⟨g,Ei hg,rfl,rfl⟩⟩) (by have:=h.us;omega) (by have:=h.le;omega) h.lf⟩
 refine go ?_;refine HV (Hx rfl ?_);rw[if_neg (by rw[c1];decide)];exact⟨_,rfl,z.mono (λ_ h _=>h.elim),rfl,vL,(h.ext z).wide (λ_ h=>.inl h)⟩
def Gb (w:World)(ts:List Nat)(k:Nat):Prop:=∃cs T,Fo w k cs T/\ts.elem T=true
@[reducible] def GT (G:Nat->Prop) (ts:List Nat) (w:World) (k:Nat):Prop:=G k/\Gb w ts k
theorem Fo.noTy {b:Nat}{cs:List Value}{ts:List Nat}(h:Fo w b cs T)(hT:ts.elem T=false):¬ Gb w ts b:=λ⟨_,_,h1,h2⟩=>by
 unfold Fo at h h1;rw[h]at h1;simp only [Al.injEq,Obj.cells.injEq]at h1;rw[<-h1.2.1,hT]at h2
 cases h2
theorem K6 {enc:α->List Value}{sz B:Nat}{v:Value}{l:List α}{ts:List Nat}(h:Vc.Own enc sz T B w v l)(hT:ts.elem T=true)(hk:v.ownBlock=some k):Gb w ts k:=by
 obtain⟨cs,z⟩:=h.heap hk;exact⟨_,_,by unfold Fo;rw[z],hT⟩
theorem FM {enc:α->List Value}{sz B:Nat}{v:Value}{l:List α}{ts:List Nat}(h:Vc.Own enc sz T B w v l)(hT:ts.elem T=false)(hk:v.ownBlock=some k):¬ Gb w ts k:=by
 obtain⟨cs,z⟩:=h.heap hk;exact Fo.noTy (cs:=cs.toList) (by unfold Fo;rw[z]) hT
theorem Gb.back {S:Nat->Prop}{w':World}{ts:List Nat}(h:Gb w' ts k)(m:Vc.Mod S w w')(hS:S k->Gb w ts k)(hk:k<w.heap.size):Gb w ts k:=by
 by_cases h9:S k
 ·exact hS h9
 ·obtain⟨cs,T,h1,h2⟩:=h;unfold Fo at h1;rw[m.block k hk h9]at h1;exact⟨cs,T,h1,h2⟩
variable {G:Nat->Prop}{bx:Nat}{room:Int}{vL:Value}
theorem D3.inX {left:Int}(h:D3 G bx room vL L left w)(hi:Fu bx i):GT G [138,226] w i:=by
 rw[show i=bx from hi];exact⟨h.g0,_,_,h.m,by decide⟩
theorem D3.inL {left:Int}(h:D3 G bx room vL L left w)(hi:vL.ownBlock=some i):GT G [138,226] w i:=⟨h.gL i hi,K6 h.o Fj hi⟩
theorem X8t (G:Nat->Prop)(bx:Nat)(room:Int)(vL:Value)(L:List Rf)(left:Int)(s:Fh)(w:World)(h:D3 G bx room vL L left w)(J:∀k,G k->k<w.heap.size) :
  Gy 145 [Fg bx 0,S s] w (GT G [138,226] w) λu w'=>∃e:Int,u=I e/\NA (FSq G w w') bx w':=by
 refine cM Tryz.func145 (GT G [138,226] w) λz=>?_;have H:=h;have hle:=h.le;have hus:=h.us;have hr1:=h.r1;refine go ?_;refine li (e:=9) (sz:=1) (zs:=[S []]) (pv:=[(0,_)]) (cs:=[_]) RX.all (λb1 w1 e1 x1 m1=>?_);have g1:=z.ge e1;refine Fz x1 H z λH z=>cG (P3 G bx room vL L left [s] _ _ H (LU m1) (Aj rfl)) RX.all λu2 w2 x2 Y=>?_;have hsz2:=z.size;refine Fz x2 H z λH z=>?_;obtain⟨e9,rfl,he9⟩:=Y;refine Fk (λc1=>?_) λc1=>?_
 ·refine go ?_;exact⟨_,rfl,z,e9,rfl,H.fin0 J z.size⟩
 refine Gp (GP G bx room vL L left s _ H) λw3 x3=>Fz x3 H z λH z=>?_;refine FZ (λc2=>?_) λc2=>?_
 ·refine go ?_;exact⟨_,rfl,z,7,rfl,H.fin0 J z.size⟩
 refine go ?_;have O:=z.size;refine cD (QW G bx room vL L left s _ H) (.inl rfl) λu4 w4 x4 ha=>?_;have hsz4:=z.size;have z:=z.own x4 (λi hi J=>(h.inX hi));obtain⟨rfl,vL2,Z⟩:=ha;have H:=Z.wide (G':=λk=>G k\/w.heap.size<=k) (λk hk=>hk.imp id (λe=>Ae O e));refine Gw (OS _ bx room _ _ _ _ H) λu5 w5 x5 hc=>?_;have hsz5:=z.size;have z:=z.own x5 (λi hi J=>(h.inX hi));obtain⟨rfl,left2,H⟩:=hc;refine go ?_;exact⟨_,rfl,z,0,rfl,H.fin J z.size⟩
theorem X8u (G:Nat->Prop)(bx:Nat)(room:Int)(vL:Value)(L:List Rf)(left:Int)(s:Fh)(w:World)(h:D3 G bx room vL L left w)(O:∀k,G k->k<w.heap.size) :
  Gy 209 [Fg bx 0,S s] w (GT G [138,226] w) λu w'=>∃e:Int,u=I e/\NA (FSq G w w') bx w':=by
 refine cM Tryz.func209 (GT G [138,226] w) λH=>?_;have z:=h;have hle:=h.le;have hus:=h.us;have hr1:=h.r1;refine go ?_;refine li (e:=9) (sz:=1) (zs:=[S []]) (pv:=[(0,_)]) (cs:=[_]) RX.all (λb1 w1 e1 x1 m1=>?_);have g1:=H.ge e1;refine Fz x1 z H λz H=>cG (P3 G bx room vL L left [s] _ _ z (LU m1) (Aj rfl)) RX.all λu2 w2 x2 hl=>?_;have hsz2:=H.size;refine Fz x2 z H λz H=>?_;obtain⟨e9,rfl,he9⟩:=hl;refine Fk (λc1=>?_) λc1=>?_
 ·refine go ?_;exact⟨_,rfl,H,e9,rfl,z.fin0 O H.size⟩
 refine Gp (GP G bx room vL L left s _ z) λw3 x3=>Fz x3 z H λz H=>?_;refine FZ (λc2=>?_) λc2=>?_
 ·refine go ?_;exact⟨_,rfl,H,7,rfl,z.fin0 O H.size⟩
 have J:HB L s<L.length:=NW (by simpa using c2);have hp:L≠[]:=λe=>by rw[e]at J;exact absurd J (Bg _)
 obtain⟨f,hk⟩:∃f,L[HB L s]?=some f:=⟨_,Au J⟩;have Y:=Ag hk;obtain⟨bs,hg,hq⟩:=z.e.row f Y;refine Gn 150001000100001000 λw4 x4=>Fz x4 z H λz H=>?_;refine go ?_;refine dL rfl (λ_ hR=>((z.m.ext hR).at rfl)) (go ?_);refine dL rfl (λ_ hR=>((z.m.ext hR).at rfl)) (go ?_);refine di 226 3 (z.o.arr Ff).sl rfl ((z.o.arr Ff).lt hk) (go ?_);refine dL rfl (λ_ hR=>((((z.o.arr Ff).ext hR).row hk).at rfl)) (F3 (v:=I ↑f.n) rfl (Pb (e:=5) (k:=1) Fe (hg.arr Ff).sl rfl) (by rw[hq]) (F3 (v:=Fg (base vL).1 (HB L s*3+0)) rfl (Ii (e:=226) (k:=3) Fe z.o.sl rfl rfl J) (by show Fg _ _=Fg _ _;rw[Kb z.o hp];congr 1;omega) (go ?_)));refine HO (enc:=Rf.cs) (sz:=3) (l:=L) (i:=HB L s) (j:=2) (x:=⟨f.nm,f.v,f.n,↑f.n⟩) (vs:=[I ↑f.n]) Ff rfl z.o rfl rfl rfl Fe J (by rw[WR hk];rfl) (Aj rfl) (by intro v hv;rw[Af.1 hv];rfl) (.inl rfl) (λw5 x5 xs5 Z=>?_);have hc:=Vv (x:=⟨f.nm,f.v,f.n,↑f.n⟩) hk;have hh:=z.setF x5 Z hk rfl ((z.e.mod x5 (λf hf k hk e=>z.e.ne z.o rfl f hf k hk e)).row f Y) (λk hj=>z.gf f Y k hj) (by dsimp only at hc;omega);have H:=H.own x5 (λi hi _=>h.inL hi);have z:=hh;refine Gw (OS _ bx room _ _ _ _ z) λu6 w6 x6 ha=>?_;have hsz6:=H.size;have H:=H.own x6 (λi hi O=>(h.inX hi));obtain⟨rfl,left2,z⟩:=ha;refine go ?_;exact⟨_,rfl,H,0,rfl,z.fin0 O H.size⟩
theorem D3.modge {S:Nat->Prop}{left:Int}{w':World}(h:D3 G bx room vL L left w)(m:Vc.Mod S w w')(hS:∀k,S k->w.heap.size<=k):D3 G bx room vL L left w':=
 ⟨h.m.mod m (λe=>by have h1:=hS _ e;have h2:=h.m.lt;omega),h.o.mod m (λk hk e=>by have h1:=hS _ e;have h2:=(h.o.lt k hk).2;omega),h.e.mod m (λf z k hk e=>by have h1:=hS _ e;have h2:=h.e.lt f z k hk;omega),h.g0,h.gL,h.gf,h.nl,h.r1,h.us,h.le,h.lf⟩
theorem Rc (L:List Rf)(i:Nat)(x:Rf):Gv (L.take i++[x]++L.drop i)=Gv L+x.n:=by
 have h1:=congrArg Gv (AS i L);unfold Gv at *;simp only [A6,B0,Am,AT,Bf,List.sum_nil]at *;omega
theorem Vd {x f:Rf}(h:f∈L.take i++[x]++L.drop i):f∈L\/f=x:=by
 rcases Ak.1 h with h|h
 ·rcases Ak.1 h with h|h
  ·exact .inl (Cr h)
  ·exact .inr (Af.1 h)
 ·exact .inl (C2 h)
theorem IL (G:Nat->Prop)(bx:Nat)(room:Int)(vL:Value)(L:List Rf)(left:Int)(s:Fh)(w:World)(h:D3 G bx room vL L left w) :
  Gf 232 [Fg bx 0,S s] w λu _=>∃(vb:Value) (e:Int),u=.tuple #[vb,I e]:=by
 refine cE Tryz.func232 λH=>?_;have z:=h;have hle:=h.le;have hus:=h.us;have hr1:=h.r1;refine Gp (GP G bx room vL L left s _ z) λw1 x1=>Fz x1 z H λz H=>?_;refine FZ (λZ=>?_) λZ=>?_
 ·refine go ?_;exact⟨_,rfl,H,_,_,rfl⟩
 have J:HB L s<L.length:=NW (by simpa using Z);have hne:L≠[]:=λe=>by rw[e]at J;exact absurd J (Bg _)
 obtain⟨f,hk⟩:∃f,L[HB L s]?=some f:=⟨_,Au J⟩;have O:=Ag hk;obtain⟨bs,hb9,hbl⟩:=z.e.row f O;have hse:=(Oe hk).1;refine go ?_;refine IY (e:=5) (sz:=1) rfl Fe RX.all (λb1 w2 e1 x2 m1=>?_);have g1:=H.ge e1;refine Fz x2 z H λz H=>go ?_;refine dl rfl (z.m.at rfl) (go ?_);refine di 226 3 (z.o.arr Ff).sl rfl ((z.o.arr Ff).lt hk) (go ?_);refine dl rfl (((z.o.arr Ff).row hk).at rfl) ?_;have ho:=m1.own (enc:=Fq) (B:=w.heap.size) (l:=[]) (sz:=1) (m:=0) g1 rfl Ff rfl F5;obtain⟨bs2,Y,hbl2⟩:=z.e.row f O;refine HZ (e:=5) (sz:=1) (by':=1) rfl Fe Fe Ff ho ((Y.arr Ff)) rfl rfl (by intro x _ u hu;simp at hu;rcases hu with rfl<;>rfl) (by simp;omega) Fj H.size (.inl rfl) (λvq w3 ho_n x3=>?_);have H:=H.own x3 F4;refine go ?_;exact⟨_,rfl,H,_,_,rfl⟩
theorem Xzi (G:Nat->Prop)(bx:Nat)(room:Int)(vL:Value)(L:List Rf)(left:Int)(s p:Fh)(v:Value)(w:World)(h:D3 G bx room vL L left w)(H:∀k,G k->k<w.heap.size)(hv:Vc.Own Fq 1 5 0 w v p)(hpl:p.length<=10000000000000) :
  Gy 208 [Fg bx 0,S s,v] w (GT G [138,226] w) λu w'=>∃e:Int,u=I e/\NA (FSq G w w') bx w':=by
 refine cM Tryz.func208 (GT G [138,226] w) λz=>?_;have hd:=h;have hle:=h.le;have hus:=h.us;have hr1:=h.r1;have hz:=hv.lt;have hvb:∀k,v.ownBlock=some k->¬ Fu bx k:=λk hk e=>hv.ne_blk h.m rfl (by rw[<-show k=bx from e];exact hk);refine go ?_;refine li (e:=9) (sz:=1) (zs:=[S []]) (pv:=[(0,_)]) (cs:=[_]) RX.all (λb1 w1 e1 x1 m1=>?_);have g1:=z.ge e1;have o1_hv:=hv.ltb e1;refine FB x1 hd hv z λhd hv z=>cG (P3 G bx room vL L left [s] _ _ hd (LU m1) (Aj rfl)) RX.all λu2 w2 x2 xx=>?_;have hsz2:=z.size;refine FB x2 hd hv z λhd hv z=>?_;obtain⟨e9,rfl,xr⟩:=xx;refine Fk (λc1=>?_) λc1=>?_
 ·refine go ?_;exact⟨_,rfl,z,e9,rfl,hd.fin0 H z.size⟩
 have h0:e9=0:=AE c1;refine Gp (GP G bx room vL L left s _ hd) λw3 x3=>FB x3 hd hv z λhd hv z=>?_;refine g0 ?_;refine GK (G:=Unit) (λuu=>[(0,Fg bx 0),(1,S s),(2,v),(8,I ↑(HB L s)),(9,B (L5 L s))]) (λuu w'=>Mod (GT G [138,226] w) w w'/\D3 G bx room vL L left w'/\Vc.Own Fq 1 5 0 w' v p/\(Gv L:Int)+p.length<=room/\(L5 L s=false->L.length<4096)) ?_ ?_
 ·refine go ?_;refine HM (R:=Fp) Fp.refl (λ_ _ _=>Fp.trans) Fe [8,17] [(0,.p,false),(2,.p,false),(3,.p,false),(5,.p,false),(6,.p,false),(7,.p,false),(8,.l,false),(1,.x,false),(4,.p,false),(9,.p,false),(10,.p,false),(11,.p,false),(12,.p,false),(13,.p,false),(14,.p,false),(15,.p,false),(16,.p,false),(17,.l,false),(18,.p,false),(19,.p,false),(20,.p,false),(21,.p,false)] rfl Fe Fe (λw4 xg=>?_);have x4:=FC xg;clear xg;refine FB x4 hd hv z λhd hv z=>go ?_;refine dv 5 1 (hv.arr Ff).sl (go ?_);refine dL rfl (λ_ hR=>((hd.m.ext hR).at rfl)) (cP (X8s G bx room vL L left _ hd) RX.ext λw5 x5=>FB x5 hd hv z λhd hv z=>?_);refine ds1 34 (λc2=>?_) λc2=>?_
  ·refine go ?_;refine GD rfl (go ?_);exact⟨_,rfl,z,6,rfl,hd.fin0 H z.size⟩
  refine go ?_;refine Il 37 rfl (λc3=>?_) (λc3=>?_)
  ·refine go ?_;refine dL rfl (λ_ hR=>((hd.m.ext hR).at rfl)) (dv 226 3 (hd.o.arr Ff).sl (dp (HW rfl rfl) ?_));refine Fk (λc4=>?_) λc4=>?_
   ·refine go ?_;exact⟨_,rfl,z,6,rfl,hd.fin0 H z.size⟩
   refine go ?_;exact⟨(),GC,z,hd,hv,by omega,λ_=>by omega⟩
  refine go ?_;refine GL rfl (go ?_);exact⟨(),GC,z,hd,hv,by omega,λh9=>absurd h9 (by simpa using c3)⟩
 rintro _ uu w6 ⟨z,hd,hv,h7a,h7b⟩;refine GK (G:=Value×List Rf) (λ(v2,L2)=>[(0,Fg bx 0),(2,v),(8,I ↑(HB L s))]) (λ(v2,L2) w'=>Mod (GT G [138,226] w) w w'/\Vc.Own Fq 1 5 0 w' v p/\D3 (λk=>G k\/w.heap.size<=k) bx room v2 L2 left w'/\HB L s<L2.length/\(Gv L2:Int)+p.length<=room) ?_ ?_
 ·refine FZ (λc5=>?_) λc5=>?_
  ·have xj:L5 L s=false:=by simpa using c5
   have hl9:=h7b xj;have hl:=Vi L s;refine go ?_;refine IY (e:=226) (sz:=3) rfl Fe RX.all (λb2 w7 e2 x7 m2=>?_);have g2:=z.ge e2;have o2_hv:=hv.ltb e2;refine FB x7 hd hv z λhd hv z=>go ?_;refine dl rfl (hd.m.at rfl) (go ?_);refine dp (H8 (e:=226) (k:=3) Fe (hd.o.arr Ff).sl rfl rfl rfl (Ab _) hl) ?_;have hn:=m2.own (enc:=Rf.cs) (B:=w.heap.size) (l:=[]) (sz:=3) (m:=0) g2 rfl Ff rfl (Aj rfl);refine HZ (e:=226) (sz:=3) (by':=48) rfl Fe Fe Ff hn ((hd.o.arr Ff).slice (Ab _) hl) rfl rfl (by intro x hh u hu;have h7:=h.e.one0 hh;simp at hu;rcases hu with rfl|rfl|rfl;rfl;exact h7;rfl) (by simp;omega) Fj z.size (.inl rfl) (λv1 w8 O x8=>?_);have hd:=hd.mod x8 (by exact(λk hk e=>by have h1:=(hn.lt k e).1;have h2:=H k hk;omega));have hv:=hv.mod x8 (by exact(λk hk e=>by have h1:=(hn.lt k e).1;have h2:=(hz k hk).2;omega));have z:=z.own x8 F4;have hn:=O;refine go ?_;refine db (zs:=[S [],.slice none 0 0,.int .i64 0]) (pl:=[(0,1),(1,1),(2,1)]) (pv:=[(0,_)]) (cs:=[_,.slice none 0 0,.int .i64 0]) ?_;refine lA 226 rfl λb3 w9 e3 x9 m3=>?_;have g3:=z.ge e3;have o3_hv:=hv.ltb e3;refine FP x9 hd hv hn z λhd hv hn z=>?_;refine G1 ⟨s,.slice none 0 0,0,0⟩ hn m3 (λv2 w10 O ht=>?_) (h1:=(by intro x hh u hu;rw[Af.1 hh]at hu;simp [Rf.cs]at hu;rcases hu with rfl|rfl|rfl<;>rfl));have hd:=hd.mod ht (by exact(λk hk e=>by have h1:=(hn.lt k e).1;have h2:=H k hk;omega));have hv:=hv.mod ht (by exact(λk hk e=>by have h1:=(hn.lt k e).1;have h2:=(hz k hk).2;omega));have z:=z.own ht F4;have hn:=O;clear m3;refine go ?_;refine dl rfl (hd.m.at rfl) (go ?_);refine dp (H8 (e:=226) (k:=3) Fe (hd.o.arr Ff).sl rfl rfl rfl hl (Aa _)) (HZ (e:=226) (sz:=3) (by':=48) rfl Fe Fe Ff hn ((hd.o.arr Ff).slice hl (Aa _)) rfl rfl (by intro x hh u hu;have h7:=h.e.one0 hh;simp at hu;rcases hu with rfl|rfl|rfl;rfl;exact h7;rfl) (by simp;omega) Fj z.size (.inl rfl) (λv3 w11 O hy=>?_));have hd:=hd.mod hy (by exact(λk hk e=>by have h1:=(hn.lt k e).1;have h2:=H k hk;omega));have hv:=hv.mod hy (by exact(λk hk e=>by have h1:=(hn.lt k e).1;have h2:=(hz k hk).2;omega));have z:=z.own hy F4;have hn:=O;refine go ?_;refine JV (b:=bx) (o:=1) (v:=?v46) rfl rfl ?h46 ?n46 Fe (hd.m) ?o46 (.inl rfl) (λxq hj xs12 xf=>?k46)
   case h46=>conv=>lhs;whnf
   case n46=>exact hn.sl.one
   case o46=>exact Aj rfl
   have hv:=hv.mod hj Fw;have z:=z.own hj (λi hi H=>(h.inX hi));dsimp only [Gr,AN,AL,AU]at xf;have xy:Vc.Own Rf.cs 3 226 w.heap.size xq v3 (L.take (HB L s)++[⟨s,.slice none 0 0,0,0⟩]++L.drop (HB L s)):=by
    have h9:=hn.mod hj (λk hk e=>by have h1:=(hn.lt k hk).1;have h2:=H bx h.g0;have h3:k=bx:=e;omega);simpa using h9
   have xu:=hd.new hj xf xy (λf hf=>(Vd hf).elim (λh9=>⟨h.nl f h9,.inl ⟨f,h9,rfl,rfl⟩⟩) (λh9=>by rw[h9];exact⟨xr h0 s Ai,.inr ⟨rfl,rfl⟩⟩)) (by rw[Rc];show((Gv L+0:Nat):Int)<=room;omega) (by simp;omega) h.lf;have hd:=xu;refine go ?_;exact⟨(v3,(L.take (HB L s)++[⟨s,.slice none 0 0,0,0⟩]++L.drop (HB L s))),Kv,z,hv,hd,by simp;omega,by rw[Rc];show((Gv L+0:Nat):Int)+_<=room;omega⟩
  refine go ?_;exact⟨(vL,L),Kv,z,hv,hd.wide (λ_ h=>.inl h),NW (by simpa using c5),h7a⟩
 rintro _ ⟨v2,L2⟩ w13 ⟨z,hv,hd,hil2,hus2⟩;have xv:=hd.m;have J:=hd.o.arr Ff;have xh:L2≠[]:=λe=>by rw[e]at hil2;exact absurd hil2 (Bg _)
 obtain⟨f,hk⟩:∃f,L2[HB L s]?=some f:=⟨_,Au hil2⟩;have x6:=Ag hk;obtain⟨bs,xc,x0⟩:=hd.e.row f x6;have hse:=(Oe hk).1;refine go ?_;have h8:=z;have hD:w.heap.size<=w13.heap.size:=z.size;have Y:=hd;have ha:=J;have Z:=xv;have hg:=hv;refine HM (R:=Mod (Ia w13.heap.size)) (Far.refl _) Far.trans Fe [3,9,13] [(0,.p,false),(1,.p,false),(2,.p,false),(3,.l,false),(4,.p,false),(6,.p,false),(7,.p,false),(8,.p,false),(9,.l,false),(10,.p,false),(11,.p,false),(12,.p,false),(13,.l,false),(15,.p,false),(5,.x,false),(14,.x,false),(16,.x,false),(17,.p,false),(18,.p,false),(19,.x,true)] rfl Fe Fe (λxz hp=>?_);have xb:=FC hp;clear hp;refine FP xb hv hd J z λhv hd J z=>?_;have hs:Mod (Ia w13.heap.size) w13 xz:=Far.of_ext xb;refine go ?_;refine dL rfl (λ_ hR=>((Z.far (hs.own hR (λ_ h _=>h))).at rfl)) (go ?_);refine dL rfl (λ_ hR=>((Z.far (hs.own hR (λ_ h _=>h))).at rfl)) (FK 226 3 J.sl (J.lt hk) ?_);refine go ?_;refine dL rfl (λ_ hR=>(((ha.far Fj (hs.own hR (λ_ h _=>h))).row hk).at rfl)) (go ?_);refine IY (e:=5) (sz:=1) rfl Fe RX.far (λb4 w15 e4 xp m4=>?_);have g4:=z.ge e4;have o4_hv:=hv.ltb e4;have gs4:w13.heap.size<=b4:=by have:=hs.size;omega
 refine FP xp hv hd z hs λhv hd z hs=>?_;have hq:=m4.own (enc:=Fq) (B:=w13.heap.size) (l:=[]) (sz:=1) (m:=0) gs4 rfl Ff rfl (Aj rfl);refine Hf (lx:=bs) hq ((xc.mod hs (λk hk e=>by have h1:=(xc.lt k hk).2;unfold Ia at e;omega)).arr Ff) (λvq1 w16 hc xa=>?_) (hR:=(.inr (Far.own hq (Aa _))));have hs:=hs.own xa F4;have z:=z.own xa (λi hi H=>(by have:=(hq.lt i hi).1;omega));have hq:=hc;refine Hf (lx:=p) hq ((hg.mod hs (λk hk e=>by have h1:=(hg.lt k hk).2;unfold Ia at e;omega)).arr Ff) (λhw w17 hc xd=>?_) (hR:=(.inr (Far.own hq (Aa _))));have hs:=hs.own xd F4;have z:=z.own xd (λi hi H=>(by have:=(hq.lt i hi).1;omega));have hq:=hc;refine F3 (v:=Fg (base v2).1 (HB L s*3+0)) rfl (Ii (e:=226) (k:=3) Fe Y.o.sl rfl rfl hil2) (by show Fg _ _=Fg _ _;rw[Kb Y.o xh];congr 1;omega) (go ?_);have h5:=Y.modge hs (λk hk=>hk);have xm:=hq.lt;refine HO (enc:=Rf.cs) (sz:=3) (l:=L2) (i:=HB L s) (j:=1) (x:=⟨f.nm,hw,f.n+p.length,f.la⟩) (vs:=[hw]) Ff rfl h5.o rfl rfl (hq.sl.cells) Fe hil2 (by rw[WR hk];rfl) (Aj rfl) (by intro v hv;rw[Af.1 hv];exact hq.sl.one) (.inl rfl) (λw18 h6 xs18 xi=>?_);have xk:=Vv (x:=⟨f.nm,hw,f.n+p.length,f.la⟩) hk;have xt:=hq.mod h6 (λk hk e=>hq.ne h5.o rfl hk e);have xw:=h5.setF h6 xi hk rfl ⟨_,xt.mono (Ab _),by simp [x0]⟩ (λk xo=>.inr (Ae hD (xm k xo).1)) (by dsimp only at xk;omega);have z:=z.own h6 (λi hi hr=>by have h7:=Y.inL hi;exact⟨h7.1.elim id (λh9=>absurd hr (AP.2 h9)),h7.2.back h8 (λh9=>h9.2) hr⟩);have xn:=xw;clear hs h8 Y ha Z hg;refine Gw (OS _ bx room _ _ _ _ xn) λu19 w19 xl xe=>?_;have hsz19:=z.size;have z:=z.own xl (λi hi H=>(h.inX hi));obtain⟨rfl,left2,hd⟩:=xe;refine go ?_;exact⟨_,rfl,z,0,rfl,hd.fin H z.size⟩
end Go.Proofs.YtiooodckiddpmaaGreatDoor
