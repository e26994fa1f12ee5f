/-
  A part of the proof.
-/
import Derived.Test.YtiooodckiddpmaaGreatDoorQkA
import Derived.Test.YtiooodckiddpmaaGreatDoorChecked
import Derived.KernelRfl
import Derived.Test.YtiooodckiddpmaaGreatDoorQkB
import Derived.Lib.Bytealg
import Derived.Shelf.SlSortCmp.WholeK
import Derived.Shelf.SlSortCmp.NoneTotal
import Derived.Sort.OwnSorted
import Derived.Shelf.SlGeneric
import Derived.Ground.SlsfProg
import Derived.Test.YtiooodckiddpmaaGreatDoorProg
open Nat renaming le_refl->Aa,zero_le->Ab,le_trans->Ae,le_of_ble_eq_true->Aj,lt_of_lt_of_le->Ax,zero_add->A0,lt_irrefl->A4,lt_of_lt_of_eq->AD,mul_le_mul_right->AW,succ_mul->Bd,mod_lt->Be,not_lt_zero->Bg,lt_or_ge->Bm,min_eq_left->Bt,mul_comm->Bv,add_sub_cancel->BX,add_zero->BZ,zero_mul->Cw,mul_assoc->Cz,eq_or_lt_of_le->C5,sub_zero->C8,eq_zero_or_pos->CJ,sub_self->DZ,lt_or_eq_of_le->EB,le_of_lt_succ->EC,lt_trichotomy->EL,min_eq_right->EM
open List renaming length_append->Ad,mem_singleton->Af,mem_of_getElem?->Ag,mem_cons->Ah,mem_cons_self->Ai,mem_append->Ak,map_cons->Am,replicate->An,mem_cons_of_mem->Ao,getElem?_eq_some_iff->Ap,take_of_length_le->Ar,getElem?_eq_getElem->Au,length_map->Aw,mem_map->Ay,eq_nil_of_length_eq_zero->Az,append_assoc->A3,length->A5,map_append->A6,length_take->A7,length_set->A9,length_cons->AA,nil_append->AB,flatMap_cons->AF,append_nil->AH,pairwise_cons->AI,take->AL,set->AN,all_eq_true->AO,getElem?_of_mem->AQ,take_append_drop->AS,sum_cons->AT,length_drop->AX,cons_append->AY,getElem?_take->Ba,map_nil->Bf,getElem?_eq_none->Bh,pairwise_append->Bj,nodup_cons->Bk,length_nil->Bl,filter_append->Bs,getElem?_append_left->Bu,take_add_one->Bw,map_map->Bx,mem_append_right->Bz,sum_append->B0,getElem?_drop->B4,any_eq_true->B7,mem_append_left->B8,ext_getElem?->BB,drop_of_length_le->BD,getElem?_set_self->BE,filter_cons->BF,filter_eq_self->BG,getElem?_append_right->BJ,map_congr_left->BL,nodup_append->BM,drop_eq_nil_of_le->BW,mem_iff_getElem?->Cd,getElem?_set_ne->Cg,flatMap_nil->Ci,nodup_nil->Cj,cons->Ck,take_succ_cons->C0,pairwise_iff_getElem->C4,getElem?_set->CI,all_append->CK,find?_cons->CL,takeWhile_cons->CO,take_left'->CP,drop_left'->CQ,all_cons->CX,take_take->Dd,all_nil->Ds,dropWhile_cons->Dz,eq_nil_or_concat->D4,take_set_of_le->DP,concat_eq_append->Eb,perm_middle->Ec,head?_cons->ED,headD_cons->EF,getElem?_take_of_lt->EG,set_cons_zero->EH,set_comm->EI,perm_append_singleton->EJ,take_append->EK
open Option renaming some->Al,bind_some->Cm,isSome_iff_exists->CA,filter_some->EE
open Bool renaming and_eq_true->Aq,not_eq_true->Cb,false_eq_true->Cq,true_and->C1,and_eq_false_iff->CN,eq_iff_iff->Dx
open Decidable renaming of_not_not->AE
open List.Pairwise renaming nil->Bq,imp₂->EY
open Array renaming getElem?_eq_some_iff->BA,getElem?_toList->DC,getElem?_modify->DF
open UInt8 renaming not_lt->Dl
open List.Perm renaming append_left->Ea
set_option maxRecDepth 100000
set_option maxHeartbeats 4000000
set_option linter.unusedVariables false
set_option linter.unusedSimpArgs false
namespace Go.Proofs.YtiooodckiddpmaaGreatDoor
open Go.Vc Go.Sp
attribute [local irreducible] W XW Dw G9
theorem NP (n:Int)(fs:List Fi)(vf:Value)(lev:Int)(frm to:Fh)(w:World)(hv:Fs Fi.cs 5 w vf fs)(hl:fs.length<=100000000) :
  Gf 224 [.agg ⟨[I n,vf]⟩,I lev,S frm,S to] w λu w'=>∃m,Vc.Own Fi.cs 5 62 w.heap.size w' u m/\m.length<=fs.length/\∀f∈m,f∈fs:=by
 refine cE Tryz.func224 λr=>go ?_;refine Gx rfl rfl rfl RX.all (λb1 w1 e1 x1 z=>?_);have g1:=r.ge e1;have r:=r.trans x1;refine F9 (G:=Nat×Value×List Fi) (λ(k,vm,m)=>[(1,I lev),(2,S frm),(3,S to),(4,Fg b1 0),(8,.slice none 0 0),(9,vm),(10,I ↑k)]) (λ(k,vm,m) w'=>Fp w w'/\Fo w' b1 [I n,vf] 56/\k<=fs.length/\m.length<=k/\(∀f∈m,f∈fs)/\Vc.Own Fi.cs 5 62 w.heap.size w' vm m) (λ(k,vm,m)=>fs.length-k) (0,.slice none 0 0,[]) ⟨r,z,Ab _,Aa _,λc hc=>(by cases hc),Vc.Own.nil⟩ ?_;rintro _ ⟨k,vm,m⟩ w2 ⟨r,z,hk1,hml,hm,ho⟩;refine FL 62 5 (hv.ext r).sl ?_;refine Fk (λc1=>?_) λc1=>?_
 ·obtain⟨f,hk⟩:∃f,fs[k]?=some f:=F8;have O:=Ag hk;refine FK 62 5 hv.sl (hv.lt hk) ?_;refine dq (Fy Fe rfl rfl ((hv.ext r).row hk)) (aL [.int .i64 0,.int .i64 0,.int .i64 0,S [],S []] λb2 w3 e2 x3 H=>?_);have g2:=r.ge e2;have n2_1:=z.ltb e2;have o2_ho:=ho.ltb e2;refine FB x3 z ho r λz ho r=>Gc H (λw4 Y xs4 H=>?_);have z:=z.mo Y;have ho:=ho.mod Y Fw;have r:=r.o1 Y;refine g0 ?_;refine GK (G:=Bool) (λbb=>[(1,I lev),(2,S frm),(3,S to),(4,Fg b1 0),(8,.slice none 0 0),(9,vm),(10,I ↑k),(11,Fg b2 0),(39,.bool bb)]) (λbb w'=>Fp w w'/\Fo w' b1 [I n,vf] 56/\Vc.Own Fi.cs 5 62 w.heap.size w' vm m/\Fo w' b2 f.cs 62) ?_ ?_
  ·refine ds1 28 (λc2=>?_) λc2=>?_
   ·refine go ?_;refine dp (MX rfl rfl) (go ?_);refine Il 34 rfl (λc3=>?_) (λc3=>?_)
    ·refine go ?_;refine dp (Ss rfl rfl) (go ?_);exact⟨_,KV,r,z,ho,H⟩
    refine go ?_;exact⟨_,KV,r,z,ho,H⟩
   refine go ?_;exact⟨_,KV,r,z,ho,H⟩
  rintro _ bb w5 ⟨r,z,ho,H⟩;refine wc (λc4=>?_) λc4=>?_
  ·refine go ?_;refine dq (Fy (k:=5) Fe rfl rfl H.row) (lA 62 rfl λb3 w6 Z x6 m3=>?_);have g3:=r.ge Z;have n3_1:=z.ltb Z;have o3_ho:=ho.ltb Z;refine FB x6 z ho r λz ho r=>G1 f ho m3 λv2 w7 J x7=>?_;have z:=z.mod x7 Fw;have r:=r.own x7 F4;have ho:=J;clear m3;refine go ?_;exact FJ (k+1,v2,m++[f]) ⟨r,z,by omega,by simp;omega,Le hm O,ho⟩
  refine go ?_;exact FJ (k+1,vm,m) ⟨r,z,by omega,by omega,hm,ho⟩
 refine go ?_;exact⟨_,rfl,r,m,ho,by omega,hm⟩
theorem XO (n:Int)(fs:List Fi)(vf:Value)(lev:Int)(w:World)(hv:Fs Fi.cs 5 w vf fs)(hl:fs.length<=100000000) :
  Gf 223 [.agg ⟨[I n,vf]⟩,I lev] w λu w'=>Vc.Own Fi.cs 5 62 w.heap.size w' u (fs.filter λf=>decide (f.lev=lev)):=by
 refine cE Tryz.func223 λr=>go ?_;refine Gx rfl rfl rfl RX.all (λb1 w1 e1 x1 z=>?_);have g1:=r.ge e1;have r:=r.trans x1;refine F9 (G:=Nat×Value) (λ(k,vm)=>[(1,I lev),(2,Fg b1 0),(4,.slice none 0 0),(5,vm),(6,I ↑k)]) (λ(k,vm) w'=>Fp w w'/\Fo w' b1 [I n,vf] 56/\k<=fs.length/\Vc.Own Fi.cs 5 62 w.heap.size w' vm ((fs.take k).filter λf=>decide (f.lev=lev))) (λ(k,vm)=>fs.length-k) (0,.slice none 0 0) ⟨r,z,Ab _,Vc.Own.nil⟩ ?_;rintro _ ⟨k,vm⟩ w2 ⟨r,z,hk1,ho⟩;refine FL 62 5 (hv.ext r).sl ?_;refine Fk (λZ=>?_) λZ=>?_
 ·obtain⟨f,hk⟩:∃f,fs[k]?=some f:=F8;have hle:=List.length_filter_le (λf:Fi=>decide (f.lev=lev)) (fs.take k);rw[A7]at hle;refine FK 62 5 hv.sl (hv.lt hk) ?_;refine go ?_;refine dl rfl (((hv.ext r).row hk).at rfl) ?_;refine Fk (λJ=>?_) λJ=>?_
  ·refine FK 62 5 hv.sl (hv.lt hk) ?_;refine dq (Fy Fe rfl rfl ((hv.ext r).row hk)) (lA 62 rfl λb2 w3 e2 x3 O=>?_);have g2:=r.ge e2;have n2_1:=z.ltb e2;have o2_ho:=ho.ltb e2;refine FB x3 z ho r λz ho r=>G1 f ho O λv2 w4 H Y=>?_;have z:=z.mod Y Fw;have r:=r.own Y F4;have ho:=H;clear O;refine go ?_;exact FJ (k+1,v2) ⟨r,z,by omega,by rw[GQ hk,Bs,List.filter_cons_of_pos (by simpa using J)];exact ho⟩
  refine go ?_;exact FJ (k+1,vm) ⟨r,z,by omega,by rw[GQ hk,Bs,List.filter_cons_of_neg (by simpa using J),List.filter_nil,AH];exact ho⟩
 refine go ?_;rw[Ar Fb]at ho;exact⟨_,rfl,r,ho⟩
theorem Wa (s:Fh)(w:World)(hs:s.length<=140737488355328) :
  FW 322 [S s] w (B (decide (1<=s.length) && decide (s.length<=4096))):=by
 refine cE Tryz.func322 λr=>go ?_;refine dp (HW rfl rfl) ?_;refine ds1 6 (λz=>?_) λz=>?_
 ·refine go ?_;refine dp (IA rfl rfl) (go ?_);refine⟨?_,r⟩;simp only [Ending.returned.injEq,Value.bool.injEq]
  by_cases h1:1<=s.length<;>by_cases h2:s.length<=4096<;>simp [h1,h2]<;>omega
 refine go ?_;refine⟨?_,r⟩;simp only [Ending.returned.injEq,Value.bool.injEq]
 by_cases h1:1<=s.length<;>by_cases h2:s.length<=4096<;>simp [h1,h2]<;>omega
theorem Yaw (f:Fi)(next:Int)(w:World)(hs:f.fst.length<=140737488355328/\f.lst.length<=140737488355328) :
  FW 283 [f.v,I next] w (B (I4 f next)):=by
 refine cE Tryz.func283 λr=>go ?_;refine Gx rfl rfl rfl RX.all (λb1 w1 e1 Z z=>?_);have g1:=r.ge e1;have r:=r.trans Z;refine go ?_;refine dp (HW rfl rfl) ?_;refine ds1 8 (λH=>?_) λH=>?_
 ·refine ds1 14 (λc2=>?_) λc2=>?_
  ·refine go ?_;refine dp (HW rfl rfl) ?_;refine ds1 19 (λc3=>?_) λc3=>?_
   ·refine go ?_;refine dp (IA rfl rfl) ?_;refine ds1 24 (λc4=>?_) λc4=>?_
    ·refine go ?_;refine dp (HW rfl rfl) ?_;refine ds1 29 (λJ=>?_) λJ=>?_
     ·refine go ?_;refine dp (IA rfl rfl) ?_;refine ds1 34 (λY=>?_) λY=>?_
      ·refine Gp (Wa f.fst _ hs.1) λw2 x2=>Fz x2 z r λz r=>?_;refine go ?_;refine Il 39 rfl (λc7=>?_) (λc7=>?_)
       ·refine Gp (Wa f.lst _ hs.2) λw3 O=>Fz O z r λz r=>?_;refine go ?_;refine Il 44 rfl (λc8=>?_) (λc8=>?_)
        ·refine go ?_;refine dp (Ss rfl rfl) (go ?_);refine⟨?_,r⟩;simp only [Ending.returned.injEq,Value.bool.injEq];simp [I4, *]
        refine go ?_;refine⟨?_,r⟩;simp only [Ending.returned.injEq,Value.bool.injEq];simp [I4, *]
       refine go ?_;refine⟨?_,r⟩;simp only [Ending.returned.injEq,Value.bool.injEq];simp [I4, *]
      refine go ?_;refine⟨?_,r⟩;simp only [Ending.returned.injEq,Value.bool.injEq];simp [I4, *]
     refine go ?_;refine⟨?_,r⟩;simp only [Ending.returned.injEq,Value.bool.injEq];simp [I4, *]
    refine go ?_;refine⟨?_,r⟩;simp only [Ending.returned.injEq,Value.bool.injEq];simp [I4, *]
   refine go ?_;refine⟨?_,r⟩;simp only [Ending.returned.injEq,Value.bool.injEq];simp [I4, *]
  refine go ?_;refine⟨?_,r⟩;simp only [Ending.returned.injEq,Value.bool.injEq];simp [I4, *]
 refine go ?_;refine⟨?_,r⟩;simp only [Ending.returned.injEq,Value.bool.injEq];simp [I4, *]
theorem Wu (f g:Fi)(w:World) :
  FW 281 [f.v,g.v] w (B (Lq f g)):=by
 refine cE Tryz.func281 λr=>go ?_;refine Gx rfl rfl rfl RX.all (λb1 w1 e1 O z=>?_);have g1:=r.ge e1;have r:=r.trans O;refine Gx rfl rfl rfl RX.all (λb2 w2 e2 J m2=>?_);have g2:=r.ge e2;have n2_1:=z.ltb e2;refine Fz J z r λz r=>?_;refine Fk (λH=>?_) λH=>?_
 ·refine go ?_;refine⟨?_,r⟩;simp only [Ending.returned.injEq,Value.bool.injEq];simp [Lq, *]
 refine Fk (λY=>?_) λY=>?_
 ·refine go ?_;refine⟨?_,r⟩;simp only [Ending.returned.injEq,Value.bool.injEq];simp [Lq, *];omega
 refine go ?_;refine dp (LS rfl rfl) (go ?_);refine⟨?_,r⟩;simp only [Ending.returned.injEq,Value.bool.injEq];simp [Lq, *]
variable {f:Fi}{k:Nat}{n:Int}
theorem PS {fs:List Fi}(h:∀i x,i<k->fs[i]?=some x->rAt n fs i x)(hk:fs[k]?=some f)(ha:rAt n fs k f):∀i x,i<k+1->fs[i]?=some x->rAt n fs i x:=λi x hi r=>by
 rcases EB (EC hi)with h9|h9
 ·exact h i x h9 r
 ·subst h9;rw[hk]at r;rw[<-Al.inj r];exact ha
theorem PF (n:Int)(fs:List Fi)(vf:Value)(w:World)(hv:Fs Fi.cs 5 w vf fs)(hl:fs.length<=100000000)(hs:∀f∈fs,f.fst.length<=140737488355328/\f.lst.length<=140737488355328) :
  Gf 222 [.agg ⟨[I n,vf]⟩] w λu _=>∃b,u=B b/\(b=true↔Qy n fs):=by
 refine cE Tryz.func222 λr=>go ?_;refine Gx rfl rfl rfl RX.all (λb1 w1 e1 x1 z=>?_);have g1:=r.ge e1;have r:=r.trans x1;refine ds1 9 (λc1=>?_) λc1=>?_
 ·refine go ?_;refine GD rfl (go ?_);exact⟨_,rfl,r,false,rfl,λe=>(by cases e),λh=>absurd h.1 Fb⟩
 refine ds1 14 (λc2=>?_) λc2=>?_
 ·refine go ?_;refine GD rfl (go ?_);exact⟨_,rfl,r,false,rfl,λe=>(by cases e),λh=>absurd h.1 Fb⟩
 refine FL 62 5 (hv.ext r).sl ?_;refine Fk (λc3=>?_) λc3=>?_
 ·refine go ?_;exact⟨_,rfl,r,false,rfl,λe=>(by cases e),λh=>absurd h.1 Fb⟩
 refine F9 (G:=Nat) (λk=>[(1,Fg b1 0),(3,I ↑k)]) (λk w'=>Fp w w'/\Fo w' b1 [I n,vf] 56/\k<=fs.length/\∀i f,i<k->fs[i]?=some f->rAt n fs i f) (λk=>fs.length-k) 0 ⟨r,z,Ab _,λi f hi=>absurd hi (Bg _)⟩ ?_;rintro _ k w2 ⟨r,z,hk1,hin⟩;refine FL 62 5 (hv.ext r).sl ?_;refine Fk (λc4=>?_) λc4=>?_
 ·obtain⟨f,hk⟩:∃f,fs[k]?=some f:=F8;have hf:=hs f (Ag hk);refine FK 62 5 hv.sl (hv.lt hk) ?_;refine dq (Fy Fe rfl rfl ((hv.ext r).row hk)) (aL [.int .i64 0,.int .i64 0,.int .i64 0,S [],S []] λb2 w3 e2 x3 O=>?_);have g2:=r.ge e2;have n2_1:=z.ltb e2;refine Fz x3 z r λz r=>Gc O (λw4 x4 xs4 O=>?_);have z:=z.mo x4;have r:=r.o1 x4;refine go ?_;refine dq (Fy (k:=5) Fe rfl rfl O.row) (Gp (Yaw f n _ hf) λw5 x5=>FB x5 z O r λz O r=>?_);refine FZ (λc5=>?_) λc5=>?_
  ·refine go ?_;exact⟨_,rfl,r,false,rfl,λe=>(by cases e),λh=>by have:=(h.2 k f hk).1;simp_all⟩
  refine F9 (G:=Nat) (λj=>[(1,Fg b1 0),(3,I ↑k),(4,Fg b2 0),(5,I ↑j)]) (λj w'=>Fp w w'/\Fo w' b1 [I n,vf] 56/\Fo w' b2 f.cs 62/\j<=k/\∀i g,i<j->fs[i]?=some g->g.id≠f.id) (λj=>k-j) 0 ⟨r,z,O,Ab _,λi g hi=>absurd hi (Bg _)⟩ ?_;rintro _ j w6 ⟨r,z,O,hj1,hno⟩;refine Fk (λc6=>?_) λc6=>?_
  ·obtain⟨g,hkj⟩:∃g,fs[j]?=some g:=F8;refine Gn 1010100010 λw7 x7=>FB x7 z O r λz O r=>?_;refine FK 62 5 hv.sl (hv.lt hkj) ?_;refine go ?_;refine dL rfl (λ_ hR=>(((hv.ext (r.trans hR)).row hkj).at rfl)) ?_;refine Fk (λc7=>?_) λc7=>?_
   ·refine go ?_;exact⟨_,rfl,r,false,rfl,λe=>(by cases e),λh=>((h.2 k f hk).2.1 j g Fb hkj c7).elim⟩
   refine go ?_;exact⟨j+1,He,⟨r,z,O,by omega,λi x hi H=>by
    rcases EB (EC hi)with h8|h8
    ·exact hno i x h8 H
    ·subst h8;rw[hkj]at H;rw[<-Al.inj H];exact c7⟩,by omega⟩
  refine Gn 1000010100001000010100001000100021100010000 λw8 x8=>FB x8 z O r λz O r=>?_;refine ds1 53 (λc8=>?_) λc8=>?_
  ·obtain⟨g,hkp⟩:∃g,fs[k-1]?=some g:=F8;refine gn ?_;refine F3 (v:=I ↑(k-1)) rfl (Gz rfl rfl (by unfold Fx;omega)) (by show I _=I _;congr 1;omega) (di 62 5 hv.sl rfl (hv.lt hkp) (Gd rfl (λw' hR=>Fy Fe rfl rfl ((hv.ext (r.trans hR)).row hkp)) (Gd rfl (λw' hR=>Fy (k:=5) Fe rfl rfl (O.ext hR).row) (cP (Wu g f _) RX.ext λw9 x9=>FB x9 z O r λz O r=>go ?_))));refine Il 63 rfl (λc9=>?_) (λc9=>?_)
   ·refine go ?_;refine GD rfl (go ?_);exact⟨_,rfl,r,false,rfl,λe=>(by cases e),λh=>by have:=((h.2 k f hk).2.2 g Fb hkp).1;simp_all⟩
   refine ds1 67 (λha=>?_) λha=>?_
   ·refine gn ?_;refine F3 (v:=I ↑(k-1)) rfl (Gz rfl rfl (by unfold Fx;omega)) (by show I _=I _;congr 1;omega) (di 62 5 hv.sl rfl (hv.lt hkp) (go ?_));refine dL rfl (λ_ hR=>(((hv.ext (r.trans hR)).row hkp).at rfl)) ?_;refine ds1 79 (λZ=>?_) λZ=>?_
    ·refine gn ?_;refine F3 (v:=I ↑(k-1)) rfl (Gz rfl rfl (by unfold Fx;omega)) (by show I _=I _;congr 1;omega) (di 62 5 hv.sl rfl (hv.lt hkp) (go ?_));refine dL rfl (λ_ hR=>(((hv.ext (r.trans hR)).row hkp).at rfl)) (go ?_);refine dp (MX rfl rfl) ?_;refine FZ (λhc=>?_) λhc=>?_
     ·refine go ?_;exact⟨_,rfl,r,false,rfl,λe=>(by cases e),λh=>(((h.2 k f hk).2.2 g Fb hkp).2 ⟨ha,Z,by simpa using hc⟩).elim⟩
     refine go ?_;have J:rAt n fs k f:=⟨by simpa using c5,λi Y hi H=>hno i Y Fb H,λY h0 H=>by
      rw[hkp]at H;rw[<-Al.inj H];exact⟨by simpa using c9,λe=>by have:=e.2.2;simp_all⟩⟩
     exact FJ (k+1) ⟨r,z,by omega,PS hin hk J⟩
    refine go ?_;refine GL rfl (go ?_);have J:rAt n fs k f:=⟨by simpa using c5,λi Y hi H=>hno i Y Fb H,λY h0 H=>by
     rw[hkp]at H;rw[<-Al.inj H];exact⟨by simpa using c9,λe=>Z e.2.1⟩⟩
    exact FJ (k+1) ⟨r,z,by omega,PS hin hk J⟩
   refine go ?_;refine GL rfl (go ?_);have J:rAt n fs k f:=⟨by simpa using c5,λi Y hi H=>hno i Y Fb H,λY h0 H=>by
    rw[hkp]at H;rw[<-Al.inj H];exact⟨by simpa using c9,λe=>ha e.1⟩⟩
   exact FJ (k+1) ⟨r,z,by omega,PS hin hk J⟩
  refine go ?_;refine GL rfl (go ?_);have J:rAt n fs k f:=⟨by simpa using c5,λi Y hi H=>hno i Y Fb H,λY h0 H=>absurd h0 Fb⟩;exact FJ (k+1) ⟨r,z,by omega,PS hin hk J⟩
 refine go ?_;exact⟨_,rfl,r,true,rfl,λ_=>⟨by omega,λi f hi=>hin i f (by have:=(Ap.1 hi).1;omega) hi⟩,λ_=>rfl⟩
variable {frm:Fh}
theorem Xiv {lev:Int}{to:Fh}(h1:f.lev=lev)(h2:(!Op.bytesLess f.lst frm)=true)(h3:(!Op.bytesLess to f.fst)=true):IX lev frm to f=true:=by
 unfold IX;rw[decide_eq_true h1,show F0 f.lst frm=Op.bytesLess f.lst frm from rfl,h2,show F0 to f.fst=Op.bytesLess to f.fst from rfl,h3];rfl
theorem Xiw {lev:Int}{to:Fh}(h1:¬ f.lev=lev):¬ IX lev frm to f=true:=by unfold IX;rw[decide_eq_false h1];simp
theorem Xix {lev:Int}{to:Fh}(h2:(!Op.bytesLess f.lst frm)=false):¬ IX lev frm to f=true:=by unfold IX;rw[show F0 f.lst frm=Op.bytesLess f.lst frm from rfl,h2];simp
theorem Xiy {lev:Int}{to:Fh}(h3:(!Op.bytesLess to f.fst)=false):¬ IX lev frm to f=true:=by unfold IX;rw[show F0 to f.fst=Op.bytesLess to f.fst from rfl,h3];simp
theorem Pv (n:Int)(fs:List Fi)(vf:Value)(lev:Int)(frm to:Fh)(w:World)(hv:Fs Fi.cs 5 w vf fs)(hl:fs.length<=100000) :
  Gf 108 [.agg ⟨[I n,vf]⟩,I lev,S frm,S to] w λu w'=>Vc.Own Fi.cs 5 62 w.heap.size w' u (HF fs lev frm to):=by
 refine cE Tryz.func108 λr=>go ?_;refine Gx rfl rfl rfl RX.all (λb1 w1 e1 x1 m1=>?_);have g1:=r.ge e1;have r:=r.trans x1;refine FL 62 5 (hv.ext r).sl ?_;refine F9 (G:=Nat×Value) (λ(k,vm)=>[(1,I lev),(2,S frm),(3,S to),(8,.slice none 0 0),(9,vm),(13,vf),(14,I ↑fs.length),(15,I ↑k)]) (λ(k,vm) w'=>Fp w w'/\k<=fs.length/\Vc.Own Fi.cs 5 62 w.heap.size w' vm (HF (fs.take k) lev frm to)) (λ(k,vm)=>fs.length-k) (0,.slice none 0 0) ⟨r,Ab _,Vc.Own.nil⟩ ?_;rintro _ ⟨k,vm⟩ w2 ⟨r,hk1,ho⟩;refine Fk (λZ=>?_) λZ=>?_
 ·obtain⟨f,hk⟩:∃f,fs[k]?=some f:=F8;have hlen:=Xko fs k lev frm to;refine go ?_;refine di 62 5 (hv.ext r).sl rfl ((hv.ext r).lt hk) (dq (Fy Fe rfl rfl ((hv.ext r).row hk)) (aL [.int .i64 0,.int .i64 0,.int .i64 0,S [],S []] λb2 w3 e2 x3 H=>?_));have g2:=r.ge e2;have o2_ho:=ho.ltb e2;refine Fz x3 ho r λho r=>Gc H (λw4 O xs4 H=>?_);have ho:=ho.mod O Fw;have r:=r.o1 O;refine ds1 23 (λc2=>?_) λc2=>?_
  ·refine go ?_;refine dp (MX rfl rfl) (go ?_);refine Il 29 rfl (λc3=>?_) (λc3=>?_)
   ·refine go ?_;refine dp (Ss rfl rfl) ?_;refine FZ (λc4=>?_) λc4=>?_
    ·refine go ?_;refine dq (Fy (k:=5) Fe rfl rfl H.row) (lA 62 rfl λb3 w5 Y x5 J=>?_);have g3:=r.ge Y;have o3_ho:=ho.ltb Y;refine Fz x5 ho r λho r=>G1 f ho J λvm2 w6 z x6=>?_;have r:=r.own x6 F4;have ho:=z;clear J;refine go ?_;refine⟨(k+1,_),QL,⟨r,by omega,?_⟩,by simp only [];omega⟩;rw[PU hk];rw[if_pos (Xiv Fb ‹_› ‹_›)];exact ho
    refine go ?_;refine⟨(k+1,_),QL,⟨r,by omega,?_⟩,by simp only [];omega⟩;rw[PU hk];rw[if_neg (Xiy ‹_›)];exact ho
   refine go ?_;refine GL rfl (go ?_);refine⟨(k+1,_),QL,⟨r,by omega,?_⟩,by simp only [];omega⟩;rw[PU hk];rw[if_neg (Xix ‹_›)];exact ho
  refine go ?_;refine GL rfl (go ?_);refine⟨(k+1,_),QL,⟨r,by omega,?_⟩,by simp only [];omega⟩;rw[PU hk];rw[if_neg (Xiw Fb)];exact ho
 refine go ?_;exact⟨_,rfl,r,by rw[Ar Fb]at ho;exact ho⟩
def LC {α:Type}(l cur:List α)(k:Nat):Prop:=cur.length=l.length/\∀i,i<l.length->cur[i]?=if i<k\/l.length-1-k<i then l[l.length-1-i]? else l[i]?
variable {α:Type}
theorem Yax (l:List α):LC l l 0:=⟨rfl,λi hi=>by rw[if_neg Fb]⟩
variable {cur l:List α}
theorem Xxx {a b:α}(h:LC l cur k)(hk:2*k+1<l.length)(ha:cur[k]?=some a)(hb:cur[l.length-1-k]?=some b):LC l ((cur.set k b).set (l.length-1-k) a) (k+1):=by
 refine⟨by rw[A9,A9];exact h.1,λi hi=>?_⟩;have h1:=h.2 k Fb;have h2:=h.2 (l.length-1-k) Fb;rw[ha,if_neg Fb]at h1;rw[hb,if_neg Fb]at h2;rw[CI]
 by_cases e:l.length-1-k=i
 ·rw[if_pos e,if_pos (by rw[A9,h.1];omega),if_pos Fb,h1];congr 1;omega
 ·rw[if_neg e,CI]
  by_cases e2:k=i
  ·rw[if_pos e2,if_pos (by rw[h.1];omega),if_pos Fb,h2];congr 1;omega
  ·rw[if_neg e2,h.2 i hi]
   by_cases e3:i<k\/l.length-1-k<i
   ·rw[if_pos e3,if_pos Fb]
   ·rw[if_neg e3,if_neg Fb]
theorem X16 (h:LC l cur k)(hk:l.length<=2*k+1)(hk2:2*k<=l.length):cur=l.reverse:=by
 apply BB
 intro i
 by_cases hi:i<l.length
 ·rw[h.2 i hi,List.getElem?_reverse hi];split
  ·rfl
  ·congr 1;omega
 ·rw[Bh (by rw[h.1];omega),Bh (by simp;omega)]
def NN (fs:List Fi)(key:Fh):Nat->List Fi
 | 0=>(HF fs 0 key key).reverse
 | n+1=>NN fs key n++HF fs (↑(n+1)) key key
theorem Wi (fs:List Fi)(key:Fh):NN fs key 4=Jo fs key:=rfl
theorem Xf (fs:List Fi)(key:Fh)(n:Nat):(NN fs key n).length<=(n+1)*fs.length:=by
 induction n with
 | zero=>unfold NN;rw[List.length_reverse];have:=NV fs 0 key key;omega
 | succ n ih=>
  unfold NN;rw[Ad,Bd];have:=NV fs (↑(n+1)) key key;omega
theorem Ycx (l:List Fi)(v:Value)(Bo:Nat)(w:World)(ho:Vc.Own Fi.cs 5 62 Bo w v l)(hl:l.length<=100000) :
  Gy 184 [v] w (λk=>v.ownBlock=some k) λu w'=>u=.tuple #[]/\Vc.Own Fi.cs 5 62 Bo w' v l.reverse:=by
 refine cM Tryz.func184 (λk=>v.ownBlock=some k) λz=>go ?_;refine dv 62 5 (ho.arr Ff).sl (F3 (v:=I (↑l.length-1-↑(0:Nat))) rfl (Gz rfl rfl (by unfold Fx;omega)) (by show I _=I _;congr 1;omega) (F9 (G:=Nat×List Fi) (λ(k,cur)=>[(0,v),(2,I ↑k),(3,I (↑l.length-1-↑k))]) (λ(k,cur) w'=>Mod (λk=>v.ownBlock=some k) w w'/\2*k<=l.length/\LC l cur k/\Vc.Own Fi.cs 5 62 Bo w' v cur) (λ(k,cur)=>l.length-k) (0,l) ⟨z,Ab _,Yax l,ho⟩ ?_));rintro _ ⟨k,cur⟩ w1 ⟨z,hk2,hr,ho⟩;refine Fk (λJ=>?_) λJ=>?_
 ·have hcl:=hr.1;obtain⟨a,ha⟩:∃a,cur[k]?=some a:=F8;obtain⟨b,hb⟩:∃b,cur[l.length-1-k]?=some b:=F8;obtain⟨cs9,cap9,H,_⟩:=ho.cells (λe=>by rw[e]at ha;simp at ha);refine Gn 15050100010000000 λw2 Z=>Fz Z ho z λho z=>?_
  iterate 3 refine dm ?_
  refine F3 (v:=I ↑(l.length-1-k)) rfl (Lr rfl) (by show I _=I _;congr 1;omega) (dm ?_);refine F3 (v:=I ↑(l.length-1-k)) rfl (Lr rfl) (by show I _=I _;congr 1;omega) (di 62 5 (ho.arr Ff).sl rfl ((ho.arr Ff).lt hb) (Gd rfl (λw' hR=>Fy Fe rfl rfl (((ho.arr Ff).ext hR).row hb)) (go ?_)));refine di 62 5 (ho.arr Ff).sl rfl ((ho.arr Ff).lt ha) (Gd rfl (λw' hR=>Fy Fe rfl rfl (((ho.arr Ff).ext hR).row ha)) (F3 (v:=Fg (base v).1 (k*5+0)) rfl (Ii (e:=62) (k:=5) Fe ho.sl rfl rfl (by omega)) (by rw[H];show Fg _ (0+_)=_;rw[A0];rfl) ?_));refine HO (enc:=Fi.cs) (sz:=5) (i:=k) (j:=0) (x:=b) (vs:=b.cs) Ff rfl ho rfl rfl rfl Fe (by omega) rfl (Aa 5) (by intro v hv;simp at hv;rcases hv with rfl|rfl|rfl|rfl|rfl<;>rfl) (.inl rfl) (λw3 O xs3 r=>?_);have z:=z.own O F4;have ho:=r;refine F3 (v:=Fg (base v).1 ((l.length-1-k)*5+0)) rfl (Ii (e:=62) (k:=5) Fe ho.sl rfl rfl (by rw[A9];omega)) (by rw[H];show Fg _ (0+_)=_;rw[A0];rfl) ?_;refine HO (enc:=Fi.cs) (sz:=5) (i:=(l.length-1-k)) (j:=0) (x:=a) (vs:=a.cs) Ff rfl ho rfl rfl rfl Fe (by rw[A9];omega) rfl (Aa 5) (by intro v hv;simp at hv;rcases hv with rfl|rfl|rfl|rfl|rfl<;>rfl) (.inl rfl) (λw4 Y xs4 r=>?_);have z:=z.own Y F4;have ho:=r;refine gn ?_;refine pa rfl rfl (gn ?_);refine F3 (v:=I (↑l.length-1-↑(k+1))) rfl (Gz rfl rfl (by unfold Fx;omega)) (by show I _=I _;congr 1;omega) (go ?_);exact⟨(k+1,_),Kv,⟨z,by omega,Xxx hr Fb ha hb,ho⟩,by simp only [];omega⟩
 refine go ?_;refine HV (Hx rfl ?_);rw[X16 hr Fb Fb]at ho;exact⟨_,rfl,z,rfl,ho⟩
theorem X7p (n:Int)(fs:List Fi)(vf:Value)(key:Fh)(w:World)(hv:Fs Fi.cs 5 w vf fs)(hl:fs.length<=100000) :
  Gf 113 [.agg ⟨[I n,vf]⟩,S key] w λu w'=>Vc.Own Fi.cs 5 62 w.heap.size w' u (Jo fs key):=by
 refine cE Tryz.func113 λr=>go ?_;refine Gx rfl rfl rfl RX.all (λb1 w1 e1 x1 z=>?_);have g1:=r.ge e1;have r:=r.trans x1;refine go ?_;refine dq (Fy (k:=2) Fe rfl rfl z.row) (Ge (Pv n fs vf 0 key key _ (hv.ext r) hl) λJ w2 x2 ha=>?_);have O:=r.size;refine Fz x2 z r λz r=>?_;have ho:=ha.mono O;refine Gw (Ycx (HF fs 0 key key) J w.heap.size _ ho (by have:=NV fs 0 key key;omega)) λu3 w3 x3 Z=>?_;have hsz3:=r.size;have z:=z.mod x3 Fw;have r:=r.own x3 F4;obtain⟨rfl,ho⟩:=Z;refine F9 (G:=Nat×Value) (λ(k,vl)=>[(1,S key),(2,Fg b1 0),(4,.slice none 0 0),(5,vl),(6,I ↑(k+1))]) (λ(k,vl) w'=>Fp w w'/\Fo w' b1 [I n,vf] 56/\k<=4/\Vc.Own Fi.cs 5 62 w.heap.size w' vl (NN fs key k)) (λ(k,vl)=>4-k) (0,J) ⟨r,z,Ab _,ho⟩ ?_;rintro _ ⟨k,vl⟩ w4 ⟨r,z,hk1,ho⟩;refine go ?_;refine dp (IA rfl rfl) ?_;refine Fk (λc1=>?_) λc1=>?_
 ·refine go ?_;refine dq (Fy (k:=2) Fe rfl rfl z.row) (Ge (Pv n fs vf ↑(k+1) key key _ (hv.ext r) hl) λvo w5 x5 hf=>?_);have hsz5:=r.size;refine FB x5 z ho r λz ho r=>?_;refine LY (lx:=(HF fs ↑(k+1) key key)) (e:=62) (sz:=5) (by':=56) rfl Fe Fe Ff ho ((hf.arr Ff)) rfl rfl (by intro x _ u hu;simp at hu;rcases hu with rfl|rfl|rfl|rfl|rfl<;>rfl) (by have h1:=Xf fs key k;have h2:=NV fs ↑(k+1) key key;have h3:(k+1)*fs.length<=5*fs.length:=AW _ Fb;omega) Fj r.size (.inl rfl) (λhc w6 Y x6 hwh6=>?_);have H:=z.mod x6 (λe=>ho.ne_blk z rfl e);have z:=z.mod x6 Fw;have r:=r.own x6 F4;have ho:=Y;have z:=H;clear H;refine gn ?_;refine F3 (v:=I ↑(k+1+1)) rfl (GJ rfl rfl (by unfold Fx;omega)) (by show I _=I _;congr 1) (go ?_);exact FJ (k+1,hc) ⟨r,z,by omega,ho⟩
 refine go ?_;rw[show k=4 by omega,Wi]at ho;exact⟨_,rfl,r,ho⟩
def NX (ids:List Int):Int->Option Bool:=λx=>if x∈ids then some true else none
theorem TE (ids:List Int)(x:Int):putF (NX ids) x true=NX (ids++[x]):=by
 funext y
 unfold putF NX
 by_cases e:y=x
 ·simp [e]
 ·simp [e]
theorem T0 (ids:List Int)(x:Int):(NX ids x).getD false=decide (x∈ids):=by
 unfold NX;split<;>simp_all
theorem Ps : MapK Tryz.prog 258 3 4 Vc.I B Fx:=mapI Fe Fe U4
theorem Xl {l:List Fi}(h:KB l=true){a b:Fi}(ha:l[k]?=some a)(hb:l[k+1]?=some b):IU a b=true:=by
 induction l generalizing k with
 | nil=>cases ha
 | cons x r ih=>
  cases r with
  | nil=>simp at hb
  | cons y r=>
   unfold KB at h;rw[Aq]at h
   cases k with
   | zero=>simp at ha hb;subst ha hb;exact h.1
   | succ k=>exact ih h.2 (by simpa using ha) (by simpa using hb)
theorem X7q {l:List Fi}(h:∀(k:Nat) (a b:Fi),l[k]?=some a->l[k+1]?=some b->IU a b=true):KB l=true:=by
 induction l with
 | nil=>rfl
 | cons x r ih=>
  cases r with
  | nil=>rfl
  | cons y r=>
   unfold KB;rw[h 0 x y rfl rfl,C1];exact ih (λk a b z hb=>h (k+1) a b (by simpa using z) (by simpa using hb))
section
variable {n:Int}{fs:List Fi}{k:Nat}{f:Fi}
theorem SO (h:n<1\/1099511627776<n\/1024<fs.length):Hw ⟨n,fs⟩=false:=by
 unfold Hw;simp only [CN,decide_eq_false_iff_not];rcases h with h|h|h<;>simp [*]<;>omega
theorem Mz (hk:fs[k]?=some f)(h:I9 n f=false):Hw ⟨n,fs⟩=false:=by
 have:(fs.all (I9 n))=false:=by
  rw[<-Cb,AO];intro h2;have:=h2 f (Ag hk);rw[h]at this;cases this
 unfold Hw;simp [this]
theorem NJ (h:f.id<1\/n<=f.id\/f.lev<0\/4<f.lev\/f.size<1\/1048576<f.size):I9 n f=false:=by
 rw[<-Cb];intro h2;unfold I9 at h2;simp only [Aq,decide_eq_true_eq]at h2;omega
theorem Ycy (h:LR f.fst=false):I9 n f=false:=by unfold I9;simp [h]
theorem Ycz (h:LR f.lst=false):I9 n f=false:=by unfold I9;simp [h]
theorem Yc0 (h:Op.bytesLess f.lst f.fst=true):I9 n f=false:=by unfold I9;rw[show F0 f.lst f.fst=Op.bytesLess f.lst f.fst from rfl,h];simp
theorem Yay (hk:fs[k]?=some f)(h:f.id∈(fs.take k).map (·.id)):Hw ⟨n,fs⟩=false:=by
 have:¬ (fs.map (·.id)).Nodup:=by
  intro hn;have e:fs.map (·.id)=(fs.take k).map (·.id)++(fs.drop k).map (·.id):=by rw[<-A6,AS]
  rw[e]at hn;refine(BM.1 hn).2.2 _ h f.id ?_ rfl;rw[IW hk];simp
 unfold Hw;simp [this]
theorem Yc1 {x:Fi}(hk:fs[k]?=some f)(h0:0<k)(hx:fs[k-1]?=some x)(h:IU x f=false):Hw ⟨n,fs⟩=false:=by
 have:KB fs=false:=by
  rw[<-Cb];intro h2;have:=Xl h2 hx (by rw[show k-1+1=k by omega];exact hk);rw[h]at this;cases this
 unfold Hw;simp [this]
theorem Wx (h1:¬ n<1)(h2:¬ 1099511627776<n)(h3:¬ 1024<fs.length)(h4:fs.all (I9 n)=true)(h5:(fs.map (·.id)).Nodup)(h6:KB fs=true):Hw ⟨n,fs⟩=true:=by
 unfold Hw;simp only [Aq,decide_eq_true_eq];exact⟨⟨⟨⟨⟨by omega,by omega⟩,by omega⟩,h4⟩,h5⟩,h6⟩
theorem YL (h:KB (fs.take k)=true)(hk:fs[k]?=some f)(h2:k=0\/∃x,fs[k-1]?=some x/\IU x f=true):KB (fs.take (k+1))=true:=by
 refine X7q λi a b r hb=>?_;rw[Ba]at r hb;split at hb
 ·rw[if_pos Fb]at r
  by_cases e:i+1<k
  ·exact Xl h (k:=i) (by rw[Ba,if_pos Fb];exact r) (by rw[Ba,if_pos e];exact hb)
  ·have e1:i+1=k:=by omega
   rw[e1,hk]at hb
   cases hb
   rcases h2 with h2|⟨x,hx,h3⟩
   ·omega
   ·rw[show k-1=i by omega,r]at hx
    cases hx;exact h3
 ·cases hb
theorem Xk (h1:¬ f.id<1)(h2:¬ n<=f.id)(h3:¬ f.lev<0)(h4:¬ 4<f.lev)(h5:¬ f.size<1)(h6:¬ 1048576<f.size)(h7:LR f.fst=true)(h8:LR f.lst=true)(h9:Op.bytesLess f.lst f.fst=false):I9 n f=true:=by
 unfold I9;rw[show F0 f.lst f.fst=Op.bytesLess f.lst f.fst from rfl,h7,h8,h9];simp;omega
end
theorem Qp (n:Int)(fs:List Fi)(vf:Value)(w:World)(hv:Fs Fi.cs 5 w vf fs)(hl:fs.length<=100000)(hid:∀f∈fs,Fx f.id) :
  FW 103 [.agg ⟨[I n,vf]⟩] w (B (Hw ⟨n,fs⟩)):=by
 refine cE Tryz.func103 λr=>go ?_;refine Gx rfl rfl rfl RX.all (λb1 w1 e1 x1 H=>?_);have g1:=r.ge e1;have r:=r.trans x1;refine ds1 9 (λc1=>?_) λc1=>?_
 ·refine go ?_;refine GD rfl (go ?_);refine⟨?_,r⟩;rw[SO Fb]
 refine ds1 14 (λc2=>?_) λc2=>?_
 ·refine go ?_;refine GD rfl (go ?_);refine⟨?_,r⟩;rw[SO Fb]
 refine FL 62 5 (hv.ext r).sl ?_;refine Fk (λc3=>?_) λc3=>?_
 ·refine go ?_;refine⟨?_,r⟩;rw[SO Fb]
 refine go ?_;refine Qz Ps rfl RX.all (λb2 w2 e2 x2 z=>?_);have g2:=r.ge e2;have n2_1:=H.ltb e2;refine Fz x2 H r λH r=>FL 62 5 (hv.ext r).sl ?_;refine F9 (G:=Nat) (λk=>[(1,Fg b1 0),(3,.map (some b2)),(22,vf),(23,I ↑fs.length),(24,I ↑k)]) (λk w'=>Fp w w'/\Fo w' b1 [I n,vf] 56/\k<=fs.length/\((fs.take k).all (I9 n))=true/\((fs.take k).map (·.id)).Nodup/\KB (fs.take k)=true/\Vc.Xbf Tryz.prog 3 Vc.I B w' b2 k (NX ((fs.take k).map (·.id)))) (λk=>fs.length-k) 0 ⟨r,H,Ab _,rfl,Cj,rfl,z⟩ ?_;rintro _ k w3 ⟨r,H,hk1,hA,hN,hO,z⟩;refine Fk (λc4=>?_) λc4=>?_
 ·obtain⟨f,hk⟩:∃f,fs[k]?=some f:=F8;refine go ?_;refine di 62 5 (hv.ext r).sl rfl ((hv.ext r).lt hk) (dq (Fy Fe rfl rfl ((hv.ext r).row hk)) (aL [.int .i64 0,.int .i64 0,.int .i64 0,S [],S []] λb3 w4 e3 x4 O=>?_));have g3:=r.ge e3;have n3_1:=H.ltb e3;have n3_mp2:=z.lt;refine FB x4 H z r λH z r=>go ?_;refine Gc O (λw5 x5 xs5 O=>?_);have H:=H.mo x5;have z:=z.mod x5 Fw;have r:=r.o1 x5;refine ds1 32 (λc5=>?_) λc5=>?_
  ·refine go ?_;refine GD rfl (go ?_);refine⟨?_,r⟩;rw[Mz hk (NJ Fb)]
  refine go ?_;refine dp (HW rfl rfl) ?_;refine ds1 39 (λc6=>?_) λc6=>?_
  ·refine go ?_;refine GD rfl (go ?_);refine⟨?_,r⟩;rw[Mz hk (NJ Fb)]
  refine go ?_;refine dq (Mq Ps (kx:=f.id) (z0:=false) rfl rfl Fe z (hid f (Ag hk))) (go ?_);refine Il 45 rfl (λc7=>?_) (λc7=>?_)
  ·refine go ?_;refine GD rfl (go ?_);refine⟨?_,r⟩;rw[T0]at c7;rw[Yay hk (of_decide_eq_true c7)]
  refine ds1 50 (λc8=>?_) λc8=>?_
  ·refine go ?_;refine GD rfl (go ?_);refine⟨?_,r⟩;rw[Mz hk (NJ Fb)]
  refine ds1 55 (λc9=>?_) λc9=>?_
  ·refine go ?_;refine GD rfl (go ?_);refine⟨?_,r⟩;rw[Mz hk (NJ Fb)]
  refine ds1 60 (λhg=>?_) λhg=>?_
  ·refine go ?_;refine GD rfl (go ?_);refine⟨?_,r⟩;rw[Mz hk (NJ Fb)]
  refine Fk (λhf=>?_) λhf=>?_
  ·refine go ?_;refine⟨?_,r⟩;rw[Mz hk (NJ Fb)]
  refine Gn 100021100010000000101000021000510 λw6 x6=>FP x6 H z O r λH z O r=>?_;refine Gp (TN f.fst _) λw7 x7=>FP x7 H z O r λH z O r=>?_;refine go ?_;refine Il 69 rfl (λZ=>?_) (λZ=>?_)
  ·refine go ?_;refine GD rfl (go ?_);refine⟨?_,r⟩;rw[Mz hk (Ycy (by simpa using Z))]
  refine go ?_;refine cP (TN f.lst _) RX.ext λw8 x8=>FP x8 H z O r λH z O r=>go ?_;refine Il 75 rfl (λY=>?_) (λY=>?_)
  ·refine go ?_;refine GD rfl (go ?_);refine⟨?_,r⟩;rw[Mz hk (Ycz (by simpa using Y))]
  refine go ?_;refine dp (Yb rfl rfl) (go ?_);refine Il 82 rfl (λhc=>?_) (λhc=>?_)
  ·refine go ?_;refine GD rfl (go ?_);refine⟨?_,r⟩;rw[Mz hk (Yc0 hc)]
  refine ds1 85 (λhq=>?_) λhq=>?_
  ·obtain⟨x,hk0⟩:∃x,fs[k-1]?=some x:=F8;refine gn ?_;refine F3 (v:=I ↑(k-1)) rfl (Gz rfl rfl (by unfold Fx;omega)) (by show I _=I _;congr 1;omega) (di 62 5 (hv.ext r).sl rfl ((hv.ext r).lt hk0) (Gd rfl (λw' hR=>Fy Fe rfl rfl (((hv.ext r).ext hR).row hk0)) (Gd rfl (λw' hR=>Fy (k:=5) Fe rfl rfl (O.ext hR).row) (cP (Yau x f _) RX.ext λw9 x9=>FP x9 H z O r λH z O r=>?_))));refine FZ (λhh=>?_) λhh=>?_
   ·refine go ?_;refine⟨?_,r⟩;rw[Yc1 hk Fb hk0 (by simpa using hh)]
   refine go ?_;refine OM Ps (kx:=f.id) (a:=true) rfl rfl rfl rfl z (hid f (Ag hk)) (by unfold maxLen;omega) (.inl rfl) (λw10 hj xs10 J=>?_);have H:=H.mod hj Fw;have O:=O.mod hj Fw;have r:=r.own hj F4;have z:=J;refine go ?_;refine FJ (k+1) ⟨r,H,by omega,?_,?_,?_,?_⟩
   ·rw[GQ hk,CK,hA,CX,Ds,Xk c5 Fb c8 c9 hg hf (by simpa using Z) (by simpa using Y) hc];rfl
   ·rw[GQ hk,A6];exact BM.2 ⟨hN,by simp,λa ha b hb e=>by
     rw[T0]at c7;have e9:=of_decide_eq_false c7;rw[Am,Bf,Af]at hb;rw[e,hb]at ha;exact e9 ha⟩
   ·exact YL hO hk (.inr ⟨x,hk0,by simpa using hh⟩)
   ·rw[TE,show(AL k fs).map (λx=>x.id)++[f.id]=(AL (k+1) fs).map (λx=>x.id) by rw[GQ hk];simp]at z;exact z
  refine go ?_;refine GL rfl (go ?_);refine OM Ps (kx:=f.id) (a:=true) rfl rfl rfl rfl z (hid f (Ag hk)) (by unfold maxLen;omega) (.inl rfl) (λw11 hp xs11 J=>?_);have H:=H.mod hp Fw;have r:=r.own hp F4;have z:=J;refine go ?_;refine FJ (k+1) ⟨r,H,by omega,?_,?_,?_,?_⟩
  ·rw[GQ hk,CK,hA,CX,Ds,Xk c5 Fb c8 c9 hg hf (by simpa using Z) (by simpa using Y) hc];rfl
  ·rw[GQ hk,A6];exact BM.2 ⟨hN,by simp,λa ha b hb e=>by
    rw[T0]at c7;have e9:=of_decide_eq_false c7;rw[Am,Bf,Af]at hb;rw[e,hb]at ha;exact e9 ha⟩
  ·exact YL hO hk (.inl Fb)
  ·rw[TE,show(AL k fs).map (λx=>x.id)++[f.id]=(AL (k+1) fs).map (λx=>x.id) by rw[GQ hk];simp]at z;exact z
 refine go ?_;refine⟨?_,r⟩;rw[Ar Fb]at hA hN hO;rw[Wx Fb Fb Fb hA hN hO]
def I7 (f:Fi):Fh:=(F6 f.id.toNat++(F6 f.lev.toNat++F6 f.size.toNat))++(FA f.fst++FA f.lst)
def Ig (v:Vs):Fh:=(F6 v.next.toNat++F6 v.fs.length)++v.fs.flatMap I7
theorem QR (h0:0<=n)(h:n<=4611686018427387904):G4 n=F6 n.toNat:=by
 unfold G4
 congr 1
 unfold HC;omega
variable {A:Fh}
theorem Yc2 (h0:0<=n)(h:n<=4611686018427387904)(hk:k<=4611686018427387904):A++[n,(k:Int)].flatMap G4=A++(F6 n.toNat++F6 k):=by
 simp only [AF,Ci,AH,QR h0 h,QO hk]
theorem Yc3 {a b c:Int}(ha:0<=a)(ha2:a<=4611686018427387904)(hb:0<=b)(hb2:b<=4611686018427387904)(hc:0<=c)(hc2:c<=4611686018427387904):A++[a,b,c].flatMap G4=A++(F6 a.toNat++(F6 b.toNat++F6 c.toNat)):=by
 simp only [AF,Ci,AH,QR ha ha2,QR hb hb2,QR hc hc2]
theorem row2 {p q:Fh}{v u:Value}: A++List.flatMap FA (List.map (λq:Value×Fh=>q.2) [(v,p),(u,q)])=A++(FA p++FA q):=by simp
variable {w:World}
theorem X7s {v u:Value}{p q:Fh}{b:Nat}(h:Fo w b [v,u] 82):Fs (λq:Value×Fh=>[q.1]) 1 w (.slice (some ⟨b,0,none⟩) 2 2) [(v,p),(u,q)]:=h.arr (enc:=λq:Value×Fh=>[q.1]) (sz:=1) (l:=[(v,p),(u,q)]) rfl Ff rfl F5
theorem JG {v:Vs}(h:Hw v=true):1<=v.next/\v.next<=1099511627776/\v.fs.length<=1024/\(∀f∈v.fs,I9 v.next f=true)/\(v.fs.map (·.id)).Nodup/\KB v.fs=true:=by
 unfold Hw at h;simp only [Aq,decide_eq_true_eq,AO]at h;exact⟨h.1.1.1.1.1,h.1.1.1.1.2,h.1.1.1.2,h.1.1.2,h.1.2,h.2⟩
theorem ME (h:I9 n f=true):1<=f.id/\f.id<n/\0<=f.lev/\f.lev<=4/\1<=f.size/\f.size<=1048576/\f.fst.length<=4096/\f.lst.length<=4096:=by
 unfold I9 LR at h;simp only [Aq,decide_eq_true_eq]at h;omega
theorem X18 (h:I9 n f=true):(I7 f).length<=8300:=by
 have:=ME h;unfold I7 FA;have h1:=Gq f.id.toNat;have h2:=Gq f.lev.toNat;have h3:=Gq f.size.toNat;have h4:=Gq f.fst.length;have h5:=Gq f.lst.length;simp only [Ad];omega
theorem W8 {fs:List Fi}(h:∀f∈fs,I9 n f=true)(k:Nat):((fs.take k).flatMap I7).length<=8300*fs.length:=by
 induction fs generalizing k with
 | nil=>simp
 | cons f r ih=>
  cases k with
  | zero=>simp
  | succ k=>
   have h1:=ih (λf z=>h f (Ao _ z)) k;have h2:=X18 (h f Ai);rw[C0,AF,Ad,AA];omega
theorem X19 (n:Int)(fs:List Fi)(vf:Value)(w:World)(hv:Fs Fi.cs 5 w vf fs)(hl:fs.length<=100000)(hid:∀f∈fs,Fx f.id) :
  Gf 92 [.agg ⟨[I n,vf]⟩] w λu w'=>∃vb,u=.tuple #[vb,I (if Hw ⟨n,fs⟩=true then 0 else 1)]/\Vc.Own Fq 1 5 w.heap.size w' vb (if Hw ⟨n,fs⟩=true then Ig ⟨n,fs⟩else[]):=by
 refine cE Tryz.func92 λz=>go ?_;refine Gx rfl rfl rfl RX.all (λb1 w1 e1 x1 Z=>?_);have g1:=z.ge e1;have z:=z.trans x1;refine go ?_;refine dq (Fy (k:=2) Fe rfl rfl Z.row) (cP (Qp n fs vf _ (hv.ext z) hl hid) RX.all λw2 x2=>Fz x2 Z z λZ z=>?_);refine FZ (λc1=>?_) λc1=>?_
 ·refine go ?_;have hE:Hw ⟨n,fs⟩=false:=by simpa using c1
  rw[hE];exact⟨_,rfl,z,_,rfl,Vc.Own.nil⟩
 have hE:Hw ⟨n,fs⟩=true:=by simpa using c1
 obtain⟨xi,xh,xc,hh,_,_⟩:=JG hE;simp only at xi xh xc hh;refine go ?_;refine aL [.slice none 0 0] λb2 w3 e2 x3 m2=>?_;have g2:=z.ge e2;have n2_1:=Z.ltb e2;refine Fz x3 Z z λZ z=>FL 62 5 (hv.ext z).sl ?_;refine li (e:=3) (sz:=1) (zs:=[.int .i64 0]) (pv:=[(0,_),(1,_)]) (cs:=[_,_]) RX.all (λb3 w4 e3 x4 m3=>?_);have g3:=z.ge e3;have n3_1:=Z.ltb e3;have n3_2:=m2.ltb e3;refine FB x4 Z m2 z λZ m2 z=>?_;have r:Wr w.heap.size b2 (.slice none 0 0) [] w4:=⟨m2,Vc.Own.nil⟩;refine cD (KT w.heap.size b2 (.slice none 0 0) _ [n,↑fs.length] (.slice (some ⟨b3,0,none⟩) 2 2) _ r (Ae (Aa 0:([]:Fh).length<=0) Fb) z.size (m3.arr (enc:=Vc.encI) (sz:=1) (l:=[n,↑fs.length]) rfl Ff rfl F5) F5 (λk9 J _ hr=>by have hp:b3=k9:=hr;subst hp;exact(J.elim (λh=>by omega) (λh=>by cases h)))) (.inl rfl) λu5 w5 x5 xd=>?_;have hsz5:=z.size;have Z:=Z.mod x5 (λJ=>J.elim (λh=>by have h2:b1=b2:=h;omega) (λh=>by cases h));have z:=z.own x5 (λi hi=>r.ge g2 hi);obtain⟨rfl,v1,r,h7⟩:=xd;rw[Yc2 Fb Fb Fb,AB]at r;have hln16:=trivial;refine FL 62 5 (hv.ext z).sl ?_;refine F9 (G:=Nat×Value) (λ(k,vc)=>[(2,.slice none 0 0),(3,I 0),(4,Fg b2 0),(18,vf),(19,I ↑fs.length),(20,I ↑k)]) (λ(k,vc) w'=>Fp w w'/\k<=fs.length/\Wr w.heap.size b2 vc ((F6 n.toNat++F6 fs.length)++(fs.take k).flatMap I7) w') (λ(k,vc)=>fs.length-k) (0,v1) ⟨z,Ab _,by simpa using r⟩ ?_;rintro _ ⟨k,vc⟩ w6 ⟨z,hk1,r⟩;refine Fk (λc2=>?_) λc2=>?_
 ·obtain⟨f,hk⟩:∃f,fs[k]?=some f:=F8;have hof:=ME (hh f (Ag hk));have xk:=W8 hh k;have xb:=Gq n.toNat;have xa:=Gq fs.length;have hj:((F6 n.toNat++F6 fs.length)++(fs.take k).flatMap I7).length<=9000000:=by rw[Ad,Ad];omega
  refine go ?_;refine di 62 5 (hv.ext z).sl rfl ((hv.ext z).lt hk) (dq (Fy Fe rfl rfl ((hv.ext z).row hk)) (aL [.int .i64 0,.int .i64 0,.int .i64 0,S [],S []] λb4 w7 e4 x7 H=>?_));have g4:=z.ge e4;have O:=r.lt;refine Fz x7 r z λr z=>Gc H (λw8 x8 xs8 H=>?_);have r:=r.mod x8 (λk9 J h=>by have h2:k9=b4:=h;subst h2;exact A4 _ (AD (O _ J) e4.symm));have z:=z.o1 x8;refine go ?_;refine li (e:=3) (sz:=1) (zs:=[.int .i64 0]) (pv:=[(0,_),(1,_),(2,_)]) (cs:=[_,_,_]) RX.all (λb5 w9 e5 x9 m5=>?_);have g5:=z.ge e5;have n5_4:=H.ltb e5;have hg:=r.lt;refine FB x9 r H z λr H z=>?_;have xl:¬ HR b2 vc b4:=λJ=>(A4 b4 (AD (O _ J) e4.symm));have ht:=H.lt;refine cD (KT w.heap.size b2 vc _ [f.id,f.lev,f.size] (.slice (some ⟨b5,0,none⟩) 3 3) _ r (Ae hj Fb) z.size (m5.arr (enc:=Vc.encI) (sz:=1) (l:=[f.id,f.lev,f.size]) rfl Ff rfl F5) F5 (λk9 J _ hr=>by have hp:b5=k9:=hr;subst hp;exact(A4 b5 (AD (hg _ J) e5.symm)))) (.inl rfl) λu10 w10 h5 hz=>?_;have hsz10:=z.size;have H:=H.mod h5 xl;have z:=z.own h5 (λi hi=>r.ge g2 hi);obtain⟨rfl,v2,r,h7⟩:=hz;rw[Yc3 Fb Fb Fb Fb Fb Fb]at r;have hln31:=trivial;have hy:((F6 n.toNat++F6 fs.length)++(fs.take k).flatMap I7).length<=9000000:=hj;have hq1:=Gq f.id.toNat;have hq2:=Gq f.lev.toNat;have hq3:=Gq f.size.toNat;have hln3:(((F6 n.toNat++F6 fs.length)++(fs.take k).flatMap I7)++(F6 f.id.toNat++(F6 f.lev.toNat++F6 f.size.toNat))).length<=9000100:=by simp only [Ad]at hy ⊢;omega
  refine gw ?_;refine JM [.p,.l,.x,.p,.l,.x,.x,.x] rfl (go ?_);refine KC (e:=5) rfl Fe Fe Fe rfl RX.all (λb6 h6 w11 e6 xf Y=>?_);have g6:=z.ge e6;have n6_4:=H.ltb e6;have hf:=r.lt;refine FB xf H r z λH r z=>go ?_;refine KC (e:=5) rfl Fe Fe Fe rfl RX.all (λb7 h8 w12 e7 xg hq=>?_);have g7:=z.ge e7;have n7_4:=H.ltb e7;have ha:=r.lt;refine FP xg H r Y z λH r Y z=>li (e:=82) (sz:=1) (zs:=[.slice none 0 0]) (pv:=[(0,_),(1,_)]) (cs:=[_,_]) RX.all (λb8 w13 e8 xe m8=>?_);have g8:=z.ge e8;have n8_4:=H.ltb e8;have hc:=r.lt;refine FV xe H r Y hq z λH r Y hq z=>?_;have ht:=H.lt;refine cD (Mb w.heap.size b2 v2 _ [(.slice (some ⟨b6,0,none⟩) f.fst.length h6,f.fst),(.slice (some ⟨b7,0,none⟩) f.lst.length h8,f.lst)] (.slice (some ⟨b8,0,none⟩) 2 2) _ r Fb z.size (X7s m8) (O2 (P:=λq:Value×Fh=>Fs Fq 1 _ q.1 q.2) Y hq) (O2 (P:=λq:Value×Fh=>q.2.length<=1000000) (show f.fst.length<=1000000 by omega) (show f.lst.length<=1000000 by omega)) F5 (λ_ J=>(A4 b8 (AD (hc _ J) e8.symm))) (O2 (P:=λq:Value×Fh=>q.2≠[]->¬ HR b2 v2 (base q.1).1) (λ_ J=>(A4 b6 (AD (hf _ J) e6.symm))) (λ_ J=>(A4 b7 (AD (ha _ J) e7.symm))))) (.inl rfl) λu14 w14 xj hw=>?_;have hsz14:=z.size;have z:=z.own xj (λi hi=>r.ge g2 hi);obtain⟨rfl,v3,r,h7⟩:=hw;rw[row2]at r;refine go ?_;refine FJ (k+1,v3) ⟨z,by omega,?_⟩;rw[GQ hk,List.flatMap_append,AF,Ci,AH,show I7 f=(F6 f.id.toNat++(F6 f.lev.toNat++F6 f.size.toNat))++(FA f.fst++FA f.lst) from rfl];simpa only [A3]using r
 have xk:=W8 hh k;have xb:=Gq n.toNat;have xa:=Gq fs.length;have hln1:((F6 n.toNat++F6 fs.length)++(fs.take k).flatMap I7).length<=9000000:=by rw[Ad,Ad];omega
 refine Ge (Od w.heap.size b2 vc _ _ r Fb) λvo w15 xm hB=>?_;have hsz15:=z.size;have z:=z.trans xm;refine go ?_;rw[show k=fs.length by omega,List.take_length]at hB;rw[if_pos hE,if_pos hE];exact⟨_,rfl,z,_,rfl,hB.mono Fb⟩
theorem QV {p:α->Bool}{c:α}(h:l[k]?=some c)(ha:(l.take k).any p=false)(hp:p c=false):(l.take (k+1)).any p=false:=by
 rw[GQ h,List.any_append,ha];simp [hp]
def KI {α:Type}(l:List α)(p:α->Bool)(i:Int):Prop:=(i=-1/\l.any p=false)\/∃k:Nat,i=k/\(l.take k).any p=false/\∃x,l[k]?=some x/\p x=true
theorem Xog {p:α->Bool}{i:Int}(h:KI l p i):decide (0<=i)=l.any p:=by
 rcases h with⟨rfl,h⟩|⟨k,rfl,_,x,hx,hp⟩
 ·rw[h];rfl
 ·rw[B7.2 ⟨x,Ag hx,hp⟩];simp
theorem X7t (l:List Fi)(v:Value)(f:Nat)(cs:List Value)(p:Fi->Bool)(w:World)(hv:Fs Fi.cs 5 w v l)(hl:l.length<=1000000)(hcb:Hj Tryz.prog f=true)(hc:∀w2,Fp w w2->∀x∈l,Calls Tryz.prog f ([x.v]++cs).toArray w2 (Pure w2 (B (p x)))) :
  Gf 245 [v,Js f cs] w λu _=>∃i:Int,u=I i/\KI l p i:=by
 refine cE Tryz.func245 λr=>FL 62 5 hv.sl ?_;refine F9 (G:=Nat) (λk=>[(0,v),(1,Js f cs),(7,I ↑l.length),(8,I ↑k)]) (λk w'=>Fp w w'/\k<=l.length/\(l.take k).any p=false) (λk=>l.length-k) 0 ⟨r,Ab _,rfl⟩ ?_;rintro _ k w1 ⟨r,hk1,ha⟩;refine Fk (λH=>?_) λH=>?_
 ·obtain⟨x,hk⟩:∃x,l[k]?=some x:=F8;refine FK 62 5 hv.sl (hv.lt hk) ?_;refine dq (Fy Fe rfl rfl ((hv.ext r).row hk)) (QN (vs:=[x.v]) (cs:=cs) rfl rfl hcb (hc _ r x (Ag hk)) rfl RX.all (λw2 J=>?_));have r:=r.trans J;refine FZ (λz=>?_) λz=>?_
  ·refine go ?_;exact⟨_,rfl,r,_,rfl,.inr ⟨k,rfl,ha,x,hk,z⟩⟩
  refine go ?_;refine FJ (k+1) ⟨r,by omega,QV hk ha (by simpa using z)⟩
 refine go ?_;rw[Ar Fb]at ha;exact⟨_,rfl,r,-1,rfl,.inl ⟨rfl,ha⟩⟩
theorem X7u (l:List Cell)(v:Value)(f:Nat)(cs:List Value)(p:Cell->Bool)(w:World)(hv:Fs Cell.cs 4 w v l)(hl:l.length<=1000000)(hcb:Hj Tryz.prog f=true)(hc:∀w2,Fp w w2->∀x∈l,Calls Tryz.prog f ([x.v]++cs).toArray w2 (Pure w2 (B (p x)))) :
  Gf 107 [v,Js f cs] w λu _=>∃i:Int,u=I i/\KI l p i:=by
 refine cE Tryz.func107 λr=>FL 79 4 hv.sl ?_;refine F9 (G:=Nat) (λk=>[(0,v),(1,Js f cs),(7,I ↑l.length),(8,I ↑k)]) (λk w'=>Fp w w'/\k<=l.length/\(l.take k).any p=false) (λk=>l.length-k) 0 ⟨r,Ab _,rfl⟩ ?_;rintro _ k w1 ⟨r,hk1,ha⟩;refine Fk (λH=>?_) λH=>?_
 ·obtain⟨x,hk⟩:∃x,l[k]?=some x:=F8;refine FK 79 4 hv.sl (hv.lt hk) ?_;refine dq (Fy Fe rfl rfl ((hv.ext r).row hk)) (QN (vs:=[x.v]) (cs:=cs) rfl rfl hcb (hc _ r x (Ag hk)) rfl RX.all (λw2 J=>?_));have r:=r.trans J;refine FZ (λz=>?_) λz=>?_
  ·refine go ?_;exact⟨_,rfl,r,_,rfl,.inr ⟨k,rfl,ha,x,hk,z⟩⟩
  refine go ?_;refine FJ (k+1) ⟨r,by omega,QV hk ha (by simpa using z)⟩
 refine go ?_;rw[Ar Fb]at ha;exact⟨_,rfl,r,-1,rfl,.inl ⟨rfl,ha⟩⟩
theorem X7v (l:List Fi)(v:Value)(f:Nat)(cs:List Value)(p:Fi->Bool)(w:World)(hv:Fs Fi.cs 5 w v l)(hl:l.length<=1000000)(hcb:Hj Tryz.prog f=true)(hc:∀w2,Fp w w2->∀x∈l,Calls Tryz.prog f ([x.v]++cs).toArray w2 (Pure w2 (B (p x)))) :
  FW 172 [v,Js f cs] w (B (l.any p)):=by
 refine cE Tryz.func172 λr=>Ge (X7t l v f cs p _ (hv.ext r) hl hcb (λw2 H=>hc w2 (r.trans H))) λu1 w1 J z=>?_;have hsz1:=r.size;have r:=r.trans J;obtain⟨i,rfl,hi⟩:=z;refine dp (HW rfl rfl) (go ?_);exact⟨by rw[<-Xog hi],r⟩
theorem Yaz (f:Fi)(id:Int)(bi:Nat)(w:World)(hi:Fo w bi [I id] 3) :
  FW 173 [f.v,Fg bi 0] w (B (decide (f.id=id))):=by
 refine cE Tryz.func173 λr=>go ?_;refine Gx rfl rfl rfl RX.all (λb1 w1 e1 z m1=>?_);have g1:=r.ge e1;have r:=r.trans z;refine go ?_;refine dl rfl ((hi.ext r).at rfl) (go ?_);exact⟨by simp,r⟩
theorem Ya0 (l:List Int)(v:Value)(y:Int)(w:World)(hv:Fs Vc.encI 1 w v l)(hl:l.length<=1000000) :
  Gf 244 [v,I y] w λu _=>∃i:Int,u=I i/\KI l (λz=>decide (y=z)) i:=by
 refine cE Tryz.func244 λr=>FL 3 1 hv.sl ?_;refine F9 (G:=Nat) (λk=>[(0,v),(1,I y),(7,I ↑l.length),(8,I ↑k)]) (λk w'=>Fp w w'/\k<=l.length/\(l.take k).any (λz=>decide (y=z))=false) (λk=>l.length-k) 0 ⟨r,Ab _,rfl⟩ ?_;rintro _ k w1 ⟨r,hk1,ha⟩;refine Fk (λJ=>?_) λJ=>?_
 ·obtain⟨x,hk⟩:∃x,l[k]?=some x:=F8;refine FK 3 1 hv.sl (hv.lt hk) ?_;refine dl rfl (((hv.ext r).row hk).at0 rfl) ?_;refine Fk (λH=>?_) λH=>?_
  ·refine go ?_;exact⟨_,rfl,r,_,rfl,.inr ⟨k,rfl,ha,x,hk,by simpa using H⟩⟩
  refine go ?_;refine FJ (k+1) ⟨r,by omega,QV hk ha (by simpa using H)⟩
 refine go ?_;rw[Ar Fb]at ha;exact⟨_,rfl,r,-1,rfl,.inl ⟨rfl,ha⟩⟩
theorem YO (l:List Int)(v:Value)(y:Int)(w:World)(hv:Fs Vc.encI 1 w v l)(hl:l.length<=1000000) :
  FW 171 [v,I y] w (B (decide (y∈l))):=by
 refine cE Tryz.func171 λr=>Ge (Ya0 l v y _ (hv.ext r) hl) λu1 w1 J H=>?_;have hsz1:=r.size;have r:=r.trans J;obtain⟨i,rfl,hi⟩:=H;refine dp (HW rfl rfl) (go ?_);refine⟨?_,r⟩;have e:decide (y∈l)=l.any (λz=>decide (y=z)):=by
  rw[Dx,decide_eq_true_iff,B7];exact⟨λh=>⟨y,h,by simp⟩,λ⟨z,hz,e⟩=>by rw[of_decide_eq_true e];exact hz⟩
 rw[e,<-Xog hi]
structure GV (w:World):Prop where
 tab : Lib.TabIs Tryz.prog w "internal/strconv.uint64pow10" .u64 Lib.pow10Tab
@[reducible] def Mf : Nat → Prop := λ k => Tryz.prog.globalNamed "internal/strconv.uint64pow10" = some k
theorem GV.at {w:World}(h:GV w):∃g cs a b,Mf g/\w.heap[g]?=some (.cells cs a b)/\cs=(Lib.pow10Tab.map λz=>Value.int .u64 z).toArray:=by
 have r:=h.tab;unfold Lib.TabIs World.var? at r;rw[Option.bind_eq_some_iff]at r;obtain⟨g,H,h2⟩:=r;split at h2
 ·rename_i cs a b J;exact⟨g,cs,a,b,H,J,Al.inj h2⟩
 ·cases h2
theorem GV.lt (h:GV w):∀k,Mf k->k<w.heap.size:=λk hk=>by
 obtain⟨g,cs,a,b,r,z,_⟩:=h.at;have:g=k:=Al.inj (r.symm.trans hk);rw[<-this];exact(BA.1 z).1
theorem GV.mod {S:Nat->Prop}{w':World}(h:GV w)(x:Vc.Mod S w w')(hS:∀k,Mf k->¬ S k):GV w':=by
 obtain⟨g,cs,a,b,hg,hc,he⟩:=h.at;refine⟨?_⟩;unfold Lib.TabIs World.var?;rw [show Tryz.prog.globalNamed "internal/strconv.uint64pow10" = some g from hg, Option.bind_some, x.block g (h.lt g hg) (hS g hg), hc, he]
theorem GV.ext {w':World}(h:GV w)(x:Fp w w'):GV w':=h.mod x (λ_ _ h=>h)
instance {w w':World} : Up w w' (GV w) (GV w'):=⟨λx h=>GV.ext h x⟩
theorem Ya1 (n:Int)(w:World)(hg:GV w)(hn:Fx n):Calls Tryz.prog 106 [I n].toArray w (Pure w (S (Lib.itoa n))):=by
 refine(Tryz.strconv_Itoa n hn.1 (by have:=hn.2;omega) w hg.tab).mono ?_;rintro e w' ⟨rfl,k,os,rfl⟩;exact⟨rfl,⟨rfl,rfl,rfl,by simp [Go.Sort.grow,Go.World.drewN],λi hi _=>by simp only [Go.Sort.grow,Go.World.drewN];rw[Array.getElem?_append_left hi]⟩⟩
def Iv (n:Int):Fh:=116 :: Lib.itoa n
theorem T8 (n:Int)(w:World)(hg:GV w)(hn:Fx n)(hl:(Lib.itoa n).length<=100) :
  FW 50 [I n] w (S (Iv n)):=by
 refine cE Tryz.func50 λr=>Gp (Ya1 n _ (hg.ext r) hn) λw1 z=>?_;have r:=r.trans z;refine dp (Iu rfl rfl (by simp;omega)) (go ?_);exact⟨rfl,r⟩
@[reducible] def Ik (bd bl:Nat) (n:Int) (vf:Value) (bo bm:Nat) (dead:Bool):List Value:=[Fg bd 0,Fg bl 0,I n,vf,.map (some bo),Fg bm 0,B dead]
theorem Sj (bs bd bl:Nat)(n:Int)(vf:Value)(bo bm:Nat)(dead:Bool)(w:World)(hs:Fo w bs (Ik bd bl n vf bo bm dead) 90) :
  FW 38 [Fg bs 0] w (I (if dead=true then 9 else 0)):=by
 refine cE Tryz.func38 λz=>go ?_;refine dp (GS Fe rfl rfl) ?_;refine Fk (λH=>?_) λH=>?_
 ·exact absurd H F5
 refine go ?_;refine df 6 (rfl) ?_;refine FZ (λr=>?_) λr=>?_
 ·refine go ?_;rw[if_pos r];exact⟨rfl,z⟩
 refine go ?_;rw[if_neg (by rw[r];decide)];exact⟨rfl,z⟩
theorem PJ (bs bd bl:Nat)(n:Int)(vf:Value)(bo bm:Nat)(dead:Bool)(e:Int)(w:World)(hs:Fo w bs (Ik bd bl n vf bo bm dead) 90) :
  Gy 41 [Fg bs 0,I e] w (Fu bs) λu w'=>u=I e/\Fo w' bs (Ik bd bl n vf bo bm (dead || decide (e≠0))) 90:=by
 refine cM Tryz.func41 (Fu bs) λr=>?_;refine Fk (λz=>?_) λz=>?_
 ·refine go ?_;refine df 6 (rfl) (HG hs (λw1 H xs1 hs=>?_));have r:=r.own H F4;refine go ?_;exact⟨_,rfl,r,rfl,by rw[decide_eq_true z,Bool.or_true];exact hs⟩
 refine go ?_;exact⟨_,rfl,r,rfl,by rw[decide_eq_false z,Bool.or_false];exact hs⟩
structure RRep (X:Nat->Prop)(w:World)(bx:Nat)(l:List Cell):Prop where
 out:∃vL,Fo w bx [vL] 215/\Fs Cell.cs 4 w vL l/\(l≠[]->(base vL).1≠bx/\X (base vL).1)/\(∀j,X j->j<w.heap.size)
def OF (F:Nat->Prop)(w w':World):Nat->Prop:=λk=>F k\/(w.heap.size<=k/\k<w'.heap.size)
end Go.Proofs.YtiooodckiddpmaaGreatDoor
namespace Go.Sp
open Go.Vc
def G7 (h:Nat->Nat):List Nat->Nat->Nat
 | [],_=>0
 | j :: r,row=>if row<h j then j else G7 h r row
def Hy (h:Nat->Nat):List Nat->Nat->Nat
 | [],_=>0
 | j :: r,row=>if ∃i∈r,row<h i then Hy h r row else if row<h j then j else 0
def H6 (h:Nat->Nat)(nx:Nat->List Nat):List Nat->Prop
 | []=>True
 | i :: r=>(∀row,row<h i->(nx i)[row]?=some (G7 h r row))/\H6 h nx r
theorem RB {h:Nat->Nat}{row:Nat} : ∀ {R S:List Nat},(∀i∈R,¬ row<h i)->G7 h (R++S) row=G7 h S row
 | [],S,_=>rfl
 | j :: r,S,hn=>by
  simp only [AY,G7];rw[if_neg (hn j Ai)];exact RB (λi hi=>hn i (Ao _ hi))
theorem RW (h:Nat->Nat)(row:Nat):∀(R S:List Nat),(∃R1 j R2,R=R1++j :: R2/\row<h j/\G7 h (R++S) row=j/\(∀i∈R1,¬ row<h i))\/((∀i∈R,¬ row<h i)/\G7 h (R++S) row=G7 h S row)
 | [],S=>.inr ⟨(λi hi=>by cases hi),rfl⟩
 | j :: r,S=>by
  by_cases hj:row<h j
  ·exact .inl ⟨[],j,r,rfl,hj,by simp [G7,hj],(λi hi=>by cases hi)⟩
  ·rcases RW h row r S with⟨R1,k,R2,rfl,hk,he,hn⟩|⟨hn,he⟩
   ·refine .inl ⟨j :: R1,k,R2,rfl,hk,?_,λi hi=>?_⟩
    ·simp only [AY,G7,if_neg hj]at he ⊢;exact he
    ·rcases Ah.1 hi with rfl|hi
     ·exact hj
     ·exact hn i hi
   ·refine .inr ⟨λi hi=>?_,?_⟩
    ·rcases Ah.1 hi with rfl|hi
     ·exact hj
     ·exact hn i hi
    ·simp only [AY,G7,if_neg hj];exact he
theorem Rj (h:Nat->Nat)(row:Nat):∀S:List Nat,G7 h S row=0\/(G7 h S row∈S/\row<h (G7 h S row))
 | []=>.inl rfl
 | j :: r=>by
  simp only [G7]
  by_cases hj:row<h j
  ·rw[if_pos hj];exact .inr ⟨Ai,hj⟩
  ·rw[if_neg hj];rcases Rj h row r with e|⟨e,e2⟩
   ·exact .inl e
   ·exact .inr ⟨Ao _ e,e2⟩
theorem RP {h:Nat->Nat}{row at':Nat} : ∀ {A R:List Nat},row<h at'->(∀i∈R,¬ row<h i)->Hy h (A++at' :: R) row=at'
 | [],R,ha,hn=>by
  simp only [AB,Hy];rw[if_neg (by rintro ⟨i,hi,hlt⟩;exact hn i hi hlt),if_pos ha]
 | j :: A,R,ha,hn=>by
  simp only [AY,Hy];rw[if_pos ⟨at',by simp,ha⟩];exact RP ha hn
theorem Ra {h:Nat->Nat}{nx:Nat->List Nat} : ∀ {A R:List Nat} {i:Nat},H6 h nx (A++i :: R)->∀row,row<h i->(nx i)[row]?=some (G7 h R row)
 | [],_,_,hl=>hl.1
 | _ :: A,_,_,hl=>Ra (A:=A) hl.2
theorem XL {h h':Nat->Nat}{nx nx':Nat->List Nat}{q:Nat} : ∀(A S:List Nat),(∀i∈A++S,h' i=h i/\i≠q)->H6 h nx (A++S)->
  (∀i∈S,nx' i=nx i)->(∀row,row<h' q->(nx' q)[row]?=some (G7 h S row))->
  (∀i∈A,∀row,row<h i->(nx' i)[row]?=if Hy h A row=i/\row<h' q then some q else(nx i)[row]?)->A.Nodup->
  H6 h' nx' (A++q :: S)
 | [],S,hh,Y,hS,hq,_,_=>by
  have hn:∀T:List Nat,(∀i∈T,h' i=h i)->∀row,G7 h' T row=G7 h T row:=by
   intro T
   induction T with
   | nil=>intro _ _;rfl
   | cons j r ih=>intro z row;simp only [G7];rw[z j Ai,ih (λi hi=>z i (Ao _ hi))]
  have Z:∀T:List Nat,(∀i∈T,h' i=h i/\nx' i=nx i)->H6 h nx T->H6 h' nx' T:=by
   intro T
   induction T with
   | nil=>intro _ _;trivial
   | cons j r ih=>
    intro z Y;obtain⟨h1,h2⟩:=z j Ai;refine⟨λrow H=>?_,ih (λi hi=>z i (Ao _ hi)) Y.2⟩;rw[h2,hn r (λi hi=>(z i (Ao _ hi)).1)];exact Y.1 row (by rw[<-h1];exact H)
  refine⟨λrow H=>?_,Z S (λi hi=>⟨(hh i (by simpa using hi)).1,hS i hi⟩) (by simpa using Y)⟩;rw[hq row H,hn S (λi hi=>(hh i (by simpa using hi)).1)]
 | a :: A,S,hh,Y,hS,hq,hA,hnd=>by
  have O:=Bk.1 hnd;have hf:=XL (h:=h) (h':=h') (nx:=nx) (nx':=nx') (q:=q) A S (λi hi=>hh i (Ao _ hi)) Y.2 hS hq (λi hi row H=>by
   have h1:=hA i (Ao _ hi) row H;have e:Hy h (a :: A) row=Hy h A row:=by
    simp only [Hy];rw[if_pos ⟨i,hi,H⟩]
   rw[e]at h1;exact h1) O.2
  refine⟨λrow H=>?_,hf⟩;have ha:=(hh a Ai);rw[ha.1]at H;have h1:=hA a Ai row H;have h2:(nx a)[row]?=some (G7 h (A++S) row):=Y.1 row H;show(nx' a)[row]?=some (G7 h' (A++q :: S) row);rw[h1];have hg:∀T:List Nat,(∀i∈T,h' i=h i)->G7 h' (T++q :: S) row=if ∃i∈T,row<h i then G7 h (T++S) row else if row<h' q then q else G7 h S row:=by
   intro T
   induction T with
   | nil=>
    intro _;have hn:∀T:List Nat,(∀i∈T,h' i=h i)->G7 h' T row=G7 h T row:=by
     intro T
     induction T with
     | nil=>intro _;rfl
     | cons j r ih=>intro z;simp only [G7];rw[z j Ai,ih (λi hi=>z i (Ao _ hi))]
    simp only [AB,G7];rw[hn S (λi hi=>(hh i (Ao _ (by simp [hi]))).1)];simp
   | cons j r ih=>
    intro z;simp only [AY,G7];rw[z j Ai,ih (λi hi=>z i (Ao _ hi))]
    by_cases hj:row<h j
    ·simp [hj]
    ·simp [hj]
  rw[hg A (λi hi=>(hh i (Ao _ (by simp [hi]))).1)]
  by_cases hex:∃i∈A,row<h i
  ·rw[if_pos hex];have ht:¬ (Hy h (a :: A) row=a/\row<h' q):=by
    rintro ⟨he,_⟩;simp only [Hy]at he;rw[if_pos hex]at he;have:Hy h A row∈A:=by
     have hp:∀T:List Nat,(∃i∈T,row<h i)->Hy h T row∈T:=by
      intro T
      induction T with
      | nil=>rintro ⟨i,hi,_⟩;cases hi
      | cons j r ih=>
       intro hx;simp only [Hy]
       by_cases hr2:∃i∈r,row<h i
       ·rw[if_pos hr2];exact Ao _ (ih hr2)
       ·rw[if_neg hr2];obtain⟨i,hi,J⟩:=hx;rcases Ah.1 hi with rfl|hi
        ·rw[if_pos J];exact Ai
        ·exact absurd ⟨i,hi,J⟩ hr2
     exact hp A hex
    rw[he]at this;exact O.1 this
   rw[if_neg ht,h2]
  ·rw[if_neg hex];have he:Hy h (a :: A) row=a:=by
    simp only [Hy];rw[if_neg hex,if_pos H]
   have hc:G7 h (A++S) row=G7 h S row:=RB (λi hi J=>hex ⟨i,hi,J⟩)
   by_cases hq':row<h' q
   ·rw[if_pos ⟨he,hq'⟩,if_pos hq']
   ·rw[if_neg (λx=>hq' x.2),if_neg hq',h2,hc]
structure Tow where
 c:Cell
 bk:Nat
 h:Nat
@[reducible] def Tow.sl (t:Tow):Value:=.slice (some ⟨t.bk,0,none⟩) t.h t.h
@[reducible] def Tow.enc (t:Tow):List Value:=[S t.c.key,S t.c.val,B t.c.del,I t.c.seq,t.sl]
def hgt (a:List Tow)(i:Nat):Nat:=(a[i]?.map Tow.h).getD 0
def Ib (a:List Tow)(i:Nat):Cell:=(a[i]?.map Tow.c).getD Cell.zero
theorem X4w {a:List Tow}{i:Nat}{t:Tow}(h:a[i]?=some t):hgt a i=t.h:=by simp [hgt,h]
theorem Oj {a:List Tow}{i:Nat}{t:Tow}(h:a[i]?=some t):Ib a i=t.c:=by simp [Ib,h]
def FN (a:List Tow)(L:List Nat)(c:Cell):List Nat:=L.takeWhile λi=>less (Ib a i) c
def FH (a:List Tow)(L:List Nat)(c:Cell):List Nat:=L.dropWhile λi=>less (Ib a i) c
theorem NO (a:List Tow)(L:List Nat)(c:Cell):FN a L c++FH a L c=L:=List.takeWhile_append_dropWhile ..
structure Skip (a:List Tow)(nx:Nat->List Nat)(L:List Nat)(l:List Cell):Prop where
 len:a.length=L.length+1
 mem:∀i∈L,1<=i/\i<a.length
 nd:L.Nodup
 cells:l=L.map (Ib a)
 h0:hgt a 0=12
 hle:∀i,i<a.length->1<=hgt a i/\hgt a i<=12
 link:H6 (hgt a) nx (0 :: L)
section
variable {a:List Tow}{nx:Nat->List Nat}{L:List Nat}{l:List Cell}{c:Cell}
variable {i:Nat}
theorem Xx1 (h:i∈FN a L c):less (Ib a i) c=true:=
 AO.1 (List.all_takeWhile (p:=λi=>less (Ib a i) c) (l:=L)) i h
theorem NC (h:i∈FN a L c):i∈L:=by rw[<-NO a L c];exact B8 _ h
theorem Pa (h:i∈FH a L c):i∈L:=by rw[<-NO a L c];exact Bz _ h
variable {r:List Nat}
theorem XN (h:FH a L c=i :: r):less (Ib a i) c=false:=by
 have:=List.head?_dropWhile_not (λi=>less (Ib a i) c) L;rw[show List.dropWhile (λi=>less (Ib a i) c) L=FH a L c from rfl,h]at this;simpa using this
theorem X7w (a:List Tow)(L:List Nat)(c:Cell):pre (L.map (Ib a)) c=(FN a L c).map (Ib a):=by
 unfold pre FN;rw[List.takeWhile_map];rfl
theorem Nq (a:List Tow)(L:List Nat)(c:Cell):Iq (L.map (Ib a)) c=(FH a L c).map (Ib a):=by
 unfold Iq FH;rw[List.dropWhile_map];rfl
theorem Skip.mem0 (h:Skip a nx L l)(hi:i∈0 :: L):i<a.length:=by
 rcases Ah.1 hi with rfl|hi
 ·have:=h.len;omega
 ·exact(h.mem i hi).2
theorem Skip.pos (h:Skip a nx L l)(hi:i∈L):i≠0:=by have:=(h.mem i hi).1;omega
variable {A R:List Nat}
theorem Skip.nextR (h:Skip a nx L l){row:Nat}(hp:0 :: FN a L c=A++i :: R)(hr:row<hgt a i):(nx i)[row]?=some (G7 (hgt a) (R++FH a L c) row):=by
 have z:=h.link;have e:0 :: L=A++i :: (R++FH a L c):=by
  have e2:0 :: (FN a L c++FH a L c)=A++i :: (R++FH a L c):=by rw[<-AY,hp];simp
  rwa [NO]at e2
 rw[e]at z;exact Ra z row hr
theorem Skip.next_in (h:Skip a nx L l){row:Nat}(hp:0 :: FN a L c=A++i :: R):
  G7 (hgt a) (R++FH a L c) row=0\/G7 (hgt a) (R++FH a L c) row∈L:=by
 rcases Rj (hgt a) row (R++FH a L c)with e|⟨e,_⟩
 ·exact .inl e
 ·refine .inr ?_;rcases Ak.1 e with e|e
  ·have:G7 (hgt a) (R++FH a L c) row∈0 :: FN a L c:=by rw[hp];simp [e]
   rcases Ah.1 this with e2|e2
   ·-- 0 is not of what stands behind
    exfalso;rw[e2]at e
    cases A with
    | nil=>
     rw[AB]at hp;have hR:R=FN a L c:=by injection hp with _ h2;exact h2.symm
     rw[hR]at e;exact h.pos (NC e) rfl
    | cons x A=>
     rw[AY]at hp;have hR:FN a L c=A++i :: R:=by injection hp
     exact h.pos (NC (by rw[hR];simp [e])) rfl
   ·exact NC e2
  ·exact Pa e
theorem Skip.behind (h:Skip a nx L l){j:Nat}(hp:0 :: FN a L c=A++i :: R)(hj:j∈R):j∈FN a L c:=by
 cases A with
 | nil=>
  rw[AB]at hp;have hR:FN a L c=R:=by injection hp
  rw[hR];exact hj
 | cons x A=>
  rw[AY]at hp;have hR:FN a L c=A++i :: R:=by injection hp
  rw[hR];simp [hj]
variable {t:Tow}
theorem Skip.step (h:Skip a nx L l)(hs:FO l){row:Nat}(hp:0 :: FN a L c=A++i :: R)(h0:G7 (hgt a) (R++FH a L c) row≠0)(ht:a[G7 (hgt a) (R++FH a L c) row]?=some t)(hl:less t.c c=true):
  ∃A' R',0 :: FN a L c=A'++G7 (hgt a) (R++FH a L c) row :: R'/\row<hgt a (G7 (hgt a) (R++FH a L c) row)/\R'.length<R.length:=by
 rcases RW (hgt a) row R (FH a L c)with⟨R1,j,R2,e,hj,e2,_⟩|⟨_,e2⟩
 ·rw[e2];refine⟨A++i :: R1,R2,?_,hj,?_⟩
  ·rw[hp,e];simp
  ·rw[e];simp;omega
 ·exfalso;rw[e2]at h0 ht;rcases Rj (hgt a) row (FH a L c)with e3|⟨e3,_⟩
  ·exact h0 e3
  ·-- a cell of the rest is not ahead
   cases hsu:FH a L c with
   | nil=>rw[hsu]at e3;cases e3
   | cons s r=>
    have h1:=XN hsu;rw[hsu]at e3;rw[hsu]at ht;have z:less (Ib a (G7 (hgt a) (s :: r) row)) c=true:=by rw[Oj ht];exact hl
    rcases Ah.1 e3 with e4|e4
    ·rw[e4,h1]at z;cases z
    ·have H:FO (Iq l c):=by
      have h2:FO (pre l c++Iq l c):=by rw[N5];exact hs
      exact(Bj.1 h2).2.1
     rw[h.cells,Nq,hsu,Am]at H;have:=List.rel_of_pairwise_cons H (List.mem_map_of_mem (f:=Ib a) e4);have:=Om this z;rw[h1]at this;cases this
theorem Skip.stop (h:Skip a nx L l){row:Nat}(hp:0 :: FN a L c=A++i :: R)(hr:row<hgt a i)(hn:G7 (hgt a) (R++FH a L c) row=0\/∃t,a[G7 (hgt a) (R++FH a L c) row]?=some t/\less t.c c=false):
  Hy (hgt a) (0 :: FN a L c) row=i:=by
 rw[hp];refine RP hr λj J H=>?_;rcases RW (hgt a) row R (FH a L c)with⟨R1,k,R2,e,hk,e2,_⟩|⟨hno,_⟩
 ·have z:=h.behind hp (j:=k) (by rw[e];simp);rw[e2]at hn;rcases hn with hn|⟨t,ht,hl⟩
  ·exact h.pos (NC z) hn
  ·have:=Xx1 z;rw[Oj ht,hl]at this;cases this
 ·exact hno j J H
theorem XM {h:Nat->Nat} : ∀ {R:List Nat},(∀i∈R,1<=h i)->G7 h R 0=R.headD 0
 | [],_=>rfl
 | j :: r,hh=>by simp [G7];intro h0;have:=hh j Ai;omega
theorem Xqd {h:Nat->Nat} : ∀ {A:List Nat} {x:Nat},(∀i∈A++[x],1<=h i)->Hy h (A++[x]) 0=x:=λ {A x} hh=>
 RP (hh x F5) (λi hi=>by cases hi)
theorem Skip.last (h:Skip a nx L l)(c:Cell):∃A i,0 :: FN a L c=A++[i]/\Hy (hgt a) (0 :: FN a L c) 0=i/\i<a.length/\(nx i)[0]?=some ((FH a L c).headD 0):=by
 obtain⟨A,i,e⟩:∃A i,0 :: FN a L c=A++[i]:=⟨(0 :: FN a L c).dropLast,(0 :: FN a L c).getLast F5,(List.dropLast_concat_getLast F5).symm⟩;have H:∀j∈0 :: FN a L c,j<a.length:=λj z=>by
  rcases Ah.1 z with rfl|z
  ·exact h.mem0 Ai
  ·exact h.mem0 (Ao _ (NC z))
 have hi:i<a.length:=H i (by rw[e];simp);refine⟨A,i,e,?_,hi,?_⟩
 ·rw[e];exact Xqd (λj z=>(h.hle j (H j (by rw[e];exact z))).1)
 ·have:=h.nextR (c:=c) (A:=A) (R:=[]) (i:=i) (row:=0) e (by have:=(h.hle i hi).1;omega);rw[this,AB,XM (λj z=>(h.hle j (h.mem0 (Ao _ (Pa z)))).1)]
theorem Skip.next0 (h:Skip a nx L l){D:List Nat}(hp:FH a L c=D++i :: r):i∈L/\(nx i)[0]?=some (r.headD 0):=by
 have J:L=FN a L c++(D++i :: r):=by rw[<-hp,NO]
 have z:i∈L:=by rw[J];simp
 have Y:∀j∈r,j∈L:=λj H=>by rw[J];simp [H]
 refine⟨z,?_⟩;have O:=h.link;have e:0 :: L=(0 :: FN a L c++D)++i :: r:=by
  have e2:0 :: (FN a L c++(D++i :: r))=(0 :: FN a L c++D)++i :: r:=by simp
  rwa [<-J]at e2
 rw[e]at O;rw[Ra O 0 (by have:=(h.hle i (h.mem i z).2).1;omega),XM (λj H=>(h.hle j (h.mem j (Y j H)).2).1)]
theorem RI {key:Fh}{seq:Int} : ∀ {l:List Cell},FO l->first l key seq=((Iq l ⟨key,[],false,seq⟩).head?).filter λs=>decide (s.key=key)
 | [],_=>rfl
 | x :: l,hs=>by
  have H:FO l:=(AI.1 hs).2;have hx:∀y∈l,less x y=true:=(AI.1 hs).1;have ih:=RI (key:=key) (seq:=seq) H;unfold first Iq at *
  rw[CL,Dz]
  by_cases hl:less x ⟨key,[],false,seq⟩=true
  ·rw[if_pos hl];have hn:(decide (x.key=key) && decide (x.seq<=seq))=false:=by
    rw[J6]at hl;rcases hl with hl|⟨e,hl⟩
    ·have:=MZ hl;simp only []at this;simp [this]
    ·simp only []at e hl;simp [e];omega
   rw[hn];exact ih
  ·rw[if_neg hl];simp only [ED,EE];have z:¬ (F0 x.key key=true\/(x.key=key/\seq<x.seq)):=λh=>hl ((J6 _ _).2 h)
   by_cases e:x.key=key
   ·have Y:x.seq<=seq:=by
     by_cases Y:x.seq<=seq
     ·exact Y
     ·exact absurd (.inr ⟨e,by omega⟩) z
    simp [e,Y]
   ·have hgt:F0 key x.key=true:=by
     rcases K5 x.key key with h|h|h
     ·exact absurd h e
     ·exact absurd (.inl h) z
     ·exact h
    have O:∀y∈l,(decide (y.key=key) && decide (y.seq<=seq))=false:=λy J=>by
     have h1:=(J6 _ _).1 (hx y J);have h2:y.key≠key:=by
      rintro rfl;rcases h1 with h1|⟨h1,_⟩
      ·rw[KR h1]at hgt;cases hgt
      ·exact e h1
     simp [h2]
    have Z:l.find? (λc=>decide (c.key=key) && decide (c.seq<=seq))=none:=by
     rw[List.find?_eq_none];intro y J;rw[O y J];decide
    simp [e,Z]
theorem Skip.first_none (h:Skip a nx L l)(hs:FO l){key:Fh}{seq:Int}(h0:(FH a L ⟨key,[],false,seq⟩).headD 0=0):first l key seq=none:=by
 rw[RI hs,h.cells,Nq]
 cases hsu:FH a L ⟨key,[],false,seq⟩with
 | nil=>rfl
 | cons i r=>
  rw[hsu]at h0;exact absurd h0 (h.pos (Pa (c:=⟨key,[],false,seq⟩) (by rw[hsu];simp)))
theorem Skip.first_at (h:Skip a nx L l)(hs:FO l){key:Fh}{seq:Int}(h0:(FH a L ⟨key,[],false,seq⟩).headD 0≠0)(ht:a[(FH a L ⟨key,[],false,seq⟩).headD 0]?=some t):first l key seq=if t.c.key=key then some t.c else none:=by
 rw[RI hs,h.cells,Nq]
 cases hsu:FH a L ⟨key,[],false,seq⟩with
 | nil=>rw[hsu]at h0;exact absurd rfl h0
 | cons i r=>
  rw[hsu]at ht;simp only [EF]at ht;simp only [Am,ED,EE,Oj ht]
  by_cases e:t.c.key=key<;>simp [e]
theorem Skip.head_at (h:Skip a nx L l)(h0:(FH a L c).headD 0≠0):∃t,a[(FH a L c).headD 0]?=some t:=by
 cases hsu:FH a L c with
 | nil=>rw[hsu]at h0;exact absurd rfl h0
 | cons i r=>exact⟨_,Au (h.mem i (Pa (c:=c) (by rw[hsu];simp))).2⟩
theorem TW {p q:Cell->Bool} : ∀ {l:List Cell},(∀x y,q x=false->less x y=true->q y=false)->FO l->(∀x∈l,p x=true)->l.filter (λx=>p x && q x)=l.takeWhile q
 | [],_,_,_=>rfl
 | x :: l,hq,hs,hp=>by
  have z:=AI.1 hs;rw[BF,CO,hp x Ai,C1]
  cases hx:q x with
  | true=>simp [TW hq z.2 (λy H=>hp y (Ao _ H))]
  | false=>
   simp only [Cq,if_false];rw[List.filter_eq_nil_iff];intro y H;simp [hq x y hx (z.1 y H)]
theorem WS {frm to:Fh} : ∀ {l:List Cell},FO l->(∀x∈l,x.seq<=4611686018427387904)->scan l frm to=(Iq l ⟨frm,[],false,4611686018427387904⟩).takeWhile λx=>(decide (to=[]) || F0 x.key to)
 | [],_,_=>rfl
 | x :: l,hs,hb=>by
  have H:=AI.1 hs;have hbx:=hb x Ai;unfold scan Iq;rw[Dz]
  by_cases hl:less x ⟨frm,[],false,4611686018427387904⟩=true
  ·rw[if_pos hl];have Z:F0 x.key frm=true:=by
    rw[J6]at hl;rcases hl with hl|⟨_,hl⟩
    ·exact hl
    ·simp only []at hl;omega
   have ih:=WS (frm:=frm) (to:=to) H.2 (λy O=>hb y (Ao _ O));unfold scan Iq at ih;rw[BF,if_neg (by simp [JT,Z])];exact ih
  ·rw[if_neg hl];have z:F0 x.key frm=false:=by
    cases hh:F0 x.key frm with
    | false=>rfl
    | true=>exact absurd ((J6 _ _).2 (.inl hh)) hl
   have J:∀y∈x :: l,(!F0 y.key frm)=true:=λy O=>by
    rcases Ah.1 O with rfl|O
    ·rw[z];rfl
    ·cases hh:F0 y.key frm with
     | false=>rfl
     | true=>
      rcases(J6 _ _).1 (H.1 y O)with h1|⟨h1,_⟩
      ·rw[J9 _ _ _ h1 hh]at z;cases z
      ·rw[h1,hh]at z;cases z
   exact TW (p:=λy=>!F0 y.key frm) (λu v hu Y=>by
    simp only [Bool.or_eq_false_iff,decide_eq_false_iff_not]at hu ⊢;refine⟨hu.1,?_⟩
    cases hh:F0 v.key to with
    | false=>rfl
    | true=>
     rcases(J6 _ _).1 Y with h1|⟨h1,_⟩
     ·rw[J9 _ _ _ h1 hh]at hu;cases hu.2
     ·rw[h1,hh]at hu;cases hu.2) hs J
theorem UA {α:Type}{p:α->Bool} : ∀ {D r:List α},(∀x∈D,p x=true)->(∀x,r.head?=some x->p x=false)->(D++r).takeWhile p=D
 | [],[],_,_=>rfl
 | [],x :: r,_,h=>by simp [h x rfl]
 | d :: D,r,h1,h2=>by
  rw[AY,CO,if_pos (h1 d Ai),UA (λx z=>h1 x (Ao _ z)) h2]
theorem Skip.scan_done (h:Skip a nx L l)(hs:FO l)(hb:∀x∈l,x.seq<=4611686018427387904){frm to:Fh}{D:List Nat}(e:FH a L ⟨frm,[],false,4611686018427387904⟩=D++r)(hD:∀i∈D,to=[]\/F0 (Ib a i).key to=true)(hr:∀i,r.head?=some i->¬ (to=[]\/F0 (Ib a i).key to=true)):scan l frm to=D.map (Ib a):=by
 rw[WS hs hb,h.cells,Nq,e,A6];refine UA (λx z=>?_) (λx z=>?_)
 ·obtain⟨i,hi,rfl⟩:=Ay.1 z;simpa using hD i hi
 ·rw[List.head?_map]at z;obtain⟨i,hi,rfl⟩:=Option.map_eq_some_iff.1 z;have:=hr i hi;rw[not_or]at this;simp [this.1,this.2]
theorem Skip.last_in (h:Skip a nx L l)(c:Cell){row:Nat}(hr:row<12) :
  ∃A R,0 :: FN a L c=A++Hy (hgt a) (0 :: FN a L c) row :: R/\row<hgt a (Hy (hgt a) (0 :: FN a L c) row)/\(∀i∈R,¬ row<hgt a i):=by
 have key:∀T:List Nat,(∃i∈T,row<hgt a i)->∃A R,T=A++Hy (hgt a) T row :: R/\row<hgt a (Hy (hgt a) T row)/\(∀i∈R,¬ row<hgt a i):=by
  intro T
  induction T with
  | nil=>rintro ⟨i,hi,_⟩;cases hi
  | cons j r ih=>
   intro J
   by_cases hr2:∃i∈r,row<hgt a i
   ·obtain⟨A,R,e,h2,h3⟩:=ih hr2;have e2:Hy (hgt a) (j :: r) row=Hy (hgt a) r row:=by simp only [Hy];rw[if_pos hr2]
    rw[e2];exact⟨j :: A,R,by rw[AY,<-e],h2,h3⟩
   ·have H:row<hgt a j:=by
     obtain⟨i,hi,z⟩:=J;rcases Ah.1 hi with rfl|hi
     ·exact z
     ·exact absurd ⟨i,hi,z⟩ hr2
    have e2:Hy (hgt a) (j :: r) row=j:=by simp only [Hy];rw[if_neg hr2,if_pos H]
    rw[e2];exact⟨[],r,rfl,H,λi hi z=>hr2 ⟨i,hi,z⟩⟩
 exact key _ ⟨0,Ai,by rw[h.h0];exact hr⟩
theorem Skip.has_none (h:Skip a nx L l)(h0:(FH a L c).headD 0=0):has l c=false:=by
 unfold has;rw[h.cells,Nq]
 cases hsu:FH a L c with
 | nil=>rfl
 | cons i r=>
  rw[hsu]at h0;exact absurd h0 (h.pos (Pa (c:=c) (by rw[hsu];simp)))
theorem Skip.has_at (h:Skip a nx L l)(h0:(FH a L c).headD 0≠0)(ht:a[(FH a L c).headD 0]?=some t):has l c=!less c t.c:=by
 unfold has;rw[h.cells,Nq]
 cases hsu:FH a L c with
 | nil=>rw[hsu]at h0;exact absurd rfl h0
 | cons i r=>
  rw[hsu]at ht;simp only [EF]at ht;have hn:=XN hsu;rw[Oj ht]at hn;simp only [Am,Oj ht]
  cases hl:less c t.c with
  | false=>
   have:=RA hn hl;simp [this.1,this.2]
  | true=>
   simp only [Bool.not_true,CN,decide_eq_false_iff_not]
   by_cases e:t.c.key=c.key
   ·right;intro e2;rw[Te e.symm e2.symm]at hl
    cases hl
   ·exact .inl e
theorem Xqe {α:Type}{x y:List α}{n:Nat}(hx:x.length=n)(hy:y.length=n)(h:∀i,i<n->x[i]?=y[i]?):x=y:=by
 apply BB
 intro i
 by_cases hi:i<n
 ·exact h i hi
 ·rw[Bh Fb,Bh Fb]
theorem Skip.put (h:Skip a nx L l){nx2:Nat->List Nat}(htc:t.c=c)(hh:1<=t.h/\t.h<=12)(hlen:∀i,i<a.length->(nx i).length=hgt a i/\(nx2 i).length=hgt a i)(hq:∀row,row<t.h->(nx2 a.length)[row]?=some (G7 (hgt a) (FH a L c) row))(hlay:∀i row,i<a.length->row<hgt a i->(nx2 i)[row]?=if row<t.h/\Hy (hgt a) (0 :: FN a L c) row=i then some a.length else(nx i)[row]?):
  Skip (a++[t]) nx2 (FN a L c++a.length :: FH a L c) (pre l c++c :: Iq l c):=by
 have J:=NO a L c;have hg:∀i,i<a.length->hgt (a++[t]) i=hgt a i:=λi hi=>by unfold hgt;rw[Bu hi]
 have hf:hgt (a++[t]) a.length=t.h:=by unfold hgt;simp
 have hc:∀i,i<a.length->Ib (a++[t]) i=Ib a i:=λi hi=>by unfold Ib;rw[Bu hi]
 have h5:Ib (a++[t]) a.length=c:=by unfold Ib;simp [htc]
 have z:∀i,i∈FN a L c++FH a L c->1<=i/\i<a.length:=λi hi=>h.mem i (by rw[J]at hi;exact hi);have hz:0<a.length:=by have:=h.len;omega
 have hw:(0 :: (FN a L c++FH a L c)).Nodup:=Bk.2 ⟨λh0=>by have:=(z 0 h0).1;omega,by rw[J];exact h.nd⟩;have hj:(0 :: FN a L c).Nodup:=by
  have:(0 :: FN a L c++FH a L c).Nodup:=hw;exact(BM.1 this).1
 have hl:∀i∈0 :: FN a L c,∀j∈FH a L c,i≠j:=by
  have:(0 :: FN a L c++FH a L c).Nodup:=hw;exact(BM.1 this).2.2
 have ha:∀row,row<12->Hy (hgt a) (0 :: FN a L c) row∈0 :: FN a L c:=λrow Y=>by
  obtain⟨A,R,e,_⟩:=h.last_in c Y;rw[e];have e':Hy (hgt a) (A++Hy (hgt a) (0 :: FN a L c) row :: R) row=Hy (hgt a) (0 :: FN a L c) row:=by rw[<-e]
  rw[e'];simp
 have Z:∀i∈0 :: FN a L c,i<a.length:=λi hi=>by
  rcases Ah.1 hi with rfl|hi
  ·exact hz
  ·exact(z i (B8 _ hi)).2
 refine⟨?_,?_,?_,?_,?_,?_,?_⟩
 ·have e:=congrArg A5 J;rw[Ad]at e;rw[Ad,Ad,AA,h.len];simp;omega
 ·intro i hi;rw[Ad];simp only [Ak,Ah]at hi;rcases hi with hi|rfl|hi
  ·have:=z i (B8 _ hi);simp;omega
  ·simp;omega
  ·have:=z i (Bz _ hi);simp;omega
 ·have ht:(FN a L c++FH a L c).Nodup:=by rw[J];exact h.nd
  have hp:=BM.1 ht;refine BM.2 ⟨hp.1,Bk.2 ⟨λhm=>?_,hp.2.1⟩,λx O y hy=>?_⟩
  ·have:=(z _ (Bz _ hm)).2;omega
  ·rcases Ah.1 hy with rfl|hy
   ·have:=(z x (B8 _ O)).2;omega
   ·exact hp.2.2 x O y hy
 ·have e1:pre l c=(FN a L c).map (Ib a):=by rw[h.cells,X7w]
  have e2:Iq l c=(FH a L c).map (Ib a):=by rw[h.cells,Nq]
  rw[e1,e2,A6,Am,h5];have e3:∀T:List Nat,(∀i∈T,i<a.length)->T.map (Ib (a++[t]))=T.map (Ib a):=λT hT=>BL (λi hi=>hc i (hT i hi));rw[e3 _ (λi hi=>(z i (B8 _ hi)).2),e3 _ (λi hi=>(z i (Bz _ hi)).2)]
 ·rw[hg 0 hz];exact h.h0
 ·intro i hi;rw[Ad]at hi
  by_cases hia:i<a.length
  ·rw[hg i hia];exact h.hle i hia
  ·have:i=a.length:=by simp at hi;omega
   rw[this,hf];exact hh
 ·show H6 (hgt (a++[t])) nx2 ((0 :: FN a L c)++a.length :: FH a L c);refine XL (h:=hgt a) (nx:=nx) (0 :: FN a L c) (FH a L c) (λi hi=>?_) (by rw[AY,J];exact h.link) (λi hi=>?_) (λrow Y=>?_) (λi hi row Y=>?_) hj
  ·have H:i<a.length:=by
    rcases Ak.1 hi with hi|hi
    ·exact Z i hi
    ·exact(z i (Bz _ hi)).2
   exact⟨hg i H,by omega⟩
  ·have H:=(z i (Bz _ hi)).2;refine Xqe (hlen i H).2 (hlen i H).1 (λrow Y=>?_);rw[hlay i row H Y,if_neg];rintro ⟨h1,h2⟩;exact hl _ (ha row Fb) i hi h2
  ·rw[hf]at Y;exact hq row Y
  ·rw[hlay i row (Z i hi) Y,hf]
   by_cases O:row<t.h/\Hy (hgt a) (0 :: FN a L c) row=i
   ·rw[if_pos O,if_pos ⟨O.2,O.1⟩]
   ·rw[if_neg O,if_neg (λy=>O ⟨y.2,y.1⟩)]
theorem Xqf (l:List Cell)(c:Cell):HE (pre l c++c :: Iq l c)=HE l+G5 c:=by
 have e:HE l=HE (pre l c++Iq l c):=by rw[N5]
 rw[e];unfold HE;simp only [A6,Am,B0,AT];omega
theorem Xx2 (l:List Cell)(c:Cell):(pre l c++c :: Iq l c).length=l.length+1:=by
 have e:l.length=(pre l c++Iq l c).length:=by rw[N5]
 rw[e];simp only [Ad,AA];omega
end
end Go.Sp
namespace Go.Proofs.YtiooodckiddpmaaGreatDoor
open Go.Vc Go.Sp
attribute [local irreducible] W XW Dw G9
structure MemAt (w:World)(bm:Nat)(va vd:Value)(a:List Tow)(nx:Nat->List Nat)(dr:List Nat)(n sz:Nat):Prop where
 hm:Fo w bm [va,vd,I n,I sz] 155
 hA:Vc.Own Tow.enc 5 172 0 w va a
 hd:Vc.Own Jy 1 174 0 w vd dr
 hN:∀i t,a[i]?=some t->Fo w t.bk (G0 (nx i)) 3/\(nx i).length=t.h
 d2:∀(i j:Nat) s t,a[i]?=some s->a[j]?=some t->s.bk=t.bk->i=j
variable {a:List Tow}{dr:List Nat}{n:Nat}{nx:Nat->List Nat}{va vd:Value}{w:World}
theorem MemAt.arr {bm:Nat}{sz:Nat}(h:MemAt w bm va vd a nx dr n sz):Fs Tow.enc 5 w va a:=h.hA.arr (λx=>rfl)
theorem X2a {t:Tow}{q:List Nat}(h:Fo w t.bk (G0 q) 3/\q.length=t.h)(hh:t.h<=12):Fs Nu 1 w t.sl q:=
 h.1.arr (Xu8 q).symm (λx=>rfl) h.2.symm Fb
variable {l:List Cell}
theorem MemAt.next {bm:Nat}{sz i:Nat}{t:Tow}(h:MemAt w bm va vd a nx dr n sz){L:List Nat}{nx':Nat->List Nat}(hs:Skip a nx' L l)(ht:a[i]?=some t):Fs Nu 1 w t.sl (nx i):=
 X2a (h.hN i t ht) (by have:=(hs.hle i (Ap.1 ht).1).2;rwa [X4w ht]at this)
variable {w':World}
theorem MemAt.ext {bm:Nat}{sz:Nat}(h:MemAt w bm va vd a nx dr n sz)(x:Fp w w'):MemAt w' bm va vd a nx dr n sz:=
 ⟨h.hm.ext x,h.hA.ext x,h.hd.ext x,λi t z=>⟨(h.hN i t z).1.ext x,(h.hN i t z).2⟩,h.d2⟩
instance {w w':World} {bm:Nat} {va vd:Value} {a:List Tow} {nx:Nat->List Nat} {dr:List Nat} {n sz:Nat} : Up w w' (MemAt w bm va vd a nx dr n sz) (MemAt w' bm va vd a nx dr n sz):=⟨λx h=>MemAt.ext h x⟩
theorem X2b (a:List Tow)(L:List Nat)(c:Cell):(FH a L c).length<=L.length:=by
 have:=congrArg A5 (NO a L c);rw[Ad]at this;omega
theorem VG (l:List Cell):scan l [] []=l:=by
 unfold scan;rw[BG];intro x _;have:F0 x.key []=false:=by cases x.key<;>rfl
 simp [JT,this]
theorem VR (bm:Nat)(va vd:Value)(a:List Tow)(nx:Nat->List Nat)(dr:List Nat)(n sz:Nat)(L:List Nat)(l:List Cell)(c:Cell)(w:World)(h:MemAt w bm va vd a nx dr n sz)(hs:Skip a nx L l)(hsd:FO l)(hal:a.length<=1000000) :
  Gf 167 [Fg bm 0,c.v] w λv _=>∃q:List Nat,v=.agg ⟨G0 q⟩/\q.length=12/\∀row,row<12->q[row]?=some (Hy (hgt a) (0 :: FN a L c) row):=by
 refine cE Tryz.func167 λH=>?_;have hm:=h.hm;have hA:=h.arr;refine go ?_;refine Gx rfl rfl rfl RX.all (λb1 w1 e1 x1 J=>?_);have g1:=H.ge e1;have H:=H.trans x1;refine aL [.int .i64 0,.int .i64 0,.int .i64 0,.int .i64 0,.int .i64 0,.int .i64 0,.int .i64 0,.int .i64 0,.int .i64 0,.int .i64 0,.int .i64 0,.int .i64 0] λb2 w2 e2 x2 O=>?_;have g2:=H.ge e2;have n2_1:=J.ltb e2;refine Fz x2 J H λJ H=>go ?_;refine aL [.int .i64 0,.int .i64 0,.int .i64 0,.int .i64 0,.int .i64 0,.int .i64 0,.int .i64 0,.int .i64 0,.int .i64 0,.int .i64 0,.int .i64 0,.int .i64 0] λb3 w3 e3 x3 Y=>?_;have g3:=H.ge e3;have n3_1:=J.ltb e3;have n3_2:=O.ltb e3;refine FB x3 J O H λJ O H=>F9 (G:=Int×Nat×List Nat) (λ(z,p,q)=>[(0,Fg bm 0),(3,Fg b1 0),(4,Fg b2 0),(5,Fg b3 0),(6,I ↑p),(7,I z)]) (λ(z,p,q) w'=>Fp w w'/\Fo w' b1 c.cs 79/\Fo w' b2 (G0 (An 12 0)) 244/\Fo w' b3 (G0 q) 244/\-1<=z/\z<=11/\p∈0 :: FN a L c/\z<hgt a p/\q.length=12/\∀row:Nat,z<row->row<12->q[row]?=some (Hy (hgt a) (0 :: FN a L c) row)) (λ(z,p,q)=>(z+1).toNat) (11,0,An 12 0) ⟨H,J,O,Y,by omega,by omega,Ai,by rw[hs.h0];decide,rfl,λrow h1 h2=>absurd h1 Fb⟩ ?_;rintro _ ⟨z,p,q⟩ w4 ⟨H,J,O,Y,hz1,hz2,hpin,hph,hq,hq2⟩;refine go ?_;refine dp (HW rfl rfl) ?_;refine Fk (λc1=>?_) λc1=>?_
 ·obtain⟨r,rfl⟩:=Int.eq_ofNat_of_zero_le c1;obtain⟨ta,hka⟩:∃t,a[p]?=some t:=⟨_,Au (by rcases Ah.1 hpin with rfl|hpin;exact hs.mem0 Ai;exact hs.mem0 (Ao _ (NC hpin)))⟩;have hc:=h.next hs hka;obtain⟨A,R,hp⟩:∃A R,0 :: FN a L c=A++p :: R:=List.append_of_mem hpin;have hr:=hs.nextR hp (row:=r) Fb;refine go ?_;refine dl rfl ((hm.ext H).at rfl) (FK 172 5 hA.sl (hA.lt hka) ?_);refine df 4 (rfl) (dl rfl (((hA.ext H).row hka).at rfl) (FK 3 1 hc.sl (hc.lt hr) ?_));refine dl rfl (((hc.ext H).row hr).at0 rfl) (F9 (G:=Nat×Nat×List Nat) (λ(p2,x,R)=>[(0,Fg bm 0),(3,Fg b1 0),(4,Fg b2 0),(5,Fg b3 0),(6,I ↑p2),(7,I ↑r),(8,I ↑x)]) (λ(p2,x,R) w'=>Fp w w'/\Fo w' b1 c.cs 79/\Fo w' b2 (G0 (An 12 0)) 244/\Fo w' b3 (G0 q) 244/\(∃A,0 :: FN a L c=A++p2 :: R)/\r<hgt a p2/\x=G7 (hgt a) (R++FH a L c) r) (λ(p2,x,R)=>R.length) (p,G7 (hgt a) (R++FH a L c) r,R) ⟨H,J,O,Y,⟨A,hp⟩,by omega,rfl⟩ ?_);rintro _ ⟨p2,x,R⟩ w5 ⟨H,J,O,Y,⟨A,hp⟩,hph,hxe⟩;refine Gn 102110001000000 λw6 x6=>FP x6 J O Y H λJ O Y H=>?_;refine ds1 26 (λc2=>?_) λc2=>?_
  ·obtain⟨tn,hkn⟩:∃t,a[x]?=some t:=by
    rcases hs.next_in hp (row:=r)with e|e
    ·exact absurd (congrArg (λz:Nat=>(z:Int)) (hxe.trans e)) c2
    ·exact⟨_,Au (by rw[hxe];exact hs.mem0 (Ao _ e))⟩
   refine go ?_;refine dL rfl (λ_ hR=>((hm.ext (H.trans hR)).at rfl)) (FK 172 5 hA.sl (hA.lt hkn) ?_);refine go ?_;refine Gd rfl (λw' hR=>Fy Fe rfl rfl (((hA.ext (H.trans hR)).row hkn).sub 0 4)) (Gd rfl (λw' hR=>Fy (k:=4) Fe rfl rfl (J.ext hR).row) (cP (Oc tn.c c _) RX.ext λw7 x7=>FP x7 J O Y H λJ O Y H=>?_));refine FZ (λc3=>?_) λc3=>?_
   ·obtain⟨A',R',ha,Z,hj⟩:=hs.step hsd hp (row:=r) (by rw[<-hxe];intro e;exact c2 (by rw[e];rfl)) (by rw[<-hxe];exact hkn) c3;rw[<-hxe]at ha Z;have hg:=h.next hs hkn;have hh:=hs.nextR ha Z;refine go ?_;refine dl rfl ((hm.ext H).at rfl) (FK 172 5 hA.sl (hA.lt hkn) ?_);refine df 4 (rfl) (dl rfl (((hA.ext H).row hkn).at rfl) (FK 3 1 hg.sl (hg.lt hh) ?_));refine dl rfl (((hg.ext H).row hh).at0 rfl) (go ?_);refine⟨(x,G7 (hgt a) (R'++FH a L c) r,R'),GY,⟨H,J,O,Y,⟨A',ha⟩,Z,rfl⟩,hj⟩
   refine go ?_;refine dp (La (m:=12) (e:=3) (k:=1) Fe rfl rfl Fb) (KK Y (λw8 x8 xs8 Y=>?_) (hv:=by rfl) (ho:=by simp;omega));rw[NQ]at Y;have J:=J.mo x8;have O:=O.mo x8;have H:=H.o1 x8;refine go ?_;have hf:=hs.stop hp hph (by exact .inr ⟨tn,by rw[<-hxe];exact hkn,c3⟩);refine FJ ((r:Int)-1,p2,q.set r p2) ⟨H,J,O,Y,by omega,by omega,by rw[hp];simp,by omega,by simp [hq],λrow h1 h2=>?_⟩
   by_cases e:row=r
   ·subst e;rw[BE Fb,hf]
   ·rw[Cg Fb];exact hq2 row Fb h2
  refine go ?_;refine GL rfl (go ?_);refine dp (La (m:=12) (e:=3) (k:=1) Fe rfl rfl Fb) (KK Y (λw9 x9 xs9 Y=>?_) (hv:=by rfl) (ho:=by simp;omega));rw[NQ]at Y;have J:=J.mo x9;have O:=O.mo x9;have H:=H.o1 x9;refine go ?_;have hf:=hs.stop hp hph (by exact .inl (by rw[<-hxe];omega));refine FJ ((r:Int)-1,p2,q.set r p2) ⟨H,J,O,Y,by omega,by omega,by rw[hp];simp,by omega,by simp [hq],λrow h1 h2=>?_⟩
  by_cases e:row=r
  ·subst e;rw[BE Fb,hf]
  ·rw[Cg Fb];exact hq2 row Fb h2
 refine go ?_;refine dq (Fy (k:=12) Fe rfl (by simp [hq]) Y.row) ?_;refine OI (m:=12) (vs:=?u30) rfl rfl ?h30 Fe ?c30 ?d30 O ?n30 (.inl rfl) (λw10 hl xs10 O=>?k30)
 case h30=>conv=>lhs;whnf
 case c30=>simp [hq]
 case d30=>rfl
 case n30=>simp [Value.oneCell']
 have H:=H.o1 hl;refine go ?_;refine NZ (k:=12) rfl rfl rfl Fe (by simp [hq]) O.row ?_;exact⟨_,rfl,H,q,rfl,hq,λrow h2=>hq2 row Fb h2⟩
theorem Wz (bm:Nat)(va vd:Value)(a:List Tow)(nx:Nat->List Nat)(dr:List Nat)(n sz:Nat)(L:List Nat)(l:List Cell)(c:Cell)(w:World)(h:MemAt w bm va vd a nx dr n sz)(hs:Skip a nx L l)(hsd:FO l)(hal:a.length<=1000000) :
  FW 111 [Fg bm 0,c.v] w (I ↑((FH a L c).headD 0)):=by
 refine cE Tryz.func111 λz=>?_;have hm:=h.hm;have hA:=h.arr;refine go ?_;refine Gx rfl rfl rfl RX.all (λb1 w1 e1 x1 Z=>?_);have g1:=z.ge e1;have z:=z.trans x1;refine Gn 101010002101000 λw2 x2=>Fz x2 Z z λZ z=>?_;refine go ?_;refine dL rfl (λ_ hR=>((hm.ext (z.trans hR)).at rfl)) (go ?_);refine Gd rfl (λw' hR=>Fy (k:=4) Fe rfl rfl (Z.ext hR).row) (cG (VR bm va vd a nx dr n sz L l c _ (h.ext z) hs hsd hal) RX.ext λv3 w3 x3 O=>?_);have hsz3:=z.size;have z:=z.trans x3;obtain⟨q,rfl,hq,hf⟩:=O;obtain⟨A,i0,hp,ha,Y,J⟩:=hs.last c;obtain⟨t0,hk0⟩:∃t,a[i0]?=some t:=⟨_,Au Y⟩;have H:=h.next hs hk0;have hc:(G0 q)[0]?=some (I ↑i0):=by rw[List.getElem?_map,hf 0 Fj,ha];rfl
 refine dp (Rp (m:=12) (e:=3) Fe Fe rfl rfl Fj hc) (di 172 5 hA.sl rfl (hA.lt hk0) (df 4 (rfl) (dL rfl (λ_ hR=>(((hA.ext (z.trans hR)).row hk0).at rfl)) (di 3 1 H.sl rfl (H.lt J) (dL rfl (λ_ hR=>(((H.ext (z.trans hR)).row J).at0 rfl)) (go ?_))))));exact⟨rfl,z⟩
theorem Yc4 (bm:Nat)(va vd:Value)(a:List Tow)(nx:Nat->List Nat)(dr:List Nat)(n sz:Nat)(L:List Nat)(l:List Cell)(key:Fh)(seq:Int)(w:World)(h:MemAt w bm va vd a nx dr n sz)(hs:Skip a nx L l)(hsd:FO l)(hal:a.length<=1000000) :
  FW 112 [Fg bm 0,S key,I seq] w (.tuple #[((first l key seq).getD Cell.zero).v,B (first l key seq).isSome]):=by
 refine cE Tryz.func112 λz=>?_;have hm:=h.hm;have hA:=h.arr;refine go ?_;refine aL [S [],S [],B false,.int .i64 0] λb1 w1 e1 x1 J=>?_;have g1:=z.ge e1;have z:=z.trans x1;refine go ?_;refine dp (GS Fe rfl rfl) ?_;refine Fk (λc1=>?_) λc1=>?_
 ·cases c1
 refine go ?_;refine db (zs:=[S [],S [],B false,.int .i64 0]) (pl:=[(0,1),(1,1),(2,1),(3,1)]) (pv:=[(0,_),(3,_)]) (cs:=[_,S [],B false,_]) ?_;refine cP (Wz bm va vd a nx dr n sz L l ⟨key,[],false,seq⟩ _ (h.ext z) hs hsd hal) RX.all λw2 x2=>Fz x2 J z λJ z=>?_;refine ds1 19 (λc2=>?_) λc2=>?_
 ·have O:=hs.first_none hsd (key:=key) (seq:=seq) Fb;refine go ?_;refine GD rfl (go ?_);refine db (zs:=[S [],S [],B false,.int .i64 0]) (pl:=[(0,1),(1,1),(2,1),(3,1)]) (pv:=[]) (cs:=[S [],S [],B false,.int .i64 0]) ?_;refine Gc J (λw3 x3 xs3 J=>?_);have z:=z.o1 x3;refine go ?_;rw[O];refine It (u:=?v14) rfl rfl rfl rfl Fe rfl J.row ?h14 ?k14
  case h14=>conv=>lhs;whnf
  exact⟨rfl,z⟩
 have Y:(FH a L ⟨key,[],false,seq⟩).headD 0≠0:=by omega
 obtain⟨ti,H⟩:=hs.head_at Y;have O:=hs.first_at hsd Y H;refine go ?_;refine dl rfl ((hm.ext z).at rfl) (FK 172 5 hA.sl (hA.lt H) ?_);refine go ?_;refine dl rfl (((hA.ext z).row H).at rfl) (go ?_);refine dp (Mt rfl rfl) ?_;refine Fk (λZ=>?_) λZ=>?_
 ·refine go ?_;refine db (zs:=[S [],S [],B false,.int .i64 0]) (pl:=[(0,1),(1,1),(2,1),(3,1)]) (pv:=[]) (cs:=[S [],S [],B false,.int .i64 0]) ?_;refine Gc J (λw4 x4 xs4 J=>?_);have z:=z.o1 x4;refine go ?_;rw[O];refine It (u:=?v22) rfl rfl rfl rfl Fe rfl J.row ?h22 ?k22
  case h22=>conv=>lhs;whnf
  rw[if_neg Z];exact⟨rfl,z⟩
 refine go ?_;refine dl rfl ((hm.ext z).at rfl) (FK 172 5 hA.sl (hA.lt H) ?_);refine go ?_;refine dq (Fy Fe rfl rfl (((hA.ext z).row H).sub 0 4)) (Gc J (λw5 x5 xs5 J=>?_));have z:=z.o1 x5;refine go ?_;rw[O];refine It (u:=?v27) rfl rfl rfl rfl Fe rfl J.row ?h27 ?k27
 case h27=>conv=>lhs;whnf
 rw[if_pos (AE Z)];exact⟨rfl,z⟩
theorem Ya2 (bm:Nat)(va vd:Value)(a:List Tow)(nx:Nat->List Nat)(dr:List Nat)(n sz:Nat)(L:List Nat)(l:List Cell)(w:World)(h:MemAt w bm va vd a nx dr n sz)(hs:Skip a nx L l)(hsd:FO l)(hal:a.length<=1000000) :
  FW 43 [Fg bm 0] w (I ↑(a.length-1)):=by
 refine cE Tryz.func43 λH=>?_;have hm:=h.hm;have hA:=h.arr;refine go ?_;refine dp (GS Fe rfl rfl) ?_;refine Fk (λz=>?_) λz=>?_
 ·cases z
 refine FL 172 5 hA.sl ?_;refine go ?_;refine⟨?_,H⟩;have:=hs.len;rw[Int.ofNat_sub Fb];rfl
theorem Ui (bm:Nat)(va vd:Value)(a:List Tow)(nx:Nat->List Nat)(dr:List Nat)(n sz:Nat)(L:List Nat)(l:List Cell)(frm to:Fh)(w:World)(h:MemAt w bm va vd a nx dr n sz)(hs:Skip a nx L l)(hsd:FO l)(hal:a.length<=1000000)(hb:∀x∈l,x.seq<=4611686018427387904) :
  Gf 57 [Fg bm 0,S frm,S to] w λv' w'=>Vc.Own Cell.cs 4 79 w.heap.size w' v' (scan l frm to):=by
 refine cE Tryz.func57 λz=>?_;have hm:=h.hm;have hA:=h.arr;refine go ?_;refine dp (GS Fe rfl rfl) ?_;refine Fk (λc1=>?_) λc1=>?_
 ·cases c1
 refine go ?_;refine db (zs:=[S [],S [],B false,.int .i64 0]) (pl:=[(0,1),(1,1),(2,1),(3,1)]) (pv:=[(0,_),(3,_)]) (cs:=[_,S [],B false,_]) ?_;refine cP (Wz bm va vd a nx dr n sz L l ⟨frm,[],false,4611686018427387904⟩ _ (h.ext z) hs hsd hal) RX.all λw1 x1=>?_;have z:=z.trans x1;refine F9 (G:=List Nat×List Nat×Value) (λ(D,r,vm)=>[(0,Fg bm 0),(2,S to),(6,.slice none 0 0),(7,vm),(8,I ↑(r.headD 0))]) (λ(D,r,vm) w'=>Fp w w'/\FH a L ⟨frm,[],false,4611686018427387904⟩=D++r/\(∀i∈D,to=[]\/F0 (Ib a i).key to=true)/\Vc.Own Cell.cs 4 79 w.heap.size w' vm (D.map (Ib a))) (λ(D,r,vm)=>r.length) ([],FH a L ⟨frm,[],false,4611686018427387904⟩,.slice none 0 0) ⟨z,rfl,λi hi=>(by cases hi),Vc.Own.nil⟩ ?_;rintro _ ⟨D,r,vm⟩ w2 ⟨z,hp,hD,ho⟩;refine Fk (λc2=>?_) λc2=>?_
 ·obtain⟨i,r',rfl⟩:∃i r',r=i :: r':=by
   cases r with
   | nil=>exact absurd rfl c2
   | cons i r'=>exact⟨i,r',rfl⟩
  obtain⟨hh,hn⟩:=hs.next0 hp;obtain⟨ti,hki⟩:∃t,a[i]?=some t:=⟨_,Au (hs.mem i hh).2⟩;have J:=h.next hs hki;have O:=Oj hki;have hDl:D.length<=L.length:=by
   have h1:=X2b a L ⟨frm,[],false,4611686018427387904⟩;rw[hp,Ad]at h1;omega
  have hal2:=hs.len;refine go ?_;refine dl rfl ((hm.ext z).at rfl) (FK 172 5 hA.sl (hA.lt hki) ?_);refine go ?_;refine dq (Fy Fe rfl rfl (((hA.ext z).row hki).sub 0 4)) (aL [S [],S [],B false,.int .i64 0] λb1 w3 e1 x3 Z=>?_);have g1:=z.ge e1;have ha:=ho.ltb e1;refine Fz x3 ho z λho z=>Gc Z (λw4 x4 xs4 Z=>?_);have ho:=ho.mod x4 Fw;have z:=z.o1 x4;refine go ?_;refine dp (Mt rfl rfl) ?_;refine ds1 38 (λc3=>?_) λc3=>?_
  ·refine go ?_;refine dp (MX rfl rfl) ?_;refine FZ (λc4=>?_) λc4=>?_
   ·refine go ?_;have hg:=hs.scan_done hsd hb hp hD (λj H=>by
     first
     | (
      have hf:i=j:=by simpa using H
      subst hf;rw[O,not_or];exact⟨c3,by simpa using c4⟩)
     | (
      cases r with
      | nil=>cases H
      | cons j' r'=>exact absurd (hs.next0 hp).1 (λhm=>c2 (λe=>hs.pos hm (by have e2:((j':Nat):Int)=0:=e;omega)))))
    exact⟨_,rfl,z,by rw[hg];exact ho⟩
   refine go ?_;refine dq (Fy (k:=4) Fe rfl rfl Z.row) (lA 79 rfl λb2 w5 e2 x5 m2=>?_);have g2:=z.ge e2;have n2_1:=Z.ltb e2;have o2_ho:=ho.ltb e2;refine FB x5 ho Z z λho Z z=>G1 ti.c ho m2 λhc w6 Y x6=>?_;have Z:=Z.mod x6 (by intro h;have h1:=ha _ h;omega);have z:=z.own x6 F4;have ho:=Y;clear m2;refine go ?_;refine dl rfl ((hm.ext z).at rfl) (FK 172 5 hA.sl (hA.lt hki) ?_);refine df 4 (rfl) (dl rfl (((hA.ext z).row hki).at rfl) (di 3 1 J.sl rfl (J.lt hn) (dl rfl (((J.ext z).row hn).at0 rfl) (go ?_))));refine⟨(D++[i],r',hc),GC,⟨z,by rw[hp];simp,λj H=>?_,by rw[A6];simpa [O]using ho⟩,by simp⟩;rcases Ak.1 H with H|H
   ·exact hD j H
   ·rw[Af.1 H,O];exact .inr (by simpa using c4)
  refine go ?_;refine GL rfl (go ?_);refine dq (Fy (k:=4) Fe rfl rfl Z.row) (lA 79 rfl λb3 w7 e3 x7 m3=>?_);have g3:=z.ge e3;have o3_ho:=ho.ltb e3;refine Fz x7 ho z λho z=>G1 ti.c ho m3 λhc w8 Y x8=>?_;have z:=z.own x8 F4;have ho:=Y;clear m3;refine go ?_;refine dl rfl ((hm.ext z).at rfl) (FK 172 5 hA.sl (hA.lt hki) ?_);refine df 4 (rfl) (dl rfl (((hA.ext z).row hki).at rfl) (di 3 1 J.sl rfl (J.lt hn) (dl rfl (((J.ext z).row hn).at0 rfl) (go ?_))));refine⟨(D++[i],r',hc),GC,⟨z,by rw[hp];simp,λj H=>?_,by rw[A6];simpa [O]using ho⟩,by simp⟩;rcases Ak.1 H with H|H
  ·exact hD j H
  ·rw[Af.1 H,O];exact .inl (by simpa using c3)
 refine go ?_;have hg:=hs.scan_done hsd hb hp hD (λj H=>by
  first
  | (
   have hf:i=j:=by simpa using H
   subst hf;rw[O,not_or];exact⟨c3,by simpa using c4⟩)
  | (
   cases r with
   | nil=>cases H
   | cons j' r'=>exact absurd (hs.next0 hp).1 (λhm=>c2 (λe=>hs.pos hm (by have e2:((j':Nat):Int)=0:=e;omega)))))
 exact⟨_,rfl,z,by rw[hg];exact ho⟩
theorem Yc5 (bm:Nat)(va vd:Value)(a:List Tow)(nx:Nat->List Nat)(dr:List Nat)(n sz:Nat)(L:List Nat)(l:List Cell)(w:World)(h:MemAt w bm va vd a nx dr n sz)(hs:Skip a nx L l)(hsd:FO l)(hal:a.length<=1000000)(hb:∀x∈l,x.seq<=4611686018427387904) :
  Gf 46 [Fg bm 0] w λv' w'=>Vc.Own Cell.cs 4 79 w.heap.size w' v' l:=by
 refine cE Tryz.func46 λz=>Ge (Ui bm va vd a nx dr n sz L l [] [] _ (h.ext z) hs hsd hal hb) λv1 w1 J H=>?_;have hsz1:=z.size;have z:=z.trans J;have ho:=H;refine go ?_;exact⟨_,rfl,z,by rwa [VG]at ho⟩
def foot (bm:Nat)(va vd:Value)(a:List Tow)(k:Nat):Prop:=k=bm\/va.ownBlock=some k\/vd.ownBlock=some k\/∃t∈a,t.bk=k
section
variable {w w':World}{bm:Nat}{va vd:Value}{a:List Tow}{nx:Nat->List Nat}{dr:List Nat}{n sz:Nat}{S:Nat->Prop}{L:List Nat}{l:List Cell}
theorem MemAt.mod (h:MemAt w bm va vd a nx dr n sz)(x:Mod S w w')(hS:∀k,foot bm va vd a k->¬ S k):MemAt w' bm va vd a nx dr n sz:=
 ⟨h.hm.mod x (hS _ (.inl rfl)),h.hA.mod x (λk hk=>hS k (.inr (.inl hk))),h.hd.mod x (λk hk=>hS k (.inr (.inr (.inl hk)))),
  λi t z=>⟨(h.hN i t z).1.mod x (hS _ (.inr (.inr (.inr ⟨t,Ag z,rfl⟩)))),(h.hN i t z).2⟩,h.d2⟩
theorem MemAt.lt (h:MemAt w bm va vd a nx dr n sz){k:Nat}(hk:foot bm va vd a k):k<w.heap.size:=by
 rcases hk with rfl|hk|hk|⟨t,ht,rfl⟩
 ·exact h.hm.lt
 ·exact(h.hA.lt k hk).2
 ·exact(h.hd.lt k hk).2
 ·obtain⟨i,hi⟩:=Cd.1 ht;exact(h.hN i t hi).1.lt
theorem MemAt.setn (h:MemAt w bm va vd a nx dr n sz){n' sz':Nat}(x:Mod (Fu bm) w w')(hm:Fo w' bm [va,vd,I ↑n',I ↑sz'] 155):MemAt w' bm va vd a nx dr n' sz':=
 ⟨hm,h.hA.mod x (λk hk e=>h.hA.ne_blk h.hm rfl (by rw[hk];exact congrArg some e)),h.hd.mod x (λk hk e=>h.hd.ne_blk h.hm rfl (by rw[hk];exact congrArg some e)),
  λi t z=>⟨(h.hN i t z).1.mod x (λe=>(h.hN i t z).1.ne h.hm rfl e),(h.hN i t z).2⟩,h.d2⟩
def I0 (nx:Nat->List Nat)(p:Nat)(q:List Nat):Nat->List Nat:=λi=>if i=p then q else nx i
theorem MemAt.setN (h:MemAt w bm va vd a nx dr n sz){p:Nat}{t:Tow}{q:List Nat}(ht:a[p]?=some t)(x:Mod (Fu t.bk) w w')(hq:Fo w' t.bk (G0 q) 3)(hl:q.length=t.h):MemAt w' bm va vd a (I0 nx p q) dr n sz:=by
 refine⟨h.hm.mod x (λe=>h.hm.ne (h.hN p t ht).1 rfl e),h.hA.mod x (λk hk e=>h.hA.ne_blk (h.hN p t ht).1 rfl (by rw[hk];exact congrArg some e)),h.hd.mod x (λk hk e=>h.hd.ne_blk (h.hN p t ht).1 rfl (by rw[hk];exact congrArg some e)),
  λi s hs=>?_,h.d2⟩
 unfold I0
 by_cases e:i=p
 ·subst e;rw[ht]at hs
  cases hs
  rw[if_pos rfl];exact⟨hq,hl⟩
 ·rw[if_neg e];exact⟨(h.hN i s hs).1.mod x (λe2=>e (h.d2 i p s t hs ht e2)),(h.hN i s hs).2⟩
theorem MemAt.grow (h:MemAt w bm va vd a nx dr n sz){w1 w2:World}{va':Value}{t:Tow}{q:List Nat}{sz':Nat}(x:Mod (λk=>va.ownBlock=some k) w w1)(hA:Vc.Own Tow.enc 5 172 0 w1 va' (a++[t]))(y:Mod (Fu bm) w1 w2)
  (hm:Fo w2 bm [va',vd,I ↑n,I ↑sz'] 155) (hq:Fo w t.bk (G0 q) 3) (hl:q.length=t.h) (hn:∀s∈a,s.bk≠t.bk):MemAt w2 bm va' vd (a++[t]) (I0 nx a.length q) dr n sz':=by
 have H:Fo w1 bm [va,vd,I ↑n,I ↑sz] 155:=h.hm.mod x (λe=>h.hA.ne_blk h.hm rfl e);have J:∀ {b:Nat} {cs:List Value},Fo w b cs 3->Fo w2 b cs 3:=λ {b cs} hb=>(hb.mod x (λe=>h.hA.ne_blk hb rfl e)).mod y (λe=>hb.ne h.hm rfl e);refine⟨hm,hA.mod y (λk hk e=>hA.ne_blk H rfl (by rw[hk];exact congrArg some e)),(h.hd.mod x (λk hk e=>h.hd.ne h.hA rfl hk e)).mod y (λk hk e=>h.hd.ne_blk h.hm rfl (by rw[hk];exact congrArg some e)),λi s hs=>?_,λi j s u hs hu e=>?_⟩
 ·by_cases hi:i<a.length
  ·rw[Bu hi]at hs;unfold I0;rw[if_neg Fb];exact⟨J (h.hN i s hs).1,(h.hN i s hs).2⟩
  ·have z:=(Ap.1 hs).1;rw[Ad]at z;have e:i=a.length:=by simp at z;omega
   subst e;rw[BJ (Aa _)]at hs;simp at hs;subst hs;unfold I0;rw[if_pos rfl];exact⟨J hq,hl⟩
 ·have at':∀(i:Nat) (s:Tow),(a++[t])[i]?=some s->(i<a.length/\a[i]?=some s)\/(i=a.length/\s=t):=λi s hs=>by
   by_cases hi:i<a.length
   ·rw[Bu hi]at hs;exact .inl ⟨hi,hs⟩
   ·have z:=(Ap.1 hs).1;rw[Ad]at z;have e:i=a.length:=by simp at z;omega
    subst e;rw[BJ (Aa _)]at hs;simp at hs;exact .inr ⟨rfl,hs.symm⟩
  rcases at' i s hs with⟨_,h1⟩|⟨h1,rfl⟩<;>rcases at' j u hu with⟨_,h2⟩|⟨h2,rfl⟩
  ·exact h.d2 i j s u h1 h2 e
  ·exact absurd e (hn s (Ag h1))
  ·exact absurd e.symm (hn u (Ag h2))
  ·omega
end
def Ga (F:Nat->Prop)(w:World)(bm:Nat)(l:List Cell):Prop:=∃(va vd:Value) (a:List Tow) (nx:Nat->List Nat) (dr:List Nat) (L:List Nat),
 MemAt w bm va vd a nx dr l.length (HE l)/\Skip a nx L l/\FO l/\(∀k,foot bm va vd a k->F k)/\(∀k,F k->k<w.heap.size)
variable {F:Nat->Prop}
theorem Ga.mod {S:Nat->Prop}{bm:Nat}(h:Ga F w bm l)(x:Mod S w w')(hS:∀k,F k->¬ S k):Ga F w' bm l:=by
 obtain⟨va,vd,a,nx,dr,L,h1,h2,h3,h4,z⟩:=h;exact⟨va,vd,a,nx,dr,L,h1.mod x (λk hk=>hS k (h4 k hk)),h2,h3,h4,λk hk=>Ax (z k hk) x.size⟩
theorem Ga.ext {bm:Nat}(h:Ga F w bm l)(x:Fp w w'):Ga F w' bm l:=h.mod x (λ_ _ h=>h)
instance {F : Nat->Prop} {w w':World} {bm:Nat} {l:List Cell} : Up w w' (Ga F w bm l) (Ga F w' bm l):=⟨λx h=>Ga.ext h x⟩
theorem Ga.more {bm:Nat}(h:Ga F w bm l)(x:Fp w w'):Ga (OF F w w') w' bm l:=by
 obtain⟨va,vd,a,nx,dr,L,h1,h2,h3,h4,z⟩:=h.ext x;exact⟨va,vd,a,nx,dr,L,h1,h2,h3,λk hk=>.inl (h4 k hk),λk hk=>hk.elim (z k) (λh=>h.2)⟩
theorem X2c {nxk:Nat->List Nat}{q:List Nat}{k p x:Nat}(hlay:∀i row,i<a.length->row<hgt a i->(nxk i)[row]?=if row<k/\q[row]?=some i then some x else(nx i)[row]?)(hq:q[k]?=some p)(hl:k<(nxk p).length):
  ∀i row,i<a.length->row<hgt a i->(I0 nxk p ((nxk p).set k x) i)[row]?=if row<k+1/\q[row]?=some i then some x else(nx i)[row]?:=by
 intro i row hi z;unfold I0
 by_cases e:i=p
 ·subst e;rw[if_pos rfl]
  by_cases e2:row=k
  ·subst e2;rw[BE hl,if_pos ⟨by omega,hq⟩]
  ·rw[Cg Fb,hlay i row hi z]
   by_cases e3:row<k/\q[row]?=some i
   ·rw[if_pos e3,if_pos ⟨by omega,e3.2⟩]
   ·rw[if_neg e3,if_neg (λh=>e3 ⟨by omega,h.2⟩)]
 ·rw[if_neg e,hlay i row hi z]
  by_cases e3:row<k/\q[row]?=some i
  ·rw[if_pos e3,if_pos ⟨by omega,e3.2⟩]
  ·rw[if_neg e3,if_neg (λh=>e3 ⟨by
    have:row≠k:=λH=>by rw[H,hq]at h;exact e (Al.inj h.2).symm
    omega,h.2⟩)]
structure TowS (t:Tow):Prop where
 sl:Fv t.sl t.h
theorem Pp (t:Tow):TowS t:=⟨.inr (.inl ⟨t.bk,0,t.h,rfl,Aa _⟩)⟩
theorem X7x {h:Nat->Nat}{S tn:List Nat}{k:Nat}(ht:∀row,row<k->tn[row]?=some (G7 h S row))(hl:k<tn.length):∀row,row<k+1->(tn.set k (G7 h S k))[row]?=some (G7 h S row):=λrow hr=>by
 by_cases e:row=k
 ·subst e;rw[BE hl]
 ·rw[Cg Fb];exact ht row Fb
theorem We (bm:Nat)(va vd:Value)(dr:List Nat)(n sz:Nat)(w:World)(hm:Fo w bm [va,vd,I n,I sz] 155)(hd:Vc.Own Jy 1 174 0 w vd dr)(hn:n<=1000000) :
  Gy 168 [Fg bm 0] w (Fu bm) λv w'=>∃hh:Nat,v=I ↑hh/\1<=hh/\hh<=12/\Fo w' bm [va,vd,I ↑(n+1),I sz] 155:=by
 refine cE Tryz.func168 λz=>?_;have H:Fs Jy 1 w vd dr:=hd.arr (λx=>rfl);have hne:dr≠[]->¬ Fu bm (base vd).1:=λhl e=>hd.ne_blk hm rfl (by rw[<-e];exact hd.base_block hl);refine go ?_;refine dp (JS (k:=.u32) rfl Fe Fe) (dp (UC rfl rfl) (g0 ?_));refine GK (G:=Int) (λd=>[(0,Fg bm 0),(2,I 0),(3,.int .u32 d)]) (λd w'=>Fp w w'/\True) ?_ ?_
 ·refine FL 174 1 H.sl ?_;refine Fk (λO=>?_) λO=>?_
  ·have J:0<dr.length:=by omega
   obtain⟨u,hkd⟩:∃u,dr[n % dr.length]?=some u:=⟨_,Au (Be _ J)⟩;refine wd 10010001000100010000 λw1 Z=>?_;have z:=z.trans Z;refine go ?_;refine dL rfl (λ_ hR=>((hm.ext (z.trans hR)).at rfl)) (go ?_);refine dL rfl (λ_ hR=>((hm.ext (z.trans hR)).at rfl)) (go ?_);refine dL rfl (λ_ hR=>((hm.ext (z.trans hR)).at rfl)) (dv 174 1 H.sl (dp (N8 rfl rfl Fb Fb) (dp (Ii (i:=n % dr.length) (e:=174) (k:=1) Fe H.sl rfl rfl (H.lt hkd)) (dL rfl (λ_ hR=>(((H.ext (z.trans hR)).row hkd).at0 rfl)) (dp (LN Fj rfl rfl) (go ?_))))));exact⟨_,Kv,z,trivial⟩
  refine go ?_;exact⟨_,Kv,z,trivial⟩
 rintro _ d w2 ⟨z,_⟩;refine go ?_;refine dl rfl ((hm.ext z).at rfl) (go ?_);refine KK (hm.ext z) (λw3 Y xs3 hm=>?_) (hv:=by rfl);dsimp only [Gr,AN,AL,List.drop]at hm;have z:=(z.mod Y).mono (λi hi _=>(hi:(Fu bm) i));refine F9 (G:=Int×Nat) (λ(d,hh)=>[(2,I 0),(3,.int .u32 d),(4,I ↑hh)]) (λ(d,hh) w'=>Mod (Fu bm) w w'/\Fo w' bm [va,vd,I ↑(n+1),I ↑sz] 155/\1<=hh/\hh<=12) (λ(d,hh)=>12-hh) (d,1) ⟨z,hm,by omega,by omega⟩ ?_;rintro _ ⟨d,hh⟩ w4 ⟨z,hm,hh1,hh2⟩;refine ds1 44 (λc2=>?_) λc2=>?_
 ·refine go ?_;refine dp (LN Fj rfl rfl) ?_;refine Fk (λc3=>?_) λc3=>?_
  ·refine go ?_;refine dp (Ol rfl rfl Fj) (go ?_);exact⟨(_,hh+1),Kv,⟨z,hm,by omega,by omega⟩,by simp only [];omega⟩
  refine go ?_;exact⟨_,rfl,z,hh,rfl,hh1,hh2,hm⟩
 refine go ?_;refine GL rfl (go ?_);exact⟨_,rfl,z,hh,rfl,hh1,hh2,hm⟩
theorem Ya3 (bm:Nat)(va vd:Value)(a:List Tow)(nx:Nat->List Nat)(dr:List Nat)(n sz:Nat)(L:List Nat)(l:List Cell)(F:Nat->Prop)(c:Cell)(w:World)(h:MemAt w bm va vd a nx dr n sz)(hs:Skip a nx L l)(hsd:FO l)(hal:a.length<=1000000)(hszl:sz=HE l)(hnl:n=l.length)(hF:∀k,foot bm va vd a k->F k)(hFl:∀k,F k->k<w.heap.size)(hszb:sz<=1000000000000) :
  Calls Tryz.prog 89 [Fg bm 0,c.v].toArray w (λe w'=>e=.returned (B (put l c).1)/\Mod F w w'/\Ga (OF F w w') w' bm (put l c).2):=by
 refine cE Tryz.func89 λH=>?_;have z:=h;have hf:∀k,foot bm va vd a k->k<w.heap.size:=λk hk=>hFl k (hF k hk);have hbm:bm<w.heap.size:=hf bm (.inl rfl);have xn:Ga F w bm l:=⟨va,vd,a,nx,dr,L,by rw[<-hnl,<-hszl];exact h,hs,hsd,hF,hFl⟩;have hal2:=hs.len;have hlL:l.length=L.length:=(congrArg A5 hs.cells).trans (Aw ..);refine go ?_;refine Gx rfl rfl rfl RX.all (λb1 w1 e1 x1 J=>?_);have g1:=H.ge e1;refine Fz x1 z H λz H=>go ?_;refine dp (GS Fe rfl rfl) ?_;refine ds1 12 (λc1=>?_) λc1=>?_
 ·cases c1
 refine dq (Fy (k:=4) Fe rfl rfl J.row) (cP (SE c _) RX.all λw2 x2=>FB x2 z J H λz J H=>?_);refine FZ (λc2=>?_) λc2=>?_
 ·refine go ?_;refine go ?_;have hp:put l c=(false,l):=by simp at c2;simp [put,c2]
  rw[hp];exact⟨rfl,H.mono (λ_ h _=>h.elim),xn.more H⟩
 have hw:Gk c=true:=by simpa using c2
 refine go ?_;refine dq (Fy (k:=4) Fe rfl rfl J.row) (cG (VR bm va vd a nx dr n sz L l c _ z hs hsd hal) RX.all λv3 w3 x3 yt=>?_);have hsz3:=H.size;refine FB x3 z J H λz J H=>?_;obtain⟨q,rfl,hq,xv⟩:=yt;obtain⟨A,i0,hp,yq,yj,xz⟩:=hs.last c;obtain⟨t0,hk0⟩:∃t,a[i0]?=some t:=⟨_,Au yj⟩;have yv:q[0]?=some i0:=by rw[xv 0 Fj,yq]
 refine aL [.int .i64 0,.int .i64 0,.int .i64 0,.int .i64 0,.int .i64 0,.int .i64 0,.int .i64 0,.int .i64 0,.int .i64 0,.int .i64 0,.int .i64 0,.int .i64 0] λb2 w4 e2 x4 O=>?_;have g2:=H.ge e2;have n2_1:=J.ltb e2;refine FB x4 z J H λz J H=>?_;refine OI (m:=12) (vs:=?u9) rfl rfl ?h9 Fe ?c9 ?d9 O ?n9 (.inl rfl) (λw5 x5 xs5 O=>?k9)
 case h9=>conv=>lhs;whnf
 case c9=>simp [hq]
 case d9=>rfl
 case n9=>simp [Value.oneCell']
 have z:=z.mod x5 (λk hk e=>by have h1:=hf k hk;have h2:k=b2:=e;omega);have J:=J.mo x5;have H:=H.o1 x5;refine g0 ?_;refine GK (G:=Unit) (λu=>[(0,Fg bm 0),(3,Fg b1 0),(5,Fg b2 0)]) (λu w'=>Fp w w'/\MemAt w' bm va vd a nx dr n sz/\Fo w' b1 c.cs 79/\Fo w' b2 (G0 q) 244/\has l c=false) ?_ ?_
 ·refine Gn 1010100101000 λw6 x6=>FP x6 z J O H λz J O H=>?_;refine go ?_;refine dL rfl (λ_ hR=>((z.hm.ext hR).at rfl)) (dp (La (m:=12) (e:=3) (k:=1) Fe rfl rfl Fj) (dL rfl (λ_ hR=>((O.ext hR).at (MN yv))) (di 172 5 z.arr.sl rfl (z.arr.lt hk0) (df 4 (rfl) (dL rfl (λ_ hR=>(((z.arr.ext hR).row hk0).at rfl)) (di 3 1 (z.next hs hk0).sl rfl ((z.next hs hk0).lt xz) (dL rfl (λ_ hR=>((((z.next hs hk0).ext hR).row xz).at0 rfl)) (Gn 1002100010001000 λw7 x7=>FP x7 z J O H λz J O H=>?_))))))));refine ds1 33 (λc3=>?_) λc3=>?_
  ·have xi:(FH a L c).headD 0≠0:=by omega
   obtain⟨ti,xu⟩:=hs.head_at xi;have Z:=hs.has_at xi xu;refine Gd rfl (λw' hR=>Fy (k:=4) Fe rfl rfl (J.ext hR).row) (go ?_);refine dL rfl (λ_ hR=>((z.hm.ext hR).at rfl)) (FK 172 5 z.arr.sl (z.arr.lt xu) ?_);refine go ?_;refine Gd rfl (λw' hR=>Fy Fe rfl rfl (((z.arr.ext hR).row xu).sub 0 4)) (cP (Oc c ti.c _) RX.ext λw8 x8=>FP x8 z J O H λz J O H=>?_);refine FZ (λc4=>?_) λc4=>?_
   ·refine go ?_;refine go ?_;have hp:put l c=(false,l):=by rw[c4]at Z;simp [put,Z]
    rw[hp];exact⟨rfl,H.mono (λ_ h _=>h.elim),xn.more H⟩
   refine go ?_;exact⟨(),Kv,H,z,J,O,by rw[Z];simpa using c4⟩
  have Z:=hs.has_none (c:=c) Fb;refine go ?_;refine GL rfl (go ?_);exact⟨(),Kv,H,z,J,O,by exact Z⟩
 rintro _ u w9 ⟨H,z,J,O,hhas⟩;refine GK (G:=Nat×Nat×Nat) (λ(bn,bt,Y)=>[(0,Fg bm 0),(3,Fg b1 0),(5,Fg b2 0),(7,Fg bt 0)]) (λ(bn,bt,Y) w'=>Mod F w w'/\Fo w' b1 c.cs 79/\Fo w' b2 (G0 q) 244/\Fo w' bt (Tow.enc ⟨c,bn,Y⟩) 172/\Fo w' bn (G0 (An Y 0)) 3/\MemAt w' bm va vd a nx dr (n+1) sz/\1<=Y/\Y<=12/\w.heap.size<=bn/\w.heap.size<=bt) ?_ ?_
 ·refine Kf (R:=Mod (Fu bm)) HT Ir Fe [0] (.one 0 .l false (.one 1 .p false (.fork (.alt 2 false (.fork (.alt 3 false (.one 4 .p false (.one 5 .x false (.one 6 .x true .nil))) (.alt 5 false (.one 3 .x false (.one 4 .p false (.one 6 .x true .nil))) .stop))) (.alt 5 false (.one 2 .x false (.one 3 .x false (.one 4 .p false (.one 6 .x true .nil)))) .stop))))) Fe Fe (λw10 xm=>?_);have ym:=FC xm;clear xm;refine FP ym z J O H λz J O H=>go ?_;refine Gd rfl (λw' hR=>Fy (k:=4) Fe rfl rfl (J.mod hR (λe=>J.ne z.hm rfl e)).row) (go ?_);refine IQ ?_;refine Hc ?_ ?_
  ·refine J8 rfl Fe (We bm va vd dr n sz _ z.hm z.hd Fb) rfl (.inr λ_ h=>h) (λv11 w11 xf yb=>?_);have hsz11:=H.size;have J:=J.mod xf Fw;have O:=O.mod xf Fw;have H:=(H.mod xf).mono (λi hi hc=>((by rw[show i=bm from hi];exact hF bm (.inl rfl)):F i));obtain⟨Y,rfl,hz,ha,hg⟩:=yb;have z:=z.setn xf hg;refine go ?_;refine IQ ?_;refine Hc ?_ ?_
   ·refine Mk (e:=3) (sz:=1) (by':=8) (zs:=[.int .i64 0]) rfl Fe Fe Fe rfl rfl Fb Fb RX.mod (λb3 w12 e3 yp m3=>?_);have g3:=H.ge e3;have n3_1:=J.ltb e3;have n3_2:=O.ltb e3;refine FP yp J O z H λJ O z H=>go ?_;refine db (zs:=[S [],S [],B false,.int .i64 0,.slice none 0 0]) (pl:=[(0,4),(4,1)]) (pv:=[(0,.agg ⟨[_,_,_,_]⟩),(1,_)]) (cs:=[_,_,_,_,_]) ?_;refine go ?_;refine aL [S [],S [],B false,.int .i64 0,.slice none 0 0] (λb4 w13 e4 yk m4=>?_) (hR:=RX.mod);have g4:=H.ge e4;have n4_1:=J.ltb e4;have n4_2:=O.ltb e4;have n4_3:=m3.ltb e4;refine FV yk J O z m3 H λJ O z m3 H=>go ?_;refine Gc m4 (λw14 xa xs14 m4=>?_);have J:=J.mo xa;have O:=O.mo xa;have z:=z.mod xa (λk hk e=>by have h1:=hf k hk;have h2:k=b4:=e;omega);have m3:=m3.mo xa;have H:=H.o1 xa;refine go ?_;refine⟨(b3,b4,Y),He,H,J,O,m4,?_,z,hz,ha,g3,g4⟩;have hl:=m3;rw[Qx]at hl;exact hl
   refine Hc ?_ ?_
   ·refine aL [S [],S [],B false,.int .i64 0,.slice none 0 0] (λb5 w15 e5 y4 m5=>?_) (hR:=RX.mod);have g5:=H.ge e5;have n5_1:=J.ltb e5;have n5_2:=O.ltb e5;refine FP y4 J O z H λJ O z H=>go ?_;refine Mk (e:=3) (sz:=1) (by':=8) (zs:=[.int .i64 0]) rfl Fe Fe Fe rfl rfl Fb Fb RX.mod (λb6 w16 e6 yg m6=>?_);have g6:=H.ge e6;have n6_1:=J.ltb e6;have n6_2:=O.ltb e6;have n6_5:=m5.ltb e6;refine FV yg J O z m5 H λJ O z m5 H=>go ?_;refine db (zs:=[S [],S [],B false,.int .i64 0,.slice none 0 0]) (pl:=[(0,4),(4,1)]) (pv:=[(0,.agg ⟨[_,_,_,_]⟩),(1,_)]) (cs:=[_,_,_,_,_]) ?_;refine go ?_;refine Gc m5 (λw17 h7 xs17 m5=>?_);have J:=J.mo h7;have O:=O.mo h7;have z:=z.mod h7 (λk hk e=>by have h1:=hf k hk;have h2:k=b5:=e;omega);have m6:=m6.mo h7;have H:=H.o1 h7;refine go ?_;refine⟨(b6,b5,Y),He,H,J,O,m5,?_,z,hz,ha,g6,g5⟩;have hl:=m6;rw[Qx]at hl;exact hl
   exact IZ
  refine Hc ?_ ?_
  ·refine aL [S [],S [],B false,.int .i64 0,.slice none 0 0] (λb7 w18 e7 yh m7=>?_) (hR:=RX.mod);have g7:=H.ge e7;have n7_1:=J.ltb e7;have n7_2:=O.ltb e7;refine FP yh z J O H λz J O H=>go ?_;refine J8 rfl Fe (We bm va vd dr n sz _ z.hm z.hd Fb) rfl (.inr λ_ h=>h) (λv19 w19 h6 x9=>?_);have hsz19:=H.size;have J:=J.mod h6 Fw;have O:=O.mod h6 Fw;have m7:=m7.mod h6 Fw;have H:=(H.mod h6).mono (λi hi hc=>((by rw[show i=bm from hi];exact hF bm (.inl rfl)):F i));obtain⟨Y,rfl,hz,ha,hg⟩:=x9;have z:=z.setn h6 hg;refine go ?_;refine Mk (e:=3) (sz:=1) (by':=8) (zs:=[.int .i64 0]) rfl Fe Fe Fe rfl rfl Fb Fb RX.mod (λb8 w20 e8 yn m8=>?_);have g8:=H.ge e8;have n8_1:=J.ltb e8;have n8_2:=O.ltb e8;have n8_7:=m7.ltb e8;refine FV yn J O m7 z H λJ O m7 z H=>go ?_;refine db (zs:=[S [],S [],B false,.int .i64 0,.slice none 0 0]) (pl:=[(0,4),(4,1)]) (pv:=[(0,.agg ⟨[_,_,_,_]⟩),(1,_)]) (cs:=[_,_,_,_,_]) ?_;refine go ?_;refine Gc m7 (λw21 xd xs21 m7=>?_);have J:=J.mo xd;have O:=O.mo xd;have z:=z.mod xd (λk hk e=>by have h1:=hf k hk;have h2:k=b7:=e;omega);have m8:=m8.mo xd;have H:=H.o1 xd;refine go ?_;refine⟨(b8,b7,Y),He,H,J,O,m7,?_,z,hz,ha,g8,g7⟩;have hl:=m8;rw[Qx]at hl;exact hl
  exact IZ
 rintro _ ⟨bn,bt,Y⟩ w22 ⟨H,J,O,hT,hB,z,hz,ha,hbn,hbt⟩;refine go ?_;refine df 4 (rfl) (FL 3 1 (Pp ⟨c,bn,Y⟩).sl ?_);refine F9 (G:=Nat×List Nat×(Nat->List Nat)) (λ(k,tn,nxk)=>[(0,Fg bm 0),(3,Fg b1 0),(5,Fg b2 0),(7,Fg bt 0),(53,I ↑Y),(54,I ↑k)]) (λ(k,tn,nxk) w'=>Mod F w w'/\Fo w' b1 c.cs 79/\Fo w' b2 (G0 q) 244/\Fo w' bt (Tow.enc ⟨c,bn,Y⟩) 172/\Fo w' bn (G0 tn) 3/\MemAt w' bm va vd a nxk dr (n+1) sz/\k<=Y/\tn.length=Y/\(∀row,row<k->tn[row]?=some (G7 (hgt a) (FH a L c) row))/\(∀i row,i<a.length->row<hgt a i->(nxk i)[row]?=if row<k/\q[row]?=some i then some a.length else(nx i)[row]?)) (λ(k,tn,nxk)=>Y-k) (0,An Y 0,nx) ⟨H,J,O,hT,hB,z,Ab _,by simp,λrow h=>absurd h (Bg _),λi row _ _=>by rw[if_neg (λe=>absurd e.1 (Bg _))]⟩ ?_;rintro _ ⟨k,tn,nxk⟩ w23 ⟨H,J,O,hT,hB,z,hkh,xe,htr,hlay⟩;refine Fk (λc5=>?_) λc5=>?_
 ·have xo:k<12:=by omega
  have xq:=xv k xo;obtain⟨A',R',xt,xr,yu⟩:=hs.last_in c xo;obtain⟨p,hpe⟩:∃p,Hy (hgt a) (0 :: FN a L c) k=p:=⟨_,rfl⟩;rw[hpe]at xq xt xr;have yd:p∈0 :: FN a L c:=by rw[xt];simp
  have ya:p<a.length:=by
   rcases Ah.1 yd with e|e
   ·rw[e];exact hs.mem0 Ai
   ·exact hs.mem0 (Ao _ (NC e))
  obtain⟨tp,hkp⟩:∃t,a[p]?=some t:=⟨_,Au ya⟩;have yf:foot bm va vd a tp.bk:=.inr (.inr (.inr ⟨tp,Ag hkp,rfl⟩));have xg:(nxk p)[k]?=some (G7 (hgt a) (FH a L c) k):=by
   rw[hlay p k ya xr,if_neg (λe=>absurd e.1 (A4 _)),hs.nextR xt xr,RB yu]
  have yc:k<(nxk p).length:=(Ap.1 xg).1;refine Gn 1001001000 λw24 y2=>H3 y2 J O hT hB z H λJ O hT hB z H=>?_;refine go ?_;refine dL rfl (λ_ hR=>((z.hm.ext hR).at rfl)) (go ?_);refine dp (La (m:=12) (e:=3) (k:=1) Fe rfl rfl Fb) (dL rfl (λ_ hR=>((O.ext hR).at (MN xq))) (di 172 5 z.arr.sl rfl (z.arr.lt hkp) (Gn 1505001000100100001000010 λw25 y3=>H3 y3 J O hT hB z H λJ O hT hB z H=>?_)));refine df 4 (rfl) (go ?_);refine df 4 (rfl) (dL rfl (λ_ hR=>(((z.arr.ext hR).row hkp).at rfl)) (go ?_));refine df 4 (rfl) (dL rfl (λ_ hR=>(((z.arr.ext hR).row hkp).at rfl)) (go ?_));refine di 3 1 (z.next hs hkp).sl rfl ((z.next hs hkp).lt xg) (dL rfl (λ_ hR=>((((z.next hs hkp).ext hR).row xg).at0 rfl)) (go ?_));refine dL rfl (λ_ hR=>((z.hm.ext hR).at rfl)) (dv 172 5 z.arr.sl (di 3 1 (Pp ⟨c,bn,Y⟩).sl rfl (show k<Y by omega) ?_));refine JV (b:=bn) (o:=0+k*1) (v:=?v40) rfl rfl ?h40 ?n40 Fe (hB) ?o40 (.inl rfl) (λy5 h5 xs26 ye=>?k40)
  case h40=>conv=>lhs;whnf
  case n40=>rfl
  case o40=>simp;omega
  have J:=J.mod h5 (λe=>J.ne hB rfl e);have O:=O.mod h5 (λe=>O.ne hB rfl e);have hT:=hT.mod h5 (λe=>hT.ne hB rfl e);have z:=z.mod h5 (λk hk e=>by have h1:=hf k hk;have h2:k=bn:=e;omega);have H:=H.own h5 F4;have hB:Fo y5 bn (G0 (tn.set k (G7 (hgt a) (FH a L c) k))) 3:=by
   have e:=ye;rw[NQ]at e;exact e
  have xc:=xe;have xe:(tn.set k (G7 (hgt a) (FH a L c) k)).length=Y:=by rw[A9];exact xc
  refine di 3 1 (z.next hs hkp).sl rfl ((z.next hs hkp).lt xg) ?_;refine JV (b:=tp.bk) (o:=0+k*1) (v:=?v41) rfl rfl ?h41 ?n41 Fe ((z.hN p tp hkp).1) ?o41 (.inl rfl) (λw27 hy xs27 xy=>?k41)
  case h41=>conv=>lhs;whnf
  case n41=>rfl
  case o41=>simp;omega
  have J:=J.mod hy (λe=>J.ne (z.hN p tp hkp).1 rfl e);have O:=O.mod hy (λe=>O.ne (z.hN p tp hkp).1 rfl e);have hT:=hT.mod hy (λe=>hT.ne (z.hN p tp hkp).1 rfl e);have hB:=hB.mod hy (λe=>by have h1:=hf tp.bk yf;have h2:bn=tp.bk:=e;omega);have H:=H.own hy (λi hi hc=>hF i (.inr (.inr (.inr ⟨tp,Ag hkp,Eq.symm hi⟩))));have z:=z.setN (q:=(nxk p).set k a.length) hkp hy (by have e:=xy;rw[NQ]at e;exact e) (by rw[A9];exact(z.hN p tp hkp).2);refine go ?_;refine FJ (k+1,tn.set k (G7 (hgt a) (FH a L c) k),I0 nxk p ((nxk p).set k a.length)) ⟨H,J,O,hT,hB,z,by omega,xe,X7x htr Fb,X2c hlay xq yc⟩
 refine go ?_;refine HM (R:=Mod (λk=>va.ownBlock=some k)) HT Ir Fe [4,5] [(0,.p,false),(1,.p,false),(2,.p,false),(3,.p,false),(4,.l,false),(5,.l,false),(6,.x,false),(7,.x,false),(8,.p,false),(9,.p,false),(10,.x,true)] rfl Fe Fe (λw28 xp=>?_);have y1:=FC xp;clear xp;refine FV y1 J hT hB z H λJ hT hB z H=>go ?_;refine dL rfl (λ_ hR=>((z.hm.mod hR (λe=>z.hA.ne_blk z.hm rfl e)).at rfl)) (Gd rfl (λw' hR=>Fy (k:=5) Fe rfl rfl (hT.mod hR (λe=>by have h1:=hf bt (.inr (.inl e));omega)).row) (lA 172 rfl (λb9 yy e9 yr m9=>?_) (hR:=RX.mod)));have g9:=H.ge e9;have n9_1:=J.ltb e9;refine FP yr J hB z H λJ hB z H=>?_;refine LY (e:=172) (sz:=5) (by':=72) rfl Fe Fe Ff z.hA (m9.arr (enc:=Tow.enc) (sz:=5) (l:=[⟨c,bn,Y⟩]) rfl Ff rfl F5) rfl rfl (by intro x H u hu;simp at H;subst H;simp at hu;rcases hu with rfl|rfl|rfl|rfl|rfl<;>rfl) (by simp;omega) Fj (Ab _) (.inr λ_ h=>h) (λvp y0 xk h8 yz=>?_);have xb:=z;have yi:=hB;have hwA:yy.heap.size<=y0.heap.size:=h8.size;have hsA:=H.size;have J:=J.mod h8 (λe=>xb.hA.ne_blk J rfl e);have H:=H.own h8 (λi hi hc=>hF i (.inr (.inl hi)));have hg:=xb.hm.mod h8 (λe=>xb.hA.ne_blk xb.hm rfl e);refine go ?_;refine JV (b:=bm) (o:=0) (v:=?v46) rfl rfl ?h46 ?n46 Fe (hg) ?o46 (.inl rfl) (λw31 xw xs31 xh=>?k46)
 case h46=>conv=>lhs;whnf
 case n46=>exact Fv.one xk.sl
 case o46=>exact Aj rfl
 have J:=J.mod xw Fw;have H:=H.own xw (λi hi hc=>hF i (.inl hi));dsimp only [AN]at xh;have z:=xb.grow (t:=⟨c,bn,Y⟩) (q:=tn) h8 xk xw xh yi xe (λs hs e=>by have h1:=hf s.bk (.inr (.inr (.inr ⟨s,hs,rfl⟩)));have h2:s.bk=bn:=e;omega);refine Gn 15000211000 λw32 yo=>FB yo J z H λJ z H=>?_;refine go ?_;refine dL rfl (λ_ hR=>((z.hm.ext hR).at rfl)) (Gd rfl (λw' hR=>Fy (k:=4) Fe rfl rfl (J.ext hR).row) (cP (Sm c _ (by simp only [Gk,Aq,decide_eq_true_eq]at hw;omega) (by simp only [Gk,Aq,decide_eq_true_eq]at hw;omega)) RX.ext λw33 yl=>Fz yl z H λz H=>dp (GJ rfl rfl (by simp only [Gk,Aq,decide_eq_true_eq]at hw;unfold Fx G5;omega)) (go ?_)));refine JV (b:=bm) (o:=3) (v:=?v48) rfl rfl ?h48 ?n48 Fe (z.hm) ?o48 (.inl rfl) (λw34 x0 xs34 xj=>?k48)
 case h48=>conv=>lhs;whnf
 case n48=>rfl
 case o48=>exact Aj rfl
 have H:=H.own x0 (λi hi hc=>hF i (.inl hi));dsimp only [AN]at xj;have z:=z.setn (n':=n+1) (sz':=sz+G5 c) x0 xj;refine go ?_;refine go ?_;have hp:put l c=(true,pre l c++c :: Iq l c):=by simp [put,hhas,hw]
 rw[hp];have yx:k=Y:=by omega
 have xx:∀i,i<a.length->(nx i).length=hgt a i/\(I0 nxk a.length tn i).length=hgt a i:=λi hi=>by
  have ht:a[i]?=some a[i]:=Au hi;rw[X4w ht];exact⟨(h.hN i _ ht).2,(z.hN i a[i] (by rw[Bu hi];exact ht)).2⟩
 have yw:=hs.put (t:=⟨c,bn,Y⟩) (nx2:=I0 nxk a.length tn) rfl ⟨hz,ha⟩ xx (λrow hr=>by
  have hr':row<Y:=hr;unfold I0;rw[if_pos rfl];exact htr row Fb) (λi row hi hr=>by
  unfold I0;rw[if_neg Fb,hlay i row hi hr];have hhi:=(hs.hle i hi).2;have e:(row<k/\q[row]?=some i)↔(row<Y/\Hy (hgt a) (0 :: FN a L c) row=i):=by rw[xv row Fb,Al.injEq,yx]
  by_cases h1:row<k/\q[row]?=some i
  ·rw[if_pos h1,if_pos (e.1 h1)]
  ·rw[if_neg h1,if_neg (λh2=>h1 (e.2 h2))])
 have xl:=hsd.put c;rw[hp]at xl;refine⟨rfl,H,vp,vd,a++[⟨c,bn,Y⟩],I0 nxk a.length tn,dr,_,by rw[Xx2,Xqf,<-hnl,<-hszl];exact z,yw,xl,λj hj=>?_,λj hj=>hj.elim (λh=>Ax (hFl j h) H.size) (λh=>h.2)⟩;have hc:=z.lt hj;rcases hj with rfl|hj|hj|⟨s,hs',rfl⟩
 ·exact .inl (hF _ (.inl rfl))
 ·rcases yz with e|e
  ·exact .inl (hF j (.inr (.inl (by rw[<-e];exact hj))))
  ·rw[e]at hj;have e2:=Al.inj hj;exact .inr ⟨by omega,hc⟩
 ·exact .inl (hF j (.inr (.inr (.inl hj))))
 ·rcases Ak.1 hs' with hm|hm
  ·exact .inl (hF _ (.inr (.inr (.inr ⟨s,hm,rfl⟩))))
  ·rw[Af.1 hm]at hc ⊢;exact .inr ⟨hbn,hc⟩
theorem Rs {w0:World}{b3 b5 b9:Nat}{vc:Value}(m3:Fo w b3 ((An 12 [I 0]).flatten) 3)(m5:Fo w b5 [S [],S [],B false,I 0,.slice (some ⟨b3,0,none⟩) 12 12] 172)(hc:Vc.Own Jy 1 174 w0.heap.size w vc dr)(m9:Fo w b9 [.slice (some ⟨b5,0,none⟩) 1 1,vc,I 0,I 0] 155)(g3:w0.heap.size<=b3)(g5:w0.heap.size<=b5)(g9:w0.heap.size<=b9):
  Ga (λk=>w0.heap.size<=k/\k<w.heap.size) w b9 []:=by
 rw[Qx]at m3;have J:MemAt w b9 (.slice (some ⟨b5,0,none⟩) 1 1) vc [⟨Cell.zero,b3,12⟩] (λ_=>An 12 0) dr 0 0:=by
  refine⟨m9,m5.own (enc:=Tow.enc) (l:=[⟨Cell.zero,b3,12⟩]) (Ab _) rfl Ff rfl F5,hc.mono (Ab _),λi t z=>?_,λi j s t hs z _=>?_⟩
  ·cases i with
   | zero=>simp at z;subst z;exact⟨m3,by simp⟩
   | succ i=>simp at z
  ·cases i with
   | zero=>cases j with
    | zero=>rfl
    | succ j=>simp at z
   | succ i=>simp at hs
 refine⟨_,_,_,_,_,[],J,⟨rfl,λi hi=>(by cases hi),Cj,rfl,rfl,λi hi=>?_,⟨λrow O=>?_,trivial⟩⟩,Bq,λk hk=>⟨?_,J.lt hk⟩,λk hk=>hk.2⟩
 ·have:i=0:=by simp at hi;exact hi
  subst this;exact⟨(show 1<=12 by decide),(show 12<=12 by decide)⟩
 ·have H:row<12:=O;rw[List.getElem?_replicate_of_lt H];rfl
 ·rcases hk with rfl|hk|hk|⟨t,z,rfl⟩
  ·exact g9
  ·have:b5=k:=Al.inj hk;omega
  ·exact(hc.lt k hk).1
  ·rw[Af.1 z];exact g3
theorem Ti (dr:List Nat)(v:Value)(w:World)(hv:Fs Jy 1 w v dr)(hl:dr.length<=1000000) :
  Gf 102 [v] w λv' w'=>Vc.Own Jy 1 174 w.heap.size w' v' dr:=by
 refine cE Tryz.func102 λz=>go ?_;refine dp (PK (e:=174) (k:=1) Fe hv.sl rfl rfl) ?_;refine FZ (λO=>?_) λO=>?_
 ·refine go ?_;have hn:=Xpo hv.sl O;have J:=Az hn.2;subst J;exact⟨_,rfl,z,Vc.Own.nil⟩
 refine go ?_;refine IY (e:=174) (sz:=1) rfl Fe RX.all (λb1 w1 e1 Y Z=>?_);have g1:=z.ge e1;have z:=z.trans Y;refine go ?_;have ho:=Z.own (enc:=Jy) (B:=w.heap.size) (l:=([]:List Nat)) (sz:=1) (m:=0) g1 rfl Ff rfl F5;refine HZ (e:=174) (sz:=1) (by':=4) rfl Fe Fe Ff ho ((hv.ext z)) rfl rfl (by intro x _ u hu;simp at hu;rcases hu with rfl<;>rfl) (by simp;omega) Fj z.size (.inl rfl) (λvp w2 H x2=>?_);have z:=z.own x2 F4;have ho:=H;refine go ?_;exact⟨_,rfl,z,by simpa using ho⟩
theorem Yc6 (dr:List Nat)(v:Value)(w:World)(hv:Fs Jy 1 w v dr)(hl:dr.length<=1000000) :
  Gf 47 [v] w λv' w'=>∃bm,v'=Fg bm 0/\Ga (λk=>w.heap.size<=k/\k<w'.heap.size) w' bm []:=by
 refine cE Tryz.func47 λH=>go ?_;refine Kf (R:=Fp) Fp.refl (λ_ _ _=>Fp.trans) Fe [] (.one 3 .p false (.fork (.alt 0 true (.one 1 .p false (.fork (.alt 2 true (.one 4 .x true (.one 5 .p false (.one 6 .x true (.one 7 .p false .nil)))) (.alt 4 true (.one 2 .x true (.one 5 .p false (.one 6 .x true (.one 7 .p false .nil)))) .stop)))) (.alt 4 true (.one 0 .x true (.one 1 .p false (.one 2 .x true (.one 5 .p false (.one 6 .x true (.one 7 .p false .nil)))))) .stop)))) Fe Fe (λw1 hf=>?_);have x1:=FC hf;clear hf;have H:=H.trans x1;refine go ?_;refine IQ ?_;refine Hc ?_ ?_
 ·refine Mk (e:=3) (sz:=1) (by':=8) (zs:=[.int .i64 0]) rfl Fe Fe Fe rfl rfl (Aj rfl) (Aj rfl) RX.all (λb1 w2 e1 x2 J=>?_);have g1:=H.ge e1;have H:=H.trans x2;refine go ?_;refine db (zs:=[S [],S [],B false,.int .i64 0,.slice none 0 0]) (pl:=[(0,4),(4,1)]) (pv:=[(1,_)]) (cs:=[S [],S [],B false,.int .i64 0,_]) ?_;refine go ?_;refine IQ ?_;refine Hc ?_ ?_
  ·refine lA 172 rfl λb2 w3 e2 x3 Y=>?_;have g2:=H.ge e2;have n2_1:=J.ltb e2;refine Fz x3 J H λJ H=>Ge (Ti dr v _ (hv.ext H) hl) λvc w4 x4 z=>?_;have hc:=H.size;refine FB x4 J Y H λJ Y H=>?_;have z:=z.mono hc;refine go ?_;refine dp (LI (zs:=[.slice none 0 0,.slice none 0 0,.int .i64 0,.int .i64 0]) (pl:=[(0,1),(1,1),(2,1),(3,1)]) (pv:=[(0,?a5_0),(1,?a5_1)]) (cs:=[?a5_0,?a5_1,.int .i64 0,.int .i64 0]) Fe Fe ?h5 ?f5) ?k5
   case h5=>refine⟨rfl,?_,rfl,?_,trivial⟩<;>(conv=>lhs;whnf)
   case f5=>rcases z.sl with⟨rfl,_⟩|⟨_,_,_,rfl,_⟩|⟨_,_,_,rfl⟩<;>rfl
   refine go ?_;refine Gx rfl rfl rfl RX.all (λb3 w5 e3 x5 m3=>?_);have g3:=H.ge e3;have n3_1:=J.ltb e3;have n3_2:=Y.ltb e3;have o3_hcf:=z.ltb e3;refine FP x5 J Y z H λJ Y z H=>go ?_;exact⟨_,rfl,H,b3,rfl,Rs J Y z m3 g1 g2 g3⟩
  refine Hc ?_ ?_
  ·refine cG (Ti dr v _ (hv.ext H) hl) RX.all λvc w6 x6 z=>?_;have ha:=H.size;refine Fz x6 J H λJ H=>?_;have z:=z.mono ha;refine go ?_;refine lA 172 rfl λb4 w7 e4 x7 m4=>?_;have g4:=H.ge e4;have n4_1:=J.ltb e4;have o4_hcf:=z.ltb e4;refine FB x7 J z H λJ z H=>go ?_;refine dp (LI (zs:=[.slice none 0 0,.slice none 0 0,.int .i64 0,.int .i64 0]) (pl:=[(0,1),(1,1),(2,1),(3,1)]) (pv:=[(0,?a9_0),(1,?a9_1)]) (cs:=[?a9_0,?a9_1,.int .i64 0,.int .i64 0]) Fe Fe ?h9 ?f9) ?k9
   case h9=>refine⟨rfl,?_,rfl,?_,trivial⟩<;>(conv=>lhs;whnf)
   case f9=>rcases z.sl with⟨rfl,_⟩|⟨_,_,_,rfl,_⟩|⟨_,_,_,rfl⟩<;>rfl
   refine go ?_;refine Gx rfl rfl rfl RX.all (λb5 w8 e5 x8 m5=>?_);have g5:=H.ge e5;have n5_1:=J.ltb e5;have n5_4:=m4.ltb e5;have o5_hcf:=z.ltb e5;refine FP x8 J z m4 H λJ z m4 H=>go ?_;exact⟨_,rfl,H,b5,rfl,Rs J m4 z m5 g1 g4 g5⟩
  exact IZ
 refine Hc ?_ ?_
 ·refine cG (Ti dr v _ (hv.ext H) hl) RX.all λvc w9 x9 z=>?_;have Z:=H.size;have H:=H.trans x9;have z:=z.mono Z;refine go ?_;refine Mk (e:=3) (sz:=1) (by':=8) (zs:=[.int .i64 0]) rfl Fe Fe Fe rfl rfl (Aj rfl) (Aj rfl) RX.all (λb6 w10 e6 hg O=>?_);have g6:=H.ge e6;have o6_hcf:=z.ltb e6;refine Fz hg z H λz H=>go ?_;refine db (zs:=[S [],S [],B false,.int .i64 0,.slice none 0 0]) (pl:=[(0,4),(4,1)]) (pv:=[(1,_)]) (cs:=[S [],S [],B false,.int .i64 0,_]) ?_;refine go ?_;refine lA 172 rfl λb7 w11 e7 hh m7=>?_;have g7:=H.ge e7;have n7_6:=O.ltb e7;have o7_hcf:=z.ltb e7;refine FB hh z O H λz O H=>go ?_;refine dp (LI (zs:=[.slice none 0 0,.slice none 0 0,.int .i64 0,.int .i64 0]) (pl:=[(0,1),(1,1),(2,1),(3,1)]) (pv:=[(0,?a14_0),(1,?a14_1)]) (cs:=[?a14_0,?a14_1,.int .i64 0,.int .i64 0]) Fe Fe ?h14 ?f14) ?k14
  case h14=>refine⟨rfl,?_,rfl,?_,trivial⟩<;>(conv=>lhs;whnf)
  case f14=>rcases z.sl with⟨rfl,_⟩|⟨_,_,_,rfl,_⟩|⟨_,_,_,rfl⟩<;>rfl
  refine go ?_;refine Gx rfl rfl rfl RX.all (λb8 w12 e8 hj m8=>?_);have g8:=H.ge e8;have n8_6:=O.ltb e8;have n8_7:=m7.ltb e8;have o8_hcf:=z.ltb e8;refine FP hj z O m7 H λz O m7 H=>go ?_;exact⟨_,rfl,H,b8,rfl,Rs O m7 z m8 g6 g7 g8⟩
 exact IZ
section
variable {F:Nat->Prop}{bm:Nat}{l:List Cell}
theorem Ga.lt {w:World}(h:Ga F w bm l):∀k,F k->k<w.heap.size:=by
 obtain⟨va,vd,a,nx,dr,L,h1,h2,h3,h4,z⟩:=h;exact z
theorem Ga.calls_put (c:Cell)(w:World)(h:Ga F w bm l)(hl:l.length<=900000)(hz:HE l<=1000000000000):Calls Tryz.prog 89 [Fg bm 0,c.v].toArray w (Hi F w (λv w'=>v=B (put l c).1/\Ga (OF F w w') w' bm (put l c).2)):=by
 obtain⟨va,vd,a,nx,dr,L,h1,h2,h3,h4,z⟩:=h;have hlL:l.length=L.length:=(congrArg A5 h2.cells).trans (Aw ..);have hal:=h2.len;exact Calls.mono (Ya3 bm va vd a nx dr _ _ L l F c w h1 h2 h3 Fb rfl rfl h4 z hz) λe w' ⟨h1,h2,h3⟩=>⟨_,h1,h2,rfl,h3⟩
theorem Ga.calls_get (key:Fh)(seq:Int)(w:World)(h:Ga F w bm l)(hl:l.length<=900000):Calls Tryz.prog 112 [Fg bm 0,S key,I seq].toArray w (Pure w (.tuple #[((first l key seq).getD Cell.zero).v,B (first l key seq).isSome])):=by
 obtain⟨va,vd,a,nx,dr,L,h1,h2,h3,h4,h5⟩:=h;have hlL:l.length=L.length:=(congrArg A5 h2.cells).trans (Aw ..);have hal:=h2.len;exact Yc4 bm va vd a nx dr _ _ L l key seq w h1 h2 h3 Fb
theorem Ga.calls_len (w:World)(h:Ga F w bm l)(hl:l.length<=900000):Calls Tryz.prog 43 [Fg bm 0].toArray w (Pure w (I ↑l.length)):=by
 obtain⟨va,vd,a,nx,dr,L,h1,h2,h3,h4,h5⟩:=h;have hlL:l.length=L.length:=(congrArg A5 h2.cells).trans (Aw ..);have hal:=h2.len;have:=Ya2 bm va vd a nx dr _ _ L l w h1 h2 h3 Fb;rwa [show a.length-1=l.length by omega]at this
theorem Ga.calls_scan (frm to:Fh)(w:World)(h:Ga F w bm l)(hl:l.length<=900000)(hb:∀x∈l,x.seq<=4611686018427387904):Calls Tryz.prog 57 [Fg bm 0,S frm,S to].toArray w (GX w (λv' w'=>Vc.Own Cell.cs 4 79 w.heap.size w' v' (scan l frm to))):=by
 obtain⟨va,vd,a,nx,dr,L,h1,h2,h3,h4,h5⟩:=h;have hlL:l.length=L.length:=(congrArg A5 h2.cells).trans (Aw ..);have hal:=h2.len;exact Ui bm va vd a nx dr _ _ L l frm to w h1 h2 h3 Fb hb
theorem Ga.calls_all (w:World)(h:Ga F w bm l)(hl:l.length<=900000)(hb:∀x∈l,x.seq<=4611686018427387904):Calls Tryz.prog 46 [Fg bm 0].toArray w (GX w (λv' w'=>Vc.Own Cell.cs 4 79 w.heap.size w' v' l)):=by
 obtain⟨va,vd,a,nx,dr,L,h1,h2,h3,h4,h5⟩:=h;have hlL:l.length=L.length:=(congrArg A5 h2.cells).trans (Aw ..);have hal:=h2.len;exact Yc5 bm va vd a nx dr _ _ L l w h1 h2 h3 Fb hb
end
end Go.Proofs.YtiooodckiddpmaaGreatDoor
namespace Go.Sp
open Go.Vc (Fh I S B)
def JB : List Rw->List Rw
 | []=>[]
 | r :: t=>if(t.any λq=>decide (q.key=r.key))=true then JB t else r :: JB t
variable {l:List Rw}{r:Rw}
theorem Xx4 (h:r∈JB l):r∈l:=by
 induction l with
 | nil=>cases h
 | cons q t ih=>
  unfold JB at h;split at h
  ·exact Ao _ (ih h)
  ·rcases Ah.1 h with rfl|h
   ·exact Ai
   ·exact Ao _ (ih h)
theorem Xx5 (l:List Rw):(JB l).length<=l.length:=by
 induction l with
 | nil=>exact Aa _
 | cons q t ih=>unfold JB;split<;>simp only [AA]<;>omega
theorem Xoi (l:List Rw)(seq:Int)(x:Cell):x∈Gj l seq↔x∈(JB l).map (·.cell seq):=by
 induction l with
 | nil=>exact Iff.rfl
 | cons r t ih=>
  show x∈Ht (Gj t seq) (r.cell seq)↔_;rw[Qh];unfold JB;split
  ·rename_i h;obtain⟨q,z,e⟩:=B7.1 h;obtain⟨c,H,e2⟩:=Xt4 (seq:=seq) z;have J:q.key=r.key:=by simpa using e
   exact⟨λh2=>h2.elim ih.1 λh3=>absurd (e2.trans J) (h3.2 c H),λh2=>.inl (ih.2 h2)⟩
  ·rename_i h;have hn:∀y∈Gj t seq,y.key≠(r.cell seq).key:=λy O e=>by
    obtain⟨q,z,rfl⟩:=Sn O;exact h (B7.2 ⟨q,z,decide_eq_true (show q.key=r.key from e)⟩)
   rw[Am,Ah];exact⟨λh2=>h2.elim (λh3=>.inr (ih.1 h3)) (λh3=>.inl h3.1),λh2=>h2.elim (λh3=>.inr ⟨h3,hn⟩) (λh3=>.inl (ih.2 h3))⟩
theorem Xt7 (l:List Rw):(JB l).Pairwise λa b=>a.key≠b.key:=by
 induction l with
 | nil=>exact Bq
 | cons r t ih=>
  unfold JB;split
  ·exact ih
  ·rename_i h;exact AI.2 ⟨λq z e=>h (B7.2 ⟨q,Xx4 z,by simp [e]⟩),ih⟩
theorem Ya4 {l m:List Cell}(hl:Jp l)(hm:Jp m)(h:∀x,x∈l↔x∈m):l=m:=by
 induction l generalizing m with
 | nil=>
  cases m with
  | nil=>rfl
  | cons b m=>exact absurd ((h b).2 Ai) F5
 | cons a l ih=>
  cases m with
  | nil=>exact absurd ((h a).1 Ai) F5
  | cons b m=>
   have H:=AI.1 hl;have z:=AI.1 hm;have e:a=b:=by
    rcases Ah.1 ((h a).1 Ai)with h1|h1
    ·exact h1
    ·rcases Ah.1 ((h b).2 Ai)with h2|h2
     ·exact h2.symm
     ·have h3:=z.1 a h1;have h4:=H.1 b h2;rw[KR h4]at h3;cases h3
   subst e;rw[ih H.2 z.2 λx=>?_]
   constructor
   ·intro J;rcases Ah.1 ((h x).1 (Ao _ J))with h1|h1
    ·have:=H.1 x J;rw[h1,IC]at this;cases this
    ·exact h1
   ·intro J;rcases Ah.1 ((h x).2 (Ao _ J))with h1|h1
    ·have:=z.1 x J;rw[h1,IC]at this;cases this
    ·exact h1
theorem Wh : ∀a b:Fh,(Go.Lib.compareBytes a b<0)↔F0 a b=true
 | [],[]=>by simp [Go.Lib.compareBytes,F0,Op.bytesLess]
 | [],_ :: _=>by simp [Go.Lib.compareBytes,F0,Op.bytesLess]
 | _ :: _,[]=>by simp [Go.Lib.compareBytes,F0,Op.bytesLess]
 | x :: a,y :: b=>by
  have z:=Wh a b;unfold Go.Lib.compareBytes;simp only [F0,Op.bytesLess,Bool.or_eq_true,Aq,decide_eq_true_eq,beq_iff_eq]at *
  by_cases h1:x<y
  ·simp [h1]
  ·rw[if_neg h1]
   by_cases h2:y<x
   ·rw[if_pos h2];exact⟨λh=>by simp at h,λh=>h.elim (λh=>absurd h h1) λh=>by
     rw[h.1]at h2;exact absurd h2 (UInt8.lt_irrefl _)⟩
   ·rw[if_neg h2,z];have e:x=y:=UInt8.le_antisymm (Dl.1 h2) (Dl.1 h1);exact⟨λh=>.inr ⟨e,h⟩,λh=>h.elim (λh=>absurd h h1) (·.2)⟩
def rAt (l:List Rw)(k:Nat):Rw:=l[k]?.getD ⟨[],[],false⟩
def KN (l:List Rw):Nat->Fh->Option Int
 | 0=>λ_=>none
 | k+1=>λs=>if(rAt l k).key=s then some (k:Int)else KN l k s
theorem Xg (l:List Rw)(s:Fh):∀n,(KN l n s=none->∀i,i<n->(rAt l i).key≠s)/\∀j,KN l n s=some j->∃m:Nat,j=m/\m<n/\(rAt l m).key=s/\∀i,m<i->i<n->(rAt l i).key≠s
 | 0=>⟨λ_ i hi=>by omega,λj h=>by simp [KN]at h⟩
 | n+1=>by
  obtain⟨h1,h2⟩:=Xg l s n;unfold KN
  by_cases e:(rAt l n).key=s
  ·simp only [if_pos e];exact⟨λh=>by simp at h,λj h=>⟨n,(Al.inj h).symm,by omega,e,λi hi z=>by omega⟩⟩
  ·simp only [if_neg e];refine⟨λh i hi=>?_,λj h=>?_⟩
   ·by_cases e2:i=n
    ·rw[e2];exact e
    ·exact h1 h i Fb
   ·obtain⟨m,e1,hm,e2,H⟩:=h2 j h;refine⟨m,e1,by omega,e2,λi hi z=>?_⟩
    by_cases e4:i=n
    ·rw[e4];exact e
    ·exact H i hi Fb
variable {k:Nat}
theorem O4 (h:l[k]?=some r):rAt l k=r:=by unfold rAt;rw[h];rfl
theorem X2d {s:Fh}: ((l.drop (k+1)).any λq=>decide (q.key=s))=true↔∃i,k<i/\i<l.length/\(rAt l i).key=s:=by
 rw[B7]
 constructor
 ·rintro ⟨q,hq,e⟩;obtain⟨i,hi⟩:=Cd.1 hq;rw[B4]at hi;exact⟨k+1+i,by omega,(Ap.1 hi).1,by rw[O4 hi];simpa using e⟩
 ·rintro ⟨i,h1,h2,h3⟩;have e:l[i]?=some l[i]:=Au h2;refine⟨l[i],Cd.2 ⟨i-(k+1),by rw[B4,show k+1+(i-(k+1))=i by omega];exact e⟩,?_⟩;rw[O4 e]at h3;simpa using h3
theorem X7y (h:l[k]?=some r):((KN l l.length r.key).getD 0=(k:Int))↔((l.drop (k+1)).any λq=>decide (q.key=r.key))=false:=by
 have hk:=(Ap.1 h).1;obtain⟨h1,h2⟩:=Xg l r.key l.length
 cases e:KN l l.length r.key with
 | none=>exact absurd (by rw[O4 h]) (h1 e k hk)
 | some j=>
  obtain⟨m,rfl,hm,e2,z⟩:=h2 j e;rw[<-Cb,X2d];simp only [Option.getD_some]
  constructor
  ·rintro e4 ⟨i,h4,h5,h6⟩;exact z i Fb h5 h6
  ·intro h4
   by_cases e5:m=k
   ·rw[e5]
   ·by_cases e6:m<k
    ·exact absurd (by rw[O4 h]) (z k e6 hk)
    ·exact absurd ⟨m,by omega,hm,e2⟩ h4
theorem Xx6 (h:l[k]?=some r):JB (l.drop k)=if((l.drop (k+1)).any λq=>decide (q.key=r.key))=true then JB (l.drop (k+1))else r :: JB (l.drop (k+1)):=by
 obtain⟨hk,rfl⟩:=Ap.1 h;rw[List.drop_eq_getElem_cons hk];rfl
end Go.Sp
namespace Go.Vc
open Go.RowKit Go.Proofs Go.Shelf Go.Sort
variable {cur:Array Value}{g:Nat}{w:World}
theorem Xj5 {e:TypeId}{vs:List Value}(hb:w.heap[g]?=some (.cells cur e (0,0)))(ht:cur.toList.take vs.length=vs):Holds id w g 0 vs.toArray:=by
 intro j H;have z:j<vs.length:=by simpa using H
 refine⟨?_,by simp [World.frozen?,hb]⟩;have h1:(cur.toList.take vs.length)[j]?=vs[j]?:=by rw[ht]
 rw[EG z]at h1;simp only [World.cell?,hb,A0];simp only [Option.isSome_none,Cq,if_false];rw[<-DC,h1];simp [z]
variable {os:Array Obj}
theorem Xok {n:Nat}{e:TypeId}{fr:Nat×Nat}(d:Array Value)(hb:w.heap[g]?=some (.cells cur e fr)):
  (grow (putRow id (Sort.ahead w n) g 0 d) os).heap[g]?=some (.cells (putCells id 0 d cur) e fr):=by
 have z:g<w.heap.size:=(BA.1 hb).1;rw[heap_grow_old _ _ (by simpa using z)];simp [putRow,mapBlock,Sort.ahead,DF,hb,onCells]
theorem Xj6 {n:Nat}(d:Array Value):w.grownBy (grow (putRow id (Sort.ahead w n) g 0 d) os) (some g):=by
 refine⟨rfl,rfl,rfl,by simp,λk hk z=>?_⟩;rw[heap_grow_old _ _ (by simpa using hk)];have:g≠k:=λe=>z (by rw[e]);simp [putRow,mapBlock,Sort.ahead,DF,this]
theorem Xkp (cur:Array Value)(vs:List Value)(h:vs.length<=cur.size):(putCells id 0 vs.toArray cur).toList.take vs.length=vs:=by
 apply BB
 intro j
 by_cases hj:j<vs.length
 ·rw[EG hj,DC];simp [putCells,hj,show j<cur.size by omega]
 ·rw[List.getElem?_take_eq_none Fb,Bh Fb]
theorem WF {α:Type}[Inhabited α]{enc:α->List Value}{k:Nat}(hk:∀x,(enc x).length=k)(d:Array α):flatK enc k d=(d.toList.flatMap enc).toArray:=by
 have J:(d.toList.flatMap enc).length=d.size*k:=by rw[FF hk];simp
 apply Array.ext
 ·simp [J]
 ·intro t h1 h2;have H:t<d.size*k:=by simpa using h1
  have O:0<k:=by
   rcases CJ k with e|e
   ·subst e;simp at H
   ·exact e
  have z:t / k<d.size:=by rw[Nat.div_lt_iff_lt_mul O];exact H
  have e1:=get_flatK enc k d t H;rw[getElem!_pos _ t h1]at e1;rw[e1];have key:∀(l:List α) (t:Nat) (z:t / k<l.length),(l.flatMap enc)[t]?=(enc (l[t / k]'z))[t % k]?:=by
   intro l
   induction l with
   | nil=>intro t z;simp at z
   | cons a r ih=>
    intro t z;rw[AF]
    by_cases hlt:t<k
    ·have Y:t / k=0:=Nat.div_eq_of_lt hlt;rw[Bu (by rw[hk];exact hlt)];simp only [Y,List.getElem_cons_zero,Nat.mod_eq_of_lt hlt]
    ·have Y:t / k=(t-k) / k+1:=by
      have:t=(t-k)+k:=by omega
      rw[this,Nat.add_div_right _ O];simp
     have e2:t % k=(t-k) % k:=by
      have:t=(t-k)+k:=by omega
      rw[this,Nat.add_mod_right];simp
     rw[BJ (by rw[hk];omega),hk,ih (t-k) (by rw[Y]at z;simpa using z)];simp only [Y,List.getElem_cons_succ,e2]
  have h3:=key d.toList t (by simpa using z);have h4:t % k<(enc (d.toList[t / k]'(by simpa using z))).length:=by rw[hk];exact Be _ O
  rw[Au h4]at h3;have Z:(d.toList.flatMap enc)[t]'(by rw[J];exact H)=(enc (d.toList[t / k]'(by simpa using z)))[t % k]:=by
   have:=Au (l:=d.toList.flatMap enc) (i:=t) (by rw[J];exact H);rw[this]at h3;exact Al.inj h3
  simp only [List.getElem_toArray];rw[Z,getElem!_pos d (t / k) z];simp only [Array.getElem_toList];rw[getElem!_pos _ (t % k) (by rw[hk];exact Be _ O)]
theorem X7z {P:Program}{ρ:Ren}{α:Type}[Inhabited α](L:SlLaysF0.n6 P ρ)(k:Nat)(aE:∀w,(isAgg (ρ.t 24)).run P w=.ok true w)(zE:∀w,(Go.sizeOf (ρ.t 24)).run P w=.ok k w)(enc:α->List Value)(hk:∀x,(enc x).length=k)(h1:∀x,∀v∈enc x,v.oneCell'=true)(cf:α->α->Int)(hO:SWO (ltOf cf))(g:Nat)(cb:Array Value)(eg:∀args w,(callFunc g args).run P w=.ok (.enter g args) w)(hcmp:∀(x y:α) (W:World),Calls P g (#[.agg (enc x).toArray,.agg (enc y).toArray]++cb) W λe w'=>e=.returned (.int .i64 (cf x y))/\∃q os',w'=grow (W.drewN q) os'){T B:Nat}{v:Value}{l:List α}(ho:Own enc k T B w v l)(hl:l.length<4611686018427387904):
  Calls P (ρ.f 6) [v,.func (.func g) #[] cb].toArray w (Hi (λk=>v.ownBlock=some k) w λu w'=>u=.tuple #[]/\∃l',l'.Perm l/\l'.Pairwise (λx y=>ltOf cf y x=false)/\Own enc k T B w' v l'):=by
 rcases ho.row.2 with⟨rfl,hn⟩|⟨b,cap,cur,rfl,hB,hb,hnc,hcm,hcs,ht⟩
 ·have:=Az hn;subst this;refine(AnyF.slices_SortFunc_none L none 0 _ w).mono ?_;rintro e w' ⟨rfl,rfl⟩;exact⟨_,rfl,Mod.refl _ _,rfl,[],List.Perm.refl _,Bq,ho⟩
 ·have hf:(l.flatMap enc).length=l.length*k:=FF hk l;have hH:HoldsK enc k w b 0 l.toArray:=by
   show Holds id w b 0 (flatK enc k l.toArray);rw[WF hk];exact Xj5 hb (by rw[hf];exact ht)
  have Z:=(BA.1 hb).1;have hc:CmpLays P g cb enc k cf b 0 l.toArray.size w:=λm os dk _ x y=>hcmp x y _;have hs:=AnyQ.slices_SortFunc L k aE zE enc hk h1 cf hO g cb b 0 cap l.toArray w eg hc hH Z (by simpa using hl);refine Calls.mono hs ?_;rintro e w' ⟨rfl,d',n,os,hp,hsd,rfl⟩;have O:d'.size=l.length:=by rw[hp.1];simp
  have J:d'.toList.Perm l:=by
   have:=hp.2.2;simpa [Array.extract_eq_self_of_le,O]using this
  have H:d'.toList.length=l.length:=by simpa using O
  have z:(d'.toList.flatMap enc).length=l.length*k:=by rw[FF hk,H]
  refine⟨_,rfl,Mod.of_grown (Xj6 _),rfl,d'.toList,J,?_,⟨?_⟩⟩
  ·rw[C4];intro i j hi hj ha;have hg:i<d'.size:=by simpa using hi
   have Y:j<d'.size:=by simpa using hj
   have:=hsd i j (Ab _) ha (by simpa [O]using Y);rw[getElem!_pos d' i hg,getElem!_pos d' j Y]at this;simpa using this
  ·show(grow (putRow id (Sort.ahead w n) b 0 (flatK enc k d')) os).ownsRow B T k _ _ _;rw[WF hk,H];exact⟨by rw[z],.inr ⟨b,cap,_,rfl,hB,Xok _ hb,hnc,hcm,by simp [putCells,hcs],by rw[<-z];exact Xkp cur _ (by rw[z,hcs];exact AW _ hnc)⟩⟩
end Go.Vc
namespace Go.Proofs
open Go.Shelf
def Tryz.sortF164_ren : Go.Shelf.Ren:=⟨λ|6=>164|15=>204|14=>241|28=>271|29=>272|20=>252|21=>291|22=>292|23=>293|24=>294|25=>295|26=>296|27=>297|46=>324|47=>314|48=>315|49=>325|50=>326|57=>336|n=>n,λ|22=>95|24=>79|25=>169|3=>3|39=>237|0=>0|53=>174|55=>236|4=>4|46=>331|45=>330|50=>302|5=>5|9=>9|66=>355|70=>197|76=>368|77=>211|n=>n,λ|n=>n⟩
theorem Tryz.sortF164 : Go.Proofs.SlLaysF0.n6 Tryz.prog Tryz.sortF164_ren:={
 mixed:=by kernel_rfl
 f6:=⟨Tryz.f164.name,by decide,Tryz.func164.trans (congrArg some Fe)⟩
 f14:=⟨Tryz.f241.name,by decide,Tryz.func241.trans (congrArg some Fe)⟩
 f15:=Tryz.func204.trans (congrArg some Fe)
 f20:=⟨Tryz.f252.name,by decide,Tryz.func252.trans (congrArg some Fe)⟩
 f21:=⟨Tryz.f291.name,by decide,Tryz.func291.trans (congrArg some Fe)⟩
 f22:=⟨Tryz.f292.name,by decide,Tryz.func292.trans (congrArg some Fe)⟩
 f23:=⟨Tryz.f293.name,by decide,Tryz.func293.trans (congrArg some Fe)⟩
 f24:=⟨Tryz.f294.name,by decide,Tryz.func294.trans (congrArg some Fe)⟩
 f25:=⟨Tryz.f295.name,by decide,Tryz.func295.trans (congrArg some Fe)⟩
 f26:=⟨Tryz.f296.name,by decide,Tryz.func296.trans (congrArg some Fe)⟩
 f27:=⟨Tryz.f297.name,by decide,Tryz.func297.trans (congrArg some Fe)⟩
 f28:=Tryz.func271.trans (congrArg some Fe)
 f29:=Tryz.func272.trans (congrArg some Fe)
 f46:=⟨Tryz.f324.name,by decide,Tryz.func324.trans (congrArg some Fe)⟩
 f47:=Tryz.func314.trans (congrArg some Fe)
 f48:=Tryz.func315.trans (congrArg some Fe)
 f49:=⟨Tryz.f325.name,by decide,Tryz.func325.trans (congrArg some Fe)⟩
 f50:=⟨Tryz.f326.name,by decide,Tryz.func326.trans (congrArg some Fe)⟩
 f57:=⟨Tryz.f336.name,by decide,Tryz.func336.trans (congrArg some Fe)⟩
 t0:=Tryz.underlying0
 a0:=Tryz.isAgg0
 z0:=Tryz.sizeOf0
 v0:=Tryz.zeroValue0
 t3:=Tryz.underlying3
 a3:=Tryz.isAgg3
 z3:=Tryz.sizeOf3
 v3:=Tryz.zeroValue3
 t4:=Tryz.underlying4
 a4:=Tryz.isAgg4
 z4:=Tryz.sizeOf4
 v4:=Tryz.zeroValue4
 t5:=Tryz.underlying5
 a5:=Tryz.isAgg5
 z5:=Tryz.sizeOf5
 v5:=Tryz.zeroValue5
 t9:=Tryz.underlying9
 a9:=Tryz.isAgg9
 z9:=Tryz.sizeOf9
 v9:=Tryz.zeroValue9
 t22:=Tryz.underlying95
 a22:=Tryz.isAgg95
 z22:=Tryz.sizeOf95
 v22:=Tryz.zeroValue95
 t25:=Tryz.underlying169
 a25:=Tryz.isAgg169
 z25:=Tryz.sizeOf169
 v25:=Tryz.zeroValue169
 t39:=Tryz.underlying237
 a39:=Tryz.isAgg237
 z39:=Tryz.sizeOf237
 v39:=Tryz.zeroValue237
 t45:=Tryz.underlying330
 a45:=Tryz.isAgg330
 z45:=Tryz.sizeOf330
 v45:=Tryz.zeroValue330
 t46:=Tryz.underlying331
 a46:=Tryz.isAgg331
 z46:=Tryz.sizeOf331
 v46:=Tryz.zeroValue331
 t50:=Tryz.underlying302
 a50:=Tryz.isAgg302
 z50:=Tryz.sizeOf302
 v50:=Tryz.zeroValue302
 t53:=Tryz.underlying174
 a53:=Tryz.isAgg174
 z53:=Tryz.sizeOf174
 v53:=Tryz.zeroValue174
 t55:=Tryz.underlying236
 a55:=Tryz.isAgg236
 z55:=Tryz.sizeOf236
 v55:=Tryz.zeroValue236
 t66:=Tryz.underlying355
 a66:=Tryz.isAgg355
 z66:=Tryz.sizeOf355
 v66:=Tryz.zeroValue355
 t70:=Tryz.underlying197
 a70:=Tryz.isAgg197
 z70:=Tryz.sizeOf197
 v70:=Tryz.zeroValue197
 t76:=Tryz.underlying368
 a76:=Tryz.isAgg368
 z76:=Tryz.sizeOf368
 v76:=Tryz.zeroValue368
 t77:=Tryz.underlying211
 a77:=Tryz.isAgg211
 z77:=Tryz.sizeOf211
 v77:=Tryz.zeroValue211 }
end Go.Proofs
namespace Go.Proofs.YtiooodckiddpmaaGreatDoor
open Go.Vc Go.Sp
attribute [local irreducible] W XW Dw G9
section
open Go.Shelf Go.RowKit Go.Lib Go.Sort
theorem Ya5 : Tryz.f165.ntmps=10:=by kernel_rfl
theorem Xkq (x y:Cell)(W:World):Calls Tryz.prog 165 #[.agg x.cs.toArray,.agg y.cs.toArray] W λe w'=>e=.returned (.int .i64 (Lib.compareBytes x.key y.key))/\∃q os',w'=grow (W.drewN q) os':=by
 have z:=λW'=>Tryz.strings_Compare ⟨⟨x.key⟩⟩ ⟨⟨y.key⟩⟩ W';change ∀W',Calls Tryz.prog 166 _ _ _ at z
 generalize Lib.compareBytes x.key y.key=r at z ⊢
 go_enter Tryz.func165,Ya5
 go_wp2_with (go_at_call 166;refine(z _).mono ?_;rintro e w' ⟨rfl,rfl⟩)
 go_ret
 exact⟨rfl,0,_,by rw[alloc_eq_grow,alloc_eq_grow,grow_grow];rfl⟩
@[reducible] def QA (x y:Cell):Int:=Lib.compareBytes x.key y.key
theorem PL (x y:Cell):ltOf QA x y=F0 x.key y.key:=by
 unfold ltOf QA;rw[Dx,decide_eq_true_iff];exact Wh x.key y.key
theorem X70 : SWO (ltOf QA) where
 irrefl x:=by rw[PL,IC]
 trans x y z h1 h2:=by rw[PL]at *;exact J9 _ _ _ h1 h2
 ntrans x y z h1 h2:=by
  rw[PL]at *;rcases K5 x.key z.key with h|h|h
  ·rw[h,IC]
  ·rcases K5 y.key z.key with h3|h3|h3
   ·rw[h3]at h1;exact h1
   ·rw[h3]at h2;cases h2
   ·rw[J9 _ _ _ h h3]at h1;cases h1
  ·exact KR h
instance : Inhabited Cell:=⟨Cell.zero⟩
theorem Xqi {T B:Nat}{w:World}{v:Value}{l:List Cell}(ho:Vc.Own Cell.cs 4 T B w v l)(hl:l.length<4611686018427387904) :
  Calls Tryz.prog 164 [v,.func (.func 165) #[] #[]].toArray w (Hi (λk=>v.ownBlock=some k) w λu w'=>u=.tuple #[]/\∃l',l'.Perm l/\l'.Pairwise (λx y=>F0 y.key x.key=false)/\Vc.Own Cell.cs 4 T B w' v l'):=by
 have h:=X7z Tryz.sortF164 4 (λw=>(MP (k:=4) (T:=79) Fe).1) (λw=>(MP (k:=4) (T:=79) Fe).2) Cell.cs (λ_=>rfl) (λx v hv=>by simp at hv;rcases hv with rfl|rfl|rfl|rfl<;>rfl) QA X70 165 #[] (enters_of Tryz.func165 Fe rfl) (λx y W=>Xkq x y W) ho hl;refine Calls.mono h ?_;rintro e w' ⟨u,he,hm,hu,l',h1,h2,h3⟩;exact⟨u,he,hm,hu,l',h1,h2.imp (λ {a b} hab=>by rw[PL]at hab;exact hab),h3⟩
end
theorem X2e {rows:List Rw}{seq:Int}{l':List Cell}(h1:l'.Perm ((JB rows).map (·.cell seq)))(h2:l'.Pairwise (λx y=>F0 y.key x.key=false)):l'=Gj rows seq:=by
 have hk:l'.Pairwise λa b=>a.key≠b.key:=by
  have h:((JB rows).map (·.cell seq)).Pairwise λa b=>a.key≠b.key:=List.pairwise_map.2 ((Xt7 rows).imp (λ {a b} hab=>hab));exact h.perm h1.symm (λ {a b} hab=>hab.symm)
 refine Ya4 (EY (λa b (ha:F0 b.key a.key=false) (hb:a.key≠b.key)=>?_) h2 hk) (Pz rows seq) λx=>by rw[Xoi,h1.mem_iff]
 rcases K5 a.key b.key with h|h|h
 ·exact absurd h hb
 ·exact h
 ·rw[ha]at h;cases h
theorem Yc7 (a b:Int)(h:I a=I b):a=b:=by simpa using h
theorem S1 : MapK Tryz.prog 242 9 3 S Vc.I (λs=>s.length<=maxLen):=Nj Fe Fe Yc7
theorem Xx7 (l:List Rw)(k:Nat)(r:Rw)(h:l[k]?=some r):putF (KN l k) r.key (k:Int)=KN l (k+1):=by
 funext s
 show(putF (KN l k) r.key (k:Int)) s=if(Sp.rAt l k).key=s then some (k:Int)else KN l k s
 unfold putF;rw[O4 h]
 by_cases e:s=r.key
 ·rw[if_pos e,if_pos e.symm]
 ·rw[if_neg e,if_neg (λe2=>e e2.symm)]
theorem X2f (l:List Rw)(v:Value)(seq:Int)(w:World)(hv:Fs Rw.cs 3 w v l)(hl:l.length<=100000)(hks:∀r∈l,r.key.length<=1000000) :
  Gf 88 [v,I seq] w λu w'=>Vc.Own Cell.cs 4 79 w.heap.size w' u (Gj l seq):=by
 refine cE Tryz.func88 λH=>go ?_;refine Qz S1 rfl RX.all (λb1 w1 e1 x1 z=>?_);have g1:=H.ge e1;have H:=H.trans x1;refine FL 48 3 (hv.ext H).sl ?_;refine F9 (G:=Nat) (λk=>[(0,v),(1,I seq),(4,.slice none 0 0),(5,.map (some b1)),(12,v),(13,I ↑l.length),(14,I ↑k)]) (λk w'=>Fp w w'/\k<=l.length/\Vc.Xbf Tryz.prog 9 S Vc.I w' b1 k (KN l k)) (λk=>l.length-k) 0 ⟨H,Ab _,z⟩ ?_;rintro _ k w2 ⟨H,hk1,z⟩;refine Fk (λc1=>?_) λc1=>?_
 ·obtain⟨r,hk⟩:∃r,l[k]?=some r:=F8;refine go ?_;refine di 48 3 (hv.ext H).sl rfl ((hv.ext H).lt hk) (dq (Fy Fe rfl rfl ((hv.ext H).row hk)) (aL [S [],S [],B false] λb2 w3 e2 x3 m2=>?_));have g2:=H.ge e2;have n2_mp1:=z.lt;refine Fz x3 z H λz H=>go ?_;refine Gc m2 (λw4 x4 xs4 m2=>?_);have z:=z.mod x4 Fw;have H:=H.o1 x4;refine go ?_;refine OM S1 (kx:=r.key) (a:=(k:Int)) rfl rfl rfl rfl z (by have:=hks r (Ag hk);unfold maxLen;omega) (by unfold maxLen;omega) (.inl rfl) (λw5 x5 xs5 J=>?_);have H:=H.own x5 F4;have z:=J;refine go ?_;refine FJ (k+1) ⟨H,by omega,?_⟩;rw[Xx7 l k r hk]at z;exact z
 refine FL 48 3 (hv.ext H).sl ?_;refine F9 (G:=Nat×Value×List Cell) (λ(k,va,acc)=>[(1,I seq),(4,.slice none 0 0),(5,.map (some b1)),(8,va),(24,v),(25,I ↑l.length),(26,I ↑k)]) (λ(k,va,acc) w'=>Fp w w'/\k<=l.length/\acc.length<=k/\acc++(JB (l.drop k)).map (·.cell seq)=(JB l).map (·.cell seq)/\Vc.Own Cell.cs 4 79 w.heap.size w' va acc/\Vc.Xbf Tryz.prog 9 S Vc.I w' b1 l.length (KN l l.length)) (λ(k,va,acc)=>l.length-k) (0,.slice none 0 0,[]) ⟨H,Ab _,Aa _,rfl,Vc.Own.nil,by rw[show k=l.length by omega]at z;exact z⟩ ?_;rintro _ ⟨k,va,acc⟩ w6 ⟨H,hk1,hal,hacc,ho,z⟩;refine Fk (λc2=>?_) λc2=>?_
 ·obtain⟨r,hk⟩:∃r,l[k]?=some r:=F8;have hf:=Xx6 hk;have Y:=X7y hk;refine go ?_;refine di 48 3 (hv.ext H).sl rfl ((hv.ext H).lt hk) (dq (Fy Fe rfl rfl ((hv.ext H).row hk)) (aL [S [],S [],B false] λb3 w7 e3 x7 m3=>?_));have g3:=H.ge e3;have n3_mp1:=z.lt;have o3_ho:=ho.ltb e3;refine FB x7 ho z H λho z H=>go ?_;refine Gc m3 (λw8 x8 xs8 m3=>?_);have ho:=ho.mod x8 Fw;have z:=z.mod x8 Fw;have H:=H.o1 x8;refine go ?_;refine dq (Mq S1 (kx:=r.key) (z0:=0) rfl rfl Fe z (by have:=hks r (Ag hk);unfold maxLen;omega)) ?_;refine Fk (λc3=>?_) λc3=>?_
  ·refine go ?_;refine dq (Fy (k:=3) Fe rfl rfl m3.row) (Gp (Xz r seq _) λw9 x9=>FB x9 ho z H λho z H=>?_);refine lA 79 rfl λb4 w10 e4 hr m4=>?_;have g4:=H.ge e4;have n4_mp1:=z.lt;have o4_ho:=ho.ltb e4;refine FB hr ho z H λho z H=>G1 (r.cell seq) ho m4 λhj w11 ha O=>?_;have z:=z.mod O (z.ne_own ho);have H:=H.own O F4;have ho:=ha;clear m4;refine go ?_;refine FJ (k+1,hj,acc++[r.cell seq]) ⟨H,by omega,by simp;omega,?_,ho,z⟩;rw[<-hacc,hf,if_neg (by rw[Y.1 c3];decide)];simp
  refine go ?_;refine FJ (k+1,va,acc) ⟨H,by omega,by omega,?_,ho,z⟩;have Z:((l.drop (k+1)).any λq=>decide (q.key=r.key))=true:=by
   cases e:((l.drop (k+1)).any λq=>decide (q.key=r.key))with
   | true=>rfl
   | false=>exact absurd (Y.2 e) c3
  rw[<-hacc,hf,if_pos Z]
 have hq:k=l.length:=by omega
 rw[hq,BD (Aa _),show JB ([]:List Rw)=[] from rfl,Bf,AH]at hacc;have hll:=Xx5 l;refine Gw (Xqi ho (by rw[hacc,Aw];omega)) λu12 w12 hg hc=>?_;have hsz12:=H.size;have H:=H.own hg F4;obtain⟨rfl,l',hp,hh,ho⟩:=hc;refine go ?_;exact⟨_,rfl,H,by rw[X2e (hacc▸hp) hh]at ho;exact ho⟩
end Go.Proofs.YtiooodckiddpmaaGreatDoor

namespace Go.Proofs.YtiooodckiddpmaaGreatDoor
open Go.Vc Go.Sp
attribute [local irreducible] W XW Dw G9
def JA (m:List Cell)(cs:List Cell):List Cell:=cs.foldl (λm c=>(put m c).2) m
theorem X2g (l:List Cell)(c:Cell):(put l c).2.length<=l.length+1/\HE (put l c).2<=HE l+G5 c:=by
 unfold put;split
 ·simp only;omega
 ·simp only;have h:=N5 l c;have h1:=congrArg A5 h;have h2:=congrArg HE h;unfold HE at *;simp only [Ad,A6,B0,AA,Am,AT]at *;omega
theorem Xx8 (m:List Cell)(cs:List Cell):(JA m cs).length<=m.length+cs.length/\HE (JA m cs)<=HE m+HE cs:=by
 induction cs generalizing m with
 | nil=>exact⟨Aa _,by show HE m<=HE m+HE [];omega⟩
 | cons c r ih=>
  have h1:=ih (put m c).2;have h2:=X2g m c;have e:HE (c :: r)=G5 c+HE r:=by simp [HE]
  show(JA (put m c).2 r).length<=_/\HE (JA (put m c).2 r)<=_;rw[e,AA];omega
theorem Xqj (cs:List Cell)(k:Nat):HE (cs.take k)<=HE cs:=by
 have h:=congrArg HE (AS k cs);unfold HE at *;rw[A6,B0]at h;omega
variable {w:World}
theorem Ga.to {F G:Nat->Prop}{bm:Nat}{l:List Cell}(h:Ga F w bm l)(hs:∀k,F k->G k)(hl:∀k,G k->k<w.heap.size):Ga G w bm l:=by
 obtain⟨va,vd,a,nx,dr,L,h1,h2,h3,h4,h5⟩:=h;exact⟨va,vd,a,nx,dr,L,h1,h2,h3,λk hk=>hs k (h4 k hk),hl⟩
variable {k:Nat}
theorem X72 {m cs:List Cell}{c:Cell}(h:cs[k]?=some c):JA m (cs.take (k+1))=(put (JA m (cs.take k)) c).2:=by
 unfold JA;rw[GQ h,List.foldl_append];rfl
theorem Ya6 (F:Nat->Prop)(bs bd bl:Nat)(n:Int)(vf:Value)(bo bm:Nat)(dead:Bool)(mem:List Cell)(l:List Rw)(v:Value)(seq:Int)(w:World)(hs:Fo w bs (Ik bd bl n vf bo bm dead) 90)(hM0:Ga F w bm mem)(hFs:¬ F bs)(hv:Fs Rw.cs 3 w v l)(hl:l.length<=100000)(hks:∀r∈l,r.key.length<=1000000)(hml:mem.length<=700000)(hmz:HE mem+HE (Gj l seq)<=1000000000000) :
  Gy 42 [Fg bs 0,v,I seq] w F λu w'=>u=.tuple #[]/\Ga (OF F w w') w' bm (JA mem (Gj l seq)):=by
 refine cM Tryz.func42 F λH=>?_;have z:=hM0;have hc:=hM0.lt;have hh:=hs.lt;have hcl:=OY l seq;refine Ge (X2f l v seq _ hv hl hks) λvc w1 x1 hp=>?_;have Z:=H.size;refine FB x1 hs z H λhs z H=>?_;have J:=hp.mono Z;have hg:=Ae Z x1.size;have O:Sz w1.heap.size w1:=⟨Aa _⟩;have hf:=λk9 Y=>(J.lt k9 Y).2;refine dv 79 4 (J.arr Ff).sl (F9 (G:=Nat×(Nat->Prop)) (λ(k,Fc)=>[(0,Fg bs 0),(10,vc),(11,I ↑(Gj l seq).length),(12,I ↑k)]) (λ(k,Fc) w'=>Mod F w w'/\k<=(Gj l seq).length/\Ga Fc w' bm (JA mem ((Gj l seq).take k))/\(∀j,Fc j->F j\/w1.heap.size<=j)/\Fo w' bs (Ik bd bl n vf bo bm dead) 90/\Vc.Own Cell.cs 4 79 w.heap.size w' vc (Gj l seq)/\Sz w1.heap.size w') (λ(k,Fc)=>(Gj l seq).length-k) (0,F) ⟨H,Ab _,z,λ_ h=>.inl h,hs,J,O⟩ ?_);rintro _ ⟨k,Fc⟩ w2 ⟨H,hk1,z,hsub,hs,J,O⟩;have hSr:=O.le;refine Fk (λc1=>?_) λc1=>?_
 ·obtain⟨c,hk⟩:∃c,(Gj l seq)[k]?=some c:=F8;have hpz:=Xx8 mem ((Gj l seq).take k);have hst:=Xqj (Gj l seq) k;have hlt9:((Gj l seq).take k).length<=(Gj l seq).length:=by rw[A7];omega
  refine go ?_;refine di 79 4 (J.arr Ff).sl rfl ((J.arr Ff).lt hk) (dq (Fy Fe rfl rfl ((J.arr Ff).row hk)) (aL [S [],S [],B false,.int .i64 0] λb1 w3 e1 x3 m1=>?_));have g1:=H.ge e1;have ha:=z.lt;have o1_hM:=z.lt;have a1_hs:=hs.lt;have o1_hC:=J.ltb e1;have a1_hS:=O.le;refine FV x3 z hs J O H λz hs J O H=>Gc m1 (λw4 x4 xs4 m1=>?_);have z:=z.mod x4 (λk9 Y e=>by have h2:k9=b1:=e;have h8:=ha k9 Y;omega);have hs:=hs.mod x4 Fw;have J:=J.mod x4 Fw;have O:=O.mod x4 trivial;have H:=H.o1 x4;refine Gn 1511000 λw5 x5=>H3 x5 z hs J O m1 H λz hs J O m1 H=>?_;refine go ?_;refine df 5 (rfl) (go ?_);refine Gd rfl (λw' hR=>Fy (k:=4) Fe rfl rfl (m1.ext hR).row) ?_;have hr:=O.le;refine cD (z.calls_put c _ Fb Fb) (.inl rfl) λu6 w6 x6 hq=>?_;have hsz6:=H.size;have hs:=hs.mod x6 (λY=>(hsub _ Y).elim hFs (λh=>by have:=hh;omega));have J:=J.mod x6 (λk9 Y e9=>(hsub _ e9).elim (λh=>by have:=hc _ h;have:=(J.lt k9 Y).1;omega) (λh=>by have:=hf k9 Y;omega));have O:=O.mod x6 trivial;have H:=H.own x6 (λi hi hlt=>((hsub i hi).resolve_right (λh=>by have:=hg;omega)));obtain⟨rfl,z⟩:=hq;refine go ?_;rw[<-X72 hk]at z;exact⟨(k+1,_),He,⟨H,by omega,z,λj hj=>hj.elim (hsub j) (λh=>.inr (Ae hr h.1)),hs,J,O⟩,by simp only [];omega⟩
 refine go ?_;refine HV (Hx rfl ?_);rw[Ar Fb]at z;refine⟨_,rfl,H,rfl,?_⟩;exact z.to (λj hj=>(hsub j hj).elim .inl (λh=>.inr ⟨by omega,z.lt j hj⟩)) (λj hj=>hj.elim (λh=>Ax (hc j h) H.size) (·.2))
theorem Ya7 (bs bd bl:Nat)(n:Int)(vf:Value)(bo bm:Nat)(dead:Bool)(G:Nat->Prop)(vd ve:Value)(vs:List (Value×Fh))(L:Led)(w:World)(hs:Fo w bs (Ik bd bl n vf bo bm dead) 90)(hE:LedE G bl bd vd ve vs L w) :
  FW 17 [Fg bs 0] w (I L.last):=by
 refine cE Tryz.func17 λz=>go ?_;refine dp (GS Fe rfl rfl) ?_;refine Fk (λH=>?_) λH=>?_
 ·exact absurd H F5
 refine Gp (H5 G bl bd vd ve vs L _ (hE.ext z)) λw1 J=>?_;have z:=z.trans J;refine go ?_;exact⟨rfl,z⟩
theorem NE : MapK Tryz.prog 87 104 102 GH pO Kq:=Tu (i:=3) Fe Fe (Ya Fe Fe Fe) Fe Fe Fe Fe Fe Fe SU
structure Tb where
 h:Int×Int
 bt:Nat
 vl:Value
 vb:Value
 cs:List Cell
def HH (ts:List Tb)(h:Int×Int):Option Tb:=ts.find? λt=>decide (t.h=h)
def Jn (ts:List Tb)(h:Int×Int):Option (Option Nat):=(HH ts h).map λt=>some t.bt
def KD (ts:List Tb)(key:Fh):List Fi->Option Cell
 | []=>none
 | f :: r=>match(HH ts (f.lev,f.id)).bind λt=>first t.cs key 1099511627776 with
  | some c=>some c
  | none=>KD ts key r
def JZ (mem:List Cell)(fs:List Fi)(ts:List Tb)(key:Fh):Option Cell:=match first mem key 1099511627776 with
 | some c=>some c
 | none=>KD ts key (Jo fs key)
variable {fs:List Fi}{key:Fh}{ts:List Tb}
theorem VL {mem:List Cell}{c:Cell}(h:first mem key 1099511627776=some c):JZ mem fs ts key=some c:=by unfold JZ;rw[h]
theorem Q7 {mem:List Cell}(h:first mem key 1099511627776=none):JZ mem fs ts key=KD ts key (Jo fs key):=by unfold JZ;rw[h]
variable {t:Tb}
theorem PY {h:Int×Int}(e:HH ts h=some t):t∈ts:=List.mem_of_find?_eq_some e
theorem V8 {f:Fi}{c:Cell}(h:fs[k]?=some f)(ht:HH ts (f.lev,f.id)=some t)(hc:first t.cs key 1099511627776=some c):KD ts key (fs.drop k)=some c:=by
 rw[IW h];unfold KD;rw[ht,Cm,hc]
theorem Yv {f:Fi}(h:fs[k]?=some f)(ht:HH ts (f.lev,f.id)=some t)(hc:first t.cs key 1099511627776=none):KD ts key (fs.drop k)=KD ts key (fs.drop (k+1)):=by
 rw[IW h,KD.eq_2,ht,Cm,hc]
theorem LV.to {P:Program}{o:Oper}{E:FE}{v v':Value}(h:LV P o E w v)(e:v=v'):LV P o E w v':=e▸h
theorem Xj {h:Int×Int}(e:HH ts h=some t):pO ((Jn ts h).getD none)=Fg t.bt 0:=by unfold Jn;rw[e];rfl
theorem XV {f:Fi}(h:f∈Jo fs key):f∈fs:=by
 unfold Jo HF at h;simp only [Ak,List.mem_reverse,List.mem_filter]at h;rcases h with(((h|h)|h)|h)|h<;>exact h.1
theorem X73 (bs bd bl:Nat)(n:Int)(vf:Value)(bo bm no:Nat)(dead:Bool)(F:Nat->Prop)(mem:List Cell)(fs:List Fi)(ts:List Tb)(key:Fh)(w:World)(hs:Fo w bs (Ik bd bl n vf bo bm dead) 90)(hM:Ga F w bm mem)(hml:mem.length<=900000)(hf:Fs Fi.cs 5 w vf fs)(hfl:fs.length<=100000)(mo:Vc.Xbf Tryz.prog 104 GH pO w bo no (Jn ts))(htb:∀t∈ts,TblE t.bt t.vl t.vb t.cs w)(hfs:∀f∈fs,(∃t,HH ts (f.lev,f.id)=some t)/\Fx f.lev/\Fx f.id)(hkl:key.length<=1000000000) :
  FW 58 [Fg bs 0,S key] w (.tuple #[((JZ mem fs ts key).getD Cell.zero).v,B (JZ mem fs ts key).isSome]):=by
 refine cE Tryz.func58 λz=>go ?_;refine aL [S [],S [],B false,.int .i64 0] λb1 w1 e1 x1 H=>?_;have g1:=z.ge e1;have z:=z.trans x1;refine go ?_;refine df 5 (rfl) (dl rfl ((hs.ext z).at rfl) (Gp (hM.ext z |>.calls_get key 1099511627776 _ hml) λw2 x2=>Fz x2 H z λH z=>?_));refine go ?_;refine aL [S [],S [],B false,.int .i64 0] λb2 w3 e2 x3 m2=>?_;have g2:=z.ge e2;have n2_1:=H.ltb e2;refine Fz x3 H z λH z=>Gc m2 (λw4 x4 xs4 m2=>?_);have H:=H.mo x4;have z:=z.o1 x4;refine FZ (λc1=>?_) λc1=>?_
 ·refine go ?_;refine dq (Fy (k:=4) Fe rfl rfl m2.row) (Gc H (λw5 x5 xs5 H=>?_));have z:=z.o1 x5;refine go ?_;refine It (u:=?v10) rfl rfl rfl rfl Fe rfl H.row ?h10 ?k10
  case h10=>conv=>lhs;whnf
  obtain⟨c,O⟩:=CA.1 c1;rw[VL O,O];exact⟨rfl,z⟩
 have Y:first mem key 1099511627776=none:=by simpa using c1
 refine go ?_;refine dq (Fy Fe rfl rfl ((hs.ext z).part 2 2)) (Ge (X7p n fs vf key _ (hf.ext z) hfl) λvo w6 x6 h5=>?_);have hl:=z.size;refine Fz x6 H z λH z=>?_;have J:=h5.mono hl;refine dv 62 5 (J.arr Ff).sl (F9 (G:=Nat) (λk=>[(0,Fg bs 0),(1,S key),(4,Fg b1 0),(28,vo),(29,I ↑(Jo fs key).length),(30,I ↑k)]) (λk w'=>Fp w w'/\Fo w' b1 Cell.zero.cs 79/\Vc.Own Fi.cs 5 62 w.heap.size w' vo (Jo fs key)/\k<=(Jo fs key).length/\KD ts key (Jo fs key)=KD ts key ((Jo fs key).drop k)) (λk=>(Jo fs key).length-k) 0 ⟨z,H,J,Ab _,rfl⟩ ?_);rintro _ k w7 ⟨z,H,J,hk1,hin⟩;refine Fk (λc2=>?_) λc2=>?_
 ·obtain⟨f,hk⟩:∃f,(Jo fs key)[k]?=some f:=F8;have hh:=hfs f (XV (Ag hk));obtain⟨t,ht⟩:=hh.1;have hT:=htb t (PY ht);have h6:=Xf fs key 4;rw[Wi]at h6;refine go ?_;refine di 62 5 (J.arr Ff).sl rfl ((J.arr Ff).lt hk) (dq (Fy Fe rfl rfl ((J.arr Ff).row hk)) (aL [.int .i64 0,.int .i64 0,.int .i64 0,S [],S []] λb3 w8 e3 x8 m3=>?_));have g3:=z.ge e3;have n3_1:=H.ltb e3;have o3_hO:=J.ltb e3;refine FB x8 H J z λH J z=>Gc m3 (λw9 x9 xs9 m3=>?_);have H:=H.mo x9;have J:=J.mod x9 Fw;have z:=z.o1 x9;refine go ?_;refine Kf (R:=Fp) Fp.refl (λ_ _ _=>Fp.trans) Fe [3,5,7,9] (.one 0 .p false (.one 1 .p false (.one 2 .p false (.one 3 .l false (.one 4 .p false (.one 5 .l false (.one 6 .p false (.one 7 .l false (.one 8 .p false (.one 9 .l false (.one 10 .p false (.fork (.alt 11 false (.one 12 .p false (.one 13 .p false (.one 14 .p false (.one 15 .x false (.one 16 .x true (.one 17 .p false .nil)))))) (.alt 15 false (.one 11 .x false (.one 12 .p false (.one 13 .p false (.one 14 .p false (.one 16 .x true (.one 17 .p false .nil)))))) .stop)))))))))))))) Fe Fe (λw10 Z=>?_);have hw:=FC Z;clear Z;refine FP hw H J m3 z λH J m3 z=>go ?_;refine df 4 (rfl) (go ?_);refine dL rfl (λ_ hR=>((hs.ext (z.trans hR)).at rfl)) (go ?_);refine db (zs:=[.int .i64 0,.int .i64 0]) (pl:=[(0,1),(1,1)]) (pv:=[(0,_),(1,_)]) (cs:=[_,_]) ?_;refine go ?_;refine Gd (v:=Fg t.bt 0) rfl (λw' hR=>LV.to (Mq NE (kx:=(f.lev,f.id)) (z0:=none) rfl rfl Fe (mo.ext (z.trans hR)) ⟨hh.2.1,hh.2.2⟩) (Xj ht)) (go ?_);refine IQ ?_;refine Hc ?_ ?_
  ·refine cP (X4n t.bt t.vl t.vb t.cs key 1099511627776 _ (hT.ext z) hkl) RX.ext λw11 hy=>FB hy H J z λH J z=>go ?_;refine aL [S [],S [],B false,.int .i64 0] (λb4 w12 e4 hz m4=>?_) (hR:=RX.ext);have g4:=z.ge e4;have n4_1:=H.ltb e4;have o4_hO:=J.ltb e4;refine FB hz H J z λH J z=>go ?_;refine Gc m4 (λw13 ha xs13 m4=>?_);have H:=H.mo ha;have J:=J.mod ha Fw;have z:=z.o1 ha;refine FZ (λc3=>?_) λc3=>?_
   ·refine go ?_;refine dq (Fy (k:=4) Fe rfl rfl m4.row) (Gc H (λw14 hp xs14 H=>?_));have J:=J.mod hp Fw;have z:=z.o1 hp;refine go ?_;refine It (u:=?v24) rfl rfl rfl rfl Fe rfl H.row ?h24 ?k24
    case h24=>conv=>lhs;whnf
    obtain⟨c,O⟩:=CA.1 c3;rw[Q7 Y,hin,V8 hk ht O,O];exact⟨rfl,z⟩
   refine go ?_;have O:first t.cs key 1099511627776=none:=by simpa using c3
   exact FJ (k+1) ⟨z,H,J,by omega,by rw[hin,Yv hk ht O]⟩
  refine Hc ?_ ?_
  ·refine aL [S [],S [],B false,.int .i64 0] (λb5 w15 e5 h7 m5=>?_) (hR:=RX.ext);have g5:=z.ge e5;have n5_1:=H.ltb e5;have o5_hO:=J.ltb e5;refine FB h7 H J z λH J z=>go ?_;refine cP (X4n t.bt t.vl t.vb t.cs key 1099511627776 _ (hT.ext z) hkl) RX.ext λw16 hq=>FP hq H J m5 z λH J m5 z=>go ?_;refine Gc m5 (λw17 hg xs17 m5=>?_);have H:=H.mo hg;have J:=J.mod hg Fw;have z:=z.o1 hg;refine FZ (λc4=>?_) λc4=>?_
   ·refine go ?_;refine dq (Fy (k:=4) Fe rfl rfl m5.row) (Gc H (λw18 hj xs18 H=>?_));have J:=J.mod hj Fw;have z:=z.o1 hj;refine go ?_;refine It (u:=?v32) rfl rfl rfl rfl Fe rfl H.row ?h32 ?k32
    case h32=>conv=>lhs;whnf
    obtain⟨c,O⟩:=CA.1 c4;rw[Q7 Y,hin,V8 hk ht O,O];exact⟨rfl,z⟩
   refine go ?_;have O:first t.cs key 1099511627776=none:=by simpa using c4
   exact FJ (k+1) ⟨z,H,J,by omega,by rw[hin,Yv hk ht O]⟩
  exact IZ
 refine go ?_;refine db (zs:=[S [],S [],B false,.int .i64 0]) (pl:=[(0,1),(1,1),(2,1),(3,1)]) (pv:=[]) (cs:=[S [],S [],B false,.int .i64 0]) ?_;refine Gc H (λw19 hr xs19 H=>?_);have z:=z.o1 hr;refine go ?_;refine It (u:=?v37) rfl rfl rfl rfl Fe rfl H.row ?h37 ?k37
 case h37=>conv=>lhs;whnf
 rw[Q7 Y,hin,BD Fb];exact⟨rfl,z⟩
def getR (o:Option Cell):Fh×Bool:=match o with
 | some c=>if c.del=true then([],false)else(c.val,true)
 | none=>([],false)
variable {o:Option Cell}
theorem Xyb (h:o.isSome=false):getR o=([],false):=by cases o with|none=>rfl|some c=>cases h
theorem X2h (h:o.isSome=true)(h2:(o.getD Cell.zero).del=true):getR o=([],false):=by
 cases o with
 | none=>cases h
 | some c=>exact if_pos h2
theorem X2i (h:o.isSome=true)(h2:(o.getD Cell.zero).del=false):getR o=((o.getD Cell.zero).val,true):=by
 cases o with
 | none=>cases h
 | some c=>exact if_neg (by rw[show c.del=false from h2];decide)
theorem Ya8 (bs bd bl:Nat)(n:Int)(vf:Value)(bo bm no:Nat)(dead:Bool)(F:Nat->Prop)(mem:List Cell)(fs:List Fi)(ts:List Tb)(key:Fh)(w:World)(hs:Fo w bs (Ik bd bl n vf bo bm dead) 90)(hM:Ga F w bm mem)(hml:mem.length<=900000)(hf:Fs Fi.cs 5 w vf fs)(hfl:fs.length<=100000)(mo:Vc.Xbf Tryz.prog 104 GH pO w bo no (Jn ts))(htb:∀t∈ts,TblE t.bt t.vl t.vb t.cs w)(hfs:∀f∈fs,(∃t,HH ts (f.lev,f.id)=some t)/\Fx f.lev/\Fx f.id)(hkl:key.length<=1000000000) :
  FW 22 [Fg bs 0,S key] w (.tuple #[S (getR (JZ mem fs ts key)).1,B (getR (JZ mem fs ts key)).2]):=by
 refine cE Tryz.func22 λz=>go ?_;refine dp (GS Fe rfl rfl) ?_;refine Fk (λO=>?_) λO=>?_
 ·exact absurd O F5
 refine Gp (X73 bs bd bl n vf bo bm no dead F mem fs ts key _ (hs.ext z) (hM.ext z) hml (hf.ext z) hfl (mo.ext z) (λt ht=>(htb t ht).ext z) hfs hkl) λw1 x1=>?_;have z:=z.trans x1;refine go ?_;refine aL [S [],S [],B false,.int .i64 0] λb1 w2 e1 x2 Y=>?_;have g1:=z.ge e1;have z:=z.trans x2;refine Gc Y (λw3 Z xs3 Y=>?_);have z:=z.o1 Z;refine go ?_;refine Il 18 rfl (λH=>?_) (λH=>?_)
 ·refine go ?_;refine GD rfl (go ?_);rw[Xyb (by simpa using H)];exact⟨rfl,z⟩
 refine FZ (λJ=>?_) λJ=>?_
 ·refine go ?_;rw[X2h (by simpa using H) J];exact⟨rfl,z⟩
 refine go ?_;rw[X2i (by simpa using H) J];exact⟨rfl,z⟩
@[reducible] def Tb.kv (t:Tb):(Int×Int)×Option Nat:=(t.h,some t.bt)
theorem Oy (ts:List Tb)(h:Int×Int):lk (ts.map Tb.kv) h=Jn ts h:=by
 unfold Jn HH
 induction ts with
 | nil=>rfl
 | cons t r ih=>
  rw[Am,JO,CL]
  by_cases e:t.h=h
  ·simp [e]
  ·simp only [e,decide_false,if_false];exact ih
structure StE (κ:Nat->Nat)(bs bd bl bo bm:Nat)(vf:Value)(L:Led)(D:Dsk)(V:Vs)(ts:List Tb)(mem:List Cell)(dead:Bool)(w:World):Prop where
 m:Fo w bs (Ik bd bl V.next vf bo bm dead) 90
 ld:LD (λk=>κ k=1) bl bd L D w
 mp:Gl Tryz.prog 104 GH pO w bo (ts.map Tb.kv)
 mr:Ga (λk=>κ k=3) w bm mem
 vs:Fs Fi.cs 5 w vf V.fs
 tb:∀t∈ts,TblE t.bt t.vl t.vb t.cs w
 k0:κ bs=5
 k2:κ bo=2
 k4:V.fs≠[]->κ (base vf).1=4
 k6:∀t∈ts,∀k,Ke t.bt t.vl t.vb k->κ k=6
 lt:∀k,κ k≠0->k<w.heap.size
def IF (κ:Nat->Nat)(i:Nat)(w w':World):Nat->Nat:=λk=>if w.heap.size<=k/\k<w'.heap.size then i else κ k
variable {κ:Nat->Nat}
theorem M4 {i:Nat}{w':World}(h:k<w.heap.size):IF κ i w w' k=κ k:=by unfold IF;rw[if_neg Fb]
theorem Ww {i:Nat}{w':World}(h:w.heap.size<=k)(h2:k<w'.heap.size):IF κ i w w' k=i:=by unfold IF;rw[if_pos ⟨h,h2⟩]
section
variable {κ:Nat->Nat}{bs bd bl bo bm:Nat}{vf:Value}{L:Led}{D:Dsk}{V:Vs}{ts:List Tb}{mem:List Cell}{dead:Bool}{w w':World}{S:Nat->Prop}
theorem StE.mod (h:StE κ bs bd bl bo bm vf L D V ts mem dead w)(m:Vc.Mod S w w')(hS:∀k,κ k≠0->¬ S k):StE κ bs bd bl bo bm vf L D V ts mem dead w':=
 ⟨h.m.mod m (hS _ (by rw[h.k0];decide)),h.ld.mod m (λk hk=>hS k (by rw[hk];decide)),h.mp.mod m (hS _ (by rw[h.k2];decide)),Ga.mod h.mr m (λk hk=>hS k (by rw[hk];decide)),
  h.vs.mod m (λH=>hS _ (by rw[h.k4 H];decide)),λt z=>(h.tb t z).mod m (λk hk=>hS k (by rw[h.k6 t z k hk];decide)),h.k0,h.k2,h.k4,h.k6,λk hk=>Ax (h.lt k hk) m.size⟩
theorem StE.ext (h:StE κ bs bd bl bo bm vf L D V ts mem dead w)(x:Fp w w'):StE κ bs bd bl bo bm vf L D V ts mem dead w':=h.mod x (λ_ _ h=>h)
instance : Up w w' (StE κ bs bd bl bo bm vf L D V ts mem dead w) (StE κ bs bd bl bo bm vf L D V ts mem dead w'):=⟨λx h=>StE.ext h x⟩
theorem StE.updLt (h:StE κ bs bd bl bo bm vf L D V ts mem dead w)(hs:w.heap.size<=w'.heap.size){i:Nat} : ∀k,IF κ i w w' k≠0->k<w'.heap.size:=λk hk=>by
 unfold IF at hk;split at hk
 ·omega
 ·exact Ax (h.lt k hk) hs
theorem StE.ledger {L':Led}{D':Dsk}(h:StE κ bs bd bl bo bm vf L D V ts mem dead w)(m:Vc.Mod (λk=>κ k=1) w w')(z:LD (FSq (λk=>κ k=1) w w') bl bd L' D' w'):StE (IF κ 1 w w') bs bd bl bo bm vf L' D' V ts mem dead w':=by
 have hs:=m.size;have o:∀k,κ k≠0->IF κ 1 w w' k=κ k:=λk hk=>M4 (h.lt k hk);refine⟨h.m.mod m (by rw[h.k0];decide),z.wide (λk hk=>hk.elim (λe=>(o k (by rw[e];decide)).trans e) (λe=>Ww e.1 e.2)) (λk hk=>h.updLt hs k (by rw[hk];decide)),h.mp.mod m (by rw[h.k2];decide),
  (Ga.mod h.mr m (λk hk e=>by rw[hk]at e;cases e)).to (λk hk=>(o k (by rw[hk];decide)).trans hk) (λk hk=>h.updLt hs k (by rw[hk];decide)),h.vs.mod m (λz=>by rw[h.k4 z];decide),λt H=>(h.tb t H).mod m (λk hk=>by rw[h.k6 t H k hk];decide),
  (o _ (by rw[h.k0];decide)).trans h.k0,(o _ (by rw[h.k2];decide)).trans h.k2,λz=>(o _ (by rw[h.k4 z];decide)).trans (h.k4 z),λt H k hk=>(o k (by rw[h.k6 t H k hk];decide)).trans (h.k6 t H k hk),h.updLt hs⟩
theorem StE.setMem {mem':List Cell}(h:StE κ bs bd bl bo bm vf L D V ts mem dead w)(m:Vc.Mod (λk=>κ k=3) w w')(z:Ga (OF (λk=>κ k=3) w w') w' bm mem'):StE (IF κ 3 w w') bs bd bl bo bm vf L D V ts mem' dead w':=by
 have hs:=m.size;have o:∀k,κ k≠0->IF κ 3 w w' k=κ k:=λk hk=>M4 (h.lt k hk);refine⟨h.m.mod m (by rw[h.k0];decide),(h.ld.mod m (λk hk e=>by rw[hk]at e;cases e)).wide (λk hk=>(o k (by rw[hk];decide)).trans hk) (λk hk=>h.updLt hs k (by rw[hk];decide)),h.mp.mod m (by rw[h.k2];decide),
  z.to (λk hk=>hk.elim (λe=>(o k (by rw[e];decide)).trans e) (λe=>Ww e.1 e.2)) (λk hk=>h.updLt hs k (by rw[hk];decide)),h.vs.mod m (λz=>by rw[h.k4 z];decide),λt H=>(h.tb t H).mod m (λk hk=>by rw[h.k6 t H k hk];decide),
  (o _ (by rw[h.k0];decide)).trans h.k0,(o _ (by rw[h.k2];decide)).trans h.k2,λz=>(o _ (by rw[h.k4 z];decide)).trans (h.k4 z),λt H k hk=>(o k (by rw[h.k6 t H k hk];decide)).trans (h.k6 t H k hk),h.updLt hs⟩
theorem StE.head {dead':Bool}(h:StE κ bs bd bl bo bm vf L D V ts mem dead w)(m:Vc.Mod (Fu bs) w w')(hm:Fo w' bs (Ik bd bl V.next vf bo bm dead') 90):StE κ bs bd bl bo bm vf L D V ts mem dead' w':=by
 have hs:=m.size;have o:∀k,κ k≠5->¬ Fu bs k:=λk hk e=>hk (by have e2:k=bs:=e;rw[e2];exact h.k0);exact⟨hm,h.ld.mod m (λk hk=>o k (by rw[hk];decide)),h.mp.mod m (o _ (by rw[h.k2];decide)),Ga.mod h.mr m (λk hk=>o k (by rw[hk];decide)),h.vs.mod m (λH=>o _ (by rw[h.k4 H];decide)),λt z=>(h.tb t z).mod m (λk hk=>o k (by rw[h.k6 t z k hk];decide)),h.k0,h.k2,h.k4,h.k6,λk hk=>Ax (h.lt k hk) hs⟩
end
section
variable {κ:Nat->Nat}{bs bd bl bo bm:Nat}{vf:Value}{L:Led}{D:Dsk}{V:Vs}{ts:List Tb}{mem:List Cell}{dead:Bool}{w w':World}{S:Nat->Prop}
theorem StE.relab {κ':Nat->Nat}(h:StE κ bs bd bl bo bm vf L D V ts mem dead w)(o:∀k,κ k≠0->κ' k=κ k)(z:∀k,κ' k≠0->k<w.heap.size):StE κ' bs bd bl bo bm vf L D V ts mem dead w:=
 ⟨h.m,h.ld.wide (λk hk=>(o k (by rw[hk];decide)).trans hk) (λk hk=>z k (by rw[hk];decide)),h.mp,h.mr.to (λk hk=>(o k (by rw[hk];decide)).trans hk) (λk hk=>z k (by rw[hk];decide)),h.vs,h.tb,(o _ (by rw[h.k0];decide)).trans h.k0,(o _ (by rw[h.k2];decide)).trans h.k2,
  λz=>(o _ (by rw[h.k4 z];decide)).trans (h.k4 z),λt H k hk=>(o k (by rw[h.k6 t H k hk];decide)).trans (h.k6 t H k hk),z⟩
def Hr (ts:List Tb)(t:Tb):List Tb:=if(HH ts t.h).isSome then ts.map (λq=>if q.h=t.h then t else q)else ts++[t]
def Ki (ts:List Tb)(h:Int×Int):List Tb:=ts.filter λt=>decide (t.h≠h)
theorem X74 (ts:List Tb)(t:Tb):(Hr ts t).map Tb.kv=FG (ts.map Tb.kv) t.h (some t.bt):=by
 unfold Hr FG;rw[Oy];unfold Jn;rw[Option.isSome_map];split
 ·rw[Bx,Bx]
  apply BL
  intro q _;simp only [Function.comp];split<;>simp_all
 ·simp
theorem X75 (ts:List Tb)(h:Int×Int):(Ki ts h).map Tb.kv=G2 (ts.map Tb.kv) h:=by
 unfold Ki G2;rw[List.filter_map];rfl
theorem X2j {ts:List Tb}{t q:Tb}(h:q∈Hr ts t):q=t\/q∈ts:=by
 unfold Hr at h;split at h
 ·obtain⟨z,H,e⟩:=Ay.1 h;split at e
  ·exact .inl e.symm
  ·exact .inr (e▸H)
 ·rcases Ak.1 h with h|h
  ·exact .inr h
  ·exact .inl (Af.1 h)
theorem StE.setMap {ts':List Tb}(h:StE κ bs bd bl bo bm vf L D V ts mem dead w)(m:Vc.Mod (Fu bo) w w')(hm:Gl Tryz.prog 104 GH pO w' bo (ts'.map Tb.kv))(ht:∀t∈ts',TblE t.bt t.vl t.vb t.cs w/\∀k,Ke t.bt t.vl t.vb k->κ k=6):StE κ bs bd bl bo bm vf L D V ts' mem dead w':=by
 have o:∀k,κ k≠2->¬ Fu bo k:=λk hk e=>hk (by have e2:k=bo:=e;rw[e2];exact h.k2);exact⟨h.m.mod m (o _ (by rw[h.k0];decide)),h.ld.mod m (λk hk=>o k (by rw[hk];decide)),hm,Ga.mod h.mr m (λk hk=>o k (by rw[hk];decide)),h.vs.mod m (λz=>o _ (by rw[h.k4 z];decide)),λt h1=>(ht t h1).1.mod m (λk hk=>o k (by rw[(ht t h1).2 k hk];decide)),h.k0,h.k2,h.k4,λt h1=>(ht t h1).2,λk hk=>Ax (h.lt k hk) m.size⟩
def L4 (κ:Nat->Nat)(b i:Nat):Nat->Nat:=λk=>if k=b then i else κ k
theorem StE.setV {V':Vs}{vf':Value}(h:StE κ bs bd bl bo bm vf L D V ts mem dead w)(m:Vc.Mod (Fu bs) w w')(hm:Fo w' bs (Ik bd bl V'.next vf' bo bm dead) 90)(ha:Fs Fi.cs 5 w vf' V'.fs)(hk:V'.fs≠[]->κ (base vf').1=0):StE (if V'.fs=[]then κ else L4 κ (base vf').1 4) bs bd bl bo bm vf' L D V' ts mem dead w':=by
 have o:∀k,κ k≠5->¬ Fu bs k:=λk hk e=>hk (by have e2:k=bs:=e;rw[e2];exact h.k0);have h1:∀κ',(∀k,κ k≠0->κ' k=κ k)->(∀k,κ' k≠0->k<w.heap.size)->(V'.fs≠[]->κ' (base vf').1=4)->StE κ' bs bd bl bo bm vf' L D V' ts mem dead w':=λκ' e1 e2 O=>by
  have H:=h.relab e1 e2;have o:∀k,κ' k≠5->¬ Fu bs k:=λk hk e=>hk (by have e2:k=bs:=e;rw[e2];exact H.k0);exact⟨hm,H.ld.mod m (λk hk=>o k (by rw[hk];decide)),H.mp.mod m (o _ (by rw[H.k2];decide)),Ga.mod H.mr m (λk hk=>o k (by rw[hk];decide)),ha.mod m (λY=>o _ (by rw[O Y];decide)),λt J=>(H.tb t J).mod m (λk hk=>o k (by rw[H.k6 t J k hk];decide)),H.k0,H.k2,O,H.k6,λk hk=>Ax (H.lt k hk) m.size⟩
 split
 ·rename_i e;exact h1 κ (λ_ _=>rfl) h.lt (λhn=>absurd e hn)
 ·rename_i e;refine h1 _ (λk z=>?_) (λk z=>?_) (λ_=>by unfold L4;rw[if_pos rfl])
  ·unfold L4;rw[if_neg];intro e2;rw[e2,hk e]at z;exact z rfl
  ·unfold L4 at z;split at z
   ·rename_i e2;rw[e2];exact ha.base_lt Fj e
   ·exact h.lt k z
end
theorem LD.disk {H:Nat->Prop}{bl bd:Nat}{L:Led}{D:Dsk}(h:LD H bl bd L D w):∃F:Nat->Prop,G6 F bd D w/\(∀k,F k->H k)/\∀(D':Dsk) (w':World),Vc.Mod F w w'->G6 (FSq F w w') bd D' w'->LD (FSq H w w') bl bd L D' w':=by
 obtain⟨F,G,vd,ve,vs,h1,h2,h3,h4,J⟩:=h;refine⟨F,h1,λk hk=>h4 k (.inl hk),λD' w' m hd=>?_⟩;refine⟨FSq F w w',G,vd,ve,vs,hd,h2.mod m (λk hk O=>h3 k O hk),λk hk z=>hk.elim (λe=>h3 k e z) (λe=>by have:=h2.lt k z;omega),λk hk=>hk.elim (λe=>e.elim (λe=>.inl (h4 k (.inl e))) .inr) (λe=>.inl (h4 k (.inr e))),Jk J m.size⟩
end Go.Proofs.YtiooodckiddpmaaGreatDoor
namespace Go.Sp
open Go.Vc
variable {α:Type}
structure Ord (lt:α->α->Bool):Prop where
 tr:∀x y z,lt y x=false->lt z y=false->lt z x=false
 az:∀x y,lt x y=true->lt y x=false
def Up (lt:α->α->Bool)(l:List α):Prop:=l.Pairwise λx y=>lt y x=false
variable {i:Nat}
theorem Xe {X Y:List α}{x:α}(h:X.length<=i):(X++Y)[i]?=Y[i-X.length]?:=BJ h
theorem Rm {X Y:List α}{x:α}(h:X.length<=i):(X++Y).set i x=X++Y.set (i-X.length) x:=List.set_append_right _ _ h
theorem Uk (X M Y:List α)(x y:α):((X++x :: (M++y :: Y)).set X.length y).set (X.length+1+M.length) x=X++y :: (M++x :: Y):=by
 rw[Rm (Aa _),DZ,EH,Rm Fb,show X.length+1+M.length-X.length=M.length+1 by omega,List.set_cons_succ,Rm (Aa _),DZ,EH]
theorem QZ (X Y:List α)(x y:α):((X++x :: y :: Y).set X.length y).set (X.length+1) x=X++y :: x :: Y:=Uk X [] Y x y
theorem Up.left {lt:α->α->Bool}{A B:List α}(h:Up lt (A++B)):Up lt A:=(Bj.1 h).1
theorem Up.right {lt:α->α->Bool}{A B:List α}(h:Up lt (A++B)):Up lt B:=(Bj.1 h).2.1
theorem Up.app {lt:α->α->Bool}{A B:List α}(ha:Up lt A)(hb:Up lt B)(h:∀x∈A,∀y∈B,lt y x=false):Up lt (A++B):=Bj.2 ⟨ha,hb,h⟩
variable {j:Nat}
theorem Up.at {lt:α->α->Bool}{A:List α}(h:Up lt A){x y:α}(hi:A[i]?=some x)(hj:A[j]?=some y)(hij:i<j):lt y x=false:=by
 obtain⟨h1,rfl⟩:=Ap.1 hi;obtain⟨h2,rfl⟩:=Ap.1 hj;exact C4.1 h i j h1 h2 hij
theorem Ord.refl {lt:α->α->Bool}(O:Ord lt)(x:α):lt x x=false:=by
 cases h:lt x x with
 | false=>rfl
 | true=>have:=O.az x x h;rw[h]at this;exact this
theorem Up.le {lt:α->α->Bool}(O:Ord lt){A:List α}(h:Up lt A){x y:α}(hi:A[i]?=some x)(hj:A[j]?=some y)(hij:i<=j):lt y x=false:=by
 rcases Bm i j with h1|h1
 ·exact h.at hi hj h1
 ·have:i=j:=by omega
  subst this;rw[hi]at hj;cases hj;exact O.refl _
variable {s:Nat}
theorem X2k {lt:α->α->Bool}(O:Ord lt){A B:List α}(hA:Up lt A)(hB:Up lt B){t:Nat}(hs:s<=A.length)(ht:t<=B.length)(h1:s=0\/t=B.length\/∃x y,A[s-1]?=some x/\B[t]?=some y/\lt y x=false)(h2:s=A.length\/t=0\/∃x y,A[s]?=some x/\B[t-1]?=some y/\lt y x=true):
  ∀x∈A.take s++B.take t,∀y∈A.drop s++B.drop t,lt y x=false:=by
 intro x J y H;rcases Ak.1 J with J|J
 ·obtain⟨i,hi⟩:=AQ J;rw[Ba]at hi;split at hi
  ·rename_i Z;rcases Ak.1 H with H|H
   ·obtain⟨j,z⟩:=AQ H;rw[B4]at z;exact hA.at hi z Fb
   ·obtain⟨j,z⟩:=AQ H;rw[B4]at z;have Y:=(Ap.1 z).1;rcases h1 with h|h|⟨a,b,ha,hb,hab⟩
    ·omega
    ·omega
    ·exact O.tr _ _ _ (hA.le O hi ha Fb) (O.tr _ _ _ hab (hB.le O hb z Fb))
  ·cases hi
 ·obtain⟨i,hi⟩:=AQ J;rw[Ba]at hi;split at hi
  ·rename_i Z;rcases Ak.1 H with H|H
   ·obtain⟨j,z⟩:=AQ H;rw[B4]at z;have Y:=(Ap.1 z).1;rcases h2 with h|h|⟨a,b,ha,hb,hab⟩
    ·omega
    ·omega
    ·exact O.tr _ _ _ (hB.le O hi hb Fb) (O.tr _ _ _ (O.az _ _ hab) (hA.le O ha z Fb))
   ·obtain⟨j,z⟩:=AQ H;rw[B4]at z;exact hB.at hi z Fb
  ·cases hi
theorem Xt {lt:α->α->Bool}(O:Ord lt){B:List α}{x:α}(hB:Up lt B){t:Nat}(ht:t<=B.length)(h1:t=B.length\/∃y,B[t]?=some y/\lt y x=false)(h2:t=0\/∃y,B[t-1]?=some y/\lt x y=false):Up lt (B.take t++x :: B.drop t):=by
 have Y:Up lt (B.take t++B.drop t):=by rw[AS];exact hB
 refine Up.app Y.left (AI.2 ⟨λy J=>?_,Y.right⟩) λz hz y J=>?_
 ·obtain⟨j,H⟩:=AQ J;rw[B4]at H;have hjl:=(Ap.1 H).1;rcases h1 with h|⟨b,hb,hbx⟩
  ·omega
  ·exact O.tr _ _ _ hbx (hB.le O hb H Fb)
 ·obtain⟨i,hi⟩:=AQ hz;rw[Ba]at hi;split at hi
  ·rename_i hlt;have Z:lt x z=false:=by
    rcases h2 with h|⟨b,hb,hbx⟩
    ·omega
    ·exact O.tr _ _ _ (hB.le O hi hb Fb) hbx
   rcases Ah.1 J with rfl|J
   ·exact Z
   ·obtain⟨j,H⟩:=AQ J;rw[B4]at H;exact hB.at hi H Fb
  ·cases hi
def H2 (lt:α->α->Bool)(l:List α)(a b:Nat):Prop:=Up lt ((l.take b).drop a)
variable {a b:Nat}
theorem Ya9 (l:List α)(hab:a<=b):l.take a++(l.take b).drop a++l.drop b=l:=by
 have e:l.take a=(l.take b).take a:=by rw[Dd,Bt hab]
 rw[e,AS,AS]
variable {α:Type}
def Hh (lt:α->α->Bool)(a b:Nat)(l l':List α):Prop:=∃P M M' Q:List α,l=P++(M++Q)/\l'=P++(M'++Q)/\P.length=a/\a+M.length=b/\M'.Perm M/\Up lt M'
theorem L7 (l:List α)(hab:a<=b)(hb:b<=l.length):∃P M Q:List α,l=P++(M++Q)/\P.length=a/\a+M.length=b:=by
 refine⟨l.take a,(l.take b).drop a,l.drop b,?_,?_,?_⟩
 ·have:=Ya9 l hab;rw[A3]at this;exact this.symm
 ·rw[A7];omega
 ·rw[AX,A7];omega
theorem Li {P P' X X':List α}(h:P++X=P'++X')(hl:P.length=P'.length):P=P'/\X=X':=List.append_inj h hl
theorem Hh.len {lt:α->α->Bool}{l l':List α}(h:Hh lt a b l l'):l'.length=l.length/\a<=b/\b<=l.length:=by
 obtain⟨P,M,M',Q,rfl,rfl,h1,h2,h3,_⟩:=h;have:=h3.length_eq;simp only [Ad];omega
theorem Hh.perm {lt:α->α->Bool}{l l':List α}(h:Hh lt a b l l'):l'.Perm l:=by
 obtain⟨P,M,M',Q,rfl,rfl,h1,h2,h3,_⟩:=h;exact Ea _ (h3.append_right _)
theorem Hh.one {lt:α->α->Bool}(l:List α)(hab:a<=b)(hb:b<=l.length)(h1:b<=a+1):Hh lt a b l l:=by
 obtain⟨P,M,Q,e,h2,h3⟩:=L7 l hab hb;refine⟨P,M,M,Q,e,e,h2,h3,.refl _,?_⟩;rcases M with _|⟨x,_|⟨y,M⟩⟩
 ·exact Bq
 ·exact List.pairwise_singleton _ _
 ·simp at h3;omega
def JR (lt:α->α->Bool)(a i j:Nat)(l cur:List α):Prop:=∃(P M A B Q:List α) (x:α),l=P++(M++(x :: Q))/\cur=P++(A++(x :: (B++Q)))/\P.length=a/\a+M.length=i/\a+A.length=j/\(A++B).Perm M/\Up lt (A++B)/\∀y∈B,lt x y=true
theorem JR.len {lt:α->α->Bool}{l cur:List α}(h:JR lt a i j l cur):cur.length=l.length/\a<=j/\j<=i/\i<l.length:=by
 obtain⟨P,M,A,B,Q,x,rfl,rfl,h1,h2,h3,h4,_,_⟩:=h;have:=h4.length_eq;simp only [Ad,AA]at *;omega
theorem Ua {lt:α->α->Bool}{l cur:List α}(h:Hh lt a i l cur)(hi:i<l.length):JR lt a i i l cur:=by
 obtain⟨P,M,M',Q,rfl,rfl,h1,h2,h3,h4⟩:=h;rcases Q with _|⟨x,Q⟩
 ·simp only [Ad,Bl]at hi;omega
 ·exact⟨P,M,M',[],Q,x,rfl,rfl,h1,h2,by rw[h3.length_eq];exact h2,by rw[AH];exact h3,by rw[AH];exact h4,by intro y z;cases z⟩
theorem Ld {P A R:List α}{x:α}(h:P.length+A.length=j):(P++(A++(x :: R)))[j]?=some x:=by
 rw[Xe (x:=x) Fb,Xe (x:=x) Fb,show j-P.length-A.length=0 by omega];rfl
theorem Wb {lt:α->α->Bool}{l cur:List α}{x z:α}(h:JR lt a i j l cur)(hj:a<j)(hx:cur[j]?=some x)(hz:cur[j-1]?=some z)(hlt:lt x z=true):JR lt a i (j-1) l ((cur.set j z).set (j-1) x):=by
 obtain⟨P,M,A,B,Q,H,e1,e2,h1,h2,h3,h4,O,h6⟩:=h;rcases D4 A with rfl|⟨A',z',rfl⟩
 ·simp at h3;omega
 ·simp only [Eb,Ad,AA,Bl]at *;have J:H=x:=by
   rw[e2,Ld (by simp;omega)]at hx;exact Al.inj hx
  have ez:z'=z:=by
   rw[e2,A3,AY,AB,Ld Fb]at hz;exact Al.inj hz
  subst J;subst ez;refine⟨P,M,A',z' :: B,Q,H,e1,?_,h1,h2,by omega,by simpa using h4,by simpa using O,λy Y=>(Ah.1 Y).elim (λe=>e▸hlt) (h6 y)⟩;have:=QZ (P++A') (B++Q) z' H;rw[e2];rw[EI _ _ Fb];have Z:j=(P++A').length+1:=by simp;omega
  rw[Z,BX];simpa using this
theorem QK {lt:α->α->Bool}(O:Ord lt){l cur:List α}(h:JR lt a i j l cur)(hs:j=a\/∃x z,cur[j]?=some x/\cur[j-1]?=some z/\lt x z=false):Hh lt a (i+1) l cur:=by
 obtain⟨P,M,A,B,Q,x,e1,e2,h1,h2,h3,h4,J,h6⟩:=h;refine⟨P,M++[x],A++x :: B,Q,by rw[e1];simp,by rw[e2];simp,h1,by simp;omega,?_,?_⟩
 ·exact Ec.trans ((List.Perm.cons x h4).trans (EJ x M).symm)
 ·have Z:∀y∈B,lt y x=false:=λy H=>O.az _ _ (h6 y H);refine Up.app J.left (AI.2 ⟨Z,J.right⟩) λy H w Y=>?_;rcases Ah.1 Y with rfl|Y
  ·rcases hs with rfl|⟨x',z,hx,hz,hlt⟩
   ·have:A=[]:=Az Fb;subst this;cases H
   ·rcases D4 A with rfl|⟨A',z',rfl⟩
    ·cases H
    ·simp only [Eb,Ad,AA,Bl]at *;have ex:w=x':=by rw[e2,Ld (by simp;omega)]at hx;exact Al.inj hx
     have ez:z'=z:=by rw[e2,A3,AY,AB,Ld Fb]at hz;exact Al.inj hz
     subst ex;subst ez;rcases Ak.1 H with H|H
     ·exact O.tr _ _ _ ((Bj.1 J.left).2.2 y H z' F5) hlt
     ·rw[Af.1 H];exact hlt
  ·exact(Bj.1 J).2.2 y H w Y
def MM (a b n:Nat)(l l':List α):Prop:=∃P U M V Q:List α,l=P++(U++(M++(V++Q)))/\l'=P++(V++(M++(U++Q)))/\P.length=a/\U.length=n/\V.length=n/\a+n+M.length=b
def MA (a b n i:Nat)(l cur:List α):Prop:=∃P U1 U2 M V1 V2 Q:List α,l=P++((U1++U2)++(M++((V1++V2)++Q)))/\cur=P++(V1++(U2++(M++(U1++(V2++Q)))))/\P.length=a/\U1.length=i/\V1.length=i/\i+U2.length=n/\i+V2.length=n/\a+n+M.length=b
variable {n:Nat}
theorem MA.len {l cur:List α}(h:MA a b n i l cur):cur.length=l.length/\b+n<=l.length/\a+n<=b/\i<=n:=by
 obtain⟨P,U1,U2,M,V1,V2,Q,rfl,rfl,h1,h2,h3,h4,h5,h6⟩:=h;simp only [Ad];omega
theorem Yba {l:List α}(h1:a+n<=b)(h2:b+n<=l.length):MA a b n 0 l l:=by
 obtain⟨P,X,R,e,J,hX⟩:=L7 l (a:=a) (b:=b) Fb Fb;obtain⟨V,_,Q,e2,hV,_⟩:=L7 R (a:=n) (b:=n) (Aa _) (by have:=congrArg A5 e;simp only [Ad]at this;omega);rename_i Z O;have z:Z=[]:=Az Fb;subst z;obtain⟨U,_,M,H,hU,_⟩:=L7 X (a:=n) (b:=n) (Aa _) Fb;rename_i Z O;have z:Z=[]:=Az Fb;subst z;have hm:=congrArg A5 H;simp only [Ad,Bl]at hm;refine⟨P,[],U,M,[],V,Q,?_,?_,J,rfl,rfl,by omega,by omega,by omega⟩<;>rw[e,e2,H]<;>simp
theorem WI {l cur:List α}{x y:α}(h:MA a b n i l cur)(hi:i<n)(hx:cur[a+i]?=some x)(hy:cur[b+i]?=some y):MA a b n (i+1) l ((cur.set (a+i) y).set (b+i) x):=by
 obtain⟨P,U1,U2,M,V1,V2,Q,e1,e2,h1,h2,h3,h4,z,J⟩:=h;rcases U2 with _|⟨x',U2⟩
 ·simp at h4;omega
 rcases V2 with _|⟨y',V2⟩
 ·simp at z;omega
 simp only [AA]at h4 z;have H:x'=x:=by rw[e2,AY,Ld Fb]at hx;exact Al.inj hx
 have O:y'=y:=by
  have:cur=(P++(V1++(x' :: U2)))++((M++U1)++(y' :: (V2++Q))):=by rw[e2];simp
  rw[this,Ld (by simp;omega)]at hy;exact Al.inj hy
 subst H;subst O;refine⟨P,U1++[x'],U2,M,V1++[y'],V2,Q,by rw[e1];simp,?_,h1,by simp;omega,by simp;omega,by omega,by omega,J⟩;have:=Uk (P++V1) (U2++(M++U1)) (V2++Q) x' y';rw[e2,show a+i=(P++V1).length by simp;omega,show b+i=(P++V1).length+1+(U2++(M++U1)).length by simp;omega];simpa using this
theorem VK {l cur:List α}(h:MA a b n n l cur):MM a b n l cur:=by
 obtain⟨P,U1,U2,M,V1,V2,Q,e1,e2,h1,h2,h3,h4,h5,H⟩:=h;have J:U2=[]:=Az Fb;have z:V2=[]:=Az Fb;subst J;subst z;exact⟨P,U1,M,V1,Q,by rw[e1];simp,by rw[e2];simp,h1,h2,h3,H⟩
theorem MM.at {a b n:Nat}{l l' P U M V Q:List α}(h:MM a b n l l')(e:l=P++(U++(M++(V++Q))))(h1:P.length=a)(h2:U.length=n)(h3:V.length=n)(h4:a+n+M.length=b):l'=P++(V++(M++(U++Q))):=by
 obtain⟨P',U',M',V',Q',z,rfl,g1,g2,g3,g4⟩:=h;rw[e]at z;obtain⟨a1,b1⟩:=Li z Fb;obtain⟨O,Y⟩:=Li b1 Fb;obtain⟨J,b3⟩:=Li Y Fb;obtain⟨H,Z⟩:=Li b3 Fb;rw[a1,O,J,H,Z]
def Jc (m i j:Nat)(T cur:List α):Prop:=∃P X Y Q:List α,cur=P++(X++(Y++Q))/\X.length=i/\Y.length=j/\P.length+i=m/\T=P++(Y++(X++Q))
variable {m:Nat}
theorem Jc.len {T cur:List α}(h:Jc m i j T cur):cur.length=T.length/\i<=m/\m+j<=T.length:=by
 obtain⟨P,X,Y,Q,rfl,h1,h2,h3,rfl⟩:=h;simp only [Ad];omega
theorem Ku (l:List α)(h:a<=l.length):∃P Q:List α,l=P++Q/\P.length=a:=⟨l.take a,l.drop a,(AS _ _).symm,by rw[A7];omega⟩
theorem XY {T cur cur':List α}(h:Jc m i j T cur)(hij:j<i)(hs:MM (m-i) m j cur cur'):Jc m (i-j) j T cur':=by
 obtain⟨P,X,Y,Q,e1,h1,h2,h3,e2⟩:=h;obtain⟨H,J,rfl,z⟩:=Ku X (a:=j) Fb;rw[Ad]at h1;have:=hs.at (P:=P) (U:=H) (M:=J) (V:=Y) (Q:=Q) (by rw[e1];simp) Fb z h2 Fb;exact⟨P++Y,J,H,Q,by rw[this];simp,by omega,z,by simp;omega,by rw[e2];simp⟩
theorem Wy {T cur cur':List α}(h:Jc m i j T cur)(hij:i<j)(hs:MM (m-i) (m+j-i) i cur cur'):Jc m i (j-i) T cur':=by
 obtain⟨P,X,Y,Q,e1,h1,h2,h3,e2⟩:=h;obtain⟨z,H,rfl,hY⟩:=Ku Y (a:=j-i) Fb;rw[Ad]at h2;have:=hs.at (P:=P) (U:=X) (M:=z) (V:=H) (Q:=Q) (by rw[e1];simp) Fb h1 Fb Fb;exact⟨P,H,z,X++Q,by rw[this],by omega,by omega,h3,by rw[e2];simp⟩
theorem X44 {T cur cur':List α}(h:Jc m i i T cur)(hs:MM (m-i) m i cur cur'):cur'=T:=by
 obtain⟨P,X,Y,Q,e1,h1,h2,h3,e2⟩:=h;have:=hs.at (P:=P) (U:=X) (M:=[]) (V:=Y) (Q:=Q) (by rw[e1];simp) Fb h1 h2 (by simp;omega);rw[this,e2];simp
def Rot (a m b:Nat)(l l':List α):Prop:=∃P U V Q:List α,l=P++(U++(V++Q))/\l'=P++(V++(U++Q))/\P.length=a/\a+U.length=m/\m+V.length=b
theorem OL (l:List α)(ham:a<=m)(hmb:m<=b)(hb:b<=l.length):∃P U V Q:List α,l=P++(U++(V++Q))/\P.length=a/\a+U.length=m/\m+V.length=b:=by
 obtain⟨P,M,Q,e,h1,h2⟩:=L7 l (Ae ham hmb) hb;obtain⟨U,V,e2,h3⟩:=Ku M (a:=m-a) Fb;have:=congrArg A5 e2;rw[Ad]at this;exact⟨P,U,V,Q,by rw[e,e2];simp,h1,by omega,by omega⟩
def Jj (l:List α)(a m b:Nat):List α:=l.take a++((l.take b).drop m++((l.take m).drop a++l.drop b))
theorem YP {P U V Q:List α}(h1:P.length=a)(h2:a+U.length=m)(h3:m+V.length=b):Jj (P++(U++(V++Q))) a m b=P++(V++(U++Q)):=by
 subst h1;subst h2;subst h3;unfold Jj;have e1:(P++(U++(V++Q))).take P.length=P:=CP rfl;have e2:(P++(U++(V++Q))).take (P.length+U.length)=P++U:=by rw[<-A3];exact CP F5
 have J:(P++(U++(V++Q))).take (P.length+U.length+V.length)=P++(U++V):=by
  rw[show P++(U++(V++Q))=(P++(U++V))++Q by simp];exact CP (by simp;omega)
 have z:(P++(U++(V++Q))).drop (P.length+U.length+V.length)=Q:=by
  rw[show P++(U++(V++Q))=(P++(U++V))++Q by simp];exact CQ (by simp;omega)
 have H:(P++U).drop P.length=U:=CQ rfl;have O:(P++(U++V)).drop (P.length+U.length)=V:=by rw[<-A3];exact CQ F5
 rw[e1,e2,J,z,H,O]
theorem PM {l:List α}(ham:a<=m)(hmb:m<=b)(hb:b<=l.length):Jc m (m-a) (b-m) (Jj l a m b) l:=by
 obtain⟨P,U,V,Q,e,h1,h2,h3⟩:=OL l ham hmb hb;exact⟨P,U,V,Q,e,by omega,by omega,by omega,by rw[e];exact YP h1 h2 h3⟩
def SM (lt:α->α->Bool)(a m b:Nat)(l:List α):Prop:=∃P A B Q:List α,l=P++(A++(B++Q))/\P.length=a/\a+A.length=m/\m+B.length=b/\Up lt A/\Up lt B
theorem R3 {lt:α->α->Bool}{P M Q:List α}(h1:P.length=a)(h2:a+M.length=b):H2 lt (P++(M++Q)) a b↔Up lt M:=by
 subst h1;subst h2;unfold H2;have e1:(P++(M++Q)).take (P.length+M.length)=P++M:=by rw[<-A3];exact CP F5
 rw[e1,CQ rfl]
theorem VD {lt:α->α->Bool}{l:List α}(ham:a<=m)(hmb:m<=b)(hb:b<=l.length)(h1:H2 lt l a m)(h2:H2 lt l m b):SM lt a m b l:=by
 obtain⟨P,A,B,Q,rfl,e1,e2,z⟩:=OL l ham hmb hb;refine⟨P,A,B,Q,rfl,e1,e2,z,(R3 e1 e2).1 h1,?_⟩;rw[<-A3]at h2;exact(R3 (by simp;omega) z).1 h2
theorem Hh.up {lt:α->α->Bool}{l l':List α}(h:Hh lt a b l l'):H2 lt l' a b:=by
 obtain⟨P,M,M',Q,rfl,rfl,h1,h2,h3,h4⟩:=h;exact(R3 h1 (by rw[h3.length_eq];exact h2)).2 h4
theorem Hh.keep {lt:α->α->Bool}{c d:Nat}{l l':List α}(h:Hh lt a b l l')(hcd:d<=a\/b<=c)(hu:H2 lt l c d):H2 lt l' c d:=by
 obtain⟨P,M,M',Q,rfl,rfl,h1,h2,h3,h4⟩:=h;have z:=h3.length_eq;unfold H2 at *;rcases hcd with h|h
 ·rw[List.take_append_of_le_length Fb]at hu ⊢;exact hu
 ·have e:∀N:List α,N.length=M.length->((P++(N++Q)).take d).drop c=(Q.take (d-b)).drop (c-b):=by
   intro N hN;rw[<-A3,EK,List.drop_append];have:((P++N).take d).drop c=[]:=BW (by rw[A7,Ad];omega);rw[this,AB,A7,Ad];rcases Bm d (P.length+N.length)with h9|h9
   ·rw[show d-(P.length+N.length)=0 by omega,show d-b=0 by omega];simp
   ·rw[show c-min d (P.length+N.length)=c-b by omega,show d-(P.length+N.length)=d-b by omega]
  rw[e M rfl]at hu;rw[e M' z];exact hu
def MK (a k:Nat)(l cur:List α):Prop:=∃(P B R:List α) (x:α),l=P++(x :: (B++R))/\cur=P++(B++(x :: R))/\P.length=a/\a+B.length=k
variable {k:Nat}
theorem MK.len {l cur:List α}(h:MK a k l cur):cur.length=l.length/\a<=k/\k<l.length:=by
 obtain⟨P,B,R,x,rfl,rfl,h1,h2⟩:=h;simp only [Ad,AA];omega
theorem U3 {l:List α}(h:a<l.length):MK a a l l:=by
 obtain⟨P,Q,rfl,z⟩:=Ku l (a:=a) Fb;rcases Q with _|⟨x,Q⟩
 ·simp at h;omega
 ·exact⟨P,[],Q,x,rfl,rfl,z,rfl⟩
theorem Uh {l cur:List α}{x y:α}(h:MK a k l cur)(hx:cur[k]?=some x)(hy:cur[k+1]?=some y):MK a (k+1) l ((cur.set k y).set (k+1) x):=by
 obtain⟨P,B,R,z,e1,e2,h1,h2⟩:=h;have H:z=x:=by rw[e2,Ld Fb]at hx;exact Al.inj hx
 subst H;rcases R with _|⟨y',R⟩
 ·exfalso;rw[e2,Bh (by simp;omega)]at hy;cases hy
 ·have J:y'=y:=by
   have:cur=(P++B)++([z]++(y' :: R)):=by rw[e2];simp
   rw[this,Ld (by simp;omega)]at hy;exact Al.inj hy
  subst J;refine⟨P,B++[y'],R,z,by rw[e1];simp,?_,h1,by simp;omega⟩;have:=QZ (P++B) R z y';rw[e2,show k=(P++B).length by simp;omega];simpa using this
def MT (m k:Nat)(l cur:List α):Prop:=∃(P A R:List α) (x:α),l=P++(A++(x :: R))/\cur=P++(x :: (A++R))/\P.length=k/\k+A.length=m
theorem MT.len {l cur:List α}(h:MT m k l cur):cur.length=l.length/\k<=m/\m<l.length:=by
 obtain⟨P,B,R,x,rfl,rfl,h1,h2⟩:=h;simp only [Ad,AA];omega
theorem X8 {l:List α}(h:m<l.length):MT m m l l:=by
 obtain⟨P,Q,rfl,z⟩:=Ku l (a:=m) Fb;rcases Q with _|⟨x,Q⟩
 ·simp at h;omega
 ·exact⟨P,[],Q,x,rfl,rfl,z,rfl⟩
theorem Xo {l cur:List α}{x y:α}(h:MT m k l cur)(hk:0<k)(hx:cur[k]?=some x)(hy:cur[k-1]?=some y):MT m (k-1) l ((cur.set k y).set (k-1) x):=by
 obtain⟨P,A,R,z,e1,e2,h1,h2⟩:=h;have H:z=x:=by rw[e2,show P++(z :: (A++R))=P++([]++(z :: (A++R))) from rfl,Ld (by simpa using h1)]at hx;exact Al.inj hx
 subst H;rcases D4 P with rfl|⟨P',y',rfl⟩
 ·simp at h1;omega
 ·simp only [Eb,Ad,AA,Bl]at *;have J:y'=y:=by
   rw[e2,show P'++[y']++(z :: (A++R))=P'++([]++(y' :: (z :: (A++R)))) by simp,Ld (by simp;omega)]at hy;exact Al.inj hy
  subst J;refine⟨P',y' :: A,R,z,by rw[e1];simp,?_,by omega,by simp;omega⟩;have:=QZ P' (A++R) y' z;rw[e2,EI _ _ Fb,show k=P'.length+1 by omega,BX];simp;done
theorem Y5 {lt:α->α->Bool}(O:Ord lt){l cur:List α}(h:SM lt a m b l)(hm:m=a+1)(hi:m<=i)(hib:i<=b)(hc:MK a (i-1) l cur)(h1:i=b\/∃x y,l[a]?=some x/\l[i]?=some y/\lt y x=false)(h2:i=m\/∃x y,l[a]?=some x/\l[i-1]?=some y/\lt y x=true):Hh lt a b l cur:=by
 obtain⟨P,A,B,Q,rfl,g1,g2,g3,g4,Y⟩:=h;rcases A with _|⟨x,_|⟨x2,A⟩⟩
 ·simp at g2;omega
 ·obtain⟨P',B',R,x',e1,e2,f1,f2⟩:=hc;obtain⟨r1,r2⟩:=Li e1 Fb;simp only [AY,AB,Ck.injEq]at r2;obtain⟨rfl,r2⟩:=r2;subst r1;have Z:i-m<=B.length:=by omega
  have J:B'=B.take (i-m)/\R=B.drop (i-m)++Q:=by
   have r3:B.take (i-m)++(B.drop (i-m)++Q)=B'++R:=by rw[<-A3,AS];exact r2
   have H:=Li r3 (by rw[A7];omega);exact⟨H.1.symm,H.2.symm⟩
  have z:(P++([x]++(B++Q)))[a]?=some x:=by
   rw[show P++([x]++(B++Q))=P++([]++(x :: (B++Q))) from rfl];exact Ld (by simpa using g1)
  have hB:∀k,k<B.length->(P++([x]++(B++Q)))[m+k]?=B[k]?:=by
   intro k hk;rw[<-A3,BJ (by simp;omega),show m+k-(P++[x]).length=k by simp;omega,Bu hk]
  refine⟨P,[x]++B,B.take (i-m)++x :: B.drop (i-m),Q,by simp,by rw[e2,J.1,J.2];simp,g1,by simp;omega,?_,?_⟩
  ·refine Ec.trans ?_;rw[AS];exact .refl _
  ·refine Xt O Y Z ?_ ?_
   ·rcases h1 with h|⟨x1,y,q1,q2,q3⟩
    ·left;omega
    ·rcases Bm (i-m) B.length with h9|h9
     ·right;rw[z]at q1;cases q1
      have:=hB (i-m) h9;rw[show m+(i-m)=i by omega,q2]at this;exact⟨y,this.symm,q3⟩
     ·left;omega
   ·rcases h2 with h|⟨x1,y,q1,q2,q3⟩
    ·left;omega
    ·right;rw[z]at q1;cases q1
     rcases C5 hi with h9|h9
     ·exfalso;rw[show i-1=a by omega,z]at q2;cases q2
      rw[O.refl]at q3;cases q3
     ·have:=hB (i-m-1) Fb;rw[show m+(i-m-1)=i-1 by omega,q2]at this;exact⟨y,this.symm,O.az _ _ q3⟩
 ·simp at g2;omega
theorem Ub {lt:α->α->Bool}(O:Ord lt){l cur:List α}(h:SM lt a m b l)(hm:b=m+1)(hi:a<=i)(hib:i<=m)(hc:MT m i l cur)(h1:i=m\/∃x y,l[m]?=some x/\l[i]?=some y/\lt x y=true)(h2:i=a\/∃x y,l[m]?=some x/\l[i-1]?=some y/\lt x y=false):Hh lt a b l cur:=by
 obtain⟨P,A,B,Q,rfl,g1,g2,J,Z,g5⟩:=h;rcases B with _|⟨x,_|⟨x2,B⟩⟩
 ·simp at J;omega
 ·obtain⟨P',Y,R,x',e1,e2,f1,f2⟩:=hc;have ht:i-a<=A.length:=by omega
  have e3:(P++A.take (i-a))++(A.drop (i-a)++(x :: Q))=P'++(Y++(x' :: R)):=by
   rw[<-e1,A3,<-A3 (A.take _),AS];rfl
  obtain⟨r1,r2⟩:=Li e3 (by simp;omega);obtain⟨r3,H⟩:=Li r2 (by rw[AX];omega);simp only [Ck.injEq]at H;obtain⟨rfl,rfl⟩:=H;have z:(P++(A++([x]++Q)))[m]?=some x:=Ld Fb;have hA:∀k,k<A.length->(P++(A++([x]++Q)))[a+k]?=A[k]?:=by
   intro k hk;rw[BJ Fb,show a+k-P.length=k by omega,Bu hk]
  refine⟨P,A++[x],A.take (i-a)++x :: A.drop (i-a),Q,by simp,by rw[e2,<-r1,<-r3];simp,g1,by simp;omega,?_,?_⟩
  ·refine Ec.trans ?_;rw[AS];exact(EJ x A).symm
  ·refine Xt O Z ht ?_ ?_
   ·rcases h1 with h|⟨x1,y,q1,q2,q3⟩
    ·left;omega
    ·right;rw[z]at q1;cases q1
     rcases Bm (i-a) A.length with h9|h9
     ·have:=hA (i-a) h9;rw[show a+(i-a)=i by omega,q2]at this;exact⟨y,this.symm,O.az _ _ q3⟩
     ·exfalso;rw[show i=m by omega,z]at q2;cases q2
      rw[O.refl]at q3;cases q3
   ·rcases C5 hi with h9|h9
    ·left;omega
    rcases h2 with h|⟨x1,y,q1,q2,q3⟩
    ·left;omega
    ·right;rw[z]at q1;cases q1
     have:=hA (i-a-1) Fb;rw[show a+(i-a-1)=i-1 by omega,q2]at this;exact⟨y,this.symm,q3⟩
 ·simp at J;omega
def Ly (lt:α->α->Bool)(a m b start e:Nat)(l l2:List α):Prop:=∃P A1 A2 B1 B2 Q:List α,l=P++((A1++A2)++((B1++B2)++Q))/\P.length=a/\a+A1.length=start/\start+A2.length=m/\m+B1.length=e/\e+B2.length=b/\Up lt (A1++A2)/\Up lt (B1++B2)/\l2=P++((A1++B1)++((A2++B2)++Q))/\∀x∈A1++B1,∀y∈A2++B2,lt y x=false
variable {e:Nat}
theorem UH {lt:α->α->Bool}(O:Ord lt){l l2:List α}(h:SM lt a m b l)(hs1:a<=s)(hs2:s<=m)(he1:m<=e)(he2:e<=b)(h1:s=a\/e=b\/∃x y,l[s-1]?=some x/\l[e]?=some y/\lt y x=false)(h2:s=m\/e=m\/∃x y,l[s]?=some x/\l[e-1]?=some y/\lt y x=true)(h3:(s<m/\m<e->l2=Jj l s m e)/\(¬ (s<m/\m<e)->l2=l)):Ly lt a m b s e l l2:=by
 obtain⟨P,A,B,Q,rfl,g1,g2,g3,J,H⟩:=h;obtain⟨A1,A2,rfl,k1⟩:=Ku A (a:=s-a) Fb;obtain⟨B1,B2,rfl,k2⟩:=Ku B (a:=e-m) Fb;have hAl:(A1++A2).length=A1.length+A2.length:=Ad;have hBl:(B1++B2).length=B1.length+B2.length:=Ad;have hA:∀k,k<(A1++A2).length->(P++((A1++A2)++((B1++B2)++Q)))[a+k]?=(A1++A2)[k]?:=by
  intro k hk;rw[BJ Fb,show a+k-P.length=k by omega,Bu hk]
 have hB:∀k,k<(B1++B2).length->(P++((A1++A2)++((B1++B2)++Q)))[m+k]?=(B1++B2)[k]?:=by
  intro k hk;rw[BJ Fb,BJ Fb,show m+k-P.length-(A1++A2).length=k by omega,Bu hk]
 have z:=X2k O J H (s:=s-a) (t:=e-m) Fb Fb (by
  rcases h1 with h|h|⟨x,y,q1,q2,q3⟩
  ·left;omega
  ·right;left;omega
  ·rcases C5 hs1 with h9|h9
   ·left;omega
   rcases C5 he2 with h8|h8
   ·right;left;omega
   have r1:=hA (s-a-1) Fb;have r2:=hB (e-m) Fb;rw[show a+(s-a-1)=s-1 by omega,q1]at r1;rw[show m+(e-m)=e by omega,q2]at r2;exact .inr (.inr ⟨x,y,r1.symm,r2.symm,q3⟩)) (by
  rcases h2 with h|h|⟨x,y,q1,q2,q3⟩
  ·left;omega
  ·right;left;omega
  ·rcases C5 hs2 with h9|h9
   ·left;omega
   rcases C5 he1 with h8|h8
   ·right;left;omega
   have r1:=hA (s-a) Fb;have r2:=hB (e-m-1) Fb;rw[show a+(s-a)=s by omega,q1]at r1;rw[show m+(e-m-1)=e-1 by omega,q2]at r2;exact .inr (.inr ⟨x,y,r1.symm,r2.symm,q3⟩))
 rw[CP k1,CP k2,CQ k1,CQ k2]at z;refine⟨P,A1,A2,B1,B2,Q,rfl,g1,by omega,by omega,by omega,by omega,J,H,?_,z⟩
 by_cases hc:s<m/\m<e
 ·rw[h3.1 hc];rw[show P++((A1++A2)++((B1++B2)++Q))=(P++A1)++(A2++(B1++(B2++Q))) by simp,YP (by simp;omega) Fb Fb];simp
 ·rw[h3.2 hc];rcases Bm s m with h9|h9
  ·have:B1=[]:=Az Fb;subst this;simp
  ·have:A2=[]:=Az Fb;subst this;simp
variable {mid:Nat}
theorem VF {lt:α->α->Bool}{l l2:List α}(h:Ly lt a m b s e l l2)(hm:s+e=mid+m):SM lt a s mid l2:=by
 obtain⟨P,A1,A2,B1,B2,Q,rfl,h1,h2,h3,h4,h5,z,H,rfl,h8⟩:=h;exact⟨P,A1,B1,(A2++B2)++Q,by simp,h1,h2,by omega,z.left,H.left⟩
theorem Qc {lt:α->α->Bool}{l l2:List α}(h:Ly lt a m b s e l l2)(hm:s+e=mid+m)(hn:¬ (a<s/\s<mid)):Hh lt a mid l2 l2:=by
 obtain⟨P,A1,A2,B1,B2,Q,rfl,h1,h2,h3,h4,h5,z,H,rfl,h8⟩:=h;refine⟨P,A1++B1,A1++B1,(A2++B2)++Q,by simp,by simp,h1,by simp;omega,.refl _,?_⟩;rcases Bm a s with h9|h9
 ·have:B1=[]:=Az Fb;subst this;rw[AH];exact z.left
 ·have:A1=[]:=Az Fb;subst this;exact H.left
theorem Se {lt:α->α->Bool}{l l2 l3:List α}(h:Ly lt a m b s e l l2)(hm:s+e=mid+m)(h3:Hh lt a mid l2 l3):∃P A1 A2 B1 B2 X Q:List α,l=P++((A1++A2)++((B1++B2)++Q))/\P.length=a/\a+(A1.length+B1.length)=mid/\mid+A2.length=e/\e+B2.length=b/\Up lt A2/\Up lt B2/\l3=P++(X++(A2++(B2++Q)))/\X.Perm (A1++B1)/\Up lt X/\∀x∈X,∀y∈A2++B2,lt y x=false:=by
 obtain⟨P,A1,A2,B1,B2,Q,rfl,h1,h2,h4,h5,h6,Z,O,rfl,H⟩:=h;obtain⟨P',M,M',Q',e1,rfl,f1,f2,f3,f4⟩:=h3;obtain⟨r1,r2⟩:=Li e1 Fb;obtain⟨Y,J⟩:=Li r2 (by simp;omega);subst r1;subst Y;subst J;exact⟨P,A1,A2,B1,B2,M',Q,rfl,h1,by omega,by omega,by omega,Z.right,O.right,by simp,f3,f4,λx z=>H x (f3.mem_iff.1 z)⟩
theorem XC {lt:α->α->Bool}{l l2 l3:List α}(h:Ly lt a m b s e l l2)(hm:s+e=mid+m)(h3:Hh lt a mid l2 l3):SM lt mid e b l3:=by
 obtain⟨P,A1,A2,B1,B2,X,Q,rfl,h1,h2,h4,h5,z,J,rfl,H,h9,h10⟩:=Se h hm h3;have:=H.length_eq;rw[Ad]at this;exact⟨P++X,A2,B2,Q,by simp,by simp;omega,by omega,by omega,z,J⟩
theorem Q4 {lt:α->α->Bool}{l l2 l3:List α}(h:Ly lt a m b s e l l2)(hm:s+e=mid+m)(h3:Hh lt a mid l2 l3)(hn:¬ (mid<e/\e<b)):Hh lt mid b l3 l3:=by
 obtain⟨P,A1,A2,B1,B2,X,Q,rfl,h1,h2,h4,h5,z,J,rfl,H,h9,h10⟩:=Se h hm h3;have:=H.length_eq;rw[Ad]at this;refine⟨P++X,A2++B2,A2++B2,Q,by simp,by simp,by simp;omega,by simp;omega,.refl _,?_⟩;rcases Bm mid e with h11|h11
 ·have:B2=[]:=Az Fb;subst this;rw[AH];exact z
 ·have:A2=[]:=Az Fb;subst this;exact J
theorem NY {lt:α->α->Bool}{l l2 l3 l4:List α}(h:Ly lt a m b s e l l2)(hm:s+e=mid+m)(h3:Hh lt a mid l2 l3)(h4:Hh lt mid b l3 l4):Hh lt a b l l4:=by
 obtain⟨P,A1,A2,B1,B2,X,Q,rfl,h1,h2,h5,h6,h7,h8,rfl,O,z,H⟩:=Se h hm h3;have J:=O.length_eq;rw[Ad]at J;obtain⟨P',M,M',Q',e1,rfl,f1,f2,f3,f4⟩:=h4;rw[show P++(X++(A2++(B2++Q)))=(P++X)++((A2++B2)++Q) by simp]at e1;obtain⟨r1,r2⟩:=Li e1 (by simp;omega);obtain⟨r3,r4⟩:=Li r2 (by simp;omega);subst r1;subst r3;subst r4;refine⟨P,(A1++A2)++(B1++B2),X++M',Q,by simp,by simp,h1,by simp;omega,?_,?_⟩
 ·refine(List.Perm.append O f3).trans ?_;have:(B1++A2).Perm (A2++B1):=List.perm_append_comm;rw[A3 A1,A3 A1];refine Ea A1 ?_;rw[<-A3,<-A3];exact this.append_right B2
 ·exact Up.app z f4 λx Y y Z=>H x Y y (f3.mem_iff.1 Z)
def M2 (lt:α->α->Bool)(s j:Nat)(cur:List α):Prop:=(∀k,k<j->H2 lt cur (k*(2*s)) ((k+1)*(2*s)))/\∀k,2*j<=k->H2 lt cur (k*s) ((k+1)*s)
theorem QH {lt:α->α->Bool}{l:List α}{c:Nat}(h:H2 lt l a b)(hb:l.length<=b)(hc:l.length<=c):H2 lt l a c:=by
 unfold H2 at *;rw[Ar hb]at h;rw[Ar hc];exact h
theorem Y4 {lt:α->α->Bool}{l:List α}{b:Nat}(h:l.length<=a):H2 lt l a b:=by
 unfold H2;rw[BW (by rw[A7];omega)];exact Bq
theorem X2m {lt:α->α->Bool}{l:List α}(h:H2 lt l 0 b)(hb:l.length<=b):Up lt l:=by
 unfold H2 at h;rw[Ar hb]at h;exact h
theorem TQ {lt:α->α->Bool}{cur cur':List α}(h:M2 lt s j cur)(hs:Hh lt (j*(2*s)) ((j+1)*(2*s)) cur cur'):M2 lt s (j+1) cur':=by
 refine⟨λk hk=>?_,λk hk=>?_⟩
 ·rcases Bm k j with h9|h9
  ·exact hs.keep (.inl (AW _ h9)) (h.1 k h9)
  ·have:k=j:=by omega
   subst this;exact hs.up
 ·refine hs.keep (.inr ?_) (h.2 k Fb);rw[<-Cz,Bv (j+1) 2];exact AW _ hk
theorem Wl {lt:α->α->Bool}{cur:List α}(h:M2 lt s j cur)(hl:(j+1)*(2*s)<=cur.length):SM lt (j*(2*s)) (j*(2*s)+s) ((j+1)*(2*s)) cur:=by
 have e1:j*(2*s)=(2*j)*s:=by rw[<-Cz,Bv j 2]
 have e2:j*(2*s)+s=(2*j+1)*s:=by rw[e1];exact(Bd _ _).symm
 have z:(j+1)*(2*s)=(2*j+1+1)*s:=by rw[<-Cz,Bv (j+1) 2];rfl
 have g1:=h.2 (2*j) (Aa _);have g2:=h.2 (2*j+1) Fb;rw[<-e1,<-e2]at g1;rw[<-e2,<-z]at g2;refine VD Fb ?_ hl g1 g2;rw[e2,z];exact AW _ Fb
theorem Xq {lt:α->α->Bool}{cur:List α}(h:M2 lt s j cur)(hl:cur.length<(j+1)*(2*s))(hm:j*(2*s)+s<cur.length):SM lt (j*(2*s)) (j*(2*s)+s) cur.length cur:=by
 have e1:j*(2*s)=(2*j)*s:=by rw[<-Cz,Bv j 2]
 have e2:j*(2*s)+s=(2*j+1)*s:=by rw[e1];exact(Bd _ _).symm
 have z:(j+1)*(2*s)=(2*j+1+1)*s:=by rw[<-Cz,Bv (j+1) 2];rfl
 have g1:=h.2 (2*j) (Aa _);have g2:=h.2 (2*j+1) Fb;rw[<-e1,<-e2]at g1;rw[<-e2,<-z]at g2;exact VD Fb Fb (Aa _) g1 (QH g2 Fb (Aa _))
theorem Qn {lt:α->α->Bool}{cur cur':List α}(h:M2 lt s j cur)(hl:cur.length<(j+1)*(2*s))(hj:j*(2*s)<=cur.length)(hs:(j*(2*s)+s<cur.length->Hh lt (j*(2*s)) cur.length cur cur')/\(cur.length<=j*(2*s)+s->cur'=cur)):M2 lt (2*s) 0 cur':=by
 refine⟨λk hk=>absurd hk (Bg k),λk _=>?_⟩;have e1:j*(2*s)=(2*j)*s:=by rw[<-Cz,Bv j 2]
 have e2:j*(2*s)+s=(2*j+1)*s:=by rw[e1];exact(Bd _ _).symm
 have hlen:cur'.length=cur.length:=by
  rcases Bm (j*(2*s)+s) cur.length with h9|h9
  ·exact(hs.1 h9).len.1
  ·rw[hs.2 h9]
 rcases EL k j with h9|rfl|h9
 ·rcases Bm (j*(2*s)+s) cur.length with h8|h8
  ·exact(hs.1 h8).keep (.inl (AW _ h9)) (h.1 k h9)
  ·rw[hs.2 h8];exact h.1 k h9
 ·rcases Bm (k*(2*s)+s) cur.length with h8|h8
  ·exact QH (hs.1 h8).up Fb Fb
  ·rw[hs.2 h8];have g1:=h.2 (2*k) (Aa _);rw[<-e1,<-e2]at g1;exact QH g1 h8 Fb
 ·refine Y4 ?_;have:(j+1)*(2*s)<=k*(2*s):=AW _ h9;omega
def I2 (lt:α->α->Bool)(s j:Nat)(cur:List α):Prop:=∀k,k<j->H2 lt cur (k*s) ((k+1)*s)
theorem UB {lt:α->α->Bool}{cur cur':List α}(h:I2 lt s j cur)(hs:Hh lt (j*s) ((j+1)*s) cur cur'):I2 lt s (j+1) cur':=by
 intro k hk;rcases Bm k j with h9|h9
 ·exact hs.keep (.inl (AW _ h9)) (h k h9)
 ·have:k=j:=by omega
  subst this;exact hs.up
theorem XG {lt:α->α->Bool}{cur cur':List α}(h:I2 lt s j cur)(hl:cur.length<(j+1)*s)(hj:j*s<=cur.length)(hs:Hh lt (j*s) cur.length cur cur'):M2 lt s 0 cur':=by
 refine⟨λk hk=>absurd hk (Bg k),λk _=>?_⟩;have hlen:=hs.len.1;rcases EL k j with h9|rfl|h9
 ·exact hs.keep (.inl (AW _ h9)) (h k h9)
 ·exact QH hs.up Fb Fb
 ·refine Y4 ?_;have:(j+1)*s<=k*s:=AW _ h9;omega
theorem Vu {lt:α->α->Bool}{cur:List α}(h:M2 lt s 0 cur)(hl:cur.length<=s):Up lt cur:=by
 have:=h.2 0 Fb;rw[Cw]at this;exact X2m this Fb
section
variable {α:Type}
def JP (eq:α->α->Bool):α->List α->List α
 | _,[]=>[]
 | p,x :: r=>if eq x p=true then JP eq x r else x :: JP eq x r
def JY (eq:α->α->Bool):List α->List α
 | []=>[]
 | x :: r=>x :: JP eq x r
theorem VV (eq:α->α->Bool)(x:α):∀(l:List α) (p:α),JP eq p (l++[x])=JP eq p l++(if eq x (l.getLast?.getD p)=true then[]else[x])
 | [],p=>by simp only [AB,JP,List.getLast?_nil,Option.getD_none];by_cases h:eq x p=true<;>simp [h]
 | y :: r,p=>by
  have e:(y :: r).getLast?.getD p=r.getLast?.getD y:=by
   cases r with
   | nil=>rfl
   | cons z r=>simp [List.getLast?_cons]
  rw[AY,JP,JP,VV eq x r y,e];split<;>simp
variable {k:Nat}
theorem Qj {eq:α->α->Bool}{l:List α}{x y:α}(hk:0<k)(hx:l[k]?=some x)(hy:l[k-1]?=some y):JY eq (l.take (k+1))=if eq x y=true then JY eq (l.take k)else JY eq (l.take k)++[x]:=by
 rw[Bw,hx];simp only [Option.toList_some];rcases l with _|⟨a,r⟩
 ·simp at hx
 obtain⟨k,rfl⟩:∃m,k=m+1:=⟨k-1,by omega⟩;simp only [C0,AY,JY];rw[VV];have e:(r.take k).getLast?.getD a=y:=by
  have z:=(Ap.1 hx).1;simp only [AA]at z;simp only [BX]at hy;rcases CJ k with rfl|hk2
  ·simp at hy ⊢;exact hy
  ·obtain⟨k,rfl⟩:∃m,k=m+1:=⟨k-1,by omega⟩;simp only [List.getElem?_cons_succ]at hy;rw[List.getLast?_eq_getElem?,A7,show min (k+1) r.length-1=k by omega,Ba,if_pos Fb,hy];rfl
 rw[e];split<;>simp
theorem TR (eq:α->α->Bool)(l:List α):JY eq (l.take 1)=l.take 1:=by
 cases l with
 | nil=>rfl
 | cons x r=>rfl
theorem Xqm {eq:α->α->Bool}{l:List α}(h:l.length<2):JY eq l=l:=by
 have:=TR eq l;rwa [Ar Fb]at this
def KP (eq:α->α->Bool)(l:List α)(n k:Nat)(cur:List α):Prop:=cur.length=l.length/\k<n/\n<=l.length/\cur.take k=JY eq (l.take n)/\∀i,n<=i+1->cur[i]?=l[i]?
theorem Ybf {eq:α->α->Bool}{l:List α}{x y:α}(hk:0<k)(hc:JY eq (l.take k)=l.take k)(hx:l[k]?=some x)(hy:l[k-1]?=some y)(he:eq x y=true):KP eq l (k+1) k l:=
 ⟨rfl,by omega,(Ap.1 hx).1,by rw[Qj hk hx hy,if_pos he,hc],λ_ _=>rfl⟩
variable {n:Nat}
theorem Xyi {eq:α->α->Bool}{l:List α}{cur:List α}{x y:α}(h:KP eq l n k cur)(hx:l[n]?=some x)(hy:l[n-1]?=some y)(he:eq x y=true):KP eq l (n+1) k cur:=by
 obtain⟨h1,h2,h3,h4,z⟩:=h;exact⟨h1,by omega,(Ap.1 hx).1,by rw[Qj Fb hx hy,if_pos he,h4],λi hi=>z i Fb⟩
theorem Xsx {eq:α->α->Bool}{l:List α}{cur:List α}{x y:α}(h:KP eq l n k cur)(hx:l[n]?=some x)(hy:l[n-1]?=some y)(he:¬ eq x y=true):KP eq l (n+1) (k+1) (cur.set k x):=by
 obtain⟨h1,h2,h3,h4,z⟩:=h;refine⟨by rw[A9,h1],by omega,(Ap.1 hx).1,?_,λi hi=>by rw[Cg Fb,z i Fb]⟩;rw[Qj Fb hx hy,if_neg he,<-h4,Bw,DP (Aa k),BE Fb];rfl
def KL (p:α->Bool)(l:List α)(n k:Nat)(cur:List α):Prop:=cur.length=l.length/\k<n/\n<=l.length/\cur.take k=(l.take n).filter (λx=>!p x)/\∀i,n<=i->cur[i]?=l[i]?
theorem QY {p:α->Bool}{l:List α}{x:α}(hx:l[n]?=some x):(l.take (n+1)).filter p=if p x=true then(l.take n).filter p++[x]else(l.take n).filter p:=by
 rw[Bw,hx,Bs];split<;>simp [*]
theorem Ybg {p:α->Bool}{l:List α}{x:α}(hx:l[k]?=some x)(hp:p x=true)(hn:∀i y,i<k->l[i]?=some y->p y=false):KL p l (k+1) k l:=by
 refine⟨rfl,by omega,(Ap.1 hx).1,?_,λ_ _=>rfl⟩;rw[QY hx,if_neg (by simp [hp])];refine(BG.2 λy z=>?_).symm;obtain⟨i,hi⟩:=AQ z;rw[Ba]at hi;split at hi
 ·rename_i H;simp [hn i y H hi]
 ·cases hi
theorem TD {p:α->Bool}{l:List α}{cur:List α}{x:α}(h:KL p l n k cur)(hx:l[n]?=some x)(hp:p x=true):KL p l (n+1) k cur:=by
 obtain⟨h1,h2,h3,h4,z⟩:=h;exact⟨h1,by omega,(Ap.1 hx).1,by rw[QY hx,if_neg (by simp [hp]),h4],λi hi=>z i Fb⟩
theorem Uv {p:α->Bool}{l:List α}{cur:List α}{x:α}(h:KL p l n k cur)(hx:l[n]?=some x)(hp:p x=false):KL p l (n+1) (k+1) (cur.set k x):=by
 obtain⟨h1,h2,h3,h4,z⟩:=h;refine⟨by rw[A9,h1],by omega,(Ap.1 hx).1,?_,λi hi=>by rw[Cg Fb,z i Fb]⟩;rw[QY hx,if_pos (by simp [hp]),<-h4,Bw,DP (Aa k),BE Fb];rfl
end
end Go.Sp
namespace Go.Vc
open Go.RowKit
section
variable {α:Type}{enc:α->List Value}{sz T B:Nat}{w w':World}{v:Value}{l:List α}
theorem Tm (henc:∀x,(enc x).length=sz):∀(l:List α) (k:Nat),(l.flatMap enc).take (k*sz)=(l.take k).flatMap enc
 | [],k=>by simp
 | x :: r,0=>by simp
 | x :: r,k+1=>by
  rw[C0,AF,AF,Bd,Nat.add_comm,EK,henc,Ar (by rw[henc];omega),Nat.add_sub_cancel_left,Tm henc r k]
variable {k:Nat}
theorem Own.cut (henc:∀x,(enc x).length=sz)(h:Own enc sz T B w v l)(hk:k<=l.length):Own enc sz T B w (Hb sz v 0 k) (l.take k):=by
 obtain⟨h1,h2⟩:=h.row;refine⟨by rw[FF henc],?_⟩;rcases h2 with⟨rfl,h0⟩|⟨g,cap,cur,rfl,hB,hc,hn,hm,hs,ht⟩
 ·have:l=[]:=Az h0;subst this;exact .inl ⟨rfl,by simp⟩
 ·refine .inr ⟨g,cap,cur,?_,hB,hc,by rw[A7];omega,hm,hs,?_⟩
  ·simp only [Hb,Cw,C8,Addr.add,BZ,ite_self,A7,Bt hk]
  ·rw[A7,Bt hk,<-Tm henc,<-ht,Dd,Bt (AW _ hk)]
theorem Xoq {v:Value}{sz n:Nat}(hv:Fv v n):(Hb sz v 0 k).ownBlock=v.ownBlock:=by
 rcases hv with⟨rfl,_⟩|⟨b,o,c,rfl,_⟩|⟨_,a,c,rfl⟩
 ·rfl
 ·simp [Hb,Value.ownBlock,Addr.add]
 ·simp [Hb,Value.ownBlock,Addr.add]
variable {P:Program}{n:Nat}{E:FE}{ds:List (Option Tmp)}{R:World->World->Prop}{rs:List (Oper×Fl×Bool)}{K:FE->World->Prop}{pos:String}{af:Array Edge}{g:Option (Nat×Bool)}{anc:Bool}{ty:TypeId}
theorem Yc {dd:Option Tmp}{x:Operand}{t e:Nat}{zs:List Value}(henc:∀x,(enc x).length=sz)(hg:FT ds E g=true)(ht:IH P t=some (e,sz))(hz:KW P e=some zs)(hzs:zs.length=sz)(hsz:0<sz)(hz1:∀z∈zs,z.oneCell'=true)(hown:Own enc sz T B w v l)(hx:ev E x=Hb sz v k l.length)(hk:k<=l.length)(hR:anc=true\/∀w',Mod (λk=>v.ownBlock=some k) w w'->R w w')(h:∀w1,Mod (λk=>v.ownBlock=some k) w w1->w1.heap.size=w.heap.size->Own enc sz T B w1 (Hb sz v 0 k) (l.take k)->Dw P n ds R rs K (GF E dd (.tuple #[])) w1):
  Dw P n ds R ((⟨dd,.call { callee:=.builtin .clear,args:=#[x],argTypes:=#[t] },ty,pos,af,g⟩,.x,anc) :: rs) K E w:=by
 obtain⟨hu,i,hi,hs⟩:=KX ht;obtain⟨z,hf,ha⟩:=OR (w:=w) hz;have J:∃w1,(Builtin.clear_ #[t] ty #[Hb sz v k l.length]).run P w=.ok (.tuple #[]) w1/\Mod (λk=>v.ownBlock=some k) w w1/\w1.heap.size=w.heap.size/\Own enc sz T B w1 (Hb sz v 0 k) (l.take k):=by
  rcases C5 hk with hk2|hk2
  ·refine⟨w,?_,Mod.refl _ _,rfl,hown.cut henc hk⟩;rcases hown.sl with⟨rfl,_⟩|⟨b,o,c,rfl,_⟩|⟨_,a,c,rfl⟩<;>simp [Builtin.clear_,Hb,hk2,underlying,hu]
  ·have hl:l≠[]:=by rintro rfl;simp at hk2
   have hob:v.ownBlock=some (base v).1:=hown.base_block hl;obtain⟨r1,r2⟩:=hown.row;rcases r2 with⟨_,h0⟩|⟨b,cap,cur,rfl,hB,hc,hn,hm,hcs,htk⟩
   ·exact absurd (Az h0) hl
   have hb:Fo w b cur.toList T:=by show w.heap[b]?=_;rw[hc]
   have O:cur.toList.length=cap*sz:=by simp [hcs]
   have hlen:l.length*sz<=cur.toList.length:=by rw[O];exact AW _ hn
   subst hzs;have Y:(Builtin.zeroCells z.cells (l.length-k)).toList=(An (l.length-k) zs).flatten:=by
    rw[ha];unfold Builtin.zeroCells;exact congrArg Array.toList (Tl zs zs.length (l.length-k) rfl hsz)
   have hvl:((An (l.length-k) zs).flatten).length=(l.length-k)*zs.length:=by simp [List.length_flatten,List.map_replicate,List.sum_replicate_nat]
   have hkl:k*zs.length+(l.length-k)*zs.length=l.length*zs.length:=by rw[<-Nat.add_mul];congr 1;omega
   obtain⟨w1,e1,e2,e3,e4⟩:=WB (P:=P) (b:=b) (o:=k*zs.length) (T:=T) ((An (l.length-k) zs).flatten) 0 cur.toList w hb Fb (λu hu=>by
    obtain⟨q,hq,H⟩:=List.mem_flatten.1 hu;rw[List.eq_of_mem_replicate hq]at H;exact hz1 u H)
   obtain⟨m,hm2⟩:∃m,l.length-k=m+1:=⟨l.length-k-1,by omega⟩;have Z:Hb zs.length (.slice (some ⟨b,0,none⟩) l.length cap) k l.length=.slice (some ⟨b,k*zs.length,none⟩) (m+1) (cap-k):=by
    simp only [Hb,Addr.add,A0,hm2];rw[if_neg Fb]
    by_cases hk0:k*zs.length=0
    ·rw[if_pos hk0,hk0]
    ·rw[if_neg hk0]
   refine⟨w1,?_,e3.mono (λi hi _=>by have:i=b:=hi;rw[this];rfl),e4,?_⟩
   ·have hh:(storeCells ⟨b,k*zs.length,none⟩ (Builtin.zeroCells z.cells (m+1)).toList).run P w=.ok () w1:=by rw[<-hm2,Y];exact e1
    rw[Z];simp [Builtin.clear_,underlying,hu,hf,hh]
   ·refine⟨by rw[FF henc],.inr ⟨b,cap,⟨Gr cur.toList (k*zs.length+0) ((An (l.length-k) zs).flatten)⟩,?_,hB,e2,by rw[A7];omega,hm,by simp only [List.size_toArray];rw[Sv,O],?_⟩⟩
    ·simp only [Hb,Cw,C8,Addr.add,BZ,ite_self,A7,Bt hk]
    ·rw[A7,Bt hk,<-Tm henc,<-htk,Dd,Bt (AW _ hk)]
     apply BB
     intro i;simp only [Ba];split
     ·rw[Oa _ _ _ _ Fb,if_neg Fb]
     ·rfl
 obtain⟨w1,hr,h1,h2,h3⟩:=J;refine I1 (v:=.tuple #[]) (w':=w1) hg ?_ (λe=>hR.elim (λh=>by rw[h]at e;cases e) (λh=>h _ h1)) (h _ h1 h2 h3);simp [execOp,resolve,invoke,builtin,hx,hr]
end
end Go.Vc
namespace Go.Proofs.YtiooodckiddpmaaGreatDoor
open Go.Vc Go.Sp
attribute [local irreducible] W XW Dw G9
theorem MD {P:Program}{E:FE}{dd:Option Tmp}{ty:TypeId}{pos:String}{af:Array Edge}{g:Option (Nat×Bool)}{x y:Operand}{T U:TypeId}{u:Nat}{ky:IntKind}(hx:ev E x=.int .u64 u)(hy:ev E y=.int ky 1):PV P ⟨dd,.binOp .shr T x y U,ty,pos,af,g⟩ E (.int .u64 (u / 2:Nat)):=by
 have:=Ol (P:=P) (dd:=dd) (ty:=ty) (pos:=pos) (af:=af) (g:=g) (T:=T) (U:=U) hx hy Fj;rwa [show((u:Int)).fdiv (2 ^ min (1:Int).toNat IntKind.u64.bits)=((u / 2:Nat):Int) by
  rw[show(2:Int) ^ min (1:Int).toNat IntKind.u64.bits=2 by decide,Int.fdiv_eq_ediv_of_nonneg _ Fb];omega]at this
def FX {α:Type}(c:α->α->Int)(x y:α):Bool:=decide (c x y<0)
theorem Kb {α:Type}{enc:α->List Value}{sz T B:Nat}{w:World}{v:Value}{l:List α}(h:Vc.Own enc sz T B w v l)(hl:l≠[]):(base v).2=0:=by
 obtain⟨cs,cap,e,_⟩:=h.cells hl;rw[e];rfl
theorem YE (l:List Cell)(v:Value)(Bo f:Nat)(c:Cell->Cell->Int)(w:World)(ho:Vc.Own Cell.cs 4 79 Bo w v l)(hl:l.length<=10000000)(hcb:Hj Tryz.prog f=true)(hc:∀w2 x y,Calls Tryz.prog f [Cell.v x,Cell.v y].toArray w2 (Pure w2 (I (c x y))))(O:Ord (FX c))(a b:Nat)(hab:a<=b)(hb:b<=l.length) :
  Gy 252 [v,I ↑a,I ↑b,GZ f] w (λk=>v.ownBlock=some k) λu w'=>u=.tuple #[]/\∃l',Vc.Own Cell.cs 4 79 Bo w' v l'/\Hh (FX c) a b l l':=by
 refine cM Tryz.func252 (λk=>v.ownBlock=some k) λH=>F9 (G:=Nat×List Cell) (λ(i,cur)=>[(0,v),(1,I ↑a),(2,I ↑b),(3,GZ f),(8,I ↑i)]) (λ(i,cur) w'=>Mod (λk=>v.ownBlock=some k) w w'/\a+1<=i/\Hh (FX c) a (min i b) l cur/\Vc.Own Cell.cs 4 79 Bo w' v cur) (λ(i,cur)=>b-i) (a+1,l) ⟨H,Aa _,Hh.one l Fb Fb Fb,ho⟩ ?_;rintro _ ⟨i,cur⟩ w1 ⟨H,hi1,hs,ho⟩;refine Fk (λc1=>?_) λc1=>?_
 ·have hg:Hh (FX c) a i l cur:=by rw[Bt Fb]at hs;exact hs
  refine F9 (G:=Nat×List Cell) (λ(j,cur2)=>[(0,v),(1,I ↑a),(2,I ↑b),(3,GZ f),(8,I ↑i),(9,I ↑j)]) (λ(j,cur2) w'=>Mod (λk=>v.ownBlock=some k) w w'/\JR (FX c) a i j l cur2/\Vc.Own Cell.cs 4 79 Bo w' v cur2) (λ(j,cur2)=>j) (i,cur) ⟨H,Ua hg Fb,ho⟩ ?_;rintro _ ⟨j,cur2⟩ w2 ⟨H,hj,ho⟩;refine Gn 100510000100000000 λw3 x3=>Fz x3 ho H λho H=>?_;refine ds1 21 (λc2=>?_) λc2=>?_
  ·have hf:=hj.len;obtain⟨x,hxj⟩:∃x,cur2[j]?=some x:=F8;obtain⟨z,hzj⟩:∃x,cur2[j-1]?=some x:=F8;have Z:=Kb ho (λe=>by rw[e]at hxj;simp at hxj);refine go ?_;refine di 79 4 (ho.arr Ff).sl rfl ((ho.arr Ff).lt hxj) (Gd rfl (λw' hR=>Fy Fe rfl rfl (((ho.arr Ff).ext hR).row hxj)) (gn ?_));refine F3 (v:=I ↑(j-1)) rfl (Gz rfl rfl (by unfold Fx;omega)) (by show I _=I _;congr 1;omega) (di 79 4 (ho.arr Ff).sl rfl ((ho.arr Ff).lt hzj) (Gd rfl (λw' hR=>Fy Fe rfl rfl (((ho.arr Ff).ext hR).row hzj)) (LG (vs:=[x.v,z.v]) rfl rfl hcb (hc _ x z) rfl RX.all (λw4 x4=>Fz x4 ho H λho H=>?_))));refine Fk (λc3=>?_) λc3=>?_
   ·have ha:FX c x z=true:=by simpa [FX]using c3
    refine Gn 1505010001000000000 λw5 x5=>Fz x5 ho H λho H=>?_;refine gn ?_;refine F3 (v:=I ↑(j-1)) rfl (Gz rfl rfl (by unfold Fx;omega)) (by show I _=I _;congr 1;omega) (gn ?_);refine F3 (v:=I ↑(j-1)) rfl (Gz rfl rfl (by unfold Fx;omega)) (by show I _=I _;congr 1;omega) (di 79 4 (ho.arr Ff).sl rfl ((ho.arr Ff).lt hzj) (Gd rfl (λw' hR=>Fy Fe rfl rfl (((ho.arr Ff).ext hR).row hzj)) (go ?_)));refine di 79 4 (ho.arr Ff).sl rfl ((ho.arr Ff).lt hxj) (Gd rfl (λw' hR=>Fy Fe rfl rfl (((ho.arr Ff).ext hR).row hxj)) (F3 (v:=Fg (base v).1 (j*4+0)) rfl (Ii (i:=j) (e:=79) (k:=4) Fe ho.sl rfl rfl (by omega)) (by rw[Z];show Fg _ (0+_)=_;rw[A0];rfl) ?_));refine HO (enc:=Cell.cs) (sz:=4) (l:=cur2) (i:=j) (j:=0) (x:=z) (vs:=z.cs) Ff rfl ho rfl rfl rfl Fe (by omega) rfl (Aa 4) (by intro v hv;simp at hv;rcases hv with rfl|rfl|rfl|rfl<;>rfl) (.inl rfl) (λw6 x6 xs6 J=>?_);have H:=H.own x6 F4;have ho:=J;refine F3 (v:=Fg (base v).1 ((j-1)*4+0)) rfl (Ii (i:=(j-1)) (e:=79) (k:=4) Fe ho.sl rfl rfl (by rw[A9];omega)) (by rw[Z];show Fg _ (0+_)=_;rw[A0];rfl) ?_;refine HO (enc:=Cell.cs) (sz:=4) (l:=(cur2.set j z)) (i:=(j-1)) (j:=0) (x:=x) (vs:=x.cs) Ff rfl ho rfl rfl rfl Fe (by rw[A9];omega) rfl (Aa 4) (by intro v hv;simp at hv;rcases hv with rfl|rfl|rfl|rfl<;>rfl) (.inl rfl) (λw7 x7 xs7 J=>?_);have H:=H.own x7 F4;have ho:=J;refine gn ?_;refine F3 (v:=I ↑(j-1)) rfl (Gz rfl rfl (by unfold Fx;omega)) (by show I _=I _;congr 1;omega) (go ?_);exact⟨(j-1,_),Hn,⟨H,Wb hj Fb hxj hzj ha,ho⟩,by simp only [];omega⟩
   have Y:Hh (FX c) a (i+1) l cur2:=QK O hj (.inr ⟨x,z,hxj,hzj,by simpa [FX]using c3⟩);refine go ?_;exact FJ (i+1,cur2) ⟨H,by omega,by rw[Bt Fb];exact Y,ho⟩
  have hf:=hj.len;have Y:Hh (FX c) a (i+1) l cur2:=QK O hj (.inl Fb);refine go ?_;refine GL rfl (go ?_);exact FJ (i+1,cur2) ⟨H,by omega,by rw[Bt Fb];exact Y,ho⟩
 refine go ?_;refine HV (Hx rfl ?_);rw[EM Fb]at hs;exact⟨_,rfl,H,rfl,cur,ho,hs⟩
theorem RL (l:List Cell)(v:Value)(Bo f:Nat)(w:World)(ho:Vc.Own Cell.cs 4 79 Bo w v l)(hl:l.length<=10000000)(a b n:Nat)(h1:a+n<=b)(h2:b+n<=l.length) :
  Gy 328 [v,I ↑a,I ↑b,I ↑n,GZ f] w (λk=>v.ownBlock=some k) λu w'=>u=.tuple #[]/\∃l',Vc.Own Cell.cs 4 79 Bo w' v l'/\MM a b n l l':=by
 refine cM Tryz.func328 (λk=>v.ownBlock=some k) λH=>F9 (G:=Nat×List Cell) (λ(i,cur)=>[(0,v),(1,I ↑a),(2,I ↑b),(3,I ↑n),(10,I ↑i)]) (λ(i,cur) w'=>Mod (λk=>v.ownBlock=some k) w w'/\MA a b n i l cur/\Vc.Own Cell.cs 4 79 Bo w' v cur) (λ(i,cur)=>n-i) (0,l) ⟨H,Yba h1 h2,ho⟩ ?_;rintro _ ⟨i,cur⟩ w1 ⟨H,hr,ho⟩;refine Fk (λY=>?_) λY=>?_
 ·have O:=hr.len;obtain⟨x,hxi⟩:∃x,cur[a+i]?=some x:=F8;obtain⟨y,hyi⟩:∃x,cur[b+i]?=some x:=F8;have J:=Kb ho (λe=>by rw[e]at hxi;simp at hxi);refine Gn 1505010000010000000000000 λw2 x2=>Fz x2 ho H λho H=>?_;refine gn ?_;refine F3 (v:=I ↑(a+i)) rfl (GJ rfl rfl (by unfold Fx;omega)) rfl (gn ?_);refine F3 (v:=I ↑(b+i)) rfl (GJ rfl rfl (by unfold Fx;omega)) rfl (gn ?_);refine F3 (v:=I ↑(b+i)) rfl (GJ rfl rfl (by unfold Fx;omega)) rfl (di 79 4 (ho.arr Ff).sl rfl ((ho.arr Ff).lt hyi) (Gd rfl (λw' hR=>Fy Fe rfl rfl (((ho.arr Ff).ext hR).row hyi)) (gn ?_)));refine F3 (v:=I ↑(a+i)) rfl (GJ rfl rfl (by unfold Fx;omega)) rfl (di 79 4 (ho.arr Ff).sl rfl ((ho.arr Ff).lt hxi) (Gd rfl (λw' hR=>Fy Fe rfl rfl (((ho.arr Ff).ext hR).row hxi)) (F3 (v:=Fg (base v).1 ((a+i)*4+0)) rfl (Ii (i:=(a+i)) (e:=79) (k:=4) Fe ho.sl rfl rfl (by omega)) (by rw[J];show Fg _ (0+_)=_;rw[A0];rfl) ?_)));refine HO (enc:=Cell.cs) (sz:=4) (l:=cur) (i:=(a+i)) (j:=0) (x:=y) (vs:=y.cs) Ff rfl ho rfl rfl rfl Fe (by omega) rfl (Aa 4) (by intro v hv;simp at hv;rcases hv with rfl|rfl|rfl|rfl<;>rfl) (.inl rfl) (λw3 Z xs3 z=>?_);have H:=H.own Z F4;have ho:=z;refine F3 (v:=Fg (base v).1 ((b+i)*4+0)) rfl (Ii (i:=(b+i)) (e:=79) (k:=4) Fe ho.sl rfl rfl (by rw[A9];omega)) (by rw[J];show Fg _ (0+_)=_;rw[A0];rfl) ?_;refine HO (enc:=Cell.cs) (sz:=4) (l:=(cur.set (a+i) y)) (i:=(b+i)) (j:=0) (x:=x) (vs:=x.cs) Ff rfl ho rfl rfl rfl Fe (by rw[A9];omega) rfl (Aa 4) (by intro v hv;simp at hv;rcases hv with rfl|rfl|rfl|rfl<;>rfl) (.inl rfl) (λw4 x4 xs4 z=>?_);have H:=H.own x4 F4;have ho:=z;refine go ?_;exact⟨(i+1,_),GC,⟨H,WI hr Fb hxi hyi,ho⟩,by simp only [];omega⟩
 refine go ?_;refine HV (Hx rfl ?_);have O:=hr.len;rw[show i=n by omega]at hr;exact⟨_,rfl,H,rfl,cur,ho,VK hr⟩
theorem Ybh (l:List Cell)(v:Value)(Bo f:Nat)(w:World)(ho:Vc.Own Cell.cs 4 79 Bo w v l)(hl:l.length<=10000000)(a m b:Nat)(h1:a<m)(h2:m<b)(h3:b<=l.length) :
  Gy 306 [v,I ↑a,I ↑m,I ↑b,GZ f] w (λk=>v.ownBlock=some k) λu w'=>u=.tuple #[]/\∃l',Vc.Own Cell.cs 4 79 Bo w' v l'/\l'=Jj l a m b:=by
 refine cM Tryz.func306 (λk=>v.ownBlock=some k) λH=>gn ?_;refine F3 (v:=I ↑(m-a)) rfl (Gz rfl rfl (by unfold Fx;omega)) (by show I _=I _;congr 1;omega) (gn ?_);refine F3 (v:=I ↑(b-m)) rfl (Gz rfl rfl (by unfold Fx;omega)) (by show I _=I _;congr 1;omega) (F9 (G:=Nat×Nat×List Cell) (λ(i,j,cur)=>[(0,v),(2,I ↑m),(4,GZ f),(10,I ↑i),(11,I ↑j)]) (λ(i,j,cur) w'=>Mod (λk=>v.ownBlock=some k) w w'/\0<i/\0<j/\cur.length=l.length/\Jc m i j (Jj l a m b) cur/\Vc.Own Cell.cs 4 79 Bo w' v cur) (λ(i,j,cur)=>i+j) (m-a,b-m,l) ⟨H,by omega,by omega,rfl,PM Fb Fb h3,ho⟩ ?_);rintro _ ⟨i,j,cur⟩ w1 ⟨H,hi0,hj0,hcl,hr,ho⟩;refine Fk (λc1=>?_) λc1=>?_
 ·have Y:=hr.len;refine Fk (λc2=>?_) λc2=>?_
  ·refine gn ?_;refine F3 (v:=I ↑(m-i)) rfl (Gz rfl rfl (by unfold Fx;omega)) (by show I _=I _;congr 1;omega) (Gw (RL cur v Bo f _ ho Fb (m-i) m j Fb Fb) λu2 w2 x2 hf=>?_);have hsz2:=H.size;have H:=H.own x2 F4;obtain⟨rfl,z,ho,J⟩:=hf;refine gn ?_;refine F3 (v:=I ↑(i-j)) rfl (Gz rfl rfl (by unfold Fx;omega)) (by show I _=I _;congr 1;omega) (go ?_);have O:=XY hr Fb J;exact FJ (i-j,j,z) ⟨H,by omega,hj0,(O.len.1.trans (hr.len.1.symm.trans hcl)),O,ho⟩
  refine gn ?_;refine F3 (v:=I ↑(m-i)) rfl (Gz rfl rfl (by unfold Fx;omega)) (by show I _=I _;congr 1;omega) (gn ?_);refine F3 (v:=I ↑(m+j)) rfl (GJ rfl rfl (by unfold Fx;omega)) rfl (gn ?_);refine F3 (v:=I ↑(m+j-i)) rfl (Gz rfl rfl (by unfold Fx;omega)) (by show I _=I _;congr 1;omega) (Gw (RL cur v Bo f _ ho Fb (m-i) (m+j-i) i Fb Fb) λu3 w3 x3 ha=>?_);have hsz3:=H.size;have H:=H.own x3 F4;obtain⟨rfl,z,ho,J⟩:=ha;refine gn ?_;refine F3 (v:=I ↑(j-i)) rfl (Gz rfl rfl (by unfold Fx;omega)) (by show I _=I _;congr 1;omega) (go ?_);have O:=Wy hr Fb J;exact FJ (i,j-i,z) ⟨H,hi0,by omega,(O.len.1.trans (hr.len.1.symm.trans hcl)),O,ho⟩
 have Y:=hr.len;have hc:i=j:=by omega
 subst hc;refine gn ?_;refine F3 (v:=I ↑(m-i)) rfl (Gz rfl rfl (by unfold Fx;omega)) (by show I _=I _;congr 1;omega) (Gw (RL cur v Bo f _ ho Fb (m-i) m i Fb Fb) λu4 w4 x4 Z=>?_);have hsz4:=H.size;have H:=H.own x4 F4;obtain⟨rfl,z,ho,J⟩:=Z;refine go ?_;refine HV (Hx rfl ?_);exact⟨_,rfl,H,rfl,z,ho,X44 hr J⟩
def X5a (v:Value)(Bo f:Nat)(c:Cell->Cell->Int)(N:Nat):Prop:=∀(l:List Cell) (w:World) (a m b:Nat),b-a<N->Vc.Own Cell.cs 4 79 Bo w v l->l.length<=10000000->a<m->m<b->b<=l.length->SM (FX c) a m b l->Calls Tryz.prog 253 [v,I ↑a,I ↑m,I ↑b,GZ f].toArray w (Hi (λk=>v.ownBlock=some k) w (λu w'=>u=.tuple #[]/\∃l',Vc.Own Cell.cs 4 79 Bo w' v l'/\Hh (FX c) a b l l'))
theorem Ybi (l:List Cell)(v:Value)(Bo f:Nat)(c:Cell->Cell->Int)(w:World)(ho:Vc.Own Cell.cs 4 79 Bo w v l)(hl:l.length<=10000000)(hcb:Hj Tryz.prog f=true)(hc:∀w2 x y,Calls Tryz.prog f [Cell.v x,Cell.v y].toArray w2 (Pure w2 (I (c x y))))(O:Ord (FX c))(a m b:Nat)(ham:a<m)(hmb:m<b)(hb:b<=l.length)(hsm:SM (FX c) a m b l)(ih:X5a v Bo f c (b-a)) :
  Gy 253 [v,I ↑a,I ↑m,I ↑b,GZ f] w (λk=>v.ownBlock=some k) λu w'=>u=.tuple #[]/\∃l',Vc.Own Cell.cs 4 79 Bo w' v l'/\Hh (FX c) a b l l':=by
 refine cM Tryz.func253 (λk=>v.ownBlock=some k) λz=>?_;refine Fk (λc1=>?_) λc1=>?_
 ·have hw:m=a+1:=by omega
  refine F9 (G:=Nat×Nat) (λ(i,j)=>[(0,v),(1,I ↑a),(2,I ↑m),(3,I ↑b),(4,GZ f),(10,I ↑i),(11,I ↑j)]) (λ(i,j) w'=>Mod (λk=>v.ownBlock=some k) w w'/\m<=i/\i<=j/\j<=b/\(j=b\/∃x y,l[a]?=some x/\l[j]?=some y/\FX c y x=false)/\(i=m\/∃x y,l[a]?=some x/\l[i-1]?=some y/\FX c y x=true)/\Vc.Own Cell.cs 4 79 Bo w' v l) (λ(i,j)=>j-i) (m,b) ⟨z,Aa _,by omega,Aa _,.inl rfl,.inl rfl,ho⟩ ?_;rintro _ ⟨i,j⟩ w1 ⟨z,hi,hij,hjb,hup,hlo,ho⟩;refine Fk (λc2=>?_) λc2=>?_
  ·obtain⟨x,hxa⟩:∃x,l[a]?=some x:=F8;obtain⟨y,hyh⟩:∃x,l[(i+j) / 2]?=some x:=F8;refine gn ?_;refine F3 (v:=I ↑(i+j)) rfl (GJ rfl rfl (by unfold Fx;omega)) rfl (F3 (v:=.int .u64 ↑(i+j)) rfl (Lh (n:=i+j) (k:=.i64) Fb rfl Fe Fe) rfl (dp (MD (u:=i+j) rfl rfl) (dp (LJ (n:=(i+j) / 2) Fb rfl Fe Fe) (Gn 105100010000 λw2 x2=>Fz x2 ho z λho z=>?_))));refine go ?_;refine di 79 4 (ho.arr Ff).sl rfl ((ho.arr Ff).lt hyh) (Gd rfl (λw' hR=>Fy Fe rfl rfl (((ho.arr Ff).ext hR).row hyh)) (go ?_));refine di 79 4 (ho.arr Ff).sl rfl ((ho.arr Ff).lt hxa) (Gd rfl (λw' hR=>Fy Fe rfl rfl (((ho.arr Ff).ext hR).row hxa)) (LG (vs:=[y.v,x.v]) rfl rfl hcb (hc _ y x) rfl RX.all (λw3 x3=>Fz x3 ho z λho z=>?_)));refine Fk (λc3=>?_) λc3=>?_
   ·have ha:FX c y x=true:=by simpa [FX]using c3
    refine go ?_;exact⟨((i+j) / 2+1,j),GY,⟨z,by omega,by omega,hjb,hup,.inr ⟨x,y,hxa,by rw[BX];exact hyh,ha⟩,ho⟩,by simp only [];omega⟩
   have ha:FX c y x=false:=by simpa [FX]using c3
   refine go ?_;exact⟨(i,(i+j) / 2),GY,⟨z,hi,by omega,by omega,.inr ⟨x,y,hxa,hyh,ha⟩,hlo,ho⟩,by simp only [];omega⟩
  refine F9 (G:=Nat×List Cell) (λ(k,cur)=>[(0,v),(1,I ↑a),(2,I ↑m),(3,I ↑b),(4,GZ f),(10,I ↑i),(13,I ↑k)]) (λ(k,cur) w'=>Mod (λk=>v.ownBlock=some k) w w'/\MK a k l cur/\k<=i-1/\Vc.Own Cell.cs 4 79 Bo w' v cur) (λ(k,cur)=>i-k) (a,l) ⟨z,U3 Fb,by omega,ho⟩ ?_;rintro _ ⟨k,cur⟩ w4 ⟨z,hk,hki,ho⟩;refine Fk (λc4=>?_) λc4=>?_
  ·have hr:=hk.len;obtain⟨x,hxk⟩:∃x,cur[k]?=some x:=F8;obtain⟨y,hyk⟩:∃x,cur[k+1]?=some x:=F8;have hp:=Kb ho (λe=>by rw[e]at hxk;simp at hxk);refine Gn 1505010001000000000 λw5 x5=>Fz x5 ho z λho z=>?_;refine gn ?_;refine F3 (v:=I ↑(k+1)) rfl (GJ rfl rfl (by unfold Fx;omega)) rfl (gn ?_);refine F3 (v:=I ↑(k+1)) rfl (GJ rfl rfl (by unfold Fx;omega)) rfl (di 79 4 (ho.arr Ff).sl rfl ((ho.arr Ff).lt hyk) (Gd rfl (λw' hR=>Fy Fe rfl rfl (((ho.arr Ff).ext hR).row hyk)) (go ?_)));refine di 79 4 (ho.arr Ff).sl rfl ((ho.arr Ff).lt hxk) (Gd rfl (λw' hR=>Fy Fe rfl rfl (((ho.arr Ff).ext hR).row hxk)) (F3 (v:=Fg (base v).1 (k*4+0)) rfl (Ii (i:=k) (e:=79) (k:=4) Fe ho.sl rfl rfl (by omega)) (by rw[hp];show Fg _ (0+_)=_;rw[A0];rfl) ?_));refine HO (enc:=Cell.cs) (sz:=4) (l:=cur) (i:=k) (j:=0) (x:=y) (vs:=y.cs) Ff rfl ho rfl rfl rfl Fe (by omega) rfl (Aa 4) (by intro v hv;simp at hv;rcases hv with rfl|rfl|rfl|rfl<;>rfl) (.inl rfl) (λw6 x6 xs6 Z=>?_);have z:=z.own x6 F4;have ho:=Z;refine F3 (v:=Fg (base v).1 ((k+1)*4+0)) rfl (Ii (i:=(k+1)) (e:=79) (k:=4) Fe ho.sl rfl rfl (by rw[A9];omega)) (by rw[hp];show Fg _ (0+_)=_;rw[A0];rfl) ?_;refine HO (enc:=Cell.cs) (sz:=4) (l:=(cur.set k y)) (i:=(k+1)) (j:=0) (x:=x) (vs:=x.cs) Ff rfl ho rfl rfl rfl Fe (by rw[A9];omega) rfl (Aa 4) (by intro v hv;simp at hv;rcases hv with rfl|rfl|rfl|rfl<;>rfl) (.inl rfl) (λw7 x7 xs7 Z=>?_);have z:=z.own x7 F4;have ho:=Z;refine go ?_;exact⟨(k+1,_),GY,⟨z,Uh hk hxk hyk,by omega,ho⟩,by simp only [];omega⟩
  refine go ?_;refine Hx rfl ?_;have hr:=hk.len;have:k=i-1:=by omega
  subst this;have hh:i=j:=by omega
  subst hh;exact⟨_,rfl,z,rfl,cur,ho,Y5 O hsm hw hi hjb hk hup hlo⟩
 refine Fk (λc5=>?_) λc5=>?_
 ·have hw:b=m+1:=by omega
  refine F9 (G:=Nat×Nat) (λ(i,j)=>[(0,v),(1,I ↑a),(2,I ↑m),(3,I ↑b),(4,GZ f),(14,I ↑i),(15,I ↑j)]) (λ(i,j) w'=>Mod (λk=>v.ownBlock=some k) w w'/\a<=i/\i<=j/\j<=m/\(j=m\/∃x y,l[m]?=some x/\l[j]?=some y/\FX c x y=true)/\(i=a\/∃x y,l[m]?=some x/\l[i-1]?=some y/\FX c x y=false)/\Vc.Own Cell.cs 4 79 Bo w' v l) (λ(i,j)=>j-i) (a,m) ⟨z,Aa _,by omega,Aa _,.inl rfl,.inl rfl,ho⟩ ?_;rintro _ ⟨i,j⟩ w8 ⟨z,hi,hij,hjb,hup,hlo,ho⟩;refine Fk (λc6=>?_) λc6=>?_
  ·obtain⟨x,hxm⟩:∃x,l[m]?=some x:=F8;obtain⟨y,hyh⟩:∃x,l[(i+j) / 2]?=some x:=F8;refine gn ?_;refine F3 (v:=I ↑(i+j)) rfl (GJ rfl rfl (by unfold Fx;omega)) rfl (F3 (v:=.int .u64 ↑(i+j)) rfl (Lh (n:=i+j) (k:=.i64) Fb rfl Fe Fe) rfl (dp (MD (u:=i+j) rfl rfl) (dp (LJ (n:=(i+j) / 2) Fb rfl Fe Fe) (Gn 1005100010000 λw9 x9=>Fz x9 ho z λho z=>?_))));refine go ?_;refine di 79 4 (ho.arr Ff).sl rfl ((ho.arr Ff).lt hxm) (Gd rfl (λw' hR=>Fy Fe rfl rfl (((ho.arr Ff).ext hR).row hxm)) (go ?_));refine di 79 4 (ho.arr Ff).sl rfl ((ho.arr Ff).lt hyh) (Gd rfl (λw' hR=>Fy Fe rfl rfl (((ho.arr Ff).ext hR).row hyh)) (LG (vs:=[x.v,y.v]) rfl rfl hcb (hc _ x y) rfl RX.all (λw10 xf=>Fz xf ho z λho z=>?_)));refine FZ (λc7=>?_) λc7=>?_
   ·have ha:FX c x y=false:=by simpa [FX]using c7
    refine go ?_;exact⟨((i+j) / 2+1,j),GY,⟨z,by omega,by omega,hjb,hup,.inr ⟨x,y,hxm,by rw[BX];exact hyh,ha⟩,ho⟩,by simp only [];omega⟩
   have ha:FX c x y=true:=by simpa [FX]using c7
   refine go ?_;exact⟨(i,(i+j) / 2),GY,⟨z,hi,by omega,by omega,.inr ⟨x,y,hxm,hyh,ha⟩,hlo,ho⟩,by simp only [];omega⟩
  refine F9 (G:=Nat×List Cell) (λ(k,cur)=>[(0,v),(1,I ↑a),(2,I ↑m),(3,I ↑b),(4,GZ f),(14,I ↑i),(17,I ↑k)]) (λ(k,cur) w'=>Mod (λk=>v.ownBlock=some k) w w'/\MT m k l cur/\i<=k/\Vc.Own Cell.cs 4 79 Bo w' v cur) (λ(k,cur)=>k) (m,l) ⟨z,X8 Fb,by omega,ho⟩ ?_;rintro _ ⟨k,cur⟩ w11 ⟨z,hk,hki,ho⟩;refine Fk (λc8=>?_) λc8=>?_
  ·have hr:=hk.len;obtain⟨x,hxk⟩:∃x,cur[k]?=some x:=F8;obtain⟨y,hyk⟩:∃x,cur[k-1]?=some x:=F8;have hp:=Kb ho (λe=>by rw[e]at hxk;simp at hxk);refine Gn 1505010001000000000 λw12 xh=>Fz xh ho z λho z=>?_;refine gn ?_;refine F3 (v:=I ↑(k-1)) rfl (Gz rfl rfl (by unfold Fx;omega)) (by show I _=I _;congr 1;omega) (gn ?_);refine F3 (v:=I ↑(k-1)) rfl (Gz rfl rfl (by unfold Fx;omega)) (by show I _=I _;congr 1;omega) (di 79 4 (ho.arr Ff).sl rfl ((ho.arr Ff).lt hyk) (Gd rfl (λw' hR=>Fy Fe rfl rfl (((ho.arr Ff).ext hR).row hyk)) (go ?_)));refine di 79 4 (ho.arr Ff).sl rfl ((ho.arr Ff).lt hxk) (Gd rfl (λw' hR=>Fy Fe rfl rfl (((ho.arr Ff).ext hR).row hxk)) (F3 (v:=Fg (base v).1 (k*4+0)) rfl (Ii (i:=k) (e:=79) (k:=4) Fe ho.sl rfl rfl (by omega)) (by rw[hp];show Fg _ (0+_)=_;rw[A0];rfl) ?_));refine HO (enc:=Cell.cs) (sz:=4) (l:=cur) (i:=k) (j:=0) (x:=y) (vs:=y.cs) Ff rfl ho rfl rfl rfl Fe (by omega) rfl (Aa 4) (by intro v hv;simp at hv;rcases hv with rfl|rfl|rfl|rfl<;>rfl) (.inl rfl) (λw13 xd xs13 Z=>?_);have z:=z.own xd F4;have ho:=Z;refine F3 (v:=Fg (base v).1 ((k-1)*4+0)) rfl (Ii (i:=(k-1)) (e:=79) (k:=4) Fe ho.sl rfl rfl (by rw[A9];omega)) (by rw[hp];show Fg _ (0+_)=_;rw[A0];rfl) ?_;refine HO (enc:=Cell.cs) (sz:=4) (l:=(cur.set k y)) (i:=(k-1)) (j:=0) (x:=x) (vs:=x.cs) Ff rfl ho rfl rfl rfl Fe (by rw[A9];omega) rfl (Aa 4) (by intro v hv;simp at hv;rcases hv with rfl|rfl|rfl|rfl<;>rfl) (.inl rfl) (λw14 xj xs14 Z=>?_);have z:=z.own xj F4;have ho:=Z;refine gn ?_;refine F3 (v:=I ↑(k-1)) rfl (Gz rfl rfl (by unfold Fx;omega)) (by show I _=I _;congr 1;omega) (go ?_);exact⟨(k-1,_),GY,⟨z,Xo hk Fb hxk hyk,by omega,ho⟩,by simp only [];omega⟩
  refine go ?_;refine Hx rfl ?_;have hr:=hk.len;have:k=i:=by omega
  subst this;have hh:k=j:=by omega
  subst hh;exact⟨_,rfl,z,rfl,cur,ho,Ub O hsm hw hi hjb hk hup hlo⟩
 have ham2:a+2<=m:=by omega
 have hmb2:m+2<=b:=by omega
 refine gn ?_;refine F3 (v:=I ↑(a+b)) rfl (GJ rfl rfl (by unfold Fx;omega)) rfl (F3 (v:=.int .u64 ↑(a+b)) rfl (Lh (n:=a+b) (k:=.i64) Fb rfl Fe Fe) rfl (dp (MD (u:=a+b) rfl rfl) (dp (LJ (n:=(a+b) / 2) Fb rfl Fe Fe) (gn ?_))));refine F3 (v:=I ↑((a+b) / 2+m)) rfl (GJ rfl rfl (by unfold Fx;omega)) rfl (g0 ?_);refine wS (g0 ?_);refine GK (G:=Nat×Nat) (λ(s0,r0)=>[(0,v),(1,I ↑a),(2,I ↑m),(3,I ↑b),(4,GZ f),(18,I ↑((a+b) / 2)),(19,I ↑((a+b) / 2+m)),(20,I ↑s0),(21,I ↑r0)]) (λ(s0,r0) w'=>Mod (λk=>v.ownBlock=some k) w w'/\a<=s0/\s0<=r0/\r0<=m/\(s0=a\/(a+b) / 2+m-s0=b)/\(r0=m\/(a+b) / 2+m-r0=m)/\(a+b) / 2+m-s0<=b/\m<=(a+b) / 2+m-r0/\Vc.Own Cell.cs 4 79 Bo w' v l) ?_ ?_
 ·refine Fk (λc9=>?_) λc9=>?_
  ·have xi:(a+b) / 2<m:=by omega
   refine gn ?_;refine F3 (v:=I ↑((a+b) / 2+m-b)) rfl (Gz rfl rfl (by unfold Fx;omega)) (by show I _=I _;congr 1;omega) (go ?_);exact⟨((a+b) / 2+m-b,(a+b) / 2),KV,z,by omega,by omega,by omega,.inr Fb,.inr Fb,by omega,by omega,ho⟩
  have xi:m<=(a+b) / 2:=by omega
  refine go ?_;exact⟨(a,m),KV,z,by omega,by omega,by omega,.inl rfl,.inl rfl,by omega,by omega,ho⟩
 rintro _ ⟨s0,r0⟩ w15 ⟨z,q0,q1,q2,q3,q4,q5,q6,ho⟩;refine gn ?_;refine F3 (v:=I ↑((a+b) / 2+m-1)) rfl (Gz rfl rfl (by unfold Fx;omega)) (by show I _=I _;congr 1;omega) (F9 (G:=Nat×Nat) (λ(s,r)=>[(0,v),(1,I ↑a),(2,I ↑m),(3,I ↑b),(4,GZ f),(18,I ↑((a+b) / 2)),(19,I ↑((a+b) / 2+m)),(20,I ↑s),(21,I ↑r),(22,I ↑((a+b) / 2+m-1))]) (λ(s,r) w'=>Mod (λk=>v.ownBlock=some k) w w'/\s0<=s/\s<=r/\r<=r0/\(s=s0\/∃x y,l[s-1]?=some x/\l[(a+b) / 2+m-s]?=some y/\FX c y x=false)/\(r=r0\/∃x y,l[r]?=some x/\l[(a+b) / 2+m-1-r]?=some y/\FX c y x=true)/\Vc.Own Cell.cs 4 79 Bo w' v l) (λ(s,r)=>r-s) (s0,r0) ⟨z,Aa _,q1,Aa _,.inl rfl,.inl rfl,ho⟩ ?_);rintro _ ⟨s,r⟩ w16 ⟨z,hs0,hsr1,hr0,hlo,hhi,ho⟩;refine Fk (λxl=>?_) λxl=>?_
 ·obtain⟨y,hyh⟩:∃x,l[(a+b) / 2+m-1-(s+r) / 2]?=some x:=F8;obtain⟨x,hxc⟩:∃x,l[(s+r) / 2]?=some x:=F8;refine gn ?_;refine F3 (v:=I ↑(s+r)) rfl (GJ rfl rfl (by unfold Fx;omega)) rfl (F3 (v:=.int .u64 ↑(s+r)) rfl (Lh (n:=s+r) (k:=.i64) Fb rfl Fe Fe) rfl (dp (MD (u:=s+r) rfl rfl) (dp (LJ (n:=(s+r) / 2) Fb rfl Fe Fe) (Gn 100510001000000 λw17 xg=>Fz xg ho z λho z=>?_))));refine gn ?_;refine F3 (v:=I ↑((a+b) / 2+m-1-(s+r) / 2)) rfl (Gz rfl rfl (by unfold Fx;omega)) (by show I _=I _;congr 1;omega) (di 79 4 (ho.arr Ff).sl rfl ((ho.arr Ff).lt hyh) (Gd rfl (λw' hR=>Fy Fe rfl rfl (((ho.arr Ff).ext hR).row hyh)) (go ?_)));refine di 79 4 (ho.arr Ff).sl rfl ((ho.arr Ff).lt hxc) (Gd rfl (λw' hR=>Fy Fe rfl rfl (((ho.arr Ff).ext hR).row hxc)) (LG (vs:=[y.v,x.v]) rfl rfl hcb (hc _ y x) rfl RX.all (λw18 h7=>Fz h7 ho z λho z=>?_)));refine FZ (λhq=>?_) λhq=>?_
  ·have ha:FX c y x=false:=by simpa [FX]using hq
   refine go ?_;exact⟨((s+r) / 2+1,r),KQ,⟨z,by omega,by omega,hr0,.inr ⟨x,y,by rw[BX];exact hxc,by rw[<-hyh];congr 1;omega,ha⟩,hhi,ho⟩,by simp only [];omega⟩
  have ha:FX c y x=true:=by simpa [FX]using hq
  refine go ?_;exact⟨(s,(s+r) / 2),KQ,⟨z,hs0,by omega,by omega,hlo,.inr ⟨x,y,hxc,hyh,ha⟩,ho⟩,by simp only [];omega⟩
 have xk:s=r:=by omega
 subst xk;have ht:∀l2,((s<m/\m<(a+b) / 2+m-s->l2=Jj l s m ((a+b) / 2+m-s))/\(¬ (s<m/\m<(a+b) / 2+m-s)->l2=l))->Ly (FX c) a m b s ((a+b) / 2+m-s) l l2:=λl2 h2=>UH O hsm Fb Fb Fb Fb (by
  rcases hlo with e|e
  ·rcases q3 with e3|e3
   ·exact .inl Fb
   ·exact .inr (.inl (by rw[e];exact e3))
  ·exact .inr (.inr e)) (by
  rcases hhi with e|e
  ·rcases q4 with e4|e4
   ·exact .inl Fb
   ·exact .inr (.inl (by rw[e];exact e4))
  ·obtain⟨x,y,e1,e2,e3⟩:=e;exact .inr (.inr ⟨x,y,e1,by rw[<-e2];congr 1;omega,e3⟩)) h2
 have J:s+((a+b) / 2+m-s)=(a+b) / 2+m:=by omega
 refine gn ?_;refine F3 (v:=I ↑((a+b) / 2+m-s)) rfl (Gz rfl rfl (by unfold Fx;omega)) (by show I _=I _;congr 1;omega) (g0 ?_);refine GK (G:=List Cell) (λl2=>[(0,v),(1,I ↑a),(3,I ↑b),(4,GZ f),(18,I ↑((a+b) / 2)),(20,I ↑s),(24,I ↑((a+b) / 2+m-s))]) (λl2 w'=>Mod (λk=>v.ownBlock=some k) w w'/\Ly (FX c) a m b s ((a+b) / 2+m-s) l l2/\l2.length=l.length/\Vc.Own Cell.cs 4 79 Bo w' v l2) ?_ ?_
 ·refine ds1 181 (λh9=>?_) λh9=>?_
  ·refine Fk (λh8=>?_) λh8=>?_
   ·refine Gw (Ybh l v Bo f _ ho hl s m ((a+b) / 2+m-s) Fb Fb Fb) λu19 w19 xe hz=>?_;have hsz19:=z.size;have z:=z.own xe F4;obtain⟨rfl,hf,ho,h6⟩:=hz;have H:=ht hf ⟨λ_=>h6,λh=>absurd ⟨by omega,by omega⟩ h⟩;have hg:hf.length=l.length:=by rw[h6];have:=(PM (l:=l) (a:=s) (m:=m) (b:=(a+b) / 2+m-s) Fb Fb Fb).len.1;omega
    refine go ?_;exact⟨_,GY,z,H,hg,ho⟩
   have H:=ht l ⟨λh=>absurd h.2 Fb,λ_=>rfl⟩;have hg:l.length=l.length:=rfl;refine go ?_;exact⟨_,GY,z,H,hg,ho⟩
  have H:=ht l ⟨λh=>absurd h.1 Fb,λ_=>rfl⟩;have hg:l.length=l.length:=rfl;refine go ?_;refine GL rfl (go ?_);exact⟨_,GY,z,H,hg,ho⟩
 rintro _ l2 w20 ⟨z,H,hg,ho⟩;refine GK (G:=List Cell) (λl3=>[(0,v),(3,I ↑b),(4,GZ f),(18,I ↑((a+b) / 2)),(24,I ↑((a+b) / 2+m-s))]) (λl3 w'=>Mod (λk=>v.ownBlock=some k) w w'/\Hh (FX c) a ((a+b) / 2) l2 l3/\Vc.Own Cell.cs 4 79 Bo w' v l3) ?_ ?_
 ·refine ds1 195 (λxb=>?_) λxb=>?_
  ·refine Fk (λxm=>?_) λxm=>?_
   ·refine Gw (ih l2 _ a s ((a+b) / 2) Fb ho Fb Fb Fb Fb (VF H J)) λu21 w21 xp h5=>?_;have hsz21:=z.size;have z:=z.own xp F4;obtain⟨rfl,hf,ho,Y⟩:=h5;refine go ?_;exact⟨_,GC,z,Y,ho⟩
   have Y:=Qc H J (λh=>absurd h.2 Fb);refine go ?_;exact⟨_,GC,z,Y,ho⟩
  have Y:=Qc H J (λh=>absurd h.1 Fb);refine go ?_;refine GL rfl (go ?_);exact⟨_,GC,z,Y,ho⟩
 rintro _ l3 w22 ⟨z,Y,ho⟩;refine ds1 209 (λxa=>?_) λxa=>?_
 ·refine Fk (λxc=>?_) λxc=>?_
  ·refine Gw (ih l3 _ ((a+b) / 2) ((a+b) / 2+m-s) b Fb ho (by have:=Y.len.1;omega) Fb Fb (by have:=Y.len.1;omega) (XC H J Y)) λu23 w23 xn hy=>?_;have hsz23:=z.size;have z:=z.own xn F4;obtain⟨rfl,hf,ho,xo⟩:=hy;have hj:=NY H J Y xo;refine go ?_;refine HV (Hx rfl ?_);exact⟨_,rfl,z,rfl,_,ho,hj⟩
  have hj:=NY H J Y (Q4 H J Y (λh=>absurd h.2 Fb));refine go ?_;refine HV (Hx rfl ?_);exact⟨_,rfl,z,rfl,_,ho,hj⟩
 have hj:=NY H J Y (Q4 H J Y (λh=>absurd h.1 Fb));refine go ?_;refine GL rfl (go ?_);refine HV (Hx rfl ?_);exact⟨_,rfl,z,rfl,_,ho,hj⟩
theorem S3 (v:Value)(Bo f:Nat)(c:Cell->Cell->Int)(hcb:Hj Tryz.prog f=true)(hc:∀w2 x y,Calls Tryz.prog f [Cell.v x,Cell.v y].toArray w2 (Pure w2 (I (c x y))))(O:Ord (FX c)):∀N,X5a v Bo f c N
 | 0=>λ_ _ _ _ _ h=>absurd h (Bg _)
 | N+1=>λl w a m b hN ho hl H J hb z=>Ybi l v Bo f c w ho hl hcb hc O a m b H J hb z (λl2 w2 Z Y b2 hN2=>S3 v Bo f c hcb hc O N l2 w2 Z Y b2 Fb)
theorem Ybj (l:List Cell)(v:Value)(Bo f:Nat)(c:Cell->Cell->Int)(w:World)(ho:Vc.Own Cell.cs 4 79 Bo w v l)(hl:l.length<=10000000)(hcb:Hj Tryz.prog f=true)(hc:∀w2 x y,Calls Tryz.prog f [Cell.v x,Cell.v y].toArray w2 (Pure w2 (I (c x y))))(O:Ord (FX c)) :
  Gy 180 [v,I ↑l.length,GZ f] w (λk=>v.ownBlock=some k) λu w'=>u=.tuple #[]/\∃l',Vc.Own Cell.cs 4 79 Bo w' v l'/\l'.Perm l/\Up (FX c) l':=by
 refine cM Tryz.func180 (λk=>v.ownBlock=some k) λz=>F9 (G:=Nat×List Cell) (λ(j,cur)=>[(0,v),(1,I ↑l.length),(2,GZ f),(6,I 20),(7,I ↑(j*20)),(8,I ↑(j*20+20))]) (λ(j,cur) w'=>Mod (λk=>v.ownBlock=some k) w w'/\j*20<=l.length/\I2 (FX c) 20 j cur/\cur.Perm l/\Vc.Own Cell.cs 4 79 Bo w' v cur) (λ(j,cur)=>l.length-j*20) (0,l) ⟨z,Ab _,λk hk=>absurd hk (Bg k),.refl _,ho⟩ ?_;rintro _ ⟨j,cur⟩ w1 ⟨z,hj,hI,hp,ho⟩;refine go ?_;refine dp (IA rfl rfl) ?_;refine Fk (λc1=>?_) λc1=>?_
 ·have Z:=hp.length_eq;refine Gw (YE cur v Bo f c _ ho Fb hcb hc O (j*20) (j*20+20) Fb Fb) λu2 w2 x2 hg=>?_;have hsz2:=z.size;have z:=z.own x2 F4;obtain⟨rfl,Y,ho,H⟩:=hg;refine gc ?_;refine F3 (v:=I ↑((j+1)*20)) rfl (Lr rfl) (by show I _=I _;congr 1;omega) (gn ?_);refine F3 (v:=I ↑((j+1)*20+20)) rfl (GJ rfl rfl (by unfold Fx;omega)) (by show I _=I _;congr 1;omega) (go ?_);exact⟨(j+1,_),Hn,⟨z,by omega,UB hI (by rw[Bd];exact H),H.perm.trans hp,ho⟩,by simp only [];omega⟩
 have Z:=hp.length_eq;refine Gw (YE cur v Bo f c _ ho Fb hcb hc O (j*20) l.length Fb Fb) λu3 w3 x3 hf=>?_;have hsz3:=z.size;have z:=z.own x3 F4;obtain⟨rfl,Y,ho,H⟩:=hf;refine F9 (G:=Nat×List Cell) (λ(s,cur)=>[(0,v),(1,I ↑l.length),(2,GZ f),(6,I ↑s)]) (λ(s,cur) w'=>Mod (λk=>v.ownBlock=some k) w w'/\20<=s/\s<=40+2*l.length/\M2 (FX c) s 0 cur/\cur.Perm l/\Vc.Own Cell.cs 4 79 Bo w' v cur) (λ(s,cur)=>l.length-s) (20,Y) ⟨z,Aa _,by omega,XG hI Fb Fb (by rw[Z];exact H),H.perm.trans hp,ho⟩ ?_;rintro _ ⟨s,cur⟩ w4 ⟨z,hs,hs2,hM,hp,ho⟩;refine Fk (λc2=>?_) λc2=>?_
 ·have Z:=hp.length_eq;refine go ?_;refine F3 (v:=I ↑(0+2*s)) rfl (Kp rfl rfl (by unfold Fx;omega)) (by show I _=I _;congr 1;omega) (F9 (G:=Nat×Nat×List Cell) (λ(j,q,cur2)=>[(0,v),(1,I ↑l.length),(2,GZ f),(6,I ↑s),(7,I ↑q),(8,I ↑(q+2*s))]) (λ(j,q,cur2) w'=>Mod (λk=>v.ownBlock=some k) w w'/\q=j*(2*s)/\q<=l.length/\M2 (FX c) s j cur2/\cur2.Perm l/\Vc.Own Cell.cs 4 79 Bo w' v cur2) (λ(j,q,cur2)=>l.length-q) (0,0,cur) ⟨z,by omega,Ab _,hM,hp,ho⟩ ?_);rintro _ ⟨j,q,cur2⟩ w5 ⟨z,hq,hql,hM2,hp2,ho⟩;refine go ?_;refine dp (IA rfl rfl) ?_;refine Fk (λc3=>?_) λc3=>?_
  ·have ha:=hp2.length_eq;have J:(j+1)*(2*s)=q+2*s:=by rw[hq];exact Bd _ _
   refine gn ?_;refine F3 (v:=I ↑(q+s)) rfl (GJ rfl rfl (by unfold Fx;omega)) rfl (Gw (S3 v Bo f c hcb hc O ((q+2*s)-q+1) cur2 _ q (q+s) (q+2*s) Fb ho Fb Fb Fb Fb (by have h9:=Wl hM2 (by rw[J];omega);rw[J,<-hq]at h9;exact h9)) λu6 w6 x6 hr=>?_);have hsz6:=z.size;have z:=z.own x6 F4;obtain⟨rfl,Y,ho,H⟩:=hr;refine gc ?_;refine F3 (v:=I ↑(q+2*s)) rfl (Lr rfl) (by show I _=I _;rfl) (go ?_);refine F3 (v:=I ↑(2*s)) rfl (Kp rfl rfl (by unfold Fx;omega)) (by show I _=I _;rfl) (F3 (v:=I ↑(q+2*s+2*s)) rfl (GJ rfl rfl (by unfold Fx;omega)) rfl (go ?_));exact⟨(j+1,q+2*s,_),Hn,⟨z,J.symm,by omega,TQ hM2 (by rw[J,<-hq];exact H),H.perm.trans hp2,ho⟩,by simp only [];omega⟩
  have ha:=hp2.length_eq;have J:(j+1)*(2*s)=q+2*s:=by rw[hq];exact Bd _ _
  refine gn ?_;refine F3 (v:=I ↑(q+s)) rfl (GJ rfl rfl (by unfold Fx;omega)) rfl ?_;refine Fk (λc4=>?_) λc4=>?_
  ·refine Gw (S3 v Bo f c hcb hc O (l.length-q+1) cur2 _ q (q+s) l.length Fb ho Fb Fb Fb Fb (by have h9:=Xq hM2 (by rw[J];omega) (by rw[<-hq];omega);rw[<-hq,ha]at h9;exact h9)) λu7 w7 x7 hh=>?_;have hsz7:=z.size;have z:=z.own x7 F4;obtain⟨rfl,Y,ho,H⟩:=hh;refine go ?_;refine F3 (v:=I ↑(2*s)) rfl (Kp rfl rfl (by unfold Fx;omega)) (by show I _=I _;congr 1;omega) (go ?_);exact⟨(2*s,_),He,⟨z,by omega,by omega,Qn hM2 (by rw[J];omega) (by rw[<-hq];omega) ⟨λ_=>by rw[<-hq,ha];exact H,λh=>absurd h (by rw[<-hq];omega)⟩,H.perm.trans hp2,ho⟩,by simp only [];omega⟩
  refine go ?_;refine F3 (v:=I ↑(2*s)) rfl (Kp rfl rfl (by unfold Fx;omega)) (by show I _=I _;congr 1;omega) (go ?_);exact⟨(2*s,_),He,⟨z,by omega,by omega,Qn hM2 (by rw[J];omega) (by rw[<-hq];omega) ⟨λh=>absurd h (by rw[<-hq];omega),λ_=>rfl⟩,hp2,ho⟩,by simp only [];omega⟩
 have Z:=hp.length_eq;refine go ?_;refine HV (Hx rfl ?_);have Z:=hp.length_eq;exact⟨_,rfl,z,rfl,cur,ho,hp,Vu hM Fb⟩
theorem Ybk (l:List Cell)(v:Value)(Bo f:Nat)(c:Cell->Cell->Int)(w:World)(ho:Vc.Own Cell.cs 4 79 Bo w v l)(hl:l.length<=10000000)(hcb:Hj Tryz.prog f=true)(hc:∀w2 x y,Calls Tryz.prog f [Cell.v x,Cell.v y].toArray w2 (Pure w2 (I (c x y))))(O:Ord (FX c)) :
  Gy 97 [v,GZ f] w (λk=>v.ownBlock=some k) λu w'=>u=.tuple #[]/\∃l',Vc.Own Cell.cs 4 79 Bo w' v l'/\l'.Perm l/\Up (FX c) l':=by
 refine cM Tryz.func97 (λk=>v.ownBlock=some k) λH=>go ?_;refine dv 79 4 (ho.arr Ff).sl (Gw (Ybj l v Bo f c _ ho hl hcb hc O) λu1 w1 Y J=>?_);have hsz1:=H.size;have H:=H.own Y F4;obtain⟨rfl,z,ho,Z,hu⟩:=J;refine go ?_;refine HV (Hx rfl ?_);exact⟨_,rfl,H,rfl,z,ho,Z,hu⟩
theorem XK (l:List Fi)(v:Value)(Bo f:Nat)(c:Fi->Fi->Int)(w:World)(ho:Vc.Own Fi.cs 5 62 Bo w v l)(hl:l.length<=10000000)(hcb:Hj Tryz.prog f=true)(hc:∀w2 x y,Calls Tryz.prog f [Fi.v x,Fi.v y].toArray w2 (Pure w2 (I (c x y))))(O:Ord (FX c))(a b:Nat)(hab:a<=b)(hb:b<=l.length) :
  Gy 302 [v,I ↑a,I ↑b,GZ f] w (λk=>v.ownBlock=some k) λu w'=>u=.tuple #[]/\∃l',Vc.Own Fi.cs 5 62 Bo w' v l'/\Hh (FX c) a b l l':=by
 refine cM Tryz.func302 (λk=>v.ownBlock=some k) λH=>F9 (G:=Nat×List Fi) (λ(i,cur)=>[(0,v),(1,I ↑a),(2,I ↑b),(3,GZ f),(8,I ↑i)]) (λ(i,cur) w'=>Mod (λk=>v.ownBlock=some k) w w'/\a+1<=i/\Hh (FX c) a (min i b) l cur/\Vc.Own Fi.cs 5 62 Bo w' v cur) (λ(i,cur)=>b-i) (a+1,l) ⟨H,Aa _,Hh.one l Fb Fb Fb,ho⟩ ?_;rintro _ ⟨i,cur⟩ w1 ⟨H,hi1,hs,ho⟩;refine Fk (λc1=>?_) λc1=>?_
 ·have hg:Hh (FX c) a i l cur:=by rw[Bt Fb]at hs;exact hs
  refine F9 (G:=Nat×List Fi) (λ(j,cur2)=>[(0,v),(1,I ↑a),(2,I ↑b),(3,GZ f),(8,I ↑i),(9,I ↑j)]) (λ(j,cur2) w'=>Mod (λk=>v.ownBlock=some k) w w'/\JR (FX c) a i j l cur2/\Vc.Own Fi.cs 5 62 Bo w' v cur2) (λ(j,cur2)=>j) (i,cur) ⟨H,Ua hg Fb,ho⟩ ?_;rintro _ ⟨j,cur2⟩ w2 ⟨H,hj,ho⟩;refine Gn 100510000100000000 λw3 x3=>Fz x3 ho H λho H=>?_;refine ds1 21 (λc2=>?_) λc2=>?_
  ·have hf:=hj.len;obtain⟨x,hxj⟩:∃x,cur2[j]?=some x:=F8;obtain⟨z,hzj⟩:∃x,cur2[j-1]?=some x:=F8;have Z:=Kb ho (λe=>by rw[e]at hxj;simp at hxj);refine go ?_;refine di 62 5 (ho.arr Ff).sl rfl ((ho.arr Ff).lt hxj) (Gd rfl (λw' hR=>Fy Fe rfl rfl (((ho.arr Ff).ext hR).row hxj)) (gn ?_));refine F3 (v:=I ↑(j-1)) rfl (Gz rfl rfl (by unfold Fx;omega)) (by show I _=I _;congr 1;omega) (di 62 5 (ho.arr Ff).sl rfl ((ho.arr Ff).lt hzj) (Gd rfl (λw' hR=>Fy Fe rfl rfl (((ho.arr Ff).ext hR).row hzj)) (LG (vs:=[x.v,z.v]) rfl rfl hcb (hc _ x z) rfl RX.all (λw4 x4=>Fz x4 ho H λho H=>?_))));refine Fk (λc3=>?_) λc3=>?_
   ·have ha:FX c x z=true:=by simpa [FX]using c3
    refine Gn 1505010001000000000 λw5 x5=>Fz x5 ho H λho H=>?_;refine gn ?_;refine F3 (v:=I ↑(j-1)) rfl (Gz rfl rfl (by unfold Fx;omega)) (by show I _=I _;congr 1;omega) (gn ?_);refine F3 (v:=I ↑(j-1)) rfl (Gz rfl rfl (by unfold Fx;omega)) (by show I _=I _;congr 1;omega) (di 62 5 (ho.arr Ff).sl rfl ((ho.arr Ff).lt hzj) (Gd rfl (λw' hR=>Fy Fe rfl rfl (((ho.arr Ff).ext hR).row hzj)) (go ?_)));refine di 62 5 (ho.arr Ff).sl rfl ((ho.arr Ff).lt hxj) (Gd rfl (λw' hR=>Fy Fe rfl rfl (((ho.arr Ff).ext hR).row hxj)) (F3 (v:=Fg (base v).1 (j*5+0)) rfl (Ii (i:=j) (e:=62) (k:=5) Fe ho.sl rfl rfl (by omega)) (by rw[Z];show Fg _ (0+_)=_;rw[A0];rfl) ?_));refine HO (enc:=Fi.cs) (sz:=5) (l:=cur2) (i:=j) (j:=0) (x:=z) (vs:=z.cs) Ff rfl ho rfl rfl rfl Fe (by omega) rfl (Aa 5) (by intro v hv;simp at hv;rcases hv with rfl|rfl|rfl|rfl|rfl<;>rfl) (.inl rfl) (λw6 x6 xs6 J=>?_);have H:=H.own x6 F4;have ho:=J;refine F3 (v:=Fg (base v).1 ((j-1)*5+0)) rfl (Ii (i:=(j-1)) (e:=62) (k:=5) Fe ho.sl rfl rfl (by rw[A9];omega)) (by rw[Z];show Fg _ (0+_)=_;rw[A0];rfl) ?_;refine HO (enc:=Fi.cs) (sz:=5) (l:=(cur2.set j z)) (i:=(j-1)) (j:=0) (x:=x) (vs:=x.cs) Ff rfl ho rfl rfl rfl Fe (by rw[A9];omega) rfl (Aa 5) (by intro v hv;simp at hv;rcases hv with rfl|rfl|rfl|rfl|rfl<;>rfl) (.inl rfl) (λw7 x7 xs7 J=>?_);have H:=H.own x7 F4;have ho:=J;refine gn ?_;refine F3 (v:=I ↑(j-1)) rfl (Gz rfl rfl (by unfold Fx;omega)) (by show I _=I _;congr 1;omega) (go ?_);exact⟨(j-1,_),Hn,⟨H,Wb hj Fb hxj hzj ha,ho⟩,by simp only [];omega⟩
   have Y:Hh (FX c) a (i+1) l cur2:=QK O hj (.inr ⟨x,z,hxj,hzj,by simpa [FX]using c3⟩);refine go ?_;exact FJ (i+1,cur2) ⟨H,by omega,by rw[Bt Fb];exact Y,ho⟩
  have hf:=hj.len;have Y:Hh (FX c) a (i+1) l cur2:=QK O hj (.inl Fb);refine go ?_;refine GL rfl (go ?_);exact FJ (i+1,cur2) ⟨H,by omega,by rw[Bt Fb];exact Y,ho⟩
 refine go ?_;refine HV (Hx rfl ?_);rw[EM Fb]at hs;exact⟨_,rfl,H,rfl,cur,ho,hs⟩
theorem SR (l:List Fi)(v:Value)(Bo f:Nat)(w:World)(ho:Vc.Own Fi.cs 5 62 Bo w v l)(hl:l.length<=10000000)(a b n:Nat)(h1:a+n<=b)(h2:b+n<=l.length) :
  Gy 337 [v,I ↑a,I ↑b,I ↑n,GZ f] w (λk=>v.ownBlock=some k) λu w'=>u=.tuple #[]/\∃l',Vc.Own Fi.cs 5 62 Bo w' v l'/\MM a b n l l':=by
 refine cM Tryz.func337 (λk=>v.ownBlock=some k) λH=>F9 (G:=Nat×List Fi) (λ(i,cur)=>[(0,v),(1,I ↑a),(2,I ↑b),(3,I ↑n),(10,I ↑i)]) (λ(i,cur) w'=>Mod (λk=>v.ownBlock=some k) w w'/\MA a b n i l cur/\Vc.Own Fi.cs 5 62 Bo w' v cur) (λ(i,cur)=>n-i) (0,l) ⟨H,Yba h1 h2,ho⟩ ?_;rintro _ ⟨i,cur⟩ w1 ⟨H,hr,ho⟩;refine Fk (λY=>?_) λY=>?_
 ·have O:=hr.len;obtain⟨x,hxi⟩:∃x,cur[a+i]?=some x:=F8;obtain⟨y,hyi⟩:∃x,cur[b+i]?=some x:=F8;have J:=Kb ho (λe=>by rw[e]at hxi;simp at hxi);refine Gn 1505010000010000000000000 λw2 x2=>Fz x2 ho H λho H=>?_;refine gn ?_;refine F3 (v:=I ↑(a+i)) rfl (GJ rfl rfl (by unfold Fx;omega)) rfl (gn ?_);refine F3 (v:=I ↑(b+i)) rfl (GJ rfl rfl (by unfold Fx;omega)) rfl (gn ?_);refine F3 (v:=I ↑(b+i)) rfl (GJ rfl rfl (by unfold Fx;omega)) rfl (di 62 5 (ho.arr Ff).sl rfl ((ho.arr Ff).lt hyi) (Gd rfl (λw' hR=>Fy Fe rfl rfl (((ho.arr Ff).ext hR).row hyi)) (gn ?_)));refine F3 (v:=I ↑(a+i)) rfl (GJ rfl rfl (by unfold Fx;omega)) rfl (di 62 5 (ho.arr Ff).sl rfl ((ho.arr Ff).lt hxi) (Gd rfl (λw' hR=>Fy Fe rfl rfl (((ho.arr Ff).ext hR).row hxi)) (F3 (v:=Fg (base v).1 ((a+i)*5+0)) rfl (Ii (i:=(a+i)) (e:=62) (k:=5) Fe ho.sl rfl rfl (by omega)) (by rw[J];show Fg _ (0+_)=_;rw[A0];rfl) ?_)));refine HO (enc:=Fi.cs) (sz:=5) (l:=cur) (i:=(a+i)) (j:=0) (x:=y) (vs:=y.cs) Ff rfl ho rfl rfl rfl Fe (by omega) rfl (Aa 5) (by intro v hv;simp at hv;rcases hv with rfl|rfl|rfl|rfl|rfl<;>rfl) (.inl rfl) (λw3 Z xs3 z=>?_);have H:=H.own Z F4;have ho:=z;refine F3 (v:=Fg (base v).1 ((b+i)*5+0)) rfl (Ii (i:=(b+i)) (e:=62) (k:=5) Fe ho.sl rfl rfl (by rw[A9];omega)) (by rw[J];show Fg _ (0+_)=_;rw[A0];rfl) ?_;refine HO (enc:=Fi.cs) (sz:=5) (l:=(cur.set (a+i) y)) (i:=(b+i)) (j:=0) (x:=x) (vs:=x.cs) Ff rfl ho rfl rfl rfl Fe (by rw[A9];omega) rfl (Aa 5) (by intro v hv;simp at hv;rcases hv with rfl|rfl|rfl|rfl|rfl<;>rfl) (.inl rfl) (λw4 x4 xs4 z=>?_);have H:=H.own x4 F4;have ho:=z;refine go ?_;exact⟨(i+1,_),GC,⟨H,WI hr Fb hxi hyi,ho⟩,by simp only [];omega⟩
 refine go ?_;refine HV (Hx rfl ?_);have O:=hr.len;rw[show i=n by omega]at hr;exact⟨_,rfl,H,rfl,cur,ho,VK hr⟩
theorem Ybl (l:List Fi)(v:Value)(Bo f:Nat)(w:World)(ho:Vc.Own Fi.cs 5 62 Bo w v l)(hl:l.length<=10000000)(a m b:Nat)(h1:a<m)(h2:m<b)(h3:b<=l.length) :
  Gy 327 [v,I ↑a,I ↑m,I ↑b,GZ f] w (λk=>v.ownBlock=some k) λu w'=>u=.tuple #[]/\∃l',Vc.Own Fi.cs 5 62 Bo w' v l'/\l'=Jj l a m b:=by
 refine cM Tryz.func327 (λk=>v.ownBlock=some k) λH=>gn ?_;refine F3 (v:=I ↑(m-a)) rfl (Gz rfl rfl (by unfold Fx;omega)) (by show I _=I _;congr 1;omega) (gn ?_);refine F3 (v:=I ↑(b-m)) rfl (Gz rfl rfl (by unfold Fx;omega)) (by show I _=I _;congr 1;omega) (F9 (G:=Nat×Nat×List Fi) (λ(i,j,cur)=>[(0,v),(2,I ↑m),(4,GZ f),(10,I ↑i),(11,I ↑j)]) (λ(i,j,cur) w'=>Mod (λk=>v.ownBlock=some k) w w'/\0<i/\0<j/\cur.length=l.length/\Jc m i j (Jj l a m b) cur/\Vc.Own Fi.cs 5 62 Bo w' v cur) (λ(i,j,cur)=>i+j) (m-a,b-m,l) ⟨H,by omega,by omega,rfl,PM Fb Fb h3,ho⟩ ?_);rintro _ ⟨i,j,cur⟩ w1 ⟨H,hi0,hj0,hcl,hr,ho⟩;refine Fk (λc1=>?_) λc1=>?_
 ·have Y:=hr.len;refine Fk (λc2=>?_) λc2=>?_
  ·refine gn ?_;refine F3 (v:=I ↑(m-i)) rfl (Gz rfl rfl (by unfold Fx;omega)) (by show I _=I _;congr 1;omega) (Gw (SR cur v Bo f _ ho Fb (m-i) m j Fb Fb) λu2 w2 x2 hf=>?_);have hsz2:=H.size;have H:=H.own x2 F4;obtain⟨rfl,z,ho,J⟩:=hf;refine gn ?_;refine F3 (v:=I ↑(i-j)) rfl (Gz rfl rfl (by unfold Fx;omega)) (by show I _=I _;congr 1;omega) (go ?_);have O:=XY hr Fb J;exact FJ (i-j,j,z) ⟨H,by omega,hj0,(O.len.1.trans (hr.len.1.symm.trans hcl)),O,ho⟩
  refine gn ?_;refine F3 (v:=I ↑(m-i)) rfl (Gz rfl rfl (by unfold Fx;omega)) (by show I _=I _;congr 1;omega) (gn ?_);refine F3 (v:=I ↑(m+j)) rfl (GJ rfl rfl (by unfold Fx;omega)) rfl (gn ?_);refine F3 (v:=I ↑(m+j-i)) rfl (Gz rfl rfl (by unfold Fx;omega)) (by show I _=I _;congr 1;omega) (Gw (SR cur v Bo f _ ho Fb (m-i) (m+j-i) i Fb Fb) λu3 w3 x3 ha=>?_);have hsz3:=H.size;have H:=H.own x3 F4;obtain⟨rfl,z,ho,J⟩:=ha;refine gn ?_;refine F3 (v:=I ↑(j-i)) rfl (Gz rfl rfl (by unfold Fx;omega)) (by show I _=I _;congr 1;omega) (go ?_);have O:=Wy hr Fb J;exact FJ (i,j-i,z) ⟨H,hi0,by omega,(O.len.1.trans (hr.len.1.symm.trans hcl)),O,ho⟩
 have Y:=hr.len;have hc:i=j:=by omega
 subst hc;refine gn ?_;refine F3 (v:=I ↑(m-i)) rfl (Gz rfl rfl (by unfold Fx;omega)) (by show I _=I _;congr 1;omega) (Gw (SR cur v Bo f _ ho Fb (m-i) m i Fb Fb) λu4 w4 x4 Z=>?_);have hsz4:=H.size;have H:=H.own x4 F4;obtain⟨rfl,z,ho,J⟩:=Z;refine go ?_;refine HV (Hx rfl ?_);exact⟨_,rfl,H,rfl,z,ho,X44 hr J⟩
def TH (v:Value)(Bo f:Nat)(c:Fi->Fi->Int)(N:Nat):Prop:=∀(l:List Fi) (w:World) (a m b:Nat),b-a<N->Vc.Own Fi.cs 5 62 Bo w v l->l.length<=10000000->a<m->m<b->b<=l.length->SM (FX c) a m b l->Calls Tryz.prog 303 [v,I ↑a,I ↑m,I ↑b,GZ f].toArray w (Hi (λk=>v.ownBlock=some k) w (λu w'=>u=.tuple #[]/\∃l',Vc.Own Fi.cs 5 62 Bo w' v l'/\Hh (FX c) a b l l'))
theorem Ybm (l:List Fi)(v:Value)(Bo f:Nat)(c:Fi->Fi->Int)(w:World)(ho:Vc.Own Fi.cs 5 62 Bo w v l)(hl:l.length<=10000000)(hcb:Hj Tryz.prog f=true)(hc:∀w2 x y,Calls Tryz.prog f [Fi.v x,Fi.v y].toArray w2 (Pure w2 (I (c x y))))(O:Ord (FX c))(a m b:Nat)(ham:a<m)(hmb:m<b)(hb:b<=l.length)(hsm:SM (FX c) a m b l)(ih:TH v Bo f c (b-a)) :
  Gy 303 [v,I ↑a,I ↑m,I ↑b,GZ f] w (λk=>v.ownBlock=some k) λu w'=>u=.tuple #[]/\∃l',Vc.Own Fi.cs 5 62 Bo w' v l'/\Hh (FX c) a b l l':=by
 refine cM Tryz.func303 (λk=>v.ownBlock=some k) λz=>?_;refine Fk (λc1=>?_) λc1=>?_
 ·have hw:m=a+1:=by omega
  refine F9 (G:=Nat×Nat) (λ(i,j)=>[(0,v),(1,I ↑a),(2,I ↑m),(3,I ↑b),(4,GZ f),(10,I ↑i),(11,I ↑j)]) (λ(i,j) w'=>Mod (λk=>v.ownBlock=some k) w w'/\m<=i/\i<=j/\j<=b/\(j=b\/∃x y,l[a]?=some x/\l[j]?=some y/\FX c y x=false)/\(i=m\/∃x y,l[a]?=some x/\l[i-1]?=some y/\FX c y x=true)/\Vc.Own Fi.cs 5 62 Bo w' v l) (λ(i,j)=>j-i) (m,b) ⟨z,Aa _,by omega,Aa _,.inl rfl,.inl rfl,ho⟩ ?_;rintro _ ⟨i,j⟩ w1 ⟨z,hi,hij,hjb,hup,hlo,ho⟩;refine Fk (λc2=>?_) λc2=>?_
  ·obtain⟨x,hxa⟩:∃x,l[a]?=some x:=F8;obtain⟨y,hyh⟩:∃x,l[(i+j) / 2]?=some x:=F8;refine gn ?_;refine F3 (v:=I ↑(i+j)) rfl (GJ rfl rfl (by unfold Fx;omega)) rfl (F3 (v:=.int .u64 ↑(i+j)) rfl (Lh (n:=i+j) (k:=.i64) Fb rfl Fe Fe) rfl (dp (MD (u:=i+j) rfl rfl) (dp (LJ (n:=(i+j) / 2) Fb rfl Fe Fe) (Gn 105100010000 λw2 x2=>Fz x2 ho z λho z=>?_))));refine go ?_;refine di 62 5 (ho.arr Ff).sl rfl ((ho.arr Ff).lt hyh) (Gd rfl (λw' hR=>Fy Fe rfl rfl (((ho.arr Ff).ext hR).row hyh)) (go ?_));refine di 62 5 (ho.arr Ff).sl rfl ((ho.arr Ff).lt hxa) (Gd rfl (λw' hR=>Fy Fe rfl rfl (((ho.arr Ff).ext hR).row hxa)) (LG (vs:=[y.v,x.v]) rfl rfl hcb (hc _ y x) rfl RX.all (λw3 x3=>Fz x3 ho z λho z=>?_)));refine Fk (λc3=>?_) λc3=>?_
   ·have ha:FX c y x=true:=by simpa [FX]using c3
    refine go ?_;exact⟨((i+j) / 2+1,j),GY,⟨z,by omega,by omega,hjb,hup,.inr ⟨x,y,hxa,by rw[BX];exact hyh,ha⟩,ho⟩,by simp only [];omega⟩
   have ha:FX c y x=false:=by simpa [FX]using c3
   refine go ?_;exact⟨(i,(i+j) / 2),GY,⟨z,hi,by omega,by omega,.inr ⟨x,y,hxa,hyh,ha⟩,hlo,ho⟩,by simp only [];omega⟩
  refine F9 (G:=Nat×List Fi) (λ(k,cur)=>[(0,v),(1,I ↑a),(2,I ↑m),(3,I ↑b),(4,GZ f),(10,I ↑i),(13,I ↑k)]) (λ(k,cur) w'=>Mod (λk=>v.ownBlock=some k) w w'/\MK a k l cur/\k<=i-1/\Vc.Own Fi.cs 5 62 Bo w' v cur) (λ(k,cur)=>i-k) (a,l) ⟨z,U3 Fb,by omega,ho⟩ ?_;rintro _ ⟨k,cur⟩ w4 ⟨z,hk,hki,ho⟩;refine Fk (λc4=>?_) λc4=>?_
  ·have hr:=hk.len;obtain⟨x,hxk⟩:∃x,cur[k]?=some x:=F8;obtain⟨y,hyk⟩:∃x,cur[k+1]?=some x:=F8;have hp:=Kb ho (λe=>by rw[e]at hxk;simp at hxk);refine Gn 1505010001000000000 λw5 x5=>Fz x5 ho z λho z=>?_;refine gn ?_;refine F3 (v:=I ↑(k+1)) rfl (GJ rfl rfl (by unfold Fx;omega)) rfl (gn ?_);refine F3 (v:=I ↑(k+1)) rfl (GJ rfl rfl (by unfold Fx;omega)) rfl (di 62 5 (ho.arr Ff).sl rfl ((ho.arr Ff).lt hyk) (Gd rfl (λw' hR=>Fy Fe rfl rfl (((ho.arr Ff).ext hR).row hyk)) (go ?_)));refine di 62 5 (ho.arr Ff).sl rfl ((ho.arr Ff).lt hxk) (Gd rfl (λw' hR=>Fy Fe rfl rfl (((ho.arr Ff).ext hR).row hxk)) (F3 (v:=Fg (base v).1 (k*5+0)) rfl (Ii (i:=k) (e:=62) (k:=5) Fe ho.sl rfl rfl (by omega)) (by rw[hp];show Fg _ (0+_)=_;rw[A0];rfl) ?_));refine HO (enc:=Fi.cs) (sz:=5) (l:=cur) (i:=k) (j:=0) (x:=y) (vs:=y.cs) Ff rfl ho rfl rfl rfl Fe (by omega) rfl (Aa 5) (by intro v hv;simp at hv;rcases hv with rfl|rfl|rfl|rfl|rfl<;>rfl) (.inl rfl) (λw6 x6 xs6 Z=>?_);have z:=z.own x6 F4;have ho:=Z;refine F3 (v:=Fg (base v).1 ((k+1)*5+0)) rfl (Ii (i:=(k+1)) (e:=62) (k:=5) Fe ho.sl rfl rfl (by rw[A9];omega)) (by rw[hp];show Fg _ (0+_)=_;rw[A0];rfl) ?_;refine HO (enc:=Fi.cs) (sz:=5) (l:=(cur.set k y)) (i:=(k+1)) (j:=0) (x:=x) (vs:=x.cs) Ff rfl ho rfl rfl rfl Fe (by rw[A9];omega) rfl (Aa 5) (by intro v hv;simp at hv;rcases hv with rfl|rfl|rfl|rfl|rfl<;>rfl) (.inl rfl) (λw7 x7 xs7 Z=>?_);have z:=z.own x7 F4;have ho:=Z;refine go ?_;exact⟨(k+1,_),GY,⟨z,Uh hk hxk hyk,by omega,ho⟩,by simp only [];omega⟩
  refine go ?_;refine Hx rfl ?_;have hr:=hk.len;have:k=i-1:=by omega
  subst this;have hh:i=j:=by omega
  subst hh;exact⟨_,rfl,z,rfl,cur,ho,Y5 O hsm hw hi hjb hk hup hlo⟩
 refine Fk (λc5=>?_) λc5=>?_
 ·have hw:b=m+1:=by omega
  refine F9 (G:=Nat×Nat) (λ(i,j)=>[(0,v),(1,I ↑a),(2,I ↑m),(3,I ↑b),(4,GZ f),(14,I ↑i),(15,I ↑j)]) (λ(i,j) w'=>Mod (λk=>v.ownBlock=some k) w w'/\a<=i/\i<=j/\j<=m/\(j=m\/∃x y,l[m]?=some x/\l[j]?=some y/\FX c x y=true)/\(i=a\/∃x y,l[m]?=some x/\l[i-1]?=some y/\FX c x y=false)/\Vc.Own Fi.cs 5 62 Bo w' v l) (λ(i,j)=>j-i) (a,m) ⟨z,Aa _,by omega,Aa _,.inl rfl,.inl rfl,ho⟩ ?_;rintro _ ⟨i,j⟩ w8 ⟨z,hi,hij,hjb,hup,hlo,ho⟩;refine Fk (λc6=>?_) λc6=>?_
  ·obtain⟨x,hxm⟩:∃x,l[m]?=some x:=F8;obtain⟨y,hyh⟩:∃x,l[(i+j) / 2]?=some x:=F8;refine gn ?_;refine F3 (v:=I ↑(i+j)) rfl (GJ rfl rfl (by unfold Fx;omega)) rfl (F3 (v:=.int .u64 ↑(i+j)) rfl (Lh (n:=i+j) (k:=.i64) Fb rfl Fe Fe) rfl (dp (MD (u:=i+j) rfl rfl) (dp (LJ (n:=(i+j) / 2) Fb rfl Fe Fe) (Gn 1005100010000 λw9 x9=>Fz x9 ho z λho z=>?_))));refine go ?_;refine di 62 5 (ho.arr Ff).sl rfl ((ho.arr Ff).lt hxm) (Gd rfl (λw' hR=>Fy Fe rfl rfl (((ho.arr Ff).ext hR).row hxm)) (go ?_));refine di 62 5 (ho.arr Ff).sl rfl ((ho.arr Ff).lt hyh) (Gd rfl (λw' hR=>Fy Fe rfl rfl (((ho.arr Ff).ext hR).row hyh)) (LG (vs:=[x.v,y.v]) rfl rfl hcb (hc _ x y) rfl RX.all (λw10 xf=>Fz xf ho z λho z=>?_)));refine FZ (λc7=>?_) λc7=>?_
   ·have ha:FX c x y=false:=by simpa [FX]using c7
    refine go ?_;exact⟨((i+j) / 2+1,j),GY,⟨z,by omega,by omega,hjb,hup,.inr ⟨x,y,hxm,by rw[BX];exact hyh,ha⟩,ho⟩,by simp only [];omega⟩
   have ha:FX c x y=true:=by simpa [FX]using c7
   refine go ?_;exact⟨(i,(i+j) / 2),GY,⟨z,hi,by omega,by omega,.inr ⟨x,y,hxm,hyh,ha⟩,hlo,ho⟩,by simp only [];omega⟩
  refine F9 (G:=Nat×List Fi) (λ(k,cur)=>[(0,v),(1,I ↑a),(2,I ↑m),(3,I ↑b),(4,GZ f),(14,I ↑i),(17,I ↑k)]) (λ(k,cur) w'=>Mod (λk=>v.ownBlock=some k) w w'/\MT m k l cur/\i<=k/\Vc.Own Fi.cs 5 62 Bo w' v cur) (λ(k,cur)=>k) (m,l) ⟨z,X8 Fb,by omega,ho⟩ ?_;rintro _ ⟨k,cur⟩ w11 ⟨z,hk,hki,ho⟩;refine Fk (λc8=>?_) λc8=>?_
  ·have hr:=hk.len;obtain⟨x,hxk⟩:∃x,cur[k]?=some x:=F8;obtain⟨y,hyk⟩:∃x,cur[k-1]?=some x:=F8;have hp:=Kb ho (λe=>by rw[e]at hxk;simp at hxk);refine Gn 1505010001000000000 λw12 xh=>Fz xh ho z λho z=>?_;refine gn ?_;refine F3 (v:=I ↑(k-1)) rfl (Gz rfl rfl (by unfold Fx;omega)) (by show I _=I _;congr 1;omega) (gn ?_);refine F3 (v:=I ↑(k-1)) rfl (Gz rfl rfl (by unfold Fx;omega)) (by show I _=I _;congr 1;omega) (di 62 5 (ho.arr Ff).sl rfl ((ho.arr Ff).lt hyk) (Gd rfl (λw' hR=>Fy Fe rfl rfl (((ho.arr Ff).ext hR).row hyk)) (go ?_)));refine di 62 5 (ho.arr Ff).sl rfl ((ho.arr Ff).lt hxk) (Gd rfl (λw' hR=>Fy Fe rfl rfl (((ho.arr Ff).ext hR).row hxk)) (F3 (v:=Fg (base v).1 (k*5+0)) rfl (Ii (i:=k) (e:=62) (k:=5) Fe ho.sl rfl rfl (by omega)) (by rw[hp];show Fg _ (0+_)=_;rw[A0];rfl) ?_));refine HO (enc:=Fi.cs) (sz:=5) (l:=cur) (i:=k) (j:=0) (x:=y) (vs:=y.cs) Ff rfl ho rfl rfl rfl Fe (by omega) rfl (Aa 5) (by intro v hv;simp at hv;rcases hv with rfl|rfl|rfl|rfl|rfl<;>rfl) (.inl rfl) (λw13 xd xs13 Z=>?_);have z:=z.own xd F4;have ho:=Z;refine F3 (v:=Fg (base v).1 ((k-1)*5+0)) rfl (Ii (i:=(k-1)) (e:=62) (k:=5) Fe ho.sl rfl rfl (by rw[A9];omega)) (by rw[hp];show Fg _ (0+_)=_;rw[A0];rfl) ?_;refine HO (enc:=Fi.cs) (sz:=5) (l:=(cur.set k y)) (i:=(k-1)) (j:=0) (x:=x) (vs:=x.cs) Ff rfl ho rfl rfl rfl Fe (by rw[A9];omega) rfl (Aa 5) (by intro v hv;simp at hv;rcases hv with rfl|rfl|rfl|rfl|rfl<;>rfl) (.inl rfl) (λw14 xj xs14 Z=>?_);have z:=z.own xj F4;have ho:=Z;refine gn ?_;refine F3 (v:=I ↑(k-1)) rfl (Gz rfl rfl (by unfold Fx;omega)) (by show I _=I _;congr 1;omega) (go ?_);exact⟨(k-1,_),GY,⟨z,Xo hk Fb hxk hyk,by omega,ho⟩,by simp only [];omega⟩
  refine go ?_;refine Hx rfl ?_;have hr:=hk.len;have:k=i:=by omega
  subst this;have hh:k=j:=by omega
  subst hh;exact⟨_,rfl,z,rfl,cur,ho,Ub O hsm hw hi hjb hk hup hlo⟩
 have ham2:a+2<=m:=by omega
 have hmb2:m+2<=b:=by omega
 refine gn ?_;refine F3 (v:=I ↑(a+b)) rfl (GJ rfl rfl (by unfold Fx;omega)) rfl (F3 (v:=.int .u64 ↑(a+b)) rfl (Lh (n:=a+b) (k:=.i64) Fb rfl Fe Fe) rfl (dp (MD (u:=a+b) rfl rfl) (dp (LJ (n:=(a+b) / 2) Fb rfl Fe Fe) (gn ?_))));refine F3 (v:=I ↑((a+b) / 2+m)) rfl (GJ rfl rfl (by unfold Fx;omega)) rfl (g0 ?_);refine wS (g0 ?_);refine GK (G:=Nat×Nat) (λ(s0,r0)=>[(0,v),(1,I ↑a),(2,I ↑m),(3,I ↑b),(4,GZ f),(18,I ↑((a+b) / 2)),(19,I ↑((a+b) / 2+m)),(20,I ↑s0),(21,I ↑r0)]) (λ(s0,r0) w'=>Mod (λk=>v.ownBlock=some k) w w'/\a<=s0/\s0<=r0/\r0<=m/\(s0=a\/(a+b) / 2+m-s0=b)/\(r0=m\/(a+b) / 2+m-r0=m)/\(a+b) / 2+m-s0<=b/\m<=(a+b) / 2+m-r0/\Vc.Own Fi.cs 5 62 Bo w' v l) ?_ ?_
 ·refine Fk (λc9=>?_) λc9=>?_
  ·have xi:(a+b) / 2<m:=by omega
   refine gn ?_;refine F3 (v:=I ↑((a+b) / 2+m-b)) rfl (Gz rfl rfl (by unfold Fx;omega)) (by show I _=I _;congr 1;omega) (go ?_);exact⟨((a+b) / 2+m-b,(a+b) / 2),KV,z,by omega,by omega,by omega,.inr Fb,.inr Fb,by omega,by omega,ho⟩
  have xi:m<=(a+b) / 2:=by omega
  refine go ?_;exact⟨(a,m),KV,z,by omega,by omega,by omega,.inl rfl,.inl rfl,by omega,by omega,ho⟩
 rintro _ ⟨s0,r0⟩ w15 ⟨z,q0,q1,q2,q3,q4,q5,q6,ho⟩;refine gn ?_;refine F3 (v:=I ↑((a+b) / 2+m-1)) rfl (Gz rfl rfl (by unfold Fx;omega)) (by show I _=I _;congr 1;omega) (F9 (G:=Nat×Nat) (λ(s,r)=>[(0,v),(1,I ↑a),(2,I ↑m),(3,I ↑b),(4,GZ f),(18,I ↑((a+b) / 2)),(19,I ↑((a+b) / 2+m)),(20,I ↑s),(21,I ↑r),(22,I ↑((a+b) / 2+m-1))]) (λ(s,r) w'=>Mod (λk=>v.ownBlock=some k) w w'/\s0<=s/\s<=r/\r<=r0/\(s=s0\/∃x y,l[s-1]?=some x/\l[(a+b) / 2+m-s]?=some y/\FX c y x=false)/\(r=r0\/∃x y,l[r]?=some x/\l[(a+b) / 2+m-1-r]?=some y/\FX c y x=true)/\Vc.Own Fi.cs 5 62 Bo w' v l) (λ(s,r)=>r-s) (s0,r0) ⟨z,Aa _,q1,Aa _,.inl rfl,.inl rfl,ho⟩ ?_);rintro _ ⟨s,r⟩ w16 ⟨z,hs0,hsr1,hr0,hlo,hhi,ho⟩;refine Fk (λxl=>?_) λxl=>?_
 ·obtain⟨y,hyh⟩:∃x,l[(a+b) / 2+m-1-(s+r) / 2]?=some x:=F8;obtain⟨x,hxc⟩:∃x,l[(s+r) / 2]?=some x:=F8;refine gn ?_;refine F3 (v:=I ↑(s+r)) rfl (GJ rfl rfl (by unfold Fx;omega)) rfl (F3 (v:=.int .u64 ↑(s+r)) rfl (Lh (n:=s+r) (k:=.i64) Fb rfl Fe Fe) rfl (dp (MD (u:=s+r) rfl rfl) (dp (LJ (n:=(s+r) / 2) Fb rfl Fe Fe) (Gn 100510001000000 λw17 xg=>Fz xg ho z λho z=>?_))));refine gn ?_;refine F3 (v:=I ↑((a+b) / 2+m-1-(s+r) / 2)) rfl (Gz rfl rfl (by unfold Fx;omega)) (by show I _=I _;congr 1;omega) (di 62 5 (ho.arr Ff).sl rfl ((ho.arr Ff).lt hyh) (Gd rfl (λw' hR=>Fy Fe rfl rfl (((ho.arr Ff).ext hR).row hyh)) (go ?_)));refine di 62 5 (ho.arr Ff).sl rfl ((ho.arr Ff).lt hxc) (Gd rfl (λw' hR=>Fy Fe rfl rfl (((ho.arr Ff).ext hR).row hxc)) (LG (vs:=[y.v,x.v]) rfl rfl hcb (hc _ y x) rfl RX.all (λw18 h7=>Fz h7 ho z λho z=>?_)));refine FZ (λhq=>?_) λhq=>?_
  ·have ha:FX c y x=false:=by simpa [FX]using hq
   refine go ?_;exact⟨((s+r) / 2+1,r),KQ,⟨z,by omega,by omega,hr0,.inr ⟨x,y,by rw[BX];exact hxc,by rw[<-hyh];congr 1;omega,ha⟩,hhi,ho⟩,by simp only [];omega⟩
  have ha:FX c y x=true:=by simpa [FX]using hq
  refine go ?_;exact⟨(s,(s+r) / 2),KQ,⟨z,hs0,by omega,by omega,hlo,.inr ⟨x,y,hxc,hyh,ha⟩,ho⟩,by simp only [];omega⟩
 have xk:s=r:=by omega
 subst xk;have ht:∀l2,((s<m/\m<(a+b) / 2+m-s->l2=Jj l s m ((a+b) / 2+m-s))/\(¬ (s<m/\m<(a+b) / 2+m-s)->l2=l))->Ly (FX c) a m b s ((a+b) / 2+m-s) l l2:=λl2 h2=>UH O hsm Fb Fb Fb Fb (by
  rcases hlo with e|e
  ·rcases q3 with e3|e3
   ·exact .inl Fb
   ·exact .inr (.inl (by rw[e];exact e3))
  ·exact .inr (.inr e)) (by
  rcases hhi with e|e
  ·rcases q4 with e4|e4
   ·exact .inl Fb
   ·exact .inr (.inl (by rw[e];exact e4))
  ·obtain⟨x,y,e1,e2,e3⟩:=e;exact .inr (.inr ⟨x,y,e1,by rw[<-e2];congr 1;omega,e3⟩)) h2
 have J:s+((a+b) / 2+m-s)=(a+b) / 2+m:=by omega
 refine gn ?_;refine F3 (v:=I ↑((a+b) / 2+m-s)) rfl (Gz rfl rfl (by unfold Fx;omega)) (by show I _=I _;congr 1;omega) (g0 ?_);refine GK (G:=List Fi) (λl2=>[(0,v),(1,I ↑a),(3,I ↑b),(4,GZ f),(18,I ↑((a+b) / 2)),(20,I ↑s),(24,I ↑((a+b) / 2+m-s))]) (λl2 w'=>Mod (λk=>v.ownBlock=some k) w w'/\Ly (FX c) a m b s ((a+b) / 2+m-s) l l2/\l2.length=l.length/\Vc.Own Fi.cs 5 62 Bo w' v l2) ?_ ?_
 ·refine ds1 181 (λh9=>?_) λh9=>?_
  ·refine Fk (λh8=>?_) λh8=>?_
   ·refine Gw (Ybl l v Bo f _ ho hl s m ((a+b) / 2+m-s) Fb Fb Fb) λu19 w19 xe hz=>?_;have hsz19:=z.size;have z:=z.own xe F4;obtain⟨rfl,hf,ho,h6⟩:=hz;have H:=ht hf ⟨λ_=>h6,λh=>absurd ⟨by omega,by omega⟩ h⟩;have hg:hf.length=l.length:=by rw[h6];have:=(PM (l:=l) (a:=s) (m:=m) (b:=(a+b) / 2+m-s) Fb Fb Fb).len.1;omega
    refine go ?_;exact⟨_,GY,z,H,hg,ho⟩
   have H:=ht l ⟨λh=>absurd h.2 Fb,λ_=>rfl⟩;have hg:l.length=l.length:=rfl;refine go ?_;exact⟨_,GY,z,H,hg,ho⟩
  have H:=ht l ⟨λh=>absurd h.1 Fb,λ_=>rfl⟩;have hg:l.length=l.length:=rfl;refine go ?_;refine GL rfl (go ?_);exact⟨_,GY,z,H,hg,ho⟩
 rintro _ l2 w20 ⟨z,H,hg,ho⟩;refine GK (G:=List Fi) (λl3=>[(0,v),(3,I ↑b),(4,GZ f),(18,I ↑((a+b) / 2)),(24,I ↑((a+b) / 2+m-s))]) (λl3 w'=>Mod (λk=>v.ownBlock=some k) w w'/\Hh (FX c) a ((a+b) / 2) l2 l3/\Vc.Own Fi.cs 5 62 Bo w' v l3) ?_ ?_
 ·refine ds1 195 (λxb=>?_) λxb=>?_
  ·refine Fk (λxm=>?_) λxm=>?_
   ·refine Gw (ih l2 _ a s ((a+b) / 2) Fb ho Fb Fb Fb Fb (VF H J)) λu21 w21 xp h5=>?_;have hsz21:=z.size;have z:=z.own xp F4;obtain⟨rfl,hf,ho,Y⟩:=h5;refine go ?_;exact⟨_,GC,z,Y,ho⟩
   have Y:=Qc H J (λh=>absurd h.2 Fb);refine go ?_;exact⟨_,GC,z,Y,ho⟩
  have Y:=Qc H J (λh=>absurd h.1 Fb);refine go ?_;refine GL rfl (go ?_);exact⟨_,GC,z,Y,ho⟩
 rintro _ l3 w22 ⟨z,Y,ho⟩;refine ds1 209 (λxa=>?_) λxa=>?_
 ·refine Fk (λxc=>?_) λxc=>?_
  ·refine Gw (ih l3 _ ((a+b) / 2) ((a+b) / 2+m-s) b Fb ho (by have:=Y.len.1;omega) Fb Fb (by have:=Y.len.1;omega) (XC H J Y)) λu23 w23 xn hy=>?_;have hsz23:=z.size;have z:=z.own xn F4;obtain⟨rfl,hf,ho,xo⟩:=hy;have hj:=NY H J Y xo;refine go ?_;refine HV (Hx rfl ?_);exact⟨_,rfl,z,rfl,_,ho,hj⟩
  have hj:=NY H J Y (Q4 H J Y (λh=>absurd h.2 Fb));refine go ?_;refine HV (Hx rfl ?_);exact⟨_,rfl,z,rfl,_,ho,hj⟩
 have hj:=NY H J Y (Q4 H J Y (λh=>absurd h.1 Fb));refine go ?_;refine GL rfl (go ?_);refine HV (Hx rfl ?_);exact⟨_,rfl,z,rfl,_,ho,hj⟩
theorem Sd (v:Value)(Bo f:Nat)(c:Fi->Fi->Int)(hcb:Hj Tryz.prog f=true)(hc:∀w2 x y,Calls Tryz.prog f [Fi.v x,Fi.v y].toArray w2 (Pure w2 (I (c x y))))(O:Ord (FX c)):∀N,TH v Bo f c N
 | 0=>λ_ _ _ _ _ h=>absurd h (Bg _)
 | N+1=>λl w a m b hN ho hl H J hb z=>Ybm l v Bo f c w ho hl hcb hc O a m b H J hb z (λl2 w2 Z Y b2 hN2=>Sd v Bo f c hcb hc O N l2 w2 Z Y b2 Fb)
theorem Ybn (l:List Fi)(v:Value)(Bo f:Nat)(c:Fi->Fi->Int)(w:World)(ho:Vc.Own Fi.cs 5 62 Bo w v l)(hl:l.length<=10000000)(hcb:Hj Tryz.prog f=true)(hc:∀w2 x y,Calls Tryz.prog f [Fi.v x,Fi.v y].toArray w2 (Pure w2 (I (c x y))))(O:Ord (FX c)) :
  Gy 246 [v,I ↑l.length,GZ f] w (λk=>v.ownBlock=some k) λu w'=>u=.tuple #[]/\∃l',Vc.Own Fi.cs 5 62 Bo w' v l'/\l'.Perm l/\Up (FX c) l':=by
 refine cM Tryz.func246 (λk=>v.ownBlock=some k) λz=>F9 (G:=Nat×List Fi) (λ(j,cur)=>[(0,v),(1,I ↑l.length),(2,GZ f),(6,I 20),(7,I ↑(j*20)),(8,I ↑(j*20+20))]) (λ(j,cur) w'=>Mod (λk=>v.ownBlock=some k) w w'/\j*20<=l.length/\I2 (FX c) 20 j cur/\cur.Perm l/\Vc.Own Fi.cs 5 62 Bo w' v cur) (λ(j,cur)=>l.length-j*20) (0,l) ⟨z,Ab _,λk hk=>absurd hk (Bg k),.refl _,ho⟩ ?_;rintro _ ⟨j,cur⟩ w1 ⟨z,hj,hI,hp,ho⟩;refine go ?_;refine dp (IA rfl rfl) ?_;refine Fk (λc1=>?_) λc1=>?_
 ·have Z:=hp.length_eq;refine Gw (XK cur v Bo f c _ ho Fb hcb hc O (j*20) (j*20+20) Fb Fb) λu2 w2 x2 hg=>?_;have hsz2:=z.size;have z:=z.own x2 F4;obtain⟨rfl,Y,ho,H⟩:=hg;refine gc ?_;refine F3 (v:=I ↑((j+1)*20)) rfl (Lr rfl) (by show I _=I _;congr 1;omega) (gn ?_);refine F3 (v:=I ↑((j+1)*20+20)) rfl (GJ rfl rfl (by unfold Fx;omega)) (by show I _=I _;congr 1;omega) (go ?_);exact⟨(j+1,_),Hn,⟨z,by omega,UB hI (by rw[Bd];exact H),H.perm.trans hp,ho⟩,by simp only [];omega⟩
 have Z:=hp.length_eq;refine Gw (XK cur v Bo f c _ ho Fb hcb hc O (j*20) l.length Fb Fb) λu3 w3 x3 hf=>?_;have hsz3:=z.size;have z:=z.own x3 F4;obtain⟨rfl,Y,ho,H⟩:=hf;refine F9 (G:=Nat×List Fi) (λ(s,cur)=>[(0,v),(1,I ↑l.length),(2,GZ f),(6,I ↑s)]) (λ(s,cur) w'=>Mod (λk=>v.ownBlock=some k) w w'/\20<=s/\s<=40+2*l.length/\M2 (FX c) s 0 cur/\cur.Perm l/\Vc.Own Fi.cs 5 62 Bo w' v cur) (λ(s,cur)=>l.length-s) (20,Y) ⟨z,Aa _,by omega,XG hI Fb Fb (by rw[Z];exact H),H.perm.trans hp,ho⟩ ?_;rintro _ ⟨s,cur⟩ w4 ⟨z,hs,hs2,hM,hp,ho⟩;refine Fk (λc2=>?_) λc2=>?_
 ·have Z:=hp.length_eq;refine go ?_;refine F3 (v:=I ↑(0+2*s)) rfl (Kp rfl rfl (by unfold Fx;omega)) (by show I _=I _;congr 1;omega) (F9 (G:=Nat×Nat×List Fi) (λ(j,q,cur2)=>[(0,v),(1,I ↑l.length),(2,GZ f),(6,I ↑s),(7,I ↑q),(8,I ↑(q+2*s))]) (λ(j,q,cur2) w'=>Mod (λk=>v.ownBlock=some k) w w'/\q=j*(2*s)/\q<=l.length/\M2 (FX c) s j cur2/\cur2.Perm l/\Vc.Own Fi.cs 5 62 Bo w' v cur2) (λ(j,q,cur2)=>l.length-q) (0,0,cur) ⟨z,by omega,Ab _,hM,hp,ho⟩ ?_);rintro _ ⟨j,q,cur2⟩ w5 ⟨z,hq,hql,hM2,hp2,ho⟩;refine go ?_;refine dp (IA rfl rfl) ?_;refine Fk (λc3=>?_) λc3=>?_
  ·have ha:=hp2.length_eq;have J:(j+1)*(2*s)=q+2*s:=by rw[hq];exact Bd _ _
   refine gn ?_;refine F3 (v:=I ↑(q+s)) rfl (GJ rfl rfl (by unfold Fx;omega)) rfl (Gw (Sd v Bo f c hcb hc O ((q+2*s)-q+1) cur2 _ q (q+s) (q+2*s) Fb ho Fb Fb Fb Fb (by have h9:=Wl hM2 (by rw[J];omega);rw[J,<-hq]at h9;exact h9)) λu6 w6 x6 hr=>?_);have hsz6:=z.size;have z:=z.own x6 F4;obtain⟨rfl,Y,ho,H⟩:=hr;refine gc ?_;refine F3 (v:=I ↑(q+2*s)) rfl (Lr rfl) (by show I _=I _;rfl) (go ?_);refine F3 (v:=I ↑(2*s)) rfl (Kp rfl rfl (by unfold Fx;omega)) (by show I _=I _;rfl) (F3 (v:=I ↑(q+2*s+2*s)) rfl (GJ rfl rfl (by unfold Fx;omega)) rfl (go ?_));exact⟨(j+1,q+2*s,_),Hn,⟨z,J.symm,by omega,TQ hM2 (by rw[J,<-hq];exact H),H.perm.trans hp2,ho⟩,by simp only [];omega⟩
  have ha:=hp2.length_eq;have J:(j+1)*(2*s)=q+2*s:=by rw[hq];exact Bd _ _
  refine gn ?_;refine F3 (v:=I ↑(q+s)) rfl (GJ rfl rfl (by unfold Fx;omega)) rfl ?_;refine Fk (λc4=>?_) λc4=>?_
  ·refine Gw (Sd v Bo f c hcb hc O (l.length-q+1) cur2 _ q (q+s) l.length Fb ho Fb Fb Fb Fb (by have h9:=Xq hM2 (by rw[J];omega) (by rw[<-hq];omega);rw[<-hq,ha]at h9;exact h9)) λu7 w7 x7 hh=>?_;have hsz7:=z.size;have z:=z.own x7 F4;obtain⟨rfl,Y,ho,H⟩:=hh;refine go ?_;refine F3 (v:=I ↑(2*s)) rfl (Kp rfl rfl (by unfold Fx;omega)) (by show I _=I _;congr 1;omega) (go ?_);exact⟨(2*s,_),He,⟨z,by omega,by omega,Qn hM2 (by rw[J];omega) (by rw[<-hq];omega) ⟨λ_=>by rw[<-hq,ha];exact H,λh=>absurd h (by rw[<-hq];omega)⟩,H.perm.trans hp2,ho⟩,by simp only [];omega⟩
  refine go ?_;refine F3 (v:=I ↑(2*s)) rfl (Kp rfl rfl (by unfold Fx;omega)) (by show I _=I _;congr 1;omega) (go ?_);exact⟨(2*s,_),He,⟨z,by omega,by omega,Qn hM2 (by rw[J];omega) (by rw[<-hq];omega) ⟨λh=>absurd h (by rw[<-hq];omega),λ_=>rfl⟩,hp2,ho⟩,by simp only [];omega⟩
 have Z:=hp.length_eq;refine go ?_;refine HV (Hx rfl ?_);have Z:=hp.length_eq;exact⟨_,rfl,z,rfl,cur,ho,hp,Vu hM Fb⟩
theorem Ybo (l:List Fi)(v:Value)(Bo f:Nat)(c:Fi->Fi->Int)(w:World)(ho:Vc.Own Fi.cs 5 62 Bo w v l)(hl:l.length<=10000000)(hcb:Hj Tryz.prog f=true)(hc:∀w2 x y,Calls Tryz.prog f [Fi.v x,Fi.v y].toArray w2 (Pure w2 (I (c x y))))(O:Ord (FX c)) :
  Gy 174 [v,GZ f] w (λk=>v.ownBlock=some k) λu w'=>u=.tuple #[]/\∃l',Vc.Own Fi.cs 5 62 Bo w' v l'/\l'.Perm l/\Up (FX c) l':=by
 refine cM Tryz.func174 (λk=>v.ownBlock=some k) λH=>go ?_;refine dv 62 5 (ho.arr Ff).sl (Gw (Ybn l v Bo f c _ ho hl hcb hc O) λu1 w1 Y J=>?_);have hsz1:=H.size;have H:=H.own Y F4;obtain⟨rfl,z,ho,Z,hu⟩:=J;refine go ?_;refine HV (Hx rfl ?_);exact⟨_,rfl,H,rfl,z,ho,Z,hu⟩
end Go.Proofs.YtiooodckiddpmaaGreatDoor
