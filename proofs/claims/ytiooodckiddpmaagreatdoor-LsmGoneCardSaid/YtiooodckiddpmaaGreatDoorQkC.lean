/-
  A part of the proof.
-/
import Derived.Test.YtiooodckiddpmaaGreatDoorQkA
import Derived.Test.YtiooodckiddpmaaGreatDoorChecked
import Derived.KernelRfl
import Derived.Test.YtiooodckiddpmaaGreatDoorQkB
import Derived.Lib.Bytealg
import Derived.Shelf.SlSortCmp.WholeK
import Derived.Shelf.SlSortCmp.NoneTotal
import Derived.Sort.OwnSorted
import Derived.Shelf.SlGeneric
import Derived.Ground.SlsfProg
import Derived.Test.YtiooodckiddpmaaGreatDoorProg
open Nat renaming le_refl->Aa,zero_le->Ab,le_trans->Ae,le_of_ble_eq_true->An,lt_of_lt_of_le->Ay,zero_add->A5,lt_irrefl->A7,lt_of_lt_of_eq->AD,mul_le_mul_right->AW,succ_mul->Be,mod_lt->Bf,not_lt_zero->Bh,lt_or_ge->Br,min_eq_left->B0,mul_comm->B6,add_sub_cancel->Ca,add_zero->Ce,zero_mul->Cw,mul_assoc->Cy,eq_or_lt_of_le->C5,sub_zero->C8,eq_zero_or_pos->CI,sub_self->DV,lt_or_eq_of_le->E9,le_of_lt_succ->EA,lt_trichotomy->EJ,min_eq_right->EK
open List renaming length_append->Ad,mem_singleton->Af,mem_of_getElem?->Ag,mem_cons->Ah,mem_cons_self->Ai,mem_cons_of_mem->Aj,map_cons->Ak,mem_append->Al,mem_map->Ao,replicate->Ap,getElem?_eq_getElem->Aq,getElem?_eq_some_iff->Ar,length_map->Au,take_of_length_le->Av,mem_filter->Ax,length_cons->Az,eq_nil_of_length_eq_zero->A0,map_append->A3,sum_cons->A4,append_assoc->A6,length->A9,flatMap_cons->AA,length_set->AB,length_take->AE,nil_append->AG,append_nil->AI,getElem?_of_mem->AK,pairwise_cons->AN,take->AP,all_eq_true->AQ,take_length->AT,set->AU,take_append_drop->AV,getElem?_take->AX,cons_append->AY,nodup_cons->Ba,mem_append_right->Bb,length_drop->Bd,map_nil->Bg,getElem?_eq_none->Bi,length_nil->Bj,mem_append_left->Bl,map_map->Bq,filter_append->Bs,sum_append->Bt,pairwise_append->Bw,take_add_one->Bx,filter_eq_self->Bz,getElem?_drop->B3,getElem?_append_left->B5,foldl_append->BA,any_eq_true->BB,ext_getElem?->BF,drop_of_length_le->BG,getElem?_set_self->BI,filter_cons->BJ,nodup_append->BK,getElem?_append_right->BM,map_congr_left->BN,drop_eq_nil_of_le->BP,nodup_nil->BR,drop_zero->BY,cons->Cd,mem_iff_getElem?->Ci,getElem?_set_ne->Cj,flatMap_nil->Ck,take_succ_cons->Co,pairwise_iff_getElem->C4,getElem?_set->CH,all_append->CJ,find?_cons->CK,takeWhile_cons->CO,take_left'->CP,drop_left'->CQ,all_cons->CY,take_take->De,all_nil->Ds,dropWhile_cons->Dy,eq_nil_or_concat->D4,take_set_of_le->DO,concat_eq_append->DY,perm_middle->DZ,head?_cons->EB,headD_cons->ED,getElem?_take_of_lt->EE,set_cons_zero->EF,set_comm->EG,perm_append_singleton->EH,take_append->EI,all_eq_false->EL
open Option renaming some->Am,bind_some->Cu,isSome_iff_exists->CA,filter_some->EC
open Bool renaming and_eq_true->Aw,not_eq_true->Ch,false_eq_true->Cq,true_and->C1,and_eq_false_iff->CN,eq_iff_iff->Dv
open Decidable renaming of_not_not->AF
open List.Pairwise renaming nil->Bu,imp₂->EZ
open Array renaming getElem?_eq_some_iff->BD,getElem?_toList->DB,getElem?_modify->DE
open UInt8 renaming not_lt->Dl
open List.Perm renaming append_left->DW
set_option maxRecDepth 100000
set_option maxHeartbeats 4000000
set_option linter.unusedVariables false
set_option linter.defProp false
set_option linter.unusedSimpArgs false
namespace Go.Proofs.YtiooodckiddpmaaGreatDoor
open Go.Vc Go.Sp
attribute [local irreducible] W XW Dw GC
variable {f:Fi}{k:Nat}{n:Int}
def Qj {fs:List Fi}(h:∀i x,i<k->fs[i]?=some x->rAt n fs i x)(hk:fs[k]?=some f)(ha:rAt n fs k f):∀i x,i<k+1->fs[i]?=some x->rAt n fs i x:=λi x hi r=>by
 rcases E9 (EA hi)with h9|h9
 ·exact h i x h9 r
 ·subst h9;rw[hk]at r;rw[<-Am.inj r];exact ha
def Rl (n:Int)(fs:List Fi)(vf:Value)(w:World)(hv:Fu Fi.cs 5 w vf fs)(hl:fs.length<=100000000)(hs:∀f∈fs,f.fst.length<=140737488355328/\f.lst.length<=140737488355328) :
  Gi 222 [.agg ⟨[I n,vf]⟩] w λu _=>∃b,u=B b/\(b=true↔QT n fs):=by
 refine cE Tryz.func222 λr=>go ?_;refine G1 rfl rfl rfl RX.all (λb1 w1 e1 x1 z=>?_);have g1:=r.ge e1;have r:=r.trans x1;refine FJ 9 (λc1=>?_) λc1=>?_
 ·refine go ?_;refine GU rfl (go ?_);exact⟨_,rfl,r,false,rfl,λe=>(by cases e),λh=>absurd h.1 Fe⟩
 refine FJ 14 (λc2=>?_) λc2=>?_
 ·refine go ?_;refine GU rfl (go ?_);exact⟨_,rfl,r,false,rfl,λe=>(by cases e),λh=>absurd h.1 Fe⟩
 refine FM 62 5 (hv.ext r).sl ?_;refine Fk (λc3=>?_) λc3=>?_
 ·refine go ?_;exact⟨_,rfl,r,false,rfl,λe=>(by cases e),λh=>absurd h.1 Fe⟩
 refine F8 (G:=Nat) (λk=>[(1,Fh b1 0),(3,I ↑k)]) (λk w'=>Fq w w'/\Fp w' b1 [I n,vf] 56/\k<=fs.length/\∀i f,i<k->fs[i]?=some f->rAt n fs i f) (λk=>fs.length-k) 0 ⟨r,z,Ab _,λi f hi=>absurd hi (Bh _)⟩ ?_;rintro _ k w2 ⟨r,z,hk1,hin⟩;refine FM 62 5 (hv.ext r).sl ?_;refine Fk (λc4=>?_) λc4=>?_
 ·obtain⟨f,hk⟩:∃f,fs[k]?=some f:=F7;have hf:=hs f (Ag hk);refine FN 62 5 hv.sl (hv.lt hk) ?_;refine dq (Fx Ff rfl rfl ((hv.ext r).row hk)) (aL [.int .i64 0,.int .i64 0,.int .i64 0,S [],S []] λb2 w3 e2 x3 O=>?_);have g2:=r.ge e2;have n2_1:=z.ltb e2;refine Fy x3 z r λz r=>Gg O (λw4 x4 xs4 O=>?_);have z:=z.mo x4;have r:=r.o1 x4;refine go ?_;refine dq (Fx (k:=5) Ff rfl rfl O.row) (Gs (Ya9 f n _ hf) λw5 x5=>FC x5 z O r λz O r=>?_);refine Gb (λc5=>?_) λc5=>?_
  ·refine go ?_;exact⟨_,rfl,r,false,rfl,λe=>(by cases e),λh=>by have:=(h.2 k f hk).1;simp_all⟩
  refine F8 (G:=Nat) (λj=>[(1,Fh b1 0),(3,I ↑k),(4,Fh b2 0),(5,I ↑j)]) (λj w'=>Fq w w'/\Fp w' b1 [I n,vf] 56/\Fp w' b2 f.cs 62/\j<=k/\∀i g,i<j->fs[i]?=some g->g.id≠f.id) (λj=>k-j) 0 ⟨r,z,O,Ab _,λi g hi=>absurd hi (Bh _)⟩ ?_;rintro _ j w6 ⟨r,z,O,hj1,hno⟩;refine Fk (λc6=>?_) λc6=>?_
  ·obtain⟨g,hkj⟩:∃g,fs[j]?=some g:=F7;refine Gt 1010100010 λw7 x7=>FC x7 z O r λz O r=>?_;refine FN 62 5 hv.sl (hv.lt hkj) ?_;refine go ?_;refine dL rfl (λ_ hR=>(((hv.ext (r.trans hR)).row hkj).at rfl)) ?_;refine Fk (λc7=>?_) λc7=>?_
   ·refine go ?_;exact⟨_,rfl,r,false,rfl,λe=>(by cases e),λh=>((h.2 k f hk).2.1 j g Fe hkj c7).elim⟩
   refine go ?_;exact⟨j+1,Hn,⟨r,z,O,by omega,λi x hi H=>by
    rcases E9 (EA hi)with h8|h8
    ·exact hno i x h8 H
    ·subst h8;rw[hkj]at H;rw[<-Am.inj H];exact c7⟩,by omega⟩
  refine Gt 1000010100001000010100001000100021100010000 λw8 x8=>FC x8 z O r λz O r=>?_;refine FJ 53 (λc8=>?_) λc8=>?_
  ·obtain⟨g,hkp⟩:∃g,fs[k-1]?=some g:=F7;refine gn ?_;refine F3 (v:=I ↑(k-1)) rfl (G7 rfl rfl FH) FY (di 62 5 hv.sl rfl (hv.lt hkp) (Gh rfl (λw' hR=>Fx Ff rfl rfl ((hv.ext (r.trans hR)).row hkp)) (Gh rfl (λw' hR=>Fx (k:=5) Ff rfl rfl (O.ext hR).row) (cP (Vd g f _) RX.ext λw9 x9=>FC x9 z O r λz O r=>go ?_))));refine IR 63 rfl (λc9=>?_) (λc9=>?_)
   ·refine go ?_;refine GU rfl (go ?_);exact⟨_,rfl,r,false,rfl,λe=>(by cases e),λh=>by have:=((h.2 k f hk).2.2 g Fe hkp).1;simp_all⟩
   refine FJ 67 (λha=>?_) λha=>?_
   ·refine gn ?_;refine F3 (v:=I ↑(k-1)) rfl (G7 rfl rfl FH) FY (di 62 5 hv.sl rfl (hv.lt hkp) (go ?_));refine dL rfl (λ_ hR=>(((hv.ext (r.trans hR)).row hkp).at rfl)) ?_;refine FJ 79 (λZ=>?_) λZ=>?_
    ·refine gn ?_;refine F3 (v:=I ↑(k-1)) rfl (G7 rfl rfl FH) FY (di 62 5 hv.sl rfl (hv.lt hkp) (go ?_));refine dL rfl (λ_ hR=>(((hv.ext (r.trans hR)).row hkp).at rfl)) (go ?_);refine dp (O5 rfl rfl) ?_;refine Gb (λhc=>?_) λhc=>?_
     ·refine go ?_;exact⟨_,rfl,r,false,rfl,λe=>(by cases e),λh=>(((h.2 k f hk).2.2 g Fe hkp).2 ⟨ha,Z,by simpa using hc⟩).elim⟩
     refine go ?_;have J:rAt n fs k f:=⟨by simpa using c5,λi Y hi H=>hno i Y Fe H,λY h0 H=>by
      rw[hkp]at H;rw[<-Am.inj H];exact⟨by simpa using c9,λe=>by have:=e.2.2;simp_all⟩⟩
     exact FL (k+1) ⟨r,z,by omega,Qj hin hk J⟩
    refine go ?_;refine GS rfl (go ?_);have J:rAt n fs k f:=⟨by simpa using c5,λi Y hi H=>hno i Y Fe H,λY h0 H=>by
     rw[hkp]at H;rw[<-Am.inj H];exact⟨by simpa using c9,λe=>Z e.2.1⟩⟩
    exact FL (k+1) ⟨r,z,by omega,Qj hin hk J⟩
   refine go ?_;refine GS rfl (go ?_);have J:rAt n fs k f:=⟨by simpa using c5,λi Y hi H=>hno i Y Fe H,λY h0 H=>by
    rw[hkp]at H;rw[<-Am.inj H];exact⟨by simpa using c9,λe=>ha e.1⟩⟩
   exact FL (k+1) ⟨r,z,by omega,Qj hin hk J⟩
  refine go ?_;refine GS rfl (go ?_);have J:rAt n fs k f:=⟨by simpa using c5,λi Y hi H=>hno i Y Fe H,λY h0 H=>absurd h0 Fe⟩;exact FL (k+1) ⟨r,z,by omega,Qj hin hk J⟩
 refine go ?_;exact⟨_,rfl,r,true,rfl,λ_=>⟨by omega,λi f hi=>hin i f (by have:=(Ar.1 hi).1;omega) hi⟩,λ_=>rfl⟩
variable {frm:Fj}
def Xi2 {lev:Int}{to:Fj}(h1:f.lev=lev)(h2:(!Op.bytesLess f.lst frm)=true)(h3:(!Op.bytesLess to f.fst)=true):Ke lev frm to f=true:=by
 unfold Ke;rw[decide_eq_true h1,show F6 f.lst frm=Op.bytesLess f.lst frm from rfl,h2,show F6 to f.fst=Op.bytesLess to f.fst from rfl,h3];rfl
def Xi3 {lev:Int}{to:Fj}(h1:¬ f.lev=lev):¬ Ke lev frm to f=true:=by unfold Ke;rw[decide_eq_false h1];simp
def Xi4 {lev:Int}{to:Fj}(h2:(!Op.bytesLess f.lst frm)=false):¬ Ke lev frm to f=true:=by unfold Ke;rw[show F6 f.lst frm=Op.bytesLess f.lst frm from rfl,h2];simp
def Xi5 {lev:Int}{to:Fj}(h3:(!Op.bytesLess to f.fst)=false):¬ Ke lev frm to f=true:=by unfold Ke;rw[show F6 to f.fst=Op.bytesLess to f.fst from rfl,h3];simp
def Qv (n:Int)(fs:List Fi)(vf:Value)(lev:Int)(frm to:Fj)(w:World)(hv:Fu Fi.cs 5 w vf fs)(hl:fs.length<=100000) :
  Gi 108 [.agg ⟨[I n,vf]⟩,I lev,S frm,S to] w λu w'=>Vc.Own Fi.cs 5 62 w.heap.size w' u (IM fs lev frm to):=by
 refine cE Tryz.func108 λr=>go ?_;refine G1 rfl rfl rfl RX.all (λb1 w1 e1 x1 m1=>?_);have g1:=r.ge e1;have r:=r.trans x1;refine FM 62 5 (hv.ext r).sl ?_;refine F8 (G:=Nat×Value) (λ(k,vm)=>[(1,I lev),(2,S frm),(3,S to),(8,.slice none 0 0),(9,vm),(13,vf),(14,I ↑fs.length),(15,I ↑k)]) (λ(k,vm) w'=>Fq w w'/\k<=fs.length/\Vc.Own Fi.cs 5 62 w.heap.size w' vm (IM (fs.take k) lev frm to)) (λ(k,vm)=>fs.length-k) (0,.slice none 0 0) ⟨r,Ab _,Vc.Own.nil⟩ ?_;rintro _ ⟨k,vm⟩ w2 ⟨r,hk1,ho⟩;refine Fk (λc1=>?_) λc1=>?_
 ·obtain⟨f,hk⟩:∃f,fs[k]?=some f:=F7;have hlen:=Xk1 fs k lev frm to;refine go ?_;refine di 62 5 (hv.ext r).sl rfl ((hv.ext r).lt hk) (dq (Fx Ff rfl rfl ((hv.ext r).row hk)) (aL [.int .i64 0,.int .i64 0,.int .i64 0,S [],S []] λb2 w3 e2 Z H=>?_));have g2:=r.ge e2;have o2_ho:=ho.ltb e2;refine Fy Z ho r λho r=>Gg H (λw4 Y xs4 H=>?_);have ho:=ho.mod Y Fw;have r:=r.o1 Y;refine FJ 23 (λc2=>?_) λc2=>?_
  ·refine go ?_;refine dp (O5 rfl rfl) (go ?_);refine IR 29 rfl (λc3=>?_) (λc3=>?_)
   ·refine go ?_;refine dp (TT rfl rfl) ?_;refine Gb (λc4=>?_) λc4=>?_
    ·refine go ?_;refine dq (Fx (k:=5) Ff rfl rfl H.row) (lA 62 rfl λb3 w5 O x5 J=>?_);have g3:=r.ge O;have o3_ho:=ho.ltb O;refine Fy x5 ho r λho r=>G8 f ho J λvm2 w6 z x6=>?_;have r:=r.own x6 F5;have ho:=z;clear J;refine go ?_;refine⟨(k+1,_),PL,⟨r,by omega,?_⟩,by simp only [];omega⟩;rw[Qc hk];rw[if_pos (Xi2 Fe ‹_› ‹_›)];exact ho
    refine go ?_;refine⟨(k+1,_),PL,⟨r,by omega,?_⟩,by simp only [];omega⟩;rw[Qc hk];rw[if_neg (Xi5 ‹_›)];exact ho
   refine go ?_;refine GS rfl (go ?_);refine⟨(k+1,_),PL,⟨r,by omega,?_⟩,by simp only [];omega⟩;rw[Qc hk];rw[if_neg (Xi4 ‹_›)];exact ho
  refine go ?_;refine GS rfl (go ?_);refine⟨(k+1,_),PL,⟨r,by omega,?_⟩,by simp only [];omega⟩;rw[Qc hk];rw[if_neg (Xi3 Fe)];exact ho
 refine go ?_;exact⟨_,rfl,r,by rw[Av Fe]at ho;exact ho⟩
def L4 {α:Type}(l cur:List α)(k:Nat):Prop:=cur.length=l.length/\∀i,i<l.length->cur[i]?=if i<k\/l.length-1-k<i then l[l.length-1-i]? else l[i]?
variable {α:Type}
def Yba (l:List α):L4 l l 0:=⟨rfl,λi hi=>by rw[if_neg Fe]⟩
variable {cur l:List α}
def Xx9 {a b:α}(h:L4 l cur k)(hk:2*k+1<l.length)(ha:cur[k]?=some a)(hb:cur[l.length-1-k]?=some b):L4 l ((cur.set k b).set (l.length-1-k) a) (k+1):=by
 refine⟨by rw[AB,AB];exact h.1,λi hi=>?_⟩;have h1:=h.2 k Fe;have h2:=h.2 (l.length-1-k) Fe;rw[ha,if_neg Fe]at h1;rw[hb,if_neg Fe]at h2;rw[CH]
 by_cases e:l.length-1-k=i
 ·rw[if_pos e,if_pos (by rw[AB,h.1];omega),if_pos Fe,h1];congr 1;omega
 ·rw[if_neg e,CH]
  by_cases e2:k=i
  ·rw[if_pos e2,if_pos (by rw[h.1];omega),if_pos Fe,h2];congr 1;omega
  ·rw[if_neg e2,h.2 i hi]
   by_cases e3:i<k\/l.length-1-k<i
   ·rw[if_pos e3,if_pos Fe]
   ·rw[if_neg e3,if_neg Fe]
def X2l (h:L4 l cur k)(hk:l.length<=2*k+1)(hk2:2*k<=l.length):cur=l.reverse:=by
 apply BF
 intro i
 by_cases hi:i<l.length
 ·rw[h.2 i hi,List.getElem?_reverse hi];split
  ·rfl
  ·congr 1;omega
 ·rw[Bi (by rw[h.1];omega),Bi Gx]
def Oh (fs:List Fi)(key:Fj):Nat->List Fi
 | 0=>(IM fs 0 key key).reverse
 | n+1=>Oh fs key n++IM fs (↑(n+1)) key key
def YW (fs:List Fi)(key:Fj):Oh fs key 4=La fs key:=rfl
def Xn (fs:List Fi)(key:Fj)(n:Nat):(Oh fs key n).length<=(n+1)*fs.length:=by
 induction n with
 | zero=>unfold Oh;rw[List.length_reverse];have:=O9 fs 0 key key;omega
 | succ n ih=>
  unfold Oh;rw[Ad,Be];have:=O9 fs (↑(n+1)) key key;omega
def Yde (l:List Fi)(v:Value)(Bo:Nat)(w:World)(ho:Vc.Own Fi.cs 5 62 Bo w v l)(hl:l.length<=100000) :
  G4 184 [v] w (λk=>v.ownBlock=some k) λu w'=>u=.tuple #[]/\Vc.Own Fi.cs 5 62 Bo w' v l.reverse:=by
 refine cM Tryz.func184 (λk=>v.ownBlock=some k) λz=>go ?_;refine dv 62 5 (ho.arr Fg).sl (F3 (v:=I (↑l.length-1-↑(0:Nat))) rfl (G7 rfl rfl FH) FY (F8 (G:=Nat×List Fi) (λ(k,cur)=>[(0,v),(2,I ↑k),(3,I (↑l.length-1-↑k))]) (λ(k,cur) w'=>Mod (λk=>v.ownBlock=some k) w w'/\2*k<=l.length/\L4 l cur k/\Vc.Own Fi.cs 5 62 Bo w' v cur) (λ(k,cur)=>l.length-k) (0,l) ⟨z,Ab _,Yba l,ho⟩ ?_));rintro _ ⟨k,cur⟩ w1 ⟨z,hk2,hr,ho⟩;refine Fk (λO=>?_) λO=>?_
 ·have hcl:=hr.1;obtain⟨a,ha⟩:∃a,cur[k]?=some a:=F7;obtain⟨b,hb⟩:∃b,cur[l.length-1-k]?=some b:=F7;obtain⟨cs9,cap9,H,_⟩:=ho.cells (λe=>by rw[e]at ha;simp at ha);refine Gt 15050100010000000 λw2 Y=>Fy Y ho z λho z=>?_
  iterate 3 refine dm ?_
  refine F3 (v:=I ↑(l.length-1-k)) rfl (L8 rfl) FY (dm ?_);refine F3 (v:=I ↑(l.length-1-k)) rfl (L8 rfl) FY (di 62 5 (ho.arr Fg).sl rfl ((ho.arr Fg).lt hb) (Gh rfl (λw' hR=>Fx Ff rfl rfl (((ho.arr Fg).ext hR).row hb)) (go ?_)));refine di 62 5 (ho.arr Fg).sl rfl ((ho.arr Fg).lt ha) (Gh rfl (λw' hR=>Fx Ff rfl rfl (((ho.arr Fg).ext hR).row ha)) (F3 (v:=Fh (base v).1 (k*5+0)) rfl (Ir (e:=62) (k:=5) Ff ho.sl rfl rfl (by omega)) (by rw[H];show Fh _ (0+_)=_;rw[A5];rfl) ?_));refine Ie (enc:=Fi.cs) (sz:=5) (i:=k) (j:=0) (x:=b) (vs:=b.cs) Fg rfl ho rfl rfl rfl Ff (by omega) rfl (Aa 5) (by intro v hv;simp at hv;rcases hv with rfl|rfl|rfl|rfl|rfl<;>rfl) (.inl rfl) (λw3 J xs3 r=>?_);have z:=z.own J F5;have ho:=r;refine F3 (v:=Fh (base v).1 ((l.length-1-k)*5+0)) rfl (Ir (e:=62) (k:=5) Ff ho.sl rfl rfl (by rw[AB];omega)) (by rw[H];show Fh _ (0+_)=_;rw[A5];rfl) ?_;refine Ie (enc:=Fi.cs) (sz:=5) (i:=(l.length-1-k)) (j:=0) (x:=a) (vs:=a.cs) Fg rfl ho rfl rfl rfl Ff (by rw[AB];omega) rfl (Aa 5) (by intro v hv;simp at hv;rcases hv with rfl|rfl|rfl|rfl|rfl<;>rfl) (.inl rfl) (λw4 Z xs4 r=>?_);have z:=z.own Z F5;have ho:=r;refine gn ?_;refine pa rfl rfl (gn ?_);refine F3 (v:=I (↑l.length-1-↑(k+1))) rfl (G7 rfl rfl FH) FY (go ?_);exact⟨(k+1,_),Kq,⟨z,by omega,Xx9 hr Fe ha hb,ho⟩,by simp only [];omega⟩
 refine go ?_;refine Ig (H6 rfl ?_);rw[X2l hr Fe Fe]at ho;exact⟨_,rfl,z,rfl,ho⟩
def X7z (n:Int)(fs:List Fi)(vf:Value)(key:Fj)(w:World)(hv:Fu Fi.cs 5 w vf fs)(hl:fs.length<=100000) :
  Gi 113 [.agg ⟨[I n,vf]⟩,S key] w λu w'=>Vc.Own Fi.cs 5 62 w.heap.size w' u (La fs key):=by
 refine cE Tryz.func113 λr=>go ?_;refine G1 rfl rfl rfl RX.all (λb1 w1 e1 x1 z=>?_);have g1:=r.ge e1;have r:=r.trans x1;refine go ?_;refine dq (Fx (k:=2) Ff rfl rfl z.row) (Gj (Qv n fs vf 0 key key _ (hv.ext r) hl) λY w2 x2 ha=>?_);have O:=r.size;refine Fy x2 z r λz r=>?_;have ho:=ha.mono O;refine Gz (Yde (IM fs 0 key key) Y w.heap.size _ ho (by have:=O9 fs 0 key key;omega)) λu3 w3 x3 Z=>?_;have hsz3:=r.size;have z:=z.mod x3 Fw;have r:=r.own x3 F5;obtain⟨rfl,ho⟩:=Z;refine F8 (G:=Nat×Value) (λ(k,vl)=>[(1,S key),(2,Fh b1 0),(4,.slice none 0 0),(5,vl),(6,I ↑(k+1))]) (λ(k,vl) w'=>Fq w w'/\Fp w' b1 [I n,vf] 56/\k<=4/\Vc.Own Fi.cs 5 62 w.heap.size w' vl (Oh fs key k)) (λ(k,vl)=>4-k) (0,Y) ⟨r,z,Ab _,ho⟩ ?_;rintro _ ⟨k,vl⟩ w4 ⟨r,z,hk1,ho⟩;refine go ?_;refine dp (IJ rfl rfl) ?_;refine Fk (λc1=>?_) λc1=>?_
 ·refine go ?_;refine dq (Fx (k:=2) Ff rfl rfl z.row) (Gj (Qv n fs vf ↑(k+1) key key _ (hv.ext r) hl) λvo w5 x5 hf=>?_);have hsz5:=r.size;refine FC x5 z ho r λz ho r=>?_;refine LU (lx:=(IM fs ↑(k+1) key key)) (e:=62) (sz:=5) (by':=56) rfl Ff Ff Fg ho ((hf.arr Fg)) rfl rfl (by intro x _ u hu;simp at hu;rcases hu with rfl|rfl|rfl|rfl|rfl<;>rfl) (by have h1:=Xn fs key k;have h2:=O9 fs ↑(k+1) key key;have h3:(k+1)*fs.length<=5*fs.length:=AW _ Fe;omega) Fo r.size (.inl rfl) (λhc w6 J x6 hwh6=>?_);have H:=z.mod x6 (λe=>ho.ne_blk z rfl e);have z:=z.mod x6 Fw;have r:=r.own x6 F5;have ho:=J;have z:=H;clear H;refine gn ?_;refine F3 (v:=I ↑(k+1+1)) rfl (GK rfl rfl FH) (by show I _=I _;congr 1) (go ?_);exact FL (k+1,hc) ⟨r,z,by omega,ho⟩
 refine go ?_;rw[show k=4 by omega,YW]at ho;exact⟨_,rfl,r,ho⟩
def NZ (ids:List Int):Int->Option Bool:=λx=>if x∈ids then some true else none
def Xon (ids:List Int)(x:Int):putF (NZ ids) x true=NZ (ids++[x]):=by
 funext y
 unfold putF NZ
 by_cases e:y=x
 ·simp [e]
 ·simp [e]
def RO (ids:List Int)(x:Int):(NZ ids x).getD false=decide (x∈ids):=by
 unfold NZ;split<;>simp_all
def Qp : MapK Tryz.prog 258 3 4 Vc.I B Ge:=mapI Ff Ff Yay
def YS {l:List Fi}(h:KN l=true){a b:Fi}(ha:l[k]?=some a)(hb:l[k+1]?=some b):Jd a b=true:=by
 induction l generalizing k with
 | nil=>cases ha
 | cons x r ih=>
  cases r with
  | nil=>simp at hb
  | cons y r=>
   unfold KN at h;rw[Aw]at h
   cases k with
   | zero=>simp at ha hb;subst ha hb;exact h.1
   | succ k=>exact ih h.2 (by simpa using ha) (by simpa using hb)
def X70 {l:List Fi}(h:∀(k:Nat) (a b:Fi),l[k]?=some a->l[k+1]?=some b->Jd a b=true):KN l=true:=by
 induction l with
 | nil=>rfl
 | cons x r ih=>
  cases r with
  | nil=>rfl
  | cons y r=>
   unfold KN;rw[h 0 x y rfl rfl,C1];exact ih (λk a b z hb=>h (k+1) a b (by simpa using z) (by simpa using hb))
section
variable {n:Int}{fs:List Fi}{k:Nat}{f:Fi}
def Sr (h:n<1\/1099511627776<n\/1024<fs.length):H2 ⟨n,fs⟩=false:=by
 unfold H2;simp only [CN,decide_eq_false_iff_not];rcases h with h|h|h<;>simp [*]<;>omega
def MD (hk:fs[k]?=some f)(h:IL n f=false):H2 ⟨n,fs⟩=false:=by
 have:(fs.all (IL n))=false:=by
  rw[<-Ch,AQ];intro h2;have:=h2 f (Ag hk);rw[h]at this;cases this
 unfold H2;simp [this]
def O8 (h:f.id<1\/n<=f.id\/f.lev<0\/4<f.lev\/f.size<1\/1048576<f.size):IL n f=false:=by
 rw[<-Ch];intro h2;unfold IL at h2;simp only [Aw,decide_eq_true_eq]at h2;omega
def Ydf (h:Mo f.fst=false):IL n f=false:=by unfold IL;simp [h]
def Ydg (h:Mo f.lst=false):IL n f=false:=by unfold IL;simp [h]
def Ydh (h:Op.bytesLess f.lst f.fst=true):IL n f=false:=by unfold IL;rw[show F6 f.lst f.fst=Op.bytesLess f.lst f.fst from rfl,h];simp
def Ybb (hk:fs[k]?=some f)(h:f.id∈(fs.take k).map (·.id)):H2 ⟨n,fs⟩=false:=by
 have:¬ (fs.map (·.id)).Nodup:=by
  intro hn;have e:fs.map (·.id)=(fs.take k).map (·.id)++(fs.drop k).map (·.id):=by rw[<-A3,AV]
  rw[e]at hn;refine(BK.1 hn).2.2 _ h f.id ?_ rfl;rw[Ja hk];simp
 unfold H2;simp [this]
def Ydi {x:Fi}(hk:fs[k]?=some f)(h0:0<k)(hx:fs[k-1]?=some x)(h:Jd x f=false):H2 ⟨n,fs⟩=false:=by
 have:KN fs=false:=by
  rw[<-Ch];intro h2;have:=YS h2 hx (by rw[show k-1+1=k by omega];exact hk);rw[h]at this;cases this
 unfold H2;simp [this]
def UA (h1:¬ n<1)(h2:¬ 1099511627776<n)(h3:¬ 1024<fs.length)(h4:fs.all (IL n)=true)(h5:(fs.map (·.id)).Nodup)(h6:KN fs=true):H2 ⟨n,fs⟩=true:=by
 unfold H2;simp only [Aw,decide_eq_true_eq];exact⟨⟨⟨⟨⟨by omega,by omega⟩,by omega⟩,h4⟩,h5⟩,h6⟩
def Ve (h:KN (fs.take k)=true)(hk:fs[k]?=some f)(h2:k=0\/∃x,fs[k-1]?=some x/\Jd x f=true):KN (fs.take (k+1))=true:=by
 refine X70 λi a b r hb=>?_;rw[AX]at r hb;split at hb
 ·rw[if_pos Fe]at r
  by_cases e:i+1<k
  ·exact YS h (k:=i) (by rw[AX,if_pos Fe];exact r) (by rw[AX,if_pos e];exact hb)
  ·have e1:i+1=k:=by omega
   rw[e1,hk]at hb
   cases hb
   rcases h2 with h2|⟨x,hx,h3⟩
   ·omega
   ·rw[show k-1=i by omega,r]at hx
    cases hx;exact h3
 ·cases hb
def U3 (h1:¬ f.id<1)(h2:¬ n<=f.id)(h3:¬ f.lev<0)(h4:¬ 4<f.lev)(h5:¬ f.size<1)(h6:¬ 1048576<f.size)(h7:Mo f.fst=true)(h8:Mo f.lst=true)(h9:Op.bytesLess f.lst f.fst=false):IL n f=true:=by
 unfold IL;rw[show F6 f.lst f.fst=Op.bytesLess f.lst f.fst from rfl,h7,h8,h9];simp;omega
end
def QQ (n:Int)(fs:List Fi)(vf:Value)(w:World)(hv:Fu Fi.cs 5 w vf fs)(hl:fs.length<=100000)(hid:∀f∈fs,Ge f.id) :
  FX 103 [.agg ⟨[I n,vf]⟩] w (B (H2 ⟨n,fs⟩)):=by
 refine cE Tryz.func103 λr=>go ?_;refine G1 rfl rfl rfl RX.all (λb1 w1 e1 x1 H=>?_);have g1:=r.ge e1;have r:=r.trans x1;refine FJ 9 (λc1=>?_) λc1=>?_
 ·refine go ?_;refine GU rfl (go ?_);refine⟨?_,r⟩;rw[Sr Fe]
 refine FJ 14 (λc2=>?_) λc2=>?_
 ·refine go ?_;refine GU rfl (go ?_);refine⟨?_,r⟩;rw[Sr Fe]
 refine FM 62 5 (hv.ext r).sl ?_;refine Fk (λc3=>?_) λc3=>?_
 ·refine go ?_;refine⟨?_,r⟩;rw[Sr Fe]
 refine go ?_;refine Qd Qp rfl RX.all (λb2 w2 e2 x2 z=>?_);have g2:=r.ge e2;have n2_1:=H.ltb e2;refine Fy x2 H r λH r=>FM 62 5 (hv.ext r).sl ?_;refine F8 (G:=Nat) (λk=>[(1,Fh b1 0),(3,.map (some b2)),(22,vf),(23,I ↑fs.length),(24,I ↑k)]) (λk w'=>Fq w w'/\Fp w' b1 [I n,vf] 56/\k<=fs.length/\((fs.take k).all (IL n))=true/\((fs.take k).map (·.id)).Nodup/\KN (fs.take k)=true/\Vc.Xbd Tryz.prog 3 Vc.I B w' b2 k (NZ ((fs.take k).map (·.id)))) (λk=>fs.length-k) 0 ⟨r,H,Ab _,rfl,BR,rfl,z⟩ ?_;rintro _ k w3 ⟨r,H,hk1,hA,hN,hO,z⟩;refine Fk (λc4=>?_) λc4=>?_
 ·obtain⟨f,hk⟩:∃f,fs[k]?=some f:=F7;refine go ?_;refine di 62 5 (hv.ext r).sl rfl ((hv.ext r).lt hk) (dq (Fx Ff rfl rfl ((hv.ext r).row hk)) (aL [.int .i64 0,.int .i64 0,.int .i64 0,S [],S []] λb3 w4 e3 x4 O=>?_));have g3:=r.ge e3;have n3_1:=H.ltb e3;have n3_mp2:=z.lt;refine FC x4 H z r λH z r=>go ?_;refine Gg O (λw5 x5 xs5 O=>?_);have H:=H.mo x5;have z:=z.mod x5 Fw;have r:=r.o1 x5;refine FJ 32 (λc5=>?_) λc5=>?_
  ·refine go ?_;refine GU rfl (go ?_);refine⟨?_,r⟩;rw[MD hk (O8 Fe)]
  refine go ?_;refine dp (HY rfl rfl) ?_;refine FJ 39 (λc6=>?_) λc6=>?_
  ·refine go ?_;refine GU rfl (go ?_);refine⟨?_,r⟩;rw[MD hk (O8 Fe)]
  refine go ?_;refine dq (M9 Qp (kx:=f.id) (z0:=false) rfl rfl Ff z (hid f (Ag hk))) (go ?_);refine IR 45 rfl (λc7=>?_) (λc7=>?_)
  ·refine go ?_;refine GU rfl (go ?_);refine⟨?_,r⟩;rw[RO]at c7;rw[Ybb hk (of_decide_eq_true c7)]
  refine FJ 50 (λc8=>?_) λc8=>?_
  ·refine go ?_;refine GU rfl (go ?_);refine⟨?_,r⟩;rw[MD hk (O8 Fe)]
  refine FJ 55 (λc9=>?_) λc9=>?_
  ·refine go ?_;refine GU rfl (go ?_);refine⟨?_,r⟩;rw[MD hk (O8 Fe)]
  refine FJ 60 (λhh=>?_) λhh=>?_
  ·refine go ?_;refine GU rfl (go ?_);refine⟨?_,r⟩;rw[MD hk (O8 Fe)]
  refine Fk (λhg=>?_) λhg=>?_
  ·refine go ?_;refine⟨?_,r⟩;rw[MD hk (O8 Fe)]
  refine Gt 100021100010000000101000021000510 λw6 x6=>FQ x6 H z O r λH z O r=>?_;refine Gs (Xh f.fst _) λw7 x7=>FQ x7 H z O r λH z O r=>?_;refine go ?_;refine IR 69 rfl (λhc=>?_) (λhc=>?_)
  ·refine go ?_;refine GU rfl (go ?_);refine⟨?_,r⟩;rw[MD hk (Ydf (by simpa using hc))]
  refine go ?_;refine cP (Xh f.lst _) RX.ext λw8 x8=>FQ x8 H z O r λH z O r=>go ?_;refine IR 75 rfl (λY=>?_) (λY=>?_)
  ·refine go ?_;refine GU rfl (go ?_);refine⟨?_,r⟩;rw[MD hk (Ydg (by simpa using Y))]
  refine go ?_;refine dp (Wd rfl rfl) (go ?_);refine IR 82 rfl (λZ=>?_) (λZ=>?_)
  ·refine go ?_;refine GU rfl (go ?_);refine⟨?_,r⟩;rw[MD hk (Ydh Z)]
  refine FJ 85 (λhq=>?_) λhq=>?_
  ·obtain⟨x,hk0⟩:∃x,fs[k-1]?=some x:=F7;refine gn ?_;refine F3 (v:=I ↑(k-1)) rfl (G7 rfl rfl FH) FY (di 62 5 (hv.ext r).sl rfl ((hv.ext r).lt hk0) (Gh rfl (λw' hR=>Fx Ff rfl rfl (((hv.ext r).ext hR).row hk0)) (Gh rfl (λw' hR=>Fx (k:=5) Ff rfl rfl (O.ext hR).row) (cP (Ya7 x f _) RX.ext λw9 x9=>FQ x9 H z O r λH z O r=>?_))));refine Gb (λhf=>?_) λhf=>?_
   ·refine go ?_;refine⟨?_,r⟩;rw[Ydi hk Fe hk0 (by simpa using hf)]
   refine go ?_;refine OS Qp (kx:=f.id) (a:=true) rfl rfl rfl rfl z (hid f (Ag hk)) (by unfold maxLen;omega) (.inl rfl) (λw10 hj xs10 J=>?_);have H:=H.mod hj Fw;have O:=O.mod hj Fw;have r:=r.own hj F5;have z:=J;refine go ?_;refine FL (k+1) ⟨r,H,by omega,?_,?_,?_,?_⟩
   ·rw[GW hk,CJ,hA,CY,Ds,U3 c5 Fe c8 c9 hh hg (by simpa using hc) (by simpa using Y) Z];rfl
   ·rw[GW hk,A3];exact BK.2 ⟨hN,by simp,λa ha b hb e=>by
     rw[RO]at c7;have e9:=of_decide_eq_false c7;rw[Ak,Bg,Af]at hb;rw[e,hb]at ha;exact e9 ha⟩
   ·exact Ve hO hk (.inr ⟨x,hk0,by simpa using hf⟩)
   ·rw[Xon,show(AP k fs).map (λx=>x.id)++[f.id]=(AP (k+1) fs).map (λx=>x.id) by rw[GW hk];simp]at z;exact z
  refine go ?_;refine GS rfl (go ?_);refine OS Qp (kx:=f.id) (a:=true) rfl rfl rfl rfl z (hid f (Ag hk)) (by unfold maxLen;omega) (.inl rfl) (λw11 hp xs11 J=>?_);have H:=H.mod hp Fw;have r:=r.own hp F5;have z:=J;refine go ?_;refine FL (k+1) ⟨r,H,by omega,?_,?_,?_,?_⟩
  ·rw[GW hk,CJ,hA,CY,Ds,U3 c5 Fe c8 c9 hh hg (by simpa using hc) (by simpa using Y) Z];rfl
  ·rw[GW hk,A3];exact BK.2 ⟨hN,by simp,λa ha b hb e=>by
    rw[RO]at c7;have e9:=of_decide_eq_false c7;rw[Ak,Bg,Af]at hb;rw[e,hb]at ha;exact e9 ha⟩
  ·exact Ve hO hk (.inl Fe)
  ·rw[Xon,show(AP k fs).map (λx=>x.id)++[f.id]=(AP (k+1) fs).map (λx=>x.id) by rw[GW hk];simp]at z;exact z
 refine go ?_;refine⟨?_,r⟩;rw[Av Fe]at hA hN hO;rw[UA Fe Fe Fe hA hN hO]
def II (f:Fi):Fj:=(F4 f.id.toNat++(F4 f.lev.toNat++F4 f.size.toNat))++(FA f.fst++FA f.lst)
def Ii (v:Vs):Fj:=(F4 v.next.toNat++F4 v.fs.length)++v.fs.flatMap II
def QE (h0:0<=n)(h:n<=4611686018427387904):GA n=F4 n.toNat:=by
 unfold GA
 congr 1
 unfold HF;omega
variable {A:Fj}
def Ydj (h0:0<=n)(h:n<=4611686018427387904)(hk:k<=4611686018427387904):A++[n,(k:Int)].flatMap GA=A++(F4 n.toNat++F4 k):=by
 simp only [AA,Ck,AI,QE h0 h,Qw hk]
def Ydk {a b c:Int}(ha:0<=a)(ha2:a<=4611686018427387904)(hb:0<=b)(hb2:b<=4611686018427387904)(hc:0<=c)(hc2:c<=4611686018427387904):A++[a,b,c].flatMap GA=A++(F4 a.toNat++(F4 b.toNat++F4 c.toNat)):=by
 simp only [AA,Ck,AI,QE ha ha2,QE hb hb2,QE hc hc2]
def row2 {p q:Fj}{v u:Value}: A++List.flatMap FA (List.map (λq:Value×Fj=>q.2) [(v,p),(u,q)])=A++(FA p++FA q):=by simp
variable {w:World}
def X72 {v u:Value}{p q:Fj}{b:Nat}(h:Fp w b [v,u] 82):Fu (λq:Value×Fj=>[q.1]) 1 w (.slice (some ⟨b,0,none⟩) 2 2) [(v,p),(u,q)]:=h.arr (enc:=λq:Value×Fj=>[q.1]) (sz:=1) (l:=[(v,p),(u,q)]) rfl Fg rfl F0
def Jc {v:Vs}(h:H2 v=true):1<=v.next/\v.next<=1099511627776/\v.fs.length<=1024/\(∀f∈v.fs,IL v.next f=true)/\(v.fs.map (·.id)).Nodup/\KN v.fs=true:=by
 unfold H2 at h;simp only [Aw,decide_eq_true_eq,AQ]at h;exact⟨h.1.1.1.1.1,h.1.1.1.1.2,h.1.1.1.2,h.1.1.2,h.1.2,h.2⟩
def KQ (h:IL n f=true):1<=f.id/\f.id<n/\0<=f.lev/\f.lev<=4/\1<=f.size/\f.size<=1048576/\f.fst.length<=4096/\f.lst.length<=4096:=by
 unfold IL Mo at h;simp only [Aw,decide_eq_true_eq]at h;omega
def X2n (h:IL n f=true):(II f).length<=8300:=by
 have:=KQ h;unfold II FA;have h1:=Gk f.id.toNat;have h2:=Gk f.lev.toNat;have h3:=Gk f.size.toNat;have h4:=Gk f.fst.length;have h5:=Gk f.lst.length;simp only [Ad];omega
def Ye {fs:List Fi}(h:∀f∈fs,IL n f=true)(k:Nat):((fs.take k).flatMap II).length<=8300*fs.length:=by
 induction fs generalizing k with
 | nil=>simp
 | cons f r ih=>
  cases k with
  | zero=>simp
  | succ k=>
   have h1:=ih (λf z=>h f (Aj _ z)) k;have h2:=X2n (h f Ai);rw[Co,AA,Ad,Az];omega
def X2o (n:Int)(fs:List Fi)(vf:Value)(w:World)(hv:Fu Fi.cs 5 w vf fs)(hl:fs.length<=100000)(hid:∀f∈fs,Ge f.id) :
  Gi 92 [.agg ⟨[I n,vf]⟩] w λu w'=>∃vb,u=.tuple #[vb,I (if H2 ⟨n,fs⟩=true then 0 else 1)]/\Vc.Own Fs 1 5 w.heap.size w' vb (if H2 ⟨n,fs⟩=true then Ii ⟨n,fs⟩else[]):=by
 refine cE Tryz.func92 λz=>go ?_;refine G1 rfl rfl rfl RX.all (λb1 w1 e1 x1 Z=>?_);have g1:=z.ge e1;have z:=z.trans x1;refine go ?_;refine dq (Fx (k:=2) Ff rfl rfl Z.row) (cP (QQ n fs vf _ (hv.ext z) hl hid) RX.all λw2 x2=>Fy x2 Z z λZ z=>?_);refine Gb (λc1=>?_) λc1=>?_
 ·refine go ?_;have hE:H2 ⟨n,fs⟩=false:=by simpa using c1
  rw[hE];exact⟨_,rfl,z,_,rfl,Vc.Own.nil⟩
 have hE:H2 ⟨n,fs⟩=true:=by simpa using c1
 obtain⟨xg,xl,xi,hf,_,_⟩:=Jc hE;simp only at xg xl xi hf;refine go ?_;refine aL [.slice none 0 0] λb2 w3 e2 x3 m2=>?_;have g2:=z.ge e2;have n2_1:=Z.ltb e2;refine Fy x3 Z z λZ z=>FM 62 5 (hv.ext z).sl ?_;refine li (e:=3) (sz:=1) (zs:=[.int .i64 0]) (pv:=[(0,_),(1,_)]) (cs:=[_,_]) RX.all (λb3 w4 e3 x4 m3=>?_);have g3:=z.ge e3;have n3_1:=Z.ltb e3;have n3_2:=m2.ltb e3;refine FC x4 Z m2 z λZ m2 z=>?_;have r:Wr w.heap.size b2 (.slice none 0 0) [] w4:=⟨m2,Vc.Own.nil⟩;refine cD (Lb w.heap.size b2 (.slice none 0 0) _ [n,↑fs.length] (.slice (some ⟨b3,0,none⟩) 2 2) _ r (Ae (Aa 0:([]:Fj).length<=0) Fe) z.size (m3.arr (enc:=Vc.encI) (sz:=1) (l:=[n,↑fs.length]) rfl Fg rfl F0) F0 (λk9 J _ hr=>by have hp:b3=k9:=hr;subst hp;exact(J.elim (λh=>by omega) (λh=>by cases h)))) (.inl rfl) λu5 w5 x5 xc=>?_;have hsz5:=z.size;have Z:=Z.mod x5 (λJ=>J.elim (λh=>by have h2:b1=b2:=h;omega) (λh=>by cases h));have z:=z.own x5 (λi hi=>r.ge g2 hi);obtain⟨rfl,v1,r,h6⟩:=xc;rw[Ydj Fe Fe Fe,AG]at r;have hln16:=trivial;refine FM 62 5 (hv.ext z).sl ?_;refine F8 (G:=Nat×Value) (λ(k,vc)=>[(2,.slice none 0 0),(3,I 0),(4,Fh b2 0),(18,vf),(19,I ↑fs.length),(20,I ↑k)]) (λ(k,vc) w'=>Fq w w'/\k<=fs.length/\Wr w.heap.size b2 vc ((F4 n.toNat++F4 fs.length)++(fs.take k).flatMap II) w') (λ(k,vc)=>fs.length-k) (0,v1) ⟨z,Ab _,by simpa using r⟩ ?_;rintro _ ⟨k,vc⟩ w6 ⟨z,hk1,r⟩;refine Fk (λc2=>?_) λc2=>?_
 ·obtain⟨f,hk⟩:∃f,fs[k]?=some f:=F7;have hof:=KQ (hf f (Ag hk));have xh:=Ye hf k;have xj:=Gk n.toNat;have xa:=Gk fs.length;have hj:((F4 n.toNat++F4 fs.length)++(fs.take k).flatMap II).length<=9000000:=by rw[Ad,Ad];omega
  refine go ?_;refine di 62 5 (hv.ext z).sl rfl ((hv.ext z).lt hk) (dq (Fx Ff rfl rfl ((hv.ext z).row hk)) (aL [.int .i64 0,.int .i64 0,.int .i64 0,S [],S []] λb4 w7 e4 x7 H=>?_));have g4:=z.ge e4;have O:=r.lt;refine Fy x7 r z λr z=>Gg H (λw8 x8 xs8 H=>?_);have r:=r.mod x8 (λk9 J h=>by have h2:k9=b4:=h;subst h2;exact A7 _ (AD (O _ J) e4.symm));have z:=z.o1 x8;refine go ?_;refine li (e:=3) (sz:=1) (zs:=[.int .i64 0]) (pv:=[(0,_),(1,_),(2,_)]) (cs:=[_,_,_]) RX.all (λb5 w9 e5 x9 m5=>?_);have g5:=z.ge e5;have n5_4:=H.ltb e5;have hg:=r.lt;refine FC x9 r H z λr H z=>?_;have xm:¬ HX b2 vc b4:=λJ=>(A7 b4 (AD (O _ J) e4.symm));have hy:=H.lt;refine cD (Lb w.heap.size b2 vc _ [f.id,f.lev,f.size] (.slice (some ⟨b5,0,none⟩) 3 3) _ r (Ae hj Fe) z.size (m5.arr (enc:=Vc.encI) (sz:=1) (l:=[f.id,f.lev,f.size]) rfl Fg rfl F0) F0 (λk9 J _ hr=>by have hp:b5=k9:=hr;subst hp;exact(A7 b5 (AD (hg _ J) e5.symm)))) (.inl rfl) λu10 w10 h8 hz=>?_;have hsz10:=z.size;have H:=H.mod h8 xm;have z:=z.own h8 (λi hi=>r.ge g2 hi);obtain⟨rfl,v2,r,h6⟩:=hz;rw[Ydk Fe Fe Fe Fe Fe Fe]at r;have hln31:=trivial;have h7:((F4 n.toNat++F4 fs.length)++(fs.take k).flatMap II).length<=9000000:=hj;have hq1:=Gk f.id.toNat;have hq2:=Gk f.lev.toNat;have hq3:=Gk f.size.toNat;have hln3:(((F4 n.toNat++F4 fs.length)++(fs.take k).flatMap II)++(F4 f.id.toNat++(F4 f.lev.toNat++F4 f.size.toNat))).length<=9000100:=by simp only [Ad]at h7 ⊢;omega
  refine gw ?_;refine Ka [.p,.l,.x,.p,.l,.x,.x,.x] rfl (go ?_);refine KF (e:=5) rfl Ff Ff Ff rfl RX.all (λb6 ht w11 e6 xd Y=>?_);have g6:=z.ge e6;have n6_4:=H.ltb e6;have hc:=r.lt;refine FC xd H r z λH r z=>go ?_;refine KF (e:=5) rfl Ff Ff Ff rfl RX.all (λb7 h5 w12 e7 xb hq=>?_);have g7:=z.ge e7;have n7_4:=H.ltb e7;have hh:=r.lt;refine FQ xb H r Y z λH r Y z=>li (e:=82) (sz:=1) (zs:=[.slice none 0 0]) (pv:=[(0,_),(1,_)]) (cs:=[_,_]) RX.all (λb8 w13 e8 xk m8=>?_);have g8:=z.ge e8;have n8_4:=H.ltb e8;have ha:=r.lt;refine Ga xk H r Y hq z λH r Y hq z=>?_;have hy:=H.lt;refine cD (Mn w.heap.size b2 v2 _ [(.slice (some ⟨b6,0,none⟩) f.fst.length ht,f.fst),(.slice (some ⟨b7,0,none⟩) f.lst.length h5,f.lst)] (.slice (some ⟨b8,0,none⟩) 2 2) _ r Fe z.size (X72 m8) (OO (P:=λq:Value×Fj=>Fu Fs 1 _ q.1 q.2) Y hq) (OO (P:=λq:Value×Fj=>q.2.length<=1000000) (show f.fst.length<=1000000 by omega) (show f.lst.length<=1000000 by omega)) F0 (λ_ J=>(A7 b8 (AD (ha _ J) e8.symm))) (OO (P:=λq:Value×Fj=>q.2≠[]->¬ HX b2 v2 (base q.1).1) (λ_ J=>(A7 b6 (AD (hc _ J) e6.symm))) (λ_ J=>(A7 b7 (AD (hh _ J) e7.symm))))) (.inl rfl) λu14 w14 xe hw=>?_;have hsz14:=z.size;have z:=z.own xe (λi hi=>r.ge g2 hi);obtain⟨rfl,v3,r,h6⟩:=hw;rw[row2]at r;refine go ?_;refine FL (k+1,v3) ⟨z,by omega,?_⟩;rw[GW hk,List.flatMap_append,AA,Ck,AI,show II f=(F4 f.id.toNat++(F4 f.lev.toNat++F4 f.size.toNat))++(FA f.fst++FA f.lst) from rfl];simpa only [A6]using r
 have xh:=Ye hf k;have xj:=Gk n.toNat;have xa:=Gk fs.length;have hln1:((F4 n.toNat++F4 fs.length)++(fs.take k).flatMap II).length<=9000000:=by rw[Ad,Ad];omega
 refine Gj (OA w.heap.size b2 vc _ _ r Fe) λvo w15 xf hB=>?_;have hsz15:=z.size;have z:=z.trans xf;refine go ?_;rw[show k=fs.length by omega,AT]at hB;rw[if_pos hE,if_pos hE];exact⟨_,rfl,z,_,rfl,hB.mono Fe⟩
def S1 {p:α->Bool}{c:α}(h:l[k]?=some c)(ha:(l.take k).any p=false)(hp:p c=false):(l.take (k+1)).any p=false:=by
 rw[GW h,List.any_append,ha];simp [hp]
def KE {α:Type}(l:List α)(p:α->Bool)(i:Int):Prop:=(i=-1/\l.any p=false)\/∃k:Nat,i=k/\(l.take k).any p=false/\∃x,l[k]?=some x/\p x=true
def XQ {p:α->Bool}{i:Int}(h:KE l p i):decide (0<=i)=l.any p:=by
 rcases h with⟨rfl,h⟩|⟨k,rfl,_,x,hx,hp⟩
 ·rw[h];rfl
 ·rw[BB.2 ⟨x,Ag hx,hp⟩];simp
def X73 (l:List Fi)(v:Value)(f:Nat)(cs:List Value)(p:Fi->Bool)(w:World)(hv:Fu Fi.cs 5 w v l)(hl:l.length<=1000000)(hcb:Hr Tryz.prog f=true)(hc:∀w2,Fq w w2->∀x∈l,Calls Tryz.prog f ([x.v]++cs).toArray w2 (Pure w2 (B (p x)))) :
  Gi 245 [v,J2 f cs] w λu _=>∃i:Int,u=I i/\KE l p i:=by
 refine cE Tryz.func245 λr=>FM 62 5 hv.sl ?_;refine F8 (G:=Nat) (λk=>[(0,v),(1,J2 f cs),(7,I ↑l.length),(8,I ↑k)]) (λk w'=>Fq w w'/\k<=l.length/\(l.take k).any p=false) (λk=>l.length-k) 0 ⟨r,Ab _,rfl⟩ ?_;rintro _ k w1 ⟨r,hk1,ha⟩;refine Fk (λH=>?_) λH=>?_
 ·obtain⟨x,hk⟩:∃x,l[k]?=some x:=F7;refine FN 62 5 hv.sl (hv.lt hk) ?_;refine dq (Fx Ff rfl rfl ((hv.ext r).row hk)) (Q6 (vs:=[x.v]) (cs:=cs) rfl rfl hcb (hc _ r x (Ag hk)) rfl RX.all (λw2 J=>?_));have r:=r.trans J;refine Gb (λz=>?_) λz=>?_
  ·refine go ?_;exact⟨_,rfl,r,_,rfl,.inr ⟨k,rfl,ha,x,hk,z⟩⟩
  refine go ?_;refine FL (k+1) ⟨r,by omega,S1 hk ha (by simpa using z)⟩
 refine go ?_;rw[Av Fe]at ha;exact⟨_,rfl,r,-1,rfl,.inl ⟨rfl,ha⟩⟩
def X74 (l:List Cell)(v:Value)(f:Nat)(cs:List Value)(p:Cell->Bool)(w:World)(hv:Fu Cell.cs 4 w v l)(hl:l.length<=1000000)(hcb:Hr Tryz.prog f=true)(hc:∀w2,Fq w w2->∀x∈l,Calls Tryz.prog f ([x.v]++cs).toArray w2 (Pure w2 (B (p x)))) :
  Gi 107 [v,J2 f cs] w λu _=>∃i:Int,u=I i/\KE l p i:=by
 refine cE Tryz.func107 λr=>FM 79 4 hv.sl ?_;refine F8 (G:=Nat) (λk=>[(0,v),(1,J2 f cs),(7,I ↑l.length),(8,I ↑k)]) (λk w'=>Fq w w'/\k<=l.length/\(l.take k).any p=false) (λk=>l.length-k) 0 ⟨r,Ab _,rfl⟩ ?_;rintro _ k w1 ⟨r,hk1,ha⟩;refine Fk (λH=>?_) λH=>?_
 ·obtain⟨x,hk⟩:∃x,l[k]?=some x:=F7;refine FN 79 4 hv.sl (hv.lt hk) ?_;refine dq (Fx Ff rfl rfl ((hv.ext r).row hk)) (Q6 (vs:=[x.v]) (cs:=cs) rfl rfl hcb (hc _ r x (Ag hk)) rfl RX.all (λw2 J=>?_));have r:=r.trans J;refine Gb (λz=>?_) λz=>?_
  ·refine go ?_;exact⟨_,rfl,r,_,rfl,.inr ⟨k,rfl,ha,x,hk,z⟩⟩
  refine go ?_;refine FL (k+1) ⟨r,by omega,S1 hk ha (by simpa using z)⟩
 refine go ?_;rw[Av Fe]at ha;exact⟨_,rfl,r,-1,rfl,.inl ⟨rfl,ha⟩⟩
def X75 (l:List Fi)(v:Value)(f:Nat)(cs:List Value)(p:Fi->Bool)(w:World)(hv:Fu Fi.cs 5 w v l)(hl:l.length<=1000000)(hcb:Hr Tryz.prog f=true)(hc:∀w2,Fq w w2->∀x∈l,Calls Tryz.prog f ([x.v]++cs).toArray w2 (Pure w2 (B (p x)))) :
  FX 172 [v,J2 f cs] w (B (l.any p)):=by
 refine cE Tryz.func172 λr=>Gj (X73 l v f cs p _ (hv.ext r) hl hcb (λw2 J=>hc w2 (r.trans J))) λu1 w1 H z=>?_;have hsz1:=r.size;have r:=r.trans H;obtain⟨i,rfl,hi⟩:=z;refine dp (HY rfl rfl) (go ?_);exact⟨by rw[<-XQ hi],r⟩
def Ybc (f:Fi)(id:Int)(bi:Nat)(w:World)(hi:Fp w bi [I id] 3) :
  FX 173 [f.v,Fh bi 0] w (B (decide (f.id=id))):=by
 refine cE Tryz.func173 λr=>go ?_;refine G1 rfl rfl rfl RX.all (λb1 w1 e1 z m1=>?_);have g1:=r.ge e1;have r:=r.trans z;refine go ?_;refine dl rfl ((hi.ext r).at rfl) (go ?_);exact⟨by simp,r⟩
def Ybd (l:List Int)(v:Value)(y:Int)(w:World)(hv:Fu Vc.encI 1 w v l)(hl:l.length<=1000000) :
  Gi 244 [v,I y] w λu _=>∃i:Int,u=I i/\KE l (λz=>decide (y=z)) i:=by
 refine cE Tryz.func244 λr=>FM 3 1 hv.sl ?_;refine F8 (G:=Nat) (λk=>[(0,v),(1,I y),(7,I ↑l.length),(8,I ↑k)]) (λk w'=>Fq w w'/\k<=l.length/\(l.take k).any (λz=>decide (y=z))=false) (λk=>l.length-k) 0 ⟨r,Ab _,rfl⟩ ?_;rintro _ k w1 ⟨r,hk1,ha⟩;refine Fk (λJ=>?_) λJ=>?_
 ·obtain⟨x,hk⟩:∃x,l[k]?=some x:=F7;refine FN 3 1 hv.sl (hv.lt hk) ?_;refine dl rfl (((hv.ext r).row hk).at0 rfl) ?_;refine Fk (λH=>?_) λH=>?_
  ·refine go ?_;exact⟨_,rfl,r,_,rfl,.inr ⟨k,rfl,ha,x,hk,by simpa using H⟩⟩
  refine go ?_;refine FL (k+1) ⟨r,by omega,S1 hk ha (by simpa using H)⟩
 refine go ?_;rw[Av Fe]at ha;exact⟨_,rfl,r,-1,rfl,.inl ⟨rfl,ha⟩⟩
def Ym (l:List Int)(v:Value)(y:Int)(w:World)(hv:Fu Vc.encI 1 w v l)(hl:l.length<=1000000) :
  FX 171 [v,I y] w (B (decide (y∈l))):=by
 refine cE Tryz.func171 λr=>Gj (Ybd l v y _ (hv.ext r) hl) λu1 w1 J H=>?_;have hsz1:=r.size;have r:=r.trans J;obtain⟨i,rfl,hi⟩:=H;refine dp (HY rfl rfl) (go ?_);refine⟨?_,r⟩;have e:decide (y∈l)=l.any (λz=>decide (y=z)):=by
  rw[Dv,decide_eq_true_iff,BB];exact⟨λh=>⟨y,h,by simp⟩,λ⟨z,hz,e⟩=>by rw[of_decide_eq_true e];exact hz⟩
 rw[e,<-XQ hi]
structure GV (w:World):Prop where
 tab : Lib.TabIs Tryz.prog w "internal/strconv.uint64pow10" .u64 Lib.pow10Tab
@[reducible] def Mv : Nat → Prop := λ k => Tryz.prog.globalNamed "internal/strconv.uint64pow10" = some k
def GV.at {w:World}(h:GV w):∃g cs a b,Mv g/\w.heap[g]?=some (.cells cs a b)/\cs=(Lib.pow10Tab.map λz=>Value.int .u64 z).toArray:=by
 have r:=h.tab;unfold Lib.TabIs World.var? at r;rw[Option.bind_eq_some_iff]at r;obtain⟨g,J,h2⟩:=r;split at h2
 ·rename_i cs a b H;exact⟨g,cs,a,b,J,H,Am.inj h2⟩
 ·cases h2
def GV.lt (h:GV w):∀k,Mv k->k<w.heap.size:=λk hk=>by
 obtain⟨g,cs,a,b,z,r,_⟩:=h.at;have:g=k:=Am.inj (z.symm.trans hk);rw[<-this];exact(BD.1 r).1
def GV.mod {S:Nat->Prop}{w':World}(h:GV w)(x:Vc.Mod S w w')(hS:∀k,Mv k->¬ S k):GV w':=by
 obtain⟨g,cs,a,b,hg,hc,he⟩:=h.at;refine⟨?_⟩;unfold Lib.TabIs World.var?;rw [show Tryz.prog.globalNamed "internal/strconv.uint64pow10" = some g from hg, Option.bind_some, x.block g (h.lt g hg) (hS g hg), hc, he]
def GV.ext {w':World}(h:GV w)(x:Fq w w'):GV w':=h.mod x (λ_ _ h=>h)
instance {w w':World} : Up w w' (GV w) (GV w'):=⟨λx h=>h.ext x⟩
def Ybe (n:Int)(w:World)(hg:GV w)(hn:Ge n):Calls Tryz.prog 106 [I n].toArray w (Pure w (S (Lib.itoa n))):=by
 refine(Tryz.strconv_Itoa n hn.1 (by have:=hn.2;omega) w hg.tab).mono ?_;rintro e w' ⟨rfl,k,os,rfl⟩;exact⟨rfl,⟨rfl,rfl,rfl,by simp [Go.Sort.grow,Go.World.drewN],λi hi _=>by simp only [Go.Sort.grow,Go.World.drewN];rw[Array.getElem?_append_left hi]⟩⟩
def GJ (n:Int):Fj:=116 :: Lib.itoa n
def Tz (n:Int)(w:World)(hg:GV w)(hn:Ge n)(hl:(Lib.itoa n).length<=100) :
  FX 50 [I n] w (S (GJ n)):=by
 refine cE Tryz.func50 λr=>Gs (Ybe n _ (hg.ext r) hn) λw1 z=>?_;have r:=r.trans z;refine dp (I6 rfl rfl (by simp;omega)) (go ?_);exact⟨rfl,r⟩
@[reducible] def Iu (bd bl:Nat) (n:Int) (vf:Value) (bo bm:Nat) (dead:Bool):List Value:=[Fh bd 0,Fh bl 0,I n,vf,.map (some bo),Fh bm 0,B dead]
def Ug (bs bd bl:Nat)(n:Int)(vf:Value)(bo bm:Nat)(dead:Bool)(w:World)(hs:Fp w bs (Iu bd bl n vf bo bm dead) 90) :
  FX 38 [Fh bs 0] w (I (if dead=true then 9 else 0)):=by
 refine cE Tryz.func38 λz=>go ?_;refine dp (GY Ff rfl rfl) ?_;refine Fk (λH=>?_) λH=>?_
 ·exact absurd H F0
 refine go ?_;refine df 6 (rfl) ?_;refine Gb (λr=>?_) λr=>?_
 ·refine go ?_;rw[if_pos r];exact⟨rfl,z⟩
 refine go ?_;rw[if_neg (by rw[r];decide)];exact⟨rfl,z⟩
def Qa (bs bd bl:Nat)(n:Int)(vf:Value)(bo bm:Nat)(dead:Bool)(e:Int)(w:World)(hs:Fp w bs (Iu bd bl n vf bo bm dead) 90) :
  G4 41 [Fh bs 0,I e] w (Fv bs) λu w'=>u=I e/\Fp w' bs (Iu bd bl n vf bo bm (dead || decide (e≠0))) 90:=by
 refine cM Tryz.func41 (Fv bs) λr=>?_;refine Fk (λz=>?_) λz=>?_
 ·refine go ?_;refine df 6 (rfl) (HL hs (λw1 H xs1 hs=>?_));have r:=r.own H F5;refine go ?_;exact⟨_,rfl,r,rfl,by rw[decide_eq_true z,Bool.or_true];exact hs⟩
 refine go ?_;exact⟨_,rfl,r,rfl,by rw[decide_eq_false z,Bool.or_false];exact hs⟩
structure RRep (X:Nat->Prop)(w:World)(bx:Nat)(l:List Cell):Prop where
 out:∃vL,Fp w bx [vL] 215/\Fu Cell.cs 4 w vL l/\(l≠[]->(base vL).1≠bx/\X (base vL).1)/\(∀j,X j->j<w.heap.size)
def P1 (F:Nat->Prop)(w w':World):Nat->Prop:=λk=>F k\/(w.heap.size<=k/\k<w'.heap.size)
end Go.Proofs.YtiooodckiddpmaaGreatDoor
namespace Go.Sp
open Go.Vc
def GD (h:Nat->Nat):List Nat->Nat->Nat
 | [],_=>0
 | j :: r,row=>if row<h j then j else GD h r row
def H3 (h:Nat->Nat):List Nat->Nat->Nat
 | [],_=>0
 | j :: r,row=>if ∃i∈r,row<h i then H3 h r row else if row<h j then j else 0
def HG (h:Nat->Nat)(nx:Nat->List Nat):List Nat->Prop
 | []=>True
 | i :: r=>(∀row,row<h i->(nx i)[row]?=some (GD h r row))/\HG h nx r
def RN {h:Nat->Nat}{row:Nat} : ∀ {R S:List Nat},(∀i∈R,¬ row<h i)->GD h (R++S) row=GD h S row
 | [],S,_=>rfl
 | j :: r,S,hn=>by
  simp only [AY,GD];rw[if_neg (hn j Ai)];exact RN (λi hi=>hn i (Aj _ hi))
def R5 (h:Nat->Nat)(row:Nat):∀(R S:List Nat),(∃R1 j R2,R=R1++j :: R2/\row<h j/\GD h (R++S) row=j/\(∀i∈R1,¬ row<h i))\/((∀i∈R,¬ row<h i)/\GD h (R++S) row=GD h S row)
 | [],S=>.inr ⟨(λi hi=>by cases hi),rfl⟩
 | j :: r,S=>by
  by_cases hj:row<h j
  ·exact .inl ⟨[],j,r,rfl,hj,by simp [GD,hj],(λi hi=>by cases hi)⟩
  ·rcases R5 h row r S with⟨R1,k,R2,rfl,hk,he,hn⟩|⟨hn,he⟩
   ·refine .inl ⟨j :: R1,k,R2,rfl,hk,?_,λi hi=>?_⟩
    ·simp only [AY,GD,if_neg hj]at he ⊢;exact he
    ·rcases Ah.1 hi with rfl|hi
     ·exact hj
     ·exact hn i hi
   ·refine .inr ⟨λi hi=>?_,?_⟩
    ·rcases Ah.1 hi with rfl|hi
     ·exact hj
     ·exact hn i hi
    ·simp only [AY,GD,if_neg hj];exact he
def Tc (h:Nat->Nat)(row:Nat):∀S:List Nat,GD h S row=0\/(GD h S row∈S/\row<h (GD h S row))
 | []=>.inl rfl
 | j :: r=>by
  simp only [GD]
  by_cases hj:row<h j
  ·rw[if_pos hj];exact .inr ⟨Ai,hj⟩
  ·rw[if_neg hj];rcases Tc h row r with e|⟨e,e2⟩
   ·exact .inl e
   ·exact .inr ⟨Aj _ e,e2⟩
def St {h:Nat->Nat}{row at':Nat} : ∀ {A R:List Nat},row<h at'->(∀i∈R,¬ row<h i)->H3 h (A++at' :: R) row=at'
 | [],R,ha,hn=>by
  simp only [AG,H3];rw[if_neg (by rintro ⟨i,hi,hlt⟩;exact hn i hi hlt),if_pos ha]
 | j :: A,R,ha,hn=>by
  simp only [AY,H3];rw[if_pos ⟨at',by simp,ha⟩];exact St ha hn
def T8 {h:Nat->Nat}{nx:Nat->List Nat} : ∀ {A R:List Nat} {i:Nat},HG h nx (A++i :: R)->∀row,row<h i->(nx i)[row]?=some (GD h R row)
 | [],_,_,hl=>hl.1
 | _ :: A,_,_,hl=>T8 (A:=A) hl.2
def XG {h h':Nat->Nat}{nx nx':Nat->List Nat}{q:Nat} : ∀(A S:List Nat),(∀i∈A++S,h' i=h i/\i≠q)->HG h nx (A++S)->
  (∀i∈S,nx' i=nx i)->(∀row,row<h' q->(nx' q)[row]?=some (GD h S row))->
  (∀i∈A,∀row,row<h i->(nx' i)[row]?=if H3 h A row=i/\row<h' q then some q else(nx i)[row]?)->A.Nodup->
  HG h' nx' (A++q :: S)
 | [],S,hh,hl,hS,hq,_,_=>by
  have hn:∀T:List Nat,(∀i∈T,h' i=h i)->∀row,GD h' T row=GD h T row:=by
   intro T
   induction T with
   | nil=>intro _ _;rfl
   | cons j r ih=>intro z row;simp only [GD];rw[z j Ai,ih (λi hi=>z i (Aj _ hi))]
  have Z:∀T:List Nat,(∀i∈T,h' i=h i/\nx' i=nx i)->HG h nx T->HG h' nx' T:=by
   intro T
   induction T with
   | nil=>intro _ _;trivial
   | cons j r ih=>
    intro z hl;obtain⟨h1,h2⟩:=z j Ai;refine⟨λrow H=>?_,ih (λi hi=>z i (Aj _ hi)) hl.2⟩;rw[h2,hn r (λi hi=>(z i (Aj _ hi)).1)];exact hl.1 row (by rw[<-h1];exact H)
  refine⟨λrow H=>?_,Z S (λi hi=>⟨(hh i (by simpa using hi)).1,hS i hi⟩) (by simpa using hl)⟩;rw[hq row H,hn S (λi hi=>(hh i (by simpa using hi)).1)]
 | a :: A,S,hh,hl,hS,hq,hA,hnd=>by
  have O:=Ba.1 hnd;have hc:=XG (h:=h) (h':=h') (nx:=nx) (nx':=nx') (q:=q) A S (λi hi=>hh i (Aj _ hi)) hl.2 hS hq (λi hi row H=>by
   have h1:=hA i (Aj _ hi) row H;have e:H3 h (a :: A) row=H3 h A row:=by
    simp only [H3];rw[if_pos ⟨i,hi,H⟩]
   rw[e]at h1;exact h1) O.2
  refine⟨λrow H=>?_,hc⟩;have ha:=(hh a Ai);rw[ha.1]at H;have h1:=hA a Ai row H;have h2:(nx a)[row]?=some (GD h (A++S) row):=hl.1 row H;show(nx' a)[row]?=some (GD h' (A++q :: S) row);rw[h1];have hf:∀T:List Nat,(∀i∈T,h' i=h i)->GD h' (T++q :: S) row=if ∃i∈T,row<h i then GD h (T++S) row else if row<h' q then q else GD h S row:=by
   intro T
   induction T with
   | nil=>
    intro _;have hn:∀T:List Nat,(∀i∈T,h' i=h i)->GD h' T row=GD h T row:=by
     intro T
     induction T with
     | nil=>intro _;rfl
     | cons j r ih=>intro z;simp only [GD];rw[z j Ai,ih (λi hi=>z i (Aj _ hi))]
    simp only [AG,GD];rw[hn S (λi hi=>(hh i (Aj _ (by simp [hi]))).1)];simp
   | cons j r ih=>
    intro z;simp only [AY,GD];rw[z j Ai,ih (λi hi=>z i (Aj _ hi))]
    by_cases hj:row<h j
    ·simp [hj]
    ·simp [hj]
  rw[hf A (λi hi=>(hh i (Aj _ (by simp [hi]))).1)]
  by_cases hex:∃i∈A,row<h i
  ·rw[if_pos hex];have hp:¬ (H3 h (a :: A) row=a/\row<h' q):=by
    rintro ⟨he,_⟩;simp only [H3]at he;rw[if_pos hex]at he;have:H3 h A row∈A:=by
     have hg:∀T:List Nat,(∃i∈T,row<h i)->H3 h T row∈T:=by
      intro T
      induction T with
      | nil=>rintro ⟨i,hi,_⟩;cases hi
      | cons j r ih=>
       intro hx;simp only [H3]
       by_cases hr2:∃i∈r,row<h i
       ·rw[if_pos hr2];exact Aj _ (ih hr2)
       ·rw[if_neg hr2];obtain⟨i,hi,J⟩:=hx;rcases Ah.1 hi with rfl|hi
        ·rw[if_pos J];exact Ai
        ·exact absurd ⟨i,hi,J⟩ hr2
     exact hg A hex
    rw[he]at this;exact O.1 this
   rw[if_neg hp,h2]
  ·rw[if_neg hex];have he:H3 h (a :: A) row=a:=by
    simp only [H3];rw[if_neg hex,if_pos H]
   have Y:GD h (A++S) row=GD h S row:=RN (λi hi J=>hex ⟨i,hi,J⟩)
   by_cases hq':row<h' q
   ·rw[if_pos ⟨he,hq'⟩,if_pos hq']
   ·rw[if_neg (λx=>hq' x.2),if_neg hq',h2,Y]
structure Tow where
 c:Cell
 bk:Nat
 h:Nat
@[reducible] def Tow.sl (t:Tow):Value:=.slice (some ⟨t.bk,0,none⟩) t.h t.h
@[reducible] def Tow.enc (t:Tow):List Value:=[S t.c.key,S t.c.val,B t.c.del,I t.c.seq,t.sl]
def hgt (a:List Tow)(i:Nat):Nat:=(a[i]?.map Tow.h).getD 0
def Io (a:List Tow)(i:Nat):Cell:=(a[i]?.map Tow.c).getD Cell.zero
def XK {a:List Tow}{i:Nat}{t:Tow}(h:a[i]?=some t):hgt a i=t.h:=by simp [hgt,h]
def O1 {a:List Tow}{i:Nat}{t:Tow}(h:a[i]?=some t):Io a i=t.c:=by simp [Io,h]
def FO (a:List Tow)(L:List Nat)(c:Cell):List Nat:=L.takeWhile λi=>less (Io a i) c
def FK (a:List Tow)(L:List Nat)(c:Cell):List Nat:=L.dropWhile λi=>less (Io a i) c
def Ow (a:List Tow)(L:List Nat)(c:Cell):FO a L c++FK a L c=L:=List.takeWhile_append_dropWhile ..
structure Skip (a:List Tow)(nx:Nat->List Nat)(L:List Nat)(l:List Cell):Prop where
 len:a.length=L.length+1
 mem:∀i∈L,1<=i/\i<a.length
 nd:L.Nodup
 cells:l=L.map (Io a)
 h0:hgt a 0=12
 hle:∀i,i<a.length->1<=hgt a i/\hgt a i<=12
 link:HG (hgt a) nx (0 :: L)
section
variable {a:List Tow}{nx:Nat->List Nat}{L:List Nat}{l:List Cell}{c:Cell}
variable {i:Nat}
def Xyd (h:i∈FO a L c):less (Io a i) c=true:=
 AQ.1 (List.all_takeWhile (p:=λi=>less (Io a i) c) (l:=L)) i h
def Nr (h:i∈FO a L c):i∈L:=by rw[<-Ow a L c];exact Bl _ h
def Pq (h:i∈FK a L c):i∈L:=by rw[<-Ow a L c];exact Bb _ h
variable {r:List Nat}
def WY (h:FK a L c=i :: r):less (Io a i) c=false:=by
 have:=List.head?_dropWhile_not (λi=>less (Io a i) c) L;rw[show List.dropWhile (λi=>less (Io a i) c) L=FK a L c from rfl,h]at this;simpa using this
def X76 (a:List Tow)(L:List Nat)(c:Cell):pre (L.map (Io a)) c=(FO a L c).map (Io a):=by
 unfold pre FO;rw[List.takeWhile_map];rfl
def NA (a:List Tow)(L:List Nat)(c:Cell):Iq (L.map (Io a)) c=(FK a L c).map (Io a):=by
 unfold Iq FK;rw[List.dropWhile_map];rfl
def Skip.mem0 (h:Skip a nx L l)(hi:i∈0 :: L):i<a.length:=by
 rcases Ah.1 hi with rfl|hi
 ·have:=h.len;omega
 ·exact(h.mem i hi).2
def Skip.pos (h:Skip a nx L l)(hi:i∈L):i≠0:=by have:=(h.mem i hi).1;omega
variable {A R:List Nat}
def Skip.nextR (h:Skip a nx L l){row:Nat}(hp:0 :: FO a L c=A++i :: R)(hr:row<hgt a i):(nx i)[row]?=some (GD (hgt a) (R++FK a L c) row):=by
 have z:=h.link;have e:0 :: L=A++i :: (R++FK a L c):=by
  have e2:0 :: (FO a L c++FK a L c)=A++i :: (R++FK a L c):=by rw[<-AY,hp];simp
  rwa [Ow]at e2
 rw[e]at z;exact T8 z row hr
def Skip.next_in (h:Skip a nx L l){row:Nat}(hp:0 :: FO a L c=A++i :: R):
  GD (hgt a) (R++FK a L c) row=0\/GD (hgt a) (R++FK a L c) row∈L:=by
 rcases Tc (hgt a) row (R++FK a L c)with e|⟨e,_⟩
 ·exact .inl e
 ·refine .inr ?_;rcases Al.1 e with e|e
  ·have:GD (hgt a) (R++FK a L c) row∈0 :: FO a L c:=by rw[hp];simp [e]
   rcases Ah.1 this with e2|e2
   ·-- 0 is not of what stands behind
    exfalso;rw[e2]at e
    cases A with
    | nil=>
     rw[AG]at hp;have hR:R=FO a L c:=by injection hp with _ h2;exact h2.symm
     rw[hR]at e;exact h.pos (Nr e) rfl
    | cons x A=>
     rw[AY]at hp;have hR:FO a L c=A++i :: R:=by injection hp
     exact h.pos (Nr (by rw[hR];simp [e])) rfl
   ·exact Nr e2
  ·exact Pq e
def Skip.behind (h:Skip a nx L l){j:Nat}(hp:0 :: FO a L c=A++i :: R)(hj:j∈R):j∈FO a L c:=by
 cases A with
 | nil=>
  rw[AG]at hp;have hR:FO a L c=R:=by injection hp
  rw[hR];exact hj
 | cons x A=>
  rw[AY]at hp;have hR:FO a L c=A++i :: R:=by injection hp
  rw[hR];simp [hj]
variable {t:Tow}
def Skip.step (h:Skip a nx L l)(hs:FP l){row:Nat}(hp:0 :: FO a L c=A++i :: R)(h0:GD (hgt a) (R++FK a L c) row≠0)(ht:a[GD (hgt a) (R++FK a L c) row]?=some t)(hl:less t.c c=true):
  ∃A' R',0 :: FO a L c=A'++GD (hgt a) (R++FK a L c) row :: R'/\row<hgt a (GD (hgt a) (R++FK a L c) row)/\R'.length<R.length:=by
 rcases R5 (hgt a) row R (FK a L c)with⟨R1,j,R2,e,hj,e2,_⟩|⟨_,e2⟩
 ·rw[e2];refine⟨A++i :: R1,R2,?_,hj,?_⟩
  ·rw[hp,e];simp
  ·rw[e];simp;omega
 ·exfalso;rw[e2]at h0 ht;rcases Tc (hgt a) row (FK a L c)with e3|⟨e3,_⟩
  ·exact h0 e3
  ·-- a cell of the rest is not ahead
   cases hsu:FK a L c with
   | nil=>rw[hsu]at e3;cases e3
   | cons s r=>
    have h1:=WY hsu;rw[hsu]at e3;rw[hsu]at ht;have z:less (Io a (GD (hgt a) (s :: r) row)) c=true:=by rw[O1 ht];exact hl
    rcases Ah.1 e3 with e4|e4
    ·rw[e4,h1]at z;cases z
    ·have H:FP (Iq l c):=by
      have h2:FP (pre l c++Iq l c):=by rw[NQ];exact hs
      exact(Bw.1 h2).2.1
     rw[h.cells,NA,hsu,Ak]at H;have:=List.rel_of_pairwise_cons H (List.mem_map_of_mem (f:=Io a) e4);have:=O2 this z;rw[h1]at this;cases this
def Skip.stop (h:Skip a nx L l){row:Nat}(hp:0 :: FO a L c=A++i :: R)(hr:row<hgt a i)(hn:GD (hgt a) (R++FK a L c) row=0\/∃t,a[GD (hgt a) (R++FK a L c) row]?=some t/\less t.c c=false):
  H3 (hgt a) (0 :: FO a L c) row=i:=by
 rw[hp];refine St hr λj J H=>?_;rcases R5 (hgt a) row R (FK a L c)with⟨R1,k,R2,e,hk,e2,_⟩|⟨hno,_⟩
 ·have z:=h.behind hp (j:=k) (by rw[e];simp);rw[e2]at hn;rcases hn with hn|⟨t,ht,hl⟩
  ·exact h.pos (Nr z) hn
  ·have:=Xyd z;rw[O1 ht,hl]at this;cases this
 ·exact hno j J H
def Wh {h:Nat->Nat} : ∀ {R:List Nat},(∀i∈R,1<=h i)->GD h R 0=R.headD 0
 | [],_=>rfl
 | j :: r,hh=>by simp [GD];intro h0;have:=hh j Ai;omega
def Xqp {h:Nat->Nat} : ∀ {A:List Nat} {x:Nat},(∀i∈A++[x],1<=h i)->H3 h (A++[x]) 0=x:=λ {A x} hh=>
 St (hh x F0) (λi hi=>by cases hi)
def Skip.last (h:Skip a nx L l)(c:Cell):∃A i,0 :: FO a L c=A++[i]/\H3 (hgt a) (0 :: FO a L c) 0=i/\i<a.length/\(nx i)[0]?=some ((FK a L c).headD 0):=by
 obtain⟨A,i,e⟩:∃A i,0 :: FO a L c=A++[i]:=⟨(0 :: FO a L c).dropLast,(0 :: FO a L c).getLast F0,(List.dropLast_concat_getLast F0).symm⟩;have H:∀j∈0 :: FO a L c,j<a.length:=λj z=>by
  rcases Ah.1 z with rfl|z
  ·exact h.mem0 Ai
  ·exact h.mem0 (Aj _ (Nr z))
 have hi:i<a.length:=H i (by rw[e];simp);refine⟨A,i,e,?_,hi,?_⟩
 ·rw[e];exact Xqp (λj z=>(h.hle j (H j (by rw[e];exact z))).1)
 ·have:=h.nextR (c:=c) (A:=A) (R:=[]) (i:=i) (row:=0) e (by have:=(h.hle i hi).1;omega);rw[this,AG,Wh (λj z=>(h.hle j (h.mem0 (Aj _ (Pq z)))).1)]
def Skip.next0 (h:Skip a nx L l){D:List Nat}(hp:FK a L c=D++i :: r):i∈L/\(nx i)[0]?=some (r.headD 0):=by
 have H:L=FO a L c++(D++i :: r):=by rw[<-hp,Ow]
 have z:i∈L:=by rw[H];simp
 have Y:∀j∈r,j∈L:=λj J=>by rw[H];simp [J]
 refine⟨z,?_⟩;have O:=h.link;have e:0 :: L=(0 :: FO a L c++D)++i :: r:=by
  have e2:0 :: (FO a L c++(D++i :: r))=(0 :: FO a L c++D)++i :: r:=by simp
  rwa [<-H]at e2
 rw[e]at O;rw[T8 O 0 (by have:=(h.hle i (h.mem i z).2).1;omega),Wh (λj J=>(h.hle j (h.mem j (Y j J)).2).1)]
def TF {key:Fj}{seq:Int} : ∀ {l:List Cell},FP l->first l key seq=((Iq l ⟨key,[],false,seq⟩).head?).filter λs=>decide (s.key=key)
 | [],_=>rfl
 | x :: l,hs=>by
  have J:FP l:=(AN.1 hs).2;have hx:∀y∈l,less x y=true:=(AN.1 hs).1;have ih:=TF (key:=key) (seq:=seq) J;unfold first Iq at *
  rw[CK,Dy]
  by_cases hl:less x ⟨key,[],false,seq⟩=true
  ·rw[if_pos hl];have hn:(decide (x.key=key) && decide (x.seq<=seq))=false:=by
    rw[JG]at hl;rcases hl with hl|⟨e,hl⟩
    ·have:=N4 hl;simp only []at this;simp [this]
    ·simp only []at e hl;simp [e];omega
   rw[hn];exact ih
  ·rw[if_neg hl];simp only [EB,EC];have z:¬ (F6 x.key key=true\/(x.key=key/\seq<x.seq)):=λh=>hl ((JG _ _).2 h)
   by_cases e:x.key=key
   ·have H:x.seq<=seq:=by
     by_cases H:x.seq<=seq
     ·exact H
     ·exact absurd (.inr ⟨e,by omega⟩) z
    simp [e,H]
   ·have hgt:F6 key x.key=true:=by
     rcases KC x.key key with h|h|h
     ·exact absurd h e
     ·exact absurd (.inl h) z
     ·exact h
    have Z:∀y∈l,(decide (y.key=key) && decide (y.seq<=seq))=false:=λy O=>by
     have h1:=(JG _ _).1 (hx y O);have h2:y.key≠key:=by
      rintro rfl;rcases h1 with h1|⟨h1,_⟩
      ·rw[KM h1]at hgt;cases hgt
      ·exact e h1
     simp [h2]
    have Y:l.find? (λc=>decide (c.key=key) && decide (c.seq<=seq))=none:=by
     rw[List.find?_eq_none];intro y O;rw[Z y O];decide
    simp [e,Y]
def Skip.first_none (h:Skip a nx L l)(hs:FP l){key:Fj}{seq:Int}(h0:(FK a L ⟨key,[],false,seq⟩).headD 0=0):first l key seq=none:=by
 rw[TF hs,h.cells,NA]
 cases hsu:FK a L ⟨key,[],false,seq⟩with
 | nil=>rfl
 | cons i r=>
  rw[hsu]at h0;exact absurd h0 (h.pos (Pq (c:=⟨key,[],false,seq⟩) (by rw[hsu];simp)))
def Skip.first_at (h:Skip a nx L l)(hs:FP l){key:Fj}{seq:Int}(h0:(FK a L ⟨key,[],false,seq⟩).headD 0≠0)(ht:a[(FK a L ⟨key,[],false,seq⟩).headD 0]?=some t):first l key seq=if t.c.key=key then some t.c else none:=by
 rw[TF hs,h.cells,NA]
 cases hsu:FK a L ⟨key,[],false,seq⟩with
 | nil=>rw[hsu]at h0;exact absurd rfl h0
 | cons i r=>
  rw[hsu]at ht;simp only [ED]at ht;simp only [Ak,EB,EC,O1 ht]
  by_cases e:t.c.key=key<;>simp [e]
def Skip.head_at (h:Skip a nx L l)(h0:(FK a L c).headD 0≠0):∃t,a[(FK a L c).headD 0]?=some t:=by
 cases hsu:FK a L c with
 | nil=>rw[hsu]at h0;exact absurd rfl h0
 | cons i r=>exact⟨_,Aq (h.mem i (Pq (c:=c) (by rw[hsu];simp))).2⟩
def UW {p q:Cell->Bool} : ∀ {l:List Cell},(∀x y,q x=false->less x y=true->q y=false)->FP l->(∀x∈l,p x=true)->l.filter (λx=>p x && q x)=l.takeWhile q
 | [],_,_,_=>rfl
 | x :: l,hq,hs,hp=>by
  have z:=AN.1 hs;rw[BJ,CO,hp x Ai,C1]
  cases hx:q x with
  | true=>simp [UW hq z.2 (λy H=>hp y (Aj _ H))]
  | false=>
   simp only [Cq,if_false];rw[List.filter_eq_nil_iff];intro y H;simp [hq x y hx (z.1 y H)]
def Xsz {frm to:Fj} : ∀ {l:List Cell},FP l->(∀x∈l,x.seq<=4611686018427387904)->scan l frm to=(Iq l ⟨frm,[],false,4611686018427387904⟩).takeWhile λx=>(decide (to=[]) || F6 x.key to)
 | [],_,_=>rfl
 | x :: l,hs,hb=>by
  have H:=AN.1 hs;have hbx:=hb x Ai;unfold scan Iq;rw[Dy]
  by_cases hl:less x ⟨frm,[],false,4611686018427387904⟩=true
  ·rw[if_pos hl];have Y:F6 x.key frm=true:=by
    rw[JG]at hl;rcases hl with hl|⟨_,hl⟩
    ·exact hl
    ·simp only []at hl;omega
   have ih:=Xsz (frm:=frm) (to:=to) H.2 (λy J=>hb y (Aj _ J));unfold scan Iq at ih;rw[BJ,if_neg (by simp [KJ,Y])];exact ih
  ·rw[if_neg hl];have z:F6 x.key frm=false:=by
    cases hh:F6 x.key frm with
    | false=>rfl
    | true=>exact absurd ((JG _ _).2 (.inl hh)) hl
   have O:∀y∈x :: l,(!F6 y.key frm)=true:=λy J=>by
    rcases Ah.1 J with rfl|J
    ·rw[z];rfl
    ·cases hh:F6 y.key frm with
     | false=>rfl
     | true=>
      rcases(JG _ _).1 (H.1 y J)with h1|⟨h1,_⟩
      ·rw[Kg _ _ _ h1 hh]at z;cases z
      ·rw[h1,hh]at z;cases z
   exact UW (p:=λy=>!F6 y.key frm) (λu v hu Z=>by
    simp only [Bool.or_eq_false_iff,decide_eq_false_iff_not]at hu ⊢;refine⟨hu.1,?_⟩
    cases hh:F6 v.key to with
    | false=>rfl
    | true=>
     rcases(JG _ _).1 Z with h1|⟨h1,_⟩
     ·rw[Kg _ _ _ h1 hh]at hu;cases hu.2
     ·rw[h1,hh]at hu;cases hu.2) hs O
def Yk {α:Type}{p:α->Bool} : ∀ {D r:List α},(∀x∈D,p x=true)->(∀x,r.head?=some x->p x=false)->(D++r).takeWhile p=D
 | [],[],_,_=>rfl
 | [],x :: r,_,h=>by simp [h x rfl]
 | d :: D,r,h1,h2=>by
  rw[AY,CO,if_pos (h1 d Ai),Yk (λx z=>h1 x (Aj _ z)) h2]
def Skip.scan_done (h:Skip a nx L l)(hs:FP l)(hb:∀x∈l,x.seq<=4611686018427387904){frm to:Fj}{D:List Nat}(e:FK a L ⟨frm,[],false,4611686018427387904⟩=D++r)(hD:∀i∈D,to=[]\/F6 (Io a i).key to=true)(hr:∀i,r.head?=some i->¬ (to=[]\/F6 (Io a i).key to=true)):scan l frm to=D.map (Io a):=by
 rw[Xsz hs hb,h.cells,NA,e,A3];refine Yk (λx z=>?_) (λx z=>?_)
 ·obtain⟨i,hi,rfl⟩:=Ao.1 z;simpa using hD i hi
 ·rw[List.head?_map]at z;obtain⟨i,hi,rfl⟩:=Option.map_eq_some_iff.1 z;have:=hr i hi;rw[not_or]at this;simp [this.1,this.2]
def Skip.last_in (h:Skip a nx L l)(c:Cell){row:Nat}(hr:row<12) :
  ∃A R,0 :: FO a L c=A++H3 (hgt a) (0 :: FO a L c) row :: R/\row<hgt a (H3 (hgt a) (0 :: FO a L c) row)/\(∀i∈R,¬ row<hgt a i):=by
 have key:∀T:List Nat,(∃i∈T,row<hgt a i)->∃A R,T=A++H3 (hgt a) T row :: R/\row<hgt a (H3 (hgt a) T row)/\(∀i∈R,¬ row<hgt a i):=by
  intro T
  induction T with
  | nil=>rintro ⟨i,hi,_⟩;cases hi
  | cons j r ih=>
   intro J
   by_cases hr2:∃i∈r,row<hgt a i
   ·obtain⟨A,R,e,h2,h3⟩:=ih hr2;have e2:H3 (hgt a) (j :: r) row=H3 (hgt a) r row:=by simp only [H3];rw[if_pos hr2]
    rw[e2];exact⟨j :: A,R,by rw[AY,<-e],h2,h3⟩
   ·have H:row<hgt a j:=by
     obtain⟨i,hi,z⟩:=J;rcases Ah.1 hi with rfl|hi
     ·exact z
     ·exact absurd ⟨i,hi,z⟩ hr2
    have e2:H3 (hgt a) (j :: r) row=j:=by simp only [H3];rw[if_neg hr2,if_pos H]
    rw[e2];exact⟨[],r,rfl,H,λi hi z=>hr2 ⟨i,hi,z⟩⟩
 exact key _ ⟨0,Ai,by rw[h.h0];exact hr⟩
def Skip.has_none (h:Skip a nx L l)(h0:(FK a L c).headD 0=0):has l c=false:=by
 unfold has;rw[h.cells,NA]
 cases hsu:FK a L c with
 | nil=>rfl
 | cons i r=>
  rw[hsu]at h0;exact absurd h0 (h.pos (Pq (c:=c) (by rw[hsu];simp)))
def Skip.has_at (h:Skip a nx L l)(h0:(FK a L c).headD 0≠0)(ht:a[(FK a L c).headD 0]?=some t):has l c=!less c t.c:=by
 unfold has;rw[h.cells,NA]
 cases hsu:FK a L c with
 | nil=>rw[hsu]at h0;exact absurd rfl h0
 | cons i r=>
  rw[hsu]at ht;simp only [ED]at ht;have hn:=WY hsu;rw[O1 ht]at hn;simp only [Ak,O1 ht]
  cases hl:less c t.c with
  | false=>
   have:=S7 hn hl;simp [this.1,this.2]
  | true=>
   simp only [Bool.not_true,CN,decide_eq_false_iff_not]
   by_cases e:t.c.key=c.key
   ·right;intro e2;rw[RJ e.symm e2.symm]at hl
    cases hl
   ·exact .inl e
def Xqq {α:Type}{x y:List α}{n:Nat}(hx:x.length=n)(hy:y.length=n)(h:∀i,i<n->x[i]?=y[i]?):x=y:=by
 apply BF
 intro i
 by_cases hi:i<n
 ·exact h i hi
 ·rw[Bi Fe,Bi Fe]
def Skip.put (h:Skip a nx L l){nx2:Nat->List Nat}(htc:t.c=c)(hh:1<=t.h/\t.h<=12)(hlen:∀i,i<a.length->(nx i).length=hgt a i/\(nx2 i).length=hgt a i)(hq:∀row,row<t.h->(nx2 a.length)[row]?=some (GD (hgt a) (FK a L c) row))(hlay:∀i row,i<a.length->row<hgt a i->(nx2 i)[row]?=if row<t.h/\H3 (hgt a) (0 :: FO a L c) row=i then some a.length else(nx i)[row]?):
  Skip (a++[t]) nx2 (FO a L c++a.length :: FK a L c) (pre l c++c :: Iq l c):=by
 have H:=Ow a L c;have hg:∀i,i<a.length->hgt (a++[t]) i=hgt a i:=λi hi=>by unfold hgt;rw[B5 hi]
 have hf:hgt (a++[t]) a.length=t.h:=by unfold hgt;simp
 have hc:∀i,i<a.length->Io (a++[t]) i=Io a i:=λi hi=>by unfold Io;rw[B5 hi]
 have h5:Io (a++[t]) a.length=c:=by unfold Io;simp [htc]
 have z:∀i,i∈FO a L c++FK a L c->1<=i/\i<a.length:=λi hi=>h.mem i (by rw[H]at hi;exact hi);have hl:0<a.length:=by have:=h.len;omega
 have hw:(0 :: (FO a L c++FK a L c)).Nodup:=Ba.2 ⟨λh0=>by have:=(z 0 h0).1;omega,by rw[H];exact h.nd⟩;have ht:(0 :: FO a L c).Nodup:=by
  have:(0 :: FO a L c++FK a L c).Nodup:=hw;exact(BK.1 this).1
 have hz:∀i∈0 :: FO a L c,∀j∈FK a L c,i≠j:=by
  have:(0 :: FO a L c++FK a L c).Nodup:=hw;exact(BK.1 this).2.2
 have ha:∀row,row<12->H3 (hgt a) (0 :: FO a L c) row∈0 :: FO a L c:=λrow Z=>by
  obtain⟨A,R,e,_⟩:=h.last_in c Z;rw[e];have e':H3 (hgt a) (A++H3 (hgt a) (0 :: FO a L c) row :: R) row=H3 (hgt a) (0 :: FO a L c) row:=by rw[<-e]
  rw[e'];simp
 have O:∀i∈0 :: FO a L c,i<a.length:=λi hi=>by
  rcases Ah.1 hi with rfl|hi
  ·exact hl
  ·exact(z i (Bl _ hi)).2
 refine⟨?_,?_,?_,?_,?_,?_,?_⟩
 ·have e:=congrArg A9 H;rw[Ad]at e;rw[Ad,Ad,Az,h.len];simp;omega
 ·intro i hi;rw[Ad];simp only [Al,Ah]at hi;rcases hi with hi|rfl|hi
  ·have:=z i (Bl _ hi);simp;omega
  ·simp;omega
  ·have:=z i (Bb _ hi);simp;omega
 ·have hj:(FO a L c++FK a L c).Nodup:=by rw[H];exact h.nd
  have hp:=BK.1 hj;refine BK.2 ⟨hp.1,Ba.2 ⟨λhm=>?_,hp.2.1⟩,λx Y y hy=>?_⟩
  ·have:=(z _ (Bb _ hm)).2;omega
  ·rcases Ah.1 hy with rfl|hy
   ·have:=(z x (Bl _ Y)).2;omega
   ·exact hp.2.2 x Y y hy
 ·have e1:pre l c=(FO a L c).map (Io a):=by rw[h.cells,X76]
  have e2:Iq l c=(FK a L c).map (Io a):=by rw[h.cells,NA]
  rw[e1,e2,A3,Ak,h5];have e3:∀T:List Nat,(∀i∈T,i<a.length)->T.map (Io (a++[t]))=T.map (Io a):=λT hT=>BN (λi hi=>hc i (hT i hi));rw[e3 _ (λi hi=>(z i (Bl _ hi)).2),e3 _ (λi hi=>(z i (Bb _ hi)).2)]
 ·rw[hg 0 hl];exact h.h0
 ·intro i hi;rw[Ad]at hi
  by_cases hia:i<a.length
  ·rw[hg i hia];exact h.hle i hia
  ·have:i=a.length:=by simp at hi;omega
   rw[this,hf];exact hh
 ·show HG (hgt (a++[t])) nx2 ((0 :: FO a L c)++a.length :: FK a L c);refine XG (h:=hgt a) (nx:=nx) (0 :: FO a L c) (FK a L c) (λi hi=>?_) (by rw[AY,H];exact h.link) (λi hi=>?_) (λrow Z=>?_) (λi hi row Z=>?_) ht
  ·have J:i<a.length:=by
    rcases Al.1 hi with hi|hi
    ·exact O i hi
    ·exact(z i (Bb _ hi)).2
   exact⟨hg i J,by omega⟩
  ·have J:=(z i (Bb _ hi)).2;refine Xqq (hlen i J).2 (hlen i J).1 (λrow Z=>?_);rw[hlay i row J Z,if_neg];rintro ⟨h1,h2⟩;exact hz _ (ha row Fe) i hi h2
  ·rw[hf]at Z;exact hq row Z
  ·rw[hlay i row (O i hi) Z,hf]
   by_cases Y:row<t.h/\H3 (hgt a) (0 :: FO a L c) row=i
   ·rw[if_pos Y,if_pos ⟨Y.2,Y.1⟩]
   ·rw[if_neg Y,if_neg (λy=>Y ⟨y.2,y.1⟩)]
def Xqr (l:List Cell)(c:Cell):HK (pre l c++c :: Iq l c)=HK l+GB c:=by
 have e:HK l=HK (pre l c++Iq l c):=by rw[NQ]
 rw[e];unfold HK;simp only [A3,Ak,Bt,A4];omega
def Xye (l:List Cell)(c:Cell):(pre l c++c :: Iq l c).length=l.length+1:=by
 have e:l.length=(pre l c++Iq l c).length:=by rw[NQ]
 rw[e];simp only [Ad,Az];omega
end
end Go.Sp
namespace Go.Proofs.YtiooodckiddpmaaGreatDoor
open Go.Vc Go.Sp
attribute [local irreducible] W XW Dw GC
structure MemAt (w:World)(bm:Nat)(va vd:Value)(a:List Tow)(nx:Nat->List Nat)(dr:List Nat)(n sz:Nat):Prop where
 hm:Fp w bm [va,vd,I n,I sz] 155
 hA:Vc.Own Tow.enc 5 172 0 w va a
 hd:Vc.Own JB 1 174 0 w vd dr
 hN:∀i t,a[i]?=some t->Fp w t.bk (G6 (nx i)) 3/\(nx i).length=t.h
 d2:∀(i j:Nat) s t,a[i]?=some s->a[j]?=some t->s.bk=t.bk->i=j
variable {a:List Tow}{dr:List Nat}{n:Nat}{nx:Nat->List Nat}{va vd:Value}{w:World}
def MemAt.arr {bm:Nat}{sz:Nat}(h:MemAt w bm va vd a nx dr n sz):Fu Tow.enc 5 w va a:=h.hA.arr (λx=>rfl)
def X2p {t:Tow}{q:List Nat}(h:Fp w t.bk (G6 q) 3/\q.length=t.h)(hh:t.h<=12):Fu N3 1 w t.sl q:=
 h.1.arr (Xvn q).symm (λx=>rfl) h.2.symm Fe
variable {l:List Cell}
def MemAt.next {bm:Nat}{sz i:Nat}{t:Tow}(h:MemAt w bm va vd a nx dr n sz){L:List Nat}{nx':Nat->List Nat}(hs:Skip a nx' L l)(ht:a[i]?=some t):Fu N3 1 w t.sl (nx i):=
 X2p (h.hN i t ht) (by have:=(hs.hle i (Ar.1 ht).1).2;rwa [XK ht]at this)
variable {w':World}
def MemAt.ext {bm:Nat}{sz:Nat}(h:MemAt w bm va vd a nx dr n sz)(x:Fq w w'):MemAt w' bm va vd a nx dr n sz:=
 ⟨h.hm.ext x,h.hA.ext x,h.hd.ext x,λi t z=>⟨(h.hN i t z).1.ext x,(h.hN i t z).2⟩,h.d2⟩
instance {w w':World} {bm:Nat} {va vd:Value} {a:List Tow} {nx:Nat->List Nat} {dr:List Nat} {n sz:Nat} : Up w w' (MemAt w bm va vd a nx dr n sz) (MemAt w' bm va vd a nx dr n sz):=⟨λx h=>h.ext x⟩
def X2q (a:List Tow)(L:List Nat)(c:Cell):(FK a L c).length<=L.length:=by
 have:=congrArg A9 (Ow a L c);rw[Ad]at this;omega
def T6 (l:List Cell):scan l [] []=l:=by
 unfold scan;rw[Bz];intro x _;have:F6 x.key []=false:=by cases x.key<;>rfl
 simp [KJ,this]
def YO (bm:Nat)(va vd:Value)(a:List Tow)(nx:Nat->List Nat)(dr:List Nat)(n sz:Nat)(L:List Nat)(l:List Cell)(c:Cell)(w:World)(h:MemAt w bm va vd a nx dr n sz)(hs:Skip a nx L l)(hsd:FP l)(hal:a.length<=1000000) :
  Gi 167 [Fh bm 0,c.v] w λv _=>∃q:List Nat,v=.agg ⟨G6 q⟩/\q.length=12/\∀row,row<12->q[row]?=some (H3 (hgt a) (0 :: FO a L c) row):=by
 refine cE Tryz.func167 λH=>?_;have hm:=h.hm;have hA:=h.arr;refine go ?_;refine G1 rfl rfl rfl RX.all (λb1 w1 e1 x1 J=>?_);have g1:=H.ge e1;have H:=H.trans x1;refine aL [.int .i64 0,.int .i64 0,.int .i64 0,.int .i64 0,.int .i64 0,.int .i64 0,.int .i64 0,.int .i64 0,.int .i64 0,.int .i64 0,.int .i64 0,.int .i64 0] λb2 w2 e2 x2 O=>?_;have g2:=H.ge e2;have n2_1:=J.ltb e2;refine Fy x2 J H λJ H=>go ?_;refine aL [.int .i64 0,.int .i64 0,.int .i64 0,.int .i64 0,.int .i64 0,.int .i64 0,.int .i64 0,.int .i64 0,.int .i64 0,.int .i64 0,.int .i64 0,.int .i64 0] λb3 w3 e3 x3 Y=>?_;have g3:=H.ge e3;have n3_1:=J.ltb e3;have n3_2:=O.ltb e3;refine FC x3 J O H λJ O H=>F8 (G:=Int×Nat×List Nat) (λ(z,p,q)=>[(0,Fh bm 0),(3,Fh b1 0),(4,Fh b2 0),(5,Fh b3 0),(6,I ↑p),(7,I z)]) (λ(z,p,q) w'=>Fq w w'/\Fp w' b1 c.cs 79/\Fp w' b2 (G6 (Ap 12 0)) 244/\Fp w' b3 (G6 q) 244/\-1<=z/\z<=11/\p∈0 :: FO a L c/\z<hgt a p/\q.length=12/\∀row:Nat,z<row->row<12->q[row]?=some (H3 (hgt a) (0 :: FO a L c) row)) (λ(z,p,q)=>(z+1).toNat) (11,0,Ap 12 0) ⟨H,J,O,Y,by omega,by omega,Ai,by rw[hs.h0];decide,rfl,λrow h1 h2=>absurd h1 Fe⟩ ?_;rintro _ ⟨z,p,q⟩ w4 ⟨H,J,O,Y,hz1,hz2,hpin,hph,hq,hq2⟩;refine go ?_;refine dp (HY rfl rfl) ?_;refine Fk (λc1=>?_) λc1=>?_
 ·obtain⟨r,rfl⟩:=Int.eq_ofNat_of_zero_le c1;obtain⟨ta,hka⟩:∃t,a[p]?=some t:=⟨_,Aq (by rcases Ah.1 hpin with rfl|hpin;exact hs.mem0 Ai;exact hs.mem0 (Aj _ (Nr hpin)))⟩;have hf:=h.next hs hka;obtain⟨A,R,hp⟩:∃A R,0 :: FO a L c=A++p :: R:=List.append_of_mem hpin;have hr:=hs.nextR hp (row:=r) Fe;refine go ?_;refine dl rfl ((hm.ext H).at rfl) (FN 172 5 hA.sl (hA.lt hka) ?_);refine df 4 (rfl) (dl rfl (((hA.ext H).row hka).at rfl) (FN 3 1 hf.sl (hf.lt hr) ?_));refine dl rfl (((hf.ext H).row hr).at0 rfl) (F8 (G:=Nat×Nat×List Nat) (λ(p2,x,R)=>[(0,Fh bm 0),(3,Fh b1 0),(4,Fh b2 0),(5,Fh b3 0),(6,I ↑p2),(7,I ↑r),(8,I ↑x)]) (λ(p2,x,R) w'=>Fq w w'/\Fp w' b1 c.cs 79/\Fp w' b2 (G6 (Ap 12 0)) 244/\Fp w' b3 (G6 q) 244/\(∃A,0 :: FO a L c=A++p2 :: R)/\r<hgt a p2/\x=GD (hgt a) (R++FK a L c) r) (λ(p2,x,R)=>R.length) (p,GD (hgt a) (R++FK a L c) r,R) ⟨H,J,O,Y,⟨A,hp⟩,by omega,rfl⟩ ?_);rintro _ ⟨p2,x,R⟩ w5 ⟨H,J,O,Y,⟨A,hp⟩,hph,hxe⟩;refine Gt 102110001000000 λw6 x6=>FQ x6 J O Y H λJ O Y H=>?_;refine FJ 26 (λc2=>?_) λc2=>?_
  ·obtain⟨tn,hkn⟩:∃t,a[x]?=some t:=by
    rcases hs.next_in hp (row:=r)with e|e
    ·exact absurd (congrArg (λz:Nat=>(z:Int)) (hxe.trans e)) c2
    ·exact⟨_,Aq (by rw[hxe];exact hs.mem0 (Aj _ e))⟩
   refine go ?_;refine dL rfl (λ_ hR=>((hm.ext (H.trans hR)).at rfl)) (FN 172 5 hA.sl (hA.lt hkn) ?_);refine go ?_;refine Gh rfl (λw' hR=>Fx Ff rfl rfl (((hA.ext (H.trans hR)).row hkn).sub 0 4)) (Gh rfl (λw' hR=>Fx (k:=4) Ff rfl rfl (J.ext hR).row) (cP (Oj tn.c c _) RX.ext λw7 x7=>FQ x7 J O Y H λJ O Y H=>?_));refine Gb (λc3=>?_) λc3=>?_
   ·obtain⟨A',R',ha,Z,hj⟩:=hs.step hsd hp (row:=r) (by rw[<-hxe];intro e;exact c2 (by rw[e];rfl)) (by rw[<-hxe];exact hkn) c3;rw[<-hxe]at ha Z;have hg:=h.next hs hkn;have hh:=hs.nextR ha Z;refine go ?_;refine dl rfl ((hm.ext H).at rfl) (FN 172 5 hA.sl (hA.lt hkn) ?_);refine df 4 (rfl) (dl rfl (((hA.ext H).row hkn).at rfl) (FN 3 1 hg.sl (hg.lt hh) ?_));refine dl rfl (((hg.ext H).row hh).at0 rfl) (go ?_);refine⟨(x,GD (hgt a) (R'++FK a L c) r,R'),Ho,⟨H,J,O,Y,⟨A',ha⟩,Z,rfl⟩,hj⟩
   refine go ?_;refine dp (Ln (m:=12) (e:=3) (k:=1) Ff rfl rfl Fe) (KW Y (λw8 x8 xs8 Y=>?_) (hv:=by rfl) (ho:=by simp;omega));rw[Ot]at Y;have J:=J.mo x8;have O:=O.mo x8;have H:=H.o1 x8;refine go ?_;have hc:=hs.stop hp hph (by exact .inr ⟨tn,by rw[<-hxe];exact hkn,c3⟩);refine FL ((r:Int)-1,p2,q.set r p2) ⟨H,J,O,Y,by omega,by omega,by rw[hp];simp,by omega,by simp [hq],λrow h1 h2=>?_⟩
   by_cases e:row=r
   ·subst e;rw[BI Fe,hc]
   ·rw[Cj Fe];exact hq2 row Fe h2
  refine go ?_;refine GS rfl (go ?_);refine dp (Ln (m:=12) (e:=3) (k:=1) Ff rfl rfl Fe) (KW Y (λw9 x9 xs9 Y=>?_) (hv:=by rfl) (ho:=by simp;omega));rw[Ot]at Y;have J:=J.mo x9;have O:=O.mo x9;have H:=H.o1 x9;refine go ?_;have hc:=hs.stop hp hph (by exact .inl (by rw[<-hxe];omega));refine FL ((r:Int)-1,p2,q.set r p2) ⟨H,J,O,Y,by omega,by omega,by rw[hp];simp,by omega,by simp [hq],λrow h1 h2=>?_⟩
  by_cases e:row=r
  ·subst e;rw[BI Fe,hc]
  ·rw[Cj Fe];exact hq2 row Fe h2
 refine go ?_;refine dq (Fx (k:=12) Ff rfl (by simp [hq]) Y.row) ?_;refine OJ (m:=12) (vs:=?u30) rfl rfl ?h30 Ff ?c30 ?d30 O ?n30 (.inl rfl) (λw10 hl xs10 O=>?k30)
 case h30=>conv=>lhs;whnf
 case c30=>simp [hq]
 case d30=>rfl
 case n30=>simp [Value.oneCell']
 have H:=H.o1 hl;refine go ?_;refine Ou (k:=12) rfl rfl rfl Ff (by simp [hq]) O.row ?_;exact⟨_,rfl,H,q,rfl,hq,λrow h2=>hq2 row Fe h2⟩
def U9 (bm:Nat)(va vd:Value)(a:List Tow)(nx:Nat->List Nat)(dr:List Nat)(n sz:Nat)(L:List Nat)(l:List Cell)(c:Cell)(w:World)(h:MemAt w bm va vd a nx dr n sz)(hs:Skip a nx L l)(hsd:FP l)(hal:a.length<=1000000) :
  FX 111 [Fh bm 0,c.v] w (I ↑((FK a L c).headD 0)):=by
 refine cE Tryz.func111 λz=>?_;have hm:=h.hm;have hA:=h.arr;refine go ?_;refine G1 rfl rfl rfl RX.all (λb1 w1 e1 x1 O=>?_);have g1:=z.ge e1;have z:=z.trans x1;refine Gt 101010002101000 λw2 x2=>Fy x2 O z λO z=>?_;refine go ?_;refine dL rfl (λ_ hR=>((hm.ext (z.trans hR)).at rfl)) (go ?_);refine Gh rfl (λw' hR=>Fx (k:=4) Ff rfl rfl (O.ext hR).row) (cG (YO bm va vd a nx dr n sz L l c _ (h.ext z) hs hsd hal) RX.ext λv3 w3 x3 hf=>?_);have hsz3:=z.size;have z:=z.trans x3;obtain⟨q,rfl,hq,ha⟩:=hf;obtain⟨A,i0,hp,Z,Y,J⟩:=hs.last c;obtain⟨t0,hk0⟩:∃t,a[i0]?=some t:=⟨_,Aq Y⟩;have H:=h.next hs hk0;have hc:(G6 q)[0]?=some (I ↑i0):=by rw[List.getElem?_map,ha 0 Fo,Z];rfl
 refine dp (TY (m:=12) (e:=3) Ff Ff rfl rfl Fo hc) (di 172 5 hA.sl rfl (hA.lt hk0) (df 4 (rfl) (dL rfl (λ_ hR=>(((hA.ext (z.trans hR)).row hk0).at rfl)) (di 3 1 H.sl rfl (H.lt J) (dL rfl (λ_ hR=>(((H.ext (z.trans hR)).row J).at0 rfl)) (go ?_))))));exact⟨rfl,z⟩
def Ydl (bm:Nat)(va vd:Value)(a:List Tow)(nx:Nat->List Nat)(dr:List Nat)(n sz:Nat)(L:List Nat)(l:List Cell)(key:Fj)(seq:Int)(w:World)(h:MemAt w bm va vd a nx dr n sz)(hs:Skip a nx L l)(hsd:FP l)(hal:a.length<=1000000) :
  FX 112 [Fh bm 0,S key,I seq] w (.tuple #[((first l key seq).getD Cell.zero).v,B (first l key seq).isSome]):=by
 refine cE Tryz.func112 λz=>?_;have hm:=h.hm;have hA:=h.arr;refine go ?_;refine aL [S [],S [],B false,.int .i64 0] λb1 w1 e1 x1 J=>?_;have g1:=z.ge e1;have z:=z.trans x1;refine go ?_;refine dp (GY Ff rfl rfl) ?_;refine Fk (λc1=>?_) λc1=>?_
 ·cases c1
 refine go ?_;refine db (zs:=[S [],S [],B false,.int .i64 0]) (pl:=[(0,1),(1,1),(2,1),(3,1)]) (pv:=[(0,_),(3,_)]) (cs:=[_,S [],B false,_]) ?_;refine cP (U9 bm va vd a nx dr n sz L l ⟨key,[],false,seq⟩ _ (h.ext z) hs hsd hal) RX.all λw2 x2=>Fy x2 J z λJ z=>?_;refine FJ 19 (λc2=>?_) λc2=>?_
 ·have O:=hs.first_none hsd (key:=key) (seq:=seq) Fe;refine go ?_;refine GU rfl (go ?_);refine db (zs:=[S [],S [],B false,.int .i64 0]) (pl:=[(0,1),(1,1),(2,1),(3,1)]) (pv:=[]) (cs:=[S [],S [],B false,.int .i64 0]) ?_;refine Gg J (λw3 x3 xs3 J=>?_);have z:=z.o1 x3;refine go ?_;rw[O];refine I5 (u:=?v14) rfl rfl rfl rfl Ff rfl J.row ?h14 ?k14
  case h14=>conv=>lhs;whnf
  exact⟨rfl,z⟩
 have Y:(FK a L ⟨key,[],false,seq⟩).headD 0≠0:=by omega
 obtain⟨ti,H⟩:=hs.head_at Y;have O:=hs.first_at hsd Y H;refine go ?_;refine dl rfl ((hm.ext z).at rfl) (FN 172 5 hA.sl (hA.lt H) ?_);refine go ?_;refine dl rfl (((hA.ext z).row H).at rfl) (go ?_);refine dp (Nk rfl rfl) ?_;refine Fk (λZ=>?_) λZ=>?_
 ·refine go ?_;refine db (zs:=[S [],S [],B false,.int .i64 0]) (pl:=[(0,1),(1,1),(2,1),(3,1)]) (pv:=[]) (cs:=[S [],S [],B false,.int .i64 0]) ?_;refine Gg J (λw4 x4 xs4 J=>?_);have z:=z.o1 x4;refine go ?_;rw[O];refine I5 (u:=?v22) rfl rfl rfl rfl Ff rfl J.row ?h22 ?k22
  case h22=>conv=>lhs;whnf
  rw[if_neg Z];exact⟨rfl,z⟩
 refine go ?_;refine dl rfl ((hm.ext z).at rfl) (FN 172 5 hA.sl (hA.lt H) ?_);refine go ?_;refine dq (Fx Ff rfl rfl (((hA.ext z).row H).sub 0 4)) (Gg J (λw5 x5 xs5 J=>?_));have z:=z.o1 x5;refine go ?_;rw[O];refine I5 (u:=?v27) rfl rfl rfl rfl Ff rfl J.row ?h27 ?k27
 case h27=>conv=>lhs;whnf
 rw[if_pos (AF Z)];exact⟨rfl,z⟩
def Ybf (bm:Nat)(va vd:Value)(a:List Tow)(nx:Nat->List Nat)(dr:List Nat)(n sz:Nat)(L:List Nat)(l:List Cell)(w:World)(h:MemAt w bm va vd a nx dr n sz)(hs:Skip a nx L l)(hsd:FP l)(hal:a.length<=1000000) :
  FX 43 [Fh bm 0] w (I ↑(a.length-1)):=by
 refine cE Tryz.func43 λH=>?_;have hm:=h.hm;have hA:=h.arr;refine go ?_;refine dp (GY Ff rfl rfl) ?_;refine Fk (λz=>?_) λz=>?_
 ·cases z
 refine FM 172 5 hA.sl ?_;refine go ?_;refine⟨?_,H⟩;have:=hs.len;rw[Int.ofNat_sub Fe];rfl
def Yt (bm:Nat)(va vd:Value)(a:List Tow)(nx:Nat->List Nat)(dr:List Nat)(n sz:Nat)(L:List Nat)(l:List Cell)(frm to:Fj)(w:World)(h:MemAt w bm va vd a nx dr n sz)(hs:Skip a nx L l)(hsd:FP l)(hal:a.length<=1000000)(hb:∀x∈l,x.seq<=4611686018427387904) :
  Gi 57 [Fh bm 0,S frm,S to] w λv' w'=>Vc.Own Cell.cs 4 79 w.heap.size w' v' (scan l frm to):=by
 refine cE Tryz.func57 λz=>?_;have hm:=h.hm;have hA:=h.arr;refine go ?_;refine dp (GY Ff rfl rfl) ?_;refine Fk (λc1=>?_) λc1=>?_
 ·cases c1
 refine go ?_;refine db (zs:=[S [],S [],B false,.int .i64 0]) (pl:=[(0,1),(1,1),(2,1),(3,1)]) (pv:=[(0,_),(3,_)]) (cs:=[_,S [],B false,_]) ?_;refine cP (U9 bm va vd a nx dr n sz L l ⟨frm,[],false,4611686018427387904⟩ _ (h.ext z) hs hsd hal) RX.all λw1 x1=>?_;have z:=z.trans x1;refine F8 (G:=List Nat×List Nat×Value) (λ(D,r,vm)=>[(0,Fh bm 0),(2,S to),(6,.slice none 0 0),(7,vm),(8,I ↑(r.headD 0))]) (λ(D,r,vm) w'=>Fq w w'/\FK a L ⟨frm,[],false,4611686018427387904⟩=D++r/\(∀i∈D,to=[]\/F6 (Io a i).key to=true)/\Vc.Own Cell.cs 4 79 w.heap.size w' vm (D.map (Io a))) (λ(D,r,vm)=>r.length) ([],FK a L ⟨frm,[],false,4611686018427387904⟩,.slice none 0 0) ⟨z,rfl,λi hi=>(by cases hi),Vc.Own.nil⟩ ?_;rintro _ ⟨D,r,vm⟩ w2 ⟨z,hp,hD,ho⟩;refine Fk (λc2=>?_) λc2=>?_
 ·obtain⟨i,r',rfl⟩:∃i r',r=i :: r':=by
   cases r with
   | nil=>exact absurd rfl c2
   | cons i r'=>exact⟨i,r',rfl⟩
  obtain⟨hh,hn⟩:=hs.next0 hp;obtain⟨ti,hki⟩:∃t,a[i]?=some t:=⟨_,Aq (hs.mem i hh).2⟩;have O:=h.next hs hki;have J:=O1 hki;have hDl:D.length<=L.length:=by
   have h1:=X2q a L ⟨frm,[],false,4611686018427387904⟩;rw[hp,Ad]at h1;omega
  have hal2:=hs.len;refine go ?_;refine dl rfl ((hm.ext z).at rfl) (FN 172 5 hA.sl (hA.lt hki) ?_);refine go ?_;refine dq (Fx Ff rfl rfl (((hA.ext z).row hki).sub 0 4)) (aL [S [],S [],B false,.int .i64 0] λb1 w3 e1 x3 Z=>?_);have g1:=z.ge e1;have ha:=ho.ltb e1;refine Fy x3 ho z λho z=>Gg Z (λw4 x4 xs4 Z=>?_);have ho:=ho.mod x4 Fw;have z:=z.o1 x4;refine go ?_;refine dp (Nk rfl rfl) ?_;refine FJ 38 (λc3=>?_) λc3=>?_
  ·refine go ?_;refine dp (O5 rfl rfl) ?_;refine Gb (λc4=>?_) λc4=>?_
   ·refine go ?_;have hg:=hs.scan_done hsd hb hp hD (λj H=>by
     first
     | (
      have hf:i=j:=by simpa using H
      subst hf;rw[J,not_or];exact⟨c3,by simpa using c4⟩)
     | (
      cases r with
      | nil=>cases H
      | cons j' r'=>exact absurd (hs.next0 hp).1 (λhm=>c2 (λe=>hs.pos hm (by have e2:((j':Nat):Int)=0:=e;omega)))))
    exact⟨_,rfl,z,by rw[hg];exact ho⟩
   refine go ?_;refine dq (Fx (k:=4) Ff rfl rfl Z.row) (lA 79 rfl λb2 w5 e2 x5 m2=>?_);have g2:=z.ge e2;have n2_1:=Z.ltb e2;have o2_ho:=ho.ltb e2;refine FC x5 ho Z z λho Z z=>G8 ti.c ho m2 λhc w6 Y x6=>?_;have Z:=Z.mod x6 (by intro h;have h1:=ha _ h;omega);have z:=z.own x6 F5;have ho:=Y;clear m2;refine go ?_;refine dl rfl ((hm.ext z).at rfl) (FN 172 5 hA.sl (hA.lt hki) ?_);refine df 4 (rfl) (dl rfl (((hA.ext z).row hki).at rfl) (di 3 1 O.sl rfl (O.lt hn) (dl rfl (((O.ext z).row hn).at0 rfl) (go ?_))));refine⟨(D++[i],r',hc),Hc,⟨z,by rw[hp];simp,λj H=>?_,by rw[A3];simpa [J]using ho⟩,by simp⟩;rcases Al.1 H with H|H
   ·exact hD j H
   ·rw[Af.1 H,J];exact .inr (by simpa using c4)
  refine go ?_;refine GS rfl (go ?_);refine dq (Fx (k:=4) Ff rfl rfl Z.row) (lA 79 rfl λb3 w7 e3 x7 m3=>?_);have g3:=z.ge e3;have o3_ho:=ho.ltb e3;refine Fy x7 ho z λho z=>G8 ti.c ho m3 λhc w8 Y x8=>?_;have z:=z.own x8 F5;have ho:=Y;clear m3;refine go ?_;refine dl rfl ((hm.ext z).at rfl) (FN 172 5 hA.sl (hA.lt hki) ?_);refine df 4 (rfl) (dl rfl (((hA.ext z).row hki).at rfl) (di 3 1 O.sl rfl (O.lt hn) (dl rfl (((O.ext z).row hn).at0 rfl) (go ?_))));refine⟨(D++[i],r',hc),Hc,⟨z,by rw[hp];simp,λj H=>?_,by rw[A3];simpa [J]using ho⟩,by simp⟩;rcases Al.1 H with H|H
  ·exact hD j H
  ·rw[Af.1 H,J];exact .inl (by simpa using c3)
 refine go ?_;have hg:=hs.scan_done hsd hb hp hD (λj H=>by
  first
  | (
   have hf:i=j:=by simpa using H
   subst hf;rw[J,not_or];exact⟨c3,by simpa using c4⟩)
  | (
   cases r with
   | nil=>cases H
   | cons j' r'=>exact absurd (hs.next0 hp).1 (λhm=>c2 (λe=>hs.pos hm (by have e2:((j':Nat):Int)=0:=e;omega)))))
 exact⟨_,rfl,z,by rw[hg];exact ho⟩
def Ydm (bm:Nat)(va vd:Value)(a:List Tow)(nx:Nat->List Nat)(dr:List Nat)(n sz:Nat)(L:List Nat)(l:List Cell)(w:World)(h:MemAt w bm va vd a nx dr n sz)(hs:Skip a nx L l)(hsd:FP l)(hal:a.length<=1000000)(hb:∀x∈l,x.seq<=4611686018427387904) :
  Gi 46 [Fh bm 0] w λv' w'=>Vc.Own Cell.cs 4 79 w.heap.size w' v' l:=by
 refine cE Tryz.func46 λz=>Gj (Yt bm va vd a nx dr n sz L l [] [] _ (h.ext z) hs hsd hal hb) λv1 w1 J H=>?_;have hsz1:=z.size;have z:=z.trans J;have ho:=H;refine go ?_;exact⟨_,rfl,z,by rwa [T6]at ho⟩
def foot (bm:Nat)(va vd:Value)(a:List Tow)(k:Nat):Prop:=k=bm\/va.ownBlock=some k\/vd.ownBlock=some k\/∃t∈a,t.bk=k
section
variable {w w':World}{bm:Nat}{va vd:Value}{a:List Tow}{nx:Nat->List Nat}{dr:List Nat}{n sz:Nat}{S:Nat->Prop}{L:List Nat}{l:List Cell}
def MemAt.mod (h:MemAt w bm va vd a nx dr n sz)(x:Mod S w w')(hS:∀k,foot bm va vd a k->¬ S k):MemAt w' bm va vd a nx dr n sz:=
 ⟨h.hm.mod x (hS _ (.inl rfl)),h.hA.mod x (λk hk=>hS k (.inr (.inl hk))),h.hd.mod x (λk hk=>hS k (.inr (.inr (.inl hk)))),
  λi t z=>⟨(h.hN i t z).1.mod x (hS _ (.inr (.inr (.inr ⟨t,Ag z,rfl⟩)))),(h.hN i t z).2⟩,h.d2⟩
def MemAt.lt (h:MemAt w bm va vd a nx dr n sz){k:Nat}(hk:foot bm va vd a k):k<w.heap.size:=by
 rcases hk with rfl|hk|hk|⟨t,ht,rfl⟩
 ·exact h.hm.lt
 ·exact(h.hA.lt k hk).2
 ·exact(h.hd.lt k hk).2
 ·obtain⟨i,hi⟩:=Ci.1 ht;exact(h.hN i t hi).1.lt
def MemAt.setn (h:MemAt w bm va vd a nx dr n sz){n' sz':Nat}(x:Mod (Fv bm) w w')(hm:Fp w' bm [va,vd,I ↑n',I ↑sz'] 155):MemAt w' bm va vd a nx dr n' sz':=
 ⟨hm,h.hA.mod x (λk hk e=>h.hA.ne_blk h.hm rfl (by rw[hk];exact congrArg some e)),h.hd.mod x (λk hk e=>h.hd.ne_blk h.hm rfl (by rw[hk];exact congrArg some e)),
  λi t z=>⟨(h.hN i t z).1.mod x (λe=>(h.hN i t z).1.ne h.hm rfl e),(h.hN i t z).2⟩,h.d2⟩
def ID (nx:Nat->List Nat)(p:Nat)(q:List Nat):Nat->List Nat:=λi=>if i=p then q else nx i
def MemAt.setN (h:MemAt w bm va vd a nx dr n sz){p:Nat}{t:Tow}{q:List Nat}(ht:a[p]?=some t)(x:Mod (Fv t.bk) w w')(hq:Fp w' t.bk (G6 q) 3)(hl:q.length=t.h):MemAt w' bm va vd a (ID nx p q) dr n sz:=by
 refine⟨h.hm.mod x (λe=>h.hm.ne (h.hN p t ht).1 rfl e),h.hA.mod x (λk hk e=>h.hA.ne_blk (h.hN p t ht).1 rfl (by rw[hk];exact congrArg some e)),h.hd.mod x (λk hk e=>h.hd.ne_blk (h.hN p t ht).1 rfl (by rw[hk];exact congrArg some e)),
  λi s hs=>?_,h.d2⟩
 unfold ID
 by_cases e:i=p
 ·subst e;rw[ht]at hs
  cases hs
  rw[if_pos rfl];exact⟨hq,hl⟩
 ·rw[if_neg e];exact⟨(h.hN i s hs).1.mod x (λe2=>e (h.d2 i p s t hs ht e2)),(h.hN i s hs).2⟩
def MemAt.grow (h:MemAt w bm va vd a nx dr n sz){w1 w2:World}{va':Value}{t:Tow}{q:List Nat}{sz':Nat}(x:Mod (λk=>va.ownBlock=some k) w w1)(hA:Vc.Own Tow.enc 5 172 0 w1 va' (a++[t]))(y:Mod (Fv bm) w1 w2)
  (hm:Fp w2 bm [va',vd,I ↑n,I ↑sz'] 155) (hq:Fp w t.bk (G6 q) 3) (hl:q.length=t.h) (hn:∀s∈a,s.bk≠t.bk):MemAt w2 bm va' vd (a++[t]) (ID nx a.length q) dr n sz':=by
 have H:Fp w1 bm [va,vd,I ↑n,I ↑sz] 155:=h.hm.mod x (λe=>h.hA.ne_blk h.hm rfl e);have J:∀ {b:Nat} {cs:List Value},Fp w b cs 3->Fp w2 b cs 3:=λ {b cs} hb=>(hb.mod x (λe=>h.hA.ne_blk hb rfl e)).mod y (λe=>hb.ne h.hm rfl e);refine⟨hm,hA.mod y (λk hk e=>hA.ne_blk H rfl (by rw[hk];exact congrArg some e)),(h.hd.mod x (λk hk e=>h.hd.ne h.hA rfl hk e)).mod y (λk hk e=>h.hd.ne_blk h.hm rfl (by rw[hk];exact congrArg some e)),λi s hs=>?_,λi j s u hs hu e=>?_⟩
 ·by_cases hi:i<a.length
  ·rw[B5 hi]at hs;unfold ID;rw[if_neg Fe];exact⟨J (h.hN i s hs).1,(h.hN i s hs).2⟩
  ·have z:=(Ar.1 hs).1;rw[Ad]at z;have e:i=a.length:=by simp at z;omega
   subst e;rw[BM (Aa _)]at hs;simp at hs;subst hs;unfold ID;rw[if_pos rfl];exact⟨J hq,hl⟩
 ·have at':∀(i:Nat) (s:Tow),(a++[t])[i]?=some s->(i<a.length/\a[i]?=some s)\/(i=a.length/\s=t):=λi s hs=>by
   by_cases hi:i<a.length
   ·rw[B5 hi]at hs;exact .inl ⟨hi,hs⟩
   ·have z:=(Ar.1 hs).1;rw[Ad]at z;have e:i=a.length:=by simp at z;omega
    subst e;rw[BM (Aa _)]at hs;simp at hs;exact .inr ⟨rfl,hs.symm⟩
  rcases at' i s hs with⟨_,h1⟩|⟨h1,rfl⟩<;>rcases at' j u hu with⟨_,h2⟩|⟨h2,rfl⟩
  ·exact h.d2 i j s u h1 h2 e
  ·exact absurd e (hn s (Ag h1))
  ·exact absurd e.symm (hn u (Ag h2))
  ·omega
end
def Gd (F:Nat->Prop)(w:World)(bm:Nat)(l:List Cell):Prop:=∃(va vd:Value) (a:List Tow) (nx:Nat->List Nat) (dr:List Nat) (L:List Nat),
 MemAt w bm va vd a nx dr l.length (HK l)/\Skip a nx L l/\FP l/\(∀k,foot bm va vd a k->F k)/\(∀k,F k->k<w.heap.size)
variable {F:Nat->Prop}
def Gd.mod {S:Nat->Prop}{bm:Nat}(h:Gd F w bm l)(x:Mod S w w')(hS:∀k,F k->¬ S k):Gd F w' bm l:=by
 obtain⟨va,vd,a,nx,dr,L,h1,h2,h3,h4,z⟩:=h;exact⟨va,vd,a,nx,dr,L,h1.mod x (λk hk=>hS k (h4 k hk)),h2,h3,h4,λk hk=>Ay (z k hk) x.size⟩
def Gd.ext {bm:Nat}(h:Gd F w bm l)(x:Fq w w'):Gd F w' bm l:=h.mod x (λ_ _ h=>h)
instance {F : Nat->Prop} {w w':World} {bm:Nat} {l:List Cell} : Up w w' (Gd F w bm l) (Gd F w' bm l):=⟨λx h=>h.ext x⟩
def Gd.more {bm:Nat}(h:Gd F w bm l)(x:Fq w w'):Gd (P1 F w w') w' bm l:=by
 obtain⟨va,vd,a,nx,dr,L,h1,h2,h3,h4,z⟩:=h.ext x;exact⟨va,vd,a,nx,dr,L,h1,h2,h3,λk hk=>.inl (h4 k hk),λk hk=>hk.elim (z k) (λh=>h.2)⟩
def X2r {nxk:Nat->List Nat}{q:List Nat}{k p x:Nat}(hlay:∀i row,i<a.length->row<hgt a i->(nxk i)[row]?=if row<k/\q[row]?=some i then some x else(nx i)[row]?)(hq:q[k]?=some p)(hl:k<(nxk p).length):
  ∀i row,i<a.length->row<hgt a i->(ID nxk p ((nxk p).set k x) i)[row]?=if row<k+1/\q[row]?=some i then some x else(nx i)[row]?:=by
 intro i row hi z;unfold ID
 by_cases e:i=p
 ·subst e;rw[if_pos rfl]
  by_cases e2:row=k
  ·subst e2;rw[BI hl,if_pos ⟨by omega,hq⟩]
  ·rw[Cj Fe,hlay i row hi z]
   by_cases e3:row<k/\q[row]?=some i
   ·rw[if_pos e3,if_pos ⟨by omega,e3.2⟩]
   ·rw[if_neg e3,if_neg (λh=>e3 ⟨by omega,h.2⟩)]
 ·rw[if_neg e,hlay i row hi z]
  by_cases e3:row<k/\q[row]?=some i
  ·rw[if_pos e3,if_pos ⟨by omega,e3.2⟩]
  ·rw[if_neg e3,if_neg (λh=>e3 ⟨by
    have:row≠k:=λH=>by rw[H,hq]at h;exact e (Am.inj h.2).symm
    omega,h.2⟩)]
structure TowS (t:Tow):Prop where
 sl:Gq t.sl t.h
def P2 (t:Tow):TowS t:=⟨.inr (.inl ⟨t.bk,0,t.h,rfl,Aa _⟩)⟩
def X77 {h:Nat->Nat}{S tn:List Nat}{k:Nat}(ht:∀row,row<k->tn[row]?=some (GD h S row))(hl:k<tn.length):∀row,row<k+1->(tn.set k (GD h S k))[row]?=some (GD h S row):=λrow hr=>by
 by_cases e:row=k
 ·subst e;rw[BI hl]
 ·rw[Cj Fe];exact ht row Fe
def Xs1 (bm:Nat)(va vd:Value)(dr:List Nat)(n sz:Nat)(w:World)(hm:Fp w bm [va,vd,I n,I sz] 155)(hd:Vc.Own JB 1 174 0 w vd dr)(hn:n<=1000000) :
  G4 168 [Fh bm 0] w (Fv bm) λv w'=>∃hh:Nat,v=I ↑hh/\1<=hh/\hh<=12/\Fp w' bm [va,vd,I ↑(n+1),I sz] 155:=by
 refine cE Tryz.func168 λz=>?_;have H:Fu JB 1 w vd dr:=hd.arr (λx=>rfl);have hne:dr≠[]->¬ Fv bm (base vd).1:=λhl e=>hd.ne_blk hm rfl (by rw[<-e];exact hd.base_block hl);refine go ?_;refine dp (Kf (k:=.u32) rfl Ff Ff) (dp (Xp rfl rfl) (g0 ?_));refine GP (G:=Int) (λd=>[(0,Fh bm 0),(2,I 0),(3,.int .u32 d)]) (λd w'=>Fq w w'/\True) ?_ ?_
 ·refine FM 174 1 H.sl ?_;refine Fk (λY=>?_) λY=>?_
  ·have J:0<dr.length:=by omega
   obtain⟨u,hkd⟩:∃u,dr[n % dr.length]?=some u:=⟨_,Aq (Bf _ J)⟩;refine wd 10010001000100010000 λw1 Z=>?_;have z:=z.trans Z;refine go ?_;refine dL rfl (λ_ hR=>((hm.ext (z.trans hR)).at rfl)) (go ?_);refine dL rfl (λ_ hR=>((hm.ext (z.trans hR)).at rfl)) (go ?_);refine dL rfl (λ_ hR=>((hm.ext (z.trans hR)).at rfl)) (dv 174 1 H.sl (dp (NJ rfl rfl Fe Fe) (dp (Ir (i:=n % dr.length) (e:=174) (k:=1) Ff H.sl rfl rfl (H.lt hkd)) (dL rfl (λ_ hR=>(((H.ext (z.trans hR)).row hkd).at0 rfl)) (dp (Mj Fo rfl rfl) (go ?_))))));exact⟨_,Kq,z,trivial⟩
  refine go ?_;exact⟨_,Kq,z,trivial⟩
 rintro _ d w2 ⟨z,_⟩;refine go ?_;refine dl rfl ((hm.ext z).at rfl) (go ?_);refine KW (hm.ext z) (λw3 O xs3 hm=>?_) (hv:=by rfl);dsimp only [Gw,AU,AP,List.drop]at hm;have z:=(z.mod O).mono (λi hi _=>(hi:(Fv bm) i));refine F8 (G:=Int×Nat) (λ(d,hh)=>[(2,I 0),(3,.int .u32 d),(4,I ↑hh)]) (λ(d,hh) w'=>Mod (Fv bm) w w'/\Fp w' bm [va,vd,I ↑(n+1),I ↑sz] 155/\1<=hh/\hh<=12) (λ(d,hh)=>12-hh) (d,1) ⟨z,hm,by omega,by omega⟩ ?_;rintro _ ⟨d,hh⟩ w4 ⟨z,hm,hh1,hh2⟩;refine FJ 44 (λc2=>?_) λc2=>?_
 ·refine go ?_;refine dp (Mj Fo rfl rfl) ?_;refine Fk (λc3=>?_) λc3=>?_
  ·refine go ?_;refine dp (NV rfl rfl Fo) (go ?_);exact⟨(_,hh+1),Kq,⟨z,hm,by omega,by omega⟩,by simp only [];omega⟩
  refine go ?_;exact⟨_,rfl,z,hh,rfl,hh1,hh2,hm⟩
 refine go ?_;refine GS rfl (go ?_);exact⟨_,rfl,z,hh,rfl,hh1,hh2,hm⟩
def Ybg (bm:Nat)(va vd:Value)(a:List Tow)(nx:Nat->List Nat)(dr:List Nat)(n sz:Nat)(L:List Nat)(l:List Cell)(F:Nat->Prop)(c:Cell)(w:World)(h:MemAt w bm va vd a nx dr n sz)(hs:Skip a nx L l)(hsd:FP l)(hal:a.length<=1000000)(hszl:sz=HK l)(hnl:n=l.length)(hF:∀k,foot bm va vd a k->F k)(hFl:∀k,F k->k<w.heap.size)(hszb:sz<=1000000000000) :
  Calls Tryz.prog 89 [Fh bm 0,c.v].toArray w (λe w'=>e=.returned (B (put l c).1)/\Mod F w w'/\Gd (P1 F w w') w' bm (put l c).2):=by
 refine cE Tryz.func89 λH=>?_;have z:=h;have hc:∀k,foot bm va vd a k->k<w.heap.size:=λk hk=>hFl k (hF k hk);have hbm:bm<w.heap.size:=hc bm (.inl rfl);have xn:Gd F w bm l:=⟨va,vd,a,nx,dr,L,by rw[<-hnl,<-hszl];exact h,hs,hsd,hF,hFl⟩;have hal2:=hs.len;have hlL:l.length=L.length:=(congrArg A9 hs.cells).trans (Au ..);refine go ?_;refine G1 rfl rfl rfl RX.all (λb1 w1 e1 x1 J=>?_);have g1:=H.ge e1;refine Fy x1 z H λz H=>go ?_;refine dp (GY Ff rfl rfl) ?_;refine FJ 12 (λc1=>?_) λc1=>?_
 ·cases c1
 refine dq (Fx (k:=4) Ff rfl rfl J.row) (cP (Sw c _) RX.all λw2 x2=>FC x2 z J H λz J H=>?_);refine Gb (λc2=>?_) λc2=>?_
 ·refine go ?_;refine go ?_;have hp:put l c=(false,l):=by simp at c2;simp [put,c2]
  rw[hp];exact⟨rfl,H.mono (λ_ h _=>h.elim),xn.more H⟩
 have hw:Gl c=true:=by simpa using c2
 refine go ?_;refine dq (Fx (k:=4) Ff rfl rfl J.row) (cG (YO bm va vd a nx dr n sz L l c _ z hs hsd hal) RX.all λv3 w3 x3 yh=>?_);have hsz3:=H.size;refine FC x3 z J H λz J H=>?_;obtain⟨q,rfl,hq,xt⟩:=yh;obtain⟨A,i0,hp,yn,yq,x9⟩:=hs.last c;obtain⟨t0,hk0⟩:∃t,a[i0]?=some t:=⟨_,Aq yq⟩;have yw:q[0]?=some i0:=by rw[xt 0 Fo,yn]
 refine aL [.int .i64 0,.int .i64 0,.int .i64 0,.int .i64 0,.int .i64 0,.int .i64 0,.int .i64 0,.int .i64 0,.int .i64 0,.int .i64 0,.int .i64 0,.int .i64 0] λb2 w4 e2 x4 O=>?_;have g2:=H.ge e2;have n2_1:=J.ltb e2;refine FC x4 z J H λz J H=>?_;refine OJ (m:=12) (vs:=?u9) rfl rfl ?h9 Ff ?c9 ?d9 O ?n9 (.inl rfl) (λw5 x5 xs5 O=>?k9)
 case h9=>conv=>lhs;whnf
 case c9=>simp [hq]
 case d9=>rfl
 case n9=>simp [Value.oneCell']
 have z:=z.mod x5 (λk hk e=>by have h1:=hc k hk;have h2:k=b2:=e;omega);have J:=J.mo x5;have H:=H.o1 x5;refine g0 ?_;refine GP (G:=Unit) (λu=>[(0,Fh bm 0),(3,Fh b1 0),(5,Fh b2 0)]) (λu w'=>Fq w w'/\MemAt w' bm va vd a nx dr n sz/\Fp w' b1 c.cs 79/\Fp w' b2 (G6 q) 244/\has l c=false) ?_ ?_
 ·refine Gt 1010100101000 λw6 x6=>FQ x6 z J O H λz J O H=>?_;refine go ?_;refine dL rfl (λ_ hR=>((z.hm.ext hR).at rfl)) (dp (Ln (m:=12) (e:=3) (k:=1) Ff rfl rfl Fo) (dL rfl (λ_ hR=>((O.ext hR).at (MZ yw))) (di 172 5 z.arr.sl rfl (z.arr.lt hk0) (df 4 (rfl) (dL rfl (λ_ hR=>(((z.arr.ext hR).row hk0).at rfl)) (di 3 1 (z.next hs hk0).sl rfl ((z.next hs hk0).lt x9) (dL rfl (λ_ hR=>((((z.next hs hk0).ext hR).row x9).at0 rfl)) (Gt 1002100010001000 λw7 x7=>FQ x7 z J O H λz J O H=>?_))))))));refine FJ 33 (λc3=>?_) λc3=>?_
  ·have xo:(FK a L c).headD 0≠0:=by omega
   obtain⟨ti,xw⟩:=hs.head_at xo;have Z:=hs.has_at xo xw;refine Gh rfl (λw' hR=>Fx (k:=4) Ff rfl rfl (J.ext hR).row) (go ?_);refine dL rfl (λ_ hR=>((z.hm.ext hR).at rfl)) (FN 172 5 z.arr.sl (z.arr.lt xw) ?_);refine go ?_;refine Gh rfl (λw' hR=>Fx Ff rfl rfl (((z.arr.ext hR).row xw).sub 0 4)) (cP (Oj c ti.c _) RX.ext λw8 x8=>FQ x8 z J O H λz J O H=>?_);refine Gb (λc4=>?_) λc4=>?_
   ·refine go ?_;refine go ?_;have hp:put l c=(false,l):=by rw[c4]at Z;simp [put,Z]
    rw[hp];exact⟨rfl,H.mono (λ_ h _=>h.elim),xn.more H⟩
   refine go ?_;exact⟨(),Kq,H,z,J,O,by rw[Z];simpa using c4⟩
  have Z:=hs.has_none (c:=c) Fe;refine go ?_;refine GS rfl (go ?_);exact⟨(),Kq,H,z,J,O,by exact Z⟩
 rintro _ u w9 ⟨H,z,J,O,hhas⟩;refine GP (G:=Nat×Nat×Nat) (λ(bn,bt,Y)=>[(0,Fh bm 0),(3,Fh b1 0),(5,Fh b2 0),(7,Fh bt 0)]) (λ(bn,bt,Y) w'=>Mod F w w'/\Fp w' b1 c.cs 79/\Fp w' b2 (G6 q) 244/\Fp w' bt (Tow.enc ⟨c,bn,Y⟩) 172/\Fp w' bn (G6 (Ap Y 0)) 3/\MemAt w' bm va vd a nx dr (n+1) sz/\1<=Y/\Y<=12/\w.heap.size<=bn/\w.heap.size<=bt) ?_ ?_
 ·refine KK (R:=Mod (Fv bm)) Ij I0 Ff [0] (.one 0 .l false (.one 1 .p false (.fork (.alt 2 false (.fork (.alt 3 false (.one 4 .p false (.one 5 .x false (.one 6 .x true .nil))) (.alt 5 false (.one 3 .x false (.one 4 .p false (.one 6 .x true .nil))) .stop))) (.alt 5 false (.one 2 .x false (.one 3 .x false (.one 4 .p false (.one 6 .x true .nil)))) .stop))))) Ff Ff (λw10 xh=>?_);have y3:=FE xh;clear xh;refine FQ y3 z J O H λz J O H=>go ?_;refine Gh rfl (λw' hR=>Fx (k:=4) Ff rfl rfl (J.mod hR (λe=>J.ne z.hm rfl e)).row) (go ?_);refine Ji ?_;refine Hk ?_ ?_
  ·refine Jz rfl Ff (Xs1 bm va vd dr n sz _ z.hm z.hd Fe) rfl (.inr λ_ h=>h) (λv11 w11 xe yc=>?_);have hsz11:=H.size;have J:=J.mod xe Fw;have O:=O.mod xe Fw;have H:=(H.mod xe).mono (λi hi hf=>((by rw[show i=bm from hi];exact hF bm (.inl rfl)):F i));obtain⟨Y,rfl,hz,ha,hg⟩:=yc;have z:=z.setn xe hg;refine go ?_;refine Ji ?_;refine Hk ?_ ?_
   ·refine Mu (e:=3) (sz:=1) (by':=8) (zs:=[.int .i64 0]) rfl Ff Ff Ff rfl rfl Fe Fe RX.mod (λb3 w12 e3 yu m3=>?_);have g3:=H.ge e3;have n3_1:=J.ltb e3;have n3_2:=O.ltb e3;refine FQ yu J O z H λJ O z H=>go ?_;refine db (zs:=[S [],S [],B false,.int .i64 0,.slice none 0 0]) (pl:=[(0,4),(4,1)]) (pv:=[(0,.agg ⟨[_,_,_,_]⟩),(1,_)]) (cs:=[_,_,_,_,_]) ?_;refine go ?_;refine aL [S [],S [],B false,.int .i64 0,.slice none 0 0] (λb4 w13 e4 yo m4=>?_) (hR:=RX.mod);have g4:=H.ge e4;have n4_1:=J.ltb e4;have n4_2:=O.ltb e4;have n4_3:=m3.ltb e4;refine Ga yo J O z m3 H λJ O z m3 H=>go ?_;refine Gg m4 (λw14 h8 xs14 m4=>?_);have J:=J.mo h8;have O:=O.mo h8;have z:=z.mod h8 (λk hk e=>by have h1:=hc k hk;have h2:k=b4:=e;omega);have m3:=m3.mo h8;have H:=H.o1 h8;refine go ?_;refine⟨(b3,b4,Y),Hn,H,J,O,m4,?_,z,hz,ha,g3,g4⟩;have hl:=m3;rw[Qq]at hl;exact hl
   refine Hk ?_ ?_
   ·refine aL [S [],S [],B false,.int .i64 0,.slice none 0 0] (λb5 w15 e5 yg m5=>?_) (hR:=RX.mod);have g5:=H.ge e5;have n5_1:=J.ltb e5;have n5_2:=O.ltb e5;refine FQ yg J O z H λJ O z H=>go ?_;refine Mu (e:=3) (sz:=1) (by':=8) (zs:=[.int .i64 0]) rfl Ff Ff Ff rfl rfl Fe Fe RX.mod (λb6 w16 e6 y1 m6=>?_);have g6:=H.ge e6;have n6_1:=J.ltb e6;have n6_2:=O.ltb e6;have n6_5:=m5.ltb e6;refine Ga y1 J O z m5 H λJ O z m5 H=>go ?_;refine db (zs:=[S [],S [],B false,.int .i64 0,.slice none 0 0]) (pl:=[(0,4),(4,1)]) (pv:=[(0,.agg ⟨[_,_,_,_]⟩),(1,_)]) (cs:=[_,_,_,_,_]) ?_;refine go ?_;refine Gg m5 (λw17 xd xs17 m5=>?_);have J:=J.mo xd;have O:=O.mo xd;have z:=z.mod xd (λk hk e=>by have h1:=hc k hk;have h2:k=b5:=e;omega);have m6:=m6.mo xd;have H:=H.o1 xd;refine go ?_;refine⟨(b6,b5,Y),Hn,H,J,O,m5,?_,z,hz,ha,g6,g5⟩;have hl:=m6;rw[Qq]at hl;exact hl
   exact Jh
  refine Hk ?_ ?_
  ·refine aL [S [],S [],B false,.int .i64 0,.slice none 0 0] (λb7 w18 e7 y2 m7=>?_) (hR:=RX.mod);have g7:=H.ge e7;have n7_1:=J.ltb e7;have n7_2:=O.ltb e7;refine FQ y2 z J O H λz J O H=>go ?_;refine Jz rfl Ff (Xs1 bm va vd dr n sz _ z.hm z.hd Fe) rfl (.inr λ_ h=>h) (λv19 w19 xa xy=>?_);have hsz19:=H.size;have J:=J.mod xa Fw;have O:=O.mod xa Fw;have m7:=m7.mod xa Fw;have H:=(H.mod xa).mono (λi hi hf=>((by rw[show i=bm from hi];exact hF bm (.inl rfl)):F i));obtain⟨Y,rfl,hz,ha,hg⟩:=xy;have z:=z.setn xa hg;refine go ?_;refine Mu (e:=3) (sz:=1) (by':=8) (zs:=[.int .i64 0]) rfl Ff Ff Ff rfl rfl Fe Fe RX.mod (λb8 w20 e8 yy m8=>?_);have g8:=H.ge e8;have n8_1:=J.ltb e8;have n8_2:=O.ltb e8;have n8_7:=m7.ltb e8;refine Ga yy J O m7 z H λJ O m7 z H=>go ?_;refine db (zs:=[S [],S [],B false,.int .i64 0,.slice none 0 0]) (pl:=[(0,4),(4,1)]) (pv:=[(0,.agg ⟨[_,_,_,_]⟩),(1,_)]) (cs:=[_,_,_,_,_]) ?_;refine go ?_;refine Gg m7 (λw21 xb xs21 m7=>?_);have J:=J.mo xb;have O:=O.mo xb;have z:=z.mod xb (λk hk e=>by have h1:=hc k hk;have h2:k=b7:=e;omega);have m8:=m8.mo xb;have H:=H.o1 xb;refine go ?_;refine⟨(b8,b7,Y),Hn,H,J,O,m7,?_,z,hz,ha,g8,g7⟩;have hl:=m8;rw[Qq]at hl;exact hl
  exact Jh
 rintro _ ⟨bn,bt,Y⟩ w22 ⟨H,J,O,hT,hB,z,hz,ha,hbn,hbt⟩;refine go ?_;refine df 4 (rfl) (FM 3 1 (P2 ⟨c,bn,Y⟩).sl ?_);refine F8 (G:=Nat×List Nat×(Nat->List Nat)) (λ(k,tn,nxk)=>[(0,Fh bm 0),(3,Fh b1 0),(5,Fh b2 0),(7,Fh bt 0),(53,I ↑Y),(54,I ↑k)]) (λ(k,tn,nxk) w'=>Mod F w w'/\Fp w' b1 c.cs 79/\Fp w' b2 (G6 q) 244/\Fp w' bt (Tow.enc ⟨c,bn,Y⟩) 172/\Fp w' bn (G6 tn) 3/\MemAt w' bm va vd a nxk dr (n+1) sz/\k<=Y/\tn.length=Y/\(∀row,row<k->tn[row]?=some (GD (hgt a) (FK a L c) row))/\(∀i row,i<a.length->row<hgt a i->(nxk i)[row]?=if row<k/\q[row]?=some i then some a.length else(nx i)[row]?)) (λ(k,tn,nxk)=>Y-k) (0,Ap Y 0,nx) ⟨H,J,O,hT,hB,z,Ab _,by simp,λrow h=>absurd h (Bh _),λi row _ _=>by rw[if_neg (λe=>absurd e.1 (Bh _))]⟩ ?_;rintro _ ⟨k,tn,nxk⟩ w23 ⟨H,J,O,hT,hB,z,hkh,xf,htr,hlay⟩;refine Fk (λc5=>?_) λc5=>?_
 ·have xk:k<12:=by omega
  have xr:=xt k xk;obtain⟨A',R',xu,xq,yf⟩:=hs.last_in c xk;obtain⟨p,hpe⟩:∃p,H3 (hgt a) (0 :: FO a L c) k=p:=⟨_,rfl⟩;rw[hpe]at xr xu xq;have xz:p∈0 :: FO a L c:=by rw[xu];simp
  have yb:p<a.length:=by
   rcases Ah.1 xz with e|e
   ·rw[e];exact hs.mem0 Ai
   ·exact hs.mem0 (Aj _ (Nr e))
  obtain⟨tp,hkp⟩:∃t,a[p]?=some t:=⟨_,Aq yb⟩;have yz:foot bm va vd a tp.bk:=.inr (.inr (.inr ⟨tp,Ag hkp,rfl⟩));have xg:(nxk p)[k]?=some (GD (hgt a) (FK a L c) k):=by
   rw[hlay p k yb xq,if_neg (λe=>absurd e.1 (A7 _)),hs.nextR xu xq,RN yf]
  have x0:k<(nxk p).length:=(Ar.1 xg).1;refine Gt 1001001000 λw24 yi=>HB yi J O hT hB z H λJ O hT hB z H=>?_;refine go ?_;refine dL rfl (λ_ hR=>((z.hm.ext hR).at rfl)) (go ?_);refine dp (Ln (m:=12) (e:=3) (k:=1) Ff rfl rfl Fe) (dL rfl (λ_ hR=>((O.ext hR).at (MZ xr))) (di 172 5 z.arr.sl rfl (z.arr.lt hkp) (Gt 1505001000100100001000010 λw25 y4=>HB y4 J O hT hB z H λJ O hT hB z H=>?_)));refine df 4 (rfl) (go ?_);refine df 4 (rfl) (dL rfl (λ_ hR=>(((z.arr.ext hR).row hkp).at rfl)) (go ?_));refine df 4 (rfl) (dL rfl (λ_ hR=>(((z.arr.ext hR).row hkp).at rfl)) (go ?_));refine di 3 1 (z.next hs hkp).sl rfl ((z.next hs hkp).lt xg) (dL rfl (λ_ hR=>((((z.next hs hkp).ext hR).row xg).at0 rfl)) (go ?_));refine dL rfl (λ_ hR=>((z.hm.ext hR).at rfl)) (dv 172 5 z.arr.sl (di 3 1 (P2 ⟨c,bn,Y⟩).sl rfl (show k<Y by omega) ?_));refine Kc (b:=bn) (o:=0+k*1) (v:=?v40) rfl rfl ?h40 ?n40 Ff (hB) ?o40 (.inl rfl) (λyl h5 xs26 ya=>?k40)
  case h40=>conv=>lhs;whnf
  case n40=>rfl
  case o40=>simp;omega
  have J:=J.mod h5 (λe=>J.ne hB rfl e);have O:=O.mod h5 (λe=>O.ne hB rfl e);have hT:=hT.mod h5 (λe=>hT.ne hB rfl e);have z:=z.mod h5 (λk hk e=>by have h1:=hc k hk;have h2:k=bn:=e;omega);have H:=H.own h5 F5;have hB:Fp yl bn (G6 (tn.set k (GD (hgt a) (FK a L c) k))) 3:=by
   have e:=ya;rw[Ot]at e;exact e
  have h6:=xf;have xf:(tn.set k (GD (hgt a) (FK a L c) k)).length=Y:=by rw[AB];exact h6
  refine di 3 1 (z.next hs hkp).sl rfl ((z.next hs hkp).lt xg) ?_;refine Kc (b:=tp.bk) (o:=0+k*1) (v:=?v41) rfl rfl ?h41 ?n41 Ff ((z.hN p tp hkp).1) ?o41 (.inl rfl) (λw27 hy xs27 ye=>?k41)
  case h41=>conv=>lhs;whnf
  case n41=>rfl
  case o41=>simp;omega
  have J:=J.mod hy (λe=>J.ne (z.hN p tp hkp).1 rfl e);have O:=O.mod hy (λe=>O.ne (z.hN p tp hkp).1 rfl e);have hT:=hT.mod hy (λe=>hT.ne (z.hN p tp hkp).1 rfl e);have hB:=hB.mod hy (λe=>by have h1:=hc tp.bk yz;have h2:bn=tp.bk:=e;omega);have H:=H.own hy (λi hi hf=>hF i (.inr (.inr (.inr ⟨tp,Ag hkp,Eq.symm hi⟩))));have z:=z.setN (q:=(nxk p).set k a.length) hkp hy (by have e:=ye;rw[Ot]at e;exact e) (by rw[AB];exact(z.hN p tp hkp).2);refine go ?_;refine FL (k+1,tn.set k (GD (hgt a) (FK a L c) k),ID nxk p ((nxk p).set k a.length)) ⟨H,J,O,hT,hB,z,by omega,xf,X77 htr Fe,X2r hlay xr x0⟩
 refine go ?_;refine HP (R:=Mod (λk=>va.ownBlock=some k)) Ij I0 Ff [4,5] [(0,.p,false),(1,.p,false),(2,.p,false),(3,.p,false),(4,.l,false),(5,.l,false),(6,.x,false),(7,.x,false),(8,.p,false),(9,.p,false),(10,.x,true)] rfl Ff Ff (λw28 xm=>?_);have ym:=FE xm;clear xm;refine Ga ym J hT hB z H λJ hT hB z H=>go ?_;refine dL rfl (λ_ hR=>((z.hm.mod hR (λe=>z.hA.ne_blk z.hm rfl e)).at rfl)) (Gh rfl (λw' hR=>Fx (k:=5) Ff rfl rfl (hT.mod hR (λe=>by have h1:=hc bt (.inr (.inl e));omega)).row) (lA 172 rfl (λb9 yt e9 yx m9=>?_) (hR:=RX.mod)));have g9:=H.ge e9;have n9_1:=J.ltb e9;refine FQ yx J hB z H λJ hB z H=>?_;refine LU (e:=172) (sz:=5) (by':=72) rfl Ff Ff Fg z.hA (m9.arr (enc:=Tow.enc) (sz:=5) (l:=[⟨c,bn,Y⟩]) rfl Fg rfl F0) rfl rfl (by intro x H u hu;simp at H;subst H;simp at hu;rcases hu with rfl|rfl|rfl|rfl|rfl<;>rfl) Gx Fo (Ab _) (.inr λ_ h=>h) (λvp y5 xj h7 yr=>?_);have xc:=z;have yp:=hB;have hwA:yt.heap.size<=y5.heap.size:=h7.size;have hsA:=H.size;have J:=J.mod h7 (λe=>xc.hA.ne_blk J rfl e);have H:=H.own h7 (λi hi hf=>hF i (.inr (.inl hi)));have hg:=xc.hm.mod h7 (λe=>xc.hA.ne_blk xc.hm rfl e);refine go ?_;refine Kc (b:=bm) (o:=0) (v:=?v46) rfl rfl ?h46 ?n46 Ff (hg) ?o46 (.inl rfl) (λw31 xv xs31 xp=>?k46)
 case h46=>conv=>lhs;whnf
 case n46=>exact Gq.one xj.sl
 case o46=>exact An rfl
 have J:=J.mod xv Fw;have H:=H.own xv (λi hi hf=>hF i (.inl hi));dsimp only [AU]at xp;have z:=xc.grow (t:=⟨c,bn,Y⟩) (q:=tn) h7 xj xv xp yp xf (λs hs e=>by have h1:=hc s.bk (.inr (.inr (.inr ⟨s,hs,rfl⟩)));have h2:s.bk=bn:=e;omega);refine Gt 15000211000 λw32 yj=>FC yj J z H λJ z H=>?_;refine go ?_;refine dL rfl (λ_ hR=>((z.hm.ext hR).at rfl)) (Gh rfl (λw' hR=>Fx (k:=4) Ff rfl rfl (J.ext hR).row) (cP (Rt c _ (by simp only [Gl,Aw,decide_eq_true_eq]at hw;omega) (by simp only [Gl,Aw,decide_eq_true_eq]at hw;omega)) RX.ext λw33 yk=>Fy yk z H λz H=>dp (GK rfl rfl (by simp only [Gl,Aw,decide_eq_true_eq]at hw;unfold Ge GB;omega)) (go ?_)));refine Kc (b:=bm) (o:=3) (v:=?v48) rfl rfl ?h48 ?n48 Ff (z.hm) ?o48 (.inl rfl) (λw34 yd xs34 xi=>?k48)
 case h48=>conv=>lhs;whnf
 case n48=>rfl
 case o48=>exact An rfl
 have H:=H.own yd (λi hi hf=>hF i (.inl hi));dsimp only [AU]at xi;have z:=z.setn (n':=n+1) (sz':=sz+GB c) yd xi;refine go ?_;refine go ?_;have hp:put l c=(true,pre l c++c :: Iq l c):=by simp [put,hhas,hw]
 rw[hp];have yv:k=Y:=by omega
 have xx:∀i,i<a.length->(nx i).length=hgt a i/\(ID nxk a.length tn i).length=hgt a i:=λi hi=>by
  have ht:a[i]?=some a[i]:=Aq hi;rw[XK ht];exact⟨(h.hN i _ ht).2,(z.hN i a[i] (by rw[B5 hi];exact ht)).2⟩
 have y0:=hs.put (t:=⟨c,bn,Y⟩) (nx2:=ID nxk a.length tn) rfl ⟨hz,ha⟩ xx (λrow hr=>by
  have hr':row<Y:=hr;unfold ID;rw[if_pos rfl];exact htr row Fe) (λi row hi hr=>by
  unfold ID;rw[if_neg Fe,hlay i row hi hr];have hhi:=(hs.hle i hi).2;have e:(row<k/\q[row]?=some i)↔(row<Y/\H3 (hgt a) (0 :: FO a L c) row=i):=by rw[xt row Fe,Am.injEq,yv]
  by_cases h1:row<k/\q[row]?=some i
  ·rw[if_pos h1,if_pos (e.1 h1)]
  ·rw[if_neg h1,if_neg (λh2=>h1 (e.2 h2))])
 have xl:=hsd.put c;rw[hp]at xl;refine⟨rfl,H,vp,vd,a++[⟨c,bn,Y⟩],ID nxk a.length tn,dr,_,by rw[Xye,Xqr,<-hnl,<-hszl];exact z,y0,xl,λj hj=>?_,λj hj=>hj.elim (λh=>Ay (hFl j h) H.size) (λh=>h.2)⟩;have hf:=z.lt hj;rcases hj with rfl|hj|hj|⟨s,hs',rfl⟩
 ·exact .inl (hF _ (.inl rfl))
 ·rcases yr with e|e
  ·exact .inl (hF j (.inr (.inl (by rw[<-e];exact hj))))
  ·rw[e]at hj;have e2:=Am.inj hj;exact .inr ⟨by omega,hf⟩
 ·exact .inl (hF j (.inr (.inr (.inl hj))))
 ·rcases Al.1 hs' with hm|hm
  ·exact .inl (hF _ (.inr (.inr (.inr ⟨s,hm,rfl⟩))))
  ·rw[Af.1 hm]at hf ⊢;exact .inr ⟨hbn,hf⟩
def Uc {w0:World}{b3 b5 b9:Nat}{vc:Value}(m3:Fp w b3 ((Ap 12 [I 0]).flatten) 3)(m5:Fp w b5 [S [],S [],B false,I 0,.slice (some ⟨b3,0,none⟩) 12 12] 172)(hc:Vc.Own JB 1 174 w0.heap.size w vc dr)(m9:Fp w b9 [.slice (some ⟨b5,0,none⟩) 1 1,vc,I 0,I 0] 155)(g3:w0.heap.size<=b3)(g5:w0.heap.size<=b5)(g9:w0.heap.size<=b9):
  Gd (λk=>w0.heap.size<=k/\k<w.heap.size) w b9 []:=by
 rw[Qq]at m3;have J:MemAt w b9 (.slice (some ⟨b5,0,none⟩) 1 1) vc [⟨Cell.zero,b3,12⟩] (λ_=>Ap 12 0) dr 0 0:=by
  refine⟨m9,m5.own (enc:=Tow.enc) (l:=[⟨Cell.zero,b3,12⟩]) (Ab _) rfl Fg rfl F0,hc.mono (Ab _),λi t z=>?_,λi j s t hs z _=>?_⟩
  ·cases i with
   | zero=>simp at z;subst z;exact⟨m3,by simp⟩
   | succ i=>simp at z
  ·cases i with
   | zero=>cases j with
    | zero=>rfl
    | succ j=>simp at z
   | succ i=>simp at hs
 refine⟨_,_,_,_,_,[],J,⟨rfl,λi hi=>(by cases hi),BR,rfl,rfl,λi hi=>?_,⟨λrow O=>?_,trivial⟩⟩,Bu,λk hk=>⟨?_,J.lt hk⟩,λk hk=>hk.2⟩
 ·have:i=0:=by simp at hi;exact hi
  subst this;exact⟨(show 1<=12 by decide),(show 12<=12 by decide)⟩
 ·have H:row<12:=O;rw[List.getElem?_replicate_of_lt H];rfl
 ·rcases hk with rfl|hk|hk|⟨t,z,rfl⟩
  ·exact g9
  ·have:b5=k:=Am.inj hk;omega
  ·exact(hc.lt k hk).1
  ·rw[Af.1 z];exact g3
def Sv (dr:List Nat)(v:Value)(w:World)(hv:Fu JB 1 w v dr)(hl:dr.length<=1000000) :
  Gi 102 [v] w λv' w'=>Vc.Own JB 1 174 w.heap.size w' v' dr:=by
 refine cE Tryz.func102 λz=>go ?_;refine dp (PO (e:=174) (k:=1) Ff hv.sl rfl rfl) ?_;refine Gb (λO=>?_) λO=>?_
 ·refine go ?_;have hn:=Xpy hv.sl O;have J:=A0 hn.2;subst J;exact⟨_,rfl,z,Vc.Own.nil⟩
 refine go ?_;refine Jx (e:=174) (sz:=1) rfl Ff RX.all (λb1 w1 e1 Y Z=>?_);have g1:=z.ge e1;have z:=z.trans Y;refine go ?_;have ho:=Z.own (enc:=JB) (B:=w.heap.size) (l:=([]:List Nat)) (sz:=1) (m:=0) g1 rfl Fg rfl F0;refine Ip (e:=174) (sz:=1) (by':=4) rfl Ff Ff Fg ho ((hv.ext z)) rfl rfl (by intro x _ u hu;simp at hu;rcases hu with rfl<;>rfl) Gx Fo z.size (.inl rfl) (λvp w2 H x2=>?_);have z:=z.own x2 F5;have ho:=H;refine go ?_;exact⟨_,rfl,z,by simpa using ho⟩
def Ydn (dr:List Nat)(v:Value)(w:World)(hv:Fu JB 1 w v dr)(hl:dr.length<=1000000) :
  Gi 47 [v] w λv' w'=>∃bm,v'=Fh bm 0/\Gd (λk=>w.heap.size<=k/\k<w'.heap.size) w' bm []:=by
 refine cE Tryz.func47 λH=>go ?_;refine KK (R:=Fq) Fq.refl (λ_ _ _=>Fq.trans) Ff [] (.one 3 .p false (.fork (.alt 0 true (.one 1 .p false (.fork (.alt 2 true (.one 4 .x true (.one 5 .p false (.one 6 .x true (.one 7 .p false .nil)))) (.alt 4 true (.one 2 .x true (.one 5 .p false (.one 6 .x true (.one 7 .p false .nil)))) .stop)))) (.alt 4 true (.one 0 .x true (.one 1 .p false (.one 2 .x true (.one 5 .p false (.one 6 .x true (.one 7 .p false .nil)))))) .stop)))) Ff Ff (λw1 hf=>?_);have x1:=FE hf;clear hf;have H:=H.trans x1;refine go ?_;refine Ji ?_;refine Hk ?_ ?_
 ·refine Mu (e:=3) (sz:=1) (by':=8) (zs:=[.int .i64 0]) rfl Ff Ff Ff rfl rfl (An rfl) (An rfl) RX.all (λb1 w2 e1 x2 J=>?_);have g1:=H.ge e1;have H:=H.trans x2;refine go ?_;refine db (zs:=[S [],S [],B false,.int .i64 0,.slice none 0 0]) (pl:=[(0,4),(4,1)]) (pv:=[(1,_)]) (cs:=[S [],S [],B false,.int .i64 0,_]) ?_;refine go ?_;refine Ji ?_;refine Hk ?_ ?_
  ·refine lA 172 rfl λb2 w3 e2 x3 Y=>?_;have g2:=H.ge e2;have n2_1:=J.ltb e2;refine Fy x3 J H λJ H=>Gj (Sv dr v _ (hv.ext H) hl) λvc w4 x4 z=>?_;have ha:=H.size;refine FC x4 J Y H λJ Y H=>?_;have z:=z.mono ha;refine go ?_;refine dp (Mh (zs:=[.slice none 0 0,.slice none 0 0,.int .i64 0,.int .i64 0]) (pl:=[(0,1),(1,1),(2,1),(3,1)]) (pv:=[(0,?a5_0),(1,?a5_1)]) (cs:=[?a5_0,?a5_1,.int .i64 0,.int .i64 0]) Ff Ff ?h5 ?f5) ?k5
   case h5=>refine⟨rfl,?_,rfl,?_,trivial⟩<;>(conv=>lhs;whnf)
   case f5=>rcases z.sl with⟨rfl,_⟩|⟨_,_,_,rfl,_⟩|⟨_,_,_,rfl⟩<;>rfl
   refine go ?_;refine G1 rfl rfl rfl RX.all (λb3 w5 e3 x5 m3=>?_);have g3:=H.ge e3;have n3_1:=J.ltb e3;have n3_2:=Y.ltb e3;have o3_hcf:=z.ltb e3;refine FQ x5 J Y z H λJ Y z H=>go ?_;exact⟨_,rfl,H,b3,rfl,Uc J Y z m3 g1 g2 g3⟩
  refine Hk ?_ ?_
  ·refine cG (Sv dr v _ (hv.ext H) hl) RX.all λvc w6 x6 z=>?_;have hc:=H.size;refine Fy x6 J H λJ H=>?_;have z:=z.mono hc;refine go ?_;refine lA 172 rfl λb4 w7 e4 x7 m4=>?_;have g4:=H.ge e4;have n4_1:=J.ltb e4;have o4_hcf:=z.ltb e4;refine FC x7 J z H λJ z H=>go ?_;refine dp (Mh (zs:=[.slice none 0 0,.slice none 0 0,.int .i64 0,.int .i64 0]) (pl:=[(0,1),(1,1),(2,1),(3,1)]) (pv:=[(0,?a9_0),(1,?a9_1)]) (cs:=[?a9_0,?a9_1,.int .i64 0,.int .i64 0]) Ff Ff ?h9 ?f9) ?k9
   case h9=>refine⟨rfl,?_,rfl,?_,trivial⟩<;>(conv=>lhs;whnf)
   case f9=>rcases z.sl with⟨rfl,_⟩|⟨_,_,_,rfl,_⟩|⟨_,_,_,rfl⟩<;>rfl
   refine go ?_;refine G1 rfl rfl rfl RX.all (λb5 w8 e5 x8 m5=>?_);have g5:=H.ge e5;have n5_1:=J.ltb e5;have n5_4:=m4.ltb e5;have o5_hcf:=z.ltb e5;refine FQ x8 J z m4 H λJ z m4 H=>go ?_;exact⟨_,rfl,H,b5,rfl,Uc J m4 z m5 g1 g4 g5⟩
  exact Jh
 refine Hk ?_ ?_
 ·refine cG (Sv dr v _ (hv.ext H) hl) RX.all λvc w9 x9 z=>?_;have Z:=H.size;have H:=H.trans x9;have z:=z.mono Z;refine go ?_;refine Mu (e:=3) (sz:=1) (by':=8) (zs:=[.int .i64 0]) rfl Ff Ff Ff rfl rfl (An rfl) (An rfl) RX.all (λb6 w10 e6 hj O=>?_);have g6:=H.ge e6;have o6_hcf:=z.ltb e6;refine Fy hj z H λz H=>go ?_;refine db (zs:=[S [],S [],B false,.int .i64 0,.slice none 0 0]) (pl:=[(0,4),(4,1)]) (pv:=[(1,_)]) (cs:=[S [],S [],B false,.int .i64 0,_]) ?_;refine go ?_;refine lA 172 rfl λb7 w11 e7 hh m7=>?_;have g7:=H.ge e7;have n7_6:=O.ltb e7;have o7_hcf:=z.ltb e7;refine FC hh z O H λz O H=>go ?_;refine dp (Mh (zs:=[.slice none 0 0,.slice none 0 0,.int .i64 0,.int .i64 0]) (pl:=[(0,1),(1,1),(2,1),(3,1)]) (pv:=[(0,?a14_0),(1,?a14_1)]) (cs:=[?a14_0,?a14_1,.int .i64 0,.int .i64 0]) Ff Ff ?h14 ?f14) ?k14
  case h14=>refine⟨rfl,?_,rfl,?_,trivial⟩<;>(conv=>lhs;whnf)
  case f14=>rcases z.sl with⟨rfl,_⟩|⟨_,_,_,rfl,_⟩|⟨_,_,_,rfl⟩<;>rfl
  refine go ?_;refine G1 rfl rfl rfl RX.all (λb8 w12 e8 hg m8=>?_);have g8:=H.ge e8;have n8_6:=O.ltb e8;have n8_7:=m7.ltb e8;have o8_hcf:=z.ltb e8;refine FQ hg z O m7 H λz O m7 H=>go ?_;exact⟨_,rfl,H,b8,rfl,Uc O m7 z m8 g6 g7 g8⟩
 exact Jh
section
variable {F:Nat->Prop}{bm:Nat}{l:List Cell}
def Gd.lt {w:World}(h:Gd F w bm l):∀k,F k->k<w.heap.size:=by
 obtain⟨va,vd,a,nx,dr,L,h1,h2,h3,h4,z⟩:=h;exact z
def Gd.calls_put (c:Cell)(w:World)(h:Gd F w bm l)(hl:l.length<=900000)(hz:HK l<=1000000000000):Calls Tryz.prog 89 [Fh bm 0,c.v].toArray w (Hp F w (λv w'=>v=B (put l c).1/\Gd (P1 F w w') w' bm (put l c).2)):=by
 obtain⟨va,vd,a,nx,dr,L,h1,h2,h3,h4,z⟩:=h;have hlL:l.length=L.length:=(congrArg A9 h2.cells).trans (Au ..);have hal:=h2.len;exact Calls.mono (Ybg bm va vd a nx dr _ _ L l F c w h1 h2 h3 Fe rfl rfl h4 z hz) λe w' ⟨h1,h2,h3⟩=>⟨_,h1,h2,rfl,h3⟩
def Gd.calls_get (key:Fj)(seq:Int)(w:World)(h:Gd F w bm l)(hl:l.length<=900000):Calls Tryz.prog 112 [Fh bm 0,S key,I seq].toArray w (Pure w (.tuple #[((first l key seq).getD Cell.zero).v,B (first l key seq).isSome])):=by
 obtain⟨va,vd,a,nx,dr,L,h1,h2,h3,h4,h5⟩:=h;have hlL:l.length=L.length:=(congrArg A9 h2.cells).trans (Au ..);have hal:=h2.len;exact Ydl bm va vd a nx dr _ _ L l key seq w h1 h2 h3 Fe
def Gd.calls_len (w:World)(h:Gd F w bm l)(hl:l.length<=900000):Calls Tryz.prog 43 [Fh bm 0].toArray w (Pure w (I ↑l.length)):=by
 obtain⟨va,vd,a,nx,dr,L,h1,h2,h3,h4,h5⟩:=h;have hlL:l.length=L.length:=(congrArg A9 h2.cells).trans (Au ..);have hal:=h2.len;have:=Ybf bm va vd a nx dr _ _ L l w h1 h2 h3 Fe;rwa [show a.length-1=l.length by omega]at this
def Gd.calls_scan (frm to:Fj)(w:World)(h:Gd F w bm l)(hl:l.length<=900000)(hb:∀x∈l,x.seq<=4611686018427387904):Calls Tryz.prog 57 [Fh bm 0,S frm,S to].toArray w (Hb w (λv' w'=>Vc.Own Cell.cs 4 79 w.heap.size w' v' (scan l frm to))):=by
 obtain⟨va,vd,a,nx,dr,L,h1,h2,h3,h4,h5⟩:=h;have hlL:l.length=L.length:=(congrArg A9 h2.cells).trans (Au ..);have hal:=h2.len;exact Yt bm va vd a nx dr _ _ L l frm to w h1 h2 h3 Fe hb
def Gd.calls_all (w:World)(h:Gd F w bm l)(hl:l.length<=900000)(hb:∀x∈l,x.seq<=4611686018427387904):Calls Tryz.prog 46 [Fh bm 0].toArray w (Hb w (λv' w'=>Vc.Own Cell.cs 4 79 w.heap.size w' v' l)):=by
 obtain⟨va,vd,a,nx,dr,L,h1,h2,h3,h4,h5⟩:=h;have hlL:l.length=L.length:=(congrArg A9 h2.cells).trans (Au ..);have hal:=h2.len;exact Ydm bm va vd a nx dr _ _ L l w h1 h2 h3 Fe hb
end
end Go.Proofs.YtiooodckiddpmaaGreatDoor
namespace Go.Sp
open Go.Vc (Fj I S B)
def JH : List Rw->List Rw
 | []=>[]
 | r :: t=>if(t.any λq=>decide (q.key=r.key))=true then JH t else r :: JH t
variable {l:List Rw}{r:Rw}
def Xyg (h:r∈JH l):r∈l:=by
 induction l with
 | nil=>cases h
 | cons q t ih=>
  unfold JH at h;split at h
  ·exact Aj _ (ih h)
  ·rcases Ah.1 h with rfl|h
   ·exact Ai
   ·exact Aj _ (ih h)
def Xyh (l:List Rw):(JH l).length<=l.length:=by
 induction l with
 | nil=>exact Aa _
 | cons q t ih=>unfold JH;split<;>simp only [Az]<;>omega
def Xor (l:List Rw)(seq:Int)(x:Cell):x∈Gp l seq↔x∈(JH l).map (·.cell seq):=by
 induction l with
 | nil=>exact Iff.rfl
 | cons r t ih=>
  show x∈Hw (Gp t seq) (r.cell seq)↔_;rw[Rc];unfold JH;split
  ·rename_i h;obtain⟨q,z,e⟩:=BB.1 h;obtain⟨c,J,e2⟩:=Xuj (seq:=seq) z;have O:q.key=r.key:=by simpa using e
   exact⟨λh2=>h2.elim ih.1 λh3=>absurd (e2.trans O) (h3.2 c J),λh2=>.inl (ih.2 h2)⟩
  ·rename_i h;have hn:∀y∈Gp t seq,y.key≠(r.cell seq).key:=λy H e=>by
    obtain⟨q,z,rfl⟩:=RP H;exact h (BB.2 ⟨q,z,decide_eq_true (show q.key=r.key from e)⟩)
   rw[Ak,Ah];exact⟨λh2=>h2.elim (λh3=>.inr (ih.1 h3)) (λh3=>.inl h3.1),λh2=>h2.elim (λh3=>.inr ⟨h3,hn⟩) (λh3=>.inl (ih.2 h3))⟩
def Xum (l:List Rw):(JH l).Pairwise λa b=>a.key≠b.key:=by
 induction l with
 | nil=>exact Bu
 | cons r t ih=>
  unfold JH;split
  ·exact ih
  ·rename_i h;exact AN.2 ⟨λq z e=>h (BB.2 ⟨q,Xyg z,by simp [e]⟩),ih⟩
def Ybh {l m:List Cell}(hl:J1 l)(hm:J1 m)(h:∀x,x∈l↔x∈m):l=m:=by
 induction l generalizing m with
 | nil=>
  cases m with
  | nil=>rfl
  | cons b m=>exact absurd ((h b).2 Ai) F0
 | cons a l ih=>
  cases m with
  | nil=>exact absurd ((h a).1 Ai) F0
  | cons b m=>
   have H:=AN.1 hl;have z:=AN.1 hm;have e:a=b:=by
    rcases Ah.1 ((h a).1 Ai)with h1|h1
    ·exact h1
    ·rcases Ah.1 ((h b).2 Ai)with h2|h2
     ·exact h2.symm
     ·have h3:=z.1 a h1;have h4:=H.1 b h2;rw[KM h4]at h3;cases h3
   subst e;rw[ih H.2 z.2 λx=>?_]
   constructor
   ·intro J;rcases Ah.1 ((h x).1 (Aj _ J))with h1|h1
    ·have:=H.1 x J;rw[h1,IN]at this;cases this
    ·exact h1
   ·intro J;rcases Ah.1 ((h x).2 (Aj _ J))with h1|h1
    ·have:=z.1 x J;rw[h1,IN]at this;cases this
    ·exact h1
def YV : ∀a b:Fj,(Go.Lib.compareBytes a b<0)↔F6 a b=true
 | [],[]=>by simp [Go.Lib.compareBytes,F6,Op.bytesLess]
 | [],_ :: _=>by simp [Go.Lib.compareBytes,F6,Op.bytesLess]
 | _ :: _,[]=>by simp [Go.Lib.compareBytes,F6,Op.bytesLess]
 | x :: a,y :: b=>by
  have z:=YV a b;unfold Go.Lib.compareBytes;simp only [F6,Op.bytesLess,Bool.or_eq_true,Aw,decide_eq_true_eq,beq_iff_eq]at *
  by_cases h1:x<y
  ·simp [h1]
  ·rw[if_neg h1]
   by_cases h2:y<x
   ·rw[if_pos h2];exact⟨λh=>by simp at h,λh=>h.elim (λh=>absurd h h1) λh=>by
     rw[h.1]at h2;exact absurd h2 (UInt8.lt_irrefl _)⟩
   ·rw[if_neg h2,z];have e:x=y:=UInt8.le_antisymm (Dl.1 h2) (Dl.1 h1);exact⟨λh=>.inr ⟨e,h⟩,λh=>h.elim (λh=>absurd h h1) (·.2)⟩
def rAt (l:List Rw)(k:Nat):Rw:=l[k]?.getD ⟨[],[],false⟩
def Lg (l:List Rw):Nat->Fj->Option Int
 | 0=>λ_=>none
 | k+1=>λs=>if(rAt l k).key=s then some (k:Int)else Lg l k s
def UY (l:List Rw)(s:Fj):∀n,(Lg l n s=none->∀i,i<n->(rAt l i).key≠s)/\∀j,Lg l n s=some j->∃m:Nat,j=m/\m<n/\(rAt l m).key=s/\∀i,m<i->i<n->(rAt l i).key≠s
 | 0=>⟨λ_ i hi=>by omega,λj h=>by simp [Lg]at h⟩
 | n+1=>by
  obtain⟨h1,h2⟩:=UY l s n;unfold Lg
  by_cases e:(rAt l n).key=s
  ·simp only [if_pos e];exact⟨λh=>by simp at h,λj h=>⟨n,(Am.inj h).symm,by omega,e,λi hi z=>by omega⟩⟩
  ·simp only [if_neg e];refine⟨λh i hi=>?_,λj h=>?_⟩
   ·by_cases e2:i=n
    ·rw[e2];exact e
    ·exact h1 h i Fe
   ·obtain⟨m,e1,hm,e2,H⟩:=h2 j h;refine⟨m,e1,by omega,e2,λi hi z=>?_⟩
    by_cases e4:i=n
    ·rw[e4];exact e
    ·exact H i hi Fe
variable {k:Nat}
def OX (h:l[k]?=some r):rAt l k=r:=by unfold rAt;rw[h];rfl
def X2s {s:Fj}: ((l.drop (k+1)).any λq=>decide (q.key=s))=true↔∃i,k<i/\i<l.length/\(rAt l i).key=s:=by
 rw[BB]
 constructor
 ·rintro ⟨q,hq,e⟩;obtain⟨i,hi⟩:=Ci.1 hq;rw[B3]at hi;exact⟨k+1+i,by omega,(Ar.1 hi).1,by rw[OX hi];simpa using e⟩
 ·rintro ⟨i,h1,h2,h3⟩;have e:l[i]?=some l[i]:=Aq h2;refine⟨l[i],Ci.2 ⟨i-(k+1),by rw[B3,show k+1+(i-(k+1))=i by omega];exact e⟩,?_⟩;rw[OX e]at h3;simpa using h3
def X78 (h:l[k]?=some r):((Lg l l.length r.key).getD 0=(k:Int))↔((l.drop (k+1)).any λq=>decide (q.key=r.key))=false:=by
 have hk:=(Ar.1 h).1;obtain⟨h1,h2⟩:=UY l r.key l.length
 cases e:Lg l l.length r.key with
 | none=>exact absurd (by rw[OX h]) (h1 e k hk)
 | some j=>
  obtain⟨m,rfl,hm,e2,z⟩:=h2 j e;rw[<-Ch,X2s];simp only [Option.getD_some]
  constructor
  ·rintro e4 ⟨i,h4,h5,h6⟩;exact z i Fe h5 h6
  ·intro h4
   by_cases e5:m=k
   ·rw[e5]
   ·by_cases e6:m<k
    ·exact absurd (by rw[OX h]) (z k e6 hk)
    ·exact absurd ⟨m,by omega,hm,e2⟩ h4
def Xyi (h:l[k]?=some r):JH (l.drop k)=if((l.drop (k+1)).any λq=>decide (q.key=r.key))=true then JH (l.drop (k+1))else r :: JH (l.drop (k+1)):=by
 obtain⟨hk,rfl⟩:=Ar.1 h;rw[List.drop_eq_getElem_cons hk];rfl
end Go.Sp
namespace Go.Vc
open Go.RowKit Go.Proofs Go.Shelf Go.Sort
variable {cur:Array Value}{g:Nat}{w:World}
def Xkf {e:TypeId}{vs:List Value}(hb:w.heap[g]?=some (.cells cur e (0,0)))(ht:cur.toList.take vs.length=vs):Holds id w g 0 vs.toArray:=by
 intro j H;have z:j<vs.length:=by simpa using H
 refine⟨?_,by simp [World.frozen?,hb]⟩;have h1:(cur.toList.take vs.length)[j]?=vs[j]?:=by rw[ht]
 rw[EE z]at h1;simp only [World.cell?,hb,A5];simp only [Option.isSome_none,Cq,if_false];rw[<-DB,h1];simp [z]
variable {os:Array Obj}
def Xot {n:Nat}{e:TypeId}{fr:Nat×Nat}(d:Array Value)(hb:w.heap[g]?=some (.cells cur e fr)):
  (grow (putRow id (Sort.ahead w n) g 0 d) os).heap[g]?=some (.cells (putCells id 0 d cur) e fr):=by
 have z:g<w.heap.size:=(BD.1 hb).1;rw[heap_grow_old _ _ (by simpa using z)];simp [putRow,mapBlock,Sort.ahead,DE,hb,onCells]
def Xkg {n:Nat}(d:Array Value):w.grownBy (grow (putRow id (Sort.ahead w n) g 0 d) os) (some g):=by
 refine⟨rfl,rfl,rfl,by simp,λk hk z=>?_⟩;rw[heap_grow_old _ _ (by simpa using hk)];have:g≠k:=λe=>z (by rw[e]);simp [putRow,mapBlock,Sort.ahead,DE,this]
def Xk2 (cur:Array Value)(vs:List Value)(h:vs.length<=cur.size):(putCells id 0 vs.toArray cur).toList.take vs.length=vs:=by
 apply BF
 intro j
 by_cases hj:j<vs.length
 ·rw[EE hj,DB];simp [putCells,hj,show j<cur.size by omega]
 ·rw[List.getElem?_take_eq_none Fe,Bi Fe]
def Xs3 {α:Type}[Inhabited α]{enc:α->List Value}{k:Nat}(hk:∀x,(enc x).length=k)(d:Array α):flatK enc k d=(d.toList.flatMap enc).toArray:=by
 have J:(d.toList.flatMap enc).length=d.size*k:=by rw[FG hk];simp
 apply Array.ext
 ·simp [J]
 ·intro t h1 h2;have z:t<d.size*k:=by simpa using h1
  have O:0<k:=by
   rcases CI k with e|e
   ·subst e;simp at z
   ·exact e
  have H:t / k<d.size:=by rw[Nat.div_lt_iff_lt_mul O];exact z
  have e1:=get_flatK enc k d t z;rw[getElem!_pos _ t h1]at e1;rw[e1];have key:∀(l:List α) (t:Nat) (H:t / k<l.length),(l.flatMap enc)[t]?=(enc (l[t / k]'H))[t % k]?:=by
   intro l
   induction l with
   | nil=>intro t H;simp at H
   | cons a r ih=>
    intro t H;rw[AA]
    by_cases hlt:t<k
    ·have Y:t / k=0:=Nat.div_eq_of_lt hlt;rw[B5 (by rw[hk];exact hlt)];simp only [Y,List.getElem_cons_zero,Nat.mod_eq_of_lt hlt]
    ·have Y:t / k=(t-k) / k+1:=by
      have:t=(t-k)+k:=by omega
      rw[this,Nat.add_div_right _ O];simp
     have e2:t % k=(t-k) % k:=by
      have:t=(t-k)+k:=by omega
      rw[this,Nat.add_mod_right];simp
     rw[BM (by rw[hk];omega),hk,ih (t-k) (by rw[Y]at H;simpa using H)];simp only [Y,List.getElem_cons_succ,e2]
  have h3:=key d.toList t (by simpa using H);have h4:t % k<(enc (d.toList[t / k]'(by simpa using H))).length:=by rw[hk];exact Bf _ O
  rw[Aq h4]at h3;have Z:(d.toList.flatMap enc)[t]'(by rw[J];exact z)=(enc (d.toList[t / k]'(by simpa using H)))[t % k]:=by
   have:=Aq (l:=d.toList.flatMap enc) (i:=t) (by rw[J];exact z);rw[this]at h3;exact Am.inj h3
  simp only [List.getElem_toArray];rw[Z,getElem!_pos d (t / k) H];simp only [Array.getElem_toList];rw[getElem!_pos _ (t % k) (by rw[hk];exact Bf _ O)]
def X79 {P:Program}{ρ:Ren}{α:Type}[Inhabited α](L:SlLaysF0.n6 P ρ)(k:Nat)(aE:∀w,(isAgg (ρ.t 24)).run P w=.ok true w)(zE:∀w,(Go.sizeOf (ρ.t 24)).run P w=.ok k w)(enc:α->List Value)(hk:∀x,(enc x).length=k)(h1:∀x,∀v∈enc x,v.oneCell'=true)(cf:α->α->Int)(hO:SWO (ltOf cf))(g:Nat)(cb:Array Value)(eg:∀args w,(callFunc g args).run P w=.ok (.enter g args) w)(hcmp:∀(x y:α) (W:World),Calls P g (#[.agg (enc x).toArray,.agg (enc y).toArray]++cb) W λe w'=>e=.returned (.int .i64 (cf x y))/\∃q os',w'=grow (W.drewN q) os'){T B:Nat}{v:Value}{l:List α}(ho:Own enc k T B w v l)(hl:l.length<4611686018427387904):
  Calls P (ρ.f 6) [v,.func (.func g) #[] cb].toArray w (Hp (λk=>v.ownBlock=some k) w λu w'=>u=.tuple #[]/\∃l',l'.Perm l/\l'.Pairwise (λx y=>ltOf cf y x=false)/\Own enc k T B w' v l'):=by
 rcases ho.row.2 with⟨rfl,hn⟩|⟨b,cap,cur,rfl,hB,hb,hnc,hcm,hcs,ht⟩
 ·have:=A0 hn;subst this;refine(AnyF.slices_SortFunc_none L none 0 _ w).mono ?_;rintro e w' ⟨rfl,rfl⟩;exact⟨_,rfl,Mod.refl _ _,rfl,[],List.Perm.refl _,Bu,ho⟩
 ·have hf:(l.flatMap enc).length=l.length*k:=FG hk l;have hH:HoldsK enc k w b 0 l.toArray:=by
   show Holds id w b 0 (flatK enc k l.toArray);rw[Xs3 hk];exact Xkf hb (by rw[hf];exact ht)
  have Z:=(BD.1 hb).1;have hc:CmpLays P g cb enc k cf b 0 l.toArray.size w:=λm os dk _ x y=>hcmp x y _;have hs:=AnyQ.slices_SortFunc L k aE zE enc hk h1 cf hO g cb b 0 cap l.toArray w eg hc hH Z (by simpa using hl);refine Calls.mono hs ?_;rintro e w' ⟨rfl,d',n,os,hp,hsd,rfl⟩;have J:d'.size=l.length:=by rw[hp.1];simp
  have O:d'.toList.Perm l:=by
   have:=hp.2.2;simpa [Array.extract_eq_self_of_le,J]using this
  have H:d'.toList.length=l.length:=by simpa using J
  have z:(d'.toList.flatMap enc).length=l.length*k:=by rw[FG hk,H]
  refine⟨_,rfl,Mod.of_grown (Xkg _),rfl,d'.toList,O,?_,⟨?_⟩⟩
  ·rw[C4];intro i j hi hj ha;have hg:i<d'.size:=by simpa using hi
   have Y:j<d'.size:=by simpa using hj
   have:=hsd i j (Ab _) ha (by simpa [J]using Y);rw[getElem!_pos d' i hg,getElem!_pos d' j Y]at this;simpa using this
  ·show(grow (putRow id (Sort.ahead w n) b 0 (flatK enc k d')) os).ownsRow B T k _ _ _;rw[Xs3 hk,H];exact⟨by rw[z],.inr ⟨b,cap,_,rfl,hB,Xot _ hb,hnc,hcm,by simp [putCells,hcs],by rw[<-z];exact Xk2 cur _ (by rw[z,hcs];exact AW _ hnc)⟩⟩
end Go.Vc
namespace Go.Proofs
open Go.Shelf
def Tryz.sortF164_ren : Go.Shelf.Ren:=⟨λ|6=>164|15=>204|14=>241|28=>271|29=>272|20=>252|21=>291|22=>292|23=>293|24=>294|25=>295|26=>296|27=>297|46=>324|47=>314|48=>315|49=>325|50=>326|57=>336|n=>n,λ|22=>95|24=>79|25=>169|3=>3|39=>237|0=>0|53=>174|55=>236|4=>4|46=>331|45=>330|50=>302|5=>5|9=>9|66=>355|70=>197|76=>368|77=>211|n=>n,λ|n=>n⟩
def Tryz.sortF164 : Go.Proofs.SlLaysF0.n6 Tryz.prog Tryz.sortF164_ren:={
 mixed:=by kernel_rfl
 f6:=⟨Tryz.f164.name,by decide,Tryz.func164.trans (congrArg some Ff)⟩
 f14:=⟨Tryz.f241.name,by decide,Tryz.func241.trans (congrArg some Ff)⟩
 f15:=Tryz.func204.trans (congrArg some Ff)
 f20:=⟨Tryz.f252.name,by decide,Tryz.func252.trans (congrArg some Ff)⟩
 f21:=⟨Tryz.f291.name,by decide,Tryz.func291.trans (congrArg some Ff)⟩
 f22:=⟨Tryz.f292.name,by decide,Tryz.func292.trans (congrArg some Ff)⟩
 f23:=⟨Tryz.f293.name,by decide,Tryz.func293.trans (congrArg some Ff)⟩
 f24:=⟨Tryz.f294.name,by decide,Tryz.func294.trans (congrArg some Ff)⟩
 f25:=⟨Tryz.f295.name,by decide,Tryz.func295.trans (congrArg some Ff)⟩
 f26:=⟨Tryz.f296.name,by decide,Tryz.func296.trans (congrArg some Ff)⟩
 f27:=⟨Tryz.f297.name,by decide,Tryz.func297.trans (congrArg some Ff)⟩
 f28:=Tryz.func271.trans (congrArg some Ff)
 f29:=Tryz.func272.trans (congrArg some Ff)
 f46:=⟨Tryz.f324.name,by decide,Tryz.func324.trans (congrArg some Ff)⟩
 f47:=Tryz.func314.trans (congrArg some Ff)
 f48:=Tryz.func315.trans (congrArg some Ff)
 f49:=⟨Tryz.f325.name,by decide,Tryz.func325.trans (congrArg some Ff)⟩
 f50:=⟨Tryz.f326.name,by decide,Tryz.func326.trans (congrArg some Ff)⟩
 f57:=⟨Tryz.f336.name,by decide,Tryz.func336.trans (congrArg some Ff)⟩
 t0:=Tryz.underlying0
 a0:=Tryz.isAgg0
 z0:=Tryz.sizeOf0
 v0:=Tryz.zeroValue0
 t3:=Tryz.underlying3
 a3:=Tryz.isAgg3
 z3:=Tryz.sizeOf3
 v3:=Tryz.zeroValue3
 t4:=Tryz.underlying4
 a4:=Tryz.isAgg4
 z4:=Tryz.sizeOf4
 v4:=Tryz.zeroValue4
 t5:=Tryz.underlying5
 a5:=Tryz.isAgg5
 z5:=Tryz.sizeOf5
 v5:=Tryz.zeroValue5
 t9:=Tryz.underlying9
 a9:=Tryz.isAgg9
 z9:=Tryz.sizeOf9
 v9:=Tryz.zeroValue9
 t22:=Tryz.underlying95
 a22:=Tryz.isAgg95
 z22:=Tryz.sizeOf95
 v22:=Tryz.zeroValue95
 t25:=Tryz.underlying169
 a25:=Tryz.isAgg169
 z25:=Tryz.sizeOf169
 v25:=Tryz.zeroValue169
 t39:=Tryz.underlying237
 a39:=Tryz.isAgg237
 z39:=Tryz.sizeOf237
 v39:=Tryz.zeroValue237
 t45:=Tryz.underlying330
 a45:=Tryz.isAgg330
 z45:=Tryz.sizeOf330
 v45:=Tryz.zeroValue330
 t46:=Tryz.underlying331
 a46:=Tryz.isAgg331
 z46:=Tryz.sizeOf331
 v46:=Tryz.zeroValue331
 t50:=Tryz.underlying302
 a50:=Tryz.isAgg302
 z50:=Tryz.sizeOf302
 v50:=Tryz.zeroValue302
 t53:=Tryz.underlying174
 a53:=Tryz.isAgg174
 z53:=Tryz.sizeOf174
 v53:=Tryz.zeroValue174
 t55:=Tryz.underlying236
 a55:=Tryz.isAgg236
 z55:=Tryz.sizeOf236
 v55:=Tryz.zeroValue236
 t66:=Tryz.underlying355
 a66:=Tryz.isAgg355
 z66:=Tryz.sizeOf355
 v66:=Tryz.zeroValue355
 t70:=Tryz.underlying197
 a70:=Tryz.isAgg197
 z70:=Tryz.sizeOf197
 v70:=Tryz.zeroValue197
 t76:=Tryz.underlying368
 a76:=Tryz.isAgg368
 z76:=Tryz.sizeOf368
 v76:=Tryz.zeroValue368
 t77:=Tryz.underlying211
 a77:=Tryz.isAgg211
 z77:=Tryz.sizeOf211
 v77:=Tryz.zeroValue211 }
end Go.Proofs
namespace Go.Proofs.YtiooodckiddpmaaGreatDoor
open Go.Vc Go.Sp
attribute [local irreducible] W XW Dw GC
section
open Go.Shelf Go.RowKit Go.Lib Go.Sort
def Ybi : Tryz.f165.ntmps=10:=by kernel_rfl
def Xk3 (x y:Cell)(W:World):Calls Tryz.prog 165 #[.agg x.cs.toArray,.agg y.cs.toArray] W λe w'=>e=.returned (.int .i64 (Lib.compareBytes x.key y.key))/\∃q os',w'=grow (W.drewN q) os':=by
 have z:=λW'=>Tryz.strings_Compare ⟨⟨x.key⟩⟩ ⟨⟨y.key⟩⟩ W';change ∀W',Calls Tryz.prog 166 _ _ _ at z
 generalize Lib.compareBytes x.key y.key=r at z ⊢
 go_enter Tryz.func165,Ybi
 go_wp2_with (go_at_call 166;refine(z _).mono ?_;rintro e w' ⟨rfl,rfl⟩)
 go_ret
 exact⟨rfl,0,_,by rw[alloc_eq_grow,alloc_eq_grow,grow_grow];rfl⟩
@[reducible] def Rj (x y:Cell):Int:=Lib.compareBytes x.key y.key
def QC (x y:Cell):ltOf Rj x y=F6 x.key y.key:=by
 unfold ltOf Rj;rw[Dv,decide_eq_true_iff];exact YV x.key y.key
def X8a : SWO (ltOf Rj) where
 irrefl x:=by rw[QC,IN]
 trans x y z h1 h2:=by rw[QC]at *;exact Kg _ _ _ h1 h2
 ntrans x y z h1 h2:=by
  rw[QC]at *;rcases KC x.key z.key with h|h|h
  ·rw[h,IN]
  ·rcases KC y.key z.key with h3|h3|h3
   ·rw[h3]at h1;exact h1
   ·rw[h3]at h2;cases h2
   ·rw[Kg _ _ _ h h3]at h1;cases h1
  ·exact KM h
instance : Inhabited Cell:=⟨Cell.zero⟩
def Xqu {T B:Nat}{w:World}{v:Value}{l:List Cell}(ho:Vc.Own Cell.cs 4 T B w v l)(hl:l.length<4611686018427387904) :
  Calls Tryz.prog 164 [v,.func (.func 165) #[] #[]].toArray w (Hp (λk=>v.ownBlock=some k) w λu w'=>u=.tuple #[]/\∃l',l'.Perm l/\l'.Pairwise (λx y=>F6 y.key x.key=false)/\Vc.Own Cell.cs 4 T B w' v l'):=by
 have h:=X79 Tryz.sortF164 4 (λw=>(MV (k:=4) (T:=79) Ff).1) (λw=>(MV (k:=4) (T:=79) Ff).2) Cell.cs (λ_=>rfl) (λx v hv=>by simp at hv;rcases hv with rfl|rfl|rfl|rfl<;>rfl) Rj X8a 165 #[] (enters_of Tryz.func165 Ff rfl) (λx y W=>Xk3 x y W) ho hl;refine Calls.mono h ?_;rintro e w' ⟨u,he,hm,hu,l',h1,h2,h3⟩;exact⟨u,he,hm,hu,l',h1,h2.imp (λ {a b} hab=>by rw[QC]at hab;exact hab),h3⟩
end
def X2t {rows:List Rw}{seq:Int}{l':List Cell}(h1:l'.Perm ((JH rows).map (·.cell seq)))(h2:l'.Pairwise (λx y=>F6 y.key x.key=false)):l'=Gp rows seq:=by
 have hk:l'.Pairwise λa b=>a.key≠b.key:=by
  have h:((JH rows).map (·.cell seq)).Pairwise λa b=>a.key≠b.key:=List.pairwise_map.2 ((Xum rows).imp (λ {a b} hab=>hab));exact h.perm h1.symm (λ {a b} hab=>hab.symm)
 refine Ybh (EZ (λa b (ha:F6 b.key a.key=false) (hb:a.key≠b.key)=>?_) h2 hk) (Q7 rows seq) λx=>by rw[Xor,h1.mem_iff]
 rcases KC a.key b.key with h|h|h
 ·exact absurd h hb
 ·exact h
 ·rw[ha]at h;cases h
def Ydo (a b:Int)(h:I a=I b):a=b:=by simpa using h
def TX : MapK Tryz.prog 242 9 3 S Vc.I (λs=>s.length<=maxLen):=NH Ff Ff Ydo
def Xyj (l:List Rw)(k:Nat)(r:Rw)(h:l[k]?=some r):putF (Lg l k) r.key (k:Int)=Lg l (k+1):=by
 funext s
 show(putF (Lg l k) r.key (k:Int)) s=if(Sp.rAt l k).key=s then some (k:Int)else Lg l k s
 unfold putF;rw[OX h]
 by_cases e:s=r.key
 ·rw[if_pos e,if_pos e.symm]
 ·rw[if_neg e,if_neg (λe2=>e e2.symm)]
def X2u (l:List Rw)(v:Value)(seq:Int)(w:World)(hv:Fu Rw.cs 3 w v l)(hl:l.length<=100000)(hks:∀r∈l,r.key.length<=1000000) :
  Gi 88 [v,I seq] w λu w'=>Vc.Own Cell.cs 4 79 w.heap.size w' u (Gp l seq):=by
 refine cE Tryz.func88 λH=>go ?_;refine Qd TX rfl RX.all (λb1 w1 e1 x1 z=>?_);have g1:=H.ge e1;have H:=H.trans x1;refine FM 48 3 (hv.ext H).sl ?_;refine F8 (G:=Nat) (λk=>[(0,v),(1,I seq),(4,.slice none 0 0),(5,.map (some b1)),(12,v),(13,I ↑l.length),(14,I ↑k)]) (λk w'=>Fq w w'/\k<=l.length/\Vc.Xbd Tryz.prog 9 S Vc.I w' b1 k (Lg l k)) (λk=>l.length-k) 0 ⟨H,Ab _,z⟩ ?_;rintro _ k w2 ⟨H,hk1,z⟩;refine Fk (λc1=>?_) λc1=>?_
 ·obtain⟨r,hk⟩:∃r,l[k]?=some r:=F7;refine go ?_;refine di 48 3 (hv.ext H).sl rfl ((hv.ext H).lt hk) (dq (Fx Ff rfl rfl ((hv.ext H).row hk)) (aL [S [],S [],B false] λb2 w3 e2 x3 m2=>?_));have g2:=H.ge e2;have n2_mp1:=z.lt;refine Fy x3 z H λz H=>go ?_;refine Gg m2 (λw4 x4 xs4 m2=>?_);have z:=z.mod x4 Fw;have H:=H.o1 x4;refine go ?_;refine OS TX (kx:=r.key) (a:=(k:Int)) rfl rfl rfl rfl z (by have:=hks r (Ag hk);unfold maxLen;omega) (by unfold maxLen;omega) (.inl rfl) (λw5 x5 xs5 J=>?_);have H:=H.own x5 F5;have z:=J;refine go ?_;refine FL (k+1) ⟨H,by omega,?_⟩;rw[Xyj l k r hk]at z;exact z
 refine FM 48 3 (hv.ext H).sl ?_;refine F8 (G:=Nat×Value×List Cell) (λ(k,va,acc)=>[(1,I seq),(4,.slice none 0 0),(5,.map (some b1)),(8,va),(24,v),(25,I ↑l.length),(26,I ↑k)]) (λ(k,va,acc) w'=>Fq w w'/\k<=l.length/\acc.length<=k/\acc++(JH (l.drop k)).map (·.cell seq)=(JH l).map (·.cell seq)/\Vc.Own Cell.cs 4 79 w.heap.size w' va acc/\Vc.Xbd Tryz.prog 9 S Vc.I w' b1 l.length (Lg l l.length)) (λ(k,va,acc)=>l.length-k) (0,.slice none 0 0,[]) ⟨H,Ab _,Aa _,rfl,Vc.Own.nil,by rw[show k=l.length by omega]at z;exact z⟩ ?_;rintro _ ⟨k,va,acc⟩ w6 ⟨H,hk1,hal,hacc,ho,z⟩;refine Fk (λc2=>?_) λc2=>?_
 ·obtain⟨r,hk⟩:∃r,l[k]?=some r:=F7;have Y:=Xyi hk;have hf:=X78 hk;refine go ?_;refine di 48 3 (hv.ext H).sl rfl ((hv.ext H).lt hk) (dq (Fx Ff rfl rfl ((hv.ext H).row hk)) (aL [S [],S [],B false] λb3 w7 e3 x7 m3=>?_));have g3:=H.ge e3;have n3_mp1:=z.lt;have o3_ho:=ho.ltb e3;refine FC x7 ho z H λho z H=>go ?_;refine Gg m3 (λw8 x8 xs8 m3=>?_);have ho:=ho.mod x8 Fw;have z:=z.mod x8 Fw;have H:=H.o1 x8;refine go ?_;refine dq (M9 TX (kx:=r.key) (z0:=0) rfl rfl Ff z (by have:=hks r (Ag hk);unfold maxLen;omega)) ?_;refine Fk (λc3=>?_) λc3=>?_
  ·refine go ?_;refine dq (Fx (k:=3) Ff rfl rfl m3.row) (Gs (X7 r seq _) λw9 x9=>FC x9 ho z H λho z H=>?_);refine lA 79 rfl λb4 w10 e4 hj m4=>?_;have g4:=H.ge e4;have n4_mp1:=z.lt;have o4_ho:=ho.ltb e4;refine FC hj ho z H λho z H=>G8 (r.cell seq) ho m4 λhr w11 O Z=>?_;have z:=z.mod Z (z.ne_own ho);have H:=H.own Z F5;have ho:=O;clear m4;refine go ?_;refine FL (k+1,hr,acc++[r.cell seq]) ⟨H,by omega,by simp;omega,?_,ho,z⟩;rw[<-hacc,Y,if_neg (by rw[hf.1 c3];decide)];simp
  refine go ?_;refine FL (k+1,va,acc) ⟨H,by omega,by omega,?_,ho,z⟩;have hc:((l.drop (k+1)).any λq=>decide (q.key=r.key))=true:=by
   cases e:((l.drop (k+1)).any λq=>decide (q.key=r.key))with
   | true=>rfl
   | false=>exact absurd (hf.2 e) c3
  rw[<-hacc,Y,if_pos hc]
 have hq:k=l.length:=by omega
 rw[hq,BG (Aa _),show JH ([]:List Rw)=[] from rfl,Bg,AI]at hacc;have hll:=Xyh l;refine Gz (Xqu ho (by rw[hacc,Au];omega)) λu12 w12 hg ha=>?_;have hsz12:=H.size;have H:=H.own hg F5;obtain⟨rfl,l',hp,hh,ho⟩:=ha;refine go ?_;exact⟨_,rfl,H,by rw[X2t (hacc▸hp) hh]at ho;exact ho⟩
def JJ (m:List Cell)(cs:List Cell):List Cell:=cs.foldl (λm c=>(put m c).2) m
def X2v (l:List Cell)(c:Cell):(put l c).2.length<=l.length+1/\HK (put l c).2<=HK l+GB c:=by
 unfold put;split
 ·simp only;omega
 ·simp only;have h:=NQ l c;have h1:=congrArg A9 h;have h2:=congrArg HK h;unfold HK at *;simp only [Ad,A3,Bt,Az,Ak,A4]at *;omega
def Xyk (m:List Cell)(cs:List Cell):(JJ m cs).length<=m.length+cs.length/\HK (JJ m cs)<=HK m+HK cs:=by
 induction cs generalizing m with
 | nil=>exact⟨Aa _,by show HK m<=HK m+HK [];omega⟩
 | cons c r ih=>
  have h1:=ih (put m c).2;have h2:=X2v m c;have e:HK (c :: r)=GB c+HK r:=by simp [HK]
  show(JJ (put m c).2 r).length<=_/\HK (JJ (put m c).2 r)<=_;rw[e,Az];omega
def Xqv (cs:List Cell)(k:Nat):HK (cs.take k)<=HK cs:=by
 have h:=congrArg HK (AV k cs);unfold HK at *;rw[A3,Bt]at h;omega
def Gd.to {F G:Nat->Prop}{w:World}{bm:Nat}{l:List Cell}(h:Gd F w bm l)(hs:∀k,F k->G k)(hl:∀k,G k->k<w.heap.size):Gd G w bm l:=by
 obtain⟨va,vd,a,nx,dr,L,h1,h2,h3,h4,h5⟩:=h;exact⟨va,vd,a,nx,dr,L,h1,h2,h3,λk hk=>hs k (h4 k hk),hl⟩
def X8c {m cs:List Cell}{k:Nat}{c:Cell}(h:cs[k]?=some c):JJ m (cs.take (k+1))=(put (JJ m (cs.take k)) c).2:=by
 unfold JJ;rw[GW h,BA];rfl
def Ybj (F:Nat->Prop)(bs bd bl:Nat)(n:Int)(vf:Value)(bo bm:Nat)(dead:Bool)(mem:List Cell)(l:List Rw)(v:Value)(seq:Int)(w:World)(hs:Fp w bs (Iu bd bl n vf bo bm dead) 90)(hM0:Gd F w bm mem)(hFs:¬ F bs)(hv:Fu Rw.cs 3 w v l)(hl:l.length<=100000)(hks:∀r∈l,r.key.length<=1000000)(hml:mem.length<=700000)(hmz:HK mem+HK (Gp l seq)<=1000000000000) :
  G4 42 [Fh bs 0,v,I seq] w F λu w'=>u=.tuple #[]/\Gd (P1 F w w') w' bm (JJ mem (Gp l seq)):=by
 refine cM Tryz.func42 F λH=>?_;have z:=hM0;have hc:=hM0.lt;have hg:=hs.lt;have hcl:=P4 l seq;refine Gj (X2u l v seq _ hv hl hks) λvc w1 x1 hf=>?_;have Y:=H.size;refine FC x1 hs z H λhs z H=>?_;have J:=hf.mono Y;have hr:=Ae Y x1.size;have O:Sz w1.heap.size w1:=⟨Aa _⟩;have hq:=λk9 Z=>(J.lt k9 Z).2;refine dv 79 4 (J.arr Fg).sl (F8 (G:=Nat×(Nat->Prop)) (λ(k,Fc)=>[(0,Fh bs 0),(10,vc),(11,I ↑(Gp l seq).length),(12,I ↑k)]) (λ(k,Fc) w'=>Mod F w w'/\k<=(Gp l seq).length/\Gd Fc w' bm (JJ mem ((Gp l seq).take k))/\(∀j,Fc j->F j\/w1.heap.size<=j)/\Fp w' bs (Iu bd bl n vf bo bm dead) 90/\Vc.Own Cell.cs 4 79 w.heap.size w' vc (Gp l seq)/\Sz w1.heap.size w') (λ(k,Fc)=>(Gp l seq).length-k) (0,F) ⟨H,Ab _,z,λ_ h=>.inl h,hs,J,O⟩ ?_);rintro _ ⟨k,Fc⟩ w2 ⟨H,hk1,z,hsub,hs,J,O⟩;have hSr:=O.le;refine Fk (λc1=>?_) λc1=>?_
 ·obtain⟨c,hk⟩:∃c,(Gp l seq)[k]?=some c:=F7;have hpz:=Xyk mem ((Gp l seq).take k);have hst:=Xqv (Gp l seq) k;have hlt9:((Gp l seq).take k).length<=(Gp l seq).length:=by rw[AE];omega
  refine go ?_;refine di 79 4 (J.arr Fg).sl rfl ((J.arr Fg).lt hk) (dq (Fx Ff rfl rfl ((J.arr Fg).row hk)) (aL [S [],S [],B false,.int .i64 0] λb1 w3 e1 x3 m1=>?_));have g1:=H.ge e1;have ha:=z.lt;have o1_hM:=z.lt;have a1_hs:=hs.lt;have o1_hC:=J.ltb e1;have a1_hS:=O.le;refine Ga x3 z hs J O H λz hs J O H=>Gg m1 (λw4 x4 xs4 m1=>?_);have z:=z.mod x4 (λk9 Z e=>by have h2:k9=b1:=e;have h8:=ha k9 Z;omega);have hs:=hs.mod x4 Fw;have J:=J.mod x4 Fw;have O:=O.mod x4 trivial;have H:=H.o1 x4;refine Gt 1511000 λw5 x5=>HB x5 z hs J O m1 H λz hs J O m1 H=>?_;refine go ?_;refine df 5 (rfl) (go ?_);refine Gh rfl (λw' hR=>Fx (k:=4) Ff rfl rfl (m1.ext hR).row) ?_;have hp:=O.le;refine cD (z.calls_put c _ Fe Fe) (.inl rfl) λu6 w6 x6 hh=>?_;have hsz6:=H.size;have hs:=hs.mod x6 (λZ=>(hsub _ Z).elim hFs (λh=>by have:=hg;omega));have J:=J.mod x6 (λk9 Z e9=>(hsub _ e9).elim (λh=>by have:=hc _ h;have:=(J.lt k9 Z).1;omega) (λh=>by have:=hq k9 Z;omega));have O:=O.mod x6 trivial;have H:=H.own x6 (λi hi hlt=>((hsub i hi).resolve_right (λh=>by have:=hr;omega)));obtain⟨rfl,z⟩:=hh;refine go ?_;rw[<-X8c hk]at z;exact⟨(k+1,_),Hn,⟨H,by omega,z,λj hj=>hj.elim (hsub j) (λh=>.inr (Ae hp h.1)),hs,J,O⟩,by simp only [];omega⟩
 refine go ?_;refine Ig (H6 rfl ?_);rw[Av Fe]at z;refine⟨_,rfl,H,rfl,?_⟩;exact z.to (λj hj=>(hsub j hj).elim .inl (λh=>.inr ⟨by omega,z.lt j hj⟩)) (λj hj=>hj.elim (λh=>Ay (hc j h) H.size) (·.2))
def Ybk (bs bd bl:Nat)(n:Int)(vf:Value)(bo bm:Nat)(dead:Bool)(G:Nat->Prop)(vd ve:Value)(vs:List (Value×Fj))(L:Led)(w:World)(hs:Fp w bs (Iu bd bl n vf bo bm dead) 90)(hE:LedE G bl bd vd ve vs L w) :
  FX 17 [Fh bs 0] w (I L.last):=by
 refine cE Tryz.func17 λz=>go ?_;refine dp (GY Ff rfl rfl) ?_;refine Fk (λH=>?_) λH=>?_
 ·exact absurd H F0
 refine Gs (HC G bl bd vd ve vs L _ (hE.ext z)) λw1 J=>?_;have z:=z.trans J;refine go ?_;exact⟨rfl,z⟩
end Go.Proofs.YtiooodckiddpmaaGreatDoor

namespace Go.Proofs.YtiooodckiddpmaaGreatDoor
open Go.Vc Go.Sp
attribute [local irreducible] W XW Dw GC
def Og : MapK Tryz.prog 87 104 102 GM pO Km:=Sf (i:=3) Ff Ff (XJ Ff Ff Ff) Ff Ff Ff Ff Ff Ff Sh
structure Tb where
 h:Int×Int
 bt:Nat
 vl:Value
 vb:Value
 cs:List Cell
def HO (ts:List Tb)(h:Int×Int):Option Tb:=ts.find? λt=>decide (t.h=h)
def Jp (ts:List Tb)(h:Int×Int):Option (Option Nat):=(HO ts h).map λt=>some t.bt
def Mb (ts:List Tb)(key:Fj):List Fi->Option Cell
 | []=>none
 | f :: r=>match(HO ts (f.lev,f.id)).bind λt=>first t.cs key 1099511627776 with
  | some c=>some c
  | none=>Mb ts key r
def Lz (mem:List Cell)(fs:List Fi)(ts:List Tb)(key:Fj):Option Cell:=match first mem key 1099511627776 with
 | some c=>some c
 | none=>Mb ts key (La fs key)
variable {fs:List Fi}{key:Fj}{ts:List Tb}
def Xuo {mem:List Cell}{c:Cell}(h:first mem key 1099511627776=some c):Lz mem fs ts key=some c:=by unfold Lz;rw[h]
def SB {mem:List Cell}(h:first mem key 1099511627776=none):Lz mem fs ts key=Mb ts key (La fs key):=by unfold Lz;rw[h]
variable {t:Tb}
def Qh {h:Int×Int}(e:HO ts h=some t):t∈ts:=List.mem_of_find?_eq_some e
variable {k:Nat}
def Uo {f:Fi}{c:Cell}(h:fs[k]?=some f)(ht:HO ts (f.lev,f.id)=some t)(hc:first t.cs key 1099511627776=some c):Mb ts key (fs.drop k)=some c:=by
 rw[Ja h];unfold Mb;rw[ht,Cu,hc]
def X5b {f:Fi}(h:fs[k]?=some f)(ht:HO ts (f.lev,f.id)=some t)(hc:first t.cs key 1099511627776=none):Mb ts key (fs.drop k)=Mb ts key (fs.drop (k+1)):=by
 rw[Ja h,Mb.eq_2,ht,Cu,hc]
variable {w:World}
def LV.to {P:Program}{o:Oper}{E:FF}{v v':Value}(h:LV P o E w v)(e:v=v'):LV P o E w v':=e▸h
def Wn {h:Int×Int}(e:HO ts h=some t):pO ((Jp ts h).getD none)=Fh t.bt 0:=by unfold Jp;rw[e];rfl
def Xyn {f:Fi}(h:f∈La fs key):f∈fs:=by
 unfold La IM at h;simp only [Al,List.mem_reverse,Ax]at h;rcases h with(((h|h)|h)|h)|h<;>exact h.1
def X8d (bs bd bl:Nat)(n:Int)(vf:Value)(bo bm no:Nat)(dead:Bool)(F:Nat->Prop)(mem:List Cell)(fs:List Fi)(ts:List Tb)(key:Fj)(w:World)(hs:Fp w bs (Iu bd bl n vf bo bm dead) 90)(hM:Gd F w bm mem)(hml:mem.length<=900000)(hf:Fu Fi.cs 5 w vf fs)(hfl:fs.length<=100000)(mo:Vc.Xbd Tryz.prog 104 GM pO w bo no (Jp ts))(htb:∀t∈ts,TblE t.bt t.vl t.vb t.cs w)(hfs:∀f∈fs,(∃t,HO ts (f.lev,f.id)=some t)/\Ge f.lev/\Ge f.id)(hkl:key.length<=1000000000) :
  FX 58 [Fh bs 0,S key] w (.tuple #[((Lz mem fs ts key).getD Cell.zero).v,B (Lz mem fs ts key).isSome]):=by
 refine cE Tryz.func58 λz=>go ?_;refine aL [S [],S [],B false,.int .i64 0] λb1 w1 e1 x1 H=>?_;have g1:=z.ge e1;have z:=z.trans x1;refine go ?_;refine df 5 (rfl) (dl rfl ((hs.ext z).at rfl) (Gs (hM.ext z |>.calls_get key 1099511627776 _ hml) λw2 x2=>Fy x2 H z λH z=>?_));refine go ?_;refine aL [S [],S [],B false,.int .i64 0] λb2 w3 e2 x3 m2=>?_;have g2:=z.ge e2;have n2_1:=H.ltb e2;refine Fy x3 H z λH z=>Gg m2 (λw4 x4 xs4 m2=>?_);have H:=H.mo x4;have z:=z.o1 x4;refine Gb (λc1=>?_) λc1=>?_
 ·refine go ?_;refine dq (Fx (k:=4) Ff rfl rfl m2.row) (Gg H (λw5 x5 xs5 H=>?_));have z:=z.o1 x5;refine go ?_;refine I5 (u:=?v10) rfl rfl rfl rfl Ff rfl H.row ?h10 ?k10
  case h10=>conv=>lhs;whnf
  obtain⟨c,O⟩:=CA.1 c1;rw[Xuo O,O];exact⟨rfl,z⟩
 have Y:first mem key 1099511627776=none:=by simpa using c1
 refine go ?_;refine dq (Fx Ff rfl rfl ((hs.ext z).part 2 2)) (Gj (X7z n fs vf key _ (hf.ext z) hfl) λvo w6 x6 h7=>?_);have hl:=z.size;refine Fy x6 H z λH z=>?_;have J:=h7.mono hl;refine dv 62 5 (J.arr Fg).sl (F8 (G:=Nat) (λk=>[(0,Fh bs 0),(1,S key),(4,Fh b1 0),(28,vo),(29,I ↑(La fs key).length),(30,I ↑k)]) (λk w'=>Fq w w'/\Fp w' b1 Cell.zero.cs 79/\Vc.Own Fi.cs 5 62 w.heap.size w' vo (La fs key)/\k<=(La fs key).length/\Mb ts key (La fs key)=Mb ts key ((La fs key).drop k)) (λk=>(La fs key).length-k) 0 ⟨z,H,J,Ab _,rfl⟩ ?_);rintro _ k w7 ⟨z,H,J,hk1,hin⟩;refine Fk (λc2=>?_) λc2=>?_
 ·obtain⟨f,hk⟩:∃f,(La fs key)[k]?=some f:=F7;have ha:=hfs f (Xyn (Ag hk));obtain⟨t,ht⟩:=ha.1;have hT:=htb t (Qh ht);have h5:=Xn fs key 4;rw[YW]at h5;refine go ?_;refine di 62 5 (J.arr Fg).sl rfl ((J.arr Fg).lt hk) (dq (Fx Ff rfl rfl ((J.arr Fg).row hk)) (aL [.int .i64 0,.int .i64 0,.int .i64 0,S [],S []] λb3 w8 e3 x8 m3=>?_));have g3:=z.ge e3;have n3_1:=H.ltb e3;have o3_hO:=J.ltb e3;refine FC x8 H J z λH J z=>Gg m3 (λw9 x9 xs9 m3=>?_);have H:=H.mo x9;have J:=J.mod x9 Fw;have z:=z.o1 x9;refine go ?_;refine KK (R:=Fq) Fq.refl (λ_ _ _=>Fq.trans) Ff [3,5,7,9] (.one 0 .p false (.one 1 .p false (.one 2 .p false (.one 3 .l false (.one 4 .p false (.one 5 .l false (.one 6 .p false (.one 7 .l false (.one 8 .p false (.one 9 .l false (.one 10 .p false (.fork (.alt 11 false (.one 12 .p false (.one 13 .p false (.one 14 .p false (.one 15 .x false (.one 16 .x true (.one 17 .p false .nil)))))) (.alt 15 false (.one 11 .x false (.one 12 .p false (.one 13 .p false (.one 14 .p false (.one 16 .x true (.one 17 .p false .nil)))))) .stop)))))))))))))) Ff Ff (λw10 Z=>?_);have h6:=FE Z;clear Z;refine FQ h6 H J m3 z λH J m3 z=>go ?_;refine df 4 (rfl) (go ?_);refine dL rfl (λ_ hR=>((hs.ext (z.trans hR)).at rfl)) (go ?_);refine db (zs:=[.int .i64 0,.int .i64 0]) (pl:=[(0,1),(1,1)]) (pv:=[(0,_),(1,_)]) (cs:=[_,_]) ?_;refine go ?_;refine Gh (v:=Fh t.bt 0) rfl (λw' hR=>LV.to (M9 Og (kx:=(f.lev,f.id)) (z0:=none) rfl rfl Ff (mo.ext (z.trans hR)) ⟨ha.2.1,ha.2.2⟩) (Wn ht)) (go ?_);refine Ji ?_;refine Hk ?_ ?_
  ·refine cP (Vj t.bt t.vl t.vb t.cs key 1099511627776 _ (hT.ext z) hkl) RX.ext λw11 hr=>FC hr H J z λH J z=>go ?_;refine aL [S [],S [],B false,.int .i64 0] (λb4 w12 e4 hq m4=>?_) (hR:=RX.ext);have g4:=z.ge e4;have n4_1:=H.ltb e4;have o4_hO:=J.ltb e4;refine FC hq H J z λH J z=>go ?_;refine Gg m4 (λw13 hg xs13 m4=>?_);have H:=H.mo hg;have J:=J.mod hg Fw;have z:=z.o1 hg;refine Gb (λc3=>?_) λc3=>?_
   ·refine go ?_;refine dq (Fx (k:=4) Ff rfl rfl m4.row) (Gg H (λw14 hj xs14 H=>?_));have J:=J.mod hj Fw;have z:=z.o1 hj;refine go ?_;refine I5 (u:=?v24) rfl rfl rfl rfl Ff rfl H.row ?h24 ?k24
    case h24=>conv=>lhs;whnf
    obtain⟨c,O⟩:=CA.1 c3;rw[SB Y,hin,Uo hk ht O,O];exact⟨rfl,z⟩
   refine go ?_;have O:first t.cs key 1099511627776=none:=by simpa using c3
   exact FL (k+1) ⟨z,H,J,by omega,by rw[hin,X5b hk ht O]⟩
  refine Hk ?_ ?_
  ·refine aL [S [],S [],B false,.int .i64 0] (λb5 w15 e5 hw m5=>?_) (hR:=RX.ext);have g5:=z.ge e5;have n5_1:=H.ltb e5;have o5_hO:=J.ltb e5;refine FC hw H J z λH J z=>go ?_;refine cP (Vj t.bt t.vl t.vb t.cs key 1099511627776 _ (hT.ext z) hkl) RX.ext λw16 hz=>FQ hz H J m5 z λH J m5 z=>go ?_;refine Gg m5 (λw17 hh xs17 m5=>?_);have H:=H.mo hh;have J:=J.mod hh Fw;have z:=z.o1 hh;refine Gb (λc4=>?_) λc4=>?_
   ·refine go ?_;refine dq (Fx (k:=4) Ff rfl rfl m5.row) (Gg H (λw18 hp xs18 H=>?_));have J:=J.mod hp Fw;have z:=z.o1 hp;refine go ?_;refine I5 (u:=?v32) rfl rfl rfl rfl Ff rfl H.row ?h32 ?k32
    case h32=>conv=>lhs;whnf
    obtain⟨c,O⟩:=CA.1 c4;rw[SB Y,hin,Uo hk ht O,O];exact⟨rfl,z⟩
   refine go ?_;have O:first t.cs key 1099511627776=none:=by simpa using c4
   exact FL (k+1) ⟨z,H,J,by omega,by rw[hin,X5b hk ht O]⟩
  exact Jh
 refine go ?_;refine db (zs:=[S [],S [],B false,.int .i64 0]) (pl:=[(0,1),(1,1),(2,1),(3,1)]) (pv:=[]) (cs:=[S [],S [],B false,.int .i64 0]) ?_;refine Gg H (λw19 hy xs19 H=>?_);have z:=z.o1 hy;refine go ?_;refine I5 (u:=?v37) rfl rfl rfl rfl Ff rfl H.row ?h37 ?k37
 case h37=>conv=>lhs;whnf
 rw[SB Y,hin,BG Fe];exact⟨rfl,z⟩
def Kp (o:Option Cell):Fj×Bool:=match o with
 | some c=>if c.del=true then([],false)else(c.val,true)
 | none=>([],false)
variable {o:Option Cell}
def Xyo (h:o.isSome=false):Kp o=([],false):=by cases o with|none=>rfl|some c=>cases h
def X2w (h:o.isSome=true)(h2:(o.getD Cell.zero).del=true):Kp o=([],false):=by
 cases o with
 | none=>cases h
 | some c=>exact if_pos h2
def X2x (h:o.isSome=true)(h2:(o.getD Cell.zero).del=false):Kp o=((o.getD Cell.zero).val,true):=by
 cases o with
 | none=>cases h
 | some c=>exact if_neg (by rw[show c.del=false from h2];decide)
def Ybl (bs bd bl:Nat)(n:Int)(vf:Value)(bo bm no:Nat)(dead:Bool)(F:Nat->Prop)(mem:List Cell)(fs:List Fi)(ts:List Tb)(key:Fj)(w:World)(hs:Fp w bs (Iu bd bl n vf bo bm dead) 90)(hM:Gd F w bm mem)(hml:mem.length<=900000)(hf:Fu Fi.cs 5 w vf fs)(hfl:fs.length<=100000)(mo:Vc.Xbd Tryz.prog 104 GM pO w bo no (Jp ts))(htb:∀t∈ts,TblE t.bt t.vl t.vb t.cs w)(hfs:∀f∈fs,(∃t,HO ts (f.lev,f.id)=some t)/\Ge f.lev/\Ge f.id)(hkl:key.length<=1000000000) :
  FX 22 [Fh bs 0,S key] w (.tuple #[S (Kp (Lz mem fs ts key)).1,B (Kp (Lz mem fs ts key)).2]):=by
 refine cE Tryz.func22 λz=>go ?_;refine dp (GY Ff rfl rfl) ?_;refine Fk (λO=>?_) λO=>?_
 ·exact absurd O F0
 refine Gs (X8d bs bd bl n vf bo bm no dead F mem fs ts key _ (hs.ext z) (hM.ext z) hml (hf.ext z) hfl (mo.ext z) (λt ht=>(htb t ht).ext z) hfs hkl) λw1 x1=>?_;have z:=z.trans x1;refine go ?_;refine aL [S [],S [],B false,.int .i64 0] λb1 w2 e1 x2 Y=>?_;have g1:=z.ge e1;have z:=z.trans x2;refine Gg Y (λw3 Z xs3 Y=>?_);have z:=z.o1 Z;refine go ?_;refine IR 18 rfl (λH=>?_) (λH=>?_)
 ·refine go ?_;refine GU rfl (go ?_);rw[Xyo (by simpa using H)];exact⟨rfl,z⟩
 refine Gb (λJ=>?_) λJ=>?_
 ·refine go ?_;rw[X2w (by simpa using H) J];exact⟨rfl,z⟩
 refine go ?_;rw[X2x (by simpa using H) J];exact⟨rfl,z⟩
@[reducible] def Tb.kv (t:Tb):(Int×Int)×Option Nat:=(t.h,some t.bt)
def P5 (ts:List Tb)(h:Int×Int):lk (ts.map Tb.kv) h=Jp ts h:=by
 unfold Jp HO
 induction ts with
 | nil=>rfl
 | cons t r ih=>
  rw[Ak,JT,CK]
  by_cases e:t.h=h
  ·simp [e]
  ·simp only [e,decide_false,if_false];exact ih
structure StE (κ:Nat->Nat)(bs bd bl bo bm:Nat)(vf:Value)(L:Led)(D:Dsk)(V:Vs)(ts:List Tb)(mem:List Cell)(dead:Bool)(w:World):Prop where
 m:Fp w bs (Iu bd bl V.next vf bo bm dead) 90
 ld:LD (λk=>κ k=1) bl bd L D w
 mp:Gr Tryz.prog 104 GM pO w bo (ts.map Tb.kv)
 mr:Gd (λk=>κ k=3) w bm mem
 vs:Fu Fi.cs 5 w vf V.fs
 tb:∀t∈ts,TblE t.bt t.vl t.vb t.cs w
 k0:κ bs=5
 k2:κ bo=2
 k4:V.fs≠[]->κ (base vf).1=4
 k6:∀t∈ts,∀k,Kv t.bt t.vl t.vb k->κ k=6
 lt:∀k,κ k≠0->k<w.heap.size
def IT (κ:Nat->Nat)(i:Nat)(w w':World):Nat->Nat:=λk=>if w.heap.size<=k/\k<w'.heap.size then i else κ k
variable {κ:Nat->Nat}
def Nj {i:Nat}{w':World}(h:k<w.heap.size):IT κ i w w' k=κ k:=by unfold IT;rw[if_neg Fe]
def Ww {i:Nat}{w':World}(h:w.heap.size<=k)(h2:k<w'.heap.size):IT κ i w w' k=i:=by unfold IT;rw[if_pos ⟨h,h2⟩]
section
variable {κ:Nat->Nat}{bs bd bl bo bm:Nat}{vf:Value}{L:Led}{D:Dsk}{V:Vs}{ts:List Tb}{mem:List Cell}{dead:Bool}{w w':World}{S:Nat->Prop}
def StE.mod (h:StE κ bs bd bl bo bm vf L D V ts mem dead w)(m:Vc.Mod S w w')(hS:∀k,κ k≠0->¬ S k):StE κ bs bd bl bo bm vf L D V ts mem dead w':=
 ⟨h.m.mod m (hS _ (by rw[h.k0];decide)),h.ld.mod m (λk hk=>hS k (by rw[hk];decide)),h.mp.mod m (hS _ (by rw[h.k2];decide)),Gd.mod h.mr m (λk hk=>hS k (by rw[hk];decide)),
  h.vs.mod m (λH=>hS _ (by rw[h.k4 H];decide)),λt z=>(h.tb t z).mod m (λk hk=>hS k (by rw[h.k6 t z k hk];decide)),h.k0,h.k2,h.k4,h.k6,λk hk=>Ay (h.lt k hk) m.size⟩
def StE.ext (h:StE κ bs bd bl bo bm vf L D V ts mem dead w)(x:Fq w w'):StE κ bs bd bl bo bm vf L D V ts mem dead w':=h.mod x (λ_ _ h=>h)
instance : Up w w' (StE κ bs bd bl bo bm vf L D V ts mem dead w) (StE κ bs bd bl bo bm vf L D V ts mem dead w'):=⟨λx h=>h.ext x⟩
def StE.updLt (h:StE κ bs bd bl bo bm vf L D V ts mem dead w)(hs:w.heap.size<=w'.heap.size){i:Nat} : ∀k,IT κ i w w' k≠0->k<w'.heap.size:=λk hk=>by
 unfold IT at hk;split at hk
 ·omega
 ·exact Ay (h.lt k hk) hs
def StE.ledger {L':Led}{D':Dsk}(h:StE κ bs bd bl bo bm vf L D V ts mem dead w)(m:Vc.Mod (λk=>κ k=1) w w')(z:LD (FV (λk=>κ k=1) w w') bl bd L' D' w'):StE (IT κ 1 w w') bs bd bl bo bm vf L' D' V ts mem dead w':=by
 have hs:=m.size;have o:∀k,κ k≠0->IT κ 1 w w' k=κ k:=λk hk=>Nj (h.lt k hk);refine⟨h.m.mod m (by rw[h.k0];decide),z.wide (λk hk=>hk.elim (λe=>(o k (by rw[e];decide)).trans e) (λe=>Ww e.1 e.2)) (λk hk=>h.updLt hs k (by rw[hk];decide)),h.mp.mod m (by rw[h.k2];decide),
  (Gd.mod h.mr m (λk hk e=>by rw[hk]at e;cases e)).to (λk hk=>(o k (by rw[hk];decide)).trans hk) (λk hk=>h.updLt hs k (by rw[hk];decide)),h.vs.mod m (λz=>by rw[h.k4 z];decide),λt H=>(h.tb t H).mod m (λk hk=>by rw[h.k6 t H k hk];decide),
  (o _ (by rw[h.k0];decide)).trans h.k0,(o _ (by rw[h.k2];decide)).trans h.k2,λz=>(o _ (by rw[h.k4 z];decide)).trans (h.k4 z),λt H k hk=>(o k (by rw[h.k6 t H k hk];decide)).trans (h.k6 t H k hk),h.updLt hs⟩
def StE.setMem {mem':List Cell}(h:StE κ bs bd bl bo bm vf L D V ts mem dead w)(m:Vc.Mod (λk=>κ k=3) w w')(z:Gd (P1 (λk=>κ k=3) w w') w' bm mem'):StE (IT κ 3 w w') bs bd bl bo bm vf L D V ts mem' dead w':=by
 have hs:=m.size;have o:∀k,κ k≠0->IT κ 3 w w' k=κ k:=λk hk=>Nj (h.lt k hk);refine⟨h.m.mod m (by rw[h.k0];decide),(h.ld.mod m (λk hk e=>by rw[hk]at e;cases e)).wide (λk hk=>(o k (by rw[hk];decide)).trans hk) (λk hk=>h.updLt hs k (by rw[hk];decide)),h.mp.mod m (by rw[h.k2];decide),
  z.to (λk hk=>hk.elim (λe=>(o k (by rw[e];decide)).trans e) (λe=>Ww e.1 e.2)) (λk hk=>h.updLt hs k (by rw[hk];decide)),h.vs.mod m (λz=>by rw[h.k4 z];decide),λt H=>(h.tb t H).mod m (λk hk=>by rw[h.k6 t H k hk];decide),
  (o _ (by rw[h.k0];decide)).trans h.k0,(o _ (by rw[h.k2];decide)).trans h.k2,λz=>(o _ (by rw[h.k4 z];decide)).trans (h.k4 z),λt H k hk=>(o k (by rw[h.k6 t H k hk];decide)).trans (h.k6 t H k hk),h.updLt hs⟩
def StE.head {dead':Bool}(h:StE κ bs bd bl bo bm vf L D V ts mem dead w)(m:Vc.Mod (Fv bs) w w')(hm:Fp w' bs (Iu bd bl V.next vf bo bm dead') 90):StE κ bs bd bl bo bm vf L D V ts mem dead' w':=by
 have hs:=m.size;have o:∀k,κ k≠5->¬ Fv bs k:=λk hk e=>hk (by have e2:k=bs:=e;rw[e2];exact h.k0);exact⟨hm,h.ld.mod m (λk hk=>o k (by rw[hk];decide)),h.mp.mod m (o _ (by rw[h.k2];decide)),Gd.mod h.mr m (λk hk=>o k (by rw[hk];decide)),h.vs.mod m (λH=>o _ (by rw[h.k4 H];decide)),λt z=>(h.tb t z).mod m (λk hk=>o k (by rw[h.k6 t z k hk];decide)),h.k0,h.k2,h.k4,h.k6,λk hk=>Ay (h.lt k hk) hs⟩
end
section
variable {κ:Nat->Nat}{bs bd bl bo bm:Nat}{vf:Value}{L:Led}{D:Dsk}{V:Vs}{ts:List Tb}{mem:List Cell}{dead:Bool}{w w':World}{S:Nat->Prop}
def StE.relab {κ':Nat->Nat}(h:StE κ bs bd bl bo bm vf L D V ts mem dead w)(o:∀k,κ k≠0->κ' k=κ k)(z:∀k,κ' k≠0->k<w.heap.size):StE κ' bs bd bl bo bm vf L D V ts mem dead w:=
 ⟨h.m,h.ld.wide (λk hk=>(o k (by rw[hk];decide)).trans hk) (λk hk=>z k (by rw[hk];decide)),h.mp,h.mr.to (λk hk=>(o k (by rw[hk];decide)).trans hk) (λk hk=>z k (by rw[hk];decide)),h.vs,h.tb,(o _ (by rw[h.k0];decide)).trans h.k0,(o _ (by rw[h.k2];decide)).trans h.k2,
  λz=>(o _ (by rw[h.k4 z];decide)).trans (h.k4 z),λt H k hk=>(o k (by rw[h.k6 t H k hk];decide)).trans (h.k6 t H k hk),z⟩
def Hx (ts:List Tb)(t:Tb):List Tb:=if(HO ts t.h).isSome then ts.map (λq=>if q.h=t.h then t else q)else ts++[t]
def Ko (ts:List Tb)(h:Int×Int):List Tb:=ts.filter λt=>decide (t.h≠h)
def X8e (ts:List Tb)(t:Tb):(Hx ts t).map Tb.kv=FB (ts.map Tb.kv) t.h (some t.bt):=by
 unfold Hx FB;rw[P5];unfold Jp;rw[Option.isSome_map];split
 ·rw[Bq,Bq]
  apply BN
  intro q _;simp only [Function.comp];split<;>simp_all
 ·simp
def X8f (ts:List Tb)(h:Int×Int):(Ko ts h).map Tb.kv=G3 (ts.map Tb.kv) h:=by
 unfold Ko G3;rw[List.filter_map];rfl
def X2y {ts:List Tb}{t q:Tb}(h:q∈Hx ts t):q=t\/q∈ts:=by
 unfold Hx at h;split at h
 ·obtain⟨z,H,e⟩:=Ao.1 h;split at e
  ·exact .inl e.symm
  ·exact .inr (e▸H)
 ·rcases Al.1 h with h|h
  ·exact .inr h
  ·exact .inl (Af.1 h)
def StE.setMap {ts':List Tb}(h:StE κ bs bd bl bo bm vf L D V ts mem dead w)(m:Vc.Mod (Fv bo) w w')(hm:Gr Tryz.prog 104 GM pO w' bo (ts'.map Tb.kv))(ht:∀t∈ts',TblE t.bt t.vl t.vb t.cs w/\∀k,Kv t.bt t.vl t.vb k->κ k=6):StE κ bs bd bl bo bm vf L D V ts' mem dead w':=by
 have o:∀k,κ k≠2->¬ Fv bo k:=λk hk e=>hk (by have e2:k=bo:=e;rw[e2];exact h.k2);exact⟨h.m.mod m (o _ (by rw[h.k0];decide)),h.ld.mod m (λk hk=>o k (by rw[hk];decide)),hm,Gd.mod h.mr m (λk hk=>o k (by rw[hk];decide)),h.vs.mod m (λz=>o _ (by rw[h.k4 z];decide)),λt h1=>(ht t h1).1.mod m (λk hk=>o k (by rw[(ht t h1).2 k hk];decide)),h.k0,h.k2,h.k4,λt h1=>(ht t h1).2,λk hk=>Ay (h.lt k hk) m.size⟩
def LJ (κ:Nat->Nat)(b i:Nat):Nat->Nat:=λk=>if k=b then i else κ k
def StE.setV {V':Vs}{vf':Value}(h:StE κ bs bd bl bo bm vf L D V ts mem dead w)(m:Vc.Mod (Fv bs) w w')(hm:Fp w' bs (Iu bd bl V'.next vf' bo bm dead) 90)(ha:Fu Fi.cs 5 w vf' V'.fs)(hk:V'.fs≠[]->κ (base vf').1=0):StE (if V'.fs=[]then κ else LJ κ (base vf').1 4) bs bd bl bo bm vf' L D V' ts mem dead w':=by
 have o:∀k,κ k≠5->¬ Fv bs k:=λk hk e=>hk (by have e2:k=bs:=e;rw[e2];exact h.k0);have h1:∀κ',(∀k,κ k≠0->κ' k=κ k)->(∀k,κ' k≠0->k<w.heap.size)->(V'.fs≠[]->κ' (base vf').1=4)->StE κ' bs bd bl bo bm vf' L D V' ts mem dead w':=λκ' e1 e2 J=>by
  have H:=h.relab e1 e2;have o:∀k,κ' k≠5->¬ Fv bs k:=λk hk e=>hk (by have e2:k=bs:=e;rw[e2];exact H.k0);exact⟨hm,H.ld.mod m (λk hk=>o k (by rw[hk];decide)),H.mp.mod m (o _ (by rw[H.k2];decide)),Gd.mod H.mr m (λk hk=>o k (by rw[hk];decide)),ha.mod m (λY=>o _ (by rw[J Y];decide)),λt O=>(H.tb t O).mod m (λk hk=>o k (by rw[H.k6 t O k hk];decide)),H.k0,H.k2,J,H.k6,λk hk=>Ay (H.lt k hk) m.size⟩
 split
 ·rename_i e;exact h1 κ (λ_ _=>rfl) h.lt (λhn=>absurd e hn)
 ·rename_i e;refine h1 _ (λk z=>?_) (λk z=>?_) (λ_=>by unfold LJ;rw[if_pos rfl])
  ·unfold LJ;rw[if_neg];intro e2;rw[e2,hk e]at z;exact z rfl
  ·unfold LJ at z;split at z
   ·rename_i e2;rw[e2];exact ha.base_lt Fo e
   ·exact h.lt k z
end
def LD.disk {H:Nat->Prop}{bl bd:Nat}{L:Led}{D:Dsk}(h:LD H bl bd L D w):∃F:Nat->Prop,GG F bd D w/\(∀k,F k->H k)/\∀(D':Dsk) (w':World),Vc.Mod F w w'->GG (FV F w w') bd D' w'->LD (FV H w w') bl bd L D' w':=by
 obtain⟨F,G,vd,ve,vs,h1,h2,h3,h4,O⟩:=h;refine⟨F,h1,λk hk=>h4 k (.inl hk),λD' w' m hd=>?_⟩;refine⟨FV F w w',G,vd,ve,vs,hd,h2.mod m (λk hk J=>h3 k J hk),λk hk z=>hk.elim (λe=>h3 k e z) (λe=>by have:=h2.lt k z;omega),λk hk=>hk.elim (λe=>e.elim (λe=>.inl (h4 k (.inl e))) .inr) (λe=>.inl (h4 k (.inr e))),Jq O m.size⟩
end Go.Proofs.YtiooodckiddpmaaGreatDoor
namespace Go.Sp
open Go.Vc
variable {α:Type}
structure Ord (lt:α->α->Bool):Prop where
 tr:∀x y z,lt y x=false->lt z y=false->lt z x=false
 az:∀x y,lt x y=true->lt y x=false
def Up (lt:α->α->Bool)(l:List α):Prop:=l.Pairwise λx y=>lt y x=false
variable {i:Nat}
def XV {X Y:List α}{x:α}(h:X.length<=i):(X++Y)[i]?=Y[i-X.length]?:=BM h
def Tg {X Y:List α}{x:α}(h:X.length<=i):(X++Y).set i x=X++Y.set (i-X.length) x:=List.set_append_right _ _ h
def Ys (X M Y:List α)(x y:α):((X++x :: (M++y :: Y)).set X.length y).set (X.length+1+M.length) x=X++y :: (M++x :: Y):=by
 rw[Tg (Aa _),DV,EF,Tg Fe,show X.length+1+M.length-X.length=M.length+1 by omega,List.set_cons_succ,Tg (Aa _),DV,EF]
def T0 (X Y:List α)(x y:α):((X++x :: y :: Y).set X.length y).set (X.length+1) x=X++y :: x :: Y:=Ys X [] Y x y
def Up.left {lt:α->α->Bool}{A B:List α}(h:Up lt (A++B)):Up lt A:=(Bw.1 h).1
def Up.right {lt:α->α->Bool}{A B:List α}(h:Up lt (A++B)):Up lt B:=(Bw.1 h).2.1
def Up.app {lt:α->α->Bool}{A B:List α}(ha:Up lt A)(hb:Up lt B)(h:∀x∈A,∀y∈B,lt y x=false):Up lt (A++B):=Bw.2 ⟨ha,hb,h⟩
variable {j:Nat}
def Up.at {lt:α->α->Bool}{A:List α}(h:Up lt A){x y:α}(hi:A[i]?=some x)(hj:A[j]?=some y)(hij:i<j):lt y x=false:=by
 obtain⟨h1,rfl⟩:=Ar.1 hi;obtain⟨h2,rfl⟩:=Ar.1 hj;exact C4.1 h i j h1 h2 hij
def Ord.refl {lt:α->α->Bool}(O:Ord lt)(x:α):lt x x=false:=by
 cases h:lt x x with
 | false=>rfl
 | true=>have:=O.az x x h;rw[h]at this;exact this
def Up.le {lt:α->α->Bool}(O:Ord lt){A:List α}(h:Up lt A){x y:α}(hi:A[i]?=some x)(hj:A[j]?=some y)(hij:i<=j):lt y x=false:=by
 rcases Br i j with h1|h1
 ·exact h.at hi hj h1
 ·have:i=j:=by omega
  subst this;rw[hi]at hj;cases hj;exact O.refl _
variable {s:Nat}
def Iz {lt:α->α->Bool}(O:Ord lt){A B:List α}(hA:Up lt A)(hB:Up lt B){t:Nat}(hs:s<=A.length)(ht:t<=B.length)(h1:s=0\/t=B.length\/∃x y,A[s-1]?=some x/\B[t]?=some y/\lt y x=false)(h2:s=A.length\/t=0\/∃x y,A[s]?=some x/\B[t-1]?=some y/\lt y x=true):
  ∀x∈A.take s++B.take t,∀y∈A.drop s++B.drop t,lt y x=false:=by
 intro x J y H;rcases Al.1 J with J|J
 ·obtain⟨i,hi⟩:=AK J;rw[AX]at hi;split at hi
  ·rename_i Y;rcases Al.1 H with H|H
   ·obtain⟨j,z⟩:=AK H;rw[B3]at z;exact hA.at hi z Fe
   ·obtain⟨j,z⟩:=AK H;rw[B3]at z;have Z:=(Ar.1 z).1;rcases h1 with h|h|⟨a,b,ha,hb,hab⟩
    ·omega
    ·omega
    ·exact O.tr _ _ _ (hA.le O hi ha Fe) (O.tr _ _ _ hab (hB.le O hb z Fe))
  ·cases hi
 ·obtain⟨i,hi⟩:=AK J;rw[AX]at hi;split at hi
  ·rename_i Y;rcases Al.1 H with H|H
   ·obtain⟨j,z⟩:=AK H;rw[B3]at z;have Z:=(Ar.1 z).1;rcases h2 with h|h|⟨a,b,ha,hb,hab⟩
    ·omega
    ·omega
    ·exact O.tr _ _ _ (hB.le O hi hb Fe) (O.tr _ _ _ (O.az _ _ hab) (hA.le O ha z Fe))
   ·obtain⟨j,z⟩:=AK H;rw[B3]at z;exact hB.at hi z Fe
  ·cases hi
def UU {lt:α->α->Bool}(O:Ord lt){B:List α}{x:α}(hB:Up lt B){t:Nat}(ht:t<=B.length)(h1:t=B.length\/∃y,B[t]?=some y/\lt y x=false)(h2:t=0\/∃y,B[t-1]?=some y/\lt x y=false):Up lt (B.take t++x :: B.drop t):=by
 have Y:Up lt (B.take t++B.drop t):=by rw[AV];exact hB
 refine Up.app Y.left (AN.2 ⟨λy J=>?_,Y.right⟩) λz hz y J=>?_
 ·obtain⟨j,H⟩:=AK J;rw[B3]at H;have hjl:=(Ar.1 H).1;rcases h1 with h|⟨b,hb,hbx⟩
  ·omega
  ·exact O.tr _ _ _ hbx (hB.le O hb H Fe)
 ·obtain⟨i,hi⟩:=AK hz;rw[AX]at hi;split at hi
  ·rename_i hlt;have Z:lt x z=false:=by
    rcases h2 with h|⟨b,hb,hbx⟩
    ·omega
    ·exact O.tr _ _ _ (hB.le O hi hb Fe) hbx
   rcases Ah.1 J with rfl|J
   ·exact Z
   ·obtain⟨j,H⟩:=AK J;rw[B3]at H;exact hB.at hi H Fe
  ·cases hi
def H5 (lt:α->α->Bool)(l:List α)(a b:Nat):Prop:=Up lt ((l.take b).drop a)
variable {a b:Nat}
def Ybm (l:List α)(hab:a<=b):l.take a++(l.take b).drop a++l.drop b=l:=by
 have e:l.take a=(l.take b).take a:=by rw[De,B0 hab]
 rw[e,AV,AV]
variable {α:Type}
def Hj (lt:α->α->Bool)(a b:Nat)(l l':List α):Prop:=∃P M M' Q:List α,l=P++(M++Q)/\l'=P++(M'++Q)/\P.length=a/\a+M.length=b/\M'.Perm M/\Up lt M'
def L5 (l:List α)(hab:a<=b)(hb:b<=l.length):∃P M Q:List α,l=P++(M++Q)/\P.length=a/\a+M.length=b:=by
 refine⟨l.take a,(l.take b).drop a,l.drop b,?_,?_,?_⟩
 ·have:=Ybm l hab;rw[A6]at this;exact this.symm
 ·rw[AE];omega
 ·rw[Bd,AE];omega
def Lw {P P' X X':List α}(h:P++X=P'++X')(hl:P.length=P'.length):P=P'/\X=X':=List.append_inj h hl
def Hj.len {lt:α->α->Bool}{l l':List α}(h:Hj lt a b l l'):l'.length=l.length/\a<=b/\b<=l.length:=by
 obtain⟨P,M,M',Q,rfl,rfl,h1,h2,h3,_⟩:=h;have:=h3.length_eq;simp only [Ad];omega
def Hj.perm {lt:α->α->Bool}{l l':List α}(h:Hj lt a b l l'):l'.Perm l:=by
 obtain⟨P,M,M',Q,rfl,rfl,h1,h2,h3,_⟩:=h;exact DW _ (h3.append_right _)
def Hj.one {lt:α->α->Bool}(l:List α)(hab:a<=b)(hb:b<=l.length)(h1:b<=a+1):Hj lt a b l l:=by
 obtain⟨P,M,Q,e,h2,h3⟩:=L5 l hab hb;refine⟨P,M,M,Q,e,e,h2,h3,.refl _,?_⟩;rcases M with _|⟨x,_|⟨y,M⟩⟩
 ·exact Bu
 ·exact List.pairwise_singleton _ _
 ·simp at h3;omega
def JY (lt:α->α->Bool)(a i j:Nat)(l cur:List α):Prop:=∃(P M A B Q:List α) (x:α),l=P++(M++(x :: Q))/\cur=P++(A++(x :: (B++Q)))/\P.length=a/\a+M.length=i/\a+A.length=j/\(A++B).Perm M/\Up lt (A++B)/\∀y∈B,lt x y=true
def JY.len {lt:α->α->Bool}{l cur:List α}(h:JY lt a i j l cur):cur.length=l.length/\a<=j/\j<=i/\i<l.length:=by
 obtain⟨P,M,A,B,Q,x,rfl,rfl,h1,h2,h3,h4,_,_⟩:=h;have:=h4.length_eq;simp only [Ad,Az]at *;omega
def WW {lt:α->α->Bool}{l cur:List α}(h:Hj lt a i l cur)(hi:i<l.length):JY lt a i i l cur:=by
 obtain⟨P,M,M',Q,rfl,rfl,h1,h2,h3,h4⟩:=h;rcases Q with _|⟨x,Q⟩
 ·simp only [Ad,Bj]at hi;omega
 ·exact⟨P,M,M',[],Q,x,rfl,rfl,h1,h2,by rw[h3.length_eq];exact h2,by rw[AI];exact h3,by rw[AI];exact h4,by intro y z;cases z⟩
def Lm {P A R:List α}{x:α}(h:P.length+A.length=j):(P++(A++(x :: R)))[j]?=some x:=by
 rw[XV (x:=x) Fe,XV (x:=x) Fe,show j-P.length-A.length=0 by omega];rfl
def Vx {lt:α->α->Bool}{l cur:List α}{x z:α}(h:JY lt a i j l cur)(hj:a<j)(hx:cur[j]?=some x)(hz:cur[j-1]?=some z)(hlt:lt x z=true):JY lt a i (j-1) l ((cur.set j z).set (j-1) x):=by
 obtain⟨P,M,A,B,Q,H,e1,e2,h1,h2,h3,h4,h5,h6⟩:=h;rcases D4 A with rfl|⟨A',z',rfl⟩
 ·simp at h3;omega
 ·simp only [DY,Ad,Az,Bj]at *;have O:H=x:=by
   rw[e2,Lm Gx]at hx;exact Am.inj hx
  have Z:z'=z:=by
   rw[e2,A6,AY,AG,Lm Fe]at hz;exact Am.inj hz
  subst O;subst Z;refine⟨P,M,A',z' :: B,Q,H,e1,?_,h1,h2,by omega,by simpa using h4,by simpa using h5,λy Y=>(Ah.1 Y).elim (λe=>e▸hlt) (h6 y)⟩;have:=T0 (P++A') (B++Q) z' H;rw[e2];rw[EG _ _ Fe];have J:j=(P++A').length+1:=by simp;omega
  rw[J,Ca];simpa using this
def QP {lt:α->α->Bool}(O:Ord lt){l cur:List α}(h:JY lt a i j l cur)(hs:j=a\/∃x z,cur[j]?=some x/\cur[j-1]?=some z/\lt x z=false):Hj lt a (i+1) l cur:=by
 obtain⟨P,M,A,B,Q,x,e1,e2,h1,h2,h3,h4,J,h6⟩:=h;refine⟨P,M++[x],A++x :: B,Q,by rw[e1];simp,by rw[e2];simp,h1,by simp;omega,?_,?_⟩
 ·exact DZ.trans ((List.Perm.cons x h4).trans (EH x M).symm)
 ·have Y:∀y∈B,lt y x=false:=λy H=>O.az _ _ (h6 y H);refine Up.app J.left (AN.2 ⟨Y,J.right⟩) λy H w Z=>?_;rcases Ah.1 Z with rfl|Z
  ·rcases hs with rfl|⟨x',z,hx,hz,hlt⟩
   ·have:A=[]:=A0 Fe;subst this;cases H
   ·rcases D4 A with rfl|⟨A',z',rfl⟩
    ·cases H
    ·simp only [DY,Ad,Az,Bj]at *;have ex:w=x':=by rw[e2,Lm Gx]at hx;exact Am.inj hx
     have ez:z'=z:=by rw[e2,A6,AY,AG,Lm Fe]at hz;exact Am.inj hz
     subst ex;subst ez;rcases Al.1 H with H|H
     ·exact O.tr _ _ _ ((Bw.1 J.left).2.2 y H z' F0) hlt
     ·rw[Af.1 H];exact hlt
  ·exact(Bw.1 J).2.2 y H w Z
def MM (a b n:Nat)(l l':List α):Prop:=∃P U M V Q:List α,l=P++(U++(M++(V++Q)))/\l'=P++(V++(M++(U++Q)))/\P.length=a/\U.length=n/\V.length=n/\a+n+M.length=b
def Na (a b n i:Nat)(l cur:List α):Prop:=∃P U1 U2 M V1 V2 Q:List α,l=P++((U1++U2)++(M++((V1++V2)++Q)))/\cur=P++(V1++(U2++(M++(U1++(V2++Q)))))/\P.length=a/\U1.length=i/\V1.length=i/\i+U2.length=n/\i+V2.length=n/\a+n+M.length=b
variable {n:Nat}
def Na.len {l cur:List α}(h:Na a b n i l cur):cur.length=l.length/\b+n<=l.length/\a+n<=b/\i<=n:=by
 obtain⟨P,U1,U2,M,V1,V2,Q,rfl,rfl,h1,h2,h3,h4,h5,h6⟩:=h;simp only [Ad];omega
def VZ {l:List α}(h1:a+n<=b)(h2:b+n<=l.length):Na a b n 0 l l:=by
 obtain⟨P,X,R,e,J,hX⟩:=L5 l (a:=a) (b:=b) Fe Fe;obtain⟨V,_,Q,e2,hV,_⟩:=L5 R (a:=n) (b:=n) (Aa _) (by have:=congrArg A9 e;simp only [Ad]at this;omega);rename_i Z O;have z:Z=[]:=A0 Fe;subst z;obtain⟨U,_,M,H,hU,_⟩:=L5 X (a:=n) (b:=n) (Aa _) Fe;rename_i Z O;have z:Z=[]:=A0 Fe;subst z;have hm:=congrArg A9 H;simp only [Ad,Bj]at hm;refine⟨P,[],U,M,[],V,Q,?_,?_,J,rfl,rfl,by omega,by omega,by omega⟩<;>rw[e,e2,H]<;>simp
def YJ {l cur:List α}{x y:α}(h:Na a b n i l cur)(hi:i<n)(hx:cur[a+i]?=some x)(hy:cur[b+i]?=some y):Na a b n (i+1) l ((cur.set (a+i) y).set (b+i) x):=by
 obtain⟨P,U1,U2,M,V1,V2,Q,e1,e2,h1,h2,h3,h4,z,O⟩:=h;rcases U2 with _|⟨x',U2⟩
 ·simp at h4;omega
 rcases V2 with _|⟨y',V2⟩
 ·simp at z;omega
 simp only [Az]at h4 z;have J:x'=x:=by rw[e2,AY,Lm Fe]at hx;exact Am.inj hx
 have H:y'=y:=by
  have:cur=(P++(V1++(x' :: U2)))++((M++U1)++(y' :: (V2++Q))):=by rw[e2];simp
  rw[this,Lm Gx]at hy;exact Am.inj hy
 subst J;subst H;refine⟨P,U1++[x'],U2,M,V1++[y'],V2,Q,by rw[e1];simp,?_,h1,by simp;omega,by simp;omega,by omega,by omega,O⟩;have:=Ys (P++V1) (U2++(M++U1)) (V2++Q) x' y';rw[e2,show a+i=(P++V1).length by simp;omega,show b+i=(P++V1).length+1+(U2++(M++U1)).length by simp;omega];simpa using this
def Vn {l cur:List α}(h:Na a b n n l cur):MM a b n l cur:=by
 obtain⟨P,U1,U2,M,V1,V2,Q,e1,e2,h1,h2,h3,h4,h5,J⟩:=h;have z:U2=[]:=A0 Fe;have H:V2=[]:=A0 Fe;subst z;subst H;exact⟨P,U1,M,V1,Q,by rw[e1];simp,by rw[e2];simp,h1,h2,h3,J⟩
def MM.at {a b n:Nat}{l l' P U M V Q:List α}(h:MM a b n l l')(e:l=P++(U++(M++(V++Q))))(h1:P.length=a)(h2:U.length=n)(h3:V.length=n)(h4:a+n+M.length=b):l'=P++(V++(M++(U++Q))):=by
 obtain⟨P',U',M',V',Q',z,rfl,g1,g2,g3,g4⟩:=h;rw[e]at z;obtain⟨J,b1⟩:=Lw z Fe;obtain⟨a2,Z⟩:=Lw b1 Fe;obtain⟨a3,Y⟩:=Lw Z Fe;obtain⟨O,H⟩:=Lw Y Fe;rw[J,a2,a3,O,H]
def Jo (m i j:Nat)(T cur:List α):Prop:=∃P X Y Q:List α,cur=P++(X++(Y++Q))/\X.length=i/\Y.length=j/\P.length+i=m/\T=P++(Y++(X++Q))
variable {m:Nat}
def Jo.len {T cur:List α}(h:Jo m i j T cur):cur.length=T.length/\i<=m/\m+j<=T.length:=by
 obtain⟨P,X,Y,Q,rfl,h1,h2,h3,rfl⟩:=h;simp only [Ad];omega
def Ky (l:List α)(h:a<=l.length):∃P Q:List α,l=P++Q/\P.length=a:=⟨l.take a,l.drop a,(AV _ _).symm,by rw[AE];omega⟩
def YB {T cur cur':List α}(h:Jo m i j T cur)(hij:j<i)(hs:MM (m-i) m j cur cur'):Jo m (i-j) j T cur':=by
 obtain⟨P,X,Y,Q,e1,h1,h2,h3,e2⟩:=h;obtain⟨H,J,rfl,z⟩:=Ky X (a:=j) Fe;rw[Ad]at h1;have:=hs.at (P:=P) (U:=H) (M:=J) (V:=Y) (Q:=Q) (by rw[e1];simp) Fe z h2 Fe;exact⟨P++Y,J,H,Q,by rw[this];simp,by omega,z,by simp;omega,by rw[e2];simp⟩
def UQ {T cur cur':List α}(h:Jo m i j T cur)(hij:i<j)(hs:MM (m-i) (m+j-i) i cur cur'):Jo m i (j-i) T cur':=by
 obtain⟨P,X,Y,Q,e1,h1,h2,h3,e2⟩:=h;obtain⟨z,H,rfl,hY⟩:=Ky Y (a:=j-i) Fe;rw[Ad]at h2;have:=hs.at (P:=P) (U:=X) (M:=z) (V:=H) (Q:=Q) (by rw[e1];simp) Fe h1 Fe Fe;exact⟨P,H,z,X++Q,by rw[this],by omega,by omega,h3,by rw[e2];simp⟩
def Yi {T cur cur':List α}(h:Jo m i i T cur)(hs:MM (m-i) m i cur cur'):cur'=T:=by
 obtain⟨P,X,Y,Q,e1,h1,h2,h3,e2⟩:=h;have:=hs.at (P:=P) (U:=X) (M:=[]) (V:=Y) (Q:=Q) (by rw[e1];simp) Fe h1 h2 Gx;rw[this,e2];simp
def Rot (a m b:Nat)(l l':List α):Prop:=∃P U V Q:List α,l=P++(U++(V++Q))/\l'=P++(V++(U++Q))/\P.length=a/\a+U.length=m/\m+V.length=b
def OH (l:List α)(ham:a<=m)(hmb:m<=b)(hb:b<=l.length):∃P U V Q:List α,l=P++(U++(V++Q))/\P.length=a/\a+U.length=m/\m+V.length=b:=by
 obtain⟨P,M,Q,e,h1,h2⟩:=L5 l (Ae ham hmb) hb;obtain⟨U,V,e2,h3⟩:=Ky M (a:=m-a) Fe;have:=congrArg A9 e2;rw[Ad]at this;exact⟨P,U,V,Q,by rw[e,e2];simp,h1,by omega,by omega⟩
def Jt (l:List α)(a m b:Nat):List α:=l.take a++((l.take b).drop m++((l.take m).drop a++l.drop b))
def WS {P U V Q:List α}(h1:P.length=a)(h2:a+U.length=m)(h3:m+V.length=b):Jt (P++(U++(V++Q))) a m b=P++(V++(U++Q)):=by
 subst h1;subst h2;subst h3;unfold Jt;have e1:(P++(U++(V++Q))).take P.length=P:=CP rfl;have e2:(P++(U++(V++Q))).take (P.length+U.length)=P++U:=by rw[<-A6];exact CP F0
 have z:(P++(U++(V++Q))).take (P.length+U.length+V.length)=P++(U++V):=by
  rw[show P++(U++(V++Q))=(P++(U++V))++Q by simp];exact CP Gx
 have H:(P++(U++(V++Q))).drop (P.length+U.length+V.length)=Q:=by
  rw[show P++(U++(V++Q))=(P++(U++V))++Q by simp];exact CQ Gx
 have O:(P++U).drop P.length=U:=CQ rfl;have J:(P++(U++V)).drop (P.length+U.length)=V:=by rw[<-A6];exact CQ F0
 rw[e1,e2,z,H,O,J]
def PS {l:List α}(ham:a<=m)(hmb:m<=b)(hb:b<=l.length):Jo m (m-a) (b-m) (Jt l a m b) l:=by
 obtain⟨P,U,V,Q,e,h1,h2,h3⟩:=OH l ham hmb hb;exact⟨P,U,V,Q,e,by omega,by omega,by omega,by rw[e];exact WS h1 h2 h3⟩
def SM (lt:α->α->Bool)(a m b:Nat)(l:List α):Prop:=∃P A B Q:List α,l=P++(A++(B++Q))/\P.length=a/\a+A.length=m/\m+B.length=b/\Up lt A/\Up lt B
def SU {lt:α->α->Bool}{P M Q:List α}(h1:P.length=a)(h2:a+M.length=b):H5 lt (P++(M++Q)) a b↔Up lt M:=by
 subst h1;subst h2;unfold H5;have e1:(P++(M++Q)).take (P.length+M.length)=P++M:=by rw[<-A6];exact CP F0
 rw[e1,CQ rfl]
def YY {lt:α->α->Bool}{l:List α}(ham:a<=m)(hmb:m<=b)(hb:b<=l.length)(h1:H5 lt l a m)(h2:H5 lt l m b):SM lt a m b l:=by
 obtain⟨P,A,B,Q,rfl,e1,e2,z⟩:=OH l ham hmb hb;refine⟨P,A,B,Q,rfl,e1,e2,z,(SU e1 e2).1 h1,?_⟩;rw[<-A6]at h2;exact(SU Gx z).1 h2
def Hj.up {lt:α->α->Bool}{l l':List α}(h:Hj lt a b l l'):H5 lt l' a b:=by
 obtain⟨P,M,M',Q,rfl,rfl,h1,h2,h3,h4⟩:=h;exact(SU h1 (by rw[h3.length_eq];exact h2)).2 h4
def Hj.keep {lt:α->α->Bool}{c d:Nat}{l l':List α}(h:Hj lt a b l l')(hcd:d<=a\/b<=c)(hu:H5 lt l c d):H5 lt l' c d:=by
 obtain⟨P,M,M',Q,rfl,rfl,h1,h2,h3,h4⟩:=h;have z:=h3.length_eq;unfold H5 at *;rcases hcd with h|h
 ·rw[List.take_append_of_le_length Fe]at hu ⊢;exact hu
 ·have e:∀N:List α,N.length=M.length->((P++(N++Q)).take d).drop c=(Q.take (d-b)).drop (c-b):=by
   intro N hN;rw[<-A6,EI,List.drop_append];have:((P++N).take d).drop c=[]:=BP (by rw[AE,Ad];omega);rw[this,AG,AE,Ad];rcases Br d (P.length+N.length)with h9|h9
   ·rw[show d-(P.length+N.length)=0 by omega,show d-b=0 by omega];simp
   ·rw[show c-min d (P.length+N.length)=c-b by omega,show d-(P.length+N.length)=d-b by omega]
  rw[e M rfl]at hu;rw[e M' z];exact hu
def MU (a k:Nat)(l cur:List α):Prop:=∃(P B R:List α) (x:α),l=P++(x :: (B++R))/\cur=P++(B++(x :: R))/\P.length=a/\a+B.length=k
variable {k:Nat}
def MU.len {l cur:List α}(h:MU a k l cur):cur.length=l.length/\a<=k/\k<l.length:=by
 obtain⟨P,B,R,x,rfl,rfl,h1,h2⟩:=h;simp only [Ad,Az];omega
def Y5 {l:List α}(h:a<l.length):MU a a l l:=by
 obtain⟨P,Q,rfl,z⟩:=Ky l (a:=a) Fe;rcases Q with _|⟨x,Q⟩
 ·simp at h;omega
 ·exact⟨P,[],Q,x,rfl,rfl,z,rfl⟩
def Xs8 {l cur:List α}{x y:α}(h:MU a k l cur)(hx:cur[k]?=some x)(hy:cur[k+1]?=some y):MU a (k+1) l ((cur.set k y).set (k+1) x):=by
 obtain⟨P,B,R,z,e1,e2,h1,h2⟩:=h;have J:z=x:=by rw[e2,Lm Fe]at hx;exact Am.inj hx
 subst J;rcases R with _|⟨y',R⟩
 ·exfalso;rw[e2,Bi Gx]at hy;cases hy
 ·have H:y'=y:=by
   have:cur=(P++B)++([z]++(y' :: R)):=by rw[e2];simp
   rw[this,Lm Gx]at hy;exact Am.inj hy
  subst H;refine⟨P,B++[y'],R,z,by rw[e1];simp,?_,h1,by simp;omega⟩;have:=T0 (P++B) R z y';rw[e2,show k=(P++B).length by simp;omega];simpa using this
def MS (m k:Nat)(l cur:List α):Prop:=∃(P A R:List α) (x:α),l=P++(A++(x :: R))/\cur=P++(x :: (A++R))/\P.length=k/\k+A.length=m
def MS.len {l cur:List α}(h:MS m k l cur):cur.length=l.length/\k<=m/\m<l.length:=by
 obtain⟨P,B,R,x,rfl,rfl,h1,h2⟩:=h;simp only [Ad,Az];omega
def Uu {l:List α}(h:m<l.length):MS m m l l:=by
 obtain⟨P,Q,rfl,z⟩:=Ky l (a:=m) Fe;rcases Q with _|⟨x,Q⟩
 ·simp at h;omega
 ·exact⟨P,[],Q,x,rfl,rfl,z,rfl⟩
def UZ {l cur:List α}{x y:α}(h:MS m k l cur)(hk:0<k)(hx:cur[k]?=some x)(hy:cur[k-1]?=some y):MS m (k-1) l ((cur.set k y).set (k-1) x):=by
 obtain⟨P,A,R,z,e1,e2,h1,h2⟩:=h;have J:z=x:=by rw[e2,show P++(z :: (A++R))=P++([]++(z :: (A++R))) from rfl,Lm (by simpa using h1)]at hx;exact Am.inj hx
 subst J;rcases D4 P with rfl|⟨P',y',rfl⟩
 ·simp at h1;omega
 ·simp only [DY,Ad,Az,Bj]at *;have H:y'=y:=by
   rw[e2,show P'++[y']++(z :: (A++R))=P'++([]++(y' :: (z :: (A++R)))) by simp,Lm Gx]at hy;exact Am.inj hy
  subst H;refine⟨P',y' :: A,R,z,by rw[e1];simp,?_,by omega,by simp;omega⟩;have:=T0 P' (A++R) y' z;rw[e2,EG _ _ Fe,show k=P'.length+1 by omega,Ca];simp;done
def Wt {lt:α->α->Bool}(O:Ord lt){l cur:List α}(h:SM lt a m b l)(hm:m=a+1)(hi:m<=i)(hib:i<=b)(hc:MU a (i-1) l cur)(h1:i=b\/∃x y,l[a]?=some x/\l[i]?=some y/\lt y x=false)(h2:i=m\/∃x y,l[a]?=some x/\l[i-1]?=some y/\lt y x=true):Hj lt a b l cur:=by
 obtain⟨P,A,B,Q,rfl,g1,g2,g3,g4,g5⟩:=h;rcases A with _|⟨x,_|⟨x2,A⟩⟩
 ·simp at g2;omega
 ·obtain⟨P',B',R,x',e1,e2,f1,f2⟩:=hc;obtain⟨r1,r2⟩:=Lw e1 Fe;simp only [AY,AG,Cd.injEq]at r2;obtain⟨rfl,r2⟩:=r2;subst r1;have Z:i-m<=B.length:=by omega
  have H:B'=B.take (i-m)/\R=B.drop (i-m)++Q:=by
   have Y:B.take (i-m)++(B.drop (i-m)++Q)=B'++R:=by rw[<-A6,AV];exact r2
   have J:=Lw Y (by rw[AE];omega);exact⟨J.1.symm,J.2.symm⟩
  have z:(P++([x]++(B++Q)))[a]?=some x:=by
   rw[show P++([x]++(B++Q))=P++([]++(x :: (B++Q))) from rfl];exact Lm (by simpa using g1)
  have hB:∀k,k<B.length->(P++([x]++(B++Q)))[m+k]?=B[k]?:=by
   intro k hk;rw[<-A6,BM Gx,show m+k-(P++[x]).length=k by simp;omega,B5 hk]
  refine⟨P,[x]++B,B.take (i-m)++x :: B.drop (i-m),Q,by simp,by rw[e2,H.1,H.2];simp,g1,by simp;omega,?_,?_⟩
  ·refine DZ.trans ?_;rw[AV];exact .refl _
  ·refine UU O g5 Z ?_ ?_
   ·rcases h1 with h|⟨x1,y,q1,q2,q3⟩
    ·left;omega
    ·rcases Br (i-m) B.length with h9|h9
     ·right;rw[z]at q1;cases q1
      have:=hB (i-m) h9;rw[show m+(i-m)=i by omega,q2]at this;exact⟨y,this.symm,q3⟩
     ·left;omega
   ·rcases h2 with h|⟨x1,y,q1,q2,q3⟩
    ·left;omega
    ·right;rw[z]at q1;cases q1
     rcases C5 hi with h9|h9
     ·exfalso;rw[show i-1=a by omega,z]at q2;cases q2
      rw[O.refl]at q3;cases q3
     ·have:=hB (i-m-1) Fe;rw[show m+(i-m-1)=i-1 by omega,q2]at this;exact⟨y,this.symm,O.az _ _ q3⟩
 ·simp at g2;omega
def Y6 {lt:α->α->Bool}(O:Ord lt){l cur:List α}(h:SM lt a m b l)(hm:b=m+1)(hi:a<=i)(hib:i<=m)(hc:MS m i l cur)(h1:i=m\/∃x y,l[m]?=some x/\l[i]?=some y/\lt x y=true)(h2:i=a\/∃x y,l[m]?=some x/\l[i-1]?=some y/\lt x y=false):Hj lt a b l cur:=by
 obtain⟨P,A,B,Q,rfl,g1,g2,H,g4,g5⟩:=h;rcases B with _|⟨x,_|⟨x2,B⟩⟩
 ·simp at H;omega
 ·obtain⟨Y,A',R,x',e1,e2,f1,f2⟩:=hc;have ht:i-a<=A.length:=by omega
  have e3:(P++A.take (i-a))++(A.drop (i-a)++(x :: Q))=Y++(A'++(x' :: R)):=by
   rw[<-e1,A6,<-A6 (A.take _),AV];rfl
  obtain⟨r1,r2⟩:=Lw e3 Gx;obtain⟨Z,J⟩:=Lw r2 (by rw[Bd];omega);simp only [Cd.injEq]at J;obtain⟨rfl,rfl⟩:=J;have z:(P++(A++([x]++Q)))[m]?=some x:=Lm Fe;have hA:∀k,k<A.length->(P++(A++([x]++Q)))[a+k]?=A[k]?:=by
   intro k hk;rw[BM Fe,show a+k-P.length=k by omega,B5 hk]
  refine⟨P,A++[x],A.take (i-a)++x :: A.drop (i-a),Q,by simp,by rw[e2,<-r1,<-Z];simp,g1,by simp;omega,?_,?_⟩
  ·refine DZ.trans ?_;rw[AV];exact(EH x A).symm
  ·refine UU O g4 ht ?_ ?_
   ·rcases h1 with h|⟨x1,y,q1,q2,q3⟩
    ·left;omega
    ·right;rw[z]at q1;cases q1
     rcases Br (i-a) A.length with h9|h9
     ·have:=hA (i-a) h9;rw[show a+(i-a)=i by omega,q2]at this;exact⟨y,this.symm,O.az _ _ q3⟩
     ·exfalso;rw[show i=m by omega,z]at q2;cases q2
      rw[O.refl]at q3;cases q3
   ·rcases C5 hi with h9|h9
    ·left;omega
    rcases h2 with h|⟨x1,y,q1,q2,q3⟩
    ·left;omega
    ·right;rw[z]at q1;cases q1
     have:=hA (i-a-1) Fe;rw[show a+(i-a-1)=i-1 by omega,q2]at this;exact⟨y,this.symm,q3⟩
 ·simp at H;omega
def L6 (lt:α->α->Bool)(a m b start e:Nat)(l l2:List α):Prop:=∃P A1 A2 B1 B2 Q:List α,l=P++((A1++A2)++((B1++B2)++Q))/\P.length=a/\a+A1.length=start/\start+A2.length=m/\m+B1.length=e/\e+B2.length=b/\Up lt (A1++A2)/\Up lt (B1++B2)/\l2=P++((A1++B1)++((A2++B2)++Q))/\∀x∈A1++B1,∀y∈A2++B2,lt y x=false
variable {e:Nat}
def VF {lt:α->α->Bool}(O:Ord lt){l l2:List α}(h:SM lt a m b l)(hs1:a<=s)(hs2:s<=m)(he1:m<=e)(he2:e<=b)(h1:s=a\/e=b\/∃x y,l[s-1]?=some x/\l[e]?=some y/\lt y x=false)(h2:s=m\/e=m\/∃x y,l[s]?=some x/\l[e-1]?=some y/\lt y x=true)(h3:(s<m/\m<e->l2=Jt l s m e)/\(¬ (s<m/\m<e)->l2=l)):L6 lt a m b s e l l2:=by
 obtain⟨P,A,B,Q,rfl,g1,g2,g3,J,H⟩:=h;obtain⟨A1,A2,rfl,k1⟩:=Ky A (a:=s-a) Fe;obtain⟨B1,B2,rfl,k2⟩:=Ky B (a:=e-m) Fe;have hAl:(A1++A2).length=A1.length+A2.length:=Ad;have hBl:(B1++B2).length=B1.length+B2.length:=Ad;have hA:∀k,k<(A1++A2).length->(P++((A1++A2)++((B1++B2)++Q)))[a+k]?=(A1++A2)[k]?:=by
  intro k hk;rw[BM Fe,show a+k-P.length=k by omega,B5 hk]
 have hB:∀k,k<(B1++B2).length->(P++((A1++A2)++((B1++B2)++Q)))[m+k]?=(B1++B2)[k]?:=by
  intro k hk;rw[BM Fe,BM Fe,show m+k-P.length-(A1++A2).length=k by omega,B5 hk]
 have z:=Iz O J H (s:=s-a) (t:=e-m) Fe Fe (by
  rcases h1 with h|h|⟨x,y,q1,q2,q3⟩
  ·left;omega
  ·right;left;omega
  ·rcases C5 hs1 with h9|h9
   ·left;omega
   rcases C5 he2 with h8|h8
   ·right;left;omega
   have r1:=hA (s-a-1) Fe;have r2:=hB (e-m) Fe;rw[show a+(s-a-1)=s-1 by omega,q1]at r1;rw[show m+(e-m)=e by omega,q2]at r2;exact .inr (.inr ⟨x,y,r1.symm,r2.symm,q3⟩)) (by
  rcases h2 with h|h|⟨x,y,q1,q2,q3⟩
  ·left;omega
  ·right;left;omega
  ·rcases C5 hs2 with h9|h9
   ·left;omega
   rcases C5 he1 with h8|h8
   ·right;left;omega
   have r1:=hA (s-a) Fe;have r2:=hB (e-m-1) Fe;rw[show a+(s-a)=s by omega,q1]at r1;rw[show m+(e-m-1)=e-1 by omega,q2]at r2;exact .inr (.inr ⟨x,y,r1.symm,r2.symm,q3⟩))
 rw[CP k1,CP k2,CQ k1,CQ k2]at z;refine⟨P,A1,A2,B1,B2,Q,rfl,g1,by omega,by omega,by omega,by omega,J,H,?_,z⟩
 by_cases hc:s<m/\m<e
 ·rw[h3.1 hc];rw[show P++((A1++A2)++((B1++B2)++Q))=(P++A1)++(A2++(B1++(B2++Q))) by simp,WS Gx Fe Fe];simp
 ·rw[h3.2 hc];rcases Br s m with h9|h9
  ·have:B1=[]:=A0 Fe;subst this;simp
  ·have:A2=[]:=A0 Fe;subst this;simp
variable {mid:Nat}
def UE {lt:α->α->Bool}{l l2:List α}(h:L6 lt a m b s e l l2)(hm:s+e=mid+m):SM lt a s mid l2:=by
 obtain⟨P,A1,A2,B1,B2,Q,rfl,h1,h2,h3,h4,h5,z,H,rfl,h8⟩:=h;exact⟨P,A1,B1,(A2++B2)++Q,by simp,h1,h2,by omega,z.left,H.left⟩
def PG {lt:α->α->Bool}{l l2:List α}(h:L6 lt a m b s e l l2)(hm:s+e=mid+m)(hn:¬ (a<s/\s<mid)):Hj lt a mid l2 l2:=by
 obtain⟨P,A1,A2,B1,B2,Q,rfl,h1,h2,h3,h4,h5,z,H,rfl,h8⟩:=h;refine⟨P,A1++B1,A1++B1,(A2++B2)++Q,by simp,by simp,h1,by simp;omega,.refl _,?_⟩;rcases Br a s with h9|h9
 ·have:B1=[]:=A0 Fe;subst this;rw[AI];exact z.left
 ·have:A1=[]:=A0 Fe;subst this;exact H.left
def TS {lt:α->α->Bool}{l l2 l3:List α}(h:L6 lt a m b s e l l2)(hm:s+e=mid+m)(h3:Hj lt a mid l2 l3):∃P A1 A2 B1 B2 X Q:List α,l=P++((A1++A2)++((B1++B2)++Q))/\P.length=a/\a+(A1.length+B1.length)=mid/\mid+A2.length=e/\e+B2.length=b/\Up lt A2/\Up lt B2/\l3=P++(X++(A2++(B2++Q)))/\X.Perm (A1++B1)/\Up lt X/\∀x∈X,∀y∈A2++B2,lt y x=false:=by
 obtain⟨P,A1,A2,B1,B2,Q,rfl,h1,h2,h4,h5,h6,J,O,rfl,Z⟩:=h;obtain⟨P',M,M',Q',e1,rfl,f1,f2,f3,f4⟩:=h3;obtain⟨r1,r2⟩:=Lw e1 Fe;obtain⟨H,z⟩:=Lw r2 Gx;subst r1;subst H;subst z;exact⟨P,A1,A2,B1,B2,M',Q,rfl,h1,by omega,by omega,by omega,J.right,O.right,by simp,f3,f4,λx Y=>Z x (f3.mem_iff.1 Y)⟩
def VC {lt:α->α->Bool}{l l2 l3:List α}(h:L6 lt a m b s e l l2)(hm:s+e=mid+m)(h3:Hj lt a mid l2 l3):SM lt mid e b l3:=by
 obtain⟨P,A1,A2,B1,B2,X,Q,rfl,h1,h2,h4,h5,J,z,rfl,H,h9,h10⟩:=TS h hm h3;have:=H.length_eq;rw[Ad]at this;exact⟨P++X,A2,B2,Q,by simp,by simp;omega,by omega,by omega,J,z⟩
def QF {lt:α->α->Bool}{l l2 l3:List α}(h:L6 lt a m b s e l l2)(hm:s+e=mid+m)(h3:Hj lt a mid l2 l3)(hn:¬ (mid<e/\e<b)):Hj lt mid b l3 l3:=by
 obtain⟨P,A1,A2,B1,B2,X,Q,rfl,h1,h2,h4,h5,J,z,rfl,H,h9,h10⟩:=TS h hm h3;have:=H.length_eq;rw[Ad]at this;refine⟨P++X,A2++B2,A2++B2,Q,by simp,by simp,by simp;omega,by simp;omega,.refl _,?_⟩;rcases Br mid e with h11|h11
 ·have:B2=[]:=A0 Fe;subst this;rw[AI];exact J
 ·have:A2=[]:=A0 Fe;subst this;exact z
def NX {lt:α->α->Bool}{l l2 l3 l4:List α}(h:L6 lt a m b s e l l2)(hm:s+e=mid+m)(h3:Hj lt a mid l2 l3)(h4:Hj lt mid b l3 l4):Hj lt a b l l4:=by
 obtain⟨P,A1,A2,B1,B2,X,Q,rfl,h1,h2,h5,h6,h7,h8,rfl,O,z,H⟩:=TS h hm h3;have J:=O.length_eq;rw[Ad]at J;obtain⟨P',M,M',Q',e1,rfl,f1,f2,f3,f4⟩:=h4;rw[show P++(X++(A2++(B2++Q)))=(P++X)++((A2++B2)++Q) by simp]at e1;obtain⟨r1,r2⟩:=Lw e1 Gx;obtain⟨Z,Y⟩:=Lw r2 Gx;subst r1;subst Z;subst Y;refine⟨P,(A1++A2)++(B1++B2),X++M',Q,by simp,by simp,h1,by simp;omega,?_,?_⟩
 ·refine(List.Perm.append O f3).trans ?_;have:(B1++A2).Perm (A2++B1):=List.perm_append_comm;rw[A6 A1,A6 A1];refine DW A1 ?_;rw[<-A6,<-A6];exact this.append_right B2
 ·exact Up.app z f4 λx hx y hy=>H x hx y (f3.mem_iff.1 hy)
def M2 (lt:α->α->Bool)(s j:Nat)(cur:List α):Prop:=(∀k,k<j->H5 lt cur (k*(2*s)) ((k+1)*(2*s)))/\∀k,2*j<=k->H5 lt cur (k*s) ((k+1)*s)
def QL {lt:α->α->Bool}{l:List α}{c:Nat}(h:H5 lt l a b)(hb:l.length<=b)(hc:l.length<=c):H5 lt l a c:=by
 unfold H5 at *;rw[Av hb]at h;rw[Av hc];exact h
def WN {lt:α->α->Bool}{l:List α}{b:Nat}(h:l.length<=a):H5 lt l a b:=by
 unfold H5;rw[BP (by rw[AE];omega)];exact Bu
def X20 {lt:α->α->Bool}{l:List α}(h:H5 lt l 0 b)(hb:l.length<=b):Up lt l:=by
 unfold H5 at h;rw[Av hb]at h;exact h
def Y7 {lt:α->α->Bool}{cur cur':List α}(h:M2 lt s j cur)(hs:Hj lt (j*(2*s)) ((j+1)*(2*s)) cur cur'):M2 lt s (j+1) cur':=by
 refine⟨λk hk=>?_,λk hk=>?_⟩
 ·rcases Br k j with h9|h9
  ·exact hs.keep (.inl (AW _ h9)) (h.1 k h9)
  ·have:k=j:=by omega
   subst this;exact hs.up
 ·refine hs.keep (.inr ?_) (h.2 k Fe);rw[<-Cy,B6 (j+1) 2];exact AW _ hk
def Yb {lt:α->α->Bool}{cur:List α}(h:M2 lt s j cur)(hl:(j+1)*(2*s)<=cur.length):SM lt (j*(2*s)) (j*(2*s)+s) ((j+1)*(2*s)) cur:=by
 have e1:j*(2*s)=(2*j)*s:=by rw[<-Cy,B6 j 2]
 have e2:j*(2*s)+s=(2*j+1)*s:=by rw[e1];exact(Be _ _).symm
 have z:(j+1)*(2*s)=(2*j+1+1)*s:=by rw[<-Cy,B6 (j+1) 2];rfl
 have g1:=h.2 (2*j) (Aa _);have g2:=h.2 (2*j+1) Fe;rw[<-e1,<-e2]at g1;rw[<-e2,<-z]at g2;refine YY Fe ?_ hl g1 g2;rw[e2,z];exact AW _ Fe
def XB {lt:α->α->Bool}{cur:List α}(h:M2 lt s j cur)(hl:cur.length<(j+1)*(2*s))(hm:j*(2*s)+s<cur.length):SM lt (j*(2*s)) (j*(2*s)+s) cur.length cur:=by
 have e1:j*(2*s)=(2*j)*s:=by rw[<-Cy,B6 j 2]
 have e2:j*(2*s)+s=(2*j+1)*s:=by rw[e1];exact(Be _ _).symm
 have z:(j+1)*(2*s)=(2*j+1+1)*s:=by rw[<-Cy,B6 (j+1) 2];rfl
 have g1:=h.2 (2*j) (Aa _);have g2:=h.2 (2*j+1) Fe;rw[<-e1,<-e2]at g1;rw[<-e2,<-z]at g2;exact YY Fe Fe (Aa _) g1 (QL g2 Fe (Aa _))
def Qz {lt:α->α->Bool}{cur cur':List α}(h:M2 lt s j cur)(hl:cur.length<(j+1)*(2*s))(hj:j*(2*s)<=cur.length)(hs:(j*(2*s)+s<cur.length->Hj lt (j*(2*s)) cur.length cur cur')/\(cur.length<=j*(2*s)+s->cur'=cur)):M2 lt (2*s) 0 cur':=by
 refine⟨λk hk=>absurd hk (Bh k),λk _=>?_⟩;have e1:j*(2*s)=(2*j)*s:=by rw[<-Cy,B6 j 2]
 have e2:j*(2*s)+s=(2*j+1)*s:=by rw[e1];exact(Be _ _).symm
 have hlen:cur'.length=cur.length:=by
  rcases Br (j*(2*s)+s) cur.length with h9|h9
  ·exact(hs.1 h9).len.1
  ·rw[hs.2 h9]
 rcases EJ k j with h9|rfl|h9
 ·rcases Br (j*(2*s)+s) cur.length with h8|h8
  ·exact(hs.1 h8).keep (.inl (AW _ h9)) (h.1 k h9)
  ·rw[hs.2 h8];exact h.1 k h9
 ·rcases Br (k*(2*s)+s) cur.length with h8|h8
  ·exact QL (hs.1 h8).up Fe Fe
  ·rw[hs.2 h8];have g1:=h.2 (2*k) (Aa _);rw[<-e1,<-e2]at g1;exact QL g1 h8 Fe
 ·refine WN ?_;have:(j+1)*(2*s)<=k*(2*s):=AW _ h9;omega
def I2 (lt:α->α->Bool)(s j:Nat)(cur:List α):Prop:=∀k,k<j->H5 lt cur (k*s) ((k+1)*s)
def WH {lt:α->α->Bool}{cur cur':List α}(h:I2 lt s j cur)(hs:Hj lt (j*s) ((j+1)*s) cur cur'):I2 lt s (j+1) cur':=by
 intro k hk;rcases Br k j with h9|h9
 ·exact hs.keep (.inl (AW _ h9)) (h k h9)
 ·have:k=j:=by omega
  subst this;exact hs.up
def UD {lt:α->α->Bool}{cur cur':List α}(h:I2 lt s j cur)(hl:cur.length<(j+1)*s)(hj:j*s<=cur.length)(hs:Hj lt (j*s) cur.length cur cur'):M2 lt s 0 cur':=by
 refine⟨λk hk=>absurd hk (Bh k),λk _=>?_⟩;have hlen:=hs.len.1;rcases EJ k j with h9|rfl|h9
 ·exact hs.keep (.inl (AW _ h9)) (h k h9)
 ·exact QL hs.up Fe Fe
 ·refine WN ?_;have:(j+1)*s<=k*s:=AW _ h9;omega
def X5l {lt:α->α->Bool}{cur:List α}(h:M2 lt s 0 cur)(hl:cur.length<=s):Up lt cur:=by
 have:=h.2 0 Fe;rw[Cw]at this;exact X20 this Fe
section
variable {α:Type}
def JZ (eq:α->α->Bool):α->List α->List α
 | _,[]=>[]
 | p,x :: r=>if eq x p=true then JZ eq x r else x :: JZ eq x r
def Ki (eq:α->α->Bool):List α->List α
 | []=>[]
 | x :: r=>x :: JZ eq x r
def Xlt (eq:α->α->Bool)(x:α):∀(l:List α) (p:α),JZ eq p (l++[x])=JZ eq p l++(if eq x (l.getLast?.getD p)=true then[]else[x])
 | [],p=>by simp only [AG,JZ,List.getLast?_nil,Option.getD_none];by_cases h:eq x p=true<;>simp [h]
 | y :: r,p=>by
  have e:(y :: r).getLast?.getD p=r.getLast?.getD y:=by
   cases r with
   | nil=>rfl
   | cons z r=>simp [List.getLast?_cons]
  rw[AY,JZ,JZ,Xlt eq x r y,e];split<;>simp
variable {k:Nat}
def Rq {eq:α->α->Bool}{l:List α}{x y:α}(hk:0<k)(hx:l[k]?=some x)(hy:l[k-1]?=some y):Ki eq (l.take (k+1))=if eq x y=true then Ki eq (l.take k)else Ki eq (l.take k)++[x]:=by
 rw[Bx,hx];simp only [Option.toList_some];rcases l with _|⟨a,r⟩
 ·simp at hx
 obtain⟨k,rfl⟩:∃m,k=m+1:=⟨k-1,by omega⟩;simp only [Co,AY,Ki];rw[Xlt];have e:(r.take k).getLast?.getD a=y:=by
  have z:=(Ar.1 hx).1;simp only [Az]at z;simp only [Ca]at hy;rcases CI k with rfl|hk2
  ·simp at hy ⊢;exact hy
  ·obtain⟨k,rfl⟩:∃m,k=m+1:=⟨k-1,by omega⟩;simp only [List.getElem?_cons_succ]at hy;rw[List.getLast?_eq_getElem?,AE,show min (k+1) r.length-1=k by omega,AX,if_pos Fe,hy];rfl
 rw[e];split<;>simp
def WE (eq:α->α->Bool)(l:List α):Ki eq (l.take 1)=l.take 1:=by
 cases l with
 | nil=>rfl
 | cons x r=>rfl
def Xqy {eq:α->α->Bool}{l:List α}(h:l.length<2):Ki eq l=l:=by
 have:=WE eq l;rwa [Av Fe]at this
def Le (eq:α->α->Bool)(l:List α)(n k:Nat)(cur:List α):Prop:=cur.length=l.length/\k<n/\n<=l.length/\cur.take k=Ki eq (l.take n)/\∀i,n<=i+1->cur[i]?=l[i]?
def Ybs {eq:α->α->Bool}{l:List α}{x y:α}(hk:0<k)(hc:Ki eq (l.take k)=l.take k)(hx:l[k]?=some x)(hy:l[k-1]?=some y)(he:eq x y=true):Le eq l (k+1) k l:=
 ⟨rfl,by omega,(Ar.1 hx).1,by rw[Rq hk hx hy,if_pos he,hc],λ_ _=>rfl⟩
variable {n:Nat}
def Xyv {eq:α->α->Bool}{l:List α}{cur:List α}{x y:α}(h:Le eq l n k cur)(hx:l[n]?=some x)(hy:l[n-1]?=some y)(he:eq x y=true):Le eq l (n+1) k cur:=by
 obtain⟨h1,h2,h3,h4,z⟩:=h;exact⟨h1,by omega,(Ar.1 hx).1,by rw[Rq Fe hx hy,if_pos he,h4],λi hi=>z i Fe⟩
def Xtc {eq:α->α->Bool}{l:List α}{cur:List α}{x y:α}(h:Le eq l n k cur)(hx:l[n]?=some x)(hy:l[n-1]?=some y)(he:¬ eq x y=true):Le eq l (n+1) (k+1) (cur.set k x):=by
 obtain⟨h1,h2,h3,h4,z⟩:=h;refine⟨by rw[AB,h1],by omega,(Ar.1 hx).1,?_,λi hi=>by rw[Cj Fe,z i Fe]⟩;rw[Rq Fe hx hy,if_neg he,<-h4,Bx,DO (Aa k),BI Fe];rfl
def KV (p:α->Bool)(l:List α)(n k:Nat)(cur:List α):Prop:=cur.length=l.length/\k<n/\n<=l.length/\cur.take k=(l.take n).filter (λx=>!p x)/\∀i,n<=i->cur[i]?=l[i]?
def Sy {p:α->Bool}{l:List α}{x:α}(hx:l[n]?=some x):(l.take (n+1)).filter p=if p x=true then(l.take n).filter p++[x]else(l.take n).filter p:=by
 rw[Bx,hx,Bs];split<;>simp [*]
def Ybt {p:α->Bool}{l:List α}{x:α}(hx:l[k]?=some x)(hp:p x=true)(hn:∀i y,i<k->l[i]?=some y->p y=false):KV p l (k+1) k l:=by
 refine⟨rfl,by omega,(Ar.1 hx).1,?_,λ_ _=>rfl⟩;rw[Sy hx,if_neg (by simp [hp])];refine(Bz.2 λy z=>?_).symm;obtain⟨i,hi⟩:=AK z;rw[AX]at hi;split at hi
 ·rename_i H;simp [hn i y H hi]
 ·cases hi
def Xyw {p:α->Bool}{l:List α}{cur:List α}{x:α}(h:KV p l n k cur)(hx:l[n]?=some x)(hp:p x=true):KV p l (n+1) k cur:=by
 obtain⟨h1,h2,h3,h4,z⟩:=h;exact⟨h1,by omega,(Ar.1 hx).1,by rw[Sy hx,if_neg (by simp [hp]),h4],λi hi=>z i Fe⟩
def Xtd {p:α->Bool}{l:List α}{cur:List α}{x:α}(h:KV p l n k cur)(hx:l[n]?=some x)(hp:p x=false):KV p l (n+1) (k+1) (cur.set k x):=by
 obtain⟨h1,h2,h3,h4,z⟩:=h;refine⟨by rw[AB,h1],by omega,(Ar.1 hx).1,?_,λi hi=>by rw[Cj Fe,z i Fe]⟩;rw[Sy hx,if_pos (by simp [hp]),<-h4,Bx,DO (Aa k),BI Fe];rfl
end
end Go.Sp
namespace Go.Vc
open Go.RowKit
section
variable {α:Type}{enc:α->List Value}{sz T B:Nat}{w w':World}{v:Value}{l:List α}
def Ti (henc:∀x,(enc x).length=sz):∀(l:List α) (k:Nat),(l.flatMap enc).take (k*sz)=(l.take k).flatMap enc
 | [],k=>by simp
 | x :: r,0=>by simp
 | x :: r,k+1=>by
  rw[Co,AA,AA,Be,Nat.add_comm,EI,henc,Av (by rw[henc];omega),Nat.add_sub_cancel_left,Ti henc r k]
variable {k:Nat}
def Own.cut (henc:∀x,(enc x).length=sz)(h:Own enc sz T B w v l)(hk:k<=l.length):Own enc sz T B w (Hg sz v 0 k) (l.take k):=by
 obtain⟨h1,h2⟩:=h.row;refine⟨by rw[FG henc],?_⟩;rcases h2 with⟨rfl,h0⟩|⟨g,cap,cur,rfl,hB,hc,hn,hm,hs,ht⟩
 ·have:l=[]:=A0 h0;subst this;exact .inl ⟨rfl,by simp⟩
 ·refine .inr ⟨g,cap,cur,?_,hB,hc,by rw[AE];omega,hm,hs,?_⟩
  ·simp only [Hg,Cw,C8,Addr.add,Ce,ite_self,AE,B0 hk]
  ·rw[AE,B0 hk,<-Ti henc,<-ht,De,B0 (AW _ hk)]
def Xoy {v:Value}{sz n:Nat}(hv:Gq v n):(Hg sz v 0 k).ownBlock=v.ownBlock:=by
 rcases hv with⟨rfl,_⟩|⟨b,o,c,rfl,_⟩|⟨_,a,c,rfl⟩
 ·rfl
 ·simp [Hg,Value.ownBlock,Addr.add]
 ·simp [Hg,Value.ownBlock,Addr.add]
variable {P:Program}{n:Nat}{E:FF}{ds:List (Option Tmp)}{R:World->World->Prop}{rs:List (Oper×Fl×Bool)}{K:FF->World->Prop}{pos:String}{af:Array Edge}{g:Option (Nat×Bool)}{anc:Bool}{ty:TypeId}
def Yv {dd:Option Tmp}{x:Operand}{t e:Nat}{zs:List Value}(henc:∀x,(enc x).length=sz)(hg:FU ds E g=true)(ht:IS P t=some (e,sz))(hz:KX P e=some zs)(hzs:zs.length=sz)(hsz:0<sz)(hz1:∀z∈zs,z.oneCell'=true)(hown:Own enc sz T B w v l)(hx:ev E x=Hg sz v k l.length)(hk:k<=l.length)(hR:anc=true\/∀w',Mod (λk=>v.ownBlock=some k) w w'->R w w')(h:∀w1,Mod (λk=>v.ownBlock=some k) w w1->w1.heap.size=w.heap.size->Own enc sz T B w1 (Hg sz v 0 k) (l.take k)->Dw P n ds R rs K (GL E dd (.tuple #[])) w1):
  Dw P n ds R ((⟨dd,.call { callee:=.builtin .clear,args:=#[x],argTypes:=#[t] },ty,pos,af,g⟩,.x,anc) :: rs) K E w:=by
 obtain⟨hu,i,hi,hs⟩:=KY ht;obtain⟨z,hh,Z⟩:=Pb (w:=w) hz;have H:∃w1,(Builtin.clear_ #[t] ty #[Hg sz v k l.length]).run P w=.ok (.tuple #[]) w1/\Mod (λk=>v.ownBlock=some k) w w1/\w1.heap.size=w.heap.size/\Own enc sz T B w1 (Hg sz v 0 k) (l.take k):=by
  rcases C5 hk with hk2|hk2
  ·refine⟨w,?_,Mod.refl _ _,rfl,hown.cut henc hk⟩;rcases hown.sl with⟨rfl,_⟩|⟨b,o,c,rfl,_⟩|⟨_,a,c,rfl⟩<;>simp [Builtin.clear_,Hg,hk2,underlying,hu]
  ·have hl:l≠[]:=by rintro rfl;simp at hk2
   have hob:v.ownBlock=some (base v).1:=hown.base_block hl;obtain⟨r1,r2⟩:=hown.row;rcases r2 with⟨_,h0⟩|⟨b,cap,cur,rfl,hB,hc,hn,hm,hcs,htk⟩
   ·exact absurd (A0 h0) hl
   have hb:Fp w b cur.toList T:=by show w.heap[b]?=_;rw[hc]
   have J:cur.toList.length=cap*sz:=by simp [hcs]
   have hlen:l.length*sz<=cur.toList.length:=by rw[J];exact AW _ hn
   subst hzs;have Y:(Builtin.zeroCells z.cells (l.length-k)).toList=(Ap (l.length-k) zs).flatten:=by
    rw[Z];unfold Builtin.zeroCells;exact congrArg Array.toList (Tx zs zs.length (l.length-k) rfl hsz)
   have hvl:((Ap (l.length-k) zs).flatten).length=(l.length-k)*zs.length:=by simp [List.length_flatten,List.map_replicate,List.sum_replicate_nat]
   have hkl:k*zs.length+(l.length-k)*zs.length=l.length*zs.length:=by rw[<-Nat.add_mul];congr 1;omega
   obtain⟨w1,e1,e2,e3,e4⟩:=Y0 (P:=P) (b:=b) (o:=k*zs.length) (T:=T) ((Ap (l.length-k) zs).flatten) 0 cur.toList w hb Fe (λu hu=>by
    obtain⟨q,hq,O⟩:=List.mem_flatten.1 hu;rw[List.eq_of_mem_replicate hq]at O;exact hz1 u O)
   obtain⟨m,hm2⟩:∃m,l.length-k=m+1:=⟨l.length-k-1,by omega⟩;have hf:Hg zs.length (.slice (some ⟨b,0,none⟩) l.length cap) k l.length=.slice (some ⟨b,k*zs.length,none⟩) (m+1) (cap-k):=by
    simp only [Hg,Addr.add,A5,hm2];rw[if_neg Fe]
    by_cases hk0:k*zs.length=0
    ·rw[if_pos hk0,hk0]
    ·rw[if_neg hk0]
   refine⟨w1,?_,e3.mono (λi hi _=>by have:i=b:=hi;rw[this];rfl),e4,?_⟩
   ·have ha:(storeCells ⟨b,k*zs.length,none⟩ (Builtin.zeroCells z.cells (m+1)).toList).run P w=.ok () w1:=by rw[<-hm2,Y];exact e1
    rw[hf];simp [Builtin.clear_,underlying,hu,hh,ha]
   ·refine⟨by rw[FG henc],.inr ⟨b,cap,⟨Gw cur.toList (k*zs.length+0) ((Ap (l.length-k) zs).flatten)⟩,?_,hB,e2,by rw[AE];omega,hm,by simp only [List.size_toArray];rw[RB,J],?_⟩⟩
    ·simp only [Hg,Cw,C8,Addr.add,Ce,ite_self,AE,B0 hk]
    ·rw[AE,B0 hk,<-Ti henc,<-htk,De,B0 (AW _ hk)]
     apply BF
     intro i;simp only [AX];split
     ·rw[Ol _ _ _ _ Fe,if_neg Fe]
     ·rfl
 obtain⟨w1,hr,h1,h2,h3⟩:=H;refine IA (v:=.tuple #[]) (w':=w1) hg ?_ (λe=>hR.elim (λh=>by rw[h]at e;cases e) (λh=>h _ h1)) (h _ h1 h2 h3);simp [execOp,resolve,invoke,builtin,hx,hr]
end
end Go.Vc
namespace Go.Proofs.YtiooodckiddpmaaGreatDoor
open Go.Vc Go.Sp
attribute [local irreducible] W XW Dw GC
def MX {P:Program}{E:FF}{dd:Option Tmp}{ty:TypeId}{pos:String}{af:Array Edge}{g:Option (Nat×Bool)}{x y:Operand}{T U:TypeId}{u:Nat}{ky:IntKind}(hx:ev E x=.int .u64 u)(hy:ev E y=.int ky 1):PV P ⟨dd,.binOp .shr T x y U,ty,pos,af,g⟩ E (.int .u64 (u / 2:Nat)):=by
 have:=NV (P:=P) (dd:=dd) (ty:=ty) (pos:=pos) (af:=af) (g:=g) (T:=T) (U:=U) hx hy Fo;rwa [show((u:Int)).fdiv (2 ^ min (1:Int).toNat IntKind.u64.bits)=((u / 2:Nat):Int) by
  rw[show(2:Int) ^ min (1:Int).toNat IntKind.u64.bits=2 by decide,Int.fdiv_eq_ediv_of_nonneg _ Fe];omega]at this
def FZ {α:Type}(c:α->α->Int)(x y:α):Bool:=decide (c x y<0)
def Kz {α:Type}{enc:α->List Value}{sz T B:Nat}{w:World}{v:Value}{l:List α}(h:Vc.Own enc sz T B w v l)(hl:l≠[]):(base v).2=0:=by
 obtain⟨cs,cap,e,_⟩:=h.cells hl;rw[e];rfl
def YC (l:List Cell)(v:Value)(Bo f:Nat)(c:Cell->Cell->Int)(w:World)(ho:Vc.Own Cell.cs 4 79 Bo w v l)(hl:l.length<=10000000)(hcb:Hr Tryz.prog f=true)(hc:∀w2 x y,Calls Tryz.prog f [Cell.v x,Cell.v y].toArray w2 (Pure w2 (I (c x y))))(O:Ord (FZ c))(a b:Nat)(hab:a<=b)(hb:b<=l.length) :
  G4 252 [v,I ↑a,I ↑b,Hf f] w (λk=>v.ownBlock=some k) λu w'=>u=.tuple #[]/\∃l',Vc.Own Cell.cs 4 79 Bo w' v l'/\Hj (FZ c) a b l l':=by
 refine cM Tryz.func252 (λk=>v.ownBlock=some k) λH=>F8 (G:=Nat×List Cell) (λ(i,cur)=>[(0,v),(1,I ↑a),(2,I ↑b),(3,Hf f),(8,I ↑i)]) (λ(i,cur) w'=>Mod (λk=>v.ownBlock=some k) w w'/\a+1<=i/\Hj (FZ c) a (min i b) l cur/\Vc.Own Cell.cs 4 79 Bo w' v cur) (λ(i,cur)=>b-i) (a+1,l) ⟨H,Aa _,Hj.one l Fe Fe Fe,ho⟩ ?_;rintro _ ⟨i,cur⟩ w1 ⟨H,hi1,hs,ho⟩;refine Fk (λc1=>?_) λc1=>?_
 ·have ha:Hj (FZ c) a i l cur:=by rw[B0 Fe]at hs;exact hs
  refine F8 (G:=Nat×List Cell) (λ(j,cur2)=>[(0,v),(1,I ↑a),(2,I ↑b),(3,Hf f),(8,I ↑i),(9,I ↑j)]) (λ(j,cur2) w'=>Mod (λk=>v.ownBlock=some k) w w'/\JY (FZ c) a i j l cur2/\Vc.Own Cell.cs 4 79 Bo w' v cur2) (λ(j,cur2)=>j) (i,cur) ⟨H,WW ha Fe,ho⟩ ?_;rintro _ ⟨j,cur2⟩ w2 ⟨H,hj,ho⟩;refine Gt 100510000100000000 λw3 x3=>Fy x3 ho H λho H=>?_;refine FJ 21 (λc2=>?_) λc2=>?_
  ·have hf:=hj.len;obtain⟨x,hxj⟩:∃x,cur2[j]?=some x:=F7;obtain⟨z,hzj⟩:∃x,cur2[j-1]?=some x:=F7;have Z:=Kz ho (λe=>by rw[e]at hxj;simp at hxj);refine go ?_;refine di 79 4 (ho.arr Fg).sl rfl ((ho.arr Fg).lt hxj) (Gh rfl (λw' hR=>Fx Ff rfl rfl (((ho.arr Fg).ext hR).row hxj)) (gn ?_));refine F3 (v:=I ↑(j-1)) rfl (G7 rfl rfl FH) FY (di 79 4 (ho.arr Fg).sl rfl ((ho.arr Fg).lt hzj) (Gh rfl (λw' hR=>Fx Ff rfl rfl (((ho.arr Fg).ext hR).row hzj)) (Mm (vs:=[x.v,z.v]) rfl rfl hcb (hc _ x z) rfl RX.all (λw4 x4=>Fy x4 ho H λho H=>?_))));refine Fk (λc3=>?_) λc3=>?_
   ·have hg:FZ c x z=true:=by simpa [FZ]using c3
    refine Gt 1505010001000000000 λw5 x5=>Fy x5 ho H λho H=>?_;refine gn ?_;refine F3 (v:=I ↑(j-1)) rfl (G7 rfl rfl FH) FY (gn ?_);refine F3 (v:=I ↑(j-1)) rfl (G7 rfl rfl FH) FY (di 79 4 (ho.arr Fg).sl rfl ((ho.arr Fg).lt hzj) (Gh rfl (λw' hR=>Fx Ff rfl rfl (((ho.arr Fg).ext hR).row hzj)) (go ?_)));refine di 79 4 (ho.arr Fg).sl rfl ((ho.arr Fg).lt hxj) (Gh rfl (λw' hR=>Fx Ff rfl rfl (((ho.arr Fg).ext hR).row hxj)) (F3 (v:=Fh (base v).1 (j*4+0)) rfl (Ir (i:=j) (e:=79) (k:=4) Ff ho.sl rfl rfl (by omega)) (by rw[Z];show Fh _ (0+_)=_;rw[A5];rfl) ?_));refine Ie (enc:=Cell.cs) (sz:=4) (l:=cur2) (i:=j) (j:=0) (x:=z) (vs:=z.cs) Fg rfl ho rfl rfl rfl Ff (by omega) rfl (Aa 4) (by intro v hv;simp at hv;rcases hv with rfl|rfl|rfl|rfl<;>rfl) (.inl rfl) (λw6 x6 xs6 J=>?_);have H:=H.own x6 F5;have ho:=J;refine F3 (v:=Fh (base v).1 ((j-1)*4+0)) rfl (Ir (i:=(j-1)) (e:=79) (k:=4) Ff ho.sl rfl rfl (by rw[AB];omega)) (by rw[Z];show Fh _ (0+_)=_;rw[A5];rfl) ?_;refine Ie (enc:=Cell.cs) (sz:=4) (l:=(cur2.set j z)) (i:=(j-1)) (j:=0) (x:=x) (vs:=x.cs) Fg rfl ho rfl rfl rfl Ff (by rw[AB];omega) rfl (Aa 4) (by intro v hv;simp at hv;rcases hv with rfl|rfl|rfl|rfl<;>rfl) (.inl rfl) (λw7 x7 xs7 J=>?_);have H:=H.own x7 F5;have ho:=J;refine gn ?_;refine F3 (v:=I ↑(j-1)) rfl (G7 rfl rfl FH) FY (go ?_);exact⟨(j-1,_),HW,⟨H,Vx hj Fe hxj hzj hg,ho⟩,by simp only [];omega⟩
   have Y:Hj (FZ c) a (i+1) l cur2:=QP O hj (.inr ⟨x,z,hxj,hzj,by simpa [FZ]using c3⟩);refine go ?_;exact FL (i+1,cur2) ⟨H,by omega,by rw[B0 Fe];exact Y,ho⟩
  have hf:=hj.len;have Y:Hj (FZ c) a (i+1) l cur2:=QP O hj (.inl Fe);refine go ?_;refine GS rfl (go ?_);exact FL (i+1,cur2) ⟨H,by omega,by rw[B0 Fe];exact Y,ho⟩
 refine go ?_;refine Ig (H6 rfl ?_);rw[EK Fe]at hs;exact⟨_,rfl,H,rfl,cur,ho,hs⟩
def SI (l:List Cell)(v:Value)(Bo f:Nat)(w:World)(ho:Vc.Own Cell.cs 4 79 Bo w v l)(hl:l.length<=10000000)(a b n:Nat)(h1:a+n<=b)(h2:b+n<=l.length) :
  G4 328 [v,I ↑a,I ↑b,I ↑n,Hf f] w (λk=>v.ownBlock=some k) λu w'=>u=.tuple #[]/\∃l',Vc.Own Cell.cs 4 79 Bo w' v l'/\MM a b n l l':=by
 refine cM Tryz.func328 (λk=>v.ownBlock=some k) λH=>F8 (G:=Nat×List Cell) (λ(i,cur)=>[(0,v),(1,I ↑a),(2,I ↑b),(3,I ↑n),(10,I ↑i)]) (λ(i,cur) w'=>Mod (λk=>v.ownBlock=some k) w w'/\Na a b n i l cur/\Vc.Own Cell.cs 4 79 Bo w' v cur) (λ(i,cur)=>n-i) (0,l) ⟨H,VZ h1 h2,ho⟩ ?_;rintro _ ⟨i,cur⟩ w1 ⟨H,hr,ho⟩;refine Fk (λZ=>?_) λZ=>?_
 ·have O:=hr.len;obtain⟨x,hxi⟩:∃x,cur[a+i]?=some x:=F7;obtain⟨y,hyi⟩:∃x,cur[b+i]?=some x:=F7;have J:=Kz ho (λe=>by rw[e]at hxi;simp at hxi);refine Gt 1505010000010000000000000 λw2 x2=>Fy x2 ho H λho H=>?_;refine gn ?_;refine F3 (v:=I ↑(a+i)) rfl (GK rfl rfl FH) rfl (gn ?_);refine F3 (v:=I ↑(b+i)) rfl (GK rfl rfl FH) rfl (gn ?_);refine F3 (v:=I ↑(b+i)) rfl (GK rfl rfl FH) rfl (di 79 4 (ho.arr Fg).sl rfl ((ho.arr Fg).lt hyi) (Gh rfl (λw' hR=>Fx Ff rfl rfl (((ho.arr Fg).ext hR).row hyi)) (gn ?_)));refine F3 (v:=I ↑(a+i)) rfl (GK rfl rfl FH) rfl (di 79 4 (ho.arr Fg).sl rfl ((ho.arr Fg).lt hxi) (Gh rfl (λw' hR=>Fx Ff rfl rfl (((ho.arr Fg).ext hR).row hxi)) (F3 (v:=Fh (base v).1 ((a+i)*4+0)) rfl (Ir (i:=(a+i)) (e:=79) (k:=4) Ff ho.sl rfl rfl (by omega)) (by rw[J];show Fh _ (0+_)=_;rw[A5];rfl) ?_)));refine Ie (enc:=Cell.cs) (sz:=4) (l:=cur) (i:=(a+i)) (j:=0) (x:=y) (vs:=y.cs) Fg rfl ho rfl rfl rfl Ff (by omega) rfl (Aa 4) (by intro v hv;simp at hv;rcases hv with rfl|rfl|rfl|rfl<;>rfl) (.inl rfl) (λw3 Y xs3 z=>?_);have H:=H.own Y F5;have ho:=z;refine F3 (v:=Fh (base v).1 ((b+i)*4+0)) rfl (Ir (i:=(b+i)) (e:=79) (k:=4) Ff ho.sl rfl rfl (by rw[AB];omega)) (by rw[J];show Fh _ (0+_)=_;rw[A5];rfl) ?_;refine Ie (enc:=Cell.cs) (sz:=4) (l:=(cur.set (a+i) y)) (i:=(b+i)) (j:=0) (x:=x) (vs:=x.cs) Fg rfl ho rfl rfl rfl Ff (by rw[AB];omega) rfl (Aa 4) (by intro v hv;simp at hv;rcases hv with rfl|rfl|rfl|rfl<;>rfl) (.inl rfl) (λw4 x4 xs4 z=>?_);have H:=H.own x4 F5;have ho:=z;refine go ?_;exact⟨(i+1,_),Hc,⟨H,YJ hr Fe hxi hyi,ho⟩,by simp only [];omega⟩
 refine go ?_;refine Ig (H6 rfl ?_);have O:=hr.len;rw[show i=n by omega]at hr;exact⟨_,rfl,H,rfl,cur,ho,Vn hr⟩
def Ybu (l:List Cell)(v:Value)(Bo f:Nat)(w:World)(ho:Vc.Own Cell.cs 4 79 Bo w v l)(hl:l.length<=10000000)(a m b:Nat)(h1:a<m)(h2:m<b)(h3:b<=l.length) :
  G4 306 [v,I ↑a,I ↑m,I ↑b,Hf f] w (λk=>v.ownBlock=some k) λu w'=>u=.tuple #[]/\∃l',Vc.Own Cell.cs 4 79 Bo w' v l'/\l'=Jt l a m b:=by
 refine cM Tryz.func306 (λk=>v.ownBlock=some k) λH=>gn ?_;refine F3 (v:=I ↑(m-a)) rfl (G7 rfl rfl FH) FY (gn ?_);refine F3 (v:=I ↑(b-m)) rfl (G7 rfl rfl FH) FY (F8 (G:=Nat×Nat×List Cell) (λ(i,j,cur)=>[(0,v),(2,I ↑m),(4,Hf f),(10,I ↑i),(11,I ↑j)]) (λ(i,j,cur) w'=>Mod (λk=>v.ownBlock=some k) w w'/\0<i/\0<j/\cur.length=l.length/\Jo m i j (Jt l a m b) cur/\Vc.Own Cell.cs 4 79 Bo w' v cur) (λ(i,j,cur)=>i+j) (m-a,b-m,l) ⟨H,by omega,by omega,rfl,PS Fe Fe h3,ho⟩ ?_);rintro _ ⟨i,j,cur⟩ w1 ⟨H,hi0,hj0,hcl,hr,ho⟩;refine Fk (λc1=>?_) λc1=>?_
 ·have hc:=hr.len;refine Fk (λc2=>?_) λc2=>?_
  ·refine gn ?_;refine F3 (v:=I ↑(m-i)) rfl (G7 rfl rfl FH) FY (Gz (SI cur v Bo f _ ho Fe (m-i) m j Fe Fe) λu2 w2 x2 ha=>?_);have hsz2:=H.size;have H:=H.own x2 F5;obtain⟨rfl,z,ho,O⟩:=ha;refine gn ?_;refine F3 (v:=I ↑(i-j)) rfl (G7 rfl rfl FH) FY (go ?_);have J:=YB hr Fe O;exact FL (i-j,j,z) ⟨H,by omega,hj0,(J.len.1.trans (hr.len.1.symm.trans hcl)),J,ho⟩
  refine gn ?_;refine F3 (v:=I ↑(m-i)) rfl (G7 rfl rfl FH) FY (gn ?_);refine F3 (v:=I ↑(m+j)) rfl (GK rfl rfl FH) rfl (gn ?_);refine F3 (v:=I ↑(m+j-i)) rfl (G7 rfl rfl FH) FY (Gz (SI cur v Bo f _ ho Fe (m-i) (m+j-i) i Fe Fe) λu3 w3 x3 hf=>?_);have hsz3:=H.size;have H:=H.own x3 F5;obtain⟨rfl,z,ho,O⟩:=hf;refine gn ?_;refine F3 (v:=I ↑(j-i)) rfl (G7 rfl rfl FH) FY (go ?_);have J:=UQ hr Fe O;exact FL (i,j-i,z) ⟨H,hi0,by omega,(J.len.1.trans (hr.len.1.symm.trans hcl)),J,ho⟩
 have hc:=hr.len;have Y:i=j:=by omega
 subst Y;refine gn ?_;refine F3 (v:=I ↑(m-i)) rfl (G7 rfl rfl FH) FY (Gz (SI cur v Bo f _ ho Fe (m-i) m i Fe Fe) λu4 w4 x4 Z=>?_);have hsz4:=H.size;have H:=H.own x4 F5;obtain⟨rfl,z,ho,O⟩:=Z;refine go ?_;refine Ig (H6 rfl ?_);exact⟨_,rfl,H,rfl,z,ho,Yi hr O⟩
def X5n (v:Value)(Bo f:Nat)(c:Cell->Cell->Int)(N:Nat):Prop:=∀(l:List Cell) (w:World) (a m b:Nat),b-a<N->Vc.Own Cell.cs 4 79 Bo w v l->l.length<=10000000->a<m->m<b->b<=l.length->SM (FZ c) a m b l->Calls Tryz.prog 253 [v,I ↑a,I ↑m,I ↑b,Hf f].toArray w (Hp (λk=>v.ownBlock=some k) w (λu w'=>u=.tuple #[]/\∃l',Vc.Own Cell.cs 4 79 Bo w' v l'/\Hj (FZ c) a b l l'))
def Ybv (l:List Cell)(v:Value)(Bo f:Nat)(c:Cell->Cell->Int)(w:World)(ho:Vc.Own Cell.cs 4 79 Bo w v l)(hl:l.length<=10000000)(hcb:Hr Tryz.prog f=true)(hc:∀w2 x y,Calls Tryz.prog f [Cell.v x,Cell.v y].toArray w2 (Pure w2 (I (c x y))))(O:Ord (FZ c))(a m b:Nat)(ham:a<m)(hmb:m<b)(hb:b<=l.length)(hsm:SM (FZ c) a m b l)(ih:X5n v Bo f c (b-a)) :
  G4 253 [v,I ↑a,I ↑m,I ↑b,Hf f] w (λk=>v.ownBlock=some k) λu w'=>u=.tuple #[]/\∃l',Vc.Own Cell.cs 4 79 Bo w' v l'/\Hj (FZ c) a b l l':=by
 refine cM Tryz.func253 (λk=>v.ownBlock=some k) λz=>?_;refine Fk (λc1=>?_) λc1=>?_
 ·have hw:m=a+1:=by omega
  refine F8 (G:=Nat×Nat) (λ(i,j)=>[(0,v),(1,I ↑a),(2,I ↑m),(3,I ↑b),(4,Hf f),(10,I ↑i),(11,I ↑j)]) (λ(i,j) w'=>Mod (λk=>v.ownBlock=some k) w w'/\m<=i/\i<=j/\j<=b/\(j=b\/∃x y,l[a]?=some x/\l[j]?=some y/\FZ c y x=false)/\(i=m\/∃x y,l[a]?=some x/\l[i-1]?=some y/\FZ c y x=true)/\Vc.Own Cell.cs 4 79 Bo w' v l) (λ(i,j)=>j-i) (m,b) ⟨z,Aa _,by omega,Aa _,.inl rfl,.inl rfl,ho⟩ ?_;rintro _ ⟨i,j⟩ w1 ⟨z,hi,hij,hjb,hup,hlo,ho⟩;refine Fk (λc2=>?_) λc2=>?_
  ·obtain⟨x,hxa⟩:∃x,l[a]?=some x:=F7;obtain⟨y,hyh⟩:∃x,l[(i+j) / 2]?=some x:=F7;refine gn ?_;refine F3 (v:=I ↑(i+j)) rfl (GK rfl rfl FH) rfl (F3 (v:=.int .u64 ↑(i+j)) rfl (Lq (n:=i+j) (k:=.i64) Fe rfl Ff Ff) rfl (dp (MX (u:=i+j) rfl rfl) (dp (Me (n:=(i+j) / 2) Fe rfl Ff Ff) (Gt 105100010000 λw2 x2=>Fy x2 ho z λho z=>?_))));refine go ?_;refine di 79 4 (ho.arr Fg).sl rfl ((ho.arr Fg).lt hyh) (Gh rfl (λw' hR=>Fx Ff rfl rfl (((ho.arr Fg).ext hR).row hyh)) (go ?_));refine di 79 4 (ho.arr Fg).sl rfl ((ho.arr Fg).lt hxa) (Gh rfl (λw' hR=>Fx Ff rfl rfl (((ho.arr Fg).ext hR).row hxa)) (Mm (vs:=[y.v,x.v]) rfl rfl hcb (hc _ y x) rfl RX.all (λw3 x3=>Fy x3 ho z λho z=>?_)));refine Fk (λc3=>?_) λc3=>?_
   ·have Z:FZ c y x=true:=by simpa [FZ]using c3
    refine go ?_;exact⟨((i+j) / 2+1,j),Ho,⟨z,by omega,by omega,hjb,hup,.inr ⟨x,y,hxa,by rw[Ca];exact hyh,Z⟩,ho⟩,by simp only [];omega⟩
   have Z:FZ c y x=false:=by simpa [FZ]using c3
   refine go ?_;exact⟨(i,(i+j) / 2),Ho,⟨z,hi,by omega,by omega,.inr ⟨x,y,hxa,hyh,Z⟩,hlo,ho⟩,by simp only [];omega⟩
  refine F8 (G:=Nat×List Cell) (λ(k,cur)=>[(0,v),(1,I ↑a),(2,I ↑m),(3,I ↑b),(4,Hf f),(10,I ↑i),(13,I ↑k)]) (λ(k,cur) w'=>Mod (λk=>v.ownBlock=some k) w w'/\MU a k l cur/\k<=i-1/\Vc.Own Cell.cs 4 79 Bo w' v cur) (λ(k,cur)=>i-k) (a,l) ⟨z,Y5 Fe,by omega,ho⟩ ?_;rintro _ ⟨k,cur⟩ w4 ⟨z,hk,hki,ho⟩;refine Fk (λc4=>?_) λc4=>?_
  ·have hr:=hk.len;obtain⟨x,hxk⟩:∃x,cur[k]?=some x:=F7;obtain⟨y,hyk⟩:∃x,cur[k+1]?=some x:=F7;have hj:=Kz ho (λe=>by rw[e]at hxk;simp at hxk);refine Gt 1505010001000000000 λw5 x5=>Fy x5 ho z λho z=>?_;refine gn ?_;refine F3 (v:=I ↑(k+1)) rfl (GK rfl rfl FH) rfl (gn ?_);refine F3 (v:=I ↑(k+1)) rfl (GK rfl rfl FH) rfl (di 79 4 (ho.arr Fg).sl rfl ((ho.arr Fg).lt hyk) (Gh rfl (λw' hR=>Fx Ff rfl rfl (((ho.arr Fg).ext hR).row hyk)) (go ?_)));refine di 79 4 (ho.arr Fg).sl rfl ((ho.arr Fg).lt hxk) (Gh rfl (λw' hR=>Fx Ff rfl rfl (((ho.arr Fg).ext hR).row hxk)) (F3 (v:=Fh (base v).1 (k*4+0)) rfl (Ir (i:=k) (e:=79) (k:=4) Ff ho.sl rfl rfl (by omega)) (by rw[hj];show Fh _ (0+_)=_;rw[A5];rfl) ?_));refine Ie (enc:=Cell.cs) (sz:=4) (l:=cur) (i:=k) (j:=0) (x:=y) (vs:=y.cs) Fg rfl ho rfl rfl rfl Ff (by omega) rfl (Aa 4) (by intro v hv;simp at hv;rcases hv with rfl|rfl|rfl|rfl<;>rfl) (.inl rfl) (λw6 x6 xs6 ha=>?_);have z:=z.own x6 F5;have ho:=ha;refine F3 (v:=Fh (base v).1 ((k+1)*4+0)) rfl (Ir (i:=(k+1)) (e:=79) (k:=4) Ff ho.sl rfl rfl (by rw[AB];omega)) (by rw[hj];show Fh _ (0+_)=_;rw[A5];rfl) ?_;refine Ie (enc:=Cell.cs) (sz:=4) (l:=(cur.set k y)) (i:=(k+1)) (j:=0) (x:=x) (vs:=x.cs) Fg rfl ho rfl rfl rfl Ff (by rw[AB];omega) rfl (Aa 4) (by intro v hv;simp at hv;rcases hv with rfl|rfl|rfl|rfl<;>rfl) (.inl rfl) (λw7 x7 xs7 ha=>?_);have z:=z.own x7 F5;have ho:=ha;refine go ?_;exact⟨(k+1,_),Ho,⟨z,Xs8 hk hxk hyk,by omega,ho⟩,by simp only [];omega⟩
  refine go ?_;refine H6 rfl ?_;have hr:=hk.len;have:k=i-1:=by omega
  subst this;have hp:i=j:=by omega
  subst hp;exact⟨_,rfl,z,rfl,cur,ho,Wt O hsm hw hi hjb hk hup hlo⟩
 refine Fk (λc5=>?_) λc5=>?_
 ·have hw:b=m+1:=by omega
  refine F8 (G:=Nat×Nat) (λ(i,j)=>[(0,v),(1,I ↑a),(2,I ↑m),(3,I ↑b),(4,Hf f),(14,I ↑i),(15,I ↑j)]) (λ(i,j) w'=>Mod (λk=>v.ownBlock=some k) w w'/\a<=i/\i<=j/\j<=m/\(j=m\/∃x y,l[m]?=some x/\l[j]?=some y/\FZ c x y=true)/\(i=a\/∃x y,l[m]?=some x/\l[i-1]?=some y/\FZ c x y=false)/\Vc.Own Cell.cs 4 79 Bo w' v l) (λ(i,j)=>j-i) (a,m) ⟨z,Aa _,by omega,Aa _,.inl rfl,.inl rfl,ho⟩ ?_;rintro _ ⟨i,j⟩ w8 ⟨z,hi,hij,hjb,hup,hlo,ho⟩;refine Fk (λc6=>?_) λc6=>?_
  ·obtain⟨x,hxm⟩:∃x,l[m]?=some x:=F7;obtain⟨y,hyh⟩:∃x,l[(i+j) / 2]?=some x:=F7;refine gn ?_;refine F3 (v:=I ↑(i+j)) rfl (GK rfl rfl FH) rfl (F3 (v:=.int .u64 ↑(i+j)) rfl (Lq (n:=i+j) (k:=.i64) Fe rfl Ff Ff) rfl (dp (MX (u:=i+j) rfl rfl) (dp (Me (n:=(i+j) / 2) Fe rfl Ff Ff) (Gt 1005100010000 λw9 x9=>Fy x9 ho z λho z=>?_))));refine go ?_;refine di 79 4 (ho.arr Fg).sl rfl ((ho.arr Fg).lt hxm) (Gh rfl (λw' hR=>Fx Ff rfl rfl (((ho.arr Fg).ext hR).row hxm)) (go ?_));refine di 79 4 (ho.arr Fg).sl rfl ((ho.arr Fg).lt hyh) (Gh rfl (λw' hR=>Fx Ff rfl rfl (((ho.arr Fg).ext hR).row hyh)) (Mm (vs:=[x.v,y.v]) rfl rfl hcb (hc _ x y) rfl RX.all (λw10 xj=>Fy xj ho z λho z=>?_)));refine Gb (λc7=>?_) λc7=>?_
   ·have Z:FZ c x y=false:=by simpa [FZ]using c7
    refine go ?_;exact⟨((i+j) / 2+1,j),Ho,⟨z,by omega,by omega,hjb,hup,.inr ⟨x,y,hxm,by rw[Ca];exact hyh,Z⟩,ho⟩,by simp only [];omega⟩
   have Z:FZ c x y=true:=by simpa [FZ]using c7
   refine go ?_;exact⟨(i,(i+j) / 2),Ho,⟨z,hi,by omega,by omega,.inr ⟨x,y,hxm,hyh,Z⟩,hlo,ho⟩,by simp only [];omega⟩
  refine F8 (G:=Nat×List Cell) (λ(k,cur)=>[(0,v),(1,I ↑a),(2,I ↑m),(3,I ↑b),(4,Hf f),(14,I ↑i),(17,I ↑k)]) (λ(k,cur) w'=>Mod (λk=>v.ownBlock=some k) w w'/\MS m k l cur/\i<=k/\Vc.Own Cell.cs 4 79 Bo w' v cur) (λ(k,cur)=>k) (m,l) ⟨z,Uu Fe,by omega,ho⟩ ?_;rintro _ ⟨k,cur⟩ w11 ⟨z,hk,hki,ho⟩;refine Fk (λc8=>?_) λc8=>?_
  ·have hr:=hk.len;obtain⟨x,hxk⟩:∃x,cur[k]?=some x:=F7;obtain⟨y,hyk⟩:∃x,cur[k-1]?=some x:=F7;have hj:=Kz ho (λe=>by rw[e]at hxk;simp at hxk);refine Gt 1505010001000000000 λw12 h7=>Fy h7 ho z λho z=>?_;refine gn ?_;refine F3 (v:=I ↑(k-1)) rfl (G7 rfl rfl FH) FY (gn ?_);refine F3 (v:=I ↑(k-1)) rfl (G7 rfl rfl FH) FY (di 79 4 (ho.arr Fg).sl rfl ((ho.arr Fg).lt hyk) (Gh rfl (λw' hR=>Fx Ff rfl rfl (((ho.arr Fg).ext hR).row hyk)) (go ?_)));refine di 79 4 (ho.arr Fg).sl rfl ((ho.arr Fg).lt hxk) (Gh rfl (λw' hR=>Fx Ff rfl rfl (((ho.arr Fg).ext hR).row hxk)) (F3 (v:=Fh (base v).1 (k*4+0)) rfl (Ir (i:=k) (e:=79) (k:=4) Ff ho.sl rfl rfl (by omega)) (by rw[hj];show Fh _ (0+_)=_;rw[A5];rfl) ?_));refine Ie (enc:=Cell.cs) (sz:=4) (l:=cur) (i:=k) (j:=0) (x:=y) (vs:=y.cs) Fg rfl ho rfl rfl rfl Ff (by omega) rfl (Aa 4) (by intro v hv;simp at hv;rcases hv with rfl|rfl|rfl|rfl<;>rfl) (.inl rfl) (λw13 xk xs13 ha=>?_);have z:=z.own xk F5;have ho:=ha;refine F3 (v:=Fh (base v).1 ((k-1)*4+0)) rfl (Ir (i:=(k-1)) (e:=79) (k:=4) Ff ho.sl rfl rfl (by rw[AB];omega)) (by rw[hj];show Fh _ (0+_)=_;rw[A5];rfl) ?_;refine Ie (enc:=Cell.cs) (sz:=4) (l:=(cur.set k y)) (i:=(k-1)) (j:=0) (x:=x) (vs:=x.cs) Fg rfl ho rfl rfl rfl Ff (by rw[AB];omega) rfl (Aa 4) (by intro v hv;simp at hv;rcases hv with rfl|rfl|rfl|rfl<;>rfl) (.inl rfl) (λw14 h8 xs14 ha=>?_);have z:=z.own h8 F5;have ho:=ha;refine gn ?_;refine F3 (v:=I ↑(k-1)) rfl (G7 rfl rfl FH) FY (go ?_);exact⟨(k-1,_),Ho,⟨z,UZ hk Fe hxk hyk,by omega,ho⟩,by simp only [];omega⟩
  refine go ?_;refine H6 rfl ?_;have hr:=hk.len;have:k=i:=by omega
  subst this;have hp:k=j:=by omega
  subst hp;exact⟨_,rfl,z,rfl,cur,ho,Y6 O hsm hw hi hjb hk hup hlo⟩
 have ham2:a+2<=m:=by omega
 have hmb2:m+2<=b:=by omega
 refine gn ?_;refine F3 (v:=I ↑(a+b)) rfl (GK rfl rfl FH) rfl (F3 (v:=.int .u64 ↑(a+b)) rfl (Lq (n:=a+b) (k:=.i64) Fe rfl Ff Ff) rfl (dp (MX (u:=a+b) rfl rfl) (dp (Me (n:=(a+b) / 2) Fe rfl Ff Ff) (gn ?_))));refine F3 (v:=I ↑((a+b) / 2+m)) rfl (GK rfl rfl FH) rfl (g0 ?_);refine wS (g0 ?_);refine GP (G:=Nat×Nat) (λ(s0,r0)=>[(0,v),(1,I ↑a),(2,I ↑m),(3,I ↑b),(4,Hf f),(18,I ↑((a+b) / 2)),(19,I ↑((a+b) / 2+m)),(20,I ↑s0),(21,I ↑r0)]) (λ(s0,r0) w'=>Mod (λk=>v.ownBlock=some k) w w'/\a<=s0/\s0<=r0/\r0<=m/\(s0=a\/(a+b) / 2+m-s0=b)/\(r0=m\/(a+b) / 2+m-r0=m)/\(a+b) / 2+m-s0<=b/\m<=(a+b) / 2+m-r0/\Vc.Own Cell.cs 4 79 Bo w' v l) ?_ ?_
 ·refine Fk (λc9=>?_) λc9=>?_
  ·have xd:(a+b) / 2<m:=by omega
   refine gn ?_;refine F3 (v:=I ↑((a+b) / 2+m-b)) rfl (G7 rfl rfl FH) FY (go ?_);exact⟨((a+b) / 2+m-b,(a+b) / 2),KZ,z,by omega,by omega,by omega,.inr Fe,.inr Fe,by omega,by omega,ho⟩
  have xd:m<=(a+b) / 2:=by omega
  refine go ?_;exact⟨(a,m),KZ,z,by omega,by omega,by omega,.inl rfl,.inl rfl,by omega,by omega,ho⟩
 rintro _ ⟨s0,r0⟩ w15 ⟨z,q0,q1,q2,q3,q4,q5,q6,ho⟩;refine gn ?_;refine F3 (v:=I ↑((a+b) / 2+m-1)) rfl (G7 rfl rfl FH) FY (F8 (G:=Nat×Nat) (λ(s,r)=>[(0,v),(1,I ↑a),(2,I ↑m),(3,I ↑b),(4,Hf f),(18,I ↑((a+b) / 2)),(19,I ↑((a+b) / 2+m)),(20,I ↑s),(21,I ↑r),(22,I ↑((a+b) / 2+m-1))]) (λ(s,r) w'=>Mod (λk=>v.ownBlock=some k) w w'/\s0<=s/\s<=r/\r<=r0/\(s=s0\/∃x y,l[s-1]?=some x/\l[(a+b) / 2+m-s]?=some y/\FZ c y x=false)/\(r=r0\/∃x y,l[r]?=some x/\l[(a+b) / 2+m-1-r]?=some y/\FZ c y x=true)/\Vc.Own Cell.cs 4 79 Bo w' v l) (λ(s,r)=>r-s) (s0,r0) ⟨z,Aa _,q1,Aa _,.inl rfl,.inl rfl,ho⟩ ?_);rintro _ ⟨s,r⟩ w16 ⟨z,hs0,hsr1,hr0,hlo,hhi,ho⟩;refine Fk (λh9=>?_) λh9=>?_
 ·obtain⟨y,hyh⟩:∃x,l[(a+b) / 2+m-1-(s+r) / 2]?=some x:=F7;obtain⟨x,hxc⟩:∃x,l[(s+r) / 2]?=some x:=F7;refine gn ?_;refine F3 (v:=I ↑(s+r)) rfl (GK rfl rfl FH) rfl (F3 (v:=.int .u64 ↑(s+r)) rfl (Lq (n:=s+r) (k:=.i64) Fe rfl Ff Ff) rfl (dp (MX (u:=s+r) rfl rfl) (dp (Me (n:=(s+r) / 2) Fe rfl Ff Ff) (Gt 100510001000000 λw17 xn=>Fy xn ho z λho z=>?_))));refine gn ?_;refine F3 (v:=I ↑((a+b) / 2+m-1-(s+r) / 2)) rfl (G7 rfl rfl FH) FY (di 79 4 (ho.arr Fg).sl rfl ((ho.arr Fg).lt hyh) (Gh rfl (λw' hR=>Fx Ff rfl rfl (((ho.arr Fg).ext hR).row hyh)) (go ?_)));refine di 79 4 (ho.arr Fg).sl rfl ((ho.arr Fg).lt hxc) (Gh rfl (λw' hR=>Fx Ff rfl rfl (((ho.arr Fg).ext hR).row hxc)) (Mm (vs:=[y.v,x.v]) rfl rfl hcb (hc _ y x) rfl RX.all (λw18 xi=>Fy xi ho z λho z=>?_)));refine Gb (λht=>?_) λht=>?_
  ·have Z:FZ c y x=false:=by simpa [FZ]using ht
   refine go ?_;exact⟨((s+r) / 2+1,r),Lk,⟨z,by omega,by omega,hr0,.inr ⟨x,y,by rw[Ca];exact hxc,by rw[<-hyh];congr 1;omega,Z⟩,hhi,ho⟩,by simp only [];omega⟩
  have Z:FZ c y x=true:=by simpa [FZ]using ht
  refine go ?_;exact⟨(s,(s+r) / 2),Lk,⟨z,hs0,by omega,by omega,hlo,.inr ⟨x,y,hxc,hyh,Z⟩,ho⟩,by simp only [];omega⟩
 have xf:s=r:=by omega
 subst xf;have hq:∀l2,((s<m/\m<(a+b) / 2+m-s->l2=Jt l s m ((a+b) / 2+m-s))/\(¬ (s<m/\m<(a+b) / 2+m-s)->l2=l))->L6 (FZ c) a m b s ((a+b) / 2+m-s) l l2:=λl2 h2=>VF O hsm Fe Fe Fe Fe (by
  rcases hlo with e|e
  ·rcases q3 with e3|e3
   ·exact .inl Fe
   ·exact .inr (.inl (by rw[e];exact e3))
  ·exact .inr (.inr e)) (by
  rcases hhi with e|e
  ·rcases q4 with e4|e4
   ·exact .inl Fe
   ·exact .inr (.inl (by rw[e];exact e4))
  ·obtain⟨x,y,e1,e2,e3⟩:=e;exact .inr (.inr ⟨x,y,e1,by rw[<-e2];congr 1;omega,e3⟩)) h2
 have J:s+((a+b) / 2+m-s)=(a+b) / 2+m:=by omega
 refine gn ?_;refine F3 (v:=I ↑((a+b) / 2+m-s)) rfl (G7 rfl rfl FH) FY (g0 ?_);refine GP (G:=List Cell) (λl2=>[(0,v),(1,I ↑a),(3,I ↑b),(4,Hf f),(18,I ↑((a+b) / 2)),(20,I ↑s),(24,I ↑((a+b) / 2+m-s))]) (λl2 w'=>Mod (λk=>v.ownBlock=some k) w w'/\L6 (FZ c) a m b s ((a+b) / 2+m-s) l l2/\l2.length=l.length/\Vc.Own Cell.cs 4 79 Bo w' v l2) ?_ ?_
 ·refine FJ 181 (λxp=>?_) λxp=>?_
  ·refine Fk (λxg=>?_) λxg=>?_
   ·refine Gz (Ybu l v Bo f _ ho hl s m ((a+b) / 2+m-s) Fe Fe Fe) λu19 w19 xa hy=>?_;have hsz19:=z.size;have z:=z.own xa F5;obtain⟨rfl,hf,ho,h5⟩:=hy;have H:=hq hf ⟨λ_=>h5,λh=>absurd ⟨by omega,by omega⟩ h⟩;have hg:hf.length=l.length:=by rw[h5];have:=(PS (l:=l) (a:=s) (m:=m) (b:=(a+b) / 2+m-s) Fe Fe Fe).len.1;omega
    refine go ?_;exact⟨_,Ho,z,H,hg,ho⟩
   have H:=hq l ⟨λh=>absurd h.2 Fe,λ_=>rfl⟩;have hg:l.length=l.length:=rfl;refine go ?_;exact⟨_,Ho,z,H,hg,ho⟩
  have H:=hq l ⟨λh=>absurd h.1 Fe,λ_=>rfl⟩;have hg:l.length=l.length:=rfl;refine go ?_;refine GS rfl (go ?_);exact⟨_,Ho,z,H,hg,ho⟩
 rintro _ l2 w20 ⟨z,H,hg,ho⟩;refine GP (G:=List Cell) (λl3=>[(0,v),(3,I ↑b),(4,Hf f),(18,I ↑((a+b) / 2)),(24,I ↑((a+b) / 2+m-s))]) (λl3 w'=>Mod (λk=>v.ownBlock=some k) w w'/\Hj (FZ c) a ((a+b) / 2) l2 l3/\Vc.Own Cell.cs 4 79 Bo w' v l3) ?_ ?_
 ·refine FJ 195 (λxb=>?_) λxb=>?_
  ·refine Fk (λxm=>?_) λxm=>?_
   ·refine Gz (ih l2 _ a s ((a+b) / 2) Fe ho Fe Fe Fe Fe (UE H J)) λu21 w21 xc h6=>?_;have hsz21:=z.size;have z:=z.own xc F5;obtain⟨rfl,hf,ho,Y⟩:=h6;refine go ?_;exact⟨_,Hc,z,Y,ho⟩
   have Y:=PG H J (λh=>absurd h.2 Fe);refine go ?_;exact⟨_,Hc,z,Y,ho⟩
  have Y:=PG H J (λh=>absurd h.1 Fe);refine go ?_;refine GS rfl (go ?_);exact⟨_,Hc,z,Y,ho⟩
 rintro _ l3 w22 ⟨z,Y,ho⟩;refine FJ 209 (λxh=>?_) λxh=>?_
 ·refine Fk (λxe=>?_) λxe=>?_
  ·refine Gz (ih l3 _ ((a+b) / 2) ((a+b) / 2+m-s) b Fe ho (by have:=Y.len.1;omega) Fe Fe (by have:=Y.len.1;omega) (VC H J Y)) λu23 w23 xo hz=>?_;have hsz23:=z.size;have z:=z.own xo F5;obtain⟨rfl,hf,ho,xl⟩:=hz;have hh:=NX H J Y xl;refine go ?_;refine Ig (H6 rfl ?_);exact⟨_,rfl,z,rfl,_,ho,hh⟩
  have hh:=NX H J Y (QF H J Y (λh=>absurd h.2 Fe));refine go ?_;refine Ig (H6 rfl ?_);exact⟨_,rfl,z,rfl,_,ho,hh⟩
 have hh:=NX H J Y (QF H J Y (λh=>absurd h.1 Fe));refine go ?_;refine GS rfl (go ?_);refine Ig (H6 rfl ?_);exact⟨_,rfl,z,rfl,_,ho,hh⟩
def Tu (v:Value)(Bo f:Nat)(c:Cell->Cell->Int)(hcb:Hr Tryz.prog f=true)(hc:∀w2 x y,Calls Tryz.prog f [Cell.v x,Cell.v y].toArray w2 (Pure w2 (I (c x y))))(O:Ord (FZ c)):∀N,X5n v Bo f c N
 | 0=>λ_ _ _ _ _ h=>absurd h (Bh _)
 | N+1=>λl w a m b hN ho hl J H hb z=>Ybv l v Bo f c w ho hl hcb hc O a m b J H hb z (λl2 w2 Z m2 Y hN2=>Tu v Bo f c hcb hc O N l2 w2 Z m2 Y Fe)
def Ybw (l:List Cell)(v:Value)(Bo f:Nat)(c:Cell->Cell->Int)(w:World)(ho:Vc.Own Cell.cs 4 79 Bo w v l)(hl:l.length<=10000000)(hcb:Hr Tryz.prog f=true)(hc:∀w2 x y,Calls Tryz.prog f [Cell.v x,Cell.v y].toArray w2 (Pure w2 (I (c x y))))(O:Ord (FZ c)) :
  G4 180 [v,I ↑l.length,Hf f] w (λk=>v.ownBlock=some k) λu w'=>u=.tuple #[]/\∃l',Vc.Own Cell.cs 4 79 Bo w' v l'/\l'.Perm l/\Up (FZ c) l':=by
 refine cM Tryz.func180 (λk=>v.ownBlock=some k) λz=>F8 (G:=Nat×List Cell) (λ(j,cur)=>[(0,v),(1,I ↑l.length),(2,Hf f),(6,I 20),(7,I ↑(j*20)),(8,I ↑(j*20+20))]) (λ(j,cur) w'=>Mod (λk=>v.ownBlock=some k) w w'/\j*20<=l.length/\I2 (FZ c) 20 j cur/\cur.Perm l/\Vc.Own Cell.cs 4 79 Bo w' v cur) (λ(j,cur)=>l.length-j*20) (0,l) ⟨z,Ab _,λk hk=>absurd hk (Bh k),.refl _,ho⟩ ?_;rintro _ ⟨j,cur⟩ w1 ⟨z,hj,hI,hp,ho⟩;refine go ?_;refine dp (IJ rfl rfl) ?_;refine Fk (λc1=>?_) λc1=>?_
 ·have ha:=hp.length_eq;refine Gz (YC cur v Bo f c _ ho Fe hcb hc O (j*20) (j*20+20) Fe Fe) λu2 w2 x2 hf=>?_;have hsz2:=z.size;have z:=z.own x2 F5;obtain⟨rfl,Y,ho,H⟩:=hf;refine gc ?_;refine F3 (v:=I ↑((j+1)*20)) rfl (L8 rfl) FY (gn ?_);refine F3 (v:=I ↑((j+1)*20+20)) rfl (GK rfl rfl FH) FY (go ?_);exact⟨(j+1,_),HW,⟨z,by omega,WH hI (by rw[Be];exact H),H.perm.trans hp,ho⟩,by simp only [];omega⟩
 have ha:=hp.length_eq;refine Gz (YC cur v Bo f c _ ho Fe hcb hc O (j*20) l.length Fe Fe) λu3 w3 x3 hr=>?_;have hsz3:=z.size;have z:=z.own x3 F5;obtain⟨rfl,Y,ho,H⟩:=hr;refine F8 (G:=Nat×List Cell) (λ(s,cur)=>[(0,v),(1,I ↑l.length),(2,Hf f),(6,I ↑s)]) (λ(s,cur) w'=>Mod (λk=>v.ownBlock=some k) w w'/\20<=s/\s<=40+2*l.length/\M2 (FZ c) s 0 cur/\cur.Perm l/\Vc.Own Cell.cs 4 79 Bo w' v cur) (λ(s,cur)=>l.length-s) (20,Y) ⟨z,Aa _,by omega,UD hI Fe Fe (by rw[ha];exact H),H.perm.trans hp,ho⟩ ?_;rintro _ ⟨s,cur⟩ w4 ⟨z,hs,hs2,hM,hp,ho⟩;refine Fk (λc2=>?_) λc2=>?_
 ·have ha:=hp.length_eq;refine go ?_;refine F3 (v:=I ↑(0+2*s)) rfl (Ks rfl rfl FH) FY (F8 (G:=Nat×Nat×List Cell) (λ(j,q,cur2)=>[(0,v),(1,I ↑l.length),(2,Hf f),(6,I ↑s),(7,I ↑q),(8,I ↑(q+2*s))]) (λ(j,q,cur2) w'=>Mod (λk=>v.ownBlock=some k) w w'/\q=j*(2*s)/\q<=l.length/\M2 (FZ c) s j cur2/\cur2.Perm l/\Vc.Own Cell.cs 4 79 Bo w' v cur2) (λ(j,q,cur2)=>l.length-q) (0,0,cur) ⟨z,by omega,Ab _,hM,hp,ho⟩ ?_);rintro _ ⟨j,q,cur2⟩ w5 ⟨z,hq,hql,hM2,hp2,ho⟩;refine go ?_;refine dp (IJ rfl rfl) ?_;refine Fk (λc3=>?_) λc3=>?_
  ·have Z:=hp2.length_eq;have J:(j+1)*(2*s)=q+2*s:=by rw[hq];exact Be _ _
   refine gn ?_;refine F3 (v:=I ↑(q+s)) rfl (GK rfl rfl FH) rfl (Gz (Tu v Bo f c hcb hc O ((q+2*s)-q+1) cur2 _ q (q+s) (q+2*s) Fe ho Fe Fe Fe Fe (by have h9:=Yb hM2 (by rw[J];omega);rw[J,<-hq]at h9;exact h9)) λu6 w6 x6 hh=>?_);have hsz6:=z.size;have z:=z.own x6 F5;obtain⟨rfl,Y,ho,H⟩:=hh;refine gc ?_;refine F3 (v:=I ↑(q+2*s)) rfl (L8 rfl) FY (go ?_);refine F3 (v:=I ↑(2*s)) rfl (Ks rfl rfl FH) FY (F3 (v:=I ↑(q+2*s+2*s)) rfl (GK rfl rfl FH) rfl (go ?_));exact⟨(j+1,q+2*s,_),HW,⟨z,J.symm,by omega,Y7 hM2 (by rw[J,<-hq];exact H),H.perm.trans hp2,ho⟩,by simp only [];omega⟩
  have Z:=hp2.length_eq;have J:(j+1)*(2*s)=q+2*s:=by rw[hq];exact Be _ _
  refine gn ?_;refine F3 (v:=I ↑(q+s)) rfl (GK rfl rfl FH) rfl ?_;refine Fk (λc4=>?_) λc4=>?_
  ·refine Gz (Tu v Bo f c hcb hc O (l.length-q+1) cur2 _ q (q+s) l.length Fe ho Fe Fe Fe Fe (by have h9:=XB hM2 (by rw[J];omega) (by rw[<-hq];omega);rw[<-hq,Z]at h9;exact h9)) λu7 w7 x7 hg=>?_;have hsz7:=z.size;have z:=z.own x7 F5;obtain⟨rfl,Y,ho,H⟩:=hg;refine go ?_;refine F3 (v:=I ↑(2*s)) rfl (Ks rfl rfl FH) FY (go ?_);exact⟨(2*s,_),Hn,⟨z,by omega,by omega,Qz hM2 (by rw[J];omega) (by rw[<-hq];omega) ⟨λ_=>by rw[<-hq,Z];exact H,λh=>absurd h (by rw[<-hq];omega)⟩,H.perm.trans hp2,ho⟩,by simp only [];omega⟩
  refine go ?_;refine F3 (v:=I ↑(2*s)) rfl (Ks rfl rfl FH) FY (go ?_);exact⟨(2*s,_),Hn,⟨z,by omega,by omega,Qz hM2 (by rw[J];omega) (by rw[<-hq];omega) ⟨λh=>absurd h (by rw[<-hq];omega),λ_=>rfl⟩,hp2,ho⟩,by simp only [];omega⟩
 have ha:=hp.length_eq;refine go ?_;refine Ig (H6 rfl ?_);have ha:=hp.length_eq;exact⟨_,rfl,z,rfl,cur,ho,hp,X5l hM Fe⟩
def Ybx (l:List Cell)(v:Value)(Bo f:Nat)(c:Cell->Cell->Int)(w:World)(ho:Vc.Own Cell.cs 4 79 Bo w v l)(hl:l.length<=10000000)(hcb:Hr Tryz.prog f=true)(hc:∀w2 x y,Calls Tryz.prog f [Cell.v x,Cell.v y].toArray w2 (Pure w2 (I (c x y))))(O:Ord (FZ c)) :
  G4 97 [v,Hf f] w (λk=>v.ownBlock=some k) λu w'=>u=.tuple #[]/\∃l',Vc.Own Cell.cs 4 79 Bo w' v l'/\l'.Perm l/\Up (FZ c) l':=by
 refine cM Tryz.func97 (λk=>v.ownBlock=some k) λH=>go ?_;refine dv 79 4 (ho.arr Fg).sl (Gz (Ybw l v Bo f c _ ho hl hcb hc O) λu1 w1 Y J=>?_);have hsz1:=H.size;have H:=H.own Y F5;obtain⟨rfl,z,ho,Z,hu⟩:=J;refine go ?_;refine Ig (H6 rfl ?_);exact⟨_,rfl,H,rfl,z,ho,Z,hu⟩
def VE (l:List Fi)(v:Value)(Bo f:Nat)(c:Fi->Fi->Int)(w:World)(ho:Vc.Own Fi.cs 5 62 Bo w v l)(hl:l.length<=10000000)(hcb:Hr Tryz.prog f=true)(hc:∀w2 x y,Calls Tryz.prog f [Fi.v x,Fi.v y].toArray w2 (Pure w2 (I (c x y))))(O:Ord (FZ c))(a b:Nat)(hab:a<=b)(hb:b<=l.length) :
  G4 302 [v,I ↑a,I ↑b,Hf f] w (λk=>v.ownBlock=some k) λu w'=>u=.tuple #[]/\∃l',Vc.Own Fi.cs 5 62 Bo w' v l'/\Hj (FZ c) a b l l':=by
 refine cM Tryz.func302 (λk=>v.ownBlock=some k) λH=>F8 (G:=Nat×List Fi) (λ(i,cur)=>[(0,v),(1,I ↑a),(2,I ↑b),(3,Hf f),(8,I ↑i)]) (λ(i,cur) w'=>Mod (λk=>v.ownBlock=some k) w w'/\a+1<=i/\Hj (FZ c) a (min i b) l cur/\Vc.Own Fi.cs 5 62 Bo w' v cur) (λ(i,cur)=>b-i) (a+1,l) ⟨H,Aa _,Hj.one l Fe Fe Fe,ho⟩ ?_;rintro _ ⟨i,cur⟩ w1 ⟨H,hi1,hs,ho⟩;refine Fk (λc1=>?_) λc1=>?_
 ·have ha:Hj (FZ c) a i l cur:=by rw[B0 Fe]at hs;exact hs
  refine F8 (G:=Nat×List Fi) (λ(j,cur2)=>[(0,v),(1,I ↑a),(2,I ↑b),(3,Hf f),(8,I ↑i),(9,I ↑j)]) (λ(j,cur2) w'=>Mod (λk=>v.ownBlock=some k) w w'/\JY (FZ c) a i j l cur2/\Vc.Own Fi.cs 5 62 Bo w' v cur2) (λ(j,cur2)=>j) (i,cur) ⟨H,WW ha Fe,ho⟩ ?_;rintro _ ⟨j,cur2⟩ w2 ⟨H,hj,ho⟩;refine Gt 100510000100000000 λw3 x3=>Fy x3 ho H λho H=>?_;refine FJ 21 (λc2=>?_) λc2=>?_
  ·have hf:=hj.len;obtain⟨x,hxj⟩:∃x,cur2[j]?=some x:=F7;obtain⟨z,hzj⟩:∃x,cur2[j-1]?=some x:=F7;have Z:=Kz ho (λe=>by rw[e]at hxj;simp at hxj);refine go ?_;refine di 62 5 (ho.arr Fg).sl rfl ((ho.arr Fg).lt hxj) (Gh rfl (λw' hR=>Fx Ff rfl rfl (((ho.arr Fg).ext hR).row hxj)) (gn ?_));refine F3 (v:=I ↑(j-1)) rfl (G7 rfl rfl FH) FY (di 62 5 (ho.arr Fg).sl rfl ((ho.arr Fg).lt hzj) (Gh rfl (λw' hR=>Fx Ff rfl rfl (((ho.arr Fg).ext hR).row hzj)) (Mm (vs:=[x.v,z.v]) rfl rfl hcb (hc _ x z) rfl RX.all (λw4 x4=>Fy x4 ho H λho H=>?_))));refine Fk (λc3=>?_) λc3=>?_
   ·have hg:FZ c x z=true:=by simpa [FZ]using c3
    refine Gt 1505010001000000000 λw5 x5=>Fy x5 ho H λho H=>?_;refine gn ?_;refine F3 (v:=I ↑(j-1)) rfl (G7 rfl rfl FH) FY (gn ?_);refine F3 (v:=I ↑(j-1)) rfl (G7 rfl rfl FH) FY (di 62 5 (ho.arr Fg).sl rfl ((ho.arr Fg).lt hzj) (Gh rfl (λw' hR=>Fx Ff rfl rfl (((ho.arr Fg).ext hR).row hzj)) (go ?_)));refine di 62 5 (ho.arr Fg).sl rfl ((ho.arr Fg).lt hxj) (Gh rfl (λw' hR=>Fx Ff rfl rfl (((ho.arr Fg).ext hR).row hxj)) (F3 (v:=Fh (base v).1 (j*5+0)) rfl (Ir (i:=j) (e:=62) (k:=5) Ff ho.sl rfl rfl (by omega)) (by rw[Z];show Fh _ (0+_)=_;rw[A5];rfl) ?_));refine Ie (enc:=Fi.cs) (sz:=5) (l:=cur2) (i:=j) (j:=0) (x:=z) (vs:=z.cs) Fg rfl ho rfl rfl rfl Ff (by omega) rfl (Aa 5) (by intro v hv;simp at hv;rcases hv with rfl|rfl|rfl|rfl|rfl<;>rfl) (.inl rfl) (λw6 x6 xs6 J=>?_);have H:=H.own x6 F5;have ho:=J;refine F3 (v:=Fh (base v).1 ((j-1)*5+0)) rfl (Ir (i:=(j-1)) (e:=62) (k:=5) Ff ho.sl rfl rfl (by rw[AB];omega)) (by rw[Z];show Fh _ (0+_)=_;rw[A5];rfl) ?_;refine Ie (enc:=Fi.cs) (sz:=5) (l:=(cur2.set j z)) (i:=(j-1)) (j:=0) (x:=x) (vs:=x.cs) Fg rfl ho rfl rfl rfl Ff (by rw[AB];omega) rfl (Aa 5) (by intro v hv;simp at hv;rcases hv with rfl|rfl|rfl|rfl|rfl<;>rfl) (.inl rfl) (λw7 x7 xs7 J=>?_);have H:=H.own x7 F5;have ho:=J;refine gn ?_;refine F3 (v:=I ↑(j-1)) rfl (G7 rfl rfl FH) FY (go ?_);exact⟨(j-1,_),HW,⟨H,Vx hj Fe hxj hzj hg,ho⟩,by simp only [];omega⟩
   have Y:Hj (FZ c) a (i+1) l cur2:=QP O hj (.inr ⟨x,z,hxj,hzj,by simpa [FZ]using c3⟩);refine go ?_;exact FL (i+1,cur2) ⟨H,by omega,by rw[B0 Fe];exact Y,ho⟩
  have hf:=hj.len;have Y:Hj (FZ c) a (i+1) l cur2:=QP O hj (.inl Fe);refine go ?_;refine GS rfl (go ?_);exact FL (i+1,cur2) ⟨H,by omega,by rw[B0 Fe];exact Y,ho⟩
 refine go ?_;refine Ig (H6 rfl ?_);rw[EK Fe]at hs;exact⟨_,rfl,H,rfl,cur,ho,hs⟩
def Su (l:List Fi)(v:Value)(Bo f:Nat)(w:World)(ho:Vc.Own Fi.cs 5 62 Bo w v l)(hl:l.length<=10000000)(a b n:Nat)(h1:a+n<=b)(h2:b+n<=l.length) :
  G4 337 [v,I ↑a,I ↑b,I ↑n,Hf f] w (λk=>v.ownBlock=some k) λu w'=>u=.tuple #[]/\∃l',Vc.Own Fi.cs 5 62 Bo w' v l'/\MM a b n l l':=by
 refine cM Tryz.func337 (λk=>v.ownBlock=some k) λH=>F8 (G:=Nat×List Fi) (λ(i,cur)=>[(0,v),(1,I ↑a),(2,I ↑b),(3,I ↑n),(10,I ↑i)]) (λ(i,cur) w'=>Mod (λk=>v.ownBlock=some k) w w'/\Na a b n i l cur/\Vc.Own Fi.cs 5 62 Bo w' v cur) (λ(i,cur)=>n-i) (0,l) ⟨H,VZ h1 h2,ho⟩ ?_;rintro _ ⟨i,cur⟩ w1 ⟨H,hr,ho⟩;refine Fk (λZ=>?_) λZ=>?_
 ·have O:=hr.len;obtain⟨x,hxi⟩:∃x,cur[a+i]?=some x:=F7;obtain⟨y,hyi⟩:∃x,cur[b+i]?=some x:=F7;have J:=Kz ho (λe=>by rw[e]at hxi;simp at hxi);refine Gt 1505010000010000000000000 λw2 x2=>Fy x2 ho H λho H=>?_;refine gn ?_;refine F3 (v:=I ↑(a+i)) rfl (GK rfl rfl FH) rfl (gn ?_);refine F3 (v:=I ↑(b+i)) rfl (GK rfl rfl FH) rfl (gn ?_);refine F3 (v:=I ↑(b+i)) rfl (GK rfl rfl FH) rfl (di 62 5 (ho.arr Fg).sl rfl ((ho.arr Fg).lt hyi) (Gh rfl (λw' hR=>Fx Ff rfl rfl (((ho.arr Fg).ext hR).row hyi)) (gn ?_)));refine F3 (v:=I ↑(a+i)) rfl (GK rfl rfl FH) rfl (di 62 5 (ho.arr Fg).sl rfl ((ho.arr Fg).lt hxi) (Gh rfl (λw' hR=>Fx Ff rfl rfl (((ho.arr Fg).ext hR).row hxi)) (F3 (v:=Fh (base v).1 ((a+i)*5+0)) rfl (Ir (i:=(a+i)) (e:=62) (k:=5) Ff ho.sl rfl rfl (by omega)) (by rw[J];show Fh _ (0+_)=_;rw[A5];rfl) ?_)));refine Ie (enc:=Fi.cs) (sz:=5) (l:=cur) (i:=(a+i)) (j:=0) (x:=y) (vs:=y.cs) Fg rfl ho rfl rfl rfl Ff (by omega) rfl (Aa 5) (by intro v hv;simp at hv;rcases hv with rfl|rfl|rfl|rfl|rfl<;>rfl) (.inl rfl) (λw3 Y xs3 z=>?_);have H:=H.own Y F5;have ho:=z;refine F3 (v:=Fh (base v).1 ((b+i)*5+0)) rfl (Ir (i:=(b+i)) (e:=62) (k:=5) Ff ho.sl rfl rfl (by rw[AB];omega)) (by rw[J];show Fh _ (0+_)=_;rw[A5];rfl) ?_;refine Ie (enc:=Fi.cs) (sz:=5) (l:=(cur.set (a+i) y)) (i:=(b+i)) (j:=0) (x:=x) (vs:=x.cs) Fg rfl ho rfl rfl rfl Ff (by rw[AB];omega) rfl (Aa 5) (by intro v hv;simp at hv;rcases hv with rfl|rfl|rfl|rfl|rfl<;>rfl) (.inl rfl) (λw4 x4 xs4 z=>?_);have H:=H.own x4 F5;have ho:=z;refine go ?_;exact⟨(i+1,_),Hc,⟨H,YJ hr Fe hxi hyi,ho⟩,by simp only [];omega⟩
 refine go ?_;refine Ig (H6 rfl ?_);have O:=hr.len;rw[show i=n by omega]at hr;exact⟨_,rfl,H,rfl,cur,ho,Vn hr⟩
def Yby (l:List Fi)(v:Value)(Bo f:Nat)(w:World)(ho:Vc.Own Fi.cs 5 62 Bo w v l)(hl:l.length<=10000000)(a m b:Nat)(h1:a<m)(h2:m<b)(h3:b<=l.length) :
  G4 327 [v,I ↑a,I ↑m,I ↑b,Hf f] w (λk=>v.ownBlock=some k) λu w'=>u=.tuple #[]/\∃l',Vc.Own Fi.cs 5 62 Bo w' v l'/\l'=Jt l a m b:=by
 refine cM Tryz.func327 (λk=>v.ownBlock=some k) λH=>gn ?_;refine F3 (v:=I ↑(m-a)) rfl (G7 rfl rfl FH) FY (gn ?_);refine F3 (v:=I ↑(b-m)) rfl (G7 rfl rfl FH) FY (F8 (G:=Nat×Nat×List Fi) (λ(i,j,cur)=>[(0,v),(2,I ↑m),(4,Hf f),(10,I ↑i),(11,I ↑j)]) (λ(i,j,cur) w'=>Mod (λk=>v.ownBlock=some k) w w'/\0<i/\0<j/\cur.length=l.length/\Jo m i j (Jt l a m b) cur/\Vc.Own Fi.cs 5 62 Bo w' v cur) (λ(i,j,cur)=>i+j) (m-a,b-m,l) ⟨H,by omega,by omega,rfl,PS Fe Fe h3,ho⟩ ?_);rintro _ ⟨i,j,cur⟩ w1 ⟨H,hi0,hj0,hcl,hr,ho⟩;refine Fk (λc1=>?_) λc1=>?_
 ·have hc:=hr.len;refine Fk (λc2=>?_) λc2=>?_
  ·refine gn ?_;refine F3 (v:=I ↑(m-i)) rfl (G7 rfl rfl FH) FY (Gz (Su cur v Bo f _ ho Fe (m-i) m j Fe Fe) λu2 w2 x2 ha=>?_);have hsz2:=H.size;have H:=H.own x2 F5;obtain⟨rfl,z,ho,O⟩:=ha;refine gn ?_;refine F3 (v:=I ↑(i-j)) rfl (G7 rfl rfl FH) FY (go ?_);have J:=YB hr Fe O;exact FL (i-j,j,z) ⟨H,by omega,hj0,(J.len.1.trans (hr.len.1.symm.trans hcl)),J,ho⟩
  refine gn ?_;refine F3 (v:=I ↑(m-i)) rfl (G7 rfl rfl FH) FY (gn ?_);refine F3 (v:=I ↑(m+j)) rfl (GK rfl rfl FH) rfl (gn ?_);refine F3 (v:=I ↑(m+j-i)) rfl (G7 rfl rfl FH) FY (Gz (Su cur v Bo f _ ho Fe (m-i) (m+j-i) i Fe Fe) λu3 w3 x3 hf=>?_);have hsz3:=H.size;have H:=H.own x3 F5;obtain⟨rfl,z,ho,O⟩:=hf;refine gn ?_;refine F3 (v:=I ↑(j-i)) rfl (G7 rfl rfl FH) FY (go ?_);have J:=UQ hr Fe O;exact FL (i,j-i,z) ⟨H,hi0,by omega,(J.len.1.trans (hr.len.1.symm.trans hcl)),J,ho⟩
 have hc:=hr.len;have Y:i=j:=by omega
 subst Y;refine gn ?_;refine F3 (v:=I ↑(m-i)) rfl (G7 rfl rfl FH) FY (Gz (Su cur v Bo f _ ho Fe (m-i) m i Fe Fe) λu4 w4 x4 Z=>?_);have hsz4:=H.size;have H:=H.own x4 F5;obtain⟨rfl,z,ho,O⟩:=Z;refine go ?_;refine Ig (H6 rfl ?_);exact⟨_,rfl,H,rfl,z,ho,Yi hr O⟩
def Vq (v:Value)(Bo f:Nat)(c:Fi->Fi->Int)(N:Nat):Prop:=∀(l:List Fi) (w:World) (a m b:Nat),b-a<N->Vc.Own Fi.cs 5 62 Bo w v l->l.length<=10000000->a<m->m<b->b<=l.length->SM (FZ c) a m b l->Calls Tryz.prog 303 [v,I ↑a,I ↑m,I ↑b,Hf f].toArray w (Hp (λk=>v.ownBlock=some k) w (λu w'=>u=.tuple #[]/\∃l',Vc.Own Fi.cs 5 62 Bo w' v l'/\Hj (FZ c) a b l l'))
def Ybz (l:List Fi)(v:Value)(Bo f:Nat)(c:Fi->Fi->Int)(w:World)(ho:Vc.Own Fi.cs 5 62 Bo w v l)(hl:l.length<=10000000)(hcb:Hr Tryz.prog f=true)(hc:∀w2 x y,Calls Tryz.prog f [Fi.v x,Fi.v y].toArray w2 (Pure w2 (I (c x y))))(O:Ord (FZ c))(a m b:Nat)(ham:a<m)(hmb:m<b)(hb:b<=l.length)(hsm:SM (FZ c) a m b l)(ih:Vq v Bo f c (b-a)) :
  G4 303 [v,I ↑a,I ↑m,I ↑b,Hf f] w (λk=>v.ownBlock=some k) λu w'=>u=.tuple #[]/\∃l',Vc.Own Fi.cs 5 62 Bo w' v l'/\Hj (FZ c) a b l l':=by
 refine cM Tryz.func303 (λk=>v.ownBlock=some k) λz=>?_;refine Fk (λc1=>?_) λc1=>?_
 ·have hw:m=a+1:=by omega
  refine F8 (G:=Nat×Nat) (λ(i,j)=>[(0,v),(1,I ↑a),(2,I ↑m),(3,I ↑b),(4,Hf f),(10,I ↑i),(11,I ↑j)]) (λ(i,j) w'=>Mod (λk=>v.ownBlock=some k) w w'/\m<=i/\i<=j/\j<=b/\(j=b\/∃x y,l[a]?=some x/\l[j]?=some y/\FZ c y x=false)/\(i=m\/∃x y,l[a]?=some x/\l[i-1]?=some y/\FZ c y x=true)/\Vc.Own Fi.cs 5 62 Bo w' v l) (λ(i,j)=>j-i) (m,b) ⟨z,Aa _,by omega,Aa _,.inl rfl,.inl rfl,ho⟩ ?_;rintro _ ⟨i,j⟩ w1 ⟨z,hi,hij,hjb,hup,hlo,ho⟩;refine Fk (λc2=>?_) λc2=>?_
  ·obtain⟨x,hxa⟩:∃x,l[a]?=some x:=F7;obtain⟨y,hyh⟩:∃x,l[(i+j) / 2]?=some x:=F7;refine gn ?_;refine F3 (v:=I ↑(i+j)) rfl (GK rfl rfl FH) rfl (F3 (v:=.int .u64 ↑(i+j)) rfl (Lq (n:=i+j) (k:=.i64) Fe rfl Ff Ff) rfl (dp (MX (u:=i+j) rfl rfl) (dp (Me (n:=(i+j) / 2) Fe rfl Ff Ff) (Gt 105100010000 λw2 x2=>Fy x2 ho z λho z=>?_))));refine go ?_;refine di 62 5 (ho.arr Fg).sl rfl ((ho.arr Fg).lt hyh) (Gh rfl (λw' hR=>Fx Ff rfl rfl (((ho.arr Fg).ext hR).row hyh)) (go ?_));refine di 62 5 (ho.arr Fg).sl rfl ((ho.arr Fg).lt hxa) (Gh rfl (λw' hR=>Fx Ff rfl rfl (((ho.arr Fg).ext hR).row hxa)) (Mm (vs:=[y.v,x.v]) rfl rfl hcb (hc _ y x) rfl RX.all (λw3 x3=>Fy x3 ho z λho z=>?_)));refine Fk (λc3=>?_) λc3=>?_
   ·have Z:FZ c y x=true:=by simpa [FZ]using c3
    refine go ?_;exact⟨((i+j) / 2+1,j),Ho,⟨z,by omega,by omega,hjb,hup,.inr ⟨x,y,hxa,by rw[Ca];exact hyh,Z⟩,ho⟩,by simp only [];omega⟩
   have Z:FZ c y x=false:=by simpa [FZ]using c3
   refine go ?_;exact⟨(i,(i+j) / 2),Ho,⟨z,hi,by omega,by omega,.inr ⟨x,y,hxa,hyh,Z⟩,hlo,ho⟩,by simp only [];omega⟩
  refine F8 (G:=Nat×List Fi) (λ(k,cur)=>[(0,v),(1,I ↑a),(2,I ↑m),(3,I ↑b),(4,Hf f),(10,I ↑i),(13,I ↑k)]) (λ(k,cur) w'=>Mod (λk=>v.ownBlock=some k) w w'/\MU a k l cur/\k<=i-1/\Vc.Own Fi.cs 5 62 Bo w' v cur) (λ(k,cur)=>i-k) (a,l) ⟨z,Y5 Fe,by omega,ho⟩ ?_;rintro _ ⟨k,cur⟩ w4 ⟨z,hk,hki,ho⟩;refine Fk (λc4=>?_) λc4=>?_
  ·have hr:=hk.len;obtain⟨x,hxk⟩:∃x,cur[k]?=some x:=F7;obtain⟨y,hyk⟩:∃x,cur[k+1]?=some x:=F7;have hj:=Kz ho (λe=>by rw[e]at hxk;simp at hxk);refine Gt 1505010001000000000 λw5 x5=>Fy x5 ho z λho z=>?_;refine gn ?_;refine F3 (v:=I ↑(k+1)) rfl (GK rfl rfl FH) rfl (gn ?_);refine F3 (v:=I ↑(k+1)) rfl (GK rfl rfl FH) rfl (di 62 5 (ho.arr Fg).sl rfl ((ho.arr Fg).lt hyk) (Gh rfl (λw' hR=>Fx Ff rfl rfl (((ho.arr Fg).ext hR).row hyk)) (go ?_)));refine di 62 5 (ho.arr Fg).sl rfl ((ho.arr Fg).lt hxk) (Gh rfl (λw' hR=>Fx Ff rfl rfl (((ho.arr Fg).ext hR).row hxk)) (F3 (v:=Fh (base v).1 (k*5+0)) rfl (Ir (i:=k) (e:=62) (k:=5) Ff ho.sl rfl rfl (by omega)) (by rw[hj];show Fh _ (0+_)=_;rw[A5];rfl) ?_));refine Ie (enc:=Fi.cs) (sz:=5) (l:=cur) (i:=k) (j:=0) (x:=y) (vs:=y.cs) Fg rfl ho rfl rfl rfl Ff (by omega) rfl (Aa 5) (by intro v hv;simp at hv;rcases hv with rfl|rfl|rfl|rfl|rfl<;>rfl) (.inl rfl) (λw6 x6 xs6 ha=>?_);have z:=z.own x6 F5;have ho:=ha;refine F3 (v:=Fh (base v).1 ((k+1)*5+0)) rfl (Ir (i:=(k+1)) (e:=62) (k:=5) Ff ho.sl rfl rfl (by rw[AB];omega)) (by rw[hj];show Fh _ (0+_)=_;rw[A5];rfl) ?_;refine Ie (enc:=Fi.cs) (sz:=5) (l:=(cur.set k y)) (i:=(k+1)) (j:=0) (x:=x) (vs:=x.cs) Fg rfl ho rfl rfl rfl Ff (by rw[AB];omega) rfl (Aa 5) (by intro v hv;simp at hv;rcases hv with rfl|rfl|rfl|rfl|rfl<;>rfl) (.inl rfl) (λw7 x7 xs7 ha=>?_);have z:=z.own x7 F5;have ho:=ha;refine go ?_;exact⟨(k+1,_),Ho,⟨z,Xs8 hk hxk hyk,by omega,ho⟩,by simp only [];omega⟩
  refine go ?_;refine H6 rfl ?_;have hr:=hk.len;have:k=i-1:=by omega
  subst this;have hp:i=j:=by omega
  subst hp;exact⟨_,rfl,z,rfl,cur,ho,Wt O hsm hw hi hjb hk hup hlo⟩
 refine Fk (λc5=>?_) λc5=>?_
 ·have hw:b=m+1:=by omega
  refine F8 (G:=Nat×Nat) (λ(i,j)=>[(0,v),(1,I ↑a),(2,I ↑m),(3,I ↑b),(4,Hf f),(14,I ↑i),(15,I ↑j)]) (λ(i,j) w'=>Mod (λk=>v.ownBlock=some k) w w'/\a<=i/\i<=j/\j<=m/\(j=m\/∃x y,l[m]?=some x/\l[j]?=some y/\FZ c x y=true)/\(i=a\/∃x y,l[m]?=some x/\l[i-1]?=some y/\FZ c x y=false)/\Vc.Own Fi.cs 5 62 Bo w' v l) (λ(i,j)=>j-i) (a,m) ⟨z,Aa _,by omega,Aa _,.inl rfl,.inl rfl,ho⟩ ?_;rintro _ ⟨i,j⟩ w8 ⟨z,hi,hij,hjb,hup,hlo,ho⟩;refine Fk (λc6=>?_) λc6=>?_
  ·obtain⟨x,hxm⟩:∃x,l[m]?=some x:=F7;obtain⟨y,hyh⟩:∃x,l[(i+j) / 2]?=some x:=F7;refine gn ?_;refine F3 (v:=I ↑(i+j)) rfl (GK rfl rfl FH) rfl (F3 (v:=.int .u64 ↑(i+j)) rfl (Lq (n:=i+j) (k:=.i64) Fe rfl Ff Ff) rfl (dp (MX (u:=i+j) rfl rfl) (dp (Me (n:=(i+j) / 2) Fe rfl Ff Ff) (Gt 1005100010000 λw9 x9=>Fy x9 ho z λho z=>?_))));refine go ?_;refine di 62 5 (ho.arr Fg).sl rfl ((ho.arr Fg).lt hxm) (Gh rfl (λw' hR=>Fx Ff rfl rfl (((ho.arr Fg).ext hR).row hxm)) (go ?_));refine di 62 5 (ho.arr Fg).sl rfl ((ho.arr Fg).lt hyh) (Gh rfl (λw' hR=>Fx Ff rfl rfl (((ho.arr Fg).ext hR).row hyh)) (Mm (vs:=[x.v,y.v]) rfl rfl hcb (hc _ x y) rfl RX.all (λw10 xj=>Fy xj ho z λho z=>?_)));refine Gb (λc7=>?_) λc7=>?_
   ·have Z:FZ c x y=false:=by simpa [FZ]using c7
    refine go ?_;exact⟨((i+j) / 2+1,j),Ho,⟨z,by omega,by omega,hjb,hup,.inr ⟨x,y,hxm,by rw[Ca];exact hyh,Z⟩,ho⟩,by simp only [];omega⟩
   have Z:FZ c x y=true:=by simpa [FZ]using c7
   refine go ?_;exact⟨(i,(i+j) / 2),Ho,⟨z,hi,by omega,by omega,.inr ⟨x,y,hxm,hyh,Z⟩,hlo,ho⟩,by simp only [];omega⟩
  refine F8 (G:=Nat×List Fi) (λ(k,cur)=>[(0,v),(1,I ↑a),(2,I ↑m),(3,I ↑b),(4,Hf f),(14,I ↑i),(17,I ↑k)]) (λ(k,cur) w'=>Mod (λk=>v.ownBlock=some k) w w'/\MS m k l cur/\i<=k/\Vc.Own Fi.cs 5 62 Bo w' v cur) (λ(k,cur)=>k) (m,l) ⟨z,Uu Fe,by omega,ho⟩ ?_;rintro _ ⟨k,cur⟩ w11 ⟨z,hk,hki,ho⟩;refine Fk (λc8=>?_) λc8=>?_
  ·have hr:=hk.len;obtain⟨x,hxk⟩:∃x,cur[k]?=some x:=F7;obtain⟨y,hyk⟩:∃x,cur[k-1]?=some x:=F7;have hj:=Kz ho (λe=>by rw[e]at hxk;simp at hxk);refine Gt 1505010001000000000 λw12 h7=>Fy h7 ho z λho z=>?_;refine gn ?_;refine F3 (v:=I ↑(k-1)) rfl (G7 rfl rfl FH) FY (gn ?_);refine F3 (v:=I ↑(k-1)) rfl (G7 rfl rfl FH) FY (di 62 5 (ho.arr Fg).sl rfl ((ho.arr Fg).lt hyk) (Gh rfl (λw' hR=>Fx Ff rfl rfl (((ho.arr Fg).ext hR).row hyk)) (go ?_)));refine di 62 5 (ho.arr Fg).sl rfl ((ho.arr Fg).lt hxk) (Gh rfl (λw' hR=>Fx Ff rfl rfl (((ho.arr Fg).ext hR).row hxk)) (F3 (v:=Fh (base v).1 (k*5+0)) rfl (Ir (i:=k) (e:=62) (k:=5) Ff ho.sl rfl rfl (by omega)) (by rw[hj];show Fh _ (0+_)=_;rw[A5];rfl) ?_));refine Ie (enc:=Fi.cs) (sz:=5) (l:=cur) (i:=k) (j:=0) (x:=y) (vs:=y.cs) Fg rfl ho rfl rfl rfl Ff (by omega) rfl (Aa 5) (by intro v hv;simp at hv;rcases hv with rfl|rfl|rfl|rfl|rfl<;>rfl) (.inl rfl) (λw13 xk xs13 ha=>?_);have z:=z.own xk F5;have ho:=ha;refine F3 (v:=Fh (base v).1 ((k-1)*5+0)) rfl (Ir (i:=(k-1)) (e:=62) (k:=5) Ff ho.sl rfl rfl (by rw[AB];omega)) (by rw[hj];show Fh _ (0+_)=_;rw[A5];rfl) ?_;refine Ie (enc:=Fi.cs) (sz:=5) (l:=(cur.set k y)) (i:=(k-1)) (j:=0) (x:=x) (vs:=x.cs) Fg rfl ho rfl rfl rfl Ff (by rw[AB];omega) rfl (Aa 5) (by intro v hv;simp at hv;rcases hv with rfl|rfl|rfl|rfl|rfl<;>rfl) (.inl rfl) (λw14 h8 xs14 ha=>?_);have z:=z.own h8 F5;have ho:=ha;refine gn ?_;refine F3 (v:=I ↑(k-1)) rfl (G7 rfl rfl FH) FY (go ?_);exact⟨(k-1,_),Ho,⟨z,UZ hk Fe hxk hyk,by omega,ho⟩,by simp only [];omega⟩
  refine go ?_;refine H6 rfl ?_;have hr:=hk.len;have:k=i:=by omega
  subst this;have hp:k=j:=by omega
  subst hp;exact⟨_,rfl,z,rfl,cur,ho,Y6 O hsm hw hi hjb hk hup hlo⟩
 have ham2:a+2<=m:=by omega
 have hmb2:m+2<=b:=by omega
 refine gn ?_;refine F3 (v:=I ↑(a+b)) rfl (GK rfl rfl FH) rfl (F3 (v:=.int .u64 ↑(a+b)) rfl (Lq (n:=a+b) (k:=.i64) Fe rfl Ff Ff) rfl (dp (MX (u:=a+b) rfl rfl) (dp (Me (n:=(a+b) / 2) Fe rfl Ff Ff) (gn ?_))));refine F3 (v:=I ↑((a+b) / 2+m)) rfl (GK rfl rfl FH) rfl (g0 ?_);refine wS (g0 ?_);refine GP (G:=Nat×Nat) (λ(s0,r0)=>[(0,v),(1,I ↑a),(2,I ↑m),(3,I ↑b),(4,Hf f),(18,I ↑((a+b) / 2)),(19,I ↑((a+b) / 2+m)),(20,I ↑s0),(21,I ↑r0)]) (λ(s0,r0) w'=>Mod (λk=>v.ownBlock=some k) w w'/\a<=s0/\s0<=r0/\r0<=m/\(s0=a\/(a+b) / 2+m-s0=b)/\(r0=m\/(a+b) / 2+m-r0=m)/\(a+b) / 2+m-s0<=b/\m<=(a+b) / 2+m-r0/\Vc.Own Fi.cs 5 62 Bo w' v l) ?_ ?_
 ·refine Fk (λc9=>?_) λc9=>?_
  ·have xd:(a+b) / 2<m:=by omega
   refine gn ?_;refine F3 (v:=I ↑((a+b) / 2+m-b)) rfl (G7 rfl rfl FH) FY (go ?_);exact⟨((a+b) / 2+m-b,(a+b) / 2),KZ,z,by omega,by omega,by omega,.inr Fe,.inr Fe,by omega,by omega,ho⟩
  have xd:m<=(a+b) / 2:=by omega
  refine go ?_;exact⟨(a,m),KZ,z,by omega,by omega,by omega,.inl rfl,.inl rfl,by omega,by omega,ho⟩
 rintro _ ⟨s0,r0⟩ w15 ⟨z,q0,q1,q2,q3,q4,q5,q6,ho⟩;refine gn ?_;refine F3 (v:=I ↑((a+b) / 2+m-1)) rfl (G7 rfl rfl FH) FY (F8 (G:=Nat×Nat) (λ(s,r)=>[(0,v),(1,I ↑a),(2,I ↑m),(3,I ↑b),(4,Hf f),(18,I ↑((a+b) / 2)),(19,I ↑((a+b) / 2+m)),(20,I ↑s),(21,I ↑r),(22,I ↑((a+b) / 2+m-1))]) (λ(s,r) w'=>Mod (λk=>v.ownBlock=some k) w w'/\s0<=s/\s<=r/\r<=r0/\(s=s0\/∃x y,l[s-1]?=some x/\l[(a+b) / 2+m-s]?=some y/\FZ c y x=false)/\(r=r0\/∃x y,l[r]?=some x/\l[(a+b) / 2+m-1-r]?=some y/\FZ c y x=true)/\Vc.Own Fi.cs 5 62 Bo w' v l) (λ(s,r)=>r-s) (s0,r0) ⟨z,Aa _,q1,Aa _,.inl rfl,.inl rfl,ho⟩ ?_);rintro _ ⟨s,r⟩ w16 ⟨z,hs0,hsr1,hr0,hlo,hhi,ho⟩;refine Fk (λh9=>?_) λh9=>?_
 ·obtain⟨y,hyh⟩:∃x,l[(a+b) / 2+m-1-(s+r) / 2]?=some x:=F7;obtain⟨x,hxc⟩:∃x,l[(s+r) / 2]?=some x:=F7;refine gn ?_;refine F3 (v:=I ↑(s+r)) rfl (GK rfl rfl FH) rfl (F3 (v:=.int .u64 ↑(s+r)) rfl (Lq (n:=s+r) (k:=.i64) Fe rfl Ff Ff) rfl (dp (MX (u:=s+r) rfl rfl) (dp (Me (n:=(s+r) / 2) Fe rfl Ff Ff) (Gt 100510001000000 λw17 xn=>Fy xn ho z λho z=>?_))));refine gn ?_;refine F3 (v:=I ↑((a+b) / 2+m-1-(s+r) / 2)) rfl (G7 rfl rfl FH) FY (di 62 5 (ho.arr Fg).sl rfl ((ho.arr Fg).lt hyh) (Gh rfl (λw' hR=>Fx Ff rfl rfl (((ho.arr Fg).ext hR).row hyh)) (go ?_)));refine di 62 5 (ho.arr Fg).sl rfl ((ho.arr Fg).lt hxc) (Gh rfl (λw' hR=>Fx Ff rfl rfl (((ho.arr Fg).ext hR).row hxc)) (Mm (vs:=[y.v,x.v]) rfl rfl hcb (hc _ y x) rfl RX.all (λw18 xi=>Fy xi ho z λho z=>?_)));refine Gb (λht=>?_) λht=>?_
  ·have Z:FZ c y x=false:=by simpa [FZ]using ht
   refine go ?_;exact⟨((s+r) / 2+1,r),Lk,⟨z,by omega,by omega,hr0,.inr ⟨x,y,by rw[Ca];exact hxc,by rw[<-hyh];congr 1;omega,Z⟩,hhi,ho⟩,by simp only [];omega⟩
  have Z:FZ c y x=true:=by simpa [FZ]using ht
  refine go ?_;exact⟨(s,(s+r) / 2),Lk,⟨z,hs0,by omega,by omega,hlo,.inr ⟨x,y,hxc,hyh,Z⟩,ho⟩,by simp only [];omega⟩
 have xf:s=r:=by omega
 subst xf;have hq:∀l2,((s<m/\m<(a+b) / 2+m-s->l2=Jt l s m ((a+b) / 2+m-s))/\(¬ (s<m/\m<(a+b) / 2+m-s)->l2=l))->L6 (FZ c) a m b s ((a+b) / 2+m-s) l l2:=λl2 h2=>VF O hsm Fe Fe Fe Fe (by
  rcases hlo with e|e
  ·rcases q3 with e3|e3
   ·exact .inl Fe
   ·exact .inr (.inl (by rw[e];exact e3))
  ·exact .inr (.inr e)) (by
  rcases hhi with e|e
  ·rcases q4 with e4|e4
   ·exact .inl Fe
   ·exact .inr (.inl (by rw[e];exact e4))
  ·obtain⟨x,y,e1,e2,e3⟩:=e;exact .inr (.inr ⟨x,y,e1,by rw[<-e2];congr 1;omega,e3⟩)) h2
 have J:s+((a+b) / 2+m-s)=(a+b) / 2+m:=by omega
 refine gn ?_;refine F3 (v:=I ↑((a+b) / 2+m-s)) rfl (G7 rfl rfl FH) FY (g0 ?_);refine GP (G:=List Fi) (λl2=>[(0,v),(1,I ↑a),(3,I ↑b),(4,Hf f),(18,I ↑((a+b) / 2)),(20,I ↑s),(24,I ↑((a+b) / 2+m-s))]) (λl2 w'=>Mod (λk=>v.ownBlock=some k) w w'/\L6 (FZ c) a m b s ((a+b) / 2+m-s) l l2/\l2.length=l.length/\Vc.Own Fi.cs 5 62 Bo w' v l2) ?_ ?_
 ·refine FJ 181 (λxp=>?_) λxp=>?_
  ·refine Fk (λxg=>?_) λxg=>?_
   ·refine Gz (Yby l v Bo f _ ho hl s m ((a+b) / 2+m-s) Fe Fe Fe) λu19 w19 xa hy=>?_;have hsz19:=z.size;have z:=z.own xa F5;obtain⟨rfl,hf,ho,h5⟩:=hy;have H:=hq hf ⟨λ_=>h5,λh=>absurd ⟨by omega,by omega⟩ h⟩;have hg:hf.length=l.length:=by rw[h5];have:=(PS (l:=l) (a:=s) (m:=m) (b:=(a+b) / 2+m-s) Fe Fe Fe).len.1;omega
    refine go ?_;exact⟨_,Ho,z,H,hg,ho⟩
   have H:=hq l ⟨λh=>absurd h.2 Fe,λ_=>rfl⟩;have hg:l.length=l.length:=rfl;refine go ?_;exact⟨_,Ho,z,H,hg,ho⟩
  have H:=hq l ⟨λh=>absurd h.1 Fe,λ_=>rfl⟩;have hg:l.length=l.length:=rfl;refine go ?_;refine GS rfl (go ?_);exact⟨_,Ho,z,H,hg,ho⟩
 rintro _ l2 w20 ⟨z,H,hg,ho⟩;refine GP (G:=List Fi) (λl3=>[(0,v),(3,I ↑b),(4,Hf f),(18,I ↑((a+b) / 2)),(24,I ↑((a+b) / 2+m-s))]) (λl3 w'=>Mod (λk=>v.ownBlock=some k) w w'/\Hj (FZ c) a ((a+b) / 2) l2 l3/\Vc.Own Fi.cs 5 62 Bo w' v l3) ?_ ?_
 ·refine FJ 195 (λxb=>?_) λxb=>?_
  ·refine Fk (λxm=>?_) λxm=>?_
   ·refine Gz (ih l2 _ a s ((a+b) / 2) Fe ho Fe Fe Fe Fe (UE H J)) λu21 w21 xc h6=>?_;have hsz21:=z.size;have z:=z.own xc F5;obtain⟨rfl,hf,ho,Y⟩:=h6;refine go ?_;exact⟨_,Hc,z,Y,ho⟩
   have Y:=PG H J (λh=>absurd h.2 Fe);refine go ?_;exact⟨_,Hc,z,Y,ho⟩
  have Y:=PG H J (λh=>absurd h.1 Fe);refine go ?_;refine GS rfl (go ?_);exact⟨_,Hc,z,Y,ho⟩
 rintro _ l3 w22 ⟨z,Y,ho⟩;refine FJ 209 (λxh=>?_) λxh=>?_
 ·refine Fk (λxe=>?_) λxe=>?_
  ·refine Gz (ih l3 _ ((a+b) / 2) ((a+b) / 2+m-s) b Fe ho (by have:=Y.len.1;omega) Fe Fe (by have:=Y.len.1;omega) (VC H J Y)) λu23 w23 xo hz=>?_;have hsz23:=z.size;have z:=z.own xo F5;obtain⟨rfl,hf,ho,xl⟩:=hz;have hh:=NX H J Y xl;refine go ?_;refine Ig (H6 rfl ?_);exact⟨_,rfl,z,rfl,_,ho,hh⟩
  have hh:=NX H J Y (QF H J Y (λh=>absurd h.2 Fe));refine go ?_;refine Ig (H6 rfl ?_);exact⟨_,rfl,z,rfl,_,ho,hh⟩
 have hh:=NX H J Y (QF H J Y (λh=>absurd h.1 Fe));refine go ?_;refine GS rfl (go ?_);refine Ig (H6 rfl ?_);exact⟨_,rfl,z,rfl,_,ho,hh⟩
def Tl (v:Value)(Bo f:Nat)(c:Fi->Fi->Int)(hcb:Hr Tryz.prog f=true)(hc:∀w2 x y,Calls Tryz.prog f [Fi.v x,Fi.v y].toArray w2 (Pure w2 (I (c x y))))(O:Ord (FZ c)):∀N,Vq v Bo f c N
 | 0=>λ_ _ _ _ _ h=>absurd h (Bh _)
 | N+1=>λl w a m b hN ho hl J H hb z=>Ybz l v Bo f c w ho hl hcb hc O a m b J H hb z (λl2 w2 Z m2 Y hN2=>Tl v Bo f c hcb hc O N l2 w2 Z m2 Y Fe)
def Yb0 (l:List Fi)(v:Value)(Bo f:Nat)(c:Fi->Fi->Int)(w:World)(ho:Vc.Own Fi.cs 5 62 Bo w v l)(hl:l.length<=10000000)(hcb:Hr Tryz.prog f=true)(hc:∀w2 x y,Calls Tryz.prog f [Fi.v x,Fi.v y].toArray w2 (Pure w2 (I (c x y))))(O:Ord (FZ c)) :
  G4 246 [v,I ↑l.length,Hf f] w (λk=>v.ownBlock=some k) λu w'=>u=.tuple #[]/\∃l',Vc.Own Fi.cs 5 62 Bo w' v l'/\l'.Perm l/\Up (FZ c) l':=by
 refine cM Tryz.func246 (λk=>v.ownBlock=some k) λz=>F8 (G:=Nat×List Fi) (λ(j,cur)=>[(0,v),(1,I ↑l.length),(2,Hf f),(6,I 20),(7,I ↑(j*20)),(8,I ↑(j*20+20))]) (λ(j,cur) w'=>Mod (λk=>v.ownBlock=some k) w w'/\j*20<=l.length/\I2 (FZ c) 20 j cur/\cur.Perm l/\Vc.Own Fi.cs 5 62 Bo w' v cur) (λ(j,cur)=>l.length-j*20) (0,l) ⟨z,Ab _,λk hk=>absurd hk (Bh k),.refl _,ho⟩ ?_;rintro _ ⟨j,cur⟩ w1 ⟨z,hj,hI,hp,ho⟩;refine go ?_;refine dp (IJ rfl rfl) ?_;refine Fk (λc1=>?_) λc1=>?_
 ·have ha:=hp.length_eq;refine Gz (VE cur v Bo f c _ ho Fe hcb hc O (j*20) (j*20+20) Fe Fe) λu2 w2 x2 hf=>?_;have hsz2:=z.size;have z:=z.own x2 F5;obtain⟨rfl,Y,ho,H⟩:=hf;refine gc ?_;refine F3 (v:=I ↑((j+1)*20)) rfl (L8 rfl) FY (gn ?_);refine F3 (v:=I ↑((j+1)*20+20)) rfl (GK rfl rfl FH) FY (go ?_);exact⟨(j+1,_),HW,⟨z,by omega,WH hI (by rw[Be];exact H),H.perm.trans hp,ho⟩,by simp only [];omega⟩
 have ha:=hp.length_eq;refine Gz (VE cur v Bo f c _ ho Fe hcb hc O (j*20) l.length Fe Fe) λu3 w3 x3 hr=>?_;have hsz3:=z.size;have z:=z.own x3 F5;obtain⟨rfl,Y,ho,H⟩:=hr;refine F8 (G:=Nat×List Fi) (λ(s,cur)=>[(0,v),(1,I ↑l.length),(2,Hf f),(6,I ↑s)]) (λ(s,cur) w'=>Mod (λk=>v.ownBlock=some k) w w'/\20<=s/\s<=40+2*l.length/\M2 (FZ c) s 0 cur/\cur.Perm l/\Vc.Own Fi.cs 5 62 Bo w' v cur) (λ(s,cur)=>l.length-s) (20,Y) ⟨z,Aa _,by omega,UD hI Fe Fe (by rw[ha];exact H),H.perm.trans hp,ho⟩ ?_;rintro _ ⟨s,cur⟩ w4 ⟨z,hs,hs2,hM,hp,ho⟩;refine Fk (λc2=>?_) λc2=>?_
 ·have ha:=hp.length_eq;refine go ?_;refine F3 (v:=I ↑(0+2*s)) rfl (Ks rfl rfl FH) FY (F8 (G:=Nat×Nat×List Fi) (λ(j,q,cur2)=>[(0,v),(1,I ↑l.length),(2,Hf f),(6,I ↑s),(7,I ↑q),(8,I ↑(q+2*s))]) (λ(j,q,cur2) w'=>Mod (λk=>v.ownBlock=some k) w w'/\q=j*(2*s)/\q<=l.length/\M2 (FZ c) s j cur2/\cur2.Perm l/\Vc.Own Fi.cs 5 62 Bo w' v cur2) (λ(j,q,cur2)=>l.length-q) (0,0,cur) ⟨z,by omega,Ab _,hM,hp,ho⟩ ?_);rintro _ ⟨j,q,cur2⟩ w5 ⟨z,hq,hql,hM2,hp2,ho⟩;refine go ?_;refine dp (IJ rfl rfl) ?_;refine Fk (λc3=>?_) λc3=>?_
  ·have Z:=hp2.length_eq;have J:(j+1)*(2*s)=q+2*s:=by rw[hq];exact Be _ _
   refine gn ?_;refine F3 (v:=I ↑(q+s)) rfl (GK rfl rfl FH) rfl (Gz (Tl v Bo f c hcb hc O ((q+2*s)-q+1) cur2 _ q (q+s) (q+2*s) Fe ho Fe Fe Fe Fe (by have h9:=Yb hM2 (by rw[J];omega);rw[J,<-hq]at h9;exact h9)) λu6 w6 x6 hh=>?_);have hsz6:=z.size;have z:=z.own x6 F5;obtain⟨rfl,Y,ho,H⟩:=hh;refine gc ?_;refine F3 (v:=I ↑(q+2*s)) rfl (L8 rfl) FY (go ?_);refine F3 (v:=I ↑(2*s)) rfl (Ks rfl rfl FH) FY (F3 (v:=I ↑(q+2*s+2*s)) rfl (GK rfl rfl FH) rfl (go ?_));exact⟨(j+1,q+2*s,_),HW,⟨z,J.symm,by omega,Y7 hM2 (by rw[J,<-hq];exact H),H.perm.trans hp2,ho⟩,by simp only [];omega⟩
  have Z:=hp2.length_eq;have J:(j+1)*(2*s)=q+2*s:=by rw[hq];exact Be _ _
  refine gn ?_;refine F3 (v:=I ↑(q+s)) rfl (GK rfl rfl FH) rfl ?_;refine Fk (λc4=>?_) λc4=>?_
  ·refine Gz (Tl v Bo f c hcb hc O (l.length-q+1) cur2 _ q (q+s) l.length Fe ho Fe Fe Fe Fe (by have h9:=XB hM2 (by rw[J];omega) (by rw[<-hq];omega);rw[<-hq,Z]at h9;exact h9)) λu7 w7 x7 hg=>?_;have hsz7:=z.size;have z:=z.own x7 F5;obtain⟨rfl,Y,ho,H⟩:=hg;refine go ?_;refine F3 (v:=I ↑(2*s)) rfl (Ks rfl rfl FH) FY (go ?_);exact⟨(2*s,_),Hn,⟨z,by omega,by omega,Qz hM2 (by rw[J];omega) (by rw[<-hq];omega) ⟨λ_=>by rw[<-hq,Z];exact H,λh=>absurd h (by rw[<-hq];omega)⟩,H.perm.trans hp2,ho⟩,by simp only [];omega⟩
  refine go ?_;refine F3 (v:=I ↑(2*s)) rfl (Ks rfl rfl FH) FY (go ?_);exact⟨(2*s,_),Hn,⟨z,by omega,by omega,Qz hM2 (by rw[J];omega) (by rw[<-hq];omega) ⟨λh=>absurd h (by rw[<-hq];omega),λ_=>rfl⟩,hp2,ho⟩,by simp only [];omega⟩
 have ha:=hp.length_eq;refine go ?_;refine Ig (H6 rfl ?_);have ha:=hp.length_eq;exact⟨_,rfl,z,rfl,cur,ho,hp,X5l hM Fe⟩
def Yb1 (l:List Fi)(v:Value)(Bo f:Nat)(c:Fi->Fi->Int)(w:World)(ho:Vc.Own Fi.cs 5 62 Bo w v l)(hl:l.length<=10000000)(hcb:Hr Tryz.prog f=true)(hc:∀w2 x y,Calls Tryz.prog f [Fi.v x,Fi.v y].toArray w2 (Pure w2 (I (c x y))))(O:Ord (FZ c)) :
  G4 174 [v,Hf f] w (λk=>v.ownBlock=some k) λu w'=>u=.tuple #[]/\∃l',Vc.Own Fi.cs 5 62 Bo w' v l'/\l'.Perm l/\Up (FZ c) l':=by
 refine cM Tryz.func174 (λk=>v.ownBlock=some k) λH=>go ?_;refine dv 62 5 (ho.arr Fg).sl (Gz (Yb0 l v Bo f c _ ho hl hcb hc O) λu1 w1 Y J=>?_);have hsz1:=H.size;have H:=H.own Y F5;obtain⟨rfl,z,ho,Z,hu⟩:=J;refine go ?_;refine Ig (H6 rfl ?_);exact⟨_,rfl,H,rfl,z,ho,Z,hu⟩
def Ph {x y z:Fj}(h1:F6 y x=false)(h2:F6 z y=false):F6 z x=false:=by
 cases h:F6 z x with
 | false=>rfl
 | true=>
  rcases KC x y with e|e|e
  ·rw[e,h2]at h;cases h
  ·rw[Kg _ _ _ h e]at h2;cases h2
  ·rw[e]at h1;cases h1
def Xte (a b:Int):(Hz a b<0)↔a<b:=by
 unfold Hz;split
 ·simp [*]
 ·split<;>simp<;>omega
def U5 (a b:Int):(Hz a b=0)↔a=b:=by
 unfold Hz;split
 ·simp;omega
 ·split<;>simp<;>omega
def X21 (a b:Fj):(Iv a b<0)↔F6 a b=true:=by
 unfold Iv;split
 ·simp [*]
 ·split<;>simp [*]
def TE (a b:Fi):FZ HM a b=true↔(a.lev<b.lev\/(a.lev=b.lev/\((a.lev=0/\a.id<b.id)\/(a.lev≠0/\F6 a.fst b.fst=true)))):=by
 unfold FZ HM;rw[decide_eq_true_iff]
 by_cases h:a.lev=0/\b.lev=0
 ·rw[if_pos h,Xte];simp [h.1,h.2]
 ·rw[if_neg h]
  by_cases h2:Hz a.lev b.lev≠0
  ·rw[if_pos h2,Xte];have:=mt (U5 a.lev b.lev).2 h2
   constructor
   ·exact .inl
   ·rintro (h3|h3)
    ·exact h3
    ·exact absurd h3.1 this
  ·rw[if_neg h2,X21];have:=(U5 a.lev b.lev).1 (AF h2);have h0:a.lev≠0:=λe=>h ⟨e,by rw[<-this];exact e⟩;simp [this,h0,this▸h0]
def Yq {a b:Fi} : FZ HM a b=false↔¬ (a.lev<b.lev\/(a.lev=b.lev/\((a.lev=0/\a.id<b.id)\/(a.lev≠0/\F6 a.fst b.fst=true)))):=by
 rw[<-TE];simp
def Ydp : Ord (FZ HM):=⟨λx y z h1 h2=>(by
 rw[Yq]at *;simp only [not_or,not_and,Ch]at *;refine⟨by omega,λe=>⟨λH=>?_,λH=>?_⟩⟩
 ·have e1:z.lev=y.lev:=by omega
  have g1:=(h1.2 Fe).1 Fe;have g2:=(h2.2 e1).1 Fe;omega
 ·have e1:z.lev=y.lev:=by omega
  exact Ph ((h1.2 Fe).2 Fe) ((h2.2 e1).2 Fe)),λx y h=>(by
 rw[TE]at h;rw[Yq];simp only [not_or,not_and,Ch];refine⟨by omega,λe=>⟨λH=>?_,λH=>?_⟩⟩
 ·rcases h with h|⟨_,⟨_,h⟩|⟨h,_⟩⟩<;>omega
 ·rcases h with h|⟨_,⟨h,_⟩|⟨_,h⟩⟩
  ·omega
  ·omega
  ·exact KM h)⟩
def LC (fs:List Fi)(gone:List Int):Bool:=decide gone.Nodup && gone.all λi=>fs.any λf=>decide (f.id=i)
def Je (fs:List Fi)(gone:List Int):List Fi:=fs.filter λf=>!decide (f.id∈gone)
def HV (n:Int)(add:List Fi):Int:=add.foldl (λx f=>max x (f.id+1)) n
def Lr (v:Vs)(gone:List Int)(add:List Fi):Bool:=H2 v && LC v.fs gone && add.all λf=>decide (f.id<=1099511627776)
variable {fs:List Fi}{i:Int}{k:Nat}
def X22 {gone:List Int}(hk:gone[k]?=some i)(h:i∈(gone.take k).drop 0):LC fs gone=false:=by
 unfold LC;rw[CN];left;rw[decide_eq_false_iff_not];intro hn;rw[BY]at h;obtain⟨j,z⟩:=AK h;rw[AX]at z;split at z
 ·rename_i H;obtain⟨h1,rfl⟩:=Ar.1 hk;obtain⟨h2,h3⟩:=Ar.1 z;exact C4.1 hn j k h2 h1 H h3
 ·cases z
def Xy0 {gone:List Int}(hk:gone[k]?=some i)(h:(fs.any λf=>decide (f.id=i))=false):LC fs gone=false:=by
 unfold LC;rw[CN];right;rw[EL];exact⟨i,Ag hk,by rw[h];decide⟩
def Xy1 {gone:List Int}(hk:gone[k]?=some i)(h:LC fs (gone.take k)=true)(h1:i∉(gone.take k).drop 0)(h2:(fs.any λf=>decide (f.id=i))=true):LC fs (gone.take (k+1))=true:=by
 unfold LC at *;rw[Aw,decide_eq_true_iff]at *;rw[GW hk,CJ,h.2];refine⟨BK.2 ⟨h.1,by simp,λa z b hb e=>h1 ?_⟩,by simp [h2]⟩;rw[Af.1 hb]at e;rw[BY,<-e];exact z
def Yo {gone:List Int}{f:Fi}(hk:fs[k]?=some f):Je (fs.take (k+1)) gone=if f.id∈gone then Je (fs.take k) gone else Je (fs.take k) gone++[f]:=by
 unfold Je;rw[GW hk,Bs]
 by_cases h:f.id∈gone<;>simp [h]
def RR (fs:List Fi)(gone:List Int)(k:Nat):(Je (fs.take k) gone).length<=fs.length:=by
 have h1:(Je (fs.take k) gone).length<=(fs.take k).length:=List.length_filter_le _ _;have h2:(fs.take k).length<=fs.length:=List.length_take_le' ..;omega
def Xy2 {n:Int}{add:List Fi}{f:Fi}(hk:add[k]?=some f):HV n (add.take (k+1))=max (HV n (add.take k)) (f.id+1):=by
 unfold HV;rw[GW hk,BA];rfl
def PF {v:Vs}{gone:List Int}{add:List Fi}(h:H2 v=false\/LC v.fs gone=false\/∃f∈add,¬ f.id<=1099511627776):Lr v gone add=false:=by
 unfold Lr;rcases h with h|h|⟨f,hf,h⟩
 ·rw[h];rfl
 ·rw[h];simp
 ·rw[CN];right;rw[EL];exact⟨f,hf,by simpa using h⟩
def Ub {v:Vs}{gone:List Int}{add:List Fi}(h1:H2 v=true)(h2:LC v.fs gone=true)(h3:∀f∈add,f.id<=1099511627776):Lr v gone add=true:=by
 unfold Lr;rw[h1,h2];simp only [Bool.and_self,C1,AQ,decide_eq_true_eq];exact h3
def X23 (n:Int)(fs:List Fi)(vf:Value)(gone:List Int)(vg:Value)(add:List Fi)(va:Value)(w:World)(hf:Fu Fi.cs 5 w vf fs)(hfl:fs.length<=40000)(hid:∀f∈fs,Ge f.id)(hg:Fu Vc.encI 1 w vg gone)(hgl:gone.length<=40000)(ha:Fu Fi.cs 5 w va add)(hal:add.length<=60000)(had:∀f∈add,Ge f.id) :
  Gi 91 [.agg ⟨[I n,vf]⟩,vg,va] w λu w'=>(Lr ⟨n,fs⟩ gone add=false/\u=.tuple #[.agg ⟨[I 0,.slice none 0 0]⟩,I 1])\/(Lr ⟨n,fs⟩ gone add=true/\∃fs',fs'.Perm (Je fs gone++add)/\Up (FZ HM) fs'/\((H2 ⟨HV n add,fs'⟩=false/\u=.tuple #[.agg ⟨[I 0,.slice none 0 0]⟩,I 1])\/(H2 ⟨HV n add,fs'⟩=true/\∃vx,u=.tuple #[.agg ⟨[I (HV n add),vx]⟩,I 0]/\Vc.Own Fi.cs 5 62 w.heap.size w' vx fs'))):=by
 refine cE Tryz.func91 λz=>go ?_;refine G1 rfl rfl rfl RX.all (λb1 w1 e1 x1 O=>?_);have g1:=z.ge e1;have z:=z.trans x1;refine aL [.int .i64 0,.slice none 0 0] λb2 w2 e2 x2 H=>?_;have g2:=z.ge e2;have n2_1:=O.ltb e2;refine Fy x2 O z λO z=>go ?_;refine dq (Fx (k:=2) Ff rfl rfl O.row) (cP (QQ n fs vf _ (hf.ext z) Fe hid) RX.all λw3 x3=>FC x3 O H z λO H z=>?_);refine Gb (λc1=>?_) λc1=>?_
 ·refine go ?_;refine db (zs:=[.int .i64 0,.slice none 0 0]) (pl:=[(0,1),(1,1)]) (pv:=[]) (cs:=[.int .i64 0,.slice none 0 0]) ?_;refine Gg H (λw4 x4 xs4 H=>?_);have O:=O.mo x4;have z:=z.o1 x4;refine go ?_;refine I5 (u:=?v6) rfl rfl rfl rfl Ff rfl H.row ?h6 ?k6
  case h6=>conv=>lhs;whnf
  exact⟨_,rfl,z,.inl ⟨PF (.inl (by simpa using c1)),rfl⟩⟩
 have hV:H2 ⟨n,fs⟩=true:=by simpa using c1
 refine go ?_;refine db (zs:=[.int .i64 0,.slice none 0 0]) (pl:=[(0,1),(1,1)]) (pv:=[(0,_)]) (cs:=[_,.slice none 0 0]) ?_;refine aL [.int .i64 0,.slice none 0 0] λb3 w5 e3 x5 J=>?_;have g3:=z.ge e3;have n3_1:=O.ltb e3;have n3_2:=H.ltb e3;refine FC x5 O H z λO H z=>Gg J (λw6 x6 xs6 J=>?_);have O:=O.mo x6;have H:=H.mo x6;have z:=z.o1 x6;refine FM 3 1 (hg.ext z).sl ?_;refine F8 (G:=Nat) (λk=>[(1,vg),(2,va),(3,Fh b1 0),(6,Fh b2 0),(8,Fh b3 0),(22,vg),(23,I ↑gone.length),(24,I ↑k)]) (λk w'=>Fq w w'/\Fp w' b1 [I n,vf] 56/\Fp w' b2 [I 0,.slice none 0 0] 56/\Fp w' b3 [I n,.slice none 0 0] 56/\k<=gone.length/\LC fs (gone.take k)=true) (λk=>gone.length-k) 0 ⟨z,O,H,J,Ab _,rfl⟩ ?_;rintro _ k w7 ⟨z,O,H,J,hk1,hgo⟩;refine Fk (λc2=>?_) λc2=>?_
 ·obtain⟨i,hk⟩:∃i,gone[k]?=some i:=F7;refine FN 3 1 hg.sl (hg.lt hk) ?_;refine dl rfl (((hg.ext z).row hk).at0 rfl) (aL [.int .i64 0] λb4 w8 e4 x8 m4=>?_);have g4:=z.ge e4;have n4_1:=O.ltb e4;have n4_2:=H.ltb e4;have n4_3:=J.ltb e4;refine FQ x8 O H J z λO H J z=>go ?_;refine HL m4 (λw9 x9 xs9 m4=>?_) (hv:=by rfl);have O:=O.mo x9;have H:=H.mo x9;have J:=J.mo x9;have z:=z.o1 x9;refine Gt 1002010051000 λw10 xq=>Ga xq O H J m4 z λO H J m4 z=>?_;refine go ?_;refine dp (HH (e:=3) (k:=1) Ff (hg.ext z).sl rfl rfl rfl Fe Fe) (Gs (Ym ((gone.take k).drop 0) (Hg 1 vg 0 k) i _ ((hg.ext z).slice (Ab _) Fe) (by rw[Bd,AE];omega)) λw11 xh=>Ga xh O H J m4 z λO H J m4 z=>?_);refine go ?_;refine IR 34 rfl (λc3=>?_) (λc3=>?_)
  ·refine go ?_;refine GU rfl (go ?_);refine db (zs:=[.int .i64 0,.slice none 0 0]) (pl:=[(0,1),(1,1)]) (pv:=[]) (cs:=[.int .i64 0,.slice none 0 0]) ?_;refine Gg H (λw12 hy xs12 H=>?_);have O:=O.mo hy;have J:=J.mo hy;have m4:=m4.mo hy;have z:=z.o1 hy;refine go ?_;refine I5 (u:=?v21) rfl rfl rfl rfl Ff rfl H.row ?h21 ?k21
   case h21=>conv=>lhs;whnf
   exact⟨_,rfl,z,.inl ⟨PF (.inr (.inl (X22 hk (by simpa using c3)))),rfl⟩⟩
  refine go ?_;refine dp (Pm rfl) (cP (X75 fs vf 173 [Fh b4 0] (λf=>decide (f.id=i)) _ (hf.ext z) Fe Ff (λw2 x2 x _=>Ybc x i _ w2 (m4.ext x2))) RX.ext λw13 xj=>FQ xj O H J z λO H J z=>?_);refine Gb (λc4=>?_) λc4=>?_
  ·refine go ?_;refine db (zs:=[.int .i64 0,.slice none 0 0]) (pl:=[(0,1),(1,1)]) (pv:=[]) (cs:=[.int .i64 0,.slice none 0 0]) ?_;refine Gg H (λw14 xb xs14 H=>?_);have O:=O.mo xb;have J:=J.mo xb;have z:=z.o1 xb;refine go ?_;refine I5 (u:=?v27) rfl rfl rfl rfl Ff rfl H.row ?h27 ?k27
   case h27=>conv=>lhs;whnf
   exact⟨_,rfl,z,.inl ⟨PF (.inr (.inl (Xy0 hk (by simpa using c4)))),rfl⟩⟩
  refine go ?_;exact FL (k+1) ⟨z,O,H,J,by omega,Xy1 hk hgo (by simpa using c3) (by simpa using c4)⟩
 rw[Av Fe]at hgo;refine FM 62 5 (hf.ext z).sl ?_;refine F8 (G:=Nat×Value) (λ(k,vb)=>[(1,vg),(2,va),(6,Fh b2 0),(8,Fh b3 0),(44,vf),(45,I ↑fs.length),(46,I ↑k)]) (λ(k,vb) w'=>Fq w w'/\Fp w' b1 [I n,vf] 56/\Fp w' b2 [I 0,.slice none 0 0] 56/\k<=fs.length/\Fp w' b3 [I n,vb] 56/\Vc.Own Fi.cs 5 62 w.heap.size w' vb (Je (fs.take k) gone)) (λ(k,vb)=>fs.length-k) (0,.slice none 0 0) ⟨z,O,H,Ab _,J,Vc.Own.nil⟩ ?_;rintro _ ⟨k,vb⟩ w15 ⟨z,O,H,hk1,J,ho⟩;refine Fk (λc5=>?_) λc5=>?_
 ·obtain⟨f,hk⟩:∃f,fs[k]?=some f:=F7;have Y:=RR fs gone k;refine FN 62 5 hf.sl (hf.lt hk) ?_;refine dq (Fx Ff rfl rfl ((hf.ext z).row hk)) (aL [.int .i64 0,.int .i64 0,.int .i64 0,S [],S []] λb5 w16 e5 xo m5=>?_);have g5:=z.ge e5;have n5_1:=O.ltb e5;have n5_2:=H.ltb e5;have n5_3:=J.ltb e5;have xc:=ho.ltb e5;refine Ga xo O H J ho z λO H J ho z=>Gg m5 (λw17 ht xs17 m5=>?_);have O:=O.mo ht;have H:=H.mo ht;have J:=J.mo ht;have ho:=ho.mod ht Fw;have z:=z.o1 ht;refine Gs (Ym gone vg f.id _ (hg.ext z) Fe) λw18 xp=>HB xp O H J ho m5 z λO H J ho m5 z=>?_;refine Gb (λc6=>?_) λc6=>?_
  ·refine go ?_;refine dq (Fx (k:=5) Ff rfl rfl m5.row) (lA 62 rfl λb6 w19 e6 xl m6=>?_);have g6:=z.ge e6;have n6_1:=O.ltb e6;have n6_2:=H.ltb e6;have n6_3:=J.ltb e6;have n6_5:=m5.ltb e6;have o6_ho:=ho.ltb e6;refine HB xl O H J ho m5 z λO H J ho m5 z=>G8 f ho m6 λvp w20 hl hp=>?_;have O:=O.mod hp Fw;have H:=H.mod hp Fw;have J:=J.mod hp Fw;have m5:=m5.mod hp (by intro h;have h1:=xc _ h;omega);have z:=z.own hp F5;have ho:=hl;have h7:∀k,vp.ownBlock=some k->¬ Fv b3 k:=λk hk e=>ho.ne_blk J rfl (hk.trans (congrArg some e));clear m6;refine go ?_;refine HL J (λw21 hz xs21 J=>?_) (hv:=by exact Gq.one ho.sl);have O:=O.mo hz;have H:=H.mo hz;have ho:=ho.mod hz Fw;have z:=z.o1 hz;refine go ?_;rw[show Je (fs.take k) gone++[f]=Je (fs.take (k+1)) gone by rw[Yo hk,if_neg (by simpa using c6)]]at ho;exact⟨(k+1,vp),Ho,⟨z,O,H,by omega,J,ho⟩,by simp only [];omega⟩
  refine go ?_;rw[show Je (fs.take k) gone=Je (fs.take (k+1)) gone by rw[Yo hk,if_pos (by simpa using c6)]]at ho;exact⟨(k+1,vb),Ho,⟨z,O,H,by omega,J,ho⟩,by simp only [];omega⟩
 rw[Av Fe]at ho;refine FM 62 5 (ha.ext z).sl ?_;refine F8 (G:=Nat×Value) (λ(j,vb)=>[(6,Fh b2 0),(8,Fh b3 0),(62,va),(63,I ↑add.length),(64,I ↑j)]) (λ(j,vb) w'=>Fq w w'/\Fp w' b1 [I n,vf] 56/\Fp w' b2 [I 0,.slice none 0 0] 56/\j<=add.length/\(∀f∈add.take j,f.id<=1099511627776)/\Fp w' b3 [I (HV n (add.take j)),vb] 56/\Vc.Own Fi.cs 5 62 w.heap.size w' vb (Je fs gone++add.take j)) (λ(j,vb)=>add.length-j) (0,vb) ⟨z,O,H,Ab _,(λf hf=>by cases hf),J,by simpa using ho⟩ ?_;rintro _ ⟨j,vb⟩ w22 ⟨z,O,H,hj1,hA,J,ho⟩;refine Fk (λc7=>?_) λc7=>?_
 ·obtain⟨f,hk⟩:∃f,add[j]?=some f:=F7;have Y:=RR fs gone fs.length;rw[AT]at Y;have xr:=had f (Ag hk);unfold Ge at xr;have h7:∀k,vb.ownBlock=some k->¬ Fv b3 k:=λk hk e=>ho.ne_blk J rfl (hk.trans (congrArg some e));refine FN 62 5 ha.sl (ha.lt hk) ?_;refine dq (Fx Ff rfl rfl ((ha.ext z).row hk)) (aL [.int .i64 0,.int .i64 0,.int .i64 0,S [],S []] λb7 w23 e7 xk Z=>?_);have g7:=z.ge e7;have n7_1:=O.ltb e7;have n7_2:=H.ltb e7;have n7_3:=J.ltb e7;have h8:=ho.ltb e7;refine Ga xk O H J ho z λO H J ho z=>Gg Z (λw24 hh xs24 Z=>?_);have O:=O.mo hh;have H:=H.mo hh;have J:=J.mo hh;have ho:=ho.mod hh Fw;have z:=z.o1 hh;refine Fk (λc8=>?_) λc8=>?_
  ·refine go ?_;refine db (zs:=[.int .i64 0,.slice none 0 0]) (pl:=[(0,1),(1,1)]) (pv:=[]) (cs:=[.int .i64 0,.slice none 0 0]) ?_;refine Gg H (λw25 hr xs25 H=>?_);have O:=O.mo hr;have J:=J.mo hr;have ho:=ho.mod hr Fw;have Z:=Z.mo hr;have z:=z.o1 hr;refine go ?_;refine I5 (u:=?v43) rfl rfl rfl rfl Ff rfl H.row ?h43 ?k43
   case h43=>conv=>lhs;whnf
   exact⟨_,rfl,z,.inl ⟨PF (.inr (.inr ⟨f,Ag hk,by omega⟩)),rfl⟩⟩
  refine go ?_;refine dp (R8 rfl rfl) (go ?_);refine HL J (λw26 hc xs26 J=>?_) (hv:=by rfl);have O:=O.mo hc;have H:=H.mo hc;have ho:=ho.mod hc Fw;have Z:=Z.mo hc;have z:=z.o1 hc;refine go ?_;refine dq (Fx (k:=5) Ff rfl rfl Z.row) (lA 62 rfl λb8 w27 e8 xn m8=>?_);have g8:=z.ge e8;have n8_1:=O.ltb e8;have n8_2:=H.ltb e8;have n8_3:=J.ltb e8;have n8_7:=Z.ltb e8;have o8_ho:=ho.ltb e8;refine HB xn O H J ho Z z λO H J ho Z z=>G8 f ho m8 λvp w28 hl hj=>?_;have O:=O.mod hj Fw;have H:=H.mod hj Fw;have J:=J.mod hj Fw;have Z:=Z.mod hj (by intro h;have h1:=h8 _ h;omega);have z:=z.own hj F5;have ho:=hl;have h7:∀k,vp.ownBlock=some k->¬ Fv b3 k:=λk hk e=>ho.ne_blk J rfl (hk.trans (congrArg some e));clear m8;refine go ?_;refine HL J (λw29 h5 xs29 J=>?_) (hv:=by exact Gq.one ho.sl);have O:=O.mo h5;have H:=H.mo h5;have ho:=ho.mod h5 Fw;have z:=z.o1 h5;refine go ?_;rw[<-Xy2 hk]at J;rw[A6,<-GW hk]at ho;exact FL (j+1,vp) ⟨z,O,H,by omega,λq hq=>(by rw[GW hk]at hq;rcases Al.1 hq with h|h;exact hA q h;rw[Af.1 h];omega),J,ho⟩
 have hne2:∀k,vb.ownBlock=some k->¬ Fv b2 k:=λk hk e=>ho.ne_blk H rfl (hk.trans (congrArg some e));have Y:=RR fs gone fs.length;rw[AT]at Y;rw[Av Fe]at ho J hA;refine Gz (Yb1 _ vb w.heap.size 175 HM _ ho Gx Ff (λw2 x y=>T1 x y w2) Ydp) λu30 w30 xa xf=>?_;have hsz30:=z.size;have H:=H.mod xa Fw;have J:=J.mod xa Fw;have z:=z.own xa F5;obtain⟨rfl,l2,ho,hw,xg⟩:=xf;have xe:=hw.length_eq;rw[Ad]at xe;refine go ?_;refine dq (Fx (k:=2) Ff rfl rfl J.row) (cP (QQ (HV n add) l2 vb _ (ho.arr Fg) Fe (λf xi=>(Al.1 (hw.mem_iff.1 xi)).elim (λh=>hid f (Ax.1 h).1) (had f))) RX.all λw31 xm=>FQ xm H J ho z λH J ho z=>?_);refine Gb (λc9=>?_) λc9=>?_
 ·refine go ?_;refine db (zs:=[.int .i64 0,.slice none 0 0]) (pl:=[(0,1),(1,1)]) (pv:=[]) (cs:=[.int .i64 0,.slice none 0 0]) ?_;refine Gg H (λw32 h9 xs32 H=>?_);have J:=J.mo h9;have ho:=ho.mod h9 Fw;have z:=z.o1 h9;refine go ?_;refine I5 (u:=?v52) rfl rfl rfl rfl Ff rfl H.row ?h52 ?k52
  case h52=>conv=>lhs;whnf
  exact⟨_,rfl,z,.inr ⟨Ub hV hgo hA,l2,hw,xg,.inl ⟨by simpa using c9,rfl⟩⟩⟩
 refine go ?_;refine dq (Fx (k:=2) Ff rfl rfl J.row) (Gg H (λw33 xd xs33 H=>?_) (h1:=by(intro u hu;rcases Ah.1 hu with e|hu;subst e;rfl;rw[Af.1 hu];exact ho.sl.one)));have ho:=ho.mod xd Fw;have z:=z.o1 xd;refine go ?_;refine I5 (u:=?v55) rfl rfl rfl rfl Ff rfl H.row ?h55 ?k55
 case h55=>conv=>lhs;whnf
 exact⟨_,rfl,z,.inr ⟨Ub hV hgo hA,l2,hw,xg,.inr ⟨by simpa using c9,vb,rfl,ho⟩⟩⟩
end Go.Proofs.YtiooodckiddpmaaGreatDoor
