/-
 A part of the proof: MemE MemF SpBat2 VcSk IterF BtB LsC LsD LsE LsF LsG SpStab SpSt2 SpMg VcCl.
-/
import Derived.Test.YtiooodckiddpmaaGreatDoorFkA
import Derived.Test.YtiooodckiddpmaaGreatDoorChecked
import Derived.KernelRfl
import Derived.Test.YtiooodckiddpmaaGreatDoorFkE
import Derived.Test.YtiooodckiddpmaaGreatDoorFkD
import Derived.Lib.Bytealg
import Derived.Shelf.SlSortCmp.WholeK
import Derived.Shelf.SlSortCmp.NoneTotal
import Derived.Sort.OwnSorted
import Derived.Shelf.SlGeneric
import Derived.Ground.SlsfProg
import Derived.Test.YtiooodckiddpmaaGreatDoorProg
import Derived.Test.YtiooodckiddpmaaGreatDoorFkB
open Nat renaming le_refl->Aa,zero_le->Ad,le_trans->Ae,le_of_ble_eq_true->Ap,lt_of_lt_of_le->A0,zero_add->A9,mul_le_mul_right->AY,succ_mul->Ba,mod_lt->Bg,lt_or_ge->Bj,min_eq_left->Bv,mul_comm->Bx,not_lt_zero->B3,add_zero->BN,add_sub_cancel->BR,eq_zero_or_pos->Cl,mul_assoc->Cq,eq_or_lt_of_le->Cv,sub_zero->Cx,zero_mul->C0,sub_self->DF,lt_trichotomy->Eo
open List renaming length_append->Ab,take->Af,set->Ag,mem_singleton->Ah,drop->Ai,mem_cons->Aj,mem_of_getElem?->Ak,mem_cons_self->Al,mem_cons_of_mem->Am,length_map->An,getElem?_eq_some_iff->Ao,map_cons->Aq,getElem?_eq_getElem->Av,replicate->Aw,take_of_length_le->Ax,mem_append->Ay,length_take->A4,eq_nil_of_length_eq_zero->A5,length->A7,append_assoc->AA,length_cons->AB,map_append->AC,flatMap_cons->AD,nil_append->AE,length_set->AG,getElem?_of_mem->AJ,pairwise_cons->AO,append_nil->AP,cons_append->AS,take_append_drop->AT,getElem?_take->AV,length_nil->Bc,map_map->Be,getElem?_drop->Bf,length_drop->Bh,getElem?_eq_none->Bl,pairwise_append->Bs,getElem?_append_left->Bw,take_add_one->B4,any_eq_true->B6,ext_getElem?->BA,getElem?_set_self->BB,getElem?_append_right->BG,drop_of_length_le->BH,pairwise_iff_getElem->BU,cons->BV,mem_iff_getElem?->BZ,getElem?_set_ne->Cf,drop_eq_nil_of_le->Cg,sum_append->Ch,take_left'->Ci,drop_left'->Cj,take_succ_cons->Cr,take_take->CP,eq_nil_or_concat->Dl,take_set_of_le->DA,concat_eq_append->DH,perm_middle->DK,getElem?_take_of_lt->Ei,set_cons_zero->Ej,set_comm->Ek,perm_append_singleton->El,take_append->En
open Bool renaming and_eq_true->Au
open Option renaming some->A3,bind_some->Cn,isSome_iff_exists->Cz
open List.Pairwise renaming nil->Bp,imp₂->E6
open Array renaming getElem?_eq_some_iff->BF,getElem?_toList->Ds,getElem?_modify->Du
open UInt8 renaming not_lt->CU
open List.Perm renaming append_left->DG
set_option maxRecDepth 100000
set_option maxHeartbeats 4000000
set_option linter.unusedVariables false
set_option linter.unusedSimpArgs false
namespace Go.Proofs.YtiooodckiddpmaaGreatDoor
open Go.Vc Go.Sp
attribute [local irreducible] W XW Dw Gm
def foot (bm:Nat)(va vd:Value)(a:List Tow)(k:Nat):Prop:=k=bm\/va.ownBlock=some k\/vd.ownBlock=some k\/∃t∈a,t.bk=k
section
variable {w w':World}{bm:Nat}{va vd:Value}{a:List Tow}{nx:Nat->List Nat}{dr:List Nat}{n sz:Nat}{S:Nat->Prop}{L:List Nat}{l:List Cell}
theorem MemAt.mod (h:MemAt w bm va vd a nx dr n sz)(x:Mod S w w')(hS:∀k,foot bm va vd a k->¬ S k):MemAt w' bm va vd a nx dr n sz:=
 ⟨h.hm.mod x (hS _ (.inl rfl)),h.hA.mod x (λk hk=>hS k (.inr (.inl hk))),h.hd.mod x (λk hk=>hS k (.inr (.inr (.inl hk)))),
  λi t r=>⟨(h.hN i t r).1.mod x (hS _ (.inr (.inr (.inr ⟨t,Ak r,rfl⟩)))),(h.hN i t r).2⟩,h.d2⟩
theorem MemAt.lt (h:MemAt w bm va vd a nx dr n sz){k:Nat}(hk:foot bm va vd a k):k<w.heap.size:=by
 rcases hk with rfl|hk|hk|⟨t,ht,rfl⟩
 ·exact h.hm.lt
 ·exact(h.hA.lt k hk).2
 ·exact(h.hd.lt k hk).2
 ·obtain⟨i,hi⟩:=BZ.1 ht;exact(h.hN i t hi).1.lt
theorem MemAt.setn (h:MemAt w bm va vd a nx dr n sz){n' sz':Nat}(x:Mod (ES bm) w w')(hm:EL w' bm [va,vd,I ↑n',I ↑sz'] 155):MemAt w' bm va vd a nx dr n' sz':=
 ⟨hm,h.hA.mod x (λk hk e=>h.hA.ne_blk h.hm rfl (by rw[hk];exact congrArg some e)),h.hd.mod x (λk hk e=>h.hd.ne_blk h.hm rfl (by rw[hk];exact congrArg some e)),
  λi t r=>⟨(h.hN i t r).1.mod x (λe=>(h.hN i t r).1.ne h.hm rfl e),(h.hN i t r).2⟩,h.d2⟩
def HA (nx:Nat->List Nat)(p:Nat)(q:List Nat):Nat->List Nat:=λi=>if i=p then q else nx i
theorem MemAt.setN (h:MemAt w bm va vd a nx dr n sz){p:Nat}{t:Tow}{q:List Nat}(ht:a[p]?=some t)(x:Mod (ES t.bk) w w')(hq:EL w' t.bk (FP q) 3)(hl:q.length=t.h):MemAt w' bm va vd a (HA nx p q) dr n sz:=by
 refine⟨h.hm.mod x (λe=>h.hm.ne (h.hN p t ht).1 rfl e),h.hA.mod x (λk hk e=>h.hA.ne_blk (h.hN p t ht).1 rfl (by rw[hk];exact congrArg some e)),h.hd.mod x (λk hk e=>h.hd.ne_blk (h.hN p t ht).1 rfl (by rw[hk];exact congrArg some e)),
  λi s hs=>?_,h.d2⟩
 unfold HA
 by_cases e:i=p
 ·subst e;rw[ht]at hs
  cases hs
  rw[if_pos rfl];exact⟨hq,hl⟩
 ·rw[if_neg e];exact⟨(h.hN i s hs).1.mod x (λe2=>e (h.d2 i p s t hs ht e2)),(h.hN i s hs).2⟩
theorem MemAt.grow (h:MemAt w bm va vd a nx dr n sz){w1 w2:World}{va':Value}{t:Tow}{q:List Nat}{sz':Nat}(x:Mod (λk=>va.ownBlock=some k) w w1)(hA:Vc.Own Tow.enc 5 172 0 w1 va' (a++[t]))(y:Mod (ES bm) w1 w2)
  (hm:EL w2 bm [va',vd,I ↑n,I ↑sz'] 155) (hq:EL w t.bk (FP q) 3) (hl:q.length=t.h) (hn:∀s∈a,s.bk≠t.bk):MemAt w2 bm va' vd (a++[t]) (HA nx a.length q) dr n sz':=by
 have z:EL w1 bm [va,vd,I ↑n,I ↑sz] 155:=h.hm.mod x (λe=>h.hA.ne_blk h.hm rfl e);have J:∀ {b:Nat} {cs:List Value},EL w b cs 3->EL w2 b cs 3:=λ {b cs} hb=>(hb.mod x (λe=>h.hA.ne_blk hb rfl e)).mod y (λe=>hb.ne h.hm rfl e);refine⟨hm,hA.mod y (λk hk e=>hA.ne_blk z rfl (by rw[hk];exact congrArg some e)),(h.hd.mod x (λk hk e=>h.hd.ne h.hA rfl hk e)).mod y (λk hk e=>h.hd.ne_blk h.hm rfl (by rw[hk];exact congrArg some e)),λi s hs=>?_,λi j s u hs hu e=>?_⟩
 ·by_cases hi:i<a.length
  ·rw[Bw hi]at hs;unfold HA;rw[if_neg EA];exact⟨J (h.hN i s hs).1,(h.hN i s hs).2⟩
  ·have r:=(Ao.1 hs).1;rw[Ab]at r;have e:i=a.length:=by simp at r;omega
   subst e;rw[BG (Aa _)]at hs;simp at hs;subst hs;unfold HA;rw[if_pos rfl];exact⟨J hq,hl⟩
 ·have at':∀(i:Nat) (s:Tow),(a++[t])[i]?=some s->(i<a.length/\a[i]?=some s)\/(i=a.length/\s=t):=λi s hs=>by
   by_cases hi:i<a.length
   ·rw[Bw hi]at hs;exact .inl ⟨hi,hs⟩
   ·have r:=(Ao.1 hs).1;rw[Ab]at r;have e:i=a.length:=by simp at r;omega
    subst e;rw[BG (Aa _)]at hs;simp at hs;exact .inr ⟨rfl,hs.symm⟩
  rcases at' i s hs with⟨_,h1⟩|⟨h1,rfl⟩<;>rcases at' j u hu with⟨_,h2⟩|⟨h2,rfl⟩
  ·exact h.d2 i j s u h1 h2 e
  ·exact absurd e (hn s (Ak h1))
  ·exact absurd e.symm (hn u (Ak h2))
  ·omega
end
def F6 (F:Nat->Prop)(w:World)(bm:Nat)(l:List Cell):Prop:=∃(va vd:Value) (a:List Tow) (nx:Nat->List Nat) (dr:List Nat) (L:List Nat),
 MemAt w bm va vd a nx dr l.length (GS l)/\Skip a nx L l/\Fv l/\(∀k,foot bm va vd a k->F k)/\(∀k,F k->k<w.heap.size)
theorem F6.mod {F S:Nat->Prop}{w w':World}{bm:Nat}{l:List Cell}(h:F6 F w bm l)(x:Mod S w w')(hS:∀k,F k->¬ S k):F6 F w' bm l:=by
 obtain⟨va,vd,a,nx,dr,L,h1,h2,h3,h4,r⟩:=h;exact⟨va,vd,a,nx,dr,L,h1.mod x (λk hk=>hS k (h4 k hk)),h2,h3,h4,λk hk=>A0 (r k hk) x.size⟩
theorem F6.ext {F:Nat->Prop}{w w':World}{bm:Nat}{l:List Cell}(h:F6 F w bm l)(x:EB w w'):F6 F w' bm l:=h.mod x (λ_ _ h=>h)
theorem F6.more {F:Nat->Prop}{w w':World}{bm:Nat}{l:List Cell}(h:F6 F w bm l)(x:EB w w'):F6 (NF F w w') w' bm l:=by
 obtain⟨va,vd,a,nx,dr,L,h1,h2,h3,h4,r⟩:=h.ext x;exact⟨va,vd,a,nx,dr,L,h1,h2,h3,λk hk=>.inl (h4 k hk),λk hk=>hk.elim (r k) (λh=>h.2)⟩
theorem X0o {a:List Tow}{nx nxk:Nat->List Nat}{q:List Nat}{k p x:Nat}(hlay:∀i row,i<a.length->row<hgt a i->(nxk i)[row]?=if row<k/\q[row]?=some i then some x else(nx i)[row]?)(hq:q[k]?=some p)(hl:k<(nxk p).length) :
  ∀i row,i<a.length->row<hgt a i->(HA nxk p ((nxk p).set k x) i)[row]?=if row<k+1/\q[row]?=some i then some x else(nx i)[row]?:=by
 intro i row hi r;unfold HA
 by_cases e:i=p
 ·subst e;rw[if_pos rfl]
  by_cases e2:row=k
  ·subst e2;rw[BB hl,if_pos ⟨by omega,hq⟩]
  ·rw[Cf EA,hlay i row hi r]
   by_cases e3:row<k/\q[row]?=some i
   ·rw[if_pos e3,if_pos ⟨by omega,e3.2⟩]
   ·rw[if_neg e3,if_neg (λh=>e3 ⟨by omega,h.2⟩)]
 ·rw[if_neg e,hlay i row hi r]
  by_cases e3:row<k/\q[row]?=some i
  ·rw[if_pos e3,if_pos ⟨by omega,e3.2⟩]
  ·rw[if_neg e3,if_neg (λh=>e3 ⟨by
    have:row≠k:=λz=>by rw[z,hq]at h;exact e (A3.inj h.2).symm
    omega,h.2⟩)]
structure TowS (t:Tow):Prop where
 sl:FW t.sl t.h
theorem NP (t:Tow):TowS t:=⟨.inr (.inl ⟨t.bk,0,t.h,rfl,Aa _⟩)⟩
theorem X6s {h:Nat->Nat}{S tn:List Nat}{k:Nat}(ht:∀row,row<k->tn[row]?=some (Gf h S row))(hl:k<tn.length):∀row,row<k+1->(tn.set k (Gf h S k))[row]?=some (Gf h S row):=λrow hr=>by
 by_cases e:row=k
 ·subst e;rw[BB hl]
 ·rw[Cf EA];exact ht row EA
theorem W8 (bm:Nat)(va vd:Value)(dr:List Nat)(n sz:Nat)(w:World)(hm:EL w bm [va,vd,I n,I sz] 155)(hd:Vc.Own Iu 1 174 0 w vd dr)(hn:n<=1000000) :
  Calls Tryz.prog 168 [ED bm 0].toArray w (Fh (ES bm) w (λv w'=>∃z:Nat,v=I ↑z/\1<=z/\z<=12/\EL w' bm [va,vd,I ↑(n+1),I sz] 155)):=by
 refine cw Tryz.func168 ?_;have r:=EB.refl w;have J:EM Iu 1 w vd dr:=hd.arr (λx=>rfl);have hne:dr≠[]->¬ ES bm (base vd).1:=λhl e=>hd.ne_blk hm rfl (by rw[<-e];exact hd.base_block hl);refine ws λ_ Z1=>wr (da (de Z1 (ws λ_ Z2=>wr (dm ?_))));refine dz rfl (df 2 rfl (dl rfl ((hm.ext r).at rfl) (dp (JB (k:=.u32) rfl E9 E9) (dp (UV rfl rfl) (da (de Z2 ?_))))));refine Hz (G:=Int) (λd=>[(0,ED bm 0),(2,I 0),(3,.int .u32 d)]) (λd w'=>EB w w'/\True) ?_ ?_
 ·refine ws λ_ Z3=>wr (dm ?_);refine dz rfl (df 1 rfl (dl rfl ((hm.ext r).at rfl) (dv 174 1 J.sl (dp (FY rfl rfl) (de Z3 (wi (λc1=>?_) λc1=>?_))))))
  ·have hc:0<dr.length:=by omega
   obtain⟨u,hkd⟩:∃u,dr[n % dr.length]?=some u:=⟨_,Av (Bg _ hc)⟩;refine F4 (R:=EB) EB.refl (λ_ _ _=>EB.trans) E9 [4,8,12,16] [(0,.p,false),(1,.p,false),(2,.p,false),(3,.p,false),(4,.l,false),(5,.p,false),(6,.p,false),(7,.p,false),(8,.l,false),(9,.p,false),(10,.p,false),(11,.p,false),(12,.l,false),(13,.p,false),(14,.p,false),(15,.p,false),(16,.l,false),(17,.p,false),(18,.p,false)] rfl E9 E9 (λw1 Z=>?_);have x1:=EJ Z;clear Z;have r:=r.trans x1
   iterate 2 refine dm ?_
   refine dz rfl (df 1 rfl (dL rfl (λ_ O=>((hm.ext (r.trans O)).at rfl)) (dm ?_)));refine dz rfl (df 2 rfl (dL rfl (λ_ O=>((hm.ext (r.trans O)).at rfl)) (dm ?_)));refine dz rfl (df 1 rfl (dL rfl (λ_ O=>((hm.ext (r.trans O)).at rfl)) (dv 174 1 J.sl (dp (Qi rfl rfl EA EA) (dp (HM (i:=n % dr.length) (e:=174) (k:=1) E9 J.sl rfl rfl (J.lt hkd)) (dL rfl (λ_ O=>(((J.ext (r.trans O)).row hkd).at0 rfl)) (dp (Lz EK rfl rfl) (da (EF (?_))))))))));exact⟨_,Hj,r,trivial⟩
  refine EG ?_;exact⟨_,Hj,r,trivial⟩
 intro X2 g2 w2 Y;revert Y;revert g2;intro d Y;clear r;obtain⟨r,_⟩:=Y;refine ws λ_ Z4=>wr (dm ?_);refine dz rfl (df 2 rfl (dl rfl ((hm.ext r).at rfl) (pa rfl rfl (dz rfl (df 2 rfl (G5 (hm.ext r) (λw3 x3 xs3 hm=>?_) (hv:=by rfl)))))));dsimp only [Fe,Ag,Af,Ai]at hm;have r:=(r.mod x3).mono (λi hi _=>(hi:(ES bm) i));refine de Z4 (ws λ_ Z5=>wr (da (de Z5 (ws λ_ Z6=>EN ?_))));refine Fk (G:=Int×Nat) (λ(d,z)=>[(2,I 0),(3,.int .u32 d),(4,I ↑z)]) (λ(d,z) w'=>Mod (ES bm) w w'/\EL w' bm [va,vd,I ↑(n+1),I ↑sz] 155/\1<=z/\z<=12) (λ(d,z)=>12-z) (d,1) ?_ ?_ ?_
 ·exact Hj
 ·exact⟨r,hm,by omega,by omega⟩
 intro X4 g4 w4 hf;obtain⟨d,z⟩:=g4;clear r hm;obtain⟨r,hm,ha,hb⟩:=hf;refine ws λ_ Z7=>ws λ_ Z8=>wr (dm ?_);refine dp (Fa rfl rfl) (dm ?_);refine Fz 44 rfl (λc2=>?_) (λc2=>?_)
 ·refine dm ?_;refine dp (Lz EK rfl rfl) (dp (G1 rfl rfl) (EO (de Z8 ?_)));refine wi (λc3=>?_) λc3=>?_
  ·refine EG (Z7 _ _ (EN (ws λ_ Z9=>wr (dm ?_))));refine dp (MT rfl rfl EK) (da (de Z9 (wr (dm ?_))));refine pa rfl rfl (da (EF (?_)));exact⟨(_,z+1),Hj,⟨r,hm,by omega,by omega⟩,by simp only [];omega⟩
  refine Ff (Z6 _ _ (ws λ_ hj=>wr (dm (da (de hj (EH ?_))))));refine ro ?_;exact⟨_,rfl,r,z,rfl,ha,hb,hm⟩
 refine dk (dk (dk (EO (de Z8 ?_))));refine GB rfl (Ff (Z6 _ _ (ws λ_ hg=>wr (dm (da (de hg (EH ?_)))))));refine ro ?_;exact⟨_,rfl,r,z,rfl,ha,hb,hm⟩
theorem X92 (bm:Nat)(va vd:Value)(a:List Tow)(nx:Nat->List Nat)(dr:List Nat)(n sz:Nat)(L:List Nat)(l:List Cell)(F:Nat->Prop)(c:Cell)(w:World)(h:MemAt w bm va vd a nx dr n sz)(hs:Skip a nx L l)(hsd:Fv l)(hal:a.length<=1000000)(hszl:sz=GS l)(hnl:n=l.length)(hF:∀k,foot bm va vd a k->F k)(hFl:∀k,F k->k<w.heap.size)(hszb:sz<=1000000000000) :
  Calls Tryz.prog 89 [ED bm 0,c.v].toArray w (λe w'=>e=.returned (B (put l c).1)/\Mod F w w'/\F6 (NF F w w') w' bm (put l c).2):=by
 refine cw Tryz.func89 ?_;have z:=EB.refl w;have r:=h;have hg:∀k,foot bm va vd a k->k<w.heap.size:=λk hk=>hFl k (hF k hk);have hbm:bm<w.heap.size:=hg bm (.inl rfl);have ye:F6 F w bm l:=⟨va,vd,a,nx,dr,L,by rw[<-hnl,<-hszl];exact h,hs,hsd,hF,hFl⟩;have hal2:=hs.len;have hlL:l.length=L.length:=(congrArg A7 hs.cells).trans (An ..);refine ws λ_ Z1=>wr (Gc rfl rfl rfl RX.all (λb1 w1 e1 x1 J=>?_));have g1:=z.ge e1;have r:=r.ext x1;have z:=z.trans x1;refine da (de Z1 (ws λ_ Z2=>ws λ_ Z3=>wr (dm ?_)));refine dp (Gj E9 rfl rfl) (dm ?_);refine Fz 12 rfl (λc1=>?_) (λc1=>?_)
 ·cases c1
 refine dq (Fb (k:=4) E9 rfl rfl J.row) (cP (Qk c _) RX.all λw2 x2=>?_);have r:=r.ext x2;have J:=J.ext x2;have z:=z.trans x2;refine dn ?_;refine EO (de Z3 ?_);refine wc (λc2=>?_) λc2=>?_
 ·refine ws λ_ Z4=>wr (da (de Z4 (EH ?_)));dsimp only [Ic,MO,Mp];refine ro ?_;have hp:put l c=(false,l):=by simp at c2;simp [put,c2]
  rw[hp];exact⟨rfl,z.mono (λ_ h _=>h.elim),ye.more z⟩
 have hy:Ge c=true:=by simpa using c2
 refine EG (Z2 _ _ (ws λ_ Z5=>wr (dm ?_)));refine dq (Fb (k:=4) E9 rfl rfl J.row) (cG (UD bm va vd a nx dr n sz L l c _ r hs hsd hal) RX.all λv3 w3 x3 zu=>?_);have hsz3:=z.size;have r:=r.ext x3;have J:=J.ext x3;have z:=z.trans x3;obtain⟨q,rfl,hq,yn⟩:=zu;obtain⟨A,i0,hp,zp,zi,y3⟩:=hs.last c;obtain⟨t0,hk0⟩:∃t,a[i0]?=some t:=⟨_,Av zi⟩;have zd:q[0]?=some i0:=by rw[yn 0 EK,zp]
 refine FG (cs:=[.int .i64 0,.int .i64 0,.int .i64 0,.int .i64 0,.int .i64 0,.int .i64 0,.int .i64 0,.int .i64 0,.int .i64 0,.int .i64 0,.int .i64 0,.int .i64 0]) rfl E9 RX.all (λb2 w4 e2 x4 O=>?_);have g2:=z.ge e2;have n2_1:=J.ltb e2;have r:=r.ext x4;have J:=J.ext x4;have z:=z.trans x4;refine NZ (m:=12) (vs:=?u9) rfl rfl ?h9 E9 ?c9 ?d9 O ?n9 (.inl rfl) (λw5 x5 xs5 O=>?k9)
 case h9=>conv=>lhs;whnf
 case c9=>simp [hq]
 case d9=>rfl
 case n9=>simp [Value.oneCell']
 have r:=r.mod x5 (λk hk e=>by have h1:=hg k hk;have h2:k=b2:=e;omega);have J:=J.mo x5;have z:=z.o1 x5;refine de Z5 ?_;refine Hz (G:=Unit) (λu=>[(0,ED bm 0),(3,ED b1 0),(5,ED b2 0)]) (λu w'=>EB w w'/\MemAt w' bm va vd a nx dr n sz/\EL w' b1 c.cs 79/\EL w' b2 (FP q) 244/\has l c=false) ?_ ?_
 ·refine ws λ_ Z6=>F4 (R:=EB) EB.refl (λ_ _ _=>EB.trans) E9 [3,5,8,10] [(0,.p,false),(1,.p,false),(2,.p,false),(3,.l,false),(4,.p,false),(5,.l,false),(6,.p,false),(7,.p,false),(8,.l,false),(9,.p,false),(10,.l,false),(11,.p,false)] rfl E9 E9 (λw6 yo=>?_);have x6:=EJ yo;clear yo;have r:=r.ext x6;have J:=J.ext x6;have O:=O.ext x6;have z:=z.trans x6;refine dm ?_;refine dz rfl (df 0 rfl (dL rfl (λ_ Y=>((r.hm.ext Y).at rfl)) (dp (Kh (m:=12) (e:=3) (k:=1) E9 rfl rfl EK) (dL rfl (λ_ Y=>((O.ext Y).at (LH zd))) (di 172 5 r.arr.sl rfl (r.arr.lt hk0) (df 4 rfl (dL rfl (λ_ Y=>(((r.arr.ext Y).row hk0).at rfl)) (di 3 1 (r.next hs hk0).sl rfl ((r.next hs hk0).lt y3) (dL rfl (λ_ Y=>((((r.next hs hk0).ext Y).row y3).at0 rfl)) (da (de Z6 (ws λ_ Z7=>?_))))))))))));refine F4 (R:=EB) EB.refl (λ_ _ _=>EB.trans) E9 [3,7,11] [(0,.p,false),(1,.p,false),(2,.p,false),(3,.l,false),(4,.p,false),(5,.p,false),(6,.p,false),(7,.l,false),(8,.p,false),(9,.p,false),(10,.p,false),(11,.l,false),(12,.x,false),(13,.p,false),(14,.p,false)] rfl E9 E9 (λw7 yw=>?_);have x7:=EJ yw;clear yw;have r:=r.ext x7;have J:=J.ext x7;have O:=O.ext x7;have z:=z.trans x7;refine dm ?_;refine dp (F8 rfl rfl) (dm ?_);refine Fz 33 rfl (λc3=>?_) (λc3=>?_)
  ·have xv:(Fj a L c).headD 0≠0:=by omega
   obtain⟨ti,yj⟩:=hs.head_at xv;have hb:=hs.has_at xv yj;refine FK rfl (λw' Y=>Fb (k:=4) E9 rfl rfl (J.ext Y).row) (dm ?_);refine dz rfl (df 0 rfl (dL rfl (λ_ Y=>((r.hm.ext Y).at rfl)) (dm ?_)));refine di 172 5 r.arr.sl rfl (r.arr.lt yj) (df 0 rfl (FK rfl (λw' Y=>Fb E9 rfl rfl (((r.arr.ext Y).row yj).sub 0 4)) (cP (MS c ti.c _) RX.ext λw8 x8=>?_)));have r:=r.ext x8;have J:=J.ext x8;have O:=O.ext x8;have z:=z.trans x8;refine dn ?_;refine EO (de Z7 ?_);refine wc (λc4=>?_) λc4=>?_
   ·refine ws λ_ Z8=>wr (da (de Z8 (EH ?_)));dsimp only [Ic,MO,Mp];refine ro ?_;have hp:put l c=(false,l):=by rw[c4]at hb;simp [put,hb]
    rw[hp];exact⟨rfl,z.mono (λ_ h _=>h.elim),ye.more z⟩
   refine EG ?_;exact⟨(),Hj,z,r,J,O,by rw[hb];simpa using c4⟩
  have hb:=hs.has_none (c:=c) EA
  iterate 11 refine dk ?_
  refine EO (de Z7 ?_);refine GB rfl (EG ?_);exact⟨(),Hj,z,r,J,O,by exact hb⟩
 intro X9 g9 w9 yl;revert yl;revert g9;intro u yl;clear z r J O;obtain⟨z,r,J,O,yy⟩:=yl;refine Hz (G:=Nat×Nat×Nat) (λ(bn,bt,Z)=>[(0,ED bm 0),(3,ED b1 0),(5,ED b2 0),(7,ED bt 0)]) (λ(bn,bt,Z) w'=>Mod F w w'/\EL w' b1 c.cs 79/\EL w' b2 (FP q) 244/\EL w' bt (Tow.enc ⟨c,bn,Z⟩) 172/\EL w' bn (FP (Aw Z 0)) 3/\MemAt w' bm va vd a nx dr (n+1) sz/\1<=Z/\Z<=12/\w.heap.size<=bn/\w.heap.size<=bt) ?_ ?_
 ·refine L0 (R:=Mod (ES bm)) J0 JY E9 [0] (.one 0 .l false (.one 1 .p false (.fork (.alt 2 false (.fork (.alt 3 false (.one 4 .p false (.one 5 .x false (.one 6 .x true .nil))) (.alt 5 false (.one 3 .x false (.one 4 .p false (.one 6 .x true .nil))) .stop))) (.alt 5 false (.one 2 .x false (.one 3 .x false (.one 4 .p false (.one 6 .x true .nil)))) .stop))))) E9 E9 (λw10 xy=>?_);have xn:=EJ xy;clear xy;have r:=r.ext xn;have J:=J.ext xn;have O:=O.ext xn;have z:=z.trans xn;refine EY (FK rfl (λw' Y=>Fb (k:=4) E9 rfl rfl (J.mod Y (λe=>J.ne r.hm rfl e)).row) (EF (EY (dm (EF ?_)))));refine JE ?_;refine H6 ?_ ?_
  ·refine JT rfl E9 (W8 bm va vd dr n sz _ r.hm r.hd EA) rfl (.inr λ_ h=>h) (λv11 w11 xt yz=>?_);have hsz11:=z.size;have J:=J.mod xt (λe=>J.ne r.hm rfl e);have O:=O.mod xt (λe=>O.ne r.hm rfl e);have z:=(z.mod xt).mono (λi hi _=>((by rw[show i=bm from hi];exact hF bm (.inl rfl)):F i));obtain⟨Z,rfl,h7,hc,hf⟩:=yz;have r:=r.setn xt hf;refine EF (JE ?_);refine H6 ?_ ?_
   ·refine LS (e:=3) (sz:=1) (by':=8) (zs:=[.int .i64 0]) rfl E9 E9 E9 rfl rfl EA EA RX.mod (λb3 w12 e3 xo m3=>?_);have g3:=z.ge e3;have n3_1:=J.ltb e3;have n3_2:=O.ltb e3;have J:=J.ext xo;have O:=O.ext xo;have r:=r.ext xo;have z:=z.ext xo;refine EF (EY (db (zs:=[S [],S [],B false,.int .i64 0,.slice none 0 0]) (pl:=[(0,4),(4,1)]) (pv:=[(0,.agg ⟨[_,_,_,_]⟩),(1,_)]) (cs:=[_,_,_,_,_]) (EF ?_)));refine EY (FG (cs:=[S [],S [],B false,.int .i64 0,.slice none 0 0]) rfl E9 RX.mod (λb4 w13 e4 xa m4=>?_));have g4:=z.ge e4;have n4_1:=J.ltb e4;have n4_2:=O.ltb e4;have n4_3:=m3.ltb e4;have J:=J.ext xa;have O:=O.ext xa;have r:=r.ext xa;have m3:=m3.ext xa;have z:=z.ext xa;refine EF (EY (FM m4 (λw14 xj xs14 m4=>?_)));dsimp only [Fe,Ag,Af,Ai]at m4;have J:=J.mo xj;have O:=O.mo xj;have r:=r.mod xj (λk hk e=>by have h1:=hg k hk;have h2:k=b4:=e;omega);have m3:=m3.mo xj;have z:=z.o1 xj;refine EF (Im (⟨(b3,b4,Z),FU,z,J,O,m4,?_,r,h7,hc,g3,g4⟩));have hl:=m3;rw[OO]at hl;exact hl
   refine H6 ?_ ?_
   ·refine FG (cs:=[S [],S [],B false,.int .i64 0,.slice none 0 0]) rfl E9 RX.mod (λb5 w15 e5 xr m5=>?_);have g5:=z.ge e5;have n5_1:=J.ltb e5;have n5_2:=O.ltb e5;have J:=J.ext xr;have O:=O.ext xr;have r:=r.ext xr;have z:=z.ext xr;refine EF (EY (LS (e:=3) (sz:=1) (by':=8) (zs:=[.int .i64 0]) rfl E9 E9 E9 rfl rfl EA EA RX.mod (λb6 w16 e6 xl m6=>?_)));have g6:=z.ge e6;have n6_1:=J.ltb e6;have n6_2:=O.ltb e6;have n6_5:=m5.ltb e6;have J:=J.ext xl;have O:=O.ext xl;have r:=r.ext xl;have m5:=m5.ext xl;have z:=z.ext xl;refine EF (EY (db (zs:=[S [],S [],B false,.int .i64 0,.slice none 0 0]) (pl:=[(0,4),(4,1)]) (pv:=[(0,.agg ⟨[_,_,_,_]⟩),(1,_)]) (cs:=[_,_,_,_,_]) (EF ?_)));refine EY (FM m5 (λw17 xb xs17 m5=>?_));dsimp only [Fe,Ag,Af,Ai]at m5;have J:=J.mo xb;have O:=O.mo xb;have r:=r.mod xb (λk hk e=>by have h1:=hg k hk;have h2:k=b5:=e;omega);have m6:=m6.mo xb;have z:=z.o1 xb;refine EF (Im (⟨(b6,b5,Z),FU,z,J,O,m5,?_,r,h7,hc,g6,g5⟩));have hl:=m6;rw[OO]at hl;exact hl
   exact J8
  refine H6 ?_ ?_
  ·refine FG (cs:=[S [],S [],B false,.int .i64 0,.slice none 0 0]) rfl E9 RX.mod (λb7 w18 e7 xp m7=>?_);have g7:=z.ge e7;have n7_1:=J.ltb e7;have n7_2:=O.ltb e7;have r:=r.ext xp;have J:=J.ext xp;have O:=O.ext xp;have z:=z.trans xp;refine EF (EY (JT rfl E9 (W8 bm va vd dr n sz _ r.hm r.hd EA) rfl (.inr λ_ h=>h) (λv19 w19 xi yp=>?_)));have hsz19:=z.size;have J:=J.mod xi (λe=>J.ne r.hm rfl e);have O:=O.mod xi (λe=>O.ne r.hm rfl e);have m7:=m7.mod xi (λe=>m7.ne r.hm rfl e);have z:=(z.mod xi).mono (λi hi _=>((by rw[show i=bm from hi];exact hF bm (.inl rfl)):F i));obtain⟨Z,rfl,h7,hc,hf⟩:=yp;have r:=r.setn xi hf;refine EF (EY (LS (e:=3) (sz:=1) (by':=8) (zs:=[.int .i64 0]) rfl E9 E9 E9 rfl rfl EA EA RX.mod (λb8 w20 e8 h8 m8=>?_)));have g8:=z.ge e8;have n8_1:=J.ltb e8;have n8_2:=O.ltb e8;have n8_7:=m7.ltb e8;have J:=J.ext h8;have O:=O.ext h8;have m7:=m7.ext h8;have r:=r.ext h8;have z:=z.ext h8;refine EF (EY (db (zs:=[S [],S [],B false,.int .i64 0,.slice none 0 0]) (pl:=[(0,4),(4,1)]) (pv:=[(0,.agg ⟨[_,_,_,_]⟩),(1,_)]) (cs:=[_,_,_,_,_]) (EF ?_)));refine EY (FM m7 (λw21 xe xs21 m7=>?_));dsimp only [Fe,Ag,Af,Ai]at m7;have J:=J.mo xe;have O:=O.mo xe;have r:=r.mod xe (λk hk e=>by have h1:=hg k hk;have h2:k=b7:=e;omega);have m8:=m8.mo xe;have z:=z.o1 xe;refine EF (Im (⟨(b8,b7,Z),FU,z,J,O,m7,?_,r,h7,hc,g8,g7⟩));have hl:=m8;rw[OO]at hl;exact hl
  exact J8
 intro X22 zf w22 yq;obtain⟨bn,bt,Z⟩:=zf;clear z r J O;obtain⟨z,J,O,hT,hB,r,h7,hc,y7,hbt⟩:=yq;refine ws λ_ Z9=>ws λ_ zc=>wr (df 4 rfl (dl rfl (hT.at rfl) (dv 3 1 (NP ⟨c,bn,Z⟩).sl (dm (de zc (EN ?_))))));refine Fk (G:=Nat×List Nat×(Nat->List Nat)) (λ(k,tn,ha)=>[(0,ED bm 0),(3,ED b1 0),(5,ED b2 0),(7,ED bt 0),(53,I ↑Z),(54,I ↑k)]) (λ(k,tn,ha) w'=>Mod F w w'/\EL w' b1 c.cs 79/\EL w' b2 (FP q) 244/\EL w' bt (Tow.enc ⟨c,bn,Z⟩) 172/\EL w' bn (FP tn) 3/\MemAt w' bm va vd a ha dr (n+1) sz/\k<=Z/\tn.length=Z/\(∀row,row<k->tn[row]?=some (Gf (hgt a) (Fj a L c) row))/\(∀i row,i<a.length->row<hgt a i->(ha i)[row]?=if row<k/\q[row]?=some i then some a.length else(nx i)[row]?)) (λ(k,tn,ha)=>Z-k) (0,Aw Z 0,nx) ?_ ?_ ?_
 ·exact FSq
 ·exact⟨z,J,O,hT,hB,r,Ad _,by simp,λrow h=>absurd h (B3 _),λi row _ _=>by rw[if_neg (λe=>absurd e.1 (B3 _))]⟩
 intro X23 zh w23 yt;obtain⟨k,tn,ha⟩:=zh;clear z J O hT hB r;obtain⟨z,J,O,hT,hB,r,hkh,xm,y2,xg⟩:=yt;refine ws λ_ ze=>wr (dp (Fa rfl rfl) (de ze (ws λ_ y8=>wi (λc5=>?_) λc5=>?_)))
 ·have yc:k<12:=by omega
  have yf:=yn k yc;obtain⟨A',R',ym,yk,zm⟩:=hs.last_in c yc;obtain⟨p,hpe⟩:∃p,GQ (hgt a) (0 :: Fu a L c) k=p:=⟨_,rfl⟩;rw[hpe]at yf ym yk;have yr:p∈0 :: Fu a L c:=by rw[ym];simp
  have y4:p<a.length:=by
   rcases Aj.1 yr with e|e
   ·rw[e];exact hs.mem0 Al
   ·exact hs.mem0 (Am _ (Mi e))
  obtain⟨tp,hkp⟩:∃t,a[p]?=some t:=⟨_,Av y4⟩;have y6:foot bm va vd a tp.bk:=.inr (.inr (.inr ⟨tp,Ak hkp,rfl⟩));have xq:(ha p)[k]?=some (Gf (hgt a) (Fj a L c) k):=by
   rw[xg p k y4 yk,if_neg (λe=>absurd e.1 (Nat.lt_irrefl _)),hs.nextR ym yk,RO zm]
  have yv:k<(ha p).length:=(Ao.1 xq).1;refine EG (y8 _ _ (ws λ_ zo=>EN (ws λ_ y9=>wr (dm (da (de y9 (ws λ_ zl=>?_)))))));refine F4 (R:=EB) EB.refl (λ_ _ _=>EB.trans) E9 [3,6] [(0,.p,false),(1,.p,false),(2,.p,false),(3,.l,false),(4,.p,false),(5,.p,false),(6,.l,false),(7,.p,false),(8,.p,false)] rfl E9 E9 (λw24 yb=>?_);have h5:=EJ yb;clear yb;have J:=J.ext h5;have O:=O.ext h5;have hT:=hT.ext h5;have hB:=hB.ext h5;have r:=r.ext h5;have z:=z.ext h5;refine dm ?_;refine dz rfl (df 0 rfl (dL rfl (λ_ Y=>((r.hm.ext Y).at rfl)) (dm ?_)));refine dp (Kh (m:=12) (e:=3) (k:=1) E9 rfl rfl EA) (dL rfl (λ_ Y=>((O.ext Y).at (LH yf))) (di 172 5 r.arr.sl rfl (r.arr.lt hkp) (da (de zl ?_))));refine F4 (R:=EB) EB.refl (λ_ _ _=>EB.trans) E9 [1,6,11,14,18] [(0,.p,false),(1,.l,false),(2,.p,false),(3,.p,false),(4,.p,false),(5,.p,false),(6,.l,false),(7,.p,false),(8,.p,false),(9,.p,false),(10,.p,false),(11,.l,false),(12,.p,false),(13,.p,false),(14,.l,false),(15,.p,false),(16,.p,false),(17,.p,false),(18,.l,false),(19,.p,false),(20,.p,false),(21,.x,true),(22,.p,false),(23,.x,true)] rfl E9 E9 (λw25 xx=>?_);have hz:=EJ xx;clear xx;have J:=J.ext hz;have O:=O.ext hz;have hT:=hT.ext hz;have hB:=hB.ext hz;have r:=r.ext hz;have z:=z.ext hz;refine df 4 rfl (dL rfl (λ_ Y=>((hT.ext Y).at rfl)) (dm (dm ?_)));refine dz rfl (df 4 rfl (dL rfl (λ_ Y=>(((r.arr.ext Y).row hkp).at rfl)) (dm (dm ?_))));refine dz rfl (df 4 rfl (dL rfl (λ_ Y=>(((r.arr.ext Y).row hkp).at rfl)) (dm ?_)));refine di 3 1 (r.next hs hkp).sl rfl ((r.next hs hkp).lt xq) (dL rfl (λ_ Y=>((((r.next hs hkp).ext Y).row xq).at0 rfl)) (dm ?_));refine dz rfl (df 0 rfl (dL rfl (λ_ Y=>((r.hm.ext Y).at rfl)) (dv 172 5 r.arr.sl (di 3 1 (NP ⟨c,bn,Z⟩).sl rfl (show k<Z by omega) ?_))));refine M5 (b:=bn) (o:=0+k*1) (v:=?v40) rfl rfl ?h40 ?n40 E9 (hB) ?o40 (.inl rfl) (λzb xc xs26 yx=>?k40)
  case h40=>conv=>lhs;whnf
  case n40=>rfl
  case o40=>simp;omega
  have J:=J.mod xc (λe=>J.ne hB rfl e);have O:=O.mod xc (λe=>O.ne hB rfl e);have hT:=hT.mod xc (λe=>hT.ne hB rfl e);have r:=r.mod xc (λk hk e=>by have h1:=hg k hk;have h2:k=bn:=e;omega);have z:=z.own xc (λi hi hw=>absurd hi (by intro e;have e2:i=bn:=e;omega));have hB:EL zb bn (FP (tn.set k (Gf (hgt a) (Fj a L c) k))) 3:=by
   have e:=yx;rw[Nn]at e;exact e
  have xh:=xm;have xm:(tn.set k (Gf (hgt a) (Fj a L c) k)).length=Z:=by rw[AG];exact xh
  refine di 3 1 (r.next hs hkp).sl rfl ((r.next hs hkp).lt xq) ?_;refine M5 (b:=tp.bk) (o:=0+k*1) (v:=?v41) rfl rfl ?h41 ?n41 E9 ((r.hN p tp hkp).1) ?o41 (.inl rfl) (λw27 h6 xs27 y1=>?k41)
  case h41=>conv=>lhs;whnf
  case n41=>rfl
  case o41=>simp;omega
  have J:=J.mod h6 (λe=>J.ne (r.hN p tp hkp).1 rfl e);have O:=O.mod h6 (λe=>O.ne (r.hN p tp hkp).1 rfl e);have hT:=hT.mod h6 (λe=>hT.ne (r.hN p tp hkp).1 rfl e);have hB:=hB.mod h6 (λe=>by have h1:=hg tp.bk y6;have h2:bn=tp.bk:=e;omega);have z:=z.own h6 (λi hi hw=>hF i (.inr (.inr (.inr ⟨tp,Ak hkp,Eq.symm hi⟩))));have r:=r.setN (q:=(ha p).set k a.length) hkp h6 (by have e:=y1;rw[Nn]at e;exact e) (by rw[AG];exact(r.hN p tp hkp).2);refine de zo (wr (pa rfl rfl (dm (EF (?_)))));refine⟨(k+1,tn.set k (Gf (hgt a) (Fj a L c) k),HA ha p ((ha p).set k a.length)),FSq,⟨z,J,O,hT,hB,r,by omega,xm,X6s y2 EA,X0o xg yf yv⟩,by simp only [];omega⟩
 refine Ff (Z9 _ _ (ws λ_ za=>F4 (R:=Mod (λk=>va.ownBlock=some k)) J0 JY E9 [4,5] [(0,.p,false),(1,.p,false),(2,.p,false),(3,.p,false),(4,.l,false),(5,.l,false),(6,.x,false),(7,.x,false),(8,.p,false),(9,.p,false),(10,.x,true)] rfl E9 E9 (λw28 ya=>?_)));have xk:=EJ ya;clear ya;have J:=J.ext xk;have hT:=hT.ext xk;have hB:=hB.ext xk;have r:=r.ext xk;have z:=z.ext xk
 iterate 2 refine dm ?_
 refine dz rfl (df 0 rfl (dL rfl (λ_ Y=>((r.hm.mod Y (λe=>r.hA.ne_blk r.hm rfl e)).at rfl)) (FK rfl (λw' Y=>Fb (k:=5) E9 rfl rfl (hT.mod Y (λe=>by have h1:=hg bt (.inr (.inl e));omega)).row) (li (e:=172) (sz:=5) (zs:=[S [],S [],B false,.int .i64 0,.slice none 0 0]) (pv:=[(0,.agg ⟨[_,_,_,_,_]⟩)]) (cs:=[_,_,_,_,_]) RX.mod (λb9 zq e9 xu m9=>?_)))));have g9:=z.ge e9;have n9_1:=J.ltb e9;have J:=J.ext xu;have hB:=hB.ext xu;have r:=r.ext xu;have z:=z.ext xu;refine KG (e:=172) (sz:=5) (by':=72) rfl E9 E9 EE r.hA (m9.arr (enc:=Tow.enc) (sz:=5) (l:=[⟨c,bn,Z⟩]) rfl EE rfl EQ) rfl rfl (by intro x z u hu;simp at z;subst z;simp at hu;rcases hu with rfl|rfl|rfl|rfl|rfl<;>rfl) (by simp;omega) EK (Ad _) (.inr λ_ h=>h) (λvp zt xz xf zj=>?_);have xd:=r;have y5:=hB;have hwA:zq.heap.size<=zt.heap.size:=xf.size;have hsA:=z.size;have J:=J.mod xf (λe=>xd.hA.ne_blk J rfl e);have z:=z.own xf (λi hi hw=>hF i (.inr (.inl hi)));have hf:=xd.hm.mod xf (λe=>xd.hA.ne_blk xd.hm rfl e);refine dz rfl (df 0 rfl ?_);refine M5 (b:=bm) (o:=0) (v:=?v46) rfl rfl ?h46 ?n46 E9 (hf) ?o46 (.inl rfl) (λw31 yh xs31 xw=>?k46)
 case h46=>conv=>lhs;whnf
 case n46=>exact FW.one xz.sl
 case o46=>exact Ap rfl
 have J:=J.mod yh (λe=>J.ne hf rfl e);have z:=z.own yh (λi hi hw=>hF i (.inl hi));dsimp only [Ag]at xw;have r:=xd.grow (t:=⟨c,bn,Z⟩) (q:=tn) xf xz yh xw y5 xm (λs hs e=>by have h1:=hg s.bk (.inr (.inr (.inr ⟨s,hs,rfl⟩)));have h2:s.bk=bn:=e;omega);refine de za (ws λ_ zn=>F4 (R:=EB) EB.refl (λ_ _ _=>EB.trans) E9 [3,4] [(0,.p,false),(1,.p,false),(2,.p,false),(3,.l,false),(4,.l,false),(5,.x,false),(6,.p,false),(7,.p,false),(8,.p,false),(9,.x,true)] rfl E9 E9 (λw32 yd=>?_));have yg:=EJ yd;clear yd;have J:=J.ext yg;have r:=r.ext yg;have z:=z.ext yg;refine dm ?_;refine dz rfl (df 3 rfl (dL rfl (λ_ Y=>((r.hm.ext Y).at rfl)) (FK rfl (λw' Y=>Fb (k:=4) E9 rfl rfl (J.ext Y).row) (cP (QI c _ (by simp only [Ge,Au,decide_eq_true_eq]at hy;omega) (by simp only [Ge,Au,decide_eq_true_eq]at hy;omega)) RX.ext λw33 yu=>?_))));have r:=r.ext yu;have z:=z.ext yu;refine dp (Gx rfl rfl (by simp only [Ge,Au,decide_eq_true_eq]at hy;unfold ET Gn;omega)) (dz rfl (df 3 rfl ?_));refine M5 (b:=bm) (o:=3) (v:=?v48) rfl rfl ?h48 ?n48 E9 (r.hm) ?o48 (.inl rfl) (λw34 y0 xs34 x9=>?k48)
 case h48=>conv=>lhs;whnf
 case n48=>rfl
 case o48=>exact Ap rfl
 have z:=z.own y0 (λi hi hw=>hF i (.inl hi));dsimp only [Ag]at x9;have r:=r.setn (n':=n+1) (sz':=sz+Gn c) y0 x9;refine de zn (ws λ_ zr=>wr (da (de zr (EH ?_))));dsimp only [Ic,MO,Mp];refine ro ?_;have hp:put l c=(true,pre l c++c :: H2 l c):=by simp [put,yy,hy]
 rw[hp];have zk:k=Z:=by omega
 have yi:∀i,i<a.length->(nx i).length=hgt a i/\(HA ha a.length tn i).length=hgt a i:=λi hi=>by
  have ht:a[i]?=some a[i]:=Av hi;rw[VI ht];exact⟨(h.hN i _ ht).2,(r.hN i a[i] (by rw[Bw hi];exact ht)).2⟩
 have zg:=hs.put (t:=⟨c,bn,Z⟩) (nx2:=HA ha a.length tn) rfl ⟨h7,hc⟩ yi (λrow hr=>by
  have hr':row<Z:=hr;unfold HA;rw[if_pos rfl];exact y2 row EA) (λi row hi hr=>by
  unfold HA;rw[if_neg EA,xg i row hi hr];have hhi:=(hs.hle i hi).2;have e:(row<k/\q[row]?=some i)↔(row<Z/\GQ (hgt a) (0 :: Fu a L c) row=i):=by rw[yn row EA,A3.injEq,zk]
  by_cases h1:row<k/\q[row]?=some i
  ·rw[if_pos h1,if_pos (e.1 h1)]
  ·rw[if_neg h1,if_neg (λh2=>h1 (e.2 h2))])
 have x0:=hsd.put c;rw[hp]at x0;refine⟨rfl,z,vp,vd,a++[⟨c,bn,Z⟩],HA ha a.length tn,dr,_,by rw[Xw4,Xpy,<-hnl,<-hszl];exact r,zg,x0,λj hj=>?_,λj hj=>hj.elim (λh=>A0 (hFl j h) z.size) (λh=>h.2)⟩;have hw:=r.lt hj;rcases hj with rfl|hj|hj|⟨s,hs',rfl⟩
 ·exact .inl (hF _ (.inl rfl))
 ·rcases zj with e|e
  ·exact .inl (hF j (.inr (.inl (by rw[<-e];exact hj))))
  ·rw[e]at hj;have e2:=A3.inj hj;exact .inr ⟨by omega,hw⟩
 ·exact .inl (hF j (.inr (.inr (.inl hj))))
 ·rcases Ay.1 hs' with hm|hm
  ·exact .inl (hF _ (.inr (.inr (.inr ⟨s,hm,rfl⟩))))
  ·rw[Ah.1 hm]at hw ⊢;exact .inr ⟨y7,hw⟩
theorem Rp {w0 w:World}{b3 b5 b9:Nat}{vc:Value}{dr:List Nat}(m3:EL w b3 ((Aw 12 [I 0]).flatten) 3)(m5:EL w b5 [S [],S [],B false,I 0,.slice (some ⟨b3,0,none⟩) 12 12] 172)
  (hc:Vc.Own Iu 1 174 w0.heap.size w vc dr) (m9:EL w b9 [.slice (some ⟨b5,0,none⟩) 1 1,vc,I 0,I 0] 155) (g3:w0.heap.size<=b3) (g5:w0.heap.size<=b5) (g9:w0.heap.size<=b9) :
  F6 (λk=>w0.heap.size<=k/\k<w.heap.size) w b9 []:=by
 rw[OO]at m3;have J:MemAt w b9 (.slice (some ⟨b5,0,none⟩) 1 1) vc [⟨Cell.zero,b3,12⟩] (λ_=>Aw 12 0) dr 0 0:=by
  refine⟨m9,m5.own (enc:=Tow.enc) (l:=[⟨Cell.zero,b3,12⟩]) (Ad _) rfl EE rfl EQ,hc.mono (Ad _),λi t r=>?_,λi j s t hs r _=>?_⟩
  ·cases i with
   | zero=>simp at r;subst r;exact⟨m3,by simp⟩
   | succ i=>simp at r
  ·cases i with
   | zero=>cases j with
    | zero=>rfl
    | succ j=>simp at r
   | succ i=>simp at hs
 refine⟨_,_,_,_,_,[],J,⟨rfl,λi hi=>(by cases hi),List.nodup_nil,rfl,rfl,λi hi=>?_,⟨λrow O=>?_,trivial⟩⟩,Bp,λk hk=>⟨?_,J.lt hk⟩,λk hk=>hk.2⟩
 ·have:i=0:=by simp at hi;exact hi
  subst this;exact⟨(show 1<=12 by decide),(show 12<=12 by decide)⟩
 ·have z:row<12:=O;rw[List.getElem?_replicate_of_lt z];rfl
 ·rcases hk with rfl|hk|hk|⟨t,r,rfl⟩
  ·exact g9
  ·have:b5=k:=A3.inj hk;omega
  ·exact(hc.lt k hk).1
  ·rw[Ah.1 r];exact g3
theorem Rj (dr:List Nat)(v:Value)(w:World)(hv:EM Iu 1 w v dr)(hl:dr.length<=1000000) :
  Calls Tryz.prog 102 [v].toArray w (ER w (λv' w'=>Vc.Own Iu 1 174 w.heap.size w' v' dr)):=by
 refine cw Tryz.func102 ?_;have r:=EB.refl w;refine ws λ_ Z1=>wr (da (de Z1 (ws λ_ Z2=>ws λ_ Z=>wr (dm ?_))));refine dp (PA (e:=174) (k:=1) E9 hv.sl rfl rfl) (de Z (wc (λO=>?_) λO=>?_))
 ·refine ws λ_ Z4=>wr (da (de Z4 (EH ?_)));refine ro ?_;have hn:=Xo8 hv.sl O;have J:=A5 hn.2;subst J;exact⟨_,rfl,r,Vc.Own.nil⟩
 refine EG (Z2 _ _ (ws λ_ Z5=>wr (Me (e:=174) (sz:=1) rfl E9 RX.all (λb1 w1 e1 Y m1=>?_))));have g1:=r.ge e1;have r:=r.trans Y;refine dm ?_;have ho:=m1.own (enc:=Iu) (B:=w.heap.size) (l:=([]:List Nat)) (sz:=1) (m:=0) g1 rfl EE rfl EQ;refine Gv (e:=174) (sz:=1) (by':=4) rfl E9 E9 EE ho ((hv.ext r)) rfl rfl (by intro x _ u hu;simp at hu;rcases hu with rfl<;>rfl) (by simp;omega) EK r.size (.inl rfl) (λvp w2 z x2=>?_);have r:=r.own x2 (λi hi=>(ho.lt i hi).1);have ho:=z;refine da (de Z5 (EH ?_));refine ro ?_;exact⟨_,rfl,r,by simpa using ho⟩
theorem Sq (dr:List Nat)(v:Value)(w:World)(hv:EM Iu 1 w v dr)(hl:dr.length<=1000000) :
  Calls Tryz.prog 47 [v].toArray w (ER w (λv' w'=>∃bm,v'=ED bm 0/\F6 (λk=>w.heap.size<=k/\k<w'.heap.size) w' bm [])):=by
 refine cw Tryz.func47 ?_;have z:=EB.refl w;refine ws λ_ Z1=>wr (da (de Z1 (ws λ_ Z2=>?_)));refine L0 (R:=EB) EB.refl (λ_ _ _=>EB.trans) E9 [] (.one 3 .p false (.fork (.alt 0 true (.one 1 .p false (.fork (.alt 2 true (.one 4 .x true (.one 5 .p false (.one 6 .x true (.one 7 .p false .nil)))) (.alt 4 true (.one 2 .x true (.one 5 .p false (.one 6 .x true (.one 7 .p false .nil)))) .stop)))) (.alt 4 true (.one 0 .x true (.one 1 .p false (.one 2 .x true (.one 5 .p false (.one 6 .x true (.one 7 .p false .nil)))))) .stop)))) E9 E9 (λw1 hf=>?_);have x1:=EJ hf;clear hf;have z:=z.trans x1;refine EY (dm (EF ?_));refine JE ?_;refine H6 ?_ ?_
 ·refine LS (e:=3) (sz:=1) (by':=8) (zs:=[.int .i64 0]) rfl E9 E9 E9 rfl rfl (Ap rfl) (Ap rfl) RX.all (λb1 w2 e1 x2 J=>?_);have g1:=z.ge e1;have z:=z.trans x2;refine EF (EY (db (zs:=[S [],S [],B false,.int .i64 0,.slice none 0 0]) (pl:=[(0,4),(4,1)]) (pv:=[(1,_)]) (cs:=[S [],S [],B false,.int .i64 0,_]) (EF ?_)));refine JE ?_;refine H6 ?_ ?_
  ·refine li (e:=172) (sz:=5) (zs:=[S [],S [],B false,.int .i64 0,.slice none 0 0]) (pv:=[(0,.agg ⟨[_,_,_,_,_]⟩)]) (cs:=[_,_,_,_,_]) RX.all (λb2 w3 e2 x3 m2=>?_);have g2:=z.ge e2;have n2_1:=J.ltb e2;have J:=J.ext x3;have z:=z.trans x3;refine EF (EY (cG (Rj dr v _ (hv.ext z) hl) RX.all λvc w4 x4 r=>?_));have ha:=z.size;have J:=J.ext x4;have m2:=m2.ext x4;have z:=z.trans x4;have r:=r.mono ha;refine EF (EY ?_);refine dp (Nk (zs:=[.slice none 0 0,.slice none 0 0,.int .i64 0,.int .i64 0]) (pl:=[(0,1),(1,1),(2,1),(3,1)]) (pv:=[(0,?a5_0),(1,?a5_1)]) (cs:=[?a5_0,?a5_1,.int .i64 0,.int .i64 0]) E9 E9 ?h5 ?f5) ?k5
   case h5=>refine⟨rfl,?_,rfl,?_,trivial⟩<;>(conv=>lhs;whnf)
   case f5=>rcases r.sl with⟨rfl,_⟩|⟨_,_,_,rfl,_⟩|⟨_,_,_,rfl⟩<;>rfl
   refine EF (EY (Gc rfl rfl rfl RX.all (λb3 w5 e3 x5 m3=>?_)));have g3:=z.ge e3;have n3_1:=J.ltb e3;have n3_2:=m2.ltb e3;have o3_hcf:=r.ltb e3;have J:=J.ext x5;have m2:=m2.ext x5;have r:=r.ext x5;have z:=z.trans x5;refine EF (EY (da (EF ?_)));refine Im (Z2 _ _ (EH (ro ?_)));exact⟨_,rfl,z,b3,rfl,Rp J m2 r m3 g1 g2 g3⟩
  refine H6 ?_ ?_
  ·refine cG (Rj dr v _ (hv.ext z) hl) RX.all λvc w6 x6 r=>?_;have hg:=z.size;have J:=J.ext x6;have z:=z.trans x6;have r:=r.mono hg;refine EF (EY (li (e:=172) (sz:=5) (zs:=[S [],S [],B false,.int .i64 0,.slice none 0 0]) (pv:=[(0,.agg ⟨[_,_,_,_,_]⟩)]) (cs:=[_,_,_,_,_]) RX.all (λb4 w7 e4 x7 m4=>?_)));have g4:=z.ge e4;have n4_1:=J.ltb e4;have o4_hcf:=r.ltb e4;have J:=J.ext x7;have r:=r.ext x7;have z:=z.trans x7;refine EF (EY ?_);refine dp (Nk (zs:=[.slice none 0 0,.slice none 0 0,.int .i64 0,.int .i64 0]) (pl:=[(0,1),(1,1),(2,1),(3,1)]) (pv:=[(0,?a9_0),(1,?a9_1)]) (cs:=[?a9_0,?a9_1,.int .i64 0,.int .i64 0]) E9 E9 ?h9 ?f9) ?k9
   case h9=>refine⟨rfl,?_,rfl,?_,trivial⟩<;>(conv=>lhs;whnf)
   case f9=>rcases r.sl with⟨rfl,_⟩|⟨_,_,_,rfl,_⟩|⟨_,_,_,rfl⟩<;>rfl
   refine EF (EY (Gc rfl rfl rfl RX.all (λb5 w8 e5 x8 m5=>?_)));have g5:=z.ge e5;have n5_1:=J.ltb e5;have n5_4:=m4.ltb e5;have o5_hcf:=r.ltb e5;have J:=J.ext x8;have r:=r.ext x8;have m4:=m4.ext x8;have z:=z.trans x8;refine EF (EY (da (EF ?_)));refine Im (Z2 _ _ (EH (ro ?_)));exact⟨_,rfl,z,b5,rfl,Rp J m4 r m5 g1 g4 g5⟩
  exact J8
 refine H6 ?_ ?_
 ·refine cG (Rj dr v _ (hv.ext z) hl) RX.all λvc w9 x9 r=>?_;have hb:=z.size;have z:=z.trans x9;have r:=r.mono hb;refine EF (EY (LS (e:=3) (sz:=1) (by':=8) (zs:=[.int .i64 0]) rfl E9 E9 E9 rfl rfl (Ap rfl) (Ap rfl) RX.all (λb6 w10 e6 hc Y=>?_)));have g6:=z.ge e6;have o6_hcf:=r.ltb e6;have r:=r.ext hc;have z:=z.trans hc;refine EF (EY (db (zs:=[S [],S [],B false,.int .i64 0,.slice none 0 0]) (pl:=[(0,4),(4,1)]) (pv:=[(1,_)]) (cs:=[S [],S [],B false,.int .i64 0,_]) (EF ?_)));refine EY (li (e:=172) (sz:=5) (zs:=[S [],S [],B false,.int .i64 0,.slice none 0 0]) (pv:=[(0,.agg ⟨[_,_,_,_,_]⟩)]) (cs:=[_,_,_,_,_]) RX.all (λb7 w11 e7 Z m7=>?_));have g7:=z.ge e7;have n7_6:=Y.ltb e7;have o7_hcf:=r.ltb e7;have r:=r.ext Z;have Y:=Y.ext Z;have z:=z.trans Z;refine EF (EY ?_);refine dp (Nk (zs:=[.slice none 0 0,.slice none 0 0,.int .i64 0,.int .i64 0]) (pl:=[(0,1),(1,1),(2,1),(3,1)]) (pv:=[(0,?a14_0),(1,?a14_1)]) (cs:=[?a14_0,?a14_1,.int .i64 0,.int .i64 0]) E9 E9 ?h14 ?f14) ?k14
  case h14=>refine⟨rfl,?_,rfl,?_,trivial⟩<;>(conv=>lhs;whnf)
  case f14=>rcases r.sl with⟨rfl,_⟩|⟨_,_,_,rfl,_⟩|⟨_,_,_,rfl⟩<;>rfl
  refine EF (EY (Gc rfl rfl rfl RX.all (λb8 w12 e8 O m8=>?_)));have g8:=z.ge e8;have n8_6:=Y.ltb e8;have n8_7:=m7.ltb e8;have o8_hcf:=r.ltb e8;have r:=r.ext O;have Y:=Y.ext O;have m7:=m7.ext O;have z:=z.trans O;refine EF (EY (da (EF ?_)));refine Im (Z2 _ _ (EH (ro ?_)));exact⟨_,rfl,z,b8,rfl,Rp Y m7 r m8 g6 g7 g8⟩
 exact J8
section
variable {F:Nat->Prop}{bm:Nat}{l:List Cell}
theorem F6.lt {w:World}(h:F6 F w bm l):∀k,F k->k<w.heap.size:=by
 obtain⟨va,vd,a,nx,dr,L,h1,h2,h3,h4,r⟩:=h;exact r
theorem F6.calls_put (c:Cell)(w:World)(h:F6 F w bm l)(hl:l.length<=900000)(hz:GS l<=1000000000000):Calls Tryz.prog 89 [ED bm 0,c.v].toArray w (Fh F w (λv w'=>v=B (put l c).1/\F6 (NF F w w') w' bm (put l c).2)):=by
 obtain⟨va,vd,a,nx,dr,L,h1,h2,h3,h4,r⟩:=h;have hlL:l.length=L.length:=(congrArg A7 h2.cells).trans (An ..);have hal:=h2.len;exact Calls.mono (X92 bm va vd a nx dr _ _ L l F c w h1 h2 h3 EA rfl rfl h4 r hz) λe w' ⟨h1,h2,h3⟩=>⟨_,h1,h2,rfl,h3⟩
theorem F6.calls_get (key:EC)(seq:Int)(w:World)(h:F6 F w bm l)(hl:l.length<=900000):Calls Tryz.prog 112 [ED bm 0,S key,I seq].toArray w (Pure w (.tuple #[((first l key seq).getD Cell.zero).v,B (first l key seq).isSome])):=by
 obtain⟨va,vd,a,nx,dr,L,h1,h2,h3,h4,h5⟩:=h;have hlL:l.length=L.length:=(congrArg A7 h2.cells).trans (An ..);have hal:=h2.len;exact Ybt bm va vd a nx dr _ _ L l key seq w h1 h2 h3 EA
theorem F6.calls_len (w:World)(h:F6 F w bm l)(hl:l.length<=900000):Calls Tryz.prog 43 [ED bm 0].toArray w (Pure w (I ↑l.length)):=by
 obtain⟨va,vd,a,nx,dr,L,h1,h2,h3,h4,h5⟩:=h;have hlL:l.length=L.length:=(congrArg A7 h2.cells).trans (An ..);have hal:=h2.len;have:=X91 bm va vd a nx dr _ _ L l w h1 h2 h3 EA;rwa [show a.length-1=l.length by omega]at this
theorem F6.calls_scan (frm to:EC)(w:World)(h:F6 F w bm l)(hl:l.length<=900000)(hb:∀x∈l,x.seq<=4611686018427387904):Calls Tryz.prog 57 [ED bm 0,S frm,S to].toArray w (ER w (λv' w'=>Vc.Own Cell.cs 4 79 w.heap.size w' v' (scan l frm to))):=by
 obtain⟨va,vd,a,nx,dr,L,h1,h2,h3,h4,h5⟩:=h;have hlL:l.length=L.length:=(congrArg A7 h2.cells).trans (An ..);have hal:=h2.len;exact Vo bm va vd a nx dr _ _ L l frm to w h1 h2 h3 EA hb
theorem F6.calls_all (w:World)(h:F6 F w bm l)(hl:l.length<=900000)(hb:∀x∈l,x.seq<=4611686018427387904):Calls Tryz.prog 46 [ED bm 0].toArray w (ER w (λv' w'=>Vc.Own Cell.cs 4 79 w.heap.size w' v' l)):=by
 obtain⟨va,vd,a,nx,dr,L,h1,h2,h3,h4,h5⟩:=h;have hlL:l.length=L.length:=(congrArg A7 h2.cells).trans (An ..);have hal:=h2.len;exact Ybu bm va vd a nx dr _ _ L l w h1 h2 h3 EA hb
end
end Go.Proofs.YtiooodckiddpmaaGreatDoor
namespace Go.Sp
open Go.Vc (EC I S B)
def II : List Rw->List Rw
 | []=>[]
 | r :: t=>if(t.any λq=>decide (q.key=r.key))=true then II t else r :: II t
theorem Xw6 {l:List Rw}{r:Rw}(h:r∈II l):r∈l:=by
 induction l with
 | nil=>cases h
 | cons q t ih=>
  unfold II at h;split at h
  ·exact Am _ (ih h)
  ·rcases Aj.1 h with rfl|h
   ·exact Al
   ·exact Am _ (ih h)
theorem Xw7 (l:List Rw):(II l).length<=l.length:=by
 induction l with
 | nil=>exact Aa _
 | cons q t ih=>unfold II;split<;>simp only [AB]<;>omega
theorem Xn0 (l:List Rw)(seq:Int)(x:Cell):x∈F0 l seq↔x∈(II l).map (·.cell seq):=by
 induction l with
 | nil=>exact Iff.rfl
 | cons r t ih=>
  show x∈GJ (F0 t seq) (r.cell seq)↔_;rw[OW];unfold II;split
  ·rename_i h;obtain⟨q,z,e⟩:=B6.1 h;obtain⟨c,J,e2⟩:=Xth (seq:=seq) z;have Y:q.key=r.key:=by simpa using e
   exact⟨λh2=>h2.elim ih.1 λh3=>absurd (e2.trans Y) (h3.2 c J),λh2=>.inl (ih.2 h2)⟩
  ·rename_i h;have hn:∀y∈F0 t seq,y.key≠(r.cell seq).key:=λy O e=>by
    obtain⟨q,z,rfl⟩:=R6 O;exact h (B6.2 ⟨q,z,decide_eq_true (show q.key=r.key from e)⟩)
   rw[Aq,Aj];exact⟨λh2=>h2.elim (λh3=>.inr (ih.1 h3)) (λh3=>.inl h3.1),λh2=>h2.elim (λh3=>.inr ⟨h3,hn⟩) (λh3=>.inl (ih.2 h3))⟩
theorem Xtk (l:List Rw):(II l).Pairwise λa b=>a.key≠b.key:=by
 induction l with
 | nil=>exact Bp
 | cons r t ih=>
  unfold II;split
  ·exact ih
  ·rename_i h;exact AO.2 ⟨λq z e=>h (B6.2 ⟨q,Xw6 z,by simp [e]⟩),ih⟩
theorem X94 {l m:List Cell}(hl:I3 l)(hm:I3 m)(h:∀x,x∈l↔x∈m):l=m:=by
 induction l generalizing m with
 | nil=>
  cases m with
  | nil=>rfl
  | cons b m=>exact absurd ((h b).2 Al) EQ
 | cons a l ih=>
  cases m with
  | nil=>exact absurd ((h a).1 Al) EQ
  | cons b m=>
   have r:=AO.1 hl;have z:=AO.1 hm;have e:a=b:=by
    rcases Aj.1 ((h a).1 Al)with h1|h1
    ·exact h1
    ·rcases Aj.1 ((h b).2 Al)with h2|h2
     ·exact h2.symm
     ·have h3:=z.1 a h1;have h4:=r.1 b h2;rw[Jp h4]at h3;cases h3
   subst e;rw[ih r.2 z.2 λx=>?_]
   constructor
   ·intro J;rcases Aj.1 ((h x).1 (Am _ J))with h1|h1
    ·have:=r.1 x J;rw[h1,HZ]at this;cases this
    ·exact h1
   ·intro J;rcases Aj.1 ((h x).2 (Am _ J))with h1|h1
    ·have:=z.1 x J;rw[h1,HZ]at this;cases this
    ·exact h1
theorem Uu : ∀a b:EC,(Go.Lib.compareBytes a b<0)↔EU a b=true
 | [],[]=>by simp [Go.Lib.compareBytes,EU,Op.bytesLess]
 | [],_ :: _=>by simp [Go.Lib.compareBytes,EU,Op.bytesLess]
 | _ :: _,[]=>by simp [Go.Lib.compareBytes,EU,Op.bytesLess]
 | x :: a,y :: b=>by
  have r:=Uu a b;unfold Go.Lib.compareBytes;simp only [EU,Op.bytesLess,Bool.or_eq_true,Au,decide_eq_true_eq,beq_iff_eq]at *
  by_cases h1:x<y
  ·simp [h1]
  ·rw[if_neg h1]
   by_cases h2:y<x
   ·rw[if_pos h2];exact⟨λh=>by simp at h,λh=>h.elim (λh=>absurd h h1) λh=>by
     rw[h.1]at h2;exact absurd h2 (UInt8.lt_irrefl _)⟩
   ·rw[if_neg h2,r];have e:x=y:=UInt8.le_antisymm (CU.1 h2) (CU.1 h1);exact⟨λh=>.inr ⟨e,h⟩,λh=>h.elim (λh=>absurd h h1) (·.2)⟩
def Ls (l:List Rw)(k:Nat):Rw:=l[k]?.getD ⟨[],[],false⟩
def JL (l:List Rw):Nat->EC->Option Int
 | 0=>λ_=>none
 | k+1=>λs=>if(Ls l k).key=s then some (k:Int)else JL l k s
theorem Uf (l:List Rw)(s:EC):∀n,(JL l n s=none->∀i,i<n->(Ls l i).key≠s)/\∀j,JL l n s=some j->∃m:Nat,j=m/\m<n/\(Ls l m).key=s/\∀i,m<i->i<n->(Ls l i).key≠s
 | 0=>⟨λ_ i hi=>by omega,λj h=>by simp [JL]at h⟩
 | n+1=>by
  obtain⟨h1,h2⟩:=Uf l s n;unfold JL
  by_cases e:(Ls l n).key=s
  ·simp only [if_pos e];exact⟨λh=>by simp at h,λj h=>⟨n,(A3.inj h).symm,by omega,e,λi hi r=>by omega⟩⟩
  ·simp only [if_neg e];refine⟨λh i hi=>?_,λj h=>?_⟩
   ·by_cases e2:i=n
    ·rw[e2];exact e
    ·exact h1 h i EA
   ·obtain⟨m,e1,hm,e2,z⟩:=h2 j h;refine⟨m,e1,by omega,e2,λi hi r=>?_⟩
    by_cases e4:i=n
    ·rw[e4];exact e
    ·exact z i hi EA
theorem Ol {l:List Rw}{k:Nat}{r:Rw}(h:l[k]?=some r):Ls l k=r:=by unfold Ls;rw[h];rfl
theorem X0p {l:List Rw}{k:Nat}{s:EC} : ((l.drop (k+1)).any λq=>decide (q.key=s))=true↔∃i,k<i/\i<l.length/\(Ls l i).key=s:=by
 rw[B6]
 constructor
 ·rintro ⟨q,hq,e⟩;obtain⟨i,hi⟩:=BZ.1 hq;rw[Bf]at hi;exact⟨k+1+i,by omega,(Ao.1 hi).1,by rw[Ol hi];simpa using e⟩
 ·rintro ⟨i,h1,h2,h3⟩;have e:l[i]?=some l[i]:=Av h2;refine⟨l[i],BZ.2 ⟨i-(k+1),by rw[Bf,show k+1+(i-(k+1))=i by omega];exact e⟩,?_⟩;rw[Ol e]at h3;simpa using h3
theorem X6t {l:List Rw}{k:Nat}{r:Rw}(h:l[k]?=some r):((JL l l.length r.key).getD 0=(k:Int))↔((l.drop (k+1)).any λq=>decide (q.key=r.key))=false:=by
 have hk:=(Ao.1 h).1;obtain⟨h1,h2⟩:=Uf l r.key l.length
 cases e:JL l l.length r.key with
 | none=>exact absurd (by rw[Ol h]) (h1 e k hk)
 | some j=>
  obtain⟨m,rfl,hm,e2,z⟩:=h2 j e;rw[<-Bool.not_eq_true,X0p];simp only [Option.getD_some]
  constructor
  ·rintro e4 ⟨i,h4,h5,h6⟩;exact z i EA h5 h6
  ·intro h4
   by_cases e5:m=k
   ·rw[e5]
   ·by_cases e6:m<k
    ·exact absurd (by rw[Ol h]) (z k e6 hk)
    ·exact absurd ⟨m,by omega,hm,e2⟩ h4
theorem Xw8 {l:List Rw}{k:Nat}{r:Rw}(h:l[k]?=some r):II (l.drop k)=if((l.drop (k+1)).any λq=>decide (q.key=r.key))=true then II (l.drop (k+1))else r :: II (l.drop (k+1)):=by
 obtain⟨hk,rfl⟩:=Ao.1 h;rw[List.drop_eq_getElem_cons hk];rfl
end Go.Sp
namespace Go.Vc
open Go.RowKit Go.Proofs Go.Shelf Go.Sort
theorem Xj1 {w:World}{g:Nat}{cur:Array Value}{e:TypeId}{vs:List Value}(hb:w.heap[g]?=some (.cells cur e (0,0)))(ht:cur.toList.take vs.length=vs):Holds id w g 0 vs.toArray:=by
 intro j z;have r:j<vs.length:=by simpa using z
 refine⟨?_,by simp [World.frozen?,hb]⟩;have h1:(cur.toList.take vs.length)[j]?=vs[j]?:=by rw[ht]
 rw[Ei r]at h1;simp only [World.cell?,hb,A9];simp only [Option.isSome_none,Bool.false_eq_true,if_false];rw[<-Ds,h1];simp [r]
theorem Xn2 {w:World}{g n:Nat}{os:Array Obj}{cur:Array Value}{e:TypeId}{fr:Nat×Nat}(d:Array Value)(hb:w.heap[g]?=some (.cells cur e fr)) :
  (grow (putRow id (Sort.ahead w n) g 0 d) os).heap[g]?=some (.cells (putCells id 0 d cur) e fr):=by
 have r:g<w.heap.size:=(BF.1 hb).1;rw[heap_grow_old _ _ (by simpa using r)];simp [putRow,mapBlock,Sort.ahead,Du,hb,onCells]
theorem Xj2 {w:World}{g n:Nat}{os:Array Obj}(d:Array Value):w.grownBy (grow (putRow id (Sort.ahead w n) g 0 d) os) (some g):=by
 refine⟨rfl,rfl,rfl,by simp,λk hk r=>?_⟩;rw[heap_grow_old _ _ (by simpa using hk)];have:g≠k:=λe=>r (by rw[e]);simp [putRow,mapBlock,Sort.ahead,Du,this]
theorem Xko (cur:Array Value)(vs:List Value)(h:vs.length<=cur.size):(putCells id 0 vs.toArray cur).toList.take vs.length=vs:=by
 apply BA
 intro j
 by_cases hj:j<vs.length
 ·rw[Ei hj,Ds];simp [putCells,hj,show j<cur.size by omega]
 ·rw[List.getElem?_take_eq_none EA,Bl EA]
theorem Wt {α:Type}[Inhabited α]{enc:α->List Value}{k:Nat}(hk:∀x,(enc x).length=k)(d:Array α):flatK enc k d=(d.toList.flatMap enc).toArray:=by
 have J:(d.toList.flatMap enc).length=d.size*k:=by rw[Fs hk];simp
 apply Array.ext
 ·simp [J]
 ·intro t h1 h2;have O:t<d.size*k:=by simpa using h1
  have Y:0<k:=by
   rcases Cl k with e|e
   ·subst e;simp at O
   ·exact e
  have z:t / k<d.size:=by rw[Nat.div_lt_iff_lt_mul Y];exact O
  have e1:=get_flatK enc k d t O;rw[getElem!_pos _ t h1]at e1;rw[e1];have key:∀(l:List α) (t:Nat) (z:t / k<l.length),(l.flatMap enc)[t]?=(enc (l[t / k]'z))[t % k]?:=by
   intro l
   induction l with
   | nil=>intro t z;simp at z
   | cons a r ih=>
    intro t z;rw[AD]
    by_cases hlt:t<k
    ·have Z:t / k=0:=Nat.div_eq_of_lt hlt;rw[Bw (by rw[hk];exact hlt)];simp only [Z,List.getElem_cons_zero,Nat.mod_eq_of_lt hlt]
    ·have Z:t / k=(t-k) / k+1:=by
      have:t=(t-k)+k:=by omega
      rw[this,Nat.add_div_right _ Y];simp
     have e2:t % k=(t-k) % k:=by
      have:t=(t-k)+k:=by omega
      rw[this,Nat.add_mod_right];simp
     rw[BG (by rw[hk];omega),hk,ih (t-k) (by rw[Z]at z;simpa using z)];simp only [Z,List.getElem_cons_succ,e2]
  have h3:=key d.toList t (by simpa using z);have h4:t % k<(enc (d.toList[t / k]'(by simpa using z))).length:=by rw[hk];exact Bg _ Y
  rw[Av h4]at h3;have h5:(d.toList.flatMap enc)[t]'(by rw[J];exact O)=(enc (d.toList[t / k]'(by simpa using z)))[t % k]:=by
   have:=Av (l:=d.toList.flatMap enc) (i:=t) (by rw[J];exact O);rw[this]at h3;exact A3.inj h3
  simp only [List.getElem_toArray];rw[h5,getElem!_pos d (t / k) z];simp only [Array.getElem_toList];rw[getElem!_pos _ (t % k) (by rw[hk];exact Bg _ Y)]
theorem X6u {P:Program}{ρ:Ren}{α:Type}[Inhabited α](L:SlLaysF0.n6 P ρ)(k:Nat)(aE:∀w,(isAgg (ρ.t 24)).run P w=.ok true w)(zE:∀w,(Go.sizeOf (ρ.t 24)).run P w=.ok k w)(enc:α->List Value)(hk:∀x,(enc x).length=k)(h1:∀x,∀v∈enc x,v.oneCell'=true)(cf:α->α->Int)(hO:SWO (ltOf cf))(g:Nat)(cb:Array Value)
  (eg:∀args w,(callFunc g args).run P w=.ok (.enter g args) w) (hcmp:∀(x y:α) (W:World),Calls P g (#[.agg (enc x).toArray,.agg (enc y).toArray]++cb) W λe w'=>e=.returned (.int .i64 (cf x y))/\∃q os',w'=grow (W.drewN q) os')
  {T B:Nat} {w:World} {v:Value} {l:List α} (ho:Own enc k T B w v l) (hl:l.length<4611686018427387904) :
  Calls P (ρ.f 6) [v,.func (.func g) #[] cb].toArray w (Fh (λk=>v.ownBlock=some k) w λu w'=>u=.tuple #[]/\∃l',l'.Perm l/\l'.Pairwise (λx y=>ltOf cf y x=false)/\Own enc k T B w' v l'):=by
 rcases ho.row.2 with⟨rfl,hn⟩|⟨b,cap,cur,rfl,hB,hb,hnc,hcm,hcs,ht⟩
 ·have:=A5 hn;subst this;refine(AnyF.slices_SortFunc_none L none 0 _ w).mono ?_;rintro e w' ⟨rfl,rfl⟩;exact⟨_,rfl,Mod.refl _ _,rfl,[],List.Perm.refl _,Bp,ho⟩
 ·have ha:(l.flatMap enc).length=l.length*k:=Fs hk l;have hH:HoldsK enc k w b 0 l.toArray:=by
   show Holds id w b 0 (flatK enc k l.toArray);rw[Wt hk];exact Xj1 hb (by rw[ha];exact ht)
  have Z:=(BF.1 hb).1;have hc:CmpLays P g cb enc k cf b 0 l.toArray.size w:=λm os dk _ x y=>hcmp x y _;have hs:=AnyQ.slices_SortFunc L k aE zE enc hk h1 cf hO g cb b 0 cap l.toArray w eg hc hH Z (by simpa using hl);refine Calls.mono hs ?_;rintro e w' ⟨rfl,d',n,os,hp,hsd,rfl⟩;have J:d'.size=l.length:=by rw[hp.1];simp
  have O:d'.toList.Perm l:=by
   have:=hp.2.2;simpa [Array.extract_eq_self_of_le,J]using this
  have z:d'.toList.length=l.length:=by simpa using J
  have r:(d'.toList.flatMap enc).length=l.length*k:=by rw[Fs hk,z]
  refine⟨_,rfl,Mod.of_grown (Xj2 _),rfl,d'.toList,O,?_,⟨?_⟩⟩
  ·rw[BU];intro i j hi hj hg;have hf:i<d'.size:=by simpa using hi
   have Y:j<d'.size:=by simpa using hj
   have:=hsd i j (Ad _) hg (by simpa [J]using Y);rw[getElem!_pos d' i hf,getElem!_pos d' j Y]at this;simpa using this
  ·show(grow (putRow id (Sort.ahead w n) b 0 (flatK enc k d')) os).ownsRow B T k _ _ _;rw[Wt hk,z];exact⟨by rw[r],.inr ⟨b,cap,_,rfl,hB,Xn2 _ hb,hnc,hcm,by simp [putCells,hcs],by rw[<-r];exact Xko cur _ (by rw[r,hcs];exact AY _ hnc)⟩⟩
end Go.Vc
namespace Go.Proofs
open Go.Shelf
def Tryz.sortF164_ren : Go.Shelf.Ren:=⟨λ|6=>164|15=>204|14=>241|28=>271|29=>272|20=>252|21=>291|22=>292|23=>293|24=>294|25=>295|26=>296|27=>297|46=>324|47=>314|48=>315|49=>325|50=>326|57=>336|n=>n,λ|22=>95|24=>79|25=>169|3=>3|39=>237|0=>0|53=>174|55=>236|4=>4|46=>331|45=>330|50=>302|5=>5|9=>9|66=>355|70=>197|76=>368|77=>211|n=>n,λ|n=>n⟩
theorem Tryz.sortF164 : Go.Proofs.SlLaysF0.n6 Tryz.prog Tryz.sortF164_ren:={
 mixed:=by kernel_rfl
 f6:=⟨Tryz.f164.name,by decide,Tryz.func164.trans (congrArg some E9)⟩
 f14:=⟨Tryz.f241.name,by decide,Tryz.func241.trans (congrArg some E9)⟩
 f15:=Tryz.func204.trans (congrArg some E9)
 f20:=⟨Tryz.f252.name,by decide,Tryz.func252.trans (congrArg some E9)⟩
 f21:=⟨Tryz.f291.name,by decide,Tryz.func291.trans (congrArg some E9)⟩
 f22:=⟨Tryz.f292.name,by decide,Tryz.func292.trans (congrArg some E9)⟩
 f23:=⟨Tryz.f293.name,by decide,Tryz.func293.trans (congrArg some E9)⟩
 f24:=⟨Tryz.f294.name,by decide,Tryz.func294.trans (congrArg some E9)⟩
 f25:=⟨Tryz.f295.name,by decide,Tryz.func295.trans (congrArg some E9)⟩
 f26:=⟨Tryz.f296.name,by decide,Tryz.func296.trans (congrArg some E9)⟩
 f27:=⟨Tryz.f297.name,by decide,Tryz.func297.trans (congrArg some E9)⟩
 f28:=Tryz.func271.trans (congrArg some E9)
 f29:=Tryz.func272.trans (congrArg some E9)
 f46:=⟨Tryz.f324.name,by decide,Tryz.func324.trans (congrArg some E9)⟩
 f47:=Tryz.func314.trans (congrArg some E9)
 f48:=Tryz.func315.trans (congrArg some E9)
 f49:=⟨Tryz.f325.name,by decide,Tryz.func325.trans (congrArg some E9)⟩
 f50:=⟨Tryz.f326.name,by decide,Tryz.func326.trans (congrArg some E9)⟩
 f57:=⟨Tryz.f336.name,by decide,Tryz.func336.trans (congrArg some E9)⟩
 t0:=Tryz.underlying0
 a0:=Tryz.isAgg0
 z0:=Tryz.sizeOf0
 v0:=Tryz.zeroValue0
 t3:=Tryz.underlying3
 a3:=Tryz.isAgg3
 z3:=Tryz.sizeOf3
 v3:=Tryz.zeroValue3
 t4:=Tryz.underlying4
 a4:=Tryz.isAgg4
 z4:=Tryz.sizeOf4
 v4:=Tryz.zeroValue4
 t5:=Tryz.underlying5
 a5:=Tryz.isAgg5
 z5:=Tryz.sizeOf5
 v5:=Tryz.zeroValue5
 t9:=Tryz.underlying9
 a9:=Tryz.isAgg9
 z9:=Tryz.sizeOf9
 v9:=Tryz.zeroValue9
 t22:=Tryz.underlying95
 a22:=Tryz.isAgg95
 z22:=Tryz.sizeOf95
 v22:=Tryz.zeroValue95
 t25:=Tryz.underlying169
 a25:=Tryz.isAgg169
 z25:=Tryz.sizeOf169
 v25:=Tryz.zeroValue169
 t39:=Tryz.underlying237
 a39:=Tryz.isAgg237
 z39:=Tryz.sizeOf237
 v39:=Tryz.zeroValue237
 t45:=Tryz.underlying330
 a45:=Tryz.isAgg330
 z45:=Tryz.sizeOf330
 v45:=Tryz.zeroValue330
 t46:=Tryz.underlying331
 a46:=Tryz.isAgg331
 z46:=Tryz.sizeOf331
 v46:=Tryz.zeroValue331
 t50:=Tryz.underlying302
 a50:=Tryz.isAgg302
 z50:=Tryz.sizeOf302
 v50:=Tryz.zeroValue302
 t53:=Tryz.underlying174
 a53:=Tryz.isAgg174
 z53:=Tryz.sizeOf174
 v53:=Tryz.zeroValue174
 t55:=Tryz.underlying236
 a55:=Tryz.isAgg236
 z55:=Tryz.sizeOf236
 v55:=Tryz.zeroValue236
 t66:=Tryz.underlying355
 a66:=Tryz.isAgg355
 z66:=Tryz.sizeOf355
 v66:=Tryz.zeroValue355
 t70:=Tryz.underlying197
 a70:=Tryz.isAgg197
 z70:=Tryz.sizeOf197
 v70:=Tryz.zeroValue197
 t76:=Tryz.underlying368
 a76:=Tryz.isAgg368
 z76:=Tryz.sizeOf368
 v76:=Tryz.zeroValue368
 t77:=Tryz.underlying211
 a77:=Tryz.isAgg211
 z77:=Tryz.sizeOf211
 v77:=Tryz.zeroValue211 }
end Go.Proofs
namespace Go.Proofs.YtiooodckiddpmaaGreatDoor
open Go.Vc Go.Sp
attribute [local irreducible] W XW Dw Gm
section
open Go.Shelf Go.RowKit Go.Lib Go.Sort
theorem X95 : Tryz.f165.ntmps=10:=by kernel_rfl
theorem Xkp (x y:Cell)(W:World):Calls Tryz.prog 165 #[.agg x.cs.toArray,.agg y.cs.toArray] W λe w'=>e=.returned (.int .i64 (Lib.compareBytes x.key y.key))/\∃q os',w'=grow (W.drewN q) os':=by
 have z:=λW'=>Tryz.strings_Compare ⟨⟨x.key⟩⟩ ⟨⟨y.key⟩⟩ W';change ∀W',Calls Tryz.prog 166 _ _ _ at z
 generalize Lib.compareBytes x.key y.key=r at z ⊢
 go_enter Tryz.func165,X95
 go_wp2_with (go_at_call 166;refine(z _).mono ?_;rintro e w' ⟨rfl,rfl⟩)
 go_ret
 exact⟨rfl,0,_,by rw[alloc_eq_grow,alloc_eq_grow,grow_grow];rfl⟩
@[reducible] def Ow (x y:Cell):Int:=Lib.compareBytes x.key y.key
theorem Pn (x y:Cell):ltOf Ow x y=EU x.key y.key:=by
 unfold ltOf Ow;rw[Bool.eq_iff_iff,decide_eq_true_iff];exact Uu x.key y.key
theorem X6v : SWO (ltOf Ow) where
 irrefl x:=by rw[Pn,HZ]
 trans x y z h1 h2:=by rw[Pn]at *;exact IZ _ _ _ h1 h2
 ntrans x y z h1 h2:=by
  rw[Pn]at *;rcases Jm x.key z.key with h|h|h
  ·rw[h,HZ]
  ·rcases Jm y.key z.key with h3|h3|h3
   ·rw[h3]at h1;exact h1
   ·rw[h3]at h2;cases h2
   ·rw[IZ _ _ _ h h3]at h1;cases h1
  ·exact Jp h
instance : Inhabited Cell:=⟨Cell.zero⟩
theorem Xp1 {T B:Nat}{w:World}{v:Value}{l:List Cell}(ho:Vc.Own Cell.cs 4 T B w v l)(hl:l.length<4611686018427387904) :
  Calls Tryz.prog 164 [v,.func (.func 165) #[] #[]].toArray w (Fh (λk=>v.ownBlock=some k) w λu w'=>u=.tuple #[]/\∃l',l'.Perm l/\l'.Pairwise (λx y=>EU y.key x.key=false)/\Vc.Own Cell.cs 4 T B w' v l'):=by
 have h:=X6u Tryz.sortF164 4 (λw=>(LQ (k:=4) (T:=79) E9).1) (λw=>(LQ (k:=4) (T:=79) E9).2) Cell.cs (λ_=>rfl) (λx v hv=>by simp at hv;rcases hv with rfl|rfl|rfl|rfl<;>rfl) Ow X6v 165 #[] (enters_of Tryz.func165 E9 rfl) (λx y W=>Xkp x y W) ho hl;refine Calls.mono h ?_;rintro e w' ⟨u,he,hm,hu,l',h1,h2,h3⟩;exact⟨u,he,hm,hu,l',h1,h2.imp (λ {a b} hab=>by rw[Pn]at hab;exact hab),h3⟩
end
theorem X0q {rows:List Rw}{seq:Int}{l':List Cell}(h1:l'.Perm ((II rows).map (·.cell seq)))(h2:l'.Pairwise (λx y=>EU y.key x.key=false)):l'=F0 rows seq:=by
 have hk:l'.Pairwise λa b=>a.key≠b.key:=by
  have h:((II rows).map (·.cell seq)).Pairwise λa b=>a.key≠b.key:=List.pairwise_map.2 ((Xtk rows).imp (λ {a b} hab=>hab));exact h.perm h1.symm (λ {a b} hab=>hab.symm)
 refine X94 (E6 (λa b (ha:EU b.key a.key=false) (hb:a.key≠b.key)=>?_) h2 hk) (P0 rows seq) λx=>by rw[Xn0,h1.mem_iff]
 rcases Jm a.key b.key with h|h|h
 ·exact absurd h hb
 ·exact h
 ·rw[ha]at h;cases h
theorem Ybv (a b:Int)(h:I a=I b):a=b:=by simpa using h
theorem QC : MapK Tryz.prog 242 9 3 S Vc.I (λs=>s.length<=maxLen):=Mq E9 E9 Ybv
theorem Xw9 (l:List Rw)(k:Nat)(r:Rw)(h:l[k]?=some r):putF (JL l k) r.key (k:Int)=JL l (k+1):=by
 funext s
 show(putF (JL l k) r.key (k:Int)) s=if(Ls l k).key=s then some (k:Int)else JL l k s
 unfold putF;rw[Ol h]
 by_cases e:s=r.key
 ·rw[if_pos e,if_pos e.symm]
 ·rw[if_neg e,if_neg (λe2=>e e2.symm)]
theorem X0r (l:List Rw)(v:Value)(seq:Int)(w:World)(hv:EM Rw.cs 3 w v l)(hl:l.length<=100000)(hks:∀r∈l,r.key.length<=1000000) :
  Calls Tryz.prog 88 [v,I seq].toArray w (ER w (λu w'=>Vc.Own Cell.cs 4 79 w.heap.size w' u (F0 l seq))):=by
 refine cw Tryz.func88 ?_;have J:=EB.refl w;refine ws λ_ Z1=>wr (da (de Z1 (ws λ_ Z2=>wr ?_)));refine Oy QC rfl RX.all (λb1 w1 e1 x1 z=>?_);have g1:=J.ge e1;have J:=J.trans x1;refine da (de Z2 (ws λ_ Z3=>ws λ_ Z4=>wr (dm ?_)));refine dv 48 3 (hv.ext J).sl (dm (de Z4 (EN ?_)));refine Fk (G:=Nat) (λk=>[(0,v),(1,I seq),(4,.slice none 0 0),(5,.map (some b1)),(12,v),(13,I ↑l.length),(14,I ↑k)]) (λk w'=>EB w w'/\k<=l.length/\Vc.Xbn Tryz.prog 9 S Vc.I w' b1 k (JL l k)) (λk=>l.length-k) 0 ?_ ?_ ?_
 ·exact FQ
 ·exact⟨J,Ad _,z⟩
 intro X2 g2 w2 Z;revert Z;revert g2;intro k Z;clear J z;obtain⟨J,h6,z⟩:=Z;refine ws λ_ Z5=>wr (dp (Fa rfl rfl) (de Z5 (ws λ_ Z6=>wi (λc1=>?_) λc1=>?_)))
 ·obtain⟨r,hk⟩:∃r,l[k]?=some r:=Fq;refine EG (Z6 _ _ (ws λ_ Z7=>EN (ws λ_ Z8=>wr (dm ?_))));refine di 48 3 (hv.ext J).sl rfl ((hv.ext J).lt hk) (dq (Fb E9 rfl rfl ((hv.ext J).row hk)) (FG (cs:=[S [],S [],B false]) rfl E9 RX.all (λb2 w3 e2 x3 m2=>?_)));have g2:=J.ge e2;have n2_mp1:=z.lt;have z:=z.ext x3;have J:=J.trans x3;refine da ?_;refine FM m2 (λw4 x4 xs4 m2=>?_);dsimp only [Fe,Ag,Af,Ai]at m2;have z:=z.mod x4 (by intro h;have h2:_=b2:=h;omega);have J:=J.o1 x4;refine de Z8 (wr (dm ?_));refine df 0 rfl (dl rfl (m2.at rfl) (dm ?_));refine NW QC (kx:=r.key) (a:=(k:Int)) rfl rfl rfl rfl z (by have:=hks r (Ak hk);unfold maxLen;omega) (by unfold maxLen;omega) (.inl rfl) (λw5 x5 xs5 hb=>?_);have J:=J.own x5 (λi hi=>by have h8:i=b1:=hi;subst h8;omega);have z:=hb;refine de Z7 (wr (pa rfl rfl (dm (EF (?_)))));refine⟨k+1,FQ,⟨J,by omega,?_⟩,by omega⟩;rw[Xw9 l k r hk]at z;exact z
 refine Ff (Z3 _ _ (ws λ_ Z9=>wr (da (de Z9 (ws λ_ xa=>ws λ_ xc=>wr (dm ?_))))));refine dv 48 3 (hv.ext J).sl (dm (de xc (EN ?_)));refine Fk (G:=Nat×Value×List Cell) (λ(k,va,O)=>[(1,I seq),(4,.slice none 0 0),(5,.map (some b1)),(8,va),(24,v),(25,I ↑l.length),(26,I ↑k)]) (λ(k,va,O) w'=>EB w w'/\k<=l.length/\O.length<=k/\O++(II (l.drop k)).map (·.cell seq)=(II l).map (·.cell seq)/\Vc.Own Cell.cs 4 79 w.heap.size w' va O/\Vc.Xbn Tryz.prog 9 S Vc.I w' b1 l.length (JL l l.length)) (λ(k,va,O)=>l.length-k) (0,.slice none 0 0,[]) ?_ ?_ ?_
 ·exact FQ
 ·exact⟨J,Ad _,Aa _,rfl,Vc.Own.nil,by rw[show k=l.length by omega]at z;exact z⟩
 intro X6 g6 w6 xf;obtain⟨k,va,O⟩:=g6;clear J z;obtain⟨J,h6,hal,Y,ho,z⟩:=xf;refine ws λ_ hy=>wr (dp (Fa rfl rfl) (de hy (ws λ_ h7=>wi (λc2=>?_) λc2=>?_)))
 ·obtain⟨r,hk⟩:∃r,l[k]?=some r:=Fq;have ht:=Xw8 hk;have hq:=X6t hk;refine EG (h7 _ _ (ws λ_ hf=>EN (ws λ_ xg=>wr (dm ?_))));refine di 48 3 (hv.ext J).sl rfl ((hv.ext J).lt hk) (dq (Fb E9 rfl rfl ((hv.ext J).row hk)) (FG (cs:=[S [],S [],B false]) rfl E9 RX.all (λb3 w7 e3 x7 m3=>?_)));have g3:=J.ge e3;have n3_mp1:=z.lt;have hc:=ho.ltb e3;have ho:=ho.ext x7;have z:=z.ext x7;have J:=J.trans x7;refine da ?_;refine FM m3 (λw8 x8 xs8 m3=>?_);dsimp only [Fe,Ag,Af,Ai]at m3;have ho:=ho.mod x8 (by intro k hk h;have h1:=hc k hk;have h2:k=b3:=h;omega);have z:=z.mod x8 (by intro h;have h2:_=b3:=h;omega);have J:=J.o1 x8;refine de xg (ws λ_ h9=>wr (dm ?_));refine df 0 rfl (dl rfl (m3.at rfl) (dq (Ly QC (kx:=r.key) (z0:=0) rfl rfl E9 z (by have:=hks r (Ak hk);unfold maxLen;omega)) (dm ?_)));refine dp (G1 rfl rfl) (de h9 (wi (λc3=>?_) λc3=>?_))
  ·refine wr (dm ?_);refine dq (Fb (k:=3) E9 rfl rfl m3.row) (dm ?_);refine cP (Uj r seq _) RX.all λw9 x9=>?_;have ho:=ho.ext x9;have z:=z.ext x9;have J:=J.trans x9;refine li (e:=79) (sz:=4) (zs:=[S [],S [],B false,.int .i64 0]) (pv:=[(0,.agg ⟨[_,_,_,_]⟩)]) (cs:=[_,_,_,_]) RX.all (λb4 w10 e4 ha m4=>?_);have g4:=J.ge e4;have n4_mp1:=z.lt;have o4_ho:=ho.ltb e4;have ho:=ho.ext ha;have z:=z.ext ha;have J:=J.trans ha;refine Gv (lx:=[r.cell seq]) (e:=79) (sz:=4) (by':=48) rfl E9 E9 EE ho (m4.arr (enc:=Cell.cs) (sz:=4) (l:=[r.cell seq]) rfl EE rfl (Ap rfl)) rfl rfl (by intro x _ u hu;simp at hu;rcases hu with rfl|rfl|rfl|rfl<;>rfl) (by simp;omega) EK J.size (.inl rfl) (λxe w11 hj hr=>?_);have z:=z.mod hr (z.ne_own ho);have J:=J.own hr (λi hi=>(ho.lt i hi).1);have ho:=hj;clear m4;refine da (de hf (wr ?_));refine pa rfl rfl (dm (EF (?_)));refine⟨(k+1,xe,O++[r.cell seq]),FQ,⟨J,by omega,by simp;omega,?_,ho,z⟩,by simp only [];omega⟩;rw[<-Y,ht,if_neg (by rw[hq.1 c3];decide)];simp
  refine EG (hf _ _ (wr (pa rfl rfl (dm (EF (?_))))));refine⟨(k+1,va,O),FQ,⟨J,by omega,by omega,?_,ho,z⟩,by simp only [];omega⟩;have hh:((l.drop (k+1)).any λq=>decide (q.key=r.key))=true:=by
   cases e:((l.drop (k+1)).any λq=>decide (q.key=r.key))with
   | true=>rfl
   | false=>exact absurd (hq.2 e) c3
  rw[<-Y,ht,if_pos hh]
 have h5:k=l.length:=by omega
 rw[h5,BH (Aa _),show II ([]:List Rw)=[] from rfl,List.map_nil,AP]at Y;have hll:=Xw7 l;refine Ff (xa _ _ (ws λ_ hw=>wr (dm ?_)));refine cD (Xp1 ho (by rw[Y,An];omega)) (.inl rfl) λu12 w12 xb hg=>?_;have hsz12:=J.size;have J:=J.own xb (λi hi=>(ho.lt i hi).1);obtain⟨rfl,l',hp,hz,ho⟩:=hg;refine de hw (ws λ_ xd=>wr (dm (da (de xd (EH ?_)))));refine ro ?_;exact⟨_,rfl,J,by rw[X0q (Y▸hp) hz]at ho;exact ho⟩
def Il (m:List Cell)(cs:List Cell):List Cell:=cs.foldl (λm c=>(put m c).2) m
theorem X0s (l:List Cell)(c:Cell):(put l c).2.length<=l.length+1/\GS (put l c).2<=GS l+Gn c:=by
 unfold put;split
 ·simp only;omega
 ·simp only;have h:=M7 l c;have h1:=congrArg A7 h;have h2:=congrArg GS h;unfold GS at *;simp only [Ab,AC,Ch,AB,Aq,List.sum_cons]at *;omega
theorem Xxa (m:List Cell)(cs:List Cell):(Il m cs).length<=m.length+cs.length/\GS (Il m cs)<=GS m+GS cs:=by
 induction cs generalizing m with
 | nil=>exact⟨Aa _,by show GS m<=GS m+GS [];omega⟩
 | cons c r ih=>
  have h1:=ih (put m c).2;have h2:=X0s m c;have e:GS (c :: r)=Gn c+GS r:=by simp [GS]
  show(Il (put m c).2 r).length<=_/\GS (Il (put m c).2 r)<=_;rw[e,AB];omega
theorem Xp2 (cs:List Cell)(k:Nat):GS (cs.take k)<=GS cs:=by
 have h:=congrArg GS (AT k cs);unfold GS at *;rw[AC,Ch]at h;omega
theorem F6.to {F G:Nat->Prop}{w:World}{bm:Nat}{l:List Cell}(h:F6 F w bm l)(hs:∀k,F k->G k)(hl:∀k,G k->k<w.heap.size):F6 G w bm l:=by
 obtain⟨va,vd,a,nx,dr,L,h1,h2,h3,h4,h5⟩:=h;exact⟨va,vd,a,nx,dr,L,h1,h2,h3,λk hk=>hs k (h4 k hk),hl⟩
theorem X6x {m cs:List Cell}{k:Nat}{c:Cell}(h:cs[k]?=some c):Il m (cs.take (k+1))=(put (Il m (cs.take k)) c).2:=by
 unfold Il;rw[Gs h,List.foldl_append];rfl
theorem Vv (F:Nat->Prop)(bs bd bl:Nat)(n:Int)(vf:Value)(bo bm:Nat)(dead:Bool)(mem:List Cell)(l:List Rw)(v:Value)(seq:Int)(w:World)(hs:EL w bs (He bd bl n vf bo bm dead) 90)(hM0:F6 F w bm mem)(hFs:¬ F bs)(hv:EM Rw.cs 3 w v l)(hl:l.length<=100000)(hks:∀r∈l,r.key.length<=1000000)(hml:mem.length<=700000)(hmz:GS mem+GS (F0 l seq)<=1000000000000) :
  Calls Tryz.prog 42 [ED bs 0,v,I seq].toArray w (Fh F w (λu w'=>u=.tuple #[]/\F6 (NF F w w') w' bm (Il mem (F0 l seq)))):=by
 refine cw Tryz.func42 ?_;have J:=Vc.Mod.refl F w;have z:=hM0;have hf:=hM0.lt;have hy:=hs.lt;have hcl:=MH l seq;refine ws λ_ Z1=>wr (dm (dm ?_));refine cG (X0r l v seq _ hv hl hks) RX.all λvc w1 x1 ht=>?_;have ha:=J.size;have hs:=hs.ext x1;have z:=z.ext x1;have J:=J.ext x1;have O:=ht.mono ha;have hh:=Ae ha x1.size;have Z:Sz w1.heap.size w1:=⟨Aa _⟩;have hr:=λk9 h9=>(O.lt k9 h9).2;refine dv 79 4 (O.arr EE).sl (dm (de Z1 (EN ?_)));refine Fk (G:=Nat×(Nat->Prop)) (λ(k,Fc)=>[(0,ED bs 0),(10,vc),(11,I ↑(F0 l seq).length),(12,I ↑k)]) (λ(k,Fc) w'=>Mod F w w'/\k<=(F0 l seq).length/\F6 Fc w' bm (Il mem ((F0 l seq).take k))/\(∀j,Fc j->F j\/w1.heap.size<=j)/\EL w' bs (He bd bl n vf bo bm dead) 90/\Vc.Own Cell.cs 4 79 w.heap.size w' vc (F0 l seq)/\Sz w1.heap.size w') (λ(k,Fc)=>(F0 l seq).length-k) (0,F) ?_ ?_ ?_
 ·exact FU
 ·exact⟨J,Ad _,z,λ_ h=>.inl h,hs,O,Z⟩
 intro X2 g2 w2 hp;obtain⟨k,Fc⟩:=g2;clear J hs z O Z;obtain⟨J,hk1,z,Y,hs,O,Z⟩:=hp;have hSr:=Z.le;refine ws λ_ Z2=>wr (dp (Fa rfl rfl) (de Z2 (ws λ_ Z3=>wi (λc1=>?_) λc1=>?_)))
 ·obtain⟨c,hk⟩:∃c,(F0 l seq)[k]?=some c:=Fq;have hpz:=Xxa mem ((F0 l seq).take k);have hst:=Xp2 (F0 l seq) k;have hlt9:((F0 l seq).take k).length<=(F0 l seq).length:=by rw[A4];omega
  refine EG (Z3 _ _ (ws λ_ Z4=>EN (ws λ_ Z5=>wr (di 79 4 (O.arr EE).sl rfl ((O.arr EE).lt hk) (dq (Fb E9 rfl rfl ((O.arr EE).row hk)) (FG (cs:=[S [],S [],B false,.int .i64 0]) rfl E9 RX.all (λb1 w3 e1 x3 m1=>?_)))))));have g1:=J.ge e1;have hb:=z.lt;have o1_hM:=z.lt;have a1_hs:=hs.lt;have hc:=O.ltb e1;have a1_hS:=Z.le;have z:=z.ext x3;have hs:=hs.ext x3;have O:=O.ext x3;have Z:=Z.ext x3;have J:=J.ext x3;refine FM m1 (λw4 x4 xs4 m1=>?_);dsimp only [Fe,Ag,Af,Ai]at m1;have z:=z.mod x4 (λk9 h9 e=>by have h2:k9=b1:=e;have h8:=hb k9 h9;omega);have hs:=hs.mod x4 (by intro h;have h2:_=b1:=h;omega);have O:=O.mod x4 (by intro k hk h;have h1:=hc k hk;have h2:k=b1:=h;omega);have Z:=Z.mod x4 trivial;have J:=J.o1 x4;refine de Z5 (F4 (R:=EB) EB.refl (λ_ _ _=>EB.trans) E9 [3,4] [(0,.p,false),(1,.p,false),(2,.p,false),(3,.l,false),(4,.l,false),(5,.x,true)] rfl E9 E9 (λw5 hg=>?_));have x5:=EJ hg;clear hg;have z:=z.ext x5;have hs:=hs.ext x5;have O:=O.ext x5;have Z:=Z.ext x5;have m1:=m1.ext x5;have J:=J.ext x5;refine dm ?_;refine dz rfl (df 5 rfl (dL rfl (λ_ hR=>((hs.ext hR).at rfl)) (FK rfl (λw' hR=>Fb (k:=4) E9 rfl rfl (m1.ext hR).row) ?_)));have hq:=Z.le;refine cD (z.calls_put c _ EA EA) (.inl rfl) λu6 w6 x6 hw=>?_;have hsz6:=J.size;have hs:=hs.mod x6 (λh9=>(Y _ h9).elim hFs (λh=>by have:=hy;omega));have O:=O.mod x6 (λk9 h9 e9=>(Y _ e9).elim (λh=>by have:=hf _ h;have:=(O.lt k9 h9).1;omega) (λh=>by have:=hr k9 h9;omega));have Z:=Z.mod x6 trivial;have J:=J.own x6 (λi hi hlt=>((Y i hi).resolve_right (λh=>by have:=hh;omega)));obtain⟨rfl,z⟩:=hw;refine de Z4 (wr (pa rfl rfl (dm (EF (?_)))));rw[<-X6x hk]at z;exact⟨(k+1,_),FU,⟨J,by omega,z,λj hj=>hj.elim (Y j) (λh=>.inr (Ae hq h.1)),hs,O,Z⟩,by simp only [];omega⟩
 refine Ff (HI (Hi rfl ?_));rw[Ax EA]at z;refine⟨_,rfl,J,rfl,?_⟩;exact z.to (λj hj=>(Y j hj).elim .inl (λh=>.inr ⟨by omega,z.lt j hj⟩)) (λj hj=>hj.elim (λh=>A0 (hf j h) J.size) (·.2))
theorem X96 (bs bd bl:Nat)(n:Int)(vf:Value)(bo bm:Nat)(dead:Bool)(G:Nat->Prop)(vd ve:Value)(vs:List (Value×EC))(L:Led)(w:World)(hs:EL w bs (He bd bl n vf bo bm dead) 90)(hE:LedE G bl bd vd ve vs L w) :
  Calls Tryz.prog 17 [ED bs 0].toArray w (Pure w (I L.last)):=by
 refine cw Tryz.func17 ?_;have r:=EB.refl w;refine ws λ_ Z1=>wr (da (de Z1 (ws λ_ J=>ws λ_ Z=>wr (dm ?_))));refine dp (Gj E9 rfl rfl) (de Z (wi (λz=>?_) λz=>?_))
 ·exact absurd z EQ
 refine EG (J _ _ (ws λ_ O=>wr (dm ?_)));refine dz rfl (df 1 rfl (dl rfl ((hs.ext r).at rfl) (cP (G3 G bl bd vd ve vs L _ (hE.ext r)) RX.all λw1 Y=>?_)));have r:=r.trans Y;refine da (de O (EH ?_));refine ro ?_;exact⟨rfl,r⟩
theorem LL : MapK Tryz.prog 87 104 102 Gi pO Ju:=PR (i:=3) E9 E9 (U7 E9 E9 E9) E9 E9 E9 E9 E9 E9 QP
structure Tb where
 h:Int×Int
 bt:Nat
 vl:Value
 vb:Value
 cs:List Cell
def Hl (ts:List Tb)(h:Int×Int):Option Tb:=ts.find? λt=>decide (t.h=h)
def Iq (ts:List Tb)(h:Int×Int):Option (Option Nat):=(Hl ts h).map λt=>some t.bt
def KK (ts:List Tb)(key:EC):List Fi->Option Cell
 | []=>none
 | f :: r=>match(Hl ts (f.lev,f.id)).bind λt=>first t.cs key 1099511627776 with
  | some c=>some c
  | none=>KK ts key r
def Kj (mem:List Cell)(fs:List Fi)(ts:List Tb)(key:EC):Option Cell:=match first mem key 1099511627776 with
 | some c=>some c
 | none=>KK ts key (JX fs key)
theorem Xtl {mem:List Cell}{fs:List Fi}{ts:List Tb}{key:EC}{c:Cell}(h:first mem key 1099511627776=some c):Kj mem fs ts key=some c:=by unfold Kj;rw[h]
theorem RQ {mem:List Cell}{fs:List Fi}{ts:List Tb}{key:EC}(h:first mem key 1099511627776=none):Kj mem fs ts key=KK ts key (JX fs key):=by unfold Kj;rw[h]
theorem OU {ts:List Tb}{h:Int×Int}{t:Tb}(e:Hl ts h=some t):t∈ts:=List.mem_of_find?_eq_some e
theorem WT {ts:List Tb}{key:EC}{fs:List Fi}{k:Nat}{f:Fi}{t:Tb}{c:Cell}(h:fs[k]?=some f)(ht:Hl ts (f.lev,f.id)=some t)(hc:first t.cs key 1099511627776=some c):KK ts key (fs.drop k)=some c:=by
 rw[HY h];unfold KK;rw[ht,Cn,hc]
theorem Tv {ts:List Tb}{key:EC}{fs:List Fi}{k:Nat}{f:Fi}{t:Tb}(h:fs[k]?=some f)(ht:Hl ts (f.lev,f.id)=some t)(hc:first t.cs key 1099511627776=none):KK ts key (fs.drop k)=KK ts key (fs.drop (k+1)):=by
 rw[HY h,KK.eq_2,ht,Cn,hc]
theorem LV.to {P:Program}{o:Oper}{E:Fg}{w:World}{v v':Value}(h:LV P o E w v)(e:v=v'):LV P o E w v':=e▸h
theorem Xf {ts:List Tb}{h:Int×Int}{t:Tb}(e:Hl ts h=some t):pO ((Iq ts h).getD none)=ED t.bt 0:=by unfold Iq;rw[e];rfl
theorem Xxd {fs:List Fi}{key:EC}{f:Fi}(h:f∈JX fs key):f∈fs:=by
 unfold JX HJ at h;simp only [Ay,List.mem_reverse,List.mem_filter]at h;rcases h with(((h|h)|h)|h)|h<;>exact h.1
theorem X6y (bs bd bl:Nat)(n:Int)(vf:Value)(bo bm no:Nat)(dead:Bool)(F:Nat->Prop)(mem:List Cell)(fs:List Fi)(ts:List Tb)(key:EC)(w:World)(hs:EL w bs (He bd bl n vf bo bm dead) 90)(hM:F6 F w bm mem)(hml:mem.length<=900000)(hf:EM Fi.cs 5 w vf fs)(hfl:fs.length<=100000)(mo:Vc.Xbn Tryz.prog 104 Gi pO w bo no (Iq ts))(htb:∀t∈ts,TblE t.bt t.vl t.vb t.cs w)(hfs:∀f∈fs,(∃t,Hl ts (f.lev,f.id)=some t)/\ET f.lev/\ET f.id)(hkl:key.length<=1000000000) :
  Calls Tryz.prog 58 [ED bs 0,S key].toArray w (Pure w (.tuple #[((Kj mem fs ts key).getD Cell.zero).v,B (Kj mem fs ts key).isSome])):=by
 refine cw Tryz.func58 ?_;have r:=EB.refl w;refine ws λ_ Z1=>wr (FG (cs:=[S [],S [],B false,.int .i64 0]) rfl E9 RX.all (λb1 w1 e1 x1 z=>?_));have g1:=r.ge e1;have r:=r.trans x1;refine da (de Z1 (ws λ_ Z2=>ws λ_ Z3=>wr (dm ?_)));refine dz rfl (df 5 rfl (dl rfl ((hs.ext r).at rfl) (dm ?_)));refine cP (hM.ext r |>.calls_get key 1099511627776 _ hml) RX.all λw2 x2=>?_;have z:=z.ext x2;have r:=r.trans x2;refine dm ?_;refine dx rfl rfl (dx rfl rfl (FG (cs:=[S [],S [],B false,.int .i64 0]) rfl E9 RX.all (λb2 w3 e2 x3 m2=>?_)));have g2:=r.ge e2;have n2_1:=z.ltb e2;have z:=z.ext x3;have r:=r.trans x3;refine FM m2 (λw4 x4 xs4 m2=>?_);dsimp only [Fe,Ag,Af,Ai]at m2;have z:=z.mo x4;have r:=r.o1 x4;refine da (de Z3 (ws λ_ Z4=>wr (dm (de Z4 ?_))));refine wc (λc1=>?_) λc1=>?_
 ·refine ws λ_ Z5=>wr (dq (Fb (k:=4) E9 rfl rfl m2.row) (FM z (λw5 x5 xs5 z=>?_)));dsimp only [Fe,Ag,Af,Ai]at z;have r:=r.o1 x5;refine da (de Z5 (EH ?_));refine IG (u:=?v10) rfl rfl rfl rfl E9 rfl z.row ?h10 ?k10
  case h10=>conv=>lhs;whnf
  obtain⟨c,O⟩:=Cz.1 c1;rw[Xtl O,O];exact⟨rfl,r⟩
 have Z:first mem key 1099511627776=none:=by simpa using c1
 refine EG (Z2 _ _ (ws λ_ Z6=>ws λ_ Z7=>wr (dm ?_)));refine dz rfl (df 2 rfl (dq (Fb E9 rfl rfl ((hs.ext r).part 2 2)) (dm ?_)));refine cG (X6k n fs vf key _ (hf.ext r) hfl) RX.all λvo w6 x6 xd=>?_;have h8:=r.size;have z:=z.ext x6;have r:=r.trans x6;have J:=xd.mono h8;refine dv 62 5 (J.arr EE).sl (dm (de Z7 (EN ?_)));refine Fk (G:=Nat) (λk=>[(0,ED bs 0),(1,S key),(4,ED b1 0),(28,vo),(29,I ↑(JX fs key).length),(30,I ↑k)]) (λk w'=>EB w w'/\EL w' b1 Cell.zero.cs 79/\Vc.Own Fi.cs 5 62 w.heap.size w' vo (JX fs key)/\k<=(JX fs key).length/\KK ts key (JX fs key)=KK ts key ((JX fs key).drop k)) (λk=>(JX fs key).length-k) 0 ?_ ?_ ?_
 ·exact FSq
 ·exact⟨r,z,J,Ad _,rfl⟩
 intro X7 g7 w7 hy;revert hy;revert g7;intro k hy;clear r z m2 J;obtain⟨r,z,J,hk1,Y⟩:=hy;refine ws λ_ Z8=>wr (dp (Fa rfl rfl) (de Z8 (ws λ_ Z9=>wi (λc2=>?_) λc2=>?_)))
 ·obtain⟨f,hk⟩:∃f,(JX fs key)[k]?=some f:=Fq;have hp:=hfs f (Xxd (Ak hk));obtain⟨t,ht⟩:=hp.1;have hT:=htb t (OU ht);have xc:=XL fs key 4;rw[VS]at xc;refine EG (Z9 _ _ (ws λ_ h7=>EN (ws λ_ xg=>wr (di 62 5 (J.arr EE).sl rfl ((J.arr EE).lt hk) (dq (Fb E9 rfl rfl ((J.arr EE).row hk)) (FG (cs:=[.int .i64 0,.int .i64 0,.int .i64 0,S [],S []]) rfl E9 RX.all (λb3 w8 e3 x8 m3=>?_)))))));have g3:=r.ge e3;have n3_1:=z.ltb e3;have hj:=J.ltb e3;have z:=z.ext x8;have J:=J.ext x8;have r:=r.trans x8;refine FM m3 (λw9 x9 xs9 m3=>?_);dsimp only [Fe,Ag,Af,Ai]at m3;have z:=z.mo x9;have J:=J.mod x9 (by intro k hk h;have h1:=hj k hk;have h2:k=b3:=h;omega);have r:=r.o1 x9;refine de xg (ws λ_ h6=>L0 (R:=EB) EB.refl (λ_ _ _=>EB.trans) E9 [3,5,7,9] (.one 0 .p false (.one 1 .p false (.one 2 .p false (.one 3 .l false (.one 4 .p false (.one 5 .l false (.one 6 .p false (.one 7 .l false (.one 8 .p false (.one 9 .l false (.one 10 .p false (.fork (.alt 11 false (.one 12 .p false (.one 13 .p false (.one 14 .p false (.one 15 .x false (.one 16 .x true (.one 17 .p false .nil)))))) (.alt 15 false (.one 11 .x false (.one 12 .p false (.one 13 .p false (.one 14 .p false (.one 16 .x true (.one 17 .p false .nil)))))) .stop)))))))))))))) E9 E9 (λw10 hg=>?_));have ha:=EJ hg;clear hg;have z:=z.ext ha;have J:=J.ext ha;have m3:=m3.ext ha;have r:=r.trans ha;refine EY (dm (EF ?_));refine EY (dz rfl (EF (EY (df 4 rfl (EF (EY (dL rfl (λ_ hR=>((hs.ext (r.trans hR)).at rfl)) (EF (EY (df 1 rfl (EF (EY (dL rfl (λ_ hR=>((m3.ext hR).at rfl)) ?_)))))))))))));refine EF (EY (df 0 rfl (EF (EY (dL rfl (λ_ hR=>((m3.ext hR).at rfl)) (EF (EY (db (zs:=[.int .i64 0,.int .i64 0]) (pl:=[(0,1),(1,1)]) (pv:=[(0,_),(1,_)]) (cs:=[_,_]) (EF ?_)))))))));refine EY (FK (v:=ED t.bt 0) rfl (λw' hR=>LV.to (Ly LL (kx:=(f.lev,f.id)) (z0:=none) rfl rfl E9 (mo.ext (r.trans hR)) ⟨hp.2.1,hp.2.2⟩) (Xf ht)) (EF (EY (dm (EF ?_)))));refine JE ?_;refine H6 ?_ ?_
  ·refine cP (UX t.bt t.vl t.vb t.cs key 1099511627776 _ (hT.ext r) hkl) RX.ext λw11 h5=>?_;have z:=z.ext h5;have J:=J.ext h5;have r:=r.trans h5;refine EF (EY (dm (EF ?_)));refine EY (dx rfl rfl (EF (EY (dx rfl rfl (EF (EY (FG (cs:=[S [],S [],B false,.int .i64 0]) rfl E9 RX.ext (λb4 w12 e4 hw m4=>?_))))))));have g4:=r.ge e4;have n4_1:=z.ltb e4;have hz:=J.ltb e4;have z:=z.ext hw;have J:=J.ext hw;have r:=r.trans hw;refine EF (EY (FM m4 (λw13 hq xs13 m4=>?_)));dsimp only [Fe,Ag,Af,Ai]at m4;have z:=z.mo hq;have J:=J.mod hq (by intro k hk h;have h1:=hz k hk;have h2:k=b4:=h;omega);have r:=r.o1 hq;refine EF (EY (da (EF ?_)));refine Im (h6 _ _ (ws λ_ xb=>wr (dm (de xb ?_))));refine wc (λc3=>?_) λc3=>?_
   ·refine ws λ_ xa=>wr (dq (Fb (k:=4) E9 rfl rfl m4.row) (FM z (λw14 xh xs14 z=>?_)));dsimp only [Fe,Ag,Af,Ai]at z;have r:=r.o1 xh;refine da (de xa (EH ?_));refine IG (u:=?v24) rfl rfl rfl rfl E9 rfl z.row ?h24 ?k24
    case h24=>conv=>lhs;whnf
    obtain⟨c,O⟩:=Cz.1 c3;rw[RQ Z,Y,WT hk ht O,O];exact⟨rfl,r⟩
   refine EG (h7 _ _ (wr (pa rfl rfl (dm (EF (?_))))));have O:first t.cs key 1099511627776=none:=by simpa using c3
   exact⟨k+1,FSq,⟨r,z,J,by omega,by rw[Y,Tv hk ht O]⟩,by omega⟩
  refine H6 ?_ ?_
  ·refine FG (cs:=[S [],S [],B false,.int .i64 0]) rfl E9 RX.ext (λb5 w15 e5 hl m5=>?_);have g5:=r.ge e5;have n5_1:=z.ltb e5;have hh:=J.ltb e5;have z:=z.ext hl;have J:=J.ext hl;have r:=r.trans hl;refine EF (EY (cP (UX t.bt t.vl t.vb t.cs key 1099511627776 _ (hT.ext r) hkl) RX.ext λw16 hb=>?_));have z:=z.ext hb;have J:=J.ext hb;have m5:=m5.ext hb;have r:=r.trans hb;refine EF (EY (dm (EF ?_)));refine EY (dx rfl rfl (EF (EY (dx rfl rfl (EF (EY (FM m5 (λw17 hr xs17 m5=>?_))))))));dsimp only [Fe,Ag,Af,Ai]at m5;have z:=z.mo hr;have J:=J.mod hr (by intro k hk h;have h1:=hh k hk;have h2:k=b5:=h;omega);have r:=r.o1 hr;refine EF (EY (da (EF ?_)));refine Im (h6 _ _ (ws λ_ xj=>wr (dm (de xj ?_))));refine wc (λc4=>?_) λc4=>?_
   ·refine ws λ_ xe=>wr (dq (Fb (k:=4) E9 rfl rfl m5.row) (FM z (λw18 xi xs18 z=>?_)));dsimp only [Fe,Ag,Af,Ai]at z;have r:=r.o1 xi;refine da (de xe (EH ?_));refine IG (u:=?v32) rfl rfl rfl rfl E9 rfl z.row ?h32 ?k32
    case h32=>conv=>lhs;whnf
    obtain⟨c,O⟩:=Cz.1 c4;rw[RQ Z,Y,WT hk ht O,O];exact⟨rfl,r⟩
   refine EG (h7 _ _ (wr (pa rfl rfl (dm (EF (?_))))));have O:first t.cs key 1099511627776=none:=by simpa using c4
   exact⟨k+1,FSq,⟨r,z,J,by omega,by rw[Y,Tv hk ht O]⟩,by omega⟩
  exact J8
 refine Ff (Z6 _ _ (ws λ_ h9=>wr (db (zs:=[S [],S [],B false,.int .i64 0]) (pl:=[(0,1),(1,1),(2,1),(3,1)]) (pv:=[]) (cs:=[S [],S [],B false,.int .i64 0]) ?_)));refine FM z (λw19 xf xs19 z=>?_);dsimp only [Fe,Ag,Af,Ai]at z;have r:=r.o1 xf;refine da (de h9 (EH ?_));refine IG (u:=?v37) rfl rfl rfl rfl E9 rfl z.row ?h37 ?k37
 case h37=>conv=>lhs;whnf
 rw[RQ Z,Y,BH EA];exact⟨rfl,r⟩
def Jo (o:Option Cell):EC×Bool:=match o with
 | some c=>if c.del=true then([],false)else(c.val,true)
 | none=>([],false)
theorem Xxe {o:Option Cell}(h:o.isSome=false):Jo o=([],false):=by cases o with|none=>rfl|some c=>cases h
theorem X0t {o:Option Cell}(h:o.isSome=true)(h2:(o.getD Cell.zero).del=true):Jo o=([],false):=by
 cases o with
 | none=>cases h
 | some c=>exact if_pos h2
theorem X0u {o:Option Cell}(h:o.isSome=true)(h2:(o.getD Cell.zero).del=false):Jo o=((o.getD Cell.zero).val,true):=by
 cases o with
 | none=>cases h
 | some c=>exact if_neg (by rw[show c.del=false from h2];decide)
theorem X97 (bs bd bl:Nat)(n:Int)(vf:Value)(bo bm no:Nat)(dead:Bool)(F:Nat->Prop)(mem:List Cell)(fs:List Fi)(ts:List Tb)(key:EC)(w:World)(hs:EL w bs (He bd bl n vf bo bm dead) 90)(hM:F6 F w bm mem)(hml:mem.length<=900000)(hf:EM Fi.cs 5 w vf fs)(hfl:fs.length<=100000)(mo:Vc.Xbn Tryz.prog 104 Gi pO w bo no (Iq ts))(htb:∀t∈ts,TblE t.bt t.vl t.vb t.cs w)(hfs:∀f∈fs,(∃t,Hl ts (f.lev,f.id)=some t)/\ET f.lev/\ET f.id)(hkl:key.length<=1000000000) :
  Calls Tryz.prog 22 [ED bs 0,S key].toArray w (Pure w (.tuple #[S (Jo (Kj mem fs ts key)).1,B (Jo (Kj mem fs ts key)).2])):=by
 refine cw Tryz.func22 ?_;have r:=EB.refl w;refine ws λ_ Z1=>wr (da (da (de Z1 (ws λ_ Z2=>ws λ_ Z3=>wr (dm ?_)))));refine dp (Gj E9 rfl rfl) (de Z3 (wi (λZ=>?_) λZ=>?_))
 ·exact absurd Z EQ
 refine EG (Z2 _ _ (ws λ_ Z4=>wr (dm (dm ?_))));refine cP (X6y bs bd bl n vf bo bm no dead F mem fs ts key _ (hs.ext r) (hM.ext r) hml (hf.ext r) hfl (mo.ext r) (λt ht=>(htb t ht).ext r) hfs hkl) RX.all λw1 x1=>?_;have r:=r.trans x1;refine dm ?_;refine dx rfl rfl (dx rfl rfl (FG (cs:=[S [],S [],B false,.int .i64 0]) rfl E9 RX.all (λb1 w2 e1 x2 z=>?_)));have g1:=r.ge e1;have r:=r.trans x2;refine FM z (λw3 x3 xs3 z=>?_);dsimp only [Fe,Ag,Af,Ai]at z;have r:=r.o1 x3;refine da (de Z4 (ws λ_ Z5=>ws λ_ Y=>wr (dm ?_)));refine dn (dm ?_);refine I8 18 rfl (λJ=>?_) (λJ=>?_)
 ·refine dk (dk (EO (de Y ?_)));refine GD rfl (ws λ_ Z7=>wr (da (da (de Z7 (EH ?_)))));refine rt ?_;rw[Xxe (by simpa using J)];exact⟨rfl,r⟩
 refine df 2 rfl (dl rfl (z.at rfl) (EO (de Y ?_)));refine wc (λO=>?_) λO=>?_
 ·refine ws λ_ Z8=>wr (da (da (de Z8 (EH ?_))));refine rt ?_;rw[X0t (by simpa using J) O];exact⟨rfl,r⟩
 refine EG (Z5 _ _ (ws λ_ Z9=>wr (df 1 rfl (dl rfl (z.at rfl) (da (da (de Z9 (EH ?_))))))));refine rt ?_;rw[X0u (by simpa using J) O];exact⟨rfl,r⟩
@[reducible] def Tb.kv (t:Tb):(Int×Int)×Option Nat:=(t.h,some t.bt)
theorem Ny (ts:List Tb)(h:Int×Int):lk (ts.map Tb.kv) h=Iq ts h:=by
 unfold Iq Hl
 induction ts with
 | nil=>rfl
 | cons t r ih=>
  rw[Aq,Jb,List.find?_cons]
  by_cases e:t.h=h
  ·simp [e]
  ·simp only [e,decide_false,if_false];exact ih
structure StE (κ:Nat->Nat)(bs bd bl bo bm:Nat)(vf:Value)(L:Led)(D:Dsk)(V:Vs)(ts:List Tb)(mem:List Cell)(dead:Bool)(w:World):Prop where
 m:EL w bs (He bd bl V.next vf bo bm dead) 90
 ld:LD (λk=>κ k=1) bl bd L D w
 mp:F9 Tryz.prog 104 Gi pO w bo (ts.map Tb.kv)
 mr:F6 (λk=>κ k=3) w bm mem
 vs:EM Fi.cs 5 w vf V.fs
 tb:∀t∈ts,TblE t.bt t.vl t.vb t.cs w
 k0:κ bs=5
 k2:κ bo=2
 k4:V.fs≠[]->κ (base vf).1=4
 k6:∀t∈ts,∀k,IS t.bt t.vl t.vb k->κ k=6
 lt:∀k,κ k≠0->k<w.heap.size
def HE (κ:Nat->Nat)(i:Nat)(w w':World):Nat->Nat:=λk=>if w.heap.size<=k/\k<w'.heap.size then i else κ k
theorem Ld {κ:Nat->Nat}{i:Nat}{w w':World}{k:Nat}(h:k<w.heap.size):HE κ i w w' k=κ k:=by unfold HE;rw[if_neg EA]
theorem Xb {κ:Nat->Nat}{i:Nat}{w w':World}{k:Nat}(h:w.heap.size<=k)(h2:k<w'.heap.size):HE κ i w w' k=i:=by unfold HE;rw[if_pos ⟨h,h2⟩]
section
variable {κ:Nat->Nat}{bs bd bl bo bm:Nat}{vf:Value}{L:Led}{D:Dsk}{V:Vs}{ts:List Tb}{mem:List Cell}{dead:Bool}{w w':World}{S:Nat->Prop}
theorem StE.mod (h:StE κ bs bd bl bo bm vf L D V ts mem dead w)(m:Vc.Mod S w w')(hS:∀k,κ k≠0->¬ S k):StE κ bs bd bl bo bm vf L D V ts mem dead w':=
 ⟨h.m.mod m (hS _ (by rw[h.k0];decide)),h.ld.mod m (λk hk=>hS k (by rw[hk];decide)),h.mp.mod m (hS _ (by rw[h.k2];decide)),F6.mod h.mr m (λk hk=>hS k (by rw[hk];decide)),
  h.vs.mod m (λz=>hS _ (by rw[h.k4 z];decide)),λt r=>(h.tb t r).mod m (λk hk=>hS k (by rw[h.k6 t r k hk];decide)),h.k0,h.k2,h.k4,h.k6,λk hk=>A0 (h.lt k hk) m.size⟩
theorem StE.ext (h:StE κ bs bd bl bo bm vf L D V ts mem dead w)(x:EB w w'):StE κ bs bd bl bo bm vf L D V ts mem dead w':=h.mod x (λ_ _ h=>h)
theorem StE.updLt (h:StE κ bs bd bl bo bm vf L D V ts mem dead w)(hs:w.heap.size<=w'.heap.size){i:Nat} : ∀k,HE κ i w w' k≠0->k<w'.heap.size:=λk hk=>by
 unfold HE at hk;split at hk
 ·omega
 ·exact A0 (h.lt k hk) hs
theorem StE.ledger {L':Led}{D':Dsk}(h:StE κ bs bd bl bo bm vf L D V ts mem dead w)(m:Vc.Mod (λk=>κ k=1) w w')(r:LD (G2 (λk=>κ k=1) w w') bl bd L' D' w'):StE (HE κ 1 w w') bs bd bl bo bm vf L' D' V ts mem dead w':=by
 have hs:=m.size;have o:∀k,κ k≠0->HE κ 1 w w' k=κ k:=λk hk=>Ld (h.lt k hk);refine⟨h.m.mod m (by rw[h.k0];decide),r.wide (λk hk=>hk.elim (λe=>(o k (by rw[e];decide)).trans e) (λe=>Xb e.1 e.2)) (λk hk=>h.updLt hs k (by rw[hk];decide)),h.mp.mod m (by rw[h.k2];decide),
  (F6.mod h.mr m (λk hk e=>by rw[hk]at e;cases e)).to (λk hk=>(o k (by rw[hk];decide)).trans hk) (λk hk=>h.updLt hs k (by rw[hk];decide)),h.vs.mod m (λr=>by rw[h.k4 r];decide),λt z=>(h.tb t z).mod m (λk hk=>by rw[h.k6 t z k hk];decide),
  (o _ (by rw[h.k0];decide)).trans h.k0,(o _ (by rw[h.k2];decide)).trans h.k2,λr=>(o _ (by rw[h.k4 r];decide)).trans (h.k4 r),λt z k hk=>(o k (by rw[h.k6 t z k hk];decide)).trans (h.k6 t z k hk),h.updLt hs⟩
theorem StE.setMem {mem':List Cell}(h:StE κ bs bd bl bo bm vf L D V ts mem dead w)(m:Vc.Mod (λk=>κ k=3) w w')(r:F6 (NF (λk=>κ k=3) w w') w' bm mem'):StE (HE κ 3 w w') bs bd bl bo bm vf L D V ts mem' dead w':=by
 have hs:=m.size;have o:∀k,κ k≠0->HE κ 3 w w' k=κ k:=λk hk=>Ld (h.lt k hk);refine⟨h.m.mod m (by rw[h.k0];decide),(h.ld.mod m (λk hk e=>by rw[hk]at e;cases e)).wide (λk hk=>(o k (by rw[hk];decide)).trans hk) (λk hk=>h.updLt hs k (by rw[hk];decide)),h.mp.mod m (by rw[h.k2];decide),
  r.to (λk hk=>hk.elim (λe=>(o k (by rw[e];decide)).trans e) (λe=>Xb e.1 e.2)) (λk hk=>h.updLt hs k (by rw[hk];decide)),h.vs.mod m (λr=>by rw[h.k4 r];decide),λt z=>(h.tb t z).mod m (λk hk=>by rw[h.k6 t z k hk];decide),
  (o _ (by rw[h.k0];decide)).trans h.k0,(o _ (by rw[h.k2];decide)).trans h.k2,λr=>(o _ (by rw[h.k4 r];decide)).trans (h.k4 r),λt z k hk=>(o k (by rw[h.k6 t z k hk];decide)).trans (h.k6 t z k hk),h.updLt hs⟩
theorem StE.head {dead':Bool}(h:StE κ bs bd bl bo bm vf L D V ts mem dead w)(m:Vc.Mod (ES bs) w w')(hm:EL w' bs (He bd bl V.next vf bo bm dead') 90):StE κ bs bd bl bo bm vf L D V ts mem dead' w':=by
 have hs:=m.size;have o:∀k,κ k≠5->¬ ES bs k:=λk hk e=>hk (by have e2:k=bs:=e;rw[e2];exact h.k0);exact⟨hm,h.ld.mod m (λk hk=>o k (by rw[hk];decide)),h.mp.mod m (o _ (by rw[h.k2];decide)),F6.mod h.mr m (λk hk=>o k (by rw[hk];decide)),h.vs.mod m (λz=>o _ (by rw[h.k4 z];decide)),λt r=>(h.tb t r).mod m (λk hk=>o k (by rw[h.k6 t r k hk];decide)),h.k0,h.k2,h.k4,h.k6,λk hk=>A0 (h.lt k hk) hs⟩
end
section
variable {κ:Nat->Nat}{bs bd bl bo bm:Nat}{vf:Value}{L:Led}{D:Dsk}{V:Vs}{ts:List Tb}{mem:List Cell}{dead:Bool}{w w':World}{S:Nat->Prop}
theorem StE.relab {κ':Nat->Nat}(h:StE κ bs bd bl bo bm vf L D V ts mem dead w)(o:∀k,κ k≠0->κ' k=κ k)(r:∀k,κ' k≠0->k<w.heap.size):StE κ' bs bd bl bo bm vf L D V ts mem dead w:=
 ⟨h.m,h.ld.wide (λk hk=>(o k (by rw[hk];decide)).trans hk) (λk hk=>r k (by rw[hk];decide)),h.mp,h.mr.to (λk hk=>(o k (by rw[hk];decide)).trans hk) (λk hk=>r k (by rw[hk];decide)),h.vs,h.tb,(o _ (by rw[h.k0];decide)).trans h.k0,(o _ (by rw[h.k2];decide)).trans h.k2,
  λr=>(o _ (by rw[h.k4 r];decide)).trans (h.k4 r),λt z k hk=>(o k (by rw[h.k6 t z k hk];decide)).trans (h.k6 t z k hk),r⟩
def G4 (ts:List Tb)(t:Tb):List Tb:=if(Hl ts t.h).isSome then ts.map (λq=>if q.h=t.h then t else q)else ts++[t]
def J2 (ts:List Tb)(h:Int×Int):List Tb:=ts.filter λt=>decide (t.h≠h)
theorem X6z (ts:List Tb)(t:Tb):(G4 ts t).map Tb.kv=EX (ts.map Tb.kv) t.h (some t.bt):=by
 unfold G4 EX;rw[Ny];unfold Iq;rw[Option.isSome_map];split
 ·rw[Be,Be]
  apply List.map_congr_left
  intro q _;simp only [Function.comp];split<;>simp_all
 ·simp
theorem X60 (ts:List Tb)(h:Int×Int):(J2 ts h).map Tb.kv=FO (ts.map Tb.kv) h:=by
 unfold J2 FO;rw[List.filter_map];rfl
theorem X0v {ts:List Tb}{t q:Tb}(h:q∈G4 ts t):q=t\/q∈ts:=by
 unfold G4 at h;split at h
 ·obtain⟨z,r,e⟩:=List.mem_map.1 h;split at e
  ·exact .inl e.symm
  ·exact .inr (e▸r)
 ·rcases Ay.1 h with h|h
  ·exact .inr h
  ·exact .inl (Ah.1 h)
theorem StE.setMap {ts':List Tb}(h:StE κ bs bd bl bo bm vf L D V ts mem dead w)(m:Vc.Mod (ES bo) w w')(hm:F9 Tryz.prog 104 Gi pO w' bo (ts'.map Tb.kv))(ht:∀t∈ts',TblE t.bt t.vl t.vb t.cs w/\∀k,IS t.bt t.vl t.vb k->κ k=6):StE κ bs bd bl bo bm vf L D V ts' mem dead w':=by
 have o:∀k,κ k≠2->¬ ES bo k:=λk hk e=>hk (by have e2:k=bo:=e;rw[e2];exact h.k2);exact⟨h.m.mod m (o _ (by rw[h.k0];decide)),h.ld.mod m (λk hk=>o k (by rw[hk];decide)),hm,F6.mod h.mr m (λk hk=>o k (by rw[hk];decide)),h.vs.mod m (λr=>o _ (by rw[h.k4 r];decide)),λt h1=>(ht t h1).1.mod m (λk hk=>o k (by rw[(ht t h1).2 k hk];decide)),h.k0,h.k2,h.k4,λt h1=>(ht t h1).2,λk hk=>A0 (h.lt k hk) m.size⟩
def I9 (κ:Nat->Nat)(b i:Nat):Nat->Nat:=λk=>if k=b then i else κ k
theorem StE.setV {V':Vs}{vf':Value}(h:StE κ bs bd bl bo bm vf L D V ts mem dead w)(m:Vc.Mod (ES bs) w w')(hm:EL w' bs (He bd bl V'.next vf' bo bm dead) 90)(ha:EM Fi.cs 5 w vf' V'.fs)(hk:V'.fs≠[]->κ (base vf').1=0):StE (if V'.fs=[]then κ else I9 κ (base vf').1 4) bs bd bl bo bm vf' L D V' ts mem dead w':=by
 have o:∀k,κ k≠5->¬ ES bs k:=λk hk e=>hk (by have e2:k=bs:=e;rw[e2];exact h.k0);have h1:∀κ',(∀k,κ k≠0->κ' k=κ k)->(∀k,κ' k≠0->k<w.heap.size)->(V'.fs≠[]->κ' (base vf').1=4)->StE κ' bs bd bl bo bm vf' L D V' ts mem dead w':=λκ' e1 e2 J=>by
  have z:=h.relab e1 e2;have o:∀k,κ' k≠5->¬ ES bs k:=λk hk e=>hk (by have e2:k=bs:=e;rw[e2];exact z.k0);exact⟨hm,z.ld.mod m (λk hk=>o k (by rw[hk];decide)),z.mp.mod m (o _ (by rw[z.k2];decide)),F6.mod z.mr m (λk hk=>o k (by rw[hk];decide)),ha.mod m (λY=>o _ (by rw[J Y];decide)),λt O=>(z.tb t O).mod m (λk hk=>o k (by rw[z.k6 t O k hk];decide)),z.k0,z.k2,J,z.k6,λk hk=>A0 (z.lt k hk) m.size⟩
 split
 ·rename_i e;exact h1 κ (λ_ _=>rfl) h.lt (λhn=>absurd e hn)
 ·rename_i e;refine h1 _ (λk r=>?_) (λk r=>?_) (λ_=>by unfold I9;rw[if_pos rfl])
  ·unfold I9;rw[if_neg];intro e2;rw[e2,hk e]at r;exact r rfl
  ·unfold I9 at r;split at r
   ·rename_i e2;rw[e2];exact ha.base_lt EK e
   ·exact h.lt k r
end
theorem LD.disk {H:Nat->Prop}{bl bd:Nat}{L:Led}{D:Dsk}{w:World}(h:LD H bl bd L D w):∃F:Nat->Prop,FV F bd D w/\(∀k,F k->H k)/\∀(D':Dsk) (w':World),Vc.Mod F w w'->FV (G2 F w w') bd D' w'->LD (G2 H w w') bl bd L D' w':=by
 obtain⟨F,G,vd,ve,vs,h1,h2,h3,h4,z⟩:=h;refine⟨F,h1,λk hk=>h4 k (.inl hk),λD' w' m hd=>?_⟩;refine⟨G2 F w w',G,vd,ve,vs,hd,h2.mod m (λk hk J=>h3 k J hk),λk hk r=>hk.elim (λe=>h3 k e r) (λe=>by have:=h2.lt k r;omega),λk hk=>hk.elim (λe=>e.elim (λe=>.inl (h4 k (.inl e))) .inr) (λe=>.inl (h4 k (.inr e))),HV z m.size⟩
end Go.Proofs.YtiooodckiddpmaaGreatDoor
namespace Go.Sp
open Go.Vc
variable {α:Type}
structure Ord (lt:α->α->Bool):Prop where
 tr:∀x y z,lt y x=false->lt z y=false->lt z x=false
 az:∀x y,lt x y=true->lt y x=false
def Up (lt:α->α->Bool)(l:List α):Prop:=l.Pairwise λx y=>lt y x=false
theorem UB {X Y:List α}{i:Nat}{x:α}(h:X.length<=i):(X++Y)[i]?=Y[i-X.length]?:=BG h
theorem Qt {X Y:List α}{i:Nat}{x:α}(h:X.length<=i):(X++Y).set i x=X++Y.set (i-X.length) x:=List.set_append_right _ _ h
theorem XF (X M Y:List α)(x y:α):((X++x :: (M++y :: Y)).set X.length y).set (X.length+1+M.length) x=X++y :: (M++x :: Y):=by
 rw[Qt (Aa _),DF,Ej,Qt EA,show X.length+1+M.length-X.length=M.length+1 by omega,List.set_cons_succ,Qt (Aa _),DF,Ej]
theorem RP (X Y:List α)(x y:α):((X++x :: y :: Y).set X.length y).set (X.length+1) x=X++y :: x :: Y:=XF X [] Y x y
theorem Up.left {lt:α->α->Bool}{A B:List α}(h:Up lt (A++B)):Up lt A:=(Bs.1 h).1
theorem Up.right {lt:α->α->Bool}{A B:List α}(h:Up lt (A++B)):Up lt B:=(Bs.1 h).2.1
theorem Up.app {lt:α->α->Bool}{A B:List α}(ha:Up lt A)(hb:Up lt B)(h:∀x∈A,∀y∈B,lt y x=false):Up lt (A++B):=Bs.2 ⟨ha,hb,h⟩
theorem Up.at {lt:α->α->Bool}{A:List α}(h:Up lt A){i j:Nat}{x y:α}(hi:A[i]?=some x)(hj:A[j]?=some y)(hij:i<j):lt y x=false:=by
 obtain⟨h1,rfl⟩:=Ao.1 hi;obtain⟨h2,rfl⟩:=Ao.1 hj;exact BU.1 h i j h1 h2 hij
theorem Ord.refl {lt:α->α->Bool}(O:Ord lt)(x:α):lt x x=false:=by
 cases h:lt x x with
 | false=>rfl
 | true=>have:=O.az x x h;rw[h]at this;exact this
theorem Up.le {lt:α->α->Bool}(O:Ord lt){A:List α}(h:Up lt A){i j:Nat}{x y:α}(hi:A[i]?=some x)(hj:A[j]?=some y)(hij:i<=j):lt y x=false:=by
 rcases Bj i j with h1|h1
 ·exact h.at hi hj h1
 ·have:i=j:=by omega
  subst this;rw[hi]at hj;cases hj;exact O.refl _
theorem X0w {lt:α->α->Bool}(O:Ord lt){A B:List α}(hA:Up lt A)(hB:Up lt B){s t:Nat}(hs:s<=A.length)(ht:t<=B.length)
  (h1:s=0\/t=B.length\/∃x y,A[s-1]?=some x/\B[t]?=some y/\lt y x=false) (h2:s=A.length\/t=0\/∃x y,A[s]?=some x/\B[t-1]?=some y/\lt y x=true) :
  ∀x∈A.take s++B.take t,∀y∈A.drop s++B.drop t,lt y x=false:=by
 intro x J y z;rcases Ay.1 J with J|J
 ·obtain⟨i,hi⟩:=AJ J;rw[AV]at hi;split at hi
  ·rename_i Z;rcases Ay.1 z with z|z
   ·obtain⟨j,r⟩:=AJ z;rw[Bf]at r;exact hA.at hi r EA
   ·obtain⟨j,r⟩:=AJ z;rw[Bf]at r;have Y:=(Ao.1 r).1;rcases h1 with h|h|⟨a,b,ha,hb,hab⟩
    ·omega
    ·omega
    ·exact O.tr _ _ _ (hA.le O hi ha EA) (O.tr _ _ _ hab (hB.le O hb r EA))
  ·cases hi
 ·obtain⟨i,hi⟩:=AJ J;rw[AV]at hi;split at hi
  ·rename_i Z;rcases Ay.1 z with z|z
   ·obtain⟨j,r⟩:=AJ z;rw[Bf]at r;have Y:=(Ao.1 r).1;rcases h2 with h|h|⟨a,b,ha,hb,hab⟩
    ·omega
    ·omega
    ·exact O.tr _ _ _ (hB.le O hi hb EA) (O.tr _ _ _ (O.az _ _ hab) (hA.le O ha r EA))
   ·obtain⟨j,r⟩:=AJ z;rw[Bf]at r;exact hB.at hi r EA
  ·cases hi
theorem XM {lt:α->α->Bool}(O:Ord lt){B:List α}{x:α}(hB:Up lt B){t:Nat}(ht:t<=B.length)(h1:t=B.length\/∃y,B[t]?=some y/\lt y x=false)(h2:t=0\/∃y,B[t-1]?=some y/\lt x y=false):Up lt (B.take t++x :: B.drop t):=by
 have J:Up lt (B.take t++B.drop t):=by rw[AT];exact hB
 refine Up.app J.left (AO.2 ⟨λy Y=>?_,J.right⟩) λz hz y Y=>?_
 ·obtain⟨j,r⟩:=AJ Y;rw[Bf]at r;have hjl:=(Ao.1 r).1;rcases h1 with h|⟨b,hb,hbx⟩
  ·omega
  ·exact O.tr _ _ _ hbx (hB.le O hb r EA)
 ·obtain⟨i,hi⟩:=AJ hz;rw[AV]at hi;split at hi
  ·rename_i hlt;have Z:lt x z=false:=by
    rcases h2 with h|⟨b,hb,hbx⟩
    ·omega
    ·exact O.tr _ _ _ (hB.le O hi hb EA) hbx
   rcases Aj.1 Y with rfl|Y
   ·exact Z
   ·obtain⟨j,r⟩:=AJ Y;rw[Bf]at r;exact hB.at hi r EA
  ·cases hi
def GR (lt:α->α->Bool)(l:List α)(a b:Nat):Prop:=Up lt ((l.take b).drop a)
theorem X98 (l:List α){a b:Nat}(hab:a<=b):l.take a++(l.take b).drop a++l.drop b=l:=by
 have e:l.take a=(l.take b).take a:=by rw[CP,Bv hab]
 rw[e,AT,AT]
variable {α:Type}
def G0 (lt:α->α->Bool)(a b:Nat)(l l':List α):Prop:=∃P M M' Q:List α,l=P++(M++Q)/\l'=P++(M'++Q)/\P.length=a/\a+M.length=b/\M'.Perm M/\Up lt M'
theorem Kv (l:List α){a b:Nat}(hab:a<=b)(hb:b<=l.length):∃P M Q:List α,l=P++(M++Q)/\P.length=a/\a+M.length=b:=by
 refine⟨l.take a,(l.take b).drop a,l.drop b,?_,?_,?_⟩
 ·have:=X98 l hab;rw[AA]at this;exact this.symm
 ·rw[A4];omega
 ·rw[Bh,A4];omega
theorem Kq {P P' X X':List α}(h:P++X=P'++X')(hl:P.length=P'.length):P=P'/\X=X':=List.append_inj h hl
theorem G0.len {lt:α->α->Bool}{a b:Nat}{l l':List α}(h:G0 lt a b l l'):l'.length=l.length/\a<=b/\b<=l.length:=by
 obtain⟨P,M,M',Q,rfl,rfl,h1,h2,h3,_⟩:=h;have:=h3.length_eq;simp only [Ab];omega
theorem G0.perm {lt:α->α->Bool}{a b:Nat}{l l':List α}(h:G0 lt a b l l'):l'.Perm l:=by
 obtain⟨P,M,M',Q,rfl,rfl,h1,h2,h3,_⟩:=h;exact DG _ (h3.append_right _)
theorem G0.one {lt:α->α->Bool}{a b:Nat}(l:List α)(hab:a<=b)(hb:b<=l.length)(h1:b<=a+1):G0 lt a b l l:=by
 obtain⟨P,M,Q,e,h2,h3⟩:=Kv l hab hb;refine⟨P,M,M,Q,e,e,h2,h3,.refl _,?_⟩;rcases M with _|⟨x,_|⟨y,M⟩⟩
 ·exact Bp
 ·exact List.pairwise_singleton _ _
 ·simp at h3;omega
def IY (lt:α->α->Bool)(a i j:Nat)(l cur:List α):Prop:=∃(P M A B Q:List α) (x:α),l=P++(M++(x :: Q))/\cur=P++(A++(x :: (B++Q)))/\P.length=a/\a+M.length=i/\a+A.length=j/\(A++B).Perm M/\Up lt (A++B)/\∀y∈B,lt x y=true
theorem IY.len {lt:α->α->Bool}{a i j:Nat}{l cur:List α}(h:IY lt a i j l cur):cur.length=l.length/\a<=j/\j<=i/\i<l.length:=by
 obtain⟨P,M,A,B,Q,x,rfl,rfl,h1,h2,h3,h4,_,_⟩:=h;have:=h4.length_eq;simp only [Ab,AB]at *;omega
theorem TF {lt:α->α->Bool}{a i:Nat}{l cur:List α}(h:G0 lt a i l cur)(hi:i<l.length):IY lt a i i l cur:=by
 obtain⟨P,M,M',Q,rfl,rfl,h1,h2,h3,h4⟩:=h;rcases Q with _|⟨x,Q⟩
 ·simp only [Ab,Bc]at hi;omega
 ·exact⟨P,M,M',[],Q,x,rfl,rfl,h1,h2,by rw[h3.length_eq];exact h2,by rw[AP];exact h3,by rw[AP];exact h4,by intro y r;cases r⟩
theorem Km {P A R:List α}{x:α}{j:Nat}(h:P.length+A.length=j):(P++(A++(x :: R)))[j]?=some x:=by
 rw[UB (x:=x) EA,UB (x:=x) EA,show j-P.length-A.length=0 by omega];rfl
theorem TP {lt:α->α->Bool}{a i j:Nat}{l cur:List α}{x z:α}(h:IY lt a i j l cur)(hj:a<j)(hx:cur[j]?=some x)(hz:cur[j-1]?=some z)(hlt:lt x z=true):IY lt a i (j-1) l ((cur.set j z).set (j-1) x):=by
 obtain⟨P,M,A,B,Q,r,e1,e2,h1,h2,h3,h4,Z,Y⟩:=h;rcases Dl A with rfl|⟨A',z',rfl⟩
 ·simp at h3;omega
 ·simp only [DH,Ab,AB,Bc]at *;have J:r=x:=by
   rw[e2,Km (by simp;omega)]at hx;exact A3.inj hx
  have ez:z'=z:=by
   rw[e2,AA,AS,AE,Km EA]at hz;exact A3.inj hz
  subst J;subst ez;refine⟨P,M,A',z' :: B,Q,r,e1,?_,h1,h2,by omega,by simpa using h4,by simpa using Z,λy hy=>(Aj.1 hy).elim (λe=>e▸hlt) (Y y)⟩;have:=RP (P++A') (B++Q) z' r;rw[e2];rw[Ek _ _ EA];have O:j=(P++A').length+1:=by simp;omega
  rw[O,BR];simpa using this
theorem Pk {lt:α->α->Bool}(O:Ord lt){a i j:Nat}{l cur:List α}(h:IY lt a i j l cur)(hs:j=a\/∃x z,cur[j]?=some x/\cur[j-1]?=some z/\lt x z=false):G0 lt a (i+1) l cur:=by
 obtain⟨P,M,A,B,Q,x,e1,e2,h1,h2,h3,h4,J,h6⟩:=h;refine⟨P,M++[x],A++x :: B,Q,by rw[e1];simp,by rw[e2];simp,h1,by simp;omega,?_,?_⟩
 ·exact DK.trans ((List.Perm.cons x h4).trans (El x M).symm)
 ·have Y:∀y∈B,lt y x=false:=λy r=>O.az _ _ (h6 y r);refine Up.app J.left (AO.2 ⟨Y,J.right⟩) λy r w Z=>?_;rcases Aj.1 Z with rfl|Z
  ·rcases hs with rfl|⟨x',z,hx,hz,hlt⟩
   ·have:A=[]:=A5 EA;subst this;cases r
   ·rcases Dl A with rfl|⟨A',z',rfl⟩
    ·cases r
    ·simp only [DH,Ab,AB,Bc]at *;have ex:w=x':=by rw[e2,Km (by simp;omega)]at hx;exact A3.inj hx
     have ez:z'=z:=by rw[e2,AA,AS,AE,Km EA]at hz;exact A3.inj hz
     subst ex;subst ez;rcases Ay.1 r with r|r
     ·exact O.tr _ _ _ ((Bs.1 J.left).2.2 y r z' EQ) hlt
     ·rw[Ah.1 r];exact hlt
  ·exact(Bs.1 J).2.2 y r w Z
def L9 (a b n:Nat)(l l':List α):Prop:=∃P U M V Q:List α,l=P++(U++(M++(V++Q)))/\l'=P++(V++(M++(U++Q)))/\P.length=a/\U.length=n/\V.length=n/\a+n+M.length=b
def Ma (a b n i:Nat)(l cur:List α):Prop:=∃P U1 U2 M V1 V2 Q:List α,l=P++((U1++U2)++(M++((V1++V2)++Q)))/\cur=P++(V1++(U2++(M++(U1++(V2++Q)))))/\P.length=a/\U1.length=i/\V1.length=i/\i+U2.length=n/\i+V2.length=n/\a+n+M.length=b
theorem Ma.len {a b n i:Nat}{l cur:List α}(h:Ma a b n i l cur):cur.length=l.length/\b+n<=l.length/\a+n<=b/\i<=n:=by
 obtain⟨P,U1,U2,M,V1,V2,Q,rfl,rfl,h1,h2,h3,h4,h5,h6⟩:=h;simp only [Ab];omega
theorem Tf {a b n:Nat}{l:List α}(h1:a+n<=b)(h2:b+n<=l.length):Ma a b n 0 l l:=by
 obtain⟨P,X,R,e,J,hX⟩:=Kv l (a:=a) (b:=b) EA EA;obtain⟨V,_,Q,e2,hV,_⟩:=Kv R (a:=n) (b:=n) (Aa _) (by have:=congrArg A7 e;simp only [Ab]at this;omega);rename_i Z O;have r:Z=[]:=A5 EA;subst r;obtain⟨U,_,M,z,hU,_⟩:=Kv X (a:=n) (b:=n) (Aa _) EA;rename_i Z O;have r:Z=[]:=A5 EA;subst r;have hm:=congrArg A7 z;simp only [Ab,Bc]at hm;refine⟨P,[],U,M,[],V,Q,?_,?_,J,rfl,rfl,by omega,by omega,by omega⟩<;>rw[e,e2,z]<;>simp
theorem Xh {a b n i:Nat}{l cur:List α}{x y:α}(h:Ma a b n i l cur)(hi:i<n)(hx:cur[a+i]?=some x)(hy:cur[b+i]?=some y):Ma a b n (i+1) l ((cur.set (a+i) y).set (b+i) x):=by
 obtain⟨P,U1,U2,M,V1,V2,Q,e1,e2,h1,h2,h3,h4,r,J⟩:=h;rcases U2 with _|⟨x',U2⟩
 ·simp at h4;omega
 rcases V2 with _|⟨y',V2⟩
 ·simp at r;omega
 simp only [AB]at h4 r;have z:x'=x:=by rw[e2,AS,Km EA]at hx;exact A3.inj hx
 have O:y'=y:=by
  have:cur=(P++(V1++(x' :: U2)))++((M++U1)++(y' :: (V2++Q))):=by rw[e2];simp
  rw[this,Km (by simp;omega)]at hy;exact A3.inj hy
 subst z;subst O;refine⟨P,U1++[x'],U2,M,V1++[y'],V2,Q,by rw[e1];simp,?_,h1,by simp;omega,by simp;omega,by omega,by omega,J⟩;have:=XF (P++V1) (U2++(M++U1)) (V2++Q) x' y';rw[e2,show a+i=(P++V1).length by simp;omega,show b+i=(P++V1).length+1+(U2++(M++U1)).length by simp;omega];simpa using this
theorem Vl {a b n:Nat}{l cur:List α}(h:Ma a b n n l cur):L9 a b n l cur:=by
 obtain⟨P,U1,U2,M,V1,V2,Q,e1,e2,h1,h2,h3,h4,h5,z⟩:=h;have J:U2=[]:=A5 EA;have r:V2=[]:=A5 EA;subst J;subst r;exact⟨P,U1,M,V1,Q,by rw[e1];simp,by rw[e2];simp,h1,h2,h3,z⟩
theorem L9.at {a b n:Nat}{l l' P U M V Q:List α}(h:L9 a b n l l')(e:l=P++(U++(M++(V++Q))))(h1:P.length=a)(h2:U.length=n)(h3:V.length=n)(h4:a+n+M.length=b):l'=P++(V++(M++(U++Q))):=by
 obtain⟨P',U',M',V',Q',r,rfl,g1,g2,g3,g4⟩:=h;rw[e]at r;obtain⟨a1,b1⟩:=Kq r EA;obtain⟨O,J⟩:=Kq b1 EA;obtain⟨Y,Z⟩:=Kq J EA;obtain⟨z,b4⟩:=Kq Z EA;rw[a1,O,Y,z,b4]
def Ix (m i j:Nat)(T cur:List α):Prop:=∃P X Y Q:List α,cur=P++(X++(Y++Q))/\X.length=i/\Y.length=j/\P.length+i=m/\T=P++(Y++(X++Q))
theorem Ix.len {m i j:Nat}{T cur:List α}(h:Ix m i j T cur):cur.length=T.length/\i<=m/\m+j<=T.length:=by
 obtain⟨P,X,Y,Q,rfl,h1,h2,h3,rfl⟩:=h;simp only [Ab];omega
theorem J1 (l:List α){a:Nat}(h:a<=l.length):∃P Q:List α,l=P++Q/\P.length=a:=⟨l.take a,l.drop a,(AT _ _).symm,by rw[A4];omega⟩
theorem Wy {m i j:Nat}{T cur cur':List α}(h:Ix m i j T cur)(hij:j<i)(hs:L9 (m-i) m j cur cur'):Ix m (i-j) j T cur':=by
 obtain⟨P,X,Y,Q,e1,h1,h2,h3,e2⟩:=h;obtain⟨z,J,rfl,r⟩:=J1 X (a:=j) EA;rw[Ab]at h1;have:=hs.at (P:=P) (U:=z) (M:=J) (V:=Y) (Q:=Q) (by rw[e1];simp) EA r h2 EA;exact⟨P++Y,J,z,Q,by rw[this];simp,by omega,r,by simp;omega,by rw[e2];simp⟩
theorem Tz {m i j:Nat}{T cur cur':List α}(h:Ix m i j T cur)(hij:i<j)(hs:L9 (m-i) (m+j-i) i cur cur'):Ix m i (j-i) T cur':=by
 obtain⟨P,X,Y,Q,e1,h1,h2,h3,e2⟩:=h;obtain⟨z,r,rfl,hY⟩:=J1 Y (a:=j-i) EA;rw[Ab]at h2;have:=hs.at (P:=P) (U:=X) (M:=z) (V:=r) (Q:=Q) (by rw[e1];simp) EA h1 EA EA;exact⟨P,r,z,X++Q,by rw[this],by omega,by omega,h3,by rw[e2];simp⟩
theorem XE {m i:Nat}{T cur cur':List α}(h:Ix m i i T cur)(hs:L9 (m-i) m i cur cur'):cur'=T:=by
 obtain⟨P,X,Y,Q,e1,h1,h2,h3,e2⟩:=h;have:=hs.at (P:=P) (U:=X) (M:=[]) (V:=Y) (Q:=Q) (by rw[e1];simp) EA h1 h2 (by simp;omega);rw[this,e2];simp
def Rot (a m b:Nat)(l l':List α):Prop:=∃P U V Q:List α,l=P++(U++(V++Q))/\l'=P++(V++(U++Q))/\P.length=a/\a+U.length=m/\m+V.length=b
theorem N3 (l:List α){a m b:Nat}(ham:a<=m)(hmb:m<=b)(hb:b<=l.length):∃P U V Q:List α,l=P++(U++(V++Q))/\P.length=a/\a+U.length=m/\m+V.length=b:=by
 obtain⟨P,M,Q,e,h1,h2⟩:=Kv l (Ae ham hmb) hb;obtain⟨U,V,e2,h3⟩:=J1 M (a:=m-a) EA;have:=congrArg A7 e2;rw[Ab]at this;exact⟨P,U,V,Q,by rw[e,e2];simp,h1,by omega,by omega⟩
def Iv (l:List α)(a m b:Nat):List α:=l.take a++((l.take b).drop m++((l.take m).drop a++l.drop b))
theorem SK {P U V Q:List α}{a m b:Nat}(h1:P.length=a)(h2:a+U.length=m)(h3:m+V.length=b):Iv (P++(U++(V++Q))) a m b=P++(V++(U++Q)):=by
 subst h1;subst h2;subst h3;unfold Iv;have e1:(P++(U++(V++Q))).take P.length=P:=Ci rfl;have e2:(P++(U++(V++Q))).take (P.length+U.length)=P++U:=by rw[<-AA];exact Ci EQ
 have O:(P++(U++(V++Q))).take (P.length+U.length+V.length)=P++(U++V):=by
  rw[show P++(U++(V++Q))=(P++(U++V))++Q by simp];exact Ci (by simp;omega)
 have z:(P++(U++(V++Q))).drop (P.length+U.length+V.length)=Q:=by
  rw[show P++(U++(V++Q))=(P++(U++V))++Q by simp];exact Cj (by simp;omega)
 have r:(P++U).drop P.length=U:=Cj rfl;have J:(P++(U++V)).drop (P.length+U.length)=V:=by rw[<-AA];exact Cj EQ
 rw[e1,e2,O,z,r,J]
theorem PF {l:List α}{a m b:Nat}(ham:a<=m)(hmb:m<=b)(hb:b<=l.length):Ix m (m-a) (b-m) (Iv l a m b) l:=by
 obtain⟨P,U,V,Q,e,h1,h2,h3⟩:=N3 l ham hmb hb;exact⟨P,U,V,Q,e,by omega,by omega,by omega,by rw[e];exact SK h1 h2 h3⟩
def SM (lt:α->α->Bool)(a m b:Nat)(l:List α):Prop:=∃P A B Q:List α,l=P++(A++(B++Q))/\P.length=a/\a+A.length=m/\m+B.length=b/\Up lt A/\Up lt B
theorem Qv {lt:α->α->Bool}{P M Q:List α}{a b:Nat}(h1:P.length=a)(h2:a+M.length=b):GR lt (P++(M++Q)) a b↔Up lt M:=by
 subst h1;subst h2;unfold GR;have e1:(P++(M++Q)).take (P.length+M.length)=P++M:=by rw[<-AA];exact Ci EQ
 rw[e1,Cj rfl]
theorem T1 {lt:α->α->Bool}{a m b:Nat}{l:List α}(ham:a<=m)(hmb:m<=b)(hb:b<=l.length)(h1:GR lt l a m)(h2:GR lt l m b):SM lt a m b l:=by
 obtain⟨P,A,B,Q,rfl,e1,e2,r⟩:=N3 l ham hmb hb;refine⟨P,A,B,Q,rfl,e1,e2,r,(Qv e1 e2).1 h1,?_⟩;rw[<-AA]at h2;exact(Qv (by simp;omega) r).1 h2
theorem G0.up {lt:α->α->Bool}{a b:Nat}{l l':List α}(h:G0 lt a b l l'):GR lt l' a b:=by
 obtain⟨P,M,M',Q,rfl,rfl,h1,h2,h3,h4⟩:=h;exact(Qv h1 (by rw[h3.length_eq];exact h2)).2 h4
theorem G0.keep {lt:α->α->Bool}{a b c d:Nat}{l l':List α}(h:G0 lt a b l l')(hcd:d<=a\/b<=c)(hu:GR lt l c d):GR lt l' c d:=by
 obtain⟨P,M,M',Q,rfl,rfl,h1,h2,h3,h4⟩:=h;have r:=h3.length_eq;unfold GR at *;rcases hcd with h|h
 ·rw[List.take_append_of_le_length EA]at hu ⊢;exact hu
 ·have e:∀N:List α,N.length=M.length->((P++(N++Q)).take d).drop c=(Q.take (d-b)).drop (c-b):=by
   intro N hN;rw[<-AA,En,List.drop_append];have:((P++N).take d).drop c=[]:=Cg (by rw[A4,Ab];omega);rw[this,AE,A4,Ab];rcases Bj d (P.length+N.length)with h9|h9
   ·rw[show d-(P.length+N.length)=0 by omega,show d-b=0 by omega];simp
   ·rw[show c-min d (P.length+N.length)=c-b by omega,show d-(P.length+N.length)=d-b by omega]
  rw[e M rfl]at hu;rw[e M' r];exact hu
def LM (a k:Nat)(l cur:List α):Prop:=∃(P B R:List α) (x:α),l=P++(x :: (B++R))/\cur=P++(B++(x :: R))/\P.length=a/\a+B.length=k
theorem LM.len {a k:Nat}{l cur:List α}(h:LM a k l cur):cur.length=l.length/\a<=k/\k<l.length:=by
 obtain⟨P,B,R,x,rfl,rfl,h1,h2⟩:=h;simp only [Ab,AB];omega
theorem VD {a:Nat}{l:List α}(h:a<l.length):LM a a l l:=by
 obtain⟨P,Q,rfl,r⟩:=J1 l (a:=a) EA;rcases Q with _|⟨x,Q⟩
 ·simp at h;omega
 ·exact⟨P,[],Q,x,rfl,rfl,r,rfl⟩
theorem Uz {a k:Nat}{l cur:List α}{x y:α}(h:LM a k l cur)(hx:cur[k]?=some x)(hy:cur[k+1]?=some y):LM a (k+1) l ((cur.set k y).set (k+1) x):=by
 obtain⟨P,B,R,r,e1,e2,h1,h2⟩:=h;have J:r=x:=by rw[e2,Km EA]at hx;exact A3.inj hx
 subst J;rcases R with _|⟨y',R⟩
 ·exfalso;rw[e2,Bl (by simp;omega)]at hy;cases hy
 ·have z:y'=y:=by
   have:cur=(P++B)++([r]++(y' :: R)):=by rw[e2];simp
   rw[this,Km (by simp;omega)]at hy;exact A3.inj hy
  subst z;refine⟨P,B++[y'],R,r,by rw[e1];simp,?_,h1,by simp;omega⟩;have:=RP (P++B) R r y';rw[e2,show k=(P++B).length by simp;omega];simpa using this
def LX (m k:Nat)(l cur:List α):Prop:=∃(P A R:List α) (x:α),l=P++(A++(x :: R))/\cur=P++(x :: (A++R))/\P.length=k/\k+A.length=m
theorem LX.len {m k:Nat}{l cur:List α}(h:LX m k l cur):cur.length=l.length/\k<=m/\m<l.length:=by
 obtain⟨P,B,R,x,rfl,rfl,h1,h2⟩:=h;simp only [Ab,AB];omega
theorem Te {m:Nat}{l:List α}(h:m<l.length):LX m m l l:=by
 obtain⟨P,Q,rfl,r⟩:=J1 l (a:=m) EA;rcases Q with _|⟨x,Q⟩
 ·simp at h;omega
 ·exact⟨P,[],Q,x,rfl,rfl,r,rfl⟩
theorem Ui {m k:Nat}{l cur:List α}{x y:α}(h:LX m k l cur)(hk:0<k)(hx:cur[k]?=some x)(hy:cur[k-1]?=some y):LX m (k-1) l ((cur.set k y).set (k-1) x):=by
 obtain⟨P,A,R,r,e1,e2,h1,h2⟩:=h;have J:r=x:=by rw[e2,show P++(r :: (A++R))=P++([]++(r :: (A++R))) from rfl,Km (by simpa using h1)]at hx;exact A3.inj hx
 subst J;rcases Dl P with rfl|⟨P',y',rfl⟩
 ·simp at h1;omega
 ·simp only [DH,Ab,AB,Bc]at *;have z:y'=y:=by
   rw[e2,show P'++[y']++(r :: (A++R))=P'++([]++(y' :: (r :: (A++R)))) by simp,Km (by simp;omega)]at hy;exact A3.inj hy
  subst z;refine⟨P',y' :: A,R,r,by rw[e1];simp,?_,by omega,by simp;omega⟩;have:=RP P' (A++R) y' r;rw[e2,Ek _ _ EA,show k=P'.length+1 by omega,BR];simp;done
theorem VK {lt:α->α->Bool}(O:Ord lt){a m b i:Nat}{l cur:List α}(h:SM lt a m b l)(hm:m=a+1)(hi:m<=i)(hib:i<=b)(hc:LM a (i-1) l cur)
  (h1:i=b\/∃x y,l[a]?=some x/\l[i]?=some y/\lt y x=false) (h2:i=m\/∃x y,l[a]?=some x/\l[i-1]?=some y/\lt y x=true):G0 lt a b l cur:=by
 obtain⟨P,A,B,Q,rfl,g1,g2,g3,g4,Z⟩:=h;rcases A with _|⟨x,_|⟨x2,A⟩⟩
 ·simp at g2;omega
 ·obtain⟨P',B',R,x',e1,e2,f1,f2⟩:=hc;obtain⟨r1,r2⟩:=Kq e1 EA;simp only [AS,AE,BV.injEq]at r2;obtain⟨rfl,r2⟩:=r2;subst r1;have ht:i-m<=B.length:=by omega
  have Y:B'=B.take (i-m)/\R=B.drop (i-m)++Q:=by
   have r3:B.take (i-m)++(B.drop (i-m)++Q)=B'++R:=by rw[<-AA,AT];exact r2
   have z:=Kq r3 (by rw[A4];omega);exact⟨z.1.symm,z.2.symm⟩
  have r:(P++([x]++(B++Q)))[a]?=some x:=by
   rw[show P++([x]++(B++Q))=P++([]++(x :: (B++Q))) from rfl];exact Km (by simpa using g1)
  have J:∀k,k<B.length->(P++([x]++(B++Q)))[m+k]?=B[k]?:=by
   intro k hk;rw[<-AA,BG (by simp;omega),show m+k-(P++[x]).length=k by simp;omega,Bw hk]
  refine⟨P,[x]++B,B.take (i-m)++x :: B.drop (i-m),Q,by simp,by rw[e2,Y.1,Y.2];simp,g1,by simp;omega,?_,?_⟩
  ·refine DK.trans ?_;rw[AT];exact .refl _
  ·refine XM O Z ht ?_ ?_
   ·rcases h1 with h|⟨x1,y,q1,q2,q3⟩
    ·left;omega
    ·rcases Bj (i-m) B.length with h9|h9
     ·right;rw[r]at q1;cases q1
      have:=J (i-m) h9;rw[show m+(i-m)=i by omega,q2]at this;exact⟨y,this.symm,q3⟩
     ·left;omega
   ·rcases h2 with h|⟨x1,y,q1,q2,q3⟩
    ·left;omega
    ·right;rw[r]at q1;cases q1
     rcases Cv hi with h9|h9
     ·exfalso;rw[show i-1=a by omega,r]at q2;cases q2
      rw[O.refl]at q3;cases q3
     ·have:=J (i-m-1) EA;rw[show m+(i-m-1)=i-1 by omega,q2]at this;exact⟨y,this.symm,O.az _ _ q3⟩
 ·simp at g2;omega
theorem TM {lt:α->α->Bool}(O:Ord lt){a m b i:Nat}{l cur:List α}(h:SM lt a m b l)(hm:b=m+1)(hi:a<=i)(hib:i<=m)(hc:LX m i l cur)
  (h1:i=m\/∃x y,l[m]?=some x/\l[i]?=some y/\lt x y=true) (h2:i=a\/∃x y,l[m]?=some x/\l[i-1]?=some y/\lt x y=false):G0 lt a b l cur:=by
 obtain⟨P,A,B,Q,rfl,g1,g2,z,g4,g5⟩:=h;rcases B with _|⟨x,_|⟨x2,B⟩⟩
 ·simp at z;omega
 ·obtain⟨Z,A',R,Y,e1,e2,f1,f2⟩:=hc;have ht:i-a<=A.length:=by omega
  have e3:(P++A.take (i-a))++(A.drop (i-a)++(x :: Q))=Z++(A'++(Y :: R)):=by
   rw[<-e1,AA,<-AA (A.take _),AT];rfl
  obtain⟨r1,r2⟩:=Kq e3 (by simp;omega);obtain⟨r3,J⟩:=Kq r2 (by rw[Bh];omega);simp only [BV.injEq]at J;obtain⟨rfl,rfl⟩:=J;have r:(P++(A++([x]++Q)))[m]?=some x:=Km EA;have hA:∀k,k<A.length->(P++(A++([x]++Q)))[a+k]?=A[k]?:=by
   intro k hk;rw[BG EA,show a+k-P.length=k by omega,Bw hk]
  refine⟨P,A++[x],A.take (i-a)++x :: A.drop (i-a),Q,by simp,by rw[e2,<-r1,<-r3];simp,g1,by simp;omega,?_,?_⟩
  ·refine DK.trans ?_;rw[AT];exact(El x A).symm
  ·refine XM O g4 ht ?_ ?_
   ·rcases h1 with h|⟨x1,y,q1,q2,q3⟩
    ·left;omega
    ·right;rw[r]at q1;cases q1
     rcases Bj (i-a) A.length with h9|h9
     ·have:=hA (i-a) h9;rw[show a+(i-a)=i by omega,q2]at this;exact⟨y,this.symm,O.az _ _ q3⟩
     ·exfalso;rw[show i=m by omega,r]at q2;cases q2
      rw[O.refl]at q3;cases q3
   ·rcases Cv hi with h9|h9
    ·left;omega
    rcases h2 with h|⟨x1,y,q1,q2,q3⟩
    ·left;omega
    ·right;rw[r]at q1;cases q1
     have:=hA (i-a-1) EA;rw[show a+(i-a-1)=i-1 by omega,q2]at this;exact⟨y,this.symm,q3⟩
 ·simp at z;omega
def Ky (lt:α->α->Bool)(a m b start e:Nat)(l l2:List α):Prop:=∃P A1 A2 B1 B2 Q:List α,l=P++((A1++A2)++((B1++B2)++Q))/\P.length=a/\a+A1.length=start/\start+A2.length=m/\m+B1.length=e/\e+B2.length=b/\Up lt (A1++A2)/\Up lt (B1++B2)/\l2=P++((A1++B1)++((A2++B2)++Q))/\∀x∈A1++B1,∀y∈A2++B2,lt y x=false
theorem Vz {lt:α->α->Bool}(O:Ord lt){a m b s e:Nat}{l l2:List α}(h:SM lt a m b l)(hs1:a<=s)(hs2:s<=m)(he1:m<=e)(he2:e<=b)
  (h1:s=a\/e=b\/∃x y,l[s-1]?=some x/\l[e]?=some y/\lt y x=false) (h2:s=m\/e=m\/∃x y,l[s]?=some x/\l[e-1]?=some y/\lt y x=true)
  (h3:(s<m/\m<e->l2=Iv l s m e)/\(¬ (s<m/\m<e)->l2=l)):Ky lt a m b s e l l2:=by
 obtain⟨P,A,B,Q,rfl,g1,g2,g3,Y,J⟩:=h;obtain⟨A1,A2,rfl,k1⟩:=J1 A (a:=s-a) EA;obtain⟨B1,B2,rfl,k2⟩:=J1 B (a:=e-m) EA;have hAl:(A1++A2).length=A1.length+A2.length:=Ab;have hBl:(B1++B2).length=B1.length+B2.length:=Ab;have hA:∀k,k<(A1++A2).length->(P++((A1++A2)++((B1++B2)++Q)))[a+k]?=(A1++A2)[k]?:=by
  intro k hk;rw[BG EA,show a+k-P.length=k by omega,Bw hk]
 have z:∀k,k<(B1++B2).length->(P++((A1++A2)++((B1++B2)++Q)))[m+k]?=(B1++B2)[k]?:=by
  intro k hk;rw[BG EA,BG EA,show m+k-P.length-(A1++A2).length=k by omega,Bw hk]
 have r:=X0w O Y J (s:=s-a) (t:=e-m) EA EA (by
  rcases h1 with h|h|⟨x,y,q1,q2,q3⟩
  ·left;omega
  ·right;left;omega
  ·rcases Cv hs1 with h9|h9
   ·left;omega
   rcases Cv he2 with h8|h8
   ·right;left;omega
   have r1:=hA (s-a-1) EA;have r2:=z (e-m) EA;rw[show a+(s-a-1)=s-1 by omega,q1]at r1;rw[show m+(e-m)=e by omega,q2]at r2;exact .inr (.inr ⟨x,y,r1.symm,r2.symm,q3⟩)) (by
  rcases h2 with h|h|⟨x,y,q1,q2,q3⟩
  ·left;omega
  ·right;left;omega
  ·rcases Cv hs2 with h9|h9
   ·left;omega
   rcases Cv he1 with h8|h8
   ·right;left;omega
   have r1:=hA (s-a) EA;have r2:=z (e-m-1) EA;rw[show a+(s-a)=s by omega,q1]at r1;rw[show m+(e-m-1)=e-1 by omega,q2]at r2;exact .inr (.inr ⟨x,y,r1.symm,r2.symm,q3⟩))
 rw[Ci k1,Ci k2,Cj k1,Cj k2]at r;refine⟨P,A1,A2,B1,B2,Q,rfl,g1,by omega,by omega,by omega,by omega,Y,J,?_,r⟩
 by_cases hc:s<m/\m<e
 ·rw[h3.1 hc];rw[show P++((A1++A2)++((B1++B2)++Q))=(P++A1)++(A2++(B1++(B2++Q))) by simp,SK (by simp;omega) EA EA];simp
 ·rw[h3.2 hc];rcases Bj s m with h9|h9
  ·have:B1=[]:=A5 EA;subst this;simp
  ·have:A2=[]:=A5 EA;subst this;simp
theorem TL {lt:α->α->Bool}{a m b s e mid:Nat}{l l2:List α}(h:Ky lt a m b s e l l2)(hm:s+e=mid+m):SM lt a s mid l2:=by
 obtain⟨P,A1,A2,B1,B2,Q,rfl,h1,h2,h3,h4,h5,z,r,rfl,h8⟩:=h;exact⟨P,A1,B1,(A2++B2)++Q,by simp,h1,h2,by omega,z.left,r.left⟩
theorem OK {lt:α->α->Bool}{a m b s e mid:Nat}{l l2:List α}(h:Ky lt a m b s e l l2)(hm:s+e=mid+m)(hn:¬ (a<s/\s<mid)):G0 lt a mid l2 l2:=by
 obtain⟨P,A1,A2,B1,B2,Q,rfl,h1,h2,h3,h4,h5,z,r,rfl,h8⟩:=h;refine⟨P,A1++B1,A1++B1,(A2++B2)++Q,by simp,by simp,h1,by simp;omega,.refl _,?_⟩;rcases Bj a s with h9|h9
 ·have:B1=[]:=A5 EA;subst this;rw[AP];exact z.left
 ·have:A1=[]:=A5 EA;subst this;exact r.left
theorem PX {lt:α->α->Bool}{a m b s e mid:Nat}{l l2 l3:List α}(h:Ky lt a m b s e l l2)(hm:s+e=mid+m)(h3:G0 lt a mid l2 l3):∃P A1 A2 B1 B2 X Q:List α,l=P++((A1++A2)++((B1++B2)++Q))/\P.length=a/\a+(A1.length+B1.length)=mid/\mid+A2.length=e/\e+B2.length=b/\Up lt A2/\Up lt B2/\l3=P++(X++(A2++(B2++Q)))/\X.Perm (A1++B1)/\Up lt X/\∀x∈X,∀y∈A2++B2,lt y x=false:=by
 obtain⟨P,A1,A2,B1,B2,Q,rfl,h1,h2,h4,h5,h6,z,O,rfl,Z⟩:=h;obtain⟨P',M,M',Q',e1,rfl,f1,f2,f3,f4⟩:=h3;obtain⟨r1,r2⟩:=Kq e1 EA;obtain⟨Y,r⟩:=Kq r2 (by simp;omega);subst r1;subst Y;subst r;exact⟨P,A1,A2,B1,B2,M',Q,rfl,h1,by omega,by omega,by omega,z.right,O.right,by simp,f3,f4,λx J=>Z x (f3.mem_iff.1 J)⟩
theorem V7 {lt:α->α->Bool}{a m b s e mid:Nat}{l l2 l3:List α}(h:Ky lt a m b s e l l2)(hm:s+e=mid+m)(h3:G0 lt a mid l2 l3):SM lt mid e b l3:=by
 obtain⟨P,A1,A2,B1,B2,X,Q,rfl,h1,h2,h4,h5,z,r,rfl,J,h9,h10⟩:=PX h hm h3;have:=J.length_eq;rw[Ab]at this;exact⟨P++X,A2,B2,Q,by simp,by simp;omega,by omega,by omega,z,r⟩
theorem OE {lt:α->α->Bool}{a m b s e mid:Nat}{l l2 l3:List α}(h:Ky lt a m b s e l l2)(hm:s+e=mid+m)(h3:G0 lt a mid l2 l3)(hn:¬ (mid<e/\e<b)):G0 lt mid b l3 l3:=by
 obtain⟨P,A1,A2,B1,B2,X,Q,rfl,h1,h2,h4,h5,z,r,rfl,J,h9,h10⟩:=PX h hm h3;have:=J.length_eq;rw[Ab]at this;refine⟨P++X,A2++B2,A2++B2,Q,by simp,by simp,by simp;omega,by simp;omega,.refl _,?_⟩;rcases Bj mid e with h11|h11
 ·have:B2=[]:=A5 EA;subst this;rw[AP];exact z
 ·have:A2=[]:=A5 EA;subst this;exact r
theorem Nu {lt:α->α->Bool}{a m b s e mid:Nat}{l l2 l3 l4:List α}(h:Ky lt a m b s e l l2)(hm:s+e=mid+m)(h3:G0 lt a mid l2 l3)(h4:G0 lt mid b l3 l4):G0 lt a b l l4:=by
 obtain⟨P,A1,A2,B1,B2,X,Q,rfl,h1,h2,h5,h6,h7,h8,rfl,O,J,r⟩:=PX h hm h3;have z:=O.length_eq;rw[Ab]at z;obtain⟨P',M,M',Q',e1,rfl,f1,f2,f3,f4⟩:=h4;rw[show P++(X++(A2++(B2++Q)))=(P++X)++((A2++B2)++Q) by simp]at e1;obtain⟨r1,r2⟩:=Kq e1 (by simp;omega);obtain⟨r3,Y⟩:=Kq r2 (by simp;omega);subst r1;subst r3;subst Y;refine⟨P,(A1++A2)++(B1++B2),X++M',Q,by simp,by simp,h1,by simp;omega,?_,?_⟩
 ·refine(List.Perm.append O f3).trans ?_;have:(B1++A2).Perm (A2++B1):=List.perm_append_comm;rw[AA A1,AA A1];refine DG A1 ?_;rw[<-AA,<-AA];exact this.append_right B2
 ·exact Up.app J f4 λx Z y hy=>r x Z y (f3.mem_iff.1 hy)
def M2 (lt:α->α->Bool)(s j:Nat)(cur:List α):Prop:=(∀k,k<j->GR lt cur (k*(2*s)) ((k+1)*(2*s)))/\∀k,2*j<=k->GR lt cur (k*s) ((k+1)*s)
theorem OF {lt:α->α->Bool}{l:List α}{a b c:Nat}(h:GR lt l a b)(hb:l.length<=b)(hc:l.length<=c):GR lt l a c:=by
 unfold GR at *;rw[Ax hb]at h;rw[Ax hc];exact h
theorem SL {lt:α->α->Bool}{l:List α}{a b:Nat}(h:l.length<=a):GR lt l a b:=by
 unfold GR;rw[Cg (by rw[A4];omega)];exact Bp
theorem X0y {lt:α->α->Bool}{l:List α}{b:Nat}(h:GR lt l 0 b)(hb:l.length<=b):Up lt l:=by
 unfold GR at h;rw[Ax hb]at h;exact h
theorem Si {lt:α->α->Bool}{s j:Nat}{cur cur':List α}(h:M2 lt s j cur)(hs:G0 lt (j*(2*s)) ((j+1)*(2*s)) cur cur'):M2 lt s (j+1) cur':=by
 refine⟨λk hk=>?_,λk hk=>?_⟩
 ·rcases Bj k j with h9|h9
  ·exact hs.keep (.inl (AY _ h9)) (h.1 k h9)
  ·have:k=j:=by omega
   subst this;exact hs.up
 ·refine hs.keep (.inr ?_) (h.2 k EA);rw[<-Cq,Bx (j+1) 2];exact AY _ hk
theorem UG {lt:α->α->Bool}{s j:Nat}{cur:List α}(h:M2 lt s j cur)(hl:(j+1)*(2*s)<=cur.length):SM lt (j*(2*s)) (j*(2*s)+s) ((j+1)*(2*s)) cur:=by
 have e1:j*(2*s)=(2*j)*s:=by rw[<-Cq,Bx j 2]
 have e2:j*(2*s)+s=(2*j+1)*s:=by rw[e1];exact(Ba _ _).symm
 have r:(j+1)*(2*s)=(2*j+1+1)*s:=by rw[<-Cq,Bx (j+1) 2];rfl
 have g1:=h.2 (2*j) (Aa _);have g2:=h.2 (2*j+1) EA;rw[<-e1,<-e2]at g1;rw[<-e2,<-r]at g2;refine T1 EA ?_ hl g1 g2;rw[e2,r];exact AY _ EA
theorem VL {lt:α->α->Bool}{s j:Nat}{cur:List α}(h:M2 lt s j cur)(hl:cur.length<(j+1)*(2*s))(hm:j*(2*s)+s<cur.length):SM lt (j*(2*s)) (j*(2*s)+s) cur.length cur:=by
 have e1:j*(2*s)=(2*j)*s:=by rw[<-Cq,Bx j 2]
 have e2:j*(2*s)+s=(2*j+1)*s:=by rw[e1];exact(Ba _ _).symm
 have r:(j+1)*(2*s)=(2*j+1+1)*s:=by rw[<-Cq,Bx (j+1) 2];rfl
 have g1:=h.2 (2*j) (Aa _);have g2:=h.2 (2*j+1) EA;rw[<-e1,<-e2]at g1;rw[<-e2,<-r]at g2;exact T1 EA EA (Aa _) g1 (OF g2 EA (Aa _))
theorem Pu {lt:α->α->Bool}{s j:Nat}{cur cur':List α}(h:M2 lt s j cur)(hl:cur.length<(j+1)*(2*s))(hj:j*(2*s)<=cur.length)(hs:(j*(2*s)+s<cur.length->G0 lt (j*(2*s)) cur.length cur cur')/\(cur.length<=j*(2*s)+s->cur'=cur)):M2 lt (2*s) 0 cur':=by
 refine⟨λk hk=>absurd hk (B3 k),λk _=>?_⟩;have e1:j*(2*s)=(2*j)*s:=by rw[<-Cq,Bx j 2]
 have e2:j*(2*s)+s=(2*j+1)*s:=by rw[e1];exact(Ba _ _).symm
 have hlen:cur'.length=cur.length:=by
  rcases Bj (j*(2*s)+s) cur.length with h9|h9
  ·exact(hs.1 h9).len.1
  ·rw[hs.2 h9]
 rcases Eo k j with h9|rfl|h9
 ·rcases Bj (j*(2*s)+s) cur.length with h8|h8
  ·exact(hs.1 h8).keep (.inl (AY _ h9)) (h.1 k h9)
  ·rw[hs.2 h8];exact h.1 k h9
 ·rcases Bj (k*(2*s)+s) cur.length with h8|h8
  ·exact OF (hs.1 h8).up EA EA
  ·rw[hs.2 h8];have g1:=h.2 (2*k) (Aa _);rw[<-e1,<-e2]at g1;exact OF g1 h8 EA
 ·refine SL ?_;have:(j+1)*(2*s)<=k*(2*s):=AY _ h9;omega
def I2 (lt:α->α->Bool)(s j:Nat)(cur:List α):Prop:=∀k,k<j->GR lt cur (k*s) ((k+1)*s)
theorem VG {lt:α->α->Bool}{s j:Nat}{cur cur':List α}(h:I2 lt s j cur)(hs:G0 lt (j*s) ((j+1)*s) cur cur'):I2 lt s (j+1) cur':=by
 intro k hk;rcases Bj k j with h9|h9
 ·exact hs.keep (.inl (AY _ h9)) (h k h9)
 ·have:k=j:=by omega
  subst this;exact hs.up
theorem Us {lt:α->α->Bool}{s j:Nat}{cur cur':List α}(h:I2 lt s j cur)(hl:cur.length<(j+1)*s)(hj:j*s<=cur.length)(hs:G0 lt (j*s) cur.length cur cur'):M2 lt s 0 cur':=by
 refine⟨λk hk=>absurd hk (B3 k),λk _=>?_⟩;have hlen:=hs.len.1;rcases Eo k j with h9|rfl|h9
 ·exact hs.keep (.inl (AY _ h9)) (h k h9)
 ·exact OF hs.up EA EA
 ·refine SL ?_;have:(j+1)*s<=k*s:=AY _ h9;omega
theorem XA {lt:α->α->Bool}{s:Nat}{cur:List α}(h:M2 lt s 0 cur)(hl:cur.length<=s):Up lt cur:=by
 have:=h.2 0 EA;rw[C0]at this;exact X0y this EA
section
variable {α:Type}
def IQ (eq:α->α->Bool):α->List α->List α
 | _,[]=>[]
 | p,x :: r=>if eq x p=true then IQ eq x r else x :: IQ eq x r
def Jk (eq:α->α->Bool):List α->List α
 | []=>[]
 | x :: r=>x :: IQ eq x r
theorem UA (eq:α->α->Bool)(x:α):∀(l:List α) (p:α),IQ eq p (l++[x])=IQ eq p l++(if eq x (l.getLast?.getD p)=true then[]else[x])
 | [],p=>by simp only [AE,IQ,List.getLast?_nil,Option.getD_none];by_cases h:eq x p=true<;>simp [h]
 | y :: r,p=>by
  have e:(y :: r).getLast?.getD p=r.getLast?.getD y:=by
   cases r with
   | nil=>rfl
   | cons z r=>simp [List.getLast?_cons]
  rw[AS,IQ,IQ,UA eq x r y,e];split<;>simp
theorem Pj {eq:α->α->Bool}{l:List α}{k:Nat}{x y:α}(hk:0<k)(hx:l[k]?=some x)(hy:l[k-1]?=some y):Jk eq (l.take (k+1))=if eq x y=true then Jk eq (l.take k)else Jk eq (l.take k)++[x]:=by
 rw[B4,hx];simp only [Option.toList_some];rcases l with _|⟨a,r⟩
 ·simp at hx
 obtain⟨k,rfl⟩:∃m,k=m+1:=⟨k-1,by omega⟩;simp only [Cr,AS,Jk];rw[UA];have e:(r.take k).getLast?.getD a=y:=by
  have z:=(Ao.1 hx).1;simp only [AB]at z;simp only [BR]at hy;rcases Cl k with rfl|hk2
  ·simp at hy ⊢;exact hy
  ·obtain⟨k,rfl⟩:∃m,k=m+1:=⟨k-1,by omega⟩;simp only [List.getElem?_cons_succ]at hy;rw[List.getLast?_eq_getElem?,A4,show min (k+1) r.length-1=k by omega,AV,if_pos EA,hy];rfl
 rw[e];split<;>simp
theorem XD (eq:α->α->Bool)(l:List α):Jk eq (l.take 1)=l.take 1:=by
 cases l with
 | nil=>rfl
 | cons x r=>rfl
theorem Xp5 {eq:α->α->Bool}{l:List α}(h:l.length<2):Jk eq l=l:=by
 have:=XD eq l;rwa [Ax EA]at this
def JU (eq:α->α->Bool)(l:List α)(n k:Nat)(cur:List α):Prop:=cur.length=l.length/\k<n/\n<=l.length/\cur.take k=Jk eq (l.take n)/\∀i,n<=i+1->cur[i]?=l[i]?
theorem Yae {eq:α->α->Bool}{l:List α}{k:Nat}{x y:α}(hk:0<k)(hc:Jk eq (l.take k)=l.take k)(hx:l[k]?=some x)(hy:l[k-1]?=some y)(he:eq x y=true):JU eq l (k+1) k l:=
 ⟨rfl,by omega,(Ao.1 hx).1,by rw[Pj hk hx hy,if_pos he,hc],λ_ _=>rfl⟩
theorem Xxl {eq:α->α->Bool}{l:List α}{n k:Nat}{cur:List α}{x y:α}(h:JU eq l n k cur)(hx:l[n]?=some x)(hy:l[n-1]?=some y)(he:eq x y=true):JU eq l (n+1) k cur:=by
 obtain⟨h1,h2,h3,h4,r⟩:=h;exact⟨h1,by omega,(Ao.1 hx).1,by rw[Pj EA hx hy,if_pos he,h4],λi hi=>r i EA⟩
theorem Xse {eq:α->α->Bool}{l:List α}{n k:Nat}{cur:List α}{x y:α}(h:JU eq l n k cur)(hx:l[n]?=some x)(hy:l[n-1]?=some y)(he:¬ eq x y=true):JU eq l (n+1) (k+1) (cur.set k x):=by
 obtain⟨h1,h2,h3,h4,r⟩:=h;refine⟨by rw[AG,h1],by omega,(Ao.1 hx).1,?_,λi hi=>by rw[Cf EA,r i EA]⟩;rw[Pj EA hx hy,if_neg he,<-h4,B4,DA (Aa k),BB EA];rfl
def JR (p:α->Bool)(l:List α)(n k:Nat)(cur:List α):Prop:=cur.length=l.length/\k<n/\n<=l.length/\cur.take k=(l.take n).filter (λx=>!p x)/\∀i,n<=i->cur[i]?=l[i]?
theorem QU {p:α->Bool}{l:List α}{n:Nat}{x:α}(hx:l[n]?=some x):(l.take (n+1)).filter p=if p x=true then(l.take n).filter p++[x]else(l.take n).filter p:=by
 rw[B4,hx,List.filter_append];split<;>simp [*]
theorem Yaf {p:α->Bool}{l:List α}{k:Nat}{x:α}(hx:l[k]?=some x)(hp:p x=true)(hn:∀i y,i<k->l[i]?=some y->p y=false):JR p l (k+1) k l:=by
 refine⟨rfl,by omega,(Ao.1 hx).1,?_,λ_ _=>rfl⟩;rw[QU hx,if_neg (by simp [hp])];refine(List.filter_eq_self.2 λy z=>?_).symm;obtain⟨i,hi⟩:=AJ z;rw[AV]at hi;split at hi
 ·rename_i r;simp [hn i y r hi]
 ·cases hi
theorem Xxm {p:α->Bool}{l:List α}{n k:Nat}{cur:List α}{x:α}(h:JR p l n k cur)(hx:l[n]?=some x)(hp:p x=true):JR p l (n+1) k cur:=by
 obtain⟨h1,h2,h3,h4,r⟩:=h;exact⟨h1,by omega,(Ao.1 hx).1,by rw[QU hx,if_neg (by simp [hp]),h4],λi hi=>r i EA⟩
theorem Xsf {p:α->Bool}{l:List α}{n k:Nat}{cur:List α}{x:α}(h:JR p l n k cur)(hx:l[n]?=some x)(hp:p x=false):JR p l (n+1) (k+1) (cur.set k x):=by
 obtain⟨h1,h2,h3,h4,r⟩:=h;refine⟨by rw[AG,h1],by omega,(Ao.1 hx).1,?_,λi hi=>by rw[Cf EA,r i EA]⟩;rw[QU hx,if_pos (by simp [hp]),<-h4,B4,DA (Aa k),BB EA];rfl
end
end Go.Sp
namespace Go.Vc
open Go.RowKit
section
variable {α:Type}{enc:α->List Value}{sz T B:Nat}{w w':World}{v:Value}{l:List α}
theorem Rx (henc:∀x,(enc x).length=sz):∀(l:List α) (k:Nat),(l.flatMap enc).take (k*sz)=(l.take k).flatMap enc
 | [],k=>by simp
 | x :: r,0=>by simp
 | x :: r,k+1=>by
  rw[Cr,AD,AD,Ba,Nat.add_comm,En,henc,Ax (by rw[henc];omega),Nat.add_sub_cancel_left,Rx henc r k]
theorem Own.cut (henc:∀x,(enc x).length=sz)(h:Own enc sz T B w v l){k:Nat}(hk:k<=l.length):Own enc sz T B w (Gz sz v 0 k) (l.take k):=by
 obtain⟨h1,h2⟩:=h.row;refine⟨by rw[Fs henc],?_⟩;rcases h2 with⟨rfl,h0⟩|⟨g,cap,cur,rfl,hB,hc,hn,hm,hs,ht⟩
 ·have:l=[]:=A5 h0;subst this;exact .inl ⟨rfl,by simp⟩
 ·refine .inr ⟨g,cap,cur,?_,hB,hc,by rw[A4];omega,hm,hs,?_⟩
  ·simp only [Gz,C0,Cx,Addr.add,BN,ite_self,A4,Bv hk]
  ·rw[A4,Bv hk,<-Rx henc,<-ht,CP,Bv (AY _ hk)]
theorem Xn8 {v:Value}{k sz n:Nat}(hv:FW v n):(Gz sz v 0 k).ownBlock=v.ownBlock:=by
 rcases hv with⟨rfl,_⟩|⟨b,o,c,rfl,_⟩|⟨_,a,c,rfl⟩
 ·rfl
 ·simp [Gz,Value.ownBlock,Addr.add]
 ·simp [Gz,Value.ownBlock,Addr.add]
variable {P:Program}{n:Nat}{E:Fg}{ds:List (Option Tmp)}{R:World->World->Prop}{rs:List (Oper×Fl×Bool)}{K:Fg->World->Prop}{pos:String}{af:Array Edge}{g:Option (Nat×Bool)}{anc:Bool}{ty:TypeId}
theorem VX {dd:Option Tmp}{x:Operand}{t e k:Nat}{zs:List Value}(henc:∀x,(enc x).length=sz)(hg:FB ds E g=true)(ht:IK P t=some (e,sz))(hz:Kx P e=some zs)(hzs:zs.length=sz)(hsz:0<sz)(hz1:∀z∈zs,z.oneCell'=true)
  (hown:Own enc sz T B w v l) (hx:ev E x=Gz sz v k l.length) (hk:k<=l.length) (hR:anc=true\/∀w',Mod (λk=>v.ownBlock=some k) w w'->R w w')
  (h:∀r,Mod (λk=>v.ownBlock=some k) w r->r.heap.size=w.heap.size->Own enc sz T B r (Gz sz v 0 k) (l.take k)->Dw P n ds R rs K (Gp E dd (.tuple #[])) r) :
  Dw P n ds R ((⟨dd,.call { callee:=.builtin .clear,args:=#[x],argTypes:=#[t] },ty,pos,af,g⟩,.x,anc) :: rs) K E w:=by
 obtain⟨hu,i,hi,hs⟩:=Kf ht;obtain⟨z,hh,ha⟩:=Om (w:=w) hz;have J:∃r,(Builtin.clear_ #[t] ty #[Gz sz v k l.length]).run P w=.ok (.tuple #[]) r/\Mod (λk=>v.ownBlock=some k) w r/\r.heap.size=w.heap.size/\Own enc sz T B r (Gz sz v 0 k) (l.take k):=by
  rcases Cv hk with hk2|hk2
  ·refine⟨w,?_,Mod.refl _ _,rfl,hown.cut henc hk⟩;rcases hown.sl with⟨rfl,_⟩|⟨b,o,c,rfl,_⟩|⟨_,a,c,rfl⟩<;>simp [Builtin.clear_,Gz,hk2,underlying,hu]
  ·have hl:l≠[]:=by rintro rfl;simp at hk2
   have hob:v.ownBlock=some (base v).1:=hown.base_block hl;obtain⟨r1,r2⟩:=hown.row;rcases r2 with⟨_,h0⟩|⟨b,cap,cur,rfl,hB,hc,hn,hm,hcs,htk⟩
   ·exact absurd (A5 h0) hl
   have hb:EL w b cur.toList T:=by show w.heap[b]?=_;rw[hc]
   have Y:cur.toList.length=cap*sz:=by simp [hcs]
   have hlen:l.length*sz<=cur.toList.length:=by rw[Y];exact AY _ hn
   subst hzs;have hf:(Builtin.zeroCells z.cells (l.length-k)).toList=(Aw (l.length-k) zs).flatten:=by
    rw[ha];unfold Builtin.zeroCells;exact congrArg Array.toList (Rl zs zs.length (l.length-k) rfl hsz)
   have hvl:((Aw (l.length-k) zs).flatten).length=(l.length-k)*zs.length:=by simp [List.length_flatten,List.map_replicate,List.sum_replicate_nat]
   have hkl:k*zs.length+(l.length-k)*zs.length=l.length*zs.length:=by rw[<-Nat.add_mul];congr 1;omega
   obtain⟨r,e1,e2,e3,e4⟩:=Sw (P:=P) (b:=b) (o:=k*zs.length) (T:=T) ((Aw (l.length-k) zs).flatten) 0 cur.toList w hb EA (λu hu=>by
    obtain⟨q,hq,O⟩:=List.mem_flatten.1 hu;rw[List.eq_of_mem_replicate hq]at O;exact hz1 u O)
   obtain⟨m,hm2⟩:∃m,l.length-k=m+1:=⟨l.length-k-1,by omega⟩;have hj:Gz zs.length (.slice (some ⟨b,0,none⟩) l.length cap) k l.length=.slice (some ⟨b,k*zs.length,none⟩) (m+1) (cap-k):=by
    simp only [Gz,Addr.add,A9,hm2];rw[if_neg EA]
    by_cases hk0:k*zs.length=0
    ·rw[if_pos hk0,hk0]
    ·rw[if_neg hk0]
   refine⟨r,?_,e3.mono (λi hi _=>by have:i=b:=hi;rw[this];rfl),e4,?_⟩
   ·have Z:(storeCells ⟨b,k*zs.length,none⟩ (Builtin.zeroCells z.cells (m+1)).toList).run P w=.ok () r:=by rw[<-hm2,hf];exact e1
    rw[hj];simp [Builtin.clear_,underlying,hu,hh,Z]
   ·refine⟨by rw[Fs henc],.inr ⟨b,cap,⟨Fe cur.toList (k*zs.length+0) ((Aw (l.length-k) zs).flatten)⟩,?_,hB,e2,by rw[A4];omega,hm,by simp only [List.size_toArray];rw[R8,Y],?_⟩⟩
    ·simp only [Gz,C0,Cx,Addr.add,BN,ite_self,A4,Bv hk]
    ·rw[A4,Bv hk,<-Rx henc,<-htk,CP,Bv (AY _ hk)]
     apply BA
     intro i;simp only [AV];split
     ·rw[MG _ _ _ _ EA,if_neg EA]
     ·rfl
 obtain⟨r,hr,h1,h2,h3⟩:=J;refine HL (v:=.tuple #[]) (w':=r) hg ?_ (λe=>hR.elim (λh=>by rw[h]at e;cases e) (λh=>h _ h1)) (h _ h1 h2 h3);simp [execOp,resolve,invoke,builtin,hx,hr]
end
end Go.Vc
