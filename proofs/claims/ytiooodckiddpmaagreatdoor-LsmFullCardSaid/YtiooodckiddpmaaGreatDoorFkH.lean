/-
 A part of the proof: MkA KeA OpA CgA FlA TrP PiA PiB.
-/
import Derived.Test.YtiooodckiddpmaaGreatDoorFkA
import Derived.Test.YtiooodckiddpmaaGreatDoorChecked
import Derived.KernelRfl
import Derived.Test.YtiooodckiddpmaaGreatDoorFkG
import Derived.Test.YtiooodckiddpmaaGreatDoorFkD
import Derived.Test.YtiooodckiddpmaaGreatDoorFkF
import Derived.Lib.ItoaLen
import Derived.Test.YtiooodckiddpmaaGreatDoorFkC
import Derived.Test.YtiooodckiddpmaaGreatDoorFkE
open Nat renaming le_refl->Aa,zero_le->Ad,le_trans->Ae,le_of_ble_eq_true->Ap,lt_of_lt_of_le->A0,zero_add->A9,not_lt->Bi,eq_zero_or_pos->Cl,succ_le_succ->Ew
open List renaming length_append->Ab,take->Af,set->Ag,mem_singleton->Ah,drop->Ai,mem_cons->Aj,mem_of_getElem?->Ak,mem_cons_self->Al,mem_cons_of_mem->Am,length_map->An,getElem?_eq_some_iff->Ao,map_cons->Aq,mem_map->Ar,getElem?_eq_getElem->Av,replicate->Aw,take_of_length_le->Ax,mem_append->Ay,mem_filter->Az,eq_nil_of_length_eq_zero->A5,length_cons->AB,map_append->AC,length_set->AG,getElem?_map->AH,getElem?_of_mem->AJ,take_length->AK,pairwise_cons->AO,sum_cons->AW,nodup_cons->AZ,getElem?_eq_none->Bl,filter_eq_self->Bm,mem_append_right->Bt,filter_append->Bu,foldl_append->Bz,ext_getElem?->BA,getElem?_set_self->BB,mem_append_left->BC,mem_map_of_mem->BD,mem_flatMap->BP,getD_eq_getElem?_getD->BQ,pairwise_iff_getElem->BU,getElem?_set_ne->Cf,not_mem_nil->Ct,foldlM->C2,find?_eq_none->Dh,zip->Dm,getElem?_zipWith->Dn,getElem?_zip_eq_some->DL,getElem?_append->Es,getElem?_eq_none_iff->Et,map_fst_zip->Eu,length_zip->Ev
open Bool renaming and_eq_true->Au
open Option renaming some->A3,map_eq_some_iff->Bd,map_some->Ck
open Decidable renaming of_not_not->AI,byContradiction->AL
open Prod renaming mk->AX
open List.Pairwise renaming nil->Bp,filter->C9
open List.Sublist renaming map->C4
open Int renaming ofNat_le->Dq,lt_trichotomy->DM
set_option maxRecDepth 100000
set_option maxHeartbeats 4000000
set_option linter.unusedVariables false
set_option linter.unusedSimpArgs false
namespace Go.Proofs.YtiooodckiddpmaaGreatDoor
open Go.Vc Go.Sp
attribute [local irreducible] W XW Dw Gm
def JF (s:List (List Cell)×Nat)(c:Cell):List (List Cell)×Nat:=if s.1=[]\/4096<s.2+Gn c then(s.1++[[c]],Gn c)else(s.1.dropLast++[s.1.getLastD []++[c]],s.2+Gn c)
def Ip (l:List Cell)(k:Nat):List (List Cell)×Nat:=(l.take k).foldl JF ([],0)
def F7 (l:List Cell):List (List Cell):=(l.foldl JF ([],0)).1
theorem Oc {l:List Cell}{k:Nat}{c:Cell}(h:l[k]?=some c):Ip l (k+1)=JF (Ip l k) c:=by
 unfold Ip;rw[Gs h,Bz];rfl
theorem Rz {l:List Cell}{k:Nat}(h:l.length<=k):(Ip l k).1=F7 l:=by unfold Ip F7;rw[Ax h]
theorem Xqb (s:List (List Cell)×Nat)(c:Cell):(JF s c).1.flatten=s.1.flatten++[c]/\(JF s c).1.length<=s.1.length+1:=by
 unfold JF;split
 ·simp
 ·rename_i h;rw[not_or]at h;rcases List.eq_nil_or_concat s.1 with e|⟨a,b,e⟩
  ·exact absurd e h.1
  ·rw[e];simp
theorem MU (l:List Cell):∀k,k<=l.length->(Ip l k).1.flatten=l.take k/\(Ip l k).1.length<=k
 | 0,_=>⟨rfl,Aa _⟩
 | k+1,h=>by
  have r:=MU l k EA;have hk:l[k]?=some l[k]:=Av EA;have h2:=Xqb (Ip l k) l[k];rw[Oc hk,h2.1,r.1,<-Gs hk];exact⟨rfl,by omega⟩
theorem Q2 (l:List Cell):(F7 l).flatten=l:=by
 rw[<-Rz (Aa l.length),(MU l _ (Aa _)).1,AK]
theorem U8 {ss:List (List Cell)}{l sg:List Cell}(h:ss.flatten=l)(hs:sg∈ss):sg.length<=l.length:=by
 subst h;rw[List.length_flatten]
 induction ss with
 | nil=>cases hs
 | cons a r ih=>
  simp only [Aq,AW];rcases Aj.1 hs with rfl|hs
  ·omega
  ·have:=ih hs;omega
theorem Ub {l:List Cell}(hc:∀c∈l,Gn c<=30000):∀k,k<=l.length->(Ip l k).2<=30000
 | 0,_=>Ad _
 | k+1,h=>by
  have hk:l[k]?=some l[k]:=Av EA;rw[Oc hk];have:=hc l[k] (List.getElem_mem _);unfold JF;split
  ·exact this
  ·rename_i h2;rw[not_or]at h2;show(Ip l k).2+Gn l[k]<=30000;omega
theorem VU {s:List (List Cell)×Nat}{c:Cell}(h:s.1=[]\/4096<s.2+Gn c):JF s c=(s.1++[[]++[c]],0+Gn c):=by unfold JF;rw[if_pos h,A9];rfl
theorem Xtm {ss:List (List Cell)}{s:List Cell}{z:Nat}{c:Cell}(h:¬ 4096<z+Gn c):JF (ss++[s],z) c=(ss++[s++[c]],z+Gn c):=by
 unfold JF;rw[if_neg (by rw[not_or];exact⟨by simp,h⟩)];simp
structure Md where
 f:Fi
 vl:Value
 vb:Value
@[reducible] def Md.cs (m:Md):List Value:=[I m.f.id,I m.f.lev,I m.f.size,S m.f.fst,S m.f.lst,m.vl,m.vb]
@[reducible] def Md.v (m:Md):Value:=.agg ⟨m.cs⟩
structure MdR (w:World)(v:Value)(l:List Md):Prop where
 row:∀ {i:Nat} {x:Md},l[i]?=some x->I6 w (base v).1 (i*7+0) x.cs
section
variable {b0 B B1:Nat}{lv next:Int}{w w':World}{v va:Value}{S:Nat->Prop}
theorem Qx {l:List Md}(h:Vc.Own Md.cs 7 161 B w v l):MdR w v l:=⟨λ {i x} hi=>by
 have h2:=(h.arr EE).row hi;rw[JP h (λe=>by rw[e]at hi;simp at hi),A9]at h2;exact h2⟩
theorem Pc {α:Type}(ys:List α)(x z:α):(ys++[x]).getD ys.length z=x:=by simp
theorem O9 {α:Type}(ys:List α)(x z:α):(ys++[x]).set ys.length z=ys++[z]:=by simp
def LG (b0:Nat)(lv next:Int)(i:Nat)(x:Md)(sg:List Cell)(w:World):Prop:=x.f.id=next+↑i/\x.f.lev=lv/\x.f.size=0/\x.f.fst=(FZ sg 0).key/\x.f.lst=(FZ sg (sg.length-1)).key/\x.vb=.slice none 0 0/\sg≠[]/\Vc.Own Cell.cs 4 79 b0 w x.vl sg
theorem LG.mod {i:Nat}{x:Md}{sg:List Cell}(h:LG b0 lv next i x sg w)(m:Vc.Mod S w w')(hS:∀k,x.vl.ownBlock=some k->¬ S k):LG b0 lv next i x sg w':=by
 obtain⟨h1,h2,h3,h4,O,J,r,z⟩:=h;exact⟨h1,h2,h3,h4,O,J,r,z.mod m hS⟩
def Jd (b0 B1:Nat)(lv next:Int)(ys:List Md)(ss:List (List Cell))(w:World):Prop:=ys.length=ss.length/\∀i x sg,ys[i]?=some x->ss[i]?=some sg->LG b0 lv next i x sg w/\∀k,x.vl.ownBlock=some k->k<B1
theorem Jd.mod {ys:List Md}{ss:List (List Cell)}(h:Jd b0 B1 lv next ys ss w)(m:Vc.Mod S w w')(hS:∀x∈ys,∀k,x.vl.ownBlock=some k->¬ S k):Jd b0 B1 lv next ys ss w':=
 ⟨h.1,λi x sg r hs=>⟨(h.2 i x sg r hs).1.mod m (hS x (Ak r)),(h.2 i x sg r hs).2⟩⟩
theorem Jd.ext {ys:List Md}{ss:List (List Cell)}(h:Jd b0 B1 lv next ys ss w)(m:EB w w'):Jd b0 B1 lv next ys ss w':=h.mod m (λ_ _ _ _ h=>h)
theorem Jd.at {ys:List Md}{ss:List (List Cell)}(h:Jd b0 B1 lv next ys ss w){x:Md}(hx:x∈ys):∃i sg,LG b0 lv next i x sg w/\∀k,x.vl.ownBlock=some k->k<B1:=by
 obtain⟨i,hi⟩:=AJ hx;have r:=(Ao.1 hi).1;exact⟨i,_,h.2 i x _ hi (Av (by rw[<-h.1];exact r))⟩
theorem Jd.ne {ys l:List Md}{ss:List (List Cell)}(h:Jd b0 B1 lv next ys ss w)(ho:Vc.Own Md.cs 7 161 B w va l):∀x∈ys,∀k,x.vl.ownBlock=some k->¬ va.ownBlock=some k:=λx r k hk=>by
 obtain⟨i,sg,z,_⟩:=h.at r;exact z.2.2.2.2.2.2.2.ne ho rfl hk
theorem Jd.sep {ys:List Md}{ss:List (List Cell)}{vl:Value}{s:List Cell}(h:Jd b0 B1 lv next ys ss w)(hl:Vc.Own Cell.cs 4 79 B1 w vl s):∀x∈ys,∀k,x.vl.ownBlock=some k->¬ vl.ownBlock=some k:=λx r k hk e=>by
 obtain⟨i,sg,_,h2⟩:=h.at r;have h3:=h2 k hk;have h4:=(hl.lt k e).1;omega
def JW (b0:Nat)(lv next:Int)(xs:List Md)(R:List (List Cell))(w:World):Prop:=(xs=[]/\R=[])\/∃ys x ss s B1,xs=ys++[x]/\R=ss++[s]/\(b0<=B1/\Sz B1 w)/\Jd b0 B1 lv next ys ss w/\LG b0 lv next ys.length x s w/\Vc.Own Cell.cs 4 79 B1 w x.vl s
theorem JW.mod {xs:List Md}{R:List (List Cell)}(h:JW b0 lv next xs R w)(m:Vc.Mod S w w')(hS:∀x∈xs,∀k,x.vl.ownBlock=some k->¬ S k):JW b0 lv next xs R w':=by
 rcases h with h|⟨ys,x,ss,s,B1,rfl,h2,h3,h4,h5,h6⟩
 ·exact .inl h
 ·exact .inr ⟨ys,x,ss,s,B1,rfl,h2,⟨h3.1,h3.2.mod m trivial⟩,h4.mod m (λz r=>hS z (BC _ r)),h5.mod m (hS x EQ),h6.mod m (hS x EQ)⟩
theorem JW.lt {xs:List Md}{R:List (List Cell)}(h:JW b0 lv next xs R w):∀x∈xs,∀k,x.vl.ownBlock=some k->k<w.heap.size:=by
 rcases h with⟨rfl,_⟩|⟨ys,x,ss,s,B1,rfl,h2,h3,h4,h5,h6⟩
 ·intro x J;cases J
 ·intro z r k hk;rcases Ay.1 r with r|r
  ·obtain⟨i,sg,O,_⟩:=h4.at r;exact(O.2.2.2.2.2.2.2.lt k hk).2
  ·rw[Ah.1 r]at hk;exact(h6.lt k hk).2
theorem JW.ext {xs:List Md}{R:List (List Cell)}(h:JW b0 lv next xs R w)(m:EB w w'):JW b0 lv next xs R w':=h.imp id λ⟨ys,x,ss,s,B1,h1,h2,h3,h4,h5,h6⟩=>⟨ys,x,ss,s,B1,h1,h2,⟨h3.1,h3.2.ext m⟩,h4.ext m,h5.mod m (λ_ _ h=>h),h6.ext m⟩
theorem JW.len {xs:List Md}{R:List (List Cell)}(h:JW b0 lv next xs R w):xs.length=R.length:=by
 rcases h with⟨rfl,rfl⟩|⟨ys,x,ss,s,B1,rfl,rfl,h3,h4,h5,h6⟩
 ·rfl
 ·simp [h4.1]
theorem JW.all {xs:List Md}{R:List (List Cell)}(h:JW b0 lv next xs R w)(hs:b0<=w.heap.size):∃Bn,b0<=Bn/\Sz Bn w/\Jd b0 Bn lv next xs R w:=by
 refine⟨w.heap.size,hs,⟨Aa _⟩,?_⟩;rcases h with⟨rfl,rfl⟩|⟨ys,x,ss,s,B1,rfl,rfl,h3,h4,h5,h6⟩
 ·exact⟨rfl,λi x sg Y=>by simp at Y⟩
 ·refine⟨by simp [h4.1],λi z sg r hs=>?_⟩;have O:LG b0 lv next i z sg w:=by
   rw[Es]at r hs;rw[<-h4.1]at hs;split at r
   ·rename_i hi;rw[if_pos hi]at hs;exact(h4.2 i z sg r hs).1
   ·rename_i hi;rw[if_neg hi]at hs;have J:i-ys.length=0:=by
     rcases Cl (i-ys.length)with e|e
     ·exact e
     ·rw[Bl (by simp;omega)]at r;cases r
    rw[J]at r hs;simp at r hs;subst r;subst hs;rw[show i=ys.length by omega];exact h5
  exact⟨O,λk hk=>(O.2.2.2.2.2.2.2.lt k hk).2⟩
def Kp (lv next:Int)(j:Nat)(sg:List Cell):Fi:=⟨next+↑j,lv,↑(EI (Fy sg)).length,(FZ sg 0).key,(FZ sg (sg.length-1)).key⟩
def Jc (b0 B2:Nat)(lv next:Int)(i:Nat)(xs:List Md)(ss:List (List Cell))(w:World):Prop:=xs.length=ss.length/\∀j x sg,xs[j]?=some x->ss[j]?=some sg->(j<i->x.f=Kp lv next j sg/\H7 sg=0/\EM EP 1 w x.vb (EI (Fy sg))/\B2<=(base x.vb).1/\x.vl.oneCell'=true)/\(i<=j->LG b0 lv next j x sg w)
theorem Jc.mod {B2 i:Nat}{xs l:List Md}{ss:List (List Cell)}(h:Jc b0 B2 lv next i xs ss w)(ho:Vc.Own Md.cs 7 161 B w va l)(hv:∀k,va.ownBlock=some k->k<B2)(m:Vc.Mod (λk=>va.ownBlock=some k) w w'):Jc b0 B2 lv next i xs ss w':=
 ⟨h.1,λj x sg z hs=>⟨λr=>by
  obtain⟨h1,h2,h3,h4,O⟩:=(h.2 j x sg z hs).1 r;exact⟨h1,h2,h3.mod m (λ_ e=>by have:=hv _ e;omega),h4,O⟩,λr=>by
  have J:=(h.2 j x sg z hs).2 r;exact J.mod m (λk hk=>J.2.2.2.2.2.2.2.ne ho rfl hk)⟩⟩
theorem Jc.ext {B2 i:Nat}{xs:List Md}{ss:List (List Cell)}(h:Jc b0 B2 lv next i xs ss w)(m:EB w w'):Jc b0 B2 lv next i xs ss w':=
 ⟨h.1,λj x sg z hs=>⟨λr=>by
  obtain⟨h1,h2,h3,h4,J⟩:=(h.2 j x sg z hs).1 r;exact⟨h1,h2,h3.ext m,h4,J⟩,λr=>((h.2 j x sg z hs).2 r).mod m (λ_ _ h=>h)⟩⟩
theorem Jc.zero {B2:Nat}{xs:List Md}{ss:List (List Cell)}(h:Jd b0 B1 lv next xs ss w):Jc b0 B2 lv next 0 xs ss w:=⟨h.1,λj x sg z hs=>⟨λr=>absurd r (Nat.not_lt_zero j),λ_=>(h.2 j x sg z hs).1⟩⟩
theorem Jc.step {B2 i:Nat}{xs:List Md}{ss:List (List Cell)}{x:Md}{sg:List Cell}{vb:Value}(h:Jc b0 B2 lv next i xs ss w)(hx:xs[i]?=some x)(hs:ss[i]?=some sg)(hb:H7 sg=0)(ha:EM EP 1 w vb (EI (Fy sg)))(hg:B2<=(base vb).1) :
  Jc b0 B2 lv next (i+1) (xs.set i ⟨⟨x.f.id,x.f.lev,↑(EI (Fy sg)).length,x.f.fst,x.f.lst⟩,x.vl,vb⟩) ss w:=by
 refine⟨by rw[AG];exact h.1,λj z sz J r=>?_⟩;have O:=(Ao.1 hx).1
 by_cases e:i=j
 ·subst e;rw[BB O]at J;rw[hs]at r
  cases J;cases r
  obtain⟨h1,h2,h3,h4,h5,h6,h7,Y⟩:=(h.2 i x sg hx hs).2 (Aa _);exact⟨λ_=>⟨by unfold Kp;rw[h1,h2,h4,h5],hb,ha,hg,Y.sl.one⟩,λhh=>by omega⟩
 ·rw[Cf e]at J;exact⟨λZ=>(h.2 j z sz J r).1 EA,λZ=>(h.2 j z sz J r).2 EA⟩
def K9 (b0:Nat)(lv next:Int)(xs:List Md)(ss:List (List Cell))(w:World):Prop:=xs.length=ss.length/\∀j x sg,xs[j]?=some x->ss[j]?=some sg->x.f=Kp lv next j sg/\H7 sg=0/\EM EP 1 w x.vb (EI (Fy sg))/\b0<=(base x.vb).1/\x.vl.oneCell'=true
theorem Jc.fin {B2 i:Nat}{xs:List Md}{ss:List (List Cell)}(h:Jc b0 B2 lv next i xs ss w)(hi:xs.length<=i)(hb:b0<=B2):K9 b0 lv next xs ss w:=⟨h.1,λj x sg r hs=>by
 have hil:=(Ao.1 r).1;obtain⟨h1,h2,h3,h4,z⟩:=(h.2 j x sg r hs).1 EA;exact⟨h1,h2,h3,Ae hb h4,z⟩⟩
theorem Tl (s:List Cell)(c:Cell):FZ (s++[c]) ((s++[c]).length-1)=c:=by
 unfold FZ;simp
theorem Ybz {s:List Cell}(hs:s≠[])(c:Cell):FZ (s++[c]) 0=FZ s 0:=by
 cases s with
 | nil=>exact absurd rfl hs
 | cons a r=>rfl
end
theorem X66 (l:List Cell)(v:Value)(lv next:Int)(w:World)(hv:EM Cell.cs 4 w v l)(hl0:l.length<=30000)(hc9:∀c∈l,c.key.length<=4096/\c.val.length<=16384)(hlv:0<=lv/\lv<=100)(hnx:0<=next/\next<=1099511627776) :
  Calls Tryz.prog 90 [v,I lv,I next].toArray w (ER w (λu w'=>(∃sg∈F7 l,H7 sg≠0/\u=.tuple #[.slice none 0 0,I (H7 sg)])\/∃va xs,u=.tuple #[va,I 0]/\Vc.Own Md.cs 7 161 w.heap.size w' va xs/\K9 w.heap.size lv next xs (F7 l) w')):=by
 refine cw Tryz.func90 ?_;have J:=EB.refl w;refine ws λ_ Z1=>wr (da (da (de Z1 (ws λ_ Z2=>wr (da (de Z2 (ws λ_ Z3=>wr (da (de Z3 (ws λ_ Z4=>ws λ_ Z5=>?_))))))))));refine wr (dm ?_);refine dv 79 4 (hv.ext J).sl (dm (de Z5 (EN ?_)));refine Fk (G:=Nat×List Md×Value) (λ(k,xs,va)=>[(1,I lv),(2,I next),(6,.slice none 0 0),(7,I 0),(8,va),(9,I ↑(Ip l k).2),(18,v),(19,I ↑l.length),(20,I ↑k)]) (λ(k,xs,va) w'=>EB w w'/\k<=l.length/\(Ip l k).2<=30000/\Vc.Own Md.cs 7 161 w.heap.size w' va xs/\JW w.heap.size lv next xs (Ip l k).1 w') (λ(k,xs,va)=>l.length-k) (0,[],.slice none 0 0) ?_ ?_ ?_
 ·exact Je
 ·exact⟨J,Ad _,Ad _,Vc.Own.nil,.inl ⟨rfl,rfl⟩⟩
 intro X1 g1 w1 yi;obtain⟨k,xs,va⟩:=g1;clear J;obtain⟨J,xl,hz1,ho,hI⟩:=yi;refine ws λ_ Z6=>wr (dp (Fa rfl rfl) (de Z6 (ws λ_ Z7=>wi (λc1=>?_) λc1=>?_)))
 ·obtain⟨c,hk⟩:∃c,l[k]?=some c:=Fq;have hcs:=hc9 c (Ak hk);have hcz:Gn c<=30000:=by unfold Gn;omega
  have yo:=hI.len;have hrl:=(MU l k xl).2;refine EG (Z7 _ _ (ws λ_ Z8=>EN (ws λ_ Z9=>wr (di 79 4 hv.sl rfl (hv.lt hk) (dq (Fb E9 rfl rfl ((hv.ext J).row hk)) (FG (cs:=[S [],S [],B false,.int .i64 0]) rfl E9 RX.all (λb1 w2 e1 x2 m1=>?_)))))));have g1:=J.ge e1;have hg:=ho.ltb e1;have hr:=hI.lt;have ho:=ho.ext x2;have hI:=hI.ext x2;have J:=J.trans x2;refine FM m1 (λw3 x3 xs3 m1=>?_);dsimp only [Fe,Ag,Af,Ai]at m1;have ho:=ho.mod x3 (by intro k hk h;have h1:=hg k hk;have h2:k=b1:=h;omega);have hI:=hI.mod x3 (λx9 ha k9 yb e9=>by have h2:k9=b1:=e9;have h8:=hr x9 ha k9 yb;omega);have J:=J.o1 x3;refine de Z9 (ws λ_ yd=>wr (dq (Fb (k:=4) E9 rfl rfl m1.row) (cP (QI c _ EA EA) RX.all λw4 x4=>?_)));have ho:=ho.ext x4;have hI:=hI.ext x4;have m1:=m1.ext x4;have J:=J.trans x4;refine da (de yd ?_);refine Hz (G:=List Md×Md×List (List Cell)×List Cell×Value×Nat×Nat) (λ(ys,x,ss,s,va,z,B1)=>[(1,I lv),(2,I next),(6,.slice none 0 0),(7,I 0),(8,va),(9,I ↑z),(11,ED b1 0),(12,I ↑(Gn c)),(18,v),(19,I ↑l.length),(20,I ↑k)]) (λ(ys,x,ss,s,va,z,B1) w'=>EB w w'/\EL w' b1 c.cs 79/\Ip l (k+1)=(ss++[s++[c]],z+Gn c)/\w.heap.size<=B1/\z<=60000/\Sz B1 w'/\Vc.Own Md.cs 7 161 w.heap.size w' va (ys++[x])/\Jd w.heap.size B1 lv next ys ss w'/\Vc.Own Cell.cs 4 79 B1 w' x.vl s/\x.f.id=next+↑ys.length/\x.f.lev=lv/\x.f.size=0/\x.f.fst=(FZ (s++[c]) 0).key/\x.vb=.slice none 0 0/\ys.length<=k/\x.vl.ownBlock≠some b1) ?_ ?_
  ·refine ws λ_ xm=>wr (dm ?_);refine dv 161 7 (ho.arr EE).sl (dp (G1 rfl rfl) (dm ?_));refine Fz 29 rfl (λc2=>?_) (λc2=>?_)
   ·obtain⟨Bn,xg,r,Y⟩:=hI.all J.size;have hj:Ip l (k+1)=((Ip l k).1++[[]++[c]],0+Gn c):=by rw[Oc hk,VU (.inl (A5 EA))]
    refine dk (dk (dk (dk (EO (de xm ?_)))));refine GD rfl (ws λ_ xw=>wr (dm (dm (dm ?_))));refine dv 161 7 (ho.arr EE).sl (pa rfl rfl (dm ?_));refine df 0 rfl (dl rfl (m1.at rfl) (db (zs:=[.int .i64 0,.int .i64 0,.int .i64 0,S [],S []]) (pl:=[(0,1),(1,1),(2,1),(3,1),(4,1)]) (pv:=[(0,_),(1,_),(3,_)]) (cs:=[_,_,.int .i64 0,_,S []]) ?_));refine db (zs:=[.int .i64 0,.int .i64 0,.int .i64 0,S [],S [],.slice none 0 0,.slice none 0 0]) (pl:=[(0,5),(5,1),(6,1)]) (pv:=[(0,.agg ⟨[_,_,_,_,_]⟩)]) (cs:=[_,_,_,_,_,.slice none 0 0,.slice none 0 0]) ?_;refine li (e:=161) (sz:=7) (zs:=[.int .i64 0,.int .i64 0,.int .i64 0,S [],S [],.slice none 0 0,.slice none 0 0]) (pv:=[(0,.agg ⟨[_,_,_,_,_,_,_]⟩)]) (cs:=[_,_,_,_,_,_,_]) RX.all (λb2 w5 e2 x5 m2=>?_);have g2:=J.ge e2;have n2_1:=m1.ltb e2;have o2_ho:=ho.ltb e2;have ho:=ho.ext x5;have m1:=m1.ext x5;have Y:=Y.ext x5;have r:=r.ext x5;have J:=J.trans x5;refine Gv (lx:=[⟨⟨next+↑xs.length,lv,0,c.key,[]⟩,.slice none 0 0,.slice none 0 0⟩]) (e:=161) (sz:=7) (by':=104) rfl E9 E9 EE ho (m2.arr (enc:=Md.cs) (sz:=7) (l:=[⟨⟨next+↑xs.length,lv,0,c.key,[]⟩,.slice none 0 0,.slice none 0 0⟩]) rfl EE rfl (Ap rfl)) rfl rfl (by intro x ha u hu;rw[Ah.1 ha]at hu;simp at hu;rcases hu with rfl|rfl|rfl|rfl|rfl|rfl|rfl<;>rfl) (by simp;omega) EK J.size (.inl rfl) (λvn w6 O x6=>?_);have m1:=m1.mod x6 (by intro h;have h1:=hg _ h;omega);have Y:=Y.mod x6 (by exact Y.ne ho);have r:=r.mod x6 (by trivial);have J:=J.own x6 (λi hi=>(ho.lt i hi).1);have ho:=O;clear m2;refine da (de xw (wr (da (EF (?_)))));exact⟨(xs,⟨⟨next+↑xs.length,lv,0,c.key,[]⟩,.slice none 0 0,.slice none 0 0⟩,(Ip l k).1,[],vn,0,Bn),Mr,J,m1,hj,xg,Ad _,r,ho,Y,Vc.Own.nil,rfl,rfl,rfl,rfl,rfl,by omega,by simp [Value.ownBlock]⟩
   iterate 2 refine dm ?_
   refine pa rfl rfl (dp (FY rfl rfl) (EO (de xm ?_)));refine wi (λc3=>?_) λc3=>?_
   ·obtain⟨Bn,xg,r,Y⟩:=hI.all J.size;have hj:Ip l (k+1)=((Ip l k).1++[[]++[c]],0+Gn c):=by rw[Oc hk,VU (.inr EA)]
    refine ws λ_ yn=>wr (dm (dm (dm ?_)));refine dv 161 7 (ho.arr EE).sl (pa rfl rfl (dm ?_));refine df 0 rfl (dl rfl (m1.at rfl) (db (zs:=[.int .i64 0,.int .i64 0,.int .i64 0,S [],S []]) (pl:=[(0,1),(1,1),(2,1),(3,1),(4,1)]) (pv:=[(0,_),(1,_),(3,_)]) (cs:=[_,_,.int .i64 0,_,S []]) ?_));refine db (zs:=[.int .i64 0,.int .i64 0,.int .i64 0,S [],S [],.slice none 0 0,.slice none 0 0]) (pl:=[(0,5),(5,1),(6,1)]) (pv:=[(0,.agg ⟨[_,_,_,_,_]⟩)]) (cs:=[_,_,_,_,_,.slice none 0 0,.slice none 0 0]) ?_;refine li (e:=161) (sz:=7) (zs:=[.int .i64 0,.int .i64 0,.int .i64 0,S [],S [],.slice none 0 0,.slice none 0 0]) (pv:=[(0,.agg ⟨[_,_,_,_,_,_,_]⟩)]) (cs:=[_,_,_,_,_,_,_]) RX.all (λb3 w7 e3 x7 m3=>?_);have g3:=J.ge e3;have n3_1:=m1.ltb e3;have o3_ho:=ho.ltb e3;have ho:=ho.ext x7;have m1:=m1.ext x7;have Y:=Y.ext x7;have r:=r.ext x7;have J:=J.trans x7;refine Gv (lx:=[⟨⟨next+↑xs.length,lv,0,c.key,[]⟩,.slice none 0 0,.slice none 0 0⟩]) (e:=161) (sz:=7) (by':=104) rfl E9 E9 EE ho (m3.arr (enc:=Md.cs) (sz:=7) (l:=[⟨⟨next+↑xs.length,lv,0,c.key,[]⟩,.slice none 0 0,.slice none 0 0⟩]) rfl EE rfl (Ap rfl)) rfl rfl (by intro x ha u hu;rw[Ah.1 ha]at hu;simp at hu;rcases hu with rfl|rfl|rfl|rfl|rfl|rfl|rfl<;>rfl) (by simp;omega) EK J.size (.inl rfl) (λvn w8 O x8=>?_);have m1:=m1.mod x8 (by intro h;have h1:=hg _ h;omega);have Y:=Y.mod x8 (by exact Y.ne ho);have r:=r.mod x8 (by trivial);have J:=J.own x8 (λi hi=>(ho.lt i hi).1);have ho:=O;clear m3;refine da (de yn (wr (da (EF (?_)))));exact⟨(xs,⟨⟨next+↑xs.length,lv,0,c.key,[]⟩,.slice none 0 0,.slice none 0 0⟩,(Ip l k).1,[],vn,0,Bn),Mr,J,m1,hj,xg,Ad _,r,ho,Y,Vc.Own.nil,rfl,rfl,rfl,rfl,rfl,by omega,by simp [Value.ownBlock]⟩
   rcases hI with⟨rfl,_⟩|⟨ys,x,ss,s,B1,rfl,hR,⟨hb,r⟩,Y,hL,Z⟩
   ·simp at c2
   have xe:x.vl.ownBlock≠some b1:=λe=>by have:=hr x EQ b1 e;omega
   refine EG ?_;exact⟨(ys,x,ss,s,va,(Ip l k).2,B1),Mr,J,m1,by rw[Oc hk,show Ip l k=(ss++[s],(Ip l k).2) from Prod.ext hR rfl,Xtm EA],hb,by omega,r,ho,Y,Z,hL.1,hL.2.1,hL.2.2.1,by rw[Ybz hL.2.2.2.2.2.2.1];exact hL.2.2.2.1,hL.2.2.2.2.2.1,by simp at yo;omega,xe⟩
  intro X9 g9 w9 yp;obtain⟨ys,x,ss,s,va,z,B1⟩:=g9;clear J ho hI m1;obtain⟨J,m1,hw,hb,hz9,r,ho,Y,Z,q1,q2,q3,q4,q5,q6,xe⟩:=yp;have xq:(ys++[x])[ys.length]?=some x:=by simp
  have xr:s.length<=30000:=by
   have h9:=(MU l (k+1) EA).1;rw[hw]at h9;have h8:=U8 h9 (show s++[c]∈ss++[s++[c]] by simp);rw[Ab,List.length_take]at h8;omega
  refine ws λ_ xx=>wr (dm (dm ?_));refine pa rfl rfl (da (de xx (ws λ_ yg=>wr (dm (dm ?_)))));refine dv 161 7 (ho.arr EE).sl (EW (v:=I ↑ys.length) rfl (Ga rfl rfl (by unfold ET;simp;omega)) (by show I _=I _;congr 1;simp) (EW (v:=ED (base va).1 (ys.length*7+0)) rfl (HM (i:=ys.length) (e:=161) (k:=7) E9 ho.sl rfl rfl (by simp;done)) (by rw[JP ho EQ];show ED _ (0+_)=_;rw[A9];rfl) (da (de yg ?_))));refine L0 (R:=Mod (λk=>va.ownBlock=some k\/x.vl.ownBlock=some k)) J0 JY E9 [6,10] (.one 0 .p false (.one 1 .p false (.one 2 .p false (.one 3 .p false (.one 4 .p false (.one 6 .l false (.one 9 .p false (.one 10 .l false (.fork (.alt 5 false (.one 7 .x false (.one 8 .x false (.one 11 .p false (.one 12 .p false (.one 13 .x false (.one 14 .p false (.one 15 .p false (.one 16 .p false (.one 17 .x true .nil))))))))) (.alt 7 false (.one 5 .x false (.one 8 .x false (.one 11 .p false (.one 12 .p false (.one 13 .x false (.one 14 .p false (.one 15 .p false (.one 16 .p false (.one 17 .x true .nil))))))))) .stop))))))))))) E9 E9 (λxv xi=>?_);have hh:=EJ xi;clear xi;have m1:=m1.ext hh;have ho:=ho.ext hh;have Y:=Y.ext hh;have Z:=Z.ext hh;have r:=r.ext hh;have J:=J.trans hh;refine EY (dm (EF ?_));refine EY (dm (EF ?_));refine EY (dm (EF ?_));refine EY (dz rfl (EF (EY (df 5 rfl (EF (EY (FK rfl (λw' hR=>Fb (k:=4) E9 rfl rfl (m1.mod hR (λe=>e.elim (λe=>ho.ne_blk m1 rfl e) xe)).row) (EF (EY (df 0 rfl (EF (EY (dL rfl (λ_ hR=>((m1.mod hR (λe=>e.elim (λe=>ho.ne_blk m1 rfl e) xe)).at rfl)) ?_)))))))))))));refine EF (JE ?_);refine H6 ?_ ?_
  ·refine HL (v:=x.vl) (w':=xv) rfl (MA E9 rfl (((Qx ho).row xq).at rfl)) (λ_=>J0 _) (EF (EY (li (e:=79) (sz:=4) (zs:=[S [],S [],B false,.int .i64 0]) (pv:=[(0,.agg ⟨[_,_,_,_]⟩)]) (cs:=[_,_,_,_]) RX.mod (λb4 w11 e4 ht m4=>?_))));have g4:=J.ge e4;have o4_ho:=ho.ltb e4;have o4_hl:=Z.ltb e4;have ho:=ho.ext ht;have Y:=Y.ext ht;have Z:=Z.ext ht;have r:=r.ext ht;have J:=J.trans ht;refine EF (EY ?_);refine Gv (lx:=[c]) (e:=79) (sz:=4) (by':=48) rfl E9 E9 EE Z (m4.arr (enc:=Cell.cs) (sz:=4) (l:=[c]) rfl EE rfl (Ap rfl)) rfl rfl (by intro x ha u hu;rw[Ah.1 ha]at hu;simp at hu;rcases hu with rfl|rfl|rfl|rfl<;>rfl) (by have:=xr;simp;omega) EK r.le (.inr (λw9 h9=>h9.mono (λi hi _=>.inr hi))) (λvp w12 hp xa=>?_);have ho:=ho.mod xa (by exact(λk hk=>ho.ne Z rfl hk));have Y:=Y.mod xa (by exact Y.sep Z);have r:=r.mod xa (by trivial);have J:=J.own xa (λi hi=>(Ae hb (Z.lt i hi).1));have Z:=hp;clear m4;refine EF (EY (dz rfl (EF (EY (df 5 rfl (EF (EY (H5 (enc:=Md.cs) (sz:=7) (l:=(ys++[x])) (i:=ys.length) (j:=5) (x:=⟨x.f,vp,x.vb⟩) (vs:=[vp]) EE rfl ho rfl rfl (by exact Z.sl.cells) E9 (by simp;done) (by rw[Pc];rfl) (Ap rfl) (by intro u hu;rw[Ah.1 hu];exact Z.sl.one) (.inr (λw9 h9=>h9.mono (λi hi _=>.inl hi))) (λw13 h6 xs13 O=>?_)))))))));have Y:=Y.mod h6 (Y.ne ho);have Z:=Z.mod h6 (λk hk=>Z.ne ho rfl hk);have r:=r.mod h6 trivial;have J:=J.own h6 (λi hi=>(ho.lt i hi).1);have ho:=O;rw[O9]at ho;refine EF (EY (dz rfl (EF (EY (df 0 rfl (EF (EY (df 4 rfl (EF (EY (H5 (enc:=Md.cs) (sz:=7) (l:=(ys++[⟨x.f,vp,x.vb⟩])) (i:=ys.length) (j:=4) (x:=⟨⟨x.f.id,x.f.lev,x.f.size,x.f.fst,c.key⟩,vp,x.vb⟩) (vs:=[S c.key]) EE rfl ho rfl rfl rfl E9 (by simp;done) (by rw[Pc];rfl) (Ap rfl) (by intro u hu;rw[Ah.1 hu];rfl) (.inl rfl) (λw14 xf xs14 O=>?_))))))))))));have Y:=Y.mod xf (Y.ne ho);have Z:=Z.mod xf (λk hk=>Z.ne ho rfl hk);have r:=r.mod xf trivial;have J:=J.own xf (λi hi=>(ho.lt i hi).1);have ho:=O;rw[O9]at ho;refine EF (Im (Z8 _ _ (wr (pa rfl rfl (dm (EF (?_)))))));have xj:=Ub (l:=l) (λc hc=>by have:=hc9 c hc;unfold Gn;omega) (k+1) EA;refine⟨(k+1,ys++[⟨⟨x.f.id,x.f.lev,x.f.size,x.f.fst,c.key⟩,vp,x.vb⟩],va),?_,⟨J,by omega,xj,ho,.inr ⟨ys,_,ss,s++[c],B1,rfl,by rw[hw],⟨hb,r⟩,Y,⟨q1,q2,q3,q4,by rw[Tl],q5,by simp,Z.mono hb⟩,Z⟩⟩,by simp only [];omega⟩;dsimp only;rw[hw];exact Je
  refine H6 ?_ ?_
  ·refine li (e:=79) (sz:=4) (zs:=[S [],S [],B false,.int .i64 0]) (pv:=[(0,.agg ⟨[_,_,_,_]⟩)]) (cs:=[_,_,_,_]) RX.mod (λb5 xz e5 hq m5=>?_);have g5:=J.ge e5;have o5_ho:=ho.ltb e5;have o5_hl:=Z.ltb e5;have ho:=ho.ext hq;have Y:=Y.ext hq;have Z:=Z.ext hq;have r:=r.ext hq;have J:=J.trans hq;refine EF (EY (HL (v:=x.vl) (w':=xz) rfl (MA E9 rfl (((Qx ho).row xq).at rfl)) (λ_=>J0 _) (EF (EY ?_))));refine Gv (lx:=[c]) (e:=79) (sz:=4) (by':=48) rfl E9 E9 EE Z (m5.arr (enc:=Cell.cs) (sz:=4) (l:=[c]) rfl EE rfl (Ap rfl)) rfl rfl (by intro x ha u hu;rw[Ah.1 ha]at hu;simp at hu;rcases hu with rfl|rfl|rfl|rfl<;>rfl) (by have:=xr;simp;omega) EK r.le (.inr (λw9 h9=>h9.mono (λi hi _=>.inr hi))) (λvp w16 hp xh=>?_);have ho:=ho.mod xh (by exact(λk hk=>ho.ne Z rfl hk));have Y:=Y.mod xh (by exact Y.sep Z);have r:=r.mod xh (by trivial);have J:=J.own xh (λi hi=>(Ae hb (Z.lt i hi).1));have Z:=hp;clear m5;refine EF (EY (dz rfl (EF (EY (df 5 rfl (EF (EY (H5 (enc:=Md.cs) (sz:=7) (l:=(ys++[x])) (i:=ys.length) (j:=5) (x:=⟨x.f,vp,x.vb⟩) (vs:=[vp]) EE rfl ho rfl rfl (by exact Z.sl.cells) E9 (by simp;done) (by rw[Pc];rfl) (Ap rfl) (by intro u hu;rw[Ah.1 hu];exact Z.sl.one) (.inr (λw9 h9=>h9.mono (λi hi _=>.inl hi))) (λw17 h7 xs17 O=>?_)))))))));have Y:=Y.mod h7 (Y.ne ho);have Z:=Z.mod h7 (λk hk=>Z.ne ho rfl hk);have r:=r.mod h7 trivial;have J:=J.own h7 (λi hi=>(ho.lt i hi).1);have ho:=O;rw[O9]at ho;refine EF (EY (dz rfl (EF (EY (df 0 rfl (EF (EY (df 4 rfl (EF (EY (H5 (enc:=Md.cs) (sz:=7) (l:=(ys++[⟨x.f,vp,x.vb⟩])) (i:=ys.length) (j:=4) (x:=⟨⟨x.f.id,x.f.lev,x.f.size,x.f.fst,c.key⟩,vp,x.vb⟩) (vs:=[S c.key]) EE rfl ho rfl rfl rfl E9 (by simp;done) (by rw[Pc];rfl) (Ap rfl) (by intro u hu;rw[Ah.1 hu];rfl) (.inl rfl) (λw18 xb xs18 O=>?_))))))))))));have Y:=Y.mod xb (Y.ne ho);have Z:=Z.mod xb (λk hk=>Z.ne ho rfl hk);have r:=r.mod xb trivial;have J:=J.own xb (λi hi=>(ho.lt i hi).1);have ho:=O;rw[O9]at ho;refine EF (Im (Z8 _ _ (wr (pa rfl rfl (dm (EF (?_)))))));have xj:=Ub (l:=l) (λc hc=>by have:=hc9 c hc;unfold Gn;omega) (k+1) EA;refine⟨(k+1,ys++[⟨⟨x.f.id,x.f.lev,x.f.size,x.f.fst,c.key⟩,vp,x.vb⟩],va),?_,⟨J,by omega,xj,ho,.inr ⟨ys,_,ss,s++[c],B1,rfl,by rw[hw],⟨hb,r⟩,Y,⟨q1,q2,q3,q4,by rw[Tl],q5,by simp,Z.mono hb⟩,Z⟩⟩,by simp only [];omega⟩;dsimp only;rw[hw];exact Je
  exact J8
 have hnx9:xs.length<=30000:=by have h8:=hI.len;have h9:=(MU l k xl).2;omega
 obtain⟨Bn,xg,_,Y⟩:=hI.all J.size;rw[Rz EA]at Y;obtain⟨B2,hB2,hvf,hS,hP⟩:∃B2,w.heap.size<=B2/\(∀k,va.ownBlock=some k->k<B2)/\Sz B2 _/\Jc w.heap.size B2 lv next 0 xs (F7 l) _:=⟨_,J.size,λk hk=>(ho.lt k hk).2,⟨Aa _⟩,Jc.zero Y⟩;clear Y;refine Ff (Z4 _ _ (ws λ_ x0=>ws λ_ yk=>wr (dm ?_)));refine dv 161 7 (ho.arr EE).sl (dm (de yk (EN ?_)));refine Fk (G:=Nat×List Md) (λ(i,ms)=>[(8,va),(72,va),(73,I ↑xs.length),(74,I ↑i)]) (λ(i,ms) w'=>EB w w'/\i<=xs.length/\ms.length=xs.length/\Vc.Own Md.cs 7 161 w.heap.size w' va ms/\Jc w.heap.size B2 lv next i ms (F7 l) w'/\Sz B2 w') (λ(i,ms)=>xs.length-i) (0,xs) ?_ ?_ ?_
 ·exact FU
 ·exact⟨J,Ad _,rfl,ho,hP,hS⟩
 intro X19 xu w19 xo;obtain⟨i,ms⟩:=xu;clear J ho hS hP;obtain⟨J,hi1,yc,ho,hP,hS⟩:=xo;refine ws λ_ yr=>wr (dp (Fa rfl rfl) (de yr (ws λ_ yl=>wi (λc4=>?_) λc4=>?_)))
 ·obtain⟨x,hk⟩:∃x,ms[i]?=some x:=Fq;obtain⟨sg,hsi⟩:∃sg,(F7 l)[i]?=some sg:=⟨_,Av (by have:=hP.1;omega)⟩;have ya:=(hP.2 i x sg hk hsi).2 (Aa _);have hsl9:=U8 (Q2 l) (Ak hsi);have xt:ms≠[]:=λe=>by rw[e]at hk;simp at hk
  refine EG (yl _ _ (ws λ_ yj=>EN (ws λ_ ym=>wr (dm (da (de ym (ws λ_ yh=>wr (dm (dm ?_)))))))));refine EW (v:=ED (base va).1 (i*7+0)) rfl (HM (i:=i) (e:=161) (k:=7) E9 ho.sl rfl rfl EA) (by rw[JP ho xt];show ED _ (0+_)=_;rw[A9];rfl) (da (de yh (ws λ_ yu=>wr (dm ?_))));refine dz rfl (df 5 rfl (dl rfl (((Qx ho).row hk).at rfl) ?_));have yq:=hS.le;refine cG (SR sg x.vl _ ((ya.2.2.2.2.2.2.2.ext (EB.refl _)).arr EE) EA) RX.all λu20 w20 h5 xk=>?_;have hsz20:=J.size;have ho:=ho.ext h5;have hP:=hP.ext h5;have hS:=hS.ext h5;have J:=J.trans h5;obtain⟨hz,rfl,yf⟩:=xk;refine dm ?_;refine dx rfl rfl (dx rfl rfl (da (da (de yu (ws λ_ yt=>ws λ_ yv=>wr (dm ?_))))));refine dp (F8 rfl rfl) (de yv (wi (λc5=>?_) λc5=>?_))
  ·refine ws λ_ ye=>wr (dm (da (da (de ye (EH ?_)))));refine rt ?_;exact⟨_,rfl,J,.inl ⟨sg,Ak hsi,c5,rfl⟩⟩
  have xn:H7 sg=0:=AI c5;obtain⟨hf,xy⟩:=yf xn;have xp:=Ae yq xy;refine EG (yt _ _ (wr (dm (dm (dm (dm ?_))))));refine dv 5 1 hf.sl (dz rfl (df 6 rfl ?_));refine H5 (enc:=Md.cs) (sz:=7) (l:=ms) (i:=i) (j:=6) (x:=⟨x.f,x.vl,hz⟩) (vs:=[hz]) EE rfl ho rfl rfl (by exact hf.sl.cells) E9 (by omega) (by rw[BQ,hk];rfl) (Ap rfl) (by intro u hu;rw[Ah.1 hu];exact hf.sl.one) (.inl rfl) (λw21 xc xs21 O=>?_);have hP:=hP.mod ho hvf xc;have hf:=hf.mod xc (λ_ e=>by have:=hvf _ e;omega);have hS:=hS.mod xc trivial;have J:=J.own xc (λi hi=>(ho.lt i hi).1);have ho:=O;refine dz rfl (df 0 rfl (df 2 rfl ?_));refine H5 (enc:=Md.cs) (sz:=7) (l:=(ms.set i ⟨x.f,x.vl,hz⟩)) (i:=i) (j:=2) (x:=⟨⟨x.f.id,x.f.lev,↑(EI (Fy sg)).length,x.f.fst,x.f.lst⟩,x.vl,hz⟩) (vs:=[I ↑(EI (Fy sg)).length]) EE rfl ho rfl rfl rfl E9 (by simp;omega) (by rw[BQ,BB EA];rfl) (Ap rfl) (by intro u hu;rw[Ah.1 hu];rfl) (.inl rfl) (λw22 xd xs22 O=>?_);have hP:=hP.mod ho hvf xd;have hf:=hf.mod xd (λ_ e=>by have:=hvf _ e;omega);have hS:=hS.mod xd trivial;have J:=J.own xd (λi hi=>(ho.lt i hi).1);have ho:=O;rw[List.set_set]at ho;refine de yj (wr (pa rfl rfl (dm (EF (?_)))));exact⟨(i+1,_),FU,⟨J,by omega,by rw[AG];exact yc,ho,hP.step hk hsi xn hf xp,hS⟩,by simp only [];omega⟩
 refine Ff (x0 _ _ (ws λ_ x1=>wr (dm (da (da (de x1 (EH ?_)))))));refine rt ?_;exact⟨_,rfl,J,.inr ⟨va,ms,rfl,ho,hP.fin EA hB2⟩⟩
@[reducible] def Ycg (q:Md×EC):List Value:=q.1.cs
def GY : List (Int×EC)->Dsk->Int×Dsk
 | [],D=>(0,D)
 | q :: r,D=>if(D.save (Gb q.1) q.2).1≠0 then D.save (Gb q.1) q.2 else GY r (D.save (Gb q.1) q.2).2
theorem Td {qs:List (Int×EC)}{k:Nat}{q:Int×EC}{D:Dsk}(h:qs[k]?=some q)(he:(D.save (Gb q.1) q.2).1≠0):GY (qs.drop k) D=D.save (Gb q.1) q.2:=by
 rw[HY h];unfold GY;rw[if_pos he]
theorem SI {qs:List (Int×EC)}{k:Nat}{q:Int×EC}{D:Dsk}(h:qs[k]?=some q)(he:(D.save (Gb q.1) q.2).1=0):GY (qs.drop k) D=GY (qs.drop (k+1)) (D.save (Gb q.1) q.2).2:=by
 rw[HY h];rw[GY.eq_2,if_neg (by rw[he];decide)]
theorem N9 {n:Int}(h:ET n):(Lib.itoa n).length<=21:=Lib.itoa_length_le n h.1 (by have:=h.2;omega)
theorem PS {n:Int}(h:ET n):(Gb n).length<=22:=by have:=N9 h;unfold Gb;simp;omega
theorem X67 (κ:Nat->Nat)(bs bd bl bo bm:Nat)(vf:Value)(L:Led)(D:Dsk)(V:Vs)(ts:List Tb)(mem:List Cell)(dead:Bool)(qs:List (Md×EC))(va:Value)(w:World)(h:StE κ bs bd bl bo bm vf L D V ts mem dead w)(hg:GV w)(hgs:∀k,Li k->κ k=0)(ha:EM Md.cs 7 w va (qs.map (·.1)))(hal:qs.length<=40000)(hak:qs≠[]->κ (base va).1=0)(hq:∀q∈qs,EM EP 1 w q.1.vb q.2/\q.2.length<=2001000020/\ET q.1.f.id/\(q.2≠[]->κ (base q.1.vb).1=0)/\q.1.vl.oneCell'=true) :
  Calls Tryz.prog 93 [ED bs 0,va].toArray w (Fh (λk=>κ k=1) w (λu w'=>u=I (GY (qs.map λq=>(q.1.f.id,q.2)) D).1/\∃κ',(∀k,k<w.heap.size->κ' k=κ k)/\StE κ' bs bd bl bo bm vf L (GY (qs.map λq=>(q.1.f.id,q.2)) D).2 V ts mem dead w')):=by
 refine cw Tryz.func93 ?_;have r:=Vc.Mod.refl (λk=>κ k=1) w;have z:=h;have hlt0:=h.lt;have hmlen:(qs.map (·.1)).length=qs.length:=An _;refine ws λ_ Z1=>wr (da (de Z1 (ws λ_ Z2=>ws λ_ Z3=>wr (dm ?_))));refine dv 161 7 (ha.mod r (λhl e=>by have e2:κ (base va).1=1:=e;rw[hak (by rintro rfl;exact hl rfl)]at e2;cases e2)).sl (dm (de Z3 (EN ?_)));refine Fk (G:=Nat×(Nat->Nat)×Dsk) (λ(k,κ1,D1)=>[(0,ED bs 0),(8,va),(9,I ↑(qs.map (·.1)).length),(10,I ↑k)]) (λ(k,κ1,D1) w'=>Mod (λk=>κ k=1) w w'/\k<=qs.length/\GY (qs.map λq=>(q.1.f.id,q.2)) D=GY ((qs.map λq=>(q.1.f.id,q.2)).drop k) D1/\(∀k,k<w.heap.size->κ1 k=κ k)/\StE κ1 bs bd bl bo bm vf L D1 V ts mem dead w') (λ(k,κ1,D1)=>qs.length-k) (0,κ,D) ?_ ?_ ?_
 ·exact FU
 ·exact⟨r,Ad _,rfl,λ_ _=>rfl,z⟩
 intro X1 g1 w1 xj;obtain⟨k,κ1,D1⟩:=g1;clear r z;obtain⟨r,hk1,hh,hc,z⟩:=xj;refine ws λ_ Z4=>wr (dp (Fa rfl rfl) (de Z4 (ws λ_ Z5=>wi (λc1=>?_) λc1=>?_)))
 ·obtain⟨q,hk⟩:∃q,qs[k]?=some q:=Fq;obtain⟨hb,xa,hp,h5,xi⟩:=hq q (Ak hk);have h7:(qs.map (·.1))[k]?=some q.1:=by simp [hk]
  have hj:((qs.map λq=>(q.1.f.id,q.2)))[k]?=some (q.1.f.id,q.2):=by simp [hk]
  have hnl:=PS hp;have hil:=N9 hp;refine EG (Z5 _ _ (ws λ_ Z6=>EN (ws λ_ Z7=>wr (di 161 7 ha.sl rfl (ha.lt h7) (dq (Fb E9 rfl rfl ((ha.mod r (λhl e=>by have e2:κ (base va).1=1:=e;rw[hak (by rintro rfl;exact hl rfl)]at e2;cases e2)).row h7)) (FG (cs:=[.int .i64 0,.int .i64 0,.int .i64 0,S [],S [],.slice none 0 0,.slice none 0 0]) rfl E9 RX.all (λb1 w2 e1 x2 m1=>?_)))))));have g1:=r.ge e1;have Z:=z.lt;have z:=z.ext x2;have r:=r.ext x2;refine FM m1 (λw3 x3 xs3 m1=>?_) (h1:=by(intro u hu;simp only [Aj,Ct,or_false]at hu;rcases hu with e|e|e|e|e|e|e<;>subst e<;>first|rfl|exact xi|exact hb.sl.one));dsimp only [Fe,Ag,Af,Ai]at m1;have z:=z.mod x3 (λk9 h9 e9=>by have h2:k9=b1:=e9;have h8:=Z k9 h9;omega);have r:=r.o1 x3;refine de Z7 (ws λ_ Z8=>L0 (R:=Mod (λk=>κ1 k=1)) J0 JY E9 [3,6,9] (.one 0 .p false (.one 1 .p false (.one 2 .p false (.one 3 .l false (.one 4 .p false (.one 5 .p false (.one 6 .l false (.one 8 .p false (.one 9 .l false (.fork (.alt 7 false (.one 10 .x false (.one 11 .x false (.one 12 .p false .nil))) (.alt 10 false (.one 7 .x false (.one 11 .x false (.one 12 .p false .nil))) .stop)))))))))))) E9 E9 (λw4 xb=>?_));have x4:=EJ xb;clear xb;have z:=z.ext x4;have m1:=m1.ext x4;have r:=r.ext x4;refine EY (dm (EF ?_));refine EY (dz rfl (EF (EY (df 0 rfl (EF (EY (dL rfl (λ_ hR=>((z.m.mod hR (λe=>by have e2:κ1 bs=1:=e;rw[z.k0]at e2;cases e2)).at rfl)) (EF (EY (df 0 rfl (EF (EY (df 0 rfl ?_)))))))))))));refine EF (EY (dL rfl (λ_ hR=>((m1.mod hR (λe=>by have e2:κ1 b1=1:=e;have:=Z b1 (by rw[e2];decide);omega)).at rfl)) (EF (EY (df 6 rfl (EF (EY (dL rfl (λ_ hR=>((m1.mod hR (λe=>by have e2:κ1 b1=1:=e;have:=Z b1 (by rw[e2];decide);omega)).at rfl)) (EF (JE ?_))))))))));refine H6 ?_ ?_
  ·refine cP (N8 q.1.f.id _ (hg.mod r (λk hk e=>by have e2:κ k=1:=e;rw[hgs k hk]at e2;cases e2)) hp EA) RX.mod λw5 x5=>?_;have z:=z.ext x5;have r:=r.ext x5;refine EF (EY ?_);refine Ib (e:=82) (sz:=1) (zs:=[.slice none 0 0]) (pv:=[(0,?a6_0)]) (cs:=[?a6_0]) rfl E9 ⟨rfl,rfl⟩ E9 rfl ?h6 ?f6 RX.mod (λb2 w6 e2 x6 m2=>?k6)
   case h6=>refine⟨rfl,?_,trivial⟩<;>(conv=>lhs;whnf)
   case f6=>simp [Hw,Fe,Aw,hb.sl.cells]
   have g2:=r.ge e2;have a2_hS:=z.lt;have z:=z.ext x6;have r:=r.ext x6;refine EF (EY ?_);have hf:=r.size;obtain⟨F,hD,O,Y⟩:=z.ld.disk;refine JT rfl E9 (QK F bd D1 (Gb q.1.f.id) q.2 q.1.vb _ _ hD (m2.arr (enc:=λx:Value=>[x]) (sz:=1) (l:=[q.1.vb]) rfl EE rfl EQ) (hb.mod r (λhl e=>by have e2:κ (base q.1.vb).1=1:=e;rw[h5 hl]at e2;cases e2)) xa EA) rfl (.inr λw9 h9=>h9.mono (λi hi _=>O i hi)) (λu7 w7 x7 xe=>?_);have hsz7:=r.size;have r:=r.own x7 (λi hi hy=>(by have e1:=O i hi;rw[<-hc i hy];exact e1));obtain⟨rfl,ht⟩:=xe;have hw:=z.ledger (x7.mono (λi hi _=>O i hi)) (Y _ _ x7 ht);have J:=λk (hk:k<w.heap.size)=>(Ld (κ:=κ1) (i:=1) (w':=w7) (A0 hk hf)).trans (hc k hk);have z:=hw;refine EF (EY (da (EF ?_)));refine Im (Z8 _ _ (ws λ_ Z9=>wr (dm ?_)));refine dp (F8 rfl rfl) (de Z9 (wi (λc2=>?_) λc2=>?_))
   ·refine ws λ_ xg=>wr (dm (da (de xg (EH ?_))));refine ro ?_;rw[hh,Td hj c2];exact⟨_,rfl,r,rfl,_,J,z⟩
   refine EG (Z6 _ _ (wr (pa rfl rfl (dm (EF (?_))))));exact⟨(k+1,_,_),FU,⟨r,by omega,by rw[hh,SI hj (AI (by exact c2))],J,z⟩,by simp only [];omega⟩
  refine H6 ?_ ?_
  ·refine Ib (e:=82) (sz:=1) (zs:=[.slice none 0 0]) (pv:=[(0,?a13_0)]) (cs:=[?a13_0]) rfl E9 ⟨rfl,rfl⟩ E9 rfl ?h13 ?f13 RX.mod (λb3 w8 e3 x8 m3=>?k13)
   case h13=>refine⟨rfl,?_,trivial⟩<;>(conv=>lhs;whnf)
   case f13=>simp [Hw,Fe,Aw,hb.sl.cells]
   have g3:=r.ge e3;have a3_hS:=z.lt;have z:=z.ext x8;have r:=r.ext x8;refine EF (EY (cP (N8 q.1.f.id _ (hg.mod r (λk hk e=>by have e2:κ k=1:=e;rw[hgs k hk]at e2;cases e2)) hp EA) RX.mod λw9 x9=>?_));have z:=z.ext x9;have m3:=m3.ext x9;have r:=r.ext x9;refine EF (EY ?_);have hf:=r.size;obtain⟨F,hD,O,Y⟩:=z.ld.disk;refine JT rfl E9 (QK F bd D1 (Gb q.1.f.id) q.2 q.1.vb _ _ hD (m3.arr (enc:=λx:Value=>[x]) (sz:=1) (l:=[q.1.vb]) rfl EE rfl EQ) (hb.mod r (λhl e=>by have e2:κ (base q.1.vb).1=1:=e;rw[h5 hl]at e2;cases e2)) xa EA) rfl (.inr λw9 h9=>h9.mono (λi hi _=>O i hi)) (λu10 xc hr hz=>?_);have hsz10:=r.size;have r:=r.own hr (λi hi hy=>(by have e1:=O i hi;rw[<-hc i hy];exact e1));obtain⟨rfl,ht⟩:=hz;have hw:=z.ledger (hr.mono (λi hi _=>O i hi)) (Y _ _ hr ht);have J:=λk (hk:k<w.heap.size)=>(Ld (κ:=κ1) (i:=1) (w':=xc) (A0 hk hf)).trans (hc k hk);have z:=hw;refine EF (EY (da (EF ?_)));refine Im (Z8 _ _ (ws λ_ xh=>wr (dm ?_)));refine dp (F8 rfl rfl) (de xh (wi (λc3=>?_) λc3=>?_))
   ·refine ws λ_ xd=>wr (dm (da (de xd (EH ?_))));refine ro ?_;rw[hh,Td hj c3];exact⟨_,rfl,r,rfl,_,J,z⟩
   refine EG (Z6 _ _ (wr (pa rfl rfl (dm (EF (?_))))));exact⟨(k+1,_,_),FU,⟨r,by omega,by rw[hh,SI hj (AI (by exact c3))],J,z⟩,by simp only [];omega⟩
  exact J8
 refine Ff (Z2 _ _ (ws λ_ xf=>wr (da (de xf (EH ?_)))));refine ro ?_;rw[hh,List.drop_of_length_le (by rw[An];simp at c1;omega)];exact⟨_,rfl,r,rfl,_,hc,z⟩
def IX (κ:Nat->Nat)(bt:Nat)(vl vb:Value):Nat->Nat:=λk=>if k=bt\/k=(base vl).1\/k=(base vb).1 then 6 else κ k
theorem Xtn (tbs:List Tb):∀ts:List Tb,(tbs.foldl G4 ts).length<=ts.length+tbs.length:=by
 induction tbs with
 | nil=>intro ts;exact Aa _
 | cons t r ih=>
  intro ts;have h1:=ih (G4 ts t);have h2:(G4 ts t).length<=ts.length+1:=by unfold G4;split<;>simp
  show((r.foldl G4 (G4 ts t)).length<=_);simp only [AB];omega
def Lm (ts:List Tb)(gone:List Fi):List Tb:=gone.foldl (λts f=>J2 ts (f.lev,f.id)) ts
theorem Xqc {ts:List Tb}{gone:List Fi}{j:Nat}{f:Fi}(h:gone[j]?=some f):Lm ts (gone.take (j+1))=J2 (Lm ts (gone.take j)) (f.lev,f.id):=by unfold Lm;rw[Gs h,Bz];rfl
section
variable {κ:Nat->Nat}{bs bd bl bo bm:Nat}{vf:Value}{L:Led}{D:Dsk}{V:Vs}{ts:List Tb}{mem:List Cell}{dead:Bool}{w w':World}
theorem StE.addT {t:Tb}(h:StE κ bs bd bl bo bm vf L D V ts mem dead w)(hT:TblE t.bt t.vl t.vb t.cs w)(hn:∀k,IS t.bt t.vl t.vb k->κ k=0)(m:Vc.Mod (ES bo) w w')(hm:F9 Tryz.prog 104 Gi pO w' bo (EX (ts.map Tb.kv) t.h (some t.bt))):StE (IX κ t.bt t.vl t.vb) bs bd bl bo bm vf L D V (G4 ts t) mem dead w':=by
 have o:∀k,κ k≠0->IX κ t.bt t.vl t.vb k=κ k:=λk hk=>by
  unfold IX;rw[if_neg];intro e;exact hk (hn k e)
 have z:=h.relab o (λk hk=>by
  unfold IX at hk;split at hk
  ·rename_i e;exact hT.lt k e
  ·exact h.lt k hk)
 refine z.setMap m (by rw[X6z];exact hm) λq r=>?_;rcases X0v r with rfl|r
 ·exact⟨hT,λk hk=>by unfold IX;rw[if_pos hk]⟩
 ·exact⟨z.tb q r,z.k6 q r⟩
theorem StE.subT {x:Int×Int}(h:StE κ bs bd bl bo bm vf L D V ts mem dead w)(m:Vc.Mod (ES bo) w w')(hm:F9 Tryz.prog 104 Gi pO w' bo (FO (ts.map Tb.kv) x)):StE κ bs bd bl bo bm vf L D V (J2 ts x) mem dead w':=
 h.setMap m (by rw[X60];exact hm) λq r=>⟨h.tb q (Az.1 r).1,h.k6 q (Az.1 r).1⟩
end
theorem X68 (κ:Nat->Nat)(bs bd bl bo bm:Nat)(vf:Value)(L:Led)(D:Dsk)(V:Vs)(ts:List Tb)(mem:List Cell)(dead:Bool)(V':Vs)(vf':Value)(qs:List (Md×List Cell))(va:Value)(gone:List Fi)(vg:Value)(w:World)(h:StE κ bs bd bl bo bm vf L D V ts mem dead w)(hvf:EM Fi.cs 5 w vf' V'.fs)(hvk:V'.fs≠[]->κ (base vf').1=0)(ha:EM Md.cs 7 w va (qs.map (·.1)))(hal:qs.length<=40000)(hak:qs≠[]->κ (base va).1=0)(hq:∀q∈qs,EM EP 1 w q.1.vb (EI (Fy q.2))/\H7 q.2=0/\ET q.1.f.id/\ET q.1.f.lev/\(EI (Fy q.2)≠[]->κ (base q.1.vb).1=0)/\q.1.vl.oneCell'=true)(hg:EM Fi.cs 5 w vg gone)(hgl:gone.length<=40000)(hgk:gone≠[]->κ (base vg).1=0)(hgi:∀f∈gone,ET f.id/\ET f.lev)(htl:ts.length<=1000000) :
  Calls Tryz.prog 95 [ED bs 0,.agg ⟨[I V'.next,vf']⟩,va,vg].toArray w (Fh (λk=>κ k≠0) w (λu w'=>u=I 0/\∃κ' ts',(∀k,k<w.heap.size->(V'.fs≠[]->k≠(base vf').1)->κ' k=κ k)/\(∃tbs:List Tb,tbs.map (λt=>(t.h,t.cs))=qs.map (λq=>((q.1.f.lev,q.1.f.id),q.2))/\ts'=Lm (tbs.foldl G4 ts) gone)/\StE κ' bs bd bl bo bm vf' L D V' ts' mem dead w')):=by
 refine cw Tryz.func95 ?_;have z:=Vc.Mod.refl (λk=>κ k≠0) w;have r:=h;have hmlen:(qs.map (·.1)).length=qs.length:=An _;refine ws λ_ Z1=>wr (Gc rfl rfl rfl RX.all (λb1 w1 e1 x1 J=>?_));have g1:=z.ge e1;have a1_hS:=r.lt;have r:=r.ext x1;have z:=z.ext x1;refine da (de Z1 (ws λ_ Z2=>ws λ_ Z3=>wr (dm ?_)));refine dv 161 7 (ha.mod z (λO e=>e (hak (by rintro rfl;exact O rfl)))).sl (dm (de Z3 (EN ?_)));refine Fk (G:=Nat×(Nat->Nat)×List Tb) (λ(k,κ1,tbs)=>[(0,ED bs 0),(3,vg),(5,ED b1 0),(15,va),(16,I ↑(qs.map (·.1)).length),(17,I ↑k)]) (λ(k,κ1,tbs) w'=>Mod (λk=>κ k≠0) w w'/\k<=qs.length/\tbs.length=k/\tbs.map (λt=>(t.h,t.cs))=(qs.take k).map (λq=>((q.1.f.lev,q.1.f.id),q.2))/\(∀k,k<w.heap.size->κ1 k=κ k)/\StE κ1 bs bd bl bo bm vf L D V (tbs.foldl G4 ts) mem dead w'/\EL w' b1 [I V'.next,vf'] 56) (λ(k,κ1,tbs)=>qs.length-k) (0,κ,[]) ?_ ?_ ?_
 ·exact FSq
 ·exact⟨z,Ad _,rfl,rfl,λ_ _=>rfl,r,J⟩
 intro X2 g2 w2 xr;obtain⟨k,κ1,tbs⟩:=g2;clear z r J;obtain⟨z,hk1,xj,hw,hf,r,J⟩:=xr;refine ws λ_ Z4=>wr (dp (Fa rfl rfl) (de Z4 (ws λ_ Z5=>wi (λc1=>?_) λc1=>?_)))
 ·obtain⟨q,hk⟩:∃q,qs[k]?=some q:=Fq;obtain⟨xe,xw,xz,xi,xq,x2⟩:=hq q (Ak hk);have xd:(qs.map (·.1))[k]?=some q.1:=by simp [hk]
  have hwsz:=z.size;refine EG (Z5 _ _ (ws λ_ Z6=>EN (ws λ_ Z7=>wr (di 161 7 ha.sl rfl (ha.lt xd) (dq (Fb E9 rfl rfl ((ha.mod z (λO e=>e (hak (by rintro rfl;exact O rfl)))).row xd)) (FG (cs:=[.int .i64 0,.int .i64 0,.int .i64 0,S [],S [],.slice none 0 0,.slice none 0 0]) rfl E9 RX.all (λb2 w3 e2 x3 Y=>?_)))))));have g2:=z.ge e2;have n2_1:=J.ltb e2;have hr:=r.lt;have r:=r.ext x3;have J:=J.ext x3;have z:=z.ext x3;refine FM Y (λw4 x4 xs4 Y=>?_) (h1:=by(intro u hu;simp only [Aj,Ct,or_false]at hu;rcases hu with e|e|e|e|e|e|e<;>subst e<;>first|rfl|exact x2|exact xe.sl.one));dsimp only [Fe,Ag,Af,Ai]at Y;have r:=r.mod x4 (λk9 h9 e9=>by have h2:k9=b2:=e9;have h8:=hr k9 h9;omega);have J:=J.mo x4;have z:=z.o1 x4;refine de Z7 (ws λ_ Z8=>wr (df 6 rfl (dl rfl (Y.at rfl) ?_)));have xf:=r.lt;refine cG (UU q.2 q.1.vb _ (xe.mod z (λO e=>e (xq O))) xw) RX.all λu5 w5 x5 xm=>?_;have hsz5:=z.size;have r:=r.ext x5;have J:=J.ext x5;have Y:=Y.ext x5;have z:=z.ext x5;obtain⟨bt,vl,hh,rfl,hT,xh⟩:=xm;have x0:∀k,IS bt vl hh k->κ1 k=0:=λk hk=>AL λh9=>by have h1:=xh k hk;have h2:=xf k h9;omega
  refine dm ?_;refine dx rfl rfl (dx rfl rfl (da (da (de Z8 (ws λ_ Z9=>ws λ_ xv=>wr (dm ?_))))));refine dp (F8 rfl rfl) (de xv (wi (λc2=>?_) λc2=>?_))
  ·exact absurd rfl c2
  refine EG (Z9 _ _ (F4 (R:=Mod (ES bo)) J0 JY E9 [3,6,9] [(0,.p,false),(1,.p,false),(2,.p,false),(3,.l,false),(4,.p,false),(5,.p,false),(6,.l,false),(7,.p,false),(8,.p,false),(9,.l,false),(10,.p,false),(11,.p,false),(12,.x,true)] rfl E9 E9 (λw6 xc=>?_)));have x6:=EJ xc;clear xc;have r:=r.ext x6;have J:=J.ext x6;have Y:=Y.ext x6;have hT:=hT.ext x6;have z:=z.ext x6;refine dm ?_;refine dz rfl (df 4 rfl (dL rfl (λ_ hR=>((r.m.mod hR (λe=>r.mp.at.ne_blk r.m e)).at rfl)) (df 0 rfl (df 1 rfl (dL rfl (λ_ hR=>((Y.mod hR (λe=>r.mp.at.ne_blk Y e)).at rfl)) (df 0 rfl (df 0 rfl (dL rfl (λ_ hR=>((Y.mod hR (λe=>r.mp.at.ne_blk Y e)).at rfl)) (db (zs:=[.int .i64 0,.int .i64 0]) (pl:=[(0,1),(1,1)]) (pv:=[(0,_),(1,_)]) (cs:=[_,_]) (dm ?_))))))))));refine Pq LL (kx:=(q.1.f.lev,q.1.f.id)) (a:=some bt) rfl rfl rfl rfl r.mp ⟨xi,xz⟩ (by have:=Xtn tbs ts;rw[An];unfold maxLen;omega) (.inl rfl) (λw7 x7 xs7 hc=>?_);have hb:=r.addT (t:=⟨(q.1.f.lev,q.1.f.id),bt,vl,hh,q.2⟩) hT x0 x7 hc;clear hT;have ht:=J.mod x7 (λe=>r.mp.at.ne_blk J e);have z:=z.own x7 (λi hi xk=>by have Z:i=bo:=hi;rw[Z,h.k2];decide);have r:=hb;have xa:∀k,k<w.heap.size->IX κ1 bt vl hh k=κ k:=λk hk=>by
   unfold IX;rw[if_neg (λe=>by have:=xh k e;omega)];exact hf k hk
  have J:=ht;refine de Z6 (wr (pa rfl rfl (dm (EF (?_)))));exact⟨(k+1,_,tbs++[⟨(q.1.f.lev,q.1.f.id),bt,vl,hh,q.2⟩]),FSq,⟨z,by omega,by simp [xj],by rw[AC,hw,Gs hk,AC];rfl,xa,by rw[Bz];exact r,J⟩,by simp only [];omega⟩
 have xo:k=qs.length:=by omega
 subst xo;rw[AK]at hw;refine Ff (Z2 _ _ (ws λ_ xx=>ws λ_ xn=>wr (dm ?_)));refine dv 62 5 (hg.mod z (λO e=>e (hgk O))).sl (dm (de xn (EN ?_)));refine Fk (G:=Nat) (λj=>[(0,ED bs 0),(5,ED b1 0),(45,vg),(46,I ↑gone.length),(47,I ↑j)]) (λj w'=>Mod (λk=>κ k≠0) w w'/\j<=gone.length/\StE κ1 bs bd bl bo bm vf L D V (Lm (tbs.foldl G4 ts) (gone.take j)) mem dead w'/\EL w' b1 [I V'.next,vf'] 56) (λj=>gone.length-j) 0 ?_ ?_ ?_
 ·exact FA
 ·exact⟨z,Ad _,r,J⟩
 intro X8 g8 w8 h6;revert h6;revert g8;intro j h6;clear z r J;obtain⟨z,hj1,r,J⟩:=h6;refine ws λ_ xt=>wr (dp (Fa rfl rfl) (de xt (ws λ_ xp=>wi (λc3=>?_) λc3=>?_)))
 ·obtain⟨f,hk⟩:∃f,gone[j]?=some f:=Fq;obtain⟨h7,xg⟩:=hgi f (Ak hk);refine EG (xp _ _ (ws λ_ ya=>EN (ws λ_ xu=>wr (di 62 5 hg.sl rfl (hg.lt hk) (dq (Fb E9 rfl rfl ((hg.mod z (λO e=>e (hgk O))).row hk)) (FG (cs:=[.int .i64 0,.int .i64 0,.int .i64 0,S [],S []]) rfl E9 RX.all (λb3 w9 e3 x9 m3=>?_)))))));have g3:=z.ge e3;have n3_1:=J.ltb e3;have h5:=r.lt;have r:=r.ext x9;have J:=J.ext x9;have z:=z.ext x9;refine FM m3 (λw10 hy xs10 m3=>?_);dsimp only [Fe,Ag,Af,Ai]at m3;have r:=r.mod hy (λk9 h9 e9=>by have h2:k9=b3:=e9;have h8:=h5 k9 h9;omega);have J:=J.mo hy;have z:=z.o1 hy;refine de xu (F4 (R:=Mod (ES bo)) J0 JY E9 [3,5,7] [(0,.p,false),(1,.p,false),(2,.p,false),(3,.l,false),(4,.p,false),(5,.l,false),(6,.p,false),(7,.l,false),(8,.p,false),(9,.x,false)] rfl E9 E9 (λw11 hp=>?_));have hj:=EJ hp;clear hp;have r:=r.ext hj;have J:=J.ext hj;have m3:=m3.ext hj;have z:=z.ext hj;refine dm ?_;refine dz rfl (df 4 rfl (dL rfl (λ_ hR=>((r.m.mod hR (λe=>r.mp.at.ne_blk r.m e)).at rfl)) (df 1 rfl (dL rfl (λ_ hR=>((m3.mod hR (λe=>r.mp.at.ne_blk m3 e)).at rfl)) (df 0 rfl (dL rfl (λ_ hR=>((m3.mod hR (λe=>r.mp.at.ne_blk m3 e)).at rfl)) (db (zs:=[.int .i64 0,.int .i64 0]) (pl:=[(0,1),(1,1)]) (pv:=[(0,_),(1,_)]) (cs:=[_,_]) ?_)))))));refine QL LL (kx:=(f.lev,f.id)) rfl rfl rfl r.mp ⟨xg,h7⟩ (.inr λ_ h=>h) (λw12 hz xs12 hc=>?_);have hb:=r.subT hz hc;have ht:=J.mod hz (λe=>r.mp.at.ne_blk J e);have z:=z.own hz (λi hi xk=>by have Z:i=bo:=hi;rw[Z,h.k2];decide);have r:=hb;have J:=ht;refine de ya (wr (pa rfl rfl (dm (EF (?_)))));rw[<-Xqc hk]at r;exact⟨j+1,FA,⟨z,by omega,r,J⟩,by omega⟩
 refine Ff (xx _ _ (ws λ_ xl=>wr (dm ?_)));refine dq (Fb (k:=2) E9 rfl rfl J.row) (dz rfl (df 2 rfl (Mf (v:=.agg ⟨[I V'.next,vf']⟩) (vs:=[I V'.next,vf']) rfl rfl rfl rfl E9 r.m (Ap rfl) (by intro u hu;rcases Aj.1 hu with e|hu;subst e;rfl;rw[Ah.1 hu];exact hvf.sl.one) (.inl rfl) (λw13 xb xs13 hc=>?_))));have hb:=r.setV (V':=V') (vf':=vf') xb hc (hvf.mod z (λO e=>e (hvk O))) (λO=>(hf _ (hvf.base_lt EK O)).trans (hvk O));have z:=z.own xb (λi hi xk=>by have Z:i=bs:=hi;rw[Z,h.k0];decide);have r:=hb;refine de xl (ws λ_ xy=>wr (da (de xy (EH ?_))));refine ro ?_;rw[Ax EA]at r;refine⟨_,rfl,z,rfl,_,_,?_,⟨tbs,hw,rfl⟩,r⟩;intro k hk x8;split
 ·exact hf k hk
 ·rename_i h9;unfold I9;rw[if_neg (x8 h9)];exact hf k hk
def F5 (lv next:Int)(ss:List (List Cell)):List Fi:=ss.zipIdx.map λp=>Kp lv next p.2 p.1
def HX (next:Int)(ss:List (List Cell)):List (Int×EC):=ss.zipIdx.map λp=>(next+↑p.2,EI (Fy p.1))
def KM (lv next:Int)(ss:List (List Cell)):List ((Int×Int)×List Cell):=ss.zipIdx.map λp=>((lv,next+↑p.2),p.1)
def J7 (b0 B1:Nat)(lv next:Int)(xs:List Md)(ss:List (List Cell))(w:World):Prop:=K9 b0 lv next xs ss w/\∀x∈xs,(base x.vb).1<B1
section
variable {b0 B1:Nat}{lv next:Int}{xs:List Md}{ss:List (List Cell)}{w w':World}{S:Nat->Prop}
theorem J7.mod (h:J7 b0 B1 lv next xs ss w)(m:Vc.Mod S w w')(hS:∀k,b0<=k->k<B1->¬ S k):J7 b0 B1 lv next xs ss w':=
 ⟨⟨h.1.1,λj x sg r hs=>by
  obtain⟨h1,h2,h3,h4,z⟩:=h.1.2 j x sg r hs;exact⟨h1,h2,h3.mod m (λ_=>hS _ h4 (h.2 x (Ak r))),h4,z⟩⟩,h.2⟩
theorem J7.ext (h:J7 b0 B1 lv next xs ss w)(m:EB w w'):J7 b0 B1 lv next xs ss w':=h.mod m (λ_ _ _ h=>h)
theorem K9.up (h:K9 b0 lv next xs ss w):J7 b0 w.heap.size lv next xs ss w:=⟨h,λx z=>by
 obtain⟨i,hi⟩:=AJ z;have r:=(Ao.1 hi).1;obtain⟨h1,h2,h3,h4,h5⟩:=h.2 i x _ hi (Av (by rw[<-h.1];exact r));exact h3.base_lt EK (λe=>by have:=Jz (Fy (ss[i]'(by rw[<-h.1];exact r)));rw[e]at this;simp at this)⟩
theorem KS {α:Type}(l:List α)(i:Nat):l.zipIdx[i]?=l[i]?.map λx=>(x,i):=by
 rw[List.getElem?_zipIdx];simp
theorem K9.files (h:K9 b0 lv next xs ss w):xs.map (·.f)=F5 lv next ss/\(xs.zip (ss.map λsg=>EI (Fy sg))).map (λq=>(q.1.f.id,q.2))=HX next ss/\(xs.zip ss).map (λq=>((q.1.f.lev,q.1.f.id),q.2))=KM lv next ss:=by
 have z:∀i x,xs[i]?=some x->∃sg,ss[i]?=some sg/\x.f=Kp lv next i sg:=λi x hi=>by
  have O:=(Ao.1 hi).1;have hs:ss[i]?=some (ss[i]'(by rw[<-h.1];exact O)):=Av _;exact⟨_,hs,(h.2 i x _ hi hs).1⟩
 have r:∀i,xs[i]?=none->ss[i]?=none:=λi hi=>by
  rw[Et]at *;rw[<-h.1];exact hi
 refine⟨?_,?_,?_⟩
 ·apply BA
  intro i;unfold F5;rw[AH,AH,KS]
  cases hi:xs[i]? with
  | none=>rw[r i hi];rfl
  | some x=>obtain⟨sg,hs,J⟩:=z i x hi;rw[hs];simp [J]
 ·apply BA
  intro i;unfold HX;rw[AH,AH,KS]
  cases hi:xs[i]? with
  | none=>rw[r i hi];simp [Dm,Dn,hi]
  | some x=>obtain⟨sg,hs,J⟩:=z i x hi;simp [Dm,Dn,hi,hs,J,Kp]
 ·apply BA
  intro i;unfold KM;rw[AH,AH,KS]
  cases hi:xs[i]? with
  | none=>rw[r i hi];simp [Dm,Dn,hi]
  | some x=>obtain⟨sg,hs,J⟩:=z i x hi;simp [Dm,Dn,hi,hs,J,Kp]
end
def JZ (L:Led)(D:Dsk)(V:Vs)(ts:List Tb)(dead:Bool)(l:List Cell)(lv:Int)(gone:List Fi)(e:Int)(L':Led)(D':Dsk)(V':Vs)(ts':List Tb)(dead':Bool):Prop:=
 (e≠0/\L'=L/\D'=D/\V'=V/\ts'=ts/\dead'=dead/\((∃sg∈F7 l,H7 sg≠0)\/Kl V (gone.map (·.id)) (F5 lv V.next (F7 l))=false\/∃fs',fs'.Perm (Ik V.fs (gone.map (·.id))++F5 lv V.next (F7 l))/\Up (F3 Hg) fs'/\(GI ⟨GZ V.next (F5 lv V.next (F7 l)),fs'⟩=false\/262144<(FR ⟨GZ V.next (F5 lv V.next (F7 l)),fs'⟩).length)))\/
 ((∀sg∈F7 l,H7 sg=0)/\Kl V (gone.map (·.id)) (F5 lv V.next (F7 l))=true/\∃fs',fs'.Perm (Ik V.fs (gone.map (·.id))++F5 lv V.next (F7 l))/\Up (F3 Hg) fs'/\GI ⟨GZ V.next (F5 lv V.next (F7 l)),fs'⟩=true/\(FR ⟨GZ V.next (F5 lv V.next (F7 l)),fs'⟩).length<=262144/\
  (((GY (HX V.next (F7 l)) D).1≠0/\e=(GY (HX V.next (F7 l)) D).1/\L'=L/\D'=(GY (HX V.next (F7 l)) D).2/\V'=V/\ts'=ts/\dead'=true)\/
   ((GY (HX V.next (F7 l)) D).1=0/\L'=(L.write (GY (HX V.next (F7 l)) D).2 L.last (FR ⟨GZ V.next (F5 lv V.next (F7 l)),fs'⟩)).2.1/\D'=(L.write (GY (HX V.next (F7 l)) D).2 L.last (FR ⟨GZ V.next (F5 lv V.next (F7 l)),fs'⟩)).2.2/\
    (((L.write (GY (HX V.next (F7 l)) D).2 L.last (FR ⟨GZ V.next (F5 lv V.next (F7 l)),fs'⟩)).1≠0/\e=(L.write (GY (HX V.next (F7 l)) D).2 L.last (FR ⟨GZ V.next (F5 lv V.next (F7 l)),fs'⟩)).1/\V'=V/\ts'=ts/\dead'=true)\/
     ((L.write (GY (HX V.next (F7 l)) D).2 L.last (FR ⟨GZ V.next (F5 lv V.next (F7 l)),fs'⟩)).1=0/\e=0/\V'=⟨GZ V.next (F5 lv V.next (F7 l)),fs'⟩/\dead'=dead/\∃tbs:List Tb,tbs.map (λt=>(t.h,t.cs))=KM lv V.next (F7 l)/\ts'=Lm (tbs.foldl G4 ts) gone)))))
theorem LZ {v:Vs}(h:GI v=true):∀f∈v.fs,ET f.id/\ET f.lev:=λf z=>by
 obtain⟨h1,h2,h3,h4,_⟩:=Ig h;have r:=h4 f z;simp only [HN,Au,decide_eq_true_eq]at r;exact⟨⟨by omega,by omega⟩,⟨by omega,by omega⟩⟩
theorem K9.mono {b b0:Nat}{lv next:Int}{xs:List Md}{ss:List (List Cell)}{w:World}(h:K9 b0 lv next xs ss w)(hb:b<=b0):K9 b lv next xs ss w:=⟨h.1,λj x sg r hs=>by
 obtain⟨h1,h2,h3,h4,z⟩:=h.2 j x sg r hs;exact⟨h1,h2,h3,Ae hb h4,z⟩⟩
theorem Xto (l:List Cell):(F7 l).length<=l.length:=by
 rw[<-Rz (Aa l.length)];exact(MU l _ (Aa _)).2
theorem X04 {lv next:Int}{ss:List (List Cell)}(hn:0<=next/\next<=1099511627776)(hl:ss.length<=100000):∀f∈F5 lv next ss,ET f.id:=λf r=>by
 unfold F5 at r;obtain⟨p,z,rfl⟩:=Ar.1 r;obtain⟨i,hi⟩:=AJ z;rw[KS]at hi;obtain⟨sg,hs,rfl⟩:=Bd.1 hi;have:=(Ao.1 hs).1;show ET (next+↑i);unfold ET;omega
theorem Xxy {sg:List Cell}(h:H7 sg=0):(EI (Fy sg)).length<=1048588:=by
 have h1:=(L6 h).2.2.2;unfold Hh at h1;rw[Jz];split at h1
 ·cases h1
 ·omega
theorem J7.zip {b0 B1:Nat}{lv next:Int}{xs:List Md}{ss:List (List Cell)}{w:World}(h:J7 b0 B1 lv next xs ss w)(hn:0<=next/\next<=1099511627776)(hlv:0<=lv/\lv<=100)(hl:ss.length<=100000):∀q∈xs.zip ss,EM EP 1 w q.1.vb (EI (Fy q.2))/\H7 q.2=0/\ET q.1.f.id/\ET q.1.f.lev/\(b0<=(base q.1.vb).1/\(base q.1.vb).1<B1)/\q.1.vl.oneCell'=true:=λq r=>by
 obtain⟨i,hi⟩:=AJ r;rw[DL]at hi;obtain⟨h1,h2,h3,h4,z⟩:=h.1.2 i q.1 q.2 hi.1 hi.2;have:=(Ao.1 hi.2).1;rw[h1];exact⟨h3,h2,by show ET (next+↑i);unfold ET;omega,by show ET lv;unfold ET;omega,⟨h4,h.2 _ (Ak hi.1)⟩,z⟩
theorem J7.zip2 {b0 B1:Nat}{lv next:Int}{xs:List Md}{ss:List (List Cell)}{w:World}(h:J7 b0 B1 lv next xs ss w)(hn:0<=next/\next<=1099511627776)(hlv:0<=lv/\lv<=100)(hl:ss.length<=100000):∀q∈xs.zip (ss.map λsg=>EI (Fy sg)),EM EP 1 w q.1.vb q.2/\q.2.length<=2001000020/\ET q.1.f.id/\(b0<=(base q.1.vb).1/\(base q.1.vb).1<B1)/\q.1.vl.oneCell'=true:=λq r=>by
 obtain⟨i,hi⟩:=AJ r;rw[DL,AH]at hi;obtain⟨sg,hs,he⟩:=Bd.1 hi.2;obtain⟨h1,h2,h3,h4,J,z⟩:=h.zip hn hlv hl (q.1,sg) (Ak (i:=i) (by rw[DL];exact⟨hi.1,hs⟩));rw[<-he];have h9:(EI (Fy sg)).length<=1048588:=Xxy h2;exact⟨h1,by omega,h3,J,z⟩
theorem LD.calls_last {H:Nat->Prop}{bl bd:Nat}{L:Led}{D:Dsk}{w:World}(h:LD H bl bd L D w):Calls Tryz.prog 55 [ED bl 0].toArray w (Pure w (I L.last)):=by
 obtain⟨F,G,vd,ve,vs,h1,h2,_⟩:=h;exact G3 G bl bd vd ve vs L w h2
theorem Wl (κ:Nat->Nat)(bs bd bl bo bm:Nat)(vf:Value)(L:Led)(D:Dsk)(V:Vs)(ts:List Tb)(mem:List Cell)(dead:Bool)(l:List Cell)(vc:Value)(lv:Int)(gone:List Fi)(vg:Value)(w:World)(h:StE κ bs bd bl bo bm vf L D V ts mem dead w)(hc:EM Cell.cs 4 w vc l)(hll:l.length<=30000)(hc9:∀c∈l,c.key.length<=4096/\c.val.length<=16384)(hlv:0<=lv/\lv<=100)(hg:EM Fi.cs 5 w vg gone)(hgl:gone.length<=30000)(hgk:gone≠[]->κ (base vg).1=0)(hgi:∀f∈gone,ET f.id/\ET f.lev)(hV:GI V=true)(hgv:GV w)(hgvs:∀k,Li k->κ k=0)(htl:ts.length<=900000)(hck:l≠[]->κ (base vc).1=0) :
  Calls Tryz.prog 44 [ED bs 0,vc,I lv,vg].toArray w (Fh (λk=>κ k≠0) w (λu w'=>∃e κ' vf' L' D' V' ts' dead',u=I e/\(∀k,k<w.heap.size->κ' k=κ k)/\StE κ' bs bd bl bo bm vf' L' D' V' ts' mem dead' w'/\JZ L D V ts dead l lv gone e L' D' V' ts' dead')):=by
 refine cw Tryz.func44 ?_;have O:=Vc.Mod.refl (λk=>κ k≠0) w;have Y:=h;obtain⟨hn1,hn2,hvl,hvo,_⟩:=Ig hV;have yo:=LZ hV;have hsgl:=Xto l;have hh:∀k,w.heap.size<=k->κ k=0:=λk hk=>AL λh9=>by have:=h.lt k h9;omega
 have hwid:∀k,w.heap.size<=k->¬ ES bs k:=λk hk e=>by have e2:k=bs:=e;have h1:=hh k hk;rw[e2,h.k0]at h1;cases h1
 refine ws λ_ Z1=>wr (da (de Z1 (ws λ_ Z2=>wr (dm (dm (dm ?_))))));refine dz rfl (df 2 rfl (df 0 rfl (dl rfl (Y.m.at rfl) (cG (X66 l vc lv V.next _ (hc.mod O (λhl e=>e (hck hl))) hll hc9 hlv EA) RX.all λu1 w1 x1 y8=>?_))));have x0:=O.size;have Y:=Y.ext x1;have O:=O.ext x1;obtain⟨va,e1,hu,hmk⟩:∃va e1,u1=.tuple #[va,I e1]/\((e1≠0/\∃sg∈F7 l,H7 sg≠0)\/(e1=0/\∃xs,Vc.Own Md.cs 7 161 w.heap.size w1 va xs/\K9 w.heap.size lv V.next xs (F7 l) w1)):=by
  rcases y8 with⟨sg,h1,h2,h3⟩|⟨va,xs,h1,h2,h3⟩
  ·exact⟨_,_,h3,.inl ⟨h2,sg,h1,h2⟩⟩
  ·exact⟨_,_,h1,.inr ⟨rfl,xs,h2.mono x0,h3.mono x0⟩⟩
 subst hu;refine dm ?_;refine dx rfl rfl (dx rfl rfl (da (da (de Z2 (ws λ_ Z3=>ws λ_ Z4=>wr (dm ?_))))));refine dp (F8 rfl rfl) (de Z4 (wi (λc1=>?_) λc1=>?_))
 ·refine ws λ_ Z5=>wr (dm (da (de Z5 (EH ?_))));refine ro ?_;rcases hmk with⟨_,h9⟩|⟨h9,_⟩
  ·exact⟨_,rfl,O,e1,κ,vf,L,D,V,ts,dead,rfl,λ_ _=>rfl,Y,.inl ⟨c1,rfl,rfl,rfl,rfl,rfl,.inl h9⟩⟩
  ·exact absurd h9 c1
 rcases hmk with⟨h9,_⟩|⟨h9,xs,r,hMF⟩
 ·exact absurd h9 c1
 obtain⟨yx,z1,z9⟩:=hMF.files;have xi:∀sg∈F7 l,H7 sg=0:=λsg hs=>by
  obtain⟨i,hi⟩:=AJ hs;have yf:=(Ao.1 hi).1;exact(hMF.2 i _ sg (Av (by rw[hMF.1];exact yf)) hi).2.1
 have hxl:=hMF.1;obtain⟨B1,hB1,J,hG⟩:∃B1,w.heap.size<=B1/\Sz B1 _/\J7 w.heap.size B1 lv V.next xs (F7 l) _:=⟨_,O.size,⟨Aa _⟩,hMF.up⟩;refine EG (Z3 _ _ (ws λ_ Z6=>wr (da (de Z6 (ws λ_ Z7=>ws λ_ Z8=>wr (dm ?_))))));refine dv 62 5 (hg.mod O (λhl e=>e (hgk hl))).sl (dm (de Z8 (EN ?_)));refine Fk (G:=Nat×Value) (λ(k,vi)=>[(0,ED bs 0),(3,vg),(8,I 0),(9,va),(10,I e1),(11,vi),(36,vg),(37,I ↑gone.length),(38,I ↑k)]) (λ(k,vi) w'=>Mod (λk=>κ k≠0) w w'/\StE κ bs bd bl bo bm vf L D V ts mem dead w'/\Vc.Own Md.cs 7 161 w.heap.size w' va xs/\J7 w.heap.size B1 lv V.next xs (F7 l) w'/\Sz B1 w'/\k<=gone.length/\Vc.Own Vc.encI 1 3 B1 w' vi ((gone.take k).map (·.id))) (λ(k,vi)=>gone.length-k) (0,.slice none 0 0) ?_ ?_ ?_
 ·exact Je
 ·exact⟨O,Y,r,hG,J,Ad _,Vc.Own.nil⟩
 intro X2 g2 w2 y1;obtain⟨k,vi⟩:=g2;clear O Y r hG J;obtain⟨O,Y,r,hG,J,y6,Z⟩:=y1;refine ws λ_ Z9=>wr (dp (Fa rfl rfl) (de Z9 (ws λ_ ze=>wi (λc2=>?_) λc2=>?_)))
 ·obtain⟨f,hk⟩:∃f,gone[k]?=some f:=Fq;refine EG (ze _ _ (ws λ_ zj=>EN (ws λ_ yz=>wr (di 62 5 hg.sl rfl (hg.lt hk) (dq (Fb E9 rfl rfl ((hg.mod O (λhl e=>e (hgk hl))).row hk)) (FG (cs:=[.int .i64 0,.int .i64 0,.int .i64 0,S [],S []]) rfl E9 RX.all (λb1 w3 e1 x3 m1=>?_)))))));have g1:=O.ge e1;have a1_hS:=Y.lt;have xu:=r.ltb e1;have xw:=J.le;have xz:=Z.ltb e1;have Y:=Y.ext x3;have r:=r.ext x3;have hG:=hG.ext x3;have J:=J.ext x3;have Z:=Z.ext x3;have O:=O.ext x3;refine FM m1 (λw4 x4 xs4 m1=>?_);dsimp only [Fe,Ag,Af,Ai]at m1;have Y:=Y.mod x4 (λk9 h9 e9=>by have h2:k9=b1:=e9;have h8:=h.lt;have h7:=hh k9 EA;exact h9 h7);have r:=r.mod x4 (by intro k hk h;have h1:=xu k hk;have h2:k=b1:=h;omega);have hG:=hG.mod x4 (λk9 _ h9 e9=>by have h2:k9=b1:=e9;have h8:=xw;omega);have J:=J.mod x4 trivial;have Z:=Z.mod x4 (by intro k hk h;have h1:=xz k hk;have h2:k=b1:=h;omega);have O:=O.o1 x4;refine de yz (wr (dm ?_));refine df 0 rfl (dl rfl (m1.at rfl) (li (e:=3) (sz:=1) (zs:=[.int .i64 0]) (pv:=[(0,_)]) (cs:=[_]) RX.all (λb2 w5 e2 x5 m2=>?_)));have g2:=O.ge e2;have a2_hS:=Y.lt;have o2_hoM:=r.ltb e2;have a2_hSz:=J.le;have o2_ho1:=Z.ltb e2;have Y:=Y.ext x5;have r:=r.ext x5;have hG:=hG.ext x5;have J:=J.ext x5;have Z:=Z.ext x5;have O:=O.ext x5;refine Gv (lx:=[f.id]) (e:=3) (sz:=1) (by':=8) rfl E9 E9 EE Z (m2.arr (enc:=Vc.encI) (sz:=1) (l:=[f.id]) rfl EE rfl (Ap rfl)) rfl rfl (by intro x zk u hu;rw[Ah.1 zk]at hu;simp at hu;rw[hu];rfl) (by simp;omega) EK J.le (.inl rfl) (λuc w6 yj x6=>?_);have Y:=Y.mod x6 (by exact(λk hk e=>hk (hh k (Ae hB1 (Z.lt k e).1))));have r:=r.mod x6 (by exact(λk hk=>r.ne Z rfl hk));have hG:=hG.mod x6 (by exact(λk _ h2 e=>absurd (Z.lt k e).1 (Nat.not_le.2 h2)));have J:=J.mod x6 (by trivial);have O:=O.own x6 (λi hi xe=>(by have:=(Z.lt i hi).1;omega));have Z:=yj;clear m2;refine da (de zj (wr ?_));refine pa rfl rfl (dm (EF (?_)));rw[show(gone.take k).map (·.id)++[f.id]=(gone.take (k+1)).map (·.id) by rw[Gs hk,AC];rfl]at Z;exact⟨(k+1,uc),Je,⟨O,Y,r,hG,J,by omega,Z⟩,by simp only [];omega⟩
 rw[Ax EA]at Z;refine Ff (Z7 _ _ (ws λ_ zx=>wr (da (de zx (ws λ_ y0=>ws λ_ zl=>wr (dm ?_))))));refine dv 161 7 (r.arr EE).sl (dm (de zl (EN ?_)));refine Fk (G:=Nat×Value) (λ(k,xf)=>[(0,ED bs 0),(3,vg),(8,I 0),(9,va),(10,I e1),(11,vi),(14,xf),(48,va),(49,I ↑xs.length),(50,I ↑k)]) (λ(k,xf) w'=>Mod (λk=>κ k≠0) w w'/\StE κ bs bd bl bo bm vf L D V ts mem dead w'/\Vc.Own Md.cs 7 161 w.heap.size w' va xs/\J7 w.heap.size B1 lv V.next xs (F7 l) w'/\Sz B1 w'/\Vc.Own Vc.encI 1 3 B1 w' vi (gone.map (·.id))/\k<=xs.length/\Vc.Own Fi.cs 5 62 B1 w' xf ((xs.take k).map (·.f))) (λ(k,xf)=>xs.length-k) (0,.slice none 0 0) ?_ ?_ ?_
 ·exact HS
 ·exact⟨O,Y,r,hG,J,Z,Ad _,Vc.Own.nil⟩
 intro X7 g7 w7 z2;obtain⟨k,xf⟩:=g7;clear O Y r hG J Z;obtain⟨O,Y,r,hG,J,Z,y6,hb⟩:=z2;refine ws λ_ za=>wr (dp (Fa rfl rfl) (de za (ws λ_ zp=>wi (λc3=>?_) λc3=>?_)))
 ·obtain⟨x,hk⟩:∃x,xs[k]?=some x:=Fq;obtain⟨sg,hsg⟩:∃sg,(F7 l)[k]?=some sg:=Fq;obtain⟨_,_,zy,_,ua⟩:=hG.1.2 k x sg hk hsg;refine EG (zp _ _ (ws λ_ z6=>EN (ws λ_ zt=>wr (di 161 7 (r.arr EE).sl rfl ((r.arr EE).lt hk) (dq (Fb E9 rfl rfl ((r.arr EE).row hk)) (FG (cs:=[.int .i64 0,.int .i64 0,.int .i64 0,S [],S [],.slice none 0 0,.slice none 0 0]) rfl E9 RX.all (λb3 w8 e3 x8 m3=>?_)))))));have g3:=O.ge e3;have a3_hS:=Y.lt;have xv:=r.ltb e3;have xq:=J.le;have xr:=Z.ltb e3;have xp:=hb.ltb e3;have Y:=Y.ext x8;have r:=r.ext x8;have hG:=hG.ext x8;have J:=J.ext x8;have Z:=Z.ext x8;have hb:=hb.ext x8;have O:=O.ext x8;refine FM m3 (λw9 x9 xs9 m3=>?_) (h1:=by(intro u hu;simp only [Aj,Ct,or_false]at hu;rcases hu with e|e|e|e|e|e|e<;>subst e<;>first|rfl|exact ua|exact zy.sl.one));dsimp only [Fe,Ag,Af,Ai]at m3;have Y:=Y.mod x9 (λk9 h9 e9=>by have h2:k9=b3:=e9;have h8:=h.lt;have h7:=hh k9 EA;exact h9 h7);have r:=r.mod x9 (by intro k hk h;have h1:=xv k hk;have h2:k=b3:=h;omega);have hG:=hG.mod x9 (λk9 _ h9 e9=>by have h2:k9=b3:=e9;have h8:=xq;omega);have J:=J.mod x9 trivial;have Z:=Z.mod x9 (by intro k hk h;have h1:=xr k hk;have h2:k=b3:=h;omega);have hb:=hb.mod x9 (by intro k hk h;have h1:=xp k hk;have h2:k=b3:=h;omega);have O:=O.o1 x9;refine de zt (wr (dm ?_));refine df 0 rfl (dq (LV.to (v':=x.f.v) (Fb E9 rfl rfl (m3.part 0 5)) rfl) (li (e:=62) (sz:=5) (zs:=[.int .i64 0,.int .i64 0,.int .i64 0,S [],S []]) (pv:=[(0,.agg ⟨[_,_,_,_,_]⟩)]) (cs:=[_,_,_,_,_]) RX.all (λb4 w10 e4 hz m4=>?_)));have g4:=O.ge e4;have a4_hS:=Y.lt;have o4_hoM:=r.ltb e4;have a4_hSz:=J.le;have o4_ho1:=Z.ltb e4;have o4_ho2:=hb.ltb e4;have Y:=Y.ext hz;have r:=r.ext hz;have hG:=hG.ext hz;have J:=J.ext hz;have Z:=Z.ext hz;have hb:=hb.ext hz;have O:=O.ext hz;refine Gv (lx:=[x.f]) (e:=62) (sz:=5) (by':=56) rfl E9 E9 EE hb (m4.arr (enc:=Fi.cs) (sz:=5) (l:=[x.f]) rfl EE rfl (Ap rfl)) rfl rfl (by intro x _ u hu;simp at hu;rcases hu with rfl|rfl|rfl|rfl|rfl<;>rfl) (by simp;omega) EK J.le (.inl rfl) (λzi w11 yc xh=>?_);have Y:=Y.mod xh (by exact(λk hk e=>hk (hh k (Ae hB1 (hb.lt k e).1))));have r:=r.mod xh (by exact(λk hk=>r.ne hb rfl hk));have hG:=hG.mod xh (by exact(λk _ h2 e=>absurd (hb.lt k e).1 (Nat.not_le.2 h2)));have J:=J.mod xh (by trivial);have Z:=Z.mod xh (by exact(λk hk=>Z.ne hb rfl hk));have O:=O.own xh (λi hi xe=>(by have:=(hb.lt i hi).1;omega));have hb:=yc;clear m4;refine da (de z6 (wr ?_));refine pa rfl rfl (dm (EF (?_)));rw[show(xs.take k).map (·.f)++[x.f]=(xs.take (k+1)).map (·.f) by rw[Gs hk,AC];rfl]at hb;exact⟨(k+1,zi),HS,⟨O,Y,r,hG,J,Z,by omega,hb⟩,by simp only [];omega⟩
 rw[Ax EA]at hb;refine Ff (y0 _ _ (ws λ_ zo=>wr (dm ?_)));refine dz rfl (df 2 rfl (dq (Fb E9 rfl rfl (Y.m.part 2 2)) (dm (dm ?_))));refine cG (X01 V.next V.fs vf (gone.map (·.id)) vi (xs.map (·.f)) xf _ Y.vs EA (λf hf=>(yo f hf).1) (Z.arr EE) (by rw[An];omega) (hb.arr EE) (by rw[An];omega) (by rw[yx];exact X04 EA EA)) RX.all λy5 zf xj x7=>?_;have yg:=O.size;have Y:=Y.ext xj;have r:=r.ext xj;have hG:=hG.ext xj;have J:=J.ext xj;have O:=O.ext xj;rw[yx]at x7;obtain⟨n2,vx,e2,fs2,hu,ha,hch⟩:∃n2 vx e2 fs2,y5=.tuple #[.agg ⟨[I n2,vx]⟩,I e2]/\Vc.Own Fi.cs 5 62 w.heap.size zf vx fs2/\((e2≠0/\(Kl V (gone.map (·.id)) (F5 lv V.next (F7 l))=false\/∃fs',fs'.Perm (Ik V.fs (gone.map (·.id))++(F5 lv V.next (F7 l)))/\Up (F3 Hg) fs'/\GI ⟨GZ V.next (F5 lv V.next (F7 l)),fs'⟩=false))\/(e2=0/\Kl V (gone.map (·.id)) (F5 lv V.next (F7 l))=true/\fs2.Perm (Ik V.fs (gone.map (·.id))++(F5 lv V.next (F7 l)))/\Up (F3 Hg) fs2/\GI ⟨GZ V.next (F5 lv V.next (F7 l)),fs2⟩=true/\n2=GZ V.next (F5 lv V.next (F7 l)))):=by
  rcases x7 with⟨h1,h2⟩|⟨h1,fs',h2,h3,⟨h4,h5⟩|⟨h4,vx,h5,h6⟩⟩
  ·exact⟨_,_,_,[],h2,Vc.Own.nil,.inl ⟨by decide,.inl h1⟩⟩
  ·exact⟨_,_,_,[],h5,Vc.Own.nil,.inl ⟨by decide,.inr ⟨fs',h2,h3,h4⟩⟩⟩
  ·exact⟨_,_,_,fs',h5,h6.mono yg,.inr ⟨rfl,h1,h2,h3,h4,rfl⟩⟩
 subst hu;refine dm ?_;refine dx rfl rfl (dx rfl rfl (FG (cs:=[.int .i64 0,.slice none 0 0]) rfl E9 RX.all (λb5 w13 e5 xd m5=>?_)));have g5:=O.ge e5;have a5_hS:=Y.lt;have xo:=r.ltb e5;have xt:=J.le;have xx:=ha.ltb e5;have Y:=Y.ext xd;have r:=r.ext xd;have hG:=hG.ext xd;have J:=J.ext xd;have ha:=ha.ext xd;have O:=O.ext xd;refine FM m5 (λw14 xg xs14 m5=>?_) (h1:=by(intro u hu;rcases Aj.1 hu with e|hu;subst e;rfl;rw[Ah.1 hu];exact ha.sl.one));dsimp only [Fe,Ag,Af,Ai]at m5;have Y:=Y.mod xg (λk9 h9 e9=>by have h2:k9=b5:=e9;have h8:=h.lt;have h7:=hh k9 EA;exact h9 h7);have r:=r.mod xg (by intro k hk h;have h1:=xo k hk;have h2:k=b5:=h;omega);have hG:=hG.mod xg (λk9 _ h9 e9=>by have h2:k9=b5:=e9;have h8:=xt;omega);have J:=J.mod xg trivial;have ha:=ha.mod xg (by intro k hk h;have h1:=xx k hk;have h2:k=b5:=h;omega);have O:=O.o1 xg;refine da (de zo (ws λ_ zw=>ws λ_ zn=>wr (dm ?_)));refine dp (F8 rfl rfl) (de zn (wi (λc4=>?_) λc4=>?_))
 ·refine ws λ_ ub=>wr (da (de ub (EH ?_)));refine ro ?_;rcases hch with⟨_,h9|⟨fs3,p1,p2,p3⟩⟩|⟨h9,_⟩
  ·exact⟨_,rfl,O,5,κ,vf,L,D,V,ts,dead,rfl,λ_ _=>rfl,Y,.inl ⟨by decide,rfl,rfl,rfl,rfl,rfl,.inr (.inl h9)⟩⟩
  ·exact⟨_,rfl,O,5,κ,vf,L,D,V,ts,dead,rfl,λ_ _=>rfl,Y,.inl ⟨by decide,rfl,rfl,rfl,rfl,rfl,.inr (.inr ⟨fs3,p1,p2,.inl p3⟩)⟩⟩
  ·exact absurd h9 c4
 rcases hch with⟨h9,_⟩|⟨h9,hck1,hcp,hcu,hV2,hn9⟩
 ·exact absurd h9 c4
 subst hn9;have ye:=LZ hV2;obtain⟨_,_,yp,_⟩:=Ig hV2;refine EG (zw _ _ (ws λ_ z7=>wr (dq (Fb (k:=2) E9 rfl rfl m5.row) (cG (TE (GZ V.next (F5 lv V.next (F7 l))) fs2 vx _ (ha.arr EE) (by have:fs2.length<=1024:=yp;omega) (λf hf=>(ye f hf).1)) RX.all λu15 y7 xa yt=>?_))));have yd:=O.size;have Y:=Y.ext xa;have r:=r.ext xa;have hG:=hG.ext xa;have J:=J.ext xa;have ha:=ha.ext xa;have m5:=m5.ext xa;have O:=O.ext xa;obtain⟨vp,rfl,yb⟩:=yt;rw[if_pos hV2]at yb;have hp:=yb.mono yd;refine dm ?_;refine dx rfl rfl (dx rfl rfl (da (da (de z7 (ws λ_ ud=>ws λ_ zg=>wr (dm ?_))))));refine dv 5 1 (hp.arr EE).sl (dp (FY rfl rfl) (de zg (wi (λc5=>?_) λc5=>?_)))
 ·refine ws λ_ zc=>wr (da (de zc (EH ?_)));refine ro ?_;exact⟨_,rfl,O,5,κ,vf,L,D,V,ts,dead,rfl,λ_ _=>rfl,Y,.inl ⟨by decide,rfl,rfl,rfl,rfl,rfl,.inr (.inr ⟨fs2,hcp,hcu,.inr EA⟩)⟩⟩
 refine EG (ud _ _ (ws λ_ z8=>ws λ_ zm=>wr (dm (dm ?_))));obtain⟨NK,hNK⟩:∃z,z=y7.heap.size:=⟨_,rfl⟩;have hNw:w.heap.size<=NK:=by rw[hNK];exact O.size
 have yl:FR ⟨GZ V.next (F5 lv V.next (F7 l)),fs2⟩≠[]->(base vp).1<NK/\w.heap.size<=(base vp).1:=λhl=>by rw[hNK];exact⟨(hp.base_ge hl).2,(hp.base_ge hl).1⟩
 have xm:fs2≠[]->(base vx).1<NK/\w.heap.size<=(base vx).1:=λhl=>by rw[hNK];exact⟨(ha.base_ge hl).2,(ha.base_ge hl).1⟩
 have xn:xs≠[]->(base va).1<NK/\w.heap.size<=(base va).1:=λhl=>by rw[hNK];exact⟨(r.base_ge hl).2,(r.base_ge hl).1⟩
 have hBN:B1<=NK:=by rw[hNK];exact J.le
 have hmN:b5<NK:=by rw[hNK];exact m5.lt
 have y3:(xs.zip ((F7 l).map λsg=>EI (Fy sg))).map (·.1)=xs:=Eu (by rw[An];omega);have xl:∀k,w.heap.size<=k->¬ κ k=1:=λk hk e=>by rw[hh k hk]at e;cases e
 refine JT rfl E9 (X67 κ bs bd bl bo bm vf L D V ts mem dead (xs.zip ((F7 l).map λsg=>EI (Fy sg))) va _ Y (hgv.mod O (λk hk e=>e (hgvs k hk))) hgvs (by rw[y3];exact r.arr EE) (by rw[Ev];omega) (λhl=>hh _ (xn (by rintro rfl;simp at hl)).2) (λq hq=>by
  obtain⟨g1,g2,g3,g4,g5⟩:=hG.zip2 EA hlv EA q hq;exact⟨g1,g2,g3,λ_=>hh _ g4.1,g5⟩)) rfl (.inl rfl) (λu16 zb xb ya=>?_)
 have hsz16:=O.size;have r:=r.mod xb (by exact(λk hk e=>xl k (r.lt k hk).1 e));have hG:=hG.mod xb (by exact(λk h1 _ e=>xl k h1 e));have ha:=ha.mod xb (by exact(λk hk e=>xl k (ha.lt k hk).1 e));have m5:=m5.mod xb (by exact(λe=>xl _ EA e));have hp:=hp.mod xb (by exact(λk hk e=>xl k (hp.lt k hk).1 e));have O:=O.own xb (λi hi xe=>(by have e1:κ i=1:=hi;rw[e1];decide));rw[z1,<-hNK]at ya;obtain⟨rfl,κ1,hr,yh⟩:=ya;have Y:=yh;have hw:Sz NK zb:=⟨by rw[hNK];exact xb.size⟩;refine da (de zm (ws λ_ y2=>wr (dm ?_)));refine dp (F8 rfl rfl) (de y2 (wi (λc6=>?_) λc6=>?_))
 ·refine ws λ_ z4=>wr (dm (dm ?_));refine cD (Ph bs bd bl V.next vf bo bm dead (GY (HX V.next (F7 l)) D).1 _ Y.m) (.inl rfl) λu17 w17 ym yq=>?_;have hsz17:=O.size;have O:=O.own ym (λi hi xe=>(by have e1:i=bs:=hi;rw[e1,h.k0];decide));obtain⟨rfl,yi⟩:=yq;have xk:=Y.head ym yi;have Y:=xk;refine da (de z4 (EH ?_));refine ro ?_;exact⟨_,rfl,O,_,κ1,vf,_,_,V,ts,_,rfl,λk hk=>hr k EA,Y,.inr ⟨xi,hck1,fs2,hcp,hcu,hV2,by omega,.inl ⟨c6,rfl,rfl,rfl,rfl,rfl,by simp [c6]⟩⟩⟩
 refine EG (z8 _ _ (ws λ_ zu=>ws λ_ z5=>F4 (R:=Mod (λk=>κ1 k=1)) J0 JY E9 [3,7] [(0,.p,false),(1,.p,false),(2,.p,false),(3,.l,false),(4,.p,false),(5,.p,false),(6,.p,false),(7,.l,false),(9,.p,false),(8,.x,false),(10,.x,false),(11,.p,false)] rfl E9 E9 (λw18 x2=>?_)));have ht:=EJ x2;clear x2;have r:=r.ext ht;have hG:=hG.ext ht;have ha:=ha.ext ht;have m5:=m5.ext ht;have hp:=hp.ext ht;have Y:=Y.ext ht;have hw:=hw.ext ht;have O:=O.ext ht;refine dm ?_;refine dz rfl (df 1 rfl (dL rfl (λ_ hR=>((Y.m.mod hR (λe=>by have e2:κ1 bs=1:=e;rw[Y.k0]at e2;cases e2)).at rfl)) (dm ?_)));refine dz rfl (df 1 rfl (dL rfl (λ_ hR=>((Y.m.mod hR (λe=>by have e2:κ1 bs=1:=e;rw[Y.k0]at e2;cases e2)).at rfl)) (dm ?_)));refine cP (Y.ld.calls_last) RX.mod λw19 hy=>?_;have r:=r.ext hy;have hG:=hG.ext hy;have ha:=ha.ext hy;have m5:=m5.ext hy;have hp:=hp.ext hy;have Y:=Y.ext hy;have hw:=hw.ext hy;have O:=O.ext hy;have yu:=hw.le;refine JT rfl E9 (X5u _ bl bd L (GY (HX V.next (F7 l)) D).2 L.last (FR ⟨GZ V.next (F5 lv V.next (F7 l)),fs2⟩) vp _ Y.ld (hp.arr EE) EA (λhl e=>by have e1:κ1 (base vp).1=1:=e;rw[hr _ (yl hl).1,hh _ (yl hl).2]at e1;cases e1)) rfl (.inr λw9 h9=>h9) (λu20 y9 xc yk=>?_);have hsz20:=O.size;have O:=O.own xc (λi hi xe=>(by have e1:κ1 i=1:=hi;rw[<-hr i EA,e1];decide));obtain⟨rfl,yf⟩:=yk;have xk:=Y.ledger xc yf;have hj:=λk (hk:k<NK)=>(Ld (κ:=κ1) (i:=1) (w':=y9) (A0 hk yu)).trans (hr k hk);have xy:∀k,w.heap.size<=k->k<NK->¬ κ1 k=1:=λk h1 h2 e=>by rw[hr k h2,hh k h1]at e;cases e
 have r:=r.arr EE |>.mod xc (λhl=>xy _ (xn hl).2 (xn hl).1);have ha:=ha.arr EE |>.mod xc (λhl=>xy _ (xm hl).2 (xm hl).1);have hG:=hG.mod xc (λk h1 h2=>xy k h1 EA);have m5:=m5.mod xc (λe=>xy _ EA EA e);have Y:=xk;refine da (de z5 (ws λ_ zh=>wr (dm ?_)));refine dp (F8 rfl rfl) (de zh (wi (λc7=>?_) λc7=>?_))
 ·refine ws λ_ zv=>wr (dm (dm ?_));refine cD (Ph bs bd bl V.next vf bo bm dead (L.write (GY (HX V.next (F7 l)) D).2 L.last (FR ⟨GZ V.next (F5 lv V.next (F7 l)),fs2⟩)).1 _ Y.m) (.inl rfl) λu21 w21 yr yn=>?_;have hsz21:=O.size;have O:=O.own yr (λi hi xe=>(by have e1:i=bs:=hi;rw[e1,h.k0];decide));obtain⟨rfl,yi⟩:=yn;have xk:=Y.head yr yi;have Y:=xk;refine da (de zv (EH ?_));refine ro ?_;exact⟨_,rfl,O,_,_,vf,_,_,V,ts,_,rfl,λk hk=>hj k EA,Y,.inr ⟨xi,hck1,fs2,hcp,hcu,hV2,by omega,.inr ⟨AI c6,rfl,rfl,.inl ⟨c7,rfl,rfl,rfl,by simp [c7]⟩⟩⟩⟩
 refine EG (zu _ _ (ws λ_ zr=>wr (dm ?_)));refine dq (Fb (k:=2) E9 rfl rfl m5.row) (dm (dm ?_));have y4:(xs.zip (F7 l)).map (·.1)=xs:=Eu EA;have yv:=O.size;refine JT rfl E9 (X68 _ bs bd bl bo bm vf _ _ V ts mem dead ⟨GZ V.next (F5 lv V.next (F7 l)),fs2⟩ vx (xs.zip (F7 l)) va gone vg _ Y ha (λhl=>(hj _ (xm hl).1).trans (hh _ (xm hl).2)) (by rw[y4];exact r) (by rw[Ev];omega) (λhl=>(hj _ (xn (by rintro rfl;simp at hl)).1).trans (hh _ (xn (by rintro rfl;simp at hl)).2)) (λq hq=>by
  obtain⟨g1,g2,g3,g4,g5,g6⟩:=hG.zip EA hlv EA q hq;exact⟨g1,g2,g3,g4,λ_=>(hj _ EA).trans (hh _ g5.1),g6⟩) (hg.mod O (λhl e=>e (hgk hl))) EA (λhl=>(hj _ (by have:=hg.base_lt EK hl;omega)).trans (hgk hl)) hgi EA) rfl (.inl rfl) (λu22 w22 zz yw=>?_)
 have hsz22:=O.size;have O:=O.own zz (λi hi xe=>(by rw[<-hj i EA];exact hi));obtain⟨rfl,κ3,zq,yy,⟨tbs,zd,z3⟩,yh⟩:=yw;have Y:=yh;refine da (de zr (EH ?_));refine ro ?_;exact⟨_,rfl,O,0,κ3,vx,_,_,_,zq,dead,rfl,λk hk=>(yy k (A0 hk yv) (λhl e=>by have:=(xm hl).2;omega)).trans (hj k EA),Y,.inr ⟨xi,hck1,fs2,hcp,hcu,hV2,by omega,.inr ⟨AI c6,rfl,rfl,.inr ⟨AI c7,rfl,rfl,rfl,tbs,zd.trans z9,z3⟩⟩⟩⟩
def NB (L:Led)(D:Dsk)(mem:List Cell)(dead:Bool)(l:List Rw)(e:Int)(L':Led)(D':Dsk)(mem':List Cell)(dead':Bool):Prop:=
 (dead=true/\e=9/\L'=L/\D'=D/\mem'=mem/\dead'=dead)\/(dead=false/\Ia l≠0/\e=Ia l/\L'=L/\D'=D/\mem'=mem/\dead'=dead)\/
 (dead=false/\Ia l=0/\L'=(L.append D (FF l)).2.2.1/\D'=(L.append D (FF l)).2.2.2/\(((L.append D (FF l)).2.1≠0/\e=(L.append D (FF l)).2.1/\mem'=mem/\dead'=true)\/((L.append D (FF l)).2.1=0/\e=0/\mem'=Il mem (F0 l (L.append D (FF l)).1)/\dead'=false)))
def Jy (L:Led)(D:Dsk)(V:Vs)(ts:List Tb)(mem:List Cell)(dead ok:Bool)(e:Int)(L':Led)(D':Dsk)(V':Vs)(ts':List Tb)(mem':List Cell)(dead':Bool):Prop:=
 (dead=true/\ok=false/\e=9/\L'=L/\D'=D/\V'=V/\ts'=ts/\mem'=mem/\dead'=dead)\/(dead=false/\mem=[]/\ok=false/\e=0/\L'=L/\D'=D/\V'=V/\ts'=ts/\mem'=mem/\dead'=dead)\/
 (dead=false/\mem≠[]/\∃m,Mg mem m/\JZ L D V ts dead m 0 [] e L' D' V' ts' dead'/\((e≠0/\ok=false/\mem'=mem)\/(e=0/\ok=true/\mem'=[])))
theorem SJ {l:List Cell}(h:∀c∈l,Gn c<=20496):GS l<=l.length*20496:=by
 induction l with
 | nil=>simp [GS]
 | cons c r ih=>
  have h1:=h c Al;have h2:=ih (λx z=>h x (Am _ z));unfold GS at *;simp only [Aq,AW,AB]at *;omega
theorem Rk {l:List Rw}{seq:Int}(h:Ia l=0):GS (F0 l seq)<=10500000:=by
 obtain⟨h1,h2,h3,h4⟩:=LI h;have h5:=MH l seq;have h6:=SJ (l:=F0 l seq) (λc z=>by
  obtain⟨r,J,rfl⟩:=R6 z;have:=Np (h4 r J);unfold Gn Rw.cell;simp only [];omega)
 omega
theorem Xxz {α:Type}(eq:α->α->Bool):∀l:List α,(Jk eq l).length<=l.length/\∀x∈Jk eq l,x∈l:=by
 have h:∀(r:List α) (p:α),(IQ eq p r).length<=r.length/\∀x∈IQ eq p r,x∈r:=by
  intro r
  induction r with
  | nil=>intro p;exact⟨Aa _,λx z=>z⟩
  | cons a r ih=>
   intro p;unfold IQ;have:=ih a;split
   ·exact⟨Nat.le_succ_of_le this.1,λx z=>Am _ (this.2 x z)⟩
   ·exact⟨Ew this.1,λx z=>(Aj.1 z).elim (λe=>e▸Al) (λh=>Am _ (this.2 x h))⟩
 intro l
 cases l with
 | nil=>exact⟨Aa _,λx z=>z⟩
 | cons a r=>exact⟨Ew (h r a).1,λx z=>(Aj.1 z).elim (λe=>e▸Al) (λJ=>Am _ ((h r a).2 x J))⟩
theorem OM {l m:List Cell}(h:Mg l m):m.length<=l.length/\∀c∈m,c∈l:=by
 obtain⟨l',r,hu,rfl⟩:=h;have:=Xxz JG l';exact⟨by rw[<-r.length_eq];exact this.1,λc z=>r.mem_iff.1 (this.2 c z)⟩
section
variable {κ:Nat->Nat}{bs bd bl bo bm:Nat}{vf:Value}{L:Led}{D:Dsk}{V:Vs}{ts:List Tb}{mem:List Cell}{dead:Bool}{w w':World}
theorem StE.setM {bm':Nat}{mem':List Cell}{F:Nat->Prop}(h:StE κ bs bd bl bo bm vf L D V ts mem dead w)(m:Vc.Mod (ES bs) w w')(hm:EL w' bs (He bd bl V.next vf bo bm' dead) 90)(hM:F6 F w bm' mem')(hF:∀k,F k->κ k=0)[DecidablePred F]:StE (λk=>if F k then 3 else κ k) bs bd bl bo bm' vf L D V ts mem' dead w':=by
 have r:=h.relab (κ':=λk=>if F k then 3 else κ k) (λk hk=>if_neg (λe=>hk (hF k e))) (λk hk=>by
  by_cases e:F k
  ·exact hM.lt k e
  ·rw[if_neg e]at hk;exact h.lt k hk)
 have o:∀k,(if F k then 3 else κ k)≠5->¬ ES bs k:=λk hk e=>hk (by have e2:k=bs:=e;rw[e2];exact r.k0);exact⟨hm,r.ld.mod m (λk hk=>o k (by rw[hk];decide)),r.mp.mod m (o _ (by rw[r.k2];decide)),(F6.mod hM m (λk hk=>o k (by rw[if_pos hk];decide))).to (λk hk=>if_pos hk) (λk hk=>A0 (r.lt k (by rw[hk];decide)) m.size),r.vs.mod m (λJ=>o _ (by rw[r.k4 J];decide)),λt z=>(r.tb t z).mod m (λk hk=>o k (by rw[r.k6 t z k hk];decide)),r.k0,r.k2,r.k4,r.k6,λk hk=>A0 (r.lt k hk) m.size⟩
end
theorem O3 (κ:Nat->Nat)(bs bd bl bo bm:Nat)(vf:Value)(L:Led)(D:Dsk)(V:Vs)(ts:List Tb)(mem:List Cell)(dead:Bool)(l:List Rw)(v:Value)(w:World)(h:StE κ bs bd bl bo bm vf L D V ts mem dead w)(hv:EM Rw.cs 3 w v l)(hl:l.length<=100000)(hvk:l≠[]->κ (base v).1=0)(hml:mem.length<=600000)(hcnt:L.ents.length<=900000)(hmz:GS mem<=100000000000) :
  Calls Tryz.prog 14 [ED bs 0,v].toArray w (Fh (λk=>κ k≠0) w (λu w'=>∃e κ' L' D' mem' dead',u=I e/\(∀k,k<w.heap.size->κ' k=κ k)/\StE κ' bs bd bl bo bm vf L' D' V ts mem' dead' w'/\NB L D mem dead l e L' D' mem' dead')):=by
 refine cw Tryz.func14 ?_;have z:=Vc.Mod.refl (λk=>κ k≠0) w;have J:=h;have xe:∀k,w.heap.size<=k->κ k=0:=λk hk=>AL λh9=>by have:=h.lt k h9;omega
 refine ws λ_ Z1=>wr (da (de Z1 (ws λ_ Z2=>ws λ_ Z3=>wr (dm ?_))));refine cP (Qp bs bd bl V.next vf bo bm dead _ J.m) RX.all λw1 x1=>?_;have J:=J.ext x1;have z:=z.ext x1;refine da (de Z3 (ws λ_ Z4=>wr (dm ?_)));refine dp (F8 rfl rfl) (de Z4 (wi (λc1=>?_) λc1=>?_))
 ·refine ws λ_ Z5=>wr (dm (da (de Z5 (EH ?_))));refine ro ?_;have hw:dead=true:=by cases dead with|true=>rfl|false=>exact absurd rfl c1
  subst hw;exact⟨_,rfl,z,9,κ,L,D,mem,true,rfl,λ_ _=>rfl,J,.inl ⟨rfl,rfl,rfl,rfl,rfl,rfl⟩⟩
 have xa:dead=false:=by cases dead with|false=>rfl|true=>exact absurd EK c1
 subst xa;refine EG (Z2 _ _ (ws λ_ Z6=>wr (dm ?_)));refine cG (Vj l v _ (hv.mod z (λhl e=>e (hvk hl))) EA) RX.all λu2 w2 x2 xb=>?_;have hh:=z.size;have J:=J.ext x2;have z:=z.ext x2;obtain⟨vb,rfl,hf⟩:=xb;have Z:=hf.mono hh;refine dm ?_;refine dx rfl rfl (dx rfl rfl (da (da (de Z6 (ws λ_ Z7=>ws λ_ Z8=>wr (dm ?_))))));refine dp (F8 rfl rfl) (de Z8 (wi (λc2=>?_) λc2=>?_))
 ·refine ws λ_ Z9=>wr (dm (da (de Z9 (EH ?_))));refine ro ?_;exact⟨_,rfl,z,_,κ,L,D,mem,false,rfl,λ_ _=>rfl,J,.inr (.inl ⟨rfl,c2,rfl,rfl,rfl,rfl,rfl⟩)⟩
 have O:Ia l=0:=AI c2;rw[if_pos O]at Z;obtain⟨hr1,hr2,hr3,h6⟩:=LI O;have hbl9:=Ns l;have hnl9:=Gd l.length;have h5:(FF l).length<=1000000:=by unfold FF;rw[Ab];omega
 refine EG (Z7 _ _ (ws λ_ hz=>wr (dm ?_)));refine dz rfl (df 1 rfl (dl rfl (J.m.at rfl) (dm ?_)));have hc:=z.size;refine cD (Xzv _ bl bd L D (FF l) vb _ J.ld (Z.arr EE) h5 EA (λhl e=>by have e1:κ (base vb).1=1:=e;rw[xe _ (Z.base_ge hl).1]at e1;cases e1)) (.inl rfl) λu3 w3 x3 xg=>?_;have hsz3:=z.size;have z:=z.own x3 (λi hi hg=>(by have e1:κ i=1:=hi;rw[e1];decide));obtain⟨rfl,hy⟩:=xg;have Y:=J.ledger x3 hy;have ha:∀k,k<w.heap.size->HE κ 1 _ _ k=κ k:=λk hk=>Ld (κ:=κ) (i:=1) (w':=w3) (A0 hk hc);have J:=Y;refine dm ?_;refine dx rfl rfl (dx rfl rfl (da (da (de hz (ws λ_ h7=>ws λ_ hp=>wr (dm ?_))))));refine dp (F8 rfl rfl) (de hp (wi (λc3=>?_) λc3=>?_))
 ·refine ws λ_ ht=>wr (dm (dm ?_));refine cD (Ph bs bd bl V.next vf bo bm false (L.append D (FF l)).2.1 _ J.m) (.inl rfl) λu4 w4 x4 xc=>?_;have hsz4:=z.size;have z:=z.own x4 (λi hi hg=>(by have e1:i=bs:=hi;rw[e1,h.k0];decide));obtain⟨rfl,h8⟩:=xc;have Y:=J.head x4 h8;have J:=Y;refine da (de ht (EH ?_));refine ro ?_;exact⟨_,rfl,z,_,_,_,_,mem,_,rfl,ha,J,.inr (.inr ⟨rfl,O,rfl,rfl,.inl ⟨c3,rfl,rfl,by simp [c3]⟩⟩)⟩
 refine EG (h7 _ _ (ws λ_ hq=>wr (dm (dm (dm ?_)))));have hlt9:=J.lt;have hb:=z.size;refine cD (Vv _ bs bd bl V.next vf bo bm false mem l v (L.append D (FF l)).1 _ J.m J.mr (by rw[J.k0];decide) (hv.mod z (λhl e=>e (hvk hl))) EA (λr hr=>by have:=Np (h6 r hr);omega) EA (by have:=Rk (seq:=(L.append D (FF l)).1) O;omega)) (.inl rfl) λu5 w5 x5 hj=>?_;have hsz5:=z.size;have z:=z.own x5 (λi hi hg=>(by rw[<-ha i EA];have e1:=hi;rw[e1];decide));obtain⟨rfl,xf⟩:=hj;have Y:=J.setMem x5 xf;have J:=Y;refine de hq (ws λ_ xd=>wr (da (de xd (EH ?_))));refine ro ?_;exact⟨_,rfl,z,0,_,_,_,_,false,rfl,λk hk=>(Ld (A0 hk hb)).trans (ha k hk),J,.inr (.inr ⟨rfl,O,rfl,rfl,.inr ⟨AI c3,rfl,rfl,rfl⟩⟩)⟩
theorem Ps (κ:Nat->Nat)(bs bd bl bo bm:Nat)(vf:Value)(L:Led)(D:Dsk)(V:Vs)(ts:List Tb)(mem:List Cell)(dead:Bool)(w:World)(h:StE κ bs bd bl bo bm vf L D V ts mem dead w)(hml:mem.length<=30000)(hmc:∀c∈mem,c.key.length<=4096/\c.val.length<=16384/\c.seq<=4611686018427387904)(hV:GI V=true)(hgv:GV w)(hgvs:∀k,Li k->κ k=0)(htl:ts.length<=900000) :
  Calls Tryz.prog 15 [ED bs 0].toArray w (Fh (λk=>κ k≠0) w (λu w'=>∃ok e κ' bm' vf' L' D' V' ts' mem' dead',u=.tuple #[B ok,I e]/\(∀k,k<w.heap.size->κ' k=κ k)/\StE κ' bs bd bl bo bm' vf' L' D' V' ts' mem' dead' w'/\Jy L D V ts mem dead ok e L' D' V' ts' mem' dead')):=by
 refine cw Tryz.func15 ?_;have r:=Vc.Mod.refl (λk=>κ k≠0) w;have J:=h;have xn:∀k,w.heap.size<=k->κ k=0:=λk hk=>AL λh9=>by have:=h.lt k h9;omega
 refine ws λ_ Z1=>wr (da (da (de Z1 (ws λ_ Z2=>ws λ_ Z3=>wr (dm ?_)))));refine cP (Qp bs bd bl V.next vf bo bm dead _ J.m) RX.all λw1 x1=>?_;have J:=J.ext x1;have r:=r.ext x1;refine da (de Z3 (ws λ_ Z4=>wr (dm ?_)));refine dp (F8 rfl rfl) (dm ?_);refine Fz 10 rfl (λc1=>?_) (λc1=>?_)
 ·refine dk (dk (dk (dk (dk (dk (EO (de Z4 ?_)))))));refine GD rfl (ws λ_ Z5=>wr (dm (da (da (de Z5 (EH ?_))))));refine rt ?_;have xe:dead=true:=by cases dead with|true=>rfl|false=>exact absurd rfl c1
  subst xe;exact⟨_,rfl,r,false,9,κ,bm,vf,L,D,V,ts,mem,true,rfl,λ_ _=>rfl,J,.inl ⟨rfl,rfl,rfl,rfl,rfl,rfl,rfl,rfl,rfl⟩⟩
 have xm:dead=false:=by cases dead with|false=>rfl|true=>exact absurd EK c1
 subst xm;refine dm ?_;refine dz rfl (df 5 rfl (dl rfl (J.m.at rfl) (cP (J.mr.calls_len _ EA) RX.all λw2 x2=>?_)));have J:=J.ext x2;have r:=r.ext x2;refine dp (G1 rfl rfl) (EO (de Z4 ?_));refine wi (λc2=>?_) λc2=>?_
 ·refine ws λ_ Z6=>wr (dm (da (da (de Z6 (EH ?_)))));refine rt ?_;exact⟨_,rfl,r,false,0,κ,bm,vf,L,D,V,ts,mem,false,rfl,λ_ _=>rfl,J,.inr (.inl ⟨rfl,A5 EA,rfl,rfl,rfl,rfl,rfl,rfl,rfl,rfl⟩)⟩
 refine EG (Z2 _ _ (ws λ_ Z7=>ws λ_ Z8=>wr (dm (dm ?_))));refine dz rfl (df 5 rfl (dl rfl (J.m.at rfl) (cG (J.mr.calls_all _ EA (λc hc=>(hmc c hc).2.2)) RX.all λva w3 x3 hb=>?_)));have hg:=r.size;have J:=J.ext x3;have r:=r.ext x3;have O:=hb.mono hg;refine Ib (e:=95) (sz:=1) (zs:=[.slice none 0 0]) (pv:=[(0,?a20_0)]) (cs:=[?a20_0]) rfl E9 ⟨rfl,rfl⟩ E9 rfl ?h20 ?f20 RX.all (λb1 w4 e1 x4 m1=>?k20)
 case h20=>refine⟨rfl,?_,trivial⟩<;>(conv=>lhs;whnf)
 case f20=>simp [Hw,Fe,Aw,O.sl.cells]
 have g1:=r.ge e1;have a1_hS:=J.lt;have o1_hoA:=O.ltb e1;have J:=J.ext x4;have O:=O.ext x4;have r:=r.ext x4;refine cG (Qj [(va,mem)] _ _ (m1.arr (enc:=IR) (sz:=1) (l:=[(va,mem)]) rfl EE rfl EQ) (λq hq=>by rw[Ah.1 hq];exact O.arr EE) EQ (by simp;omega)) RX.all λvm w5 x5 h8=>?_;have hy:=r.size;have J:=J.ext x5;have r:=r.ext x5;obtain⟨m,hw,hp⟩:=h8;have ha:Mg mem m:=by simpa using hw
 have hz:=hp.mono hy;have hj:=OM ha;have hr:=r.size;refine cD (Wl κ bs bd bl bo bm vf L D V ts mem false m vm 0 [] (.slice none 0 0) _ J (hz.arr EE) EA (λc hc=>⟨(hmc c (hj.2 c hc)).1,(hmc c (hj.2 c hc)).2.1⟩) EK ((Vc.Own.nil (enc:=Fi.cs) (sz:=5) (T:=0) (B:=0)).arr EE) EK (λh9=>absurd rfl h9) (λf hf=>by cases hf) hV (hgv.mod r (λk hk e=>e (hgvs k hk))) hgvs htl (λhl=>xn _ (hz.base_ge hl).1)) (.inl rfl) λu6 w6 x6 xl=>?_;have hsz6:=r.size;have r:=r.own x6 (λi hi xo=>hi);obtain⟨e1,κ1,h6,L1,D1,V1,ts1,dead1,rfl,xf,xi,hh⟩:=xl;have J:=xi;have Z:∀k,k<w.heap.size->κ1 k=κ k:=λk hk=>xf k (A0 hk hr);refine da (de Z8 (ws λ_ Z9=>wr (dm ?_)));refine dp (F8 rfl rfl) (de Z9 (wi (λc3=>?_) λc3=>?_))
 ·refine ws λ_ xh=>wr (dm (da (da (de xh (EH ?_)))));refine rt ?_;exact⟨_,rfl,r,false,e1,κ1,bm,h6,L1,D1,V1,ts1,mem,dead1,rfl,Z,J,.inr (.inr ⟨rfl,λe=>c2 (by rw[e];rfl),m,ha,hh,.inl ⟨c3,rfl,rfl⟩⟩)⟩
 refine EG (Z7 _ _ (ws λ_ xj=>wr (dm ?_)));have Y:=J.lt;obtain⟨N0,hN0⟩:∃z,z=w6.heap.size:=⟨_,rfl⟩;have ht:w.heap.size<=N0:=by rw[hN0];exact r.size
 rw[<-hN0]at Y;refine cG (Sq [] (.slice none 0 0) _ ((Vc.Own.nil (enc:=Iu) (sz:=1) (T:=0) (B:=0)).arr EE) EK) RX.all λu7 w7 x7 xd=>?_;have hsz7:=r.size;have J:=J.ext x7;have r:=r.ext x7;obtain⟨xc,rfl,h5⟩:=xd;rw[<-hN0]at h5;have xb:∀k,N0<=k/\k<w7.heap.size->κ1 k=0:=λk hk=>AL λh9=>by have:=Y k h9;omega
 refine dz rfl (df 5 rfl (M5 rfl rfl rfl rfl E9 J.m (Ap rfl) (.inl rfl) (λw8 x8 xs8 xp=>?_)));have xk:=J.setM x8 xp h5 xb;have r:=r.own x8 (λi hi xo=>by have xg:i=bs:=hi;rw[xg,h.k0];decide);have J:=xk;refine de xj (ws λ_ xa=>wr (da (da (de xa (EH ?_)))));refine rt ?_;have h7:e1=0:=AI c3;subst h7;exact⟨_,rfl,r,true,0,_,xc,h6,L1,D1,V1,ts1,[],dead1,rfl,λk hk=>(if_neg (λe=>absurd (A0 hk ht) (Bi.2 e.1))).trans (Z k hk),J,.inr (.inr ⟨rfl,λe=>c2 (by rw[e];rfl),m,ha,hh,.inr ⟨rfl,rfl,rfl⟩⟩)⟩
def Fx (mem:List Cell)(ts:List Tb):List Cell:=mem++ts.flatMap (·.cs)
theorem GC {mem:List Cell}{ts:List Tb}{c:Cell} : c∈Fx mem ts↔c∈mem\/∃t∈ts,c∈t.cs:=by unfold Fx;rw[Ay,BP]
theorem Lt {α β:Type}{f:α->β} : ∀ {l:List α},(l.map f).Nodup->∀ {x y:α},x∈l->y∈l->f x=f y->x=y
 | [],_,_,_,hx,_,_=>by cases hx
 | a :: r,h,x,y,hx,hy,e=>by
  rw[Aq,AZ]at h;rcases Aj.1 hx with ex|hx2
  ·rcases Aj.1 hy with ey|hy2
   ·rw[ex,ey]
   ·exact absurd (by rw[<-ex,e];exact BD hy2) h.1
  ·rcases Aj.1 hy with ey|hy2
   ·exact absurd (by rw[<-ey,<-e];exact BD hx2) h.1
   ·exact Lt h.2 hx2 hy2 e
theorem Xo {a b c:EC}(h1:EU a b=true)(h2:EU c b=false):EU a c=true:=by
 rcases Jm a c with e|e|e
 ·rw[e,h2]at h1;cases h1
 ·exact e
 ·rw[IZ _ _ _ e h1]at h2;cases h2
theorem Oe {a b c:EC}(h1:EU b a=false)(h2:EU b c=true):EU a c=true:=by
 rcases Jm a c with e|e|e
 ·rw[e,h2]at h1;cases h1
 ·exact e
 ·rw[IZ _ _ _ h2 e]at h1;cases h1
def Nt (a b:Fi):Prop:=a.lev<b.lev\/(a.lev=b.lev/\((a.lev=0/\a.id<b.id)\/(0<a.lev/\EU a.lst b.fst=true)))
theorem X69 {n:Int}{f:Fi}(h:HN n f=true):EU f.lst f.fst=false:=by
 unfold HN at h;simp only [Au,Bool.not_eq_true']at h;exact h.2
theorem Yap {n:Int}{a b:Fi}(ha:HN n a=true)(h:Ie a b=true):Nt a b:=by
 have h0:=(JH ha).2.2.1;unfold Ie at h;split at h
 ·rename_i e;exact .inr ⟨e.2,.inr ⟨e.1,h⟩⟩
 ·rename_i e;rcases(Qy a b).1 h with h|⟨h1,⟨h2,h3⟩|⟨h2,h3⟩⟩
  ·exact .inl h
  ·exact .inr ⟨h1,.inl ⟨h2,h3⟩⟩
  ·exact absurd ⟨by omega,h1⟩ e
theorem X05 {a b c:Fi}(hb:EU b.lst b.fst=false)(h1:Nt a b)(h2:Nt b c):Nt a c:=by
 rcases h1 with h1|⟨h1,h1'|h1'⟩
 ·rcases h2 with h2|⟨h2,_⟩
  ·exact .inl EA
  ·exact .inl EA
 ·rcases h2 with h2|⟨h2,h2'|h2'⟩
  ·exact .inl EA
  ·exact .inr ⟨by omega,.inl ⟨h1'.1,by omega⟩⟩
  ·omega
 ·rcases h2 with h2|⟨h2,h2'|h2'⟩
  ·exact .inl EA
  ·omega
  ·exact .inr ⟨by omega,.inr ⟨h1'.1,IZ _ _ _ (Xo h1'.2 hb) h2'.2⟩⟩
theorem VA {n:Int} : ∀ {fs:List Fi},(∀f∈fs,HN n f=true)->JA fs=true->fs.Pairwise Nt
 | [],_,_=>Bp
 | [a],_,_=>List.pairwise_singleton _ _
 | a :: b :: r,ho,h=>by
  unfold JA at h;rw[Au]at h;have O:=VA (λf Y=>ho f (Am _ Y)) h.2;have z:=Yap (ho a Al) h.1;refine AO.2 ⟨λx J=>?_,O⟩;rcases Aj.1 J with rfl|J
  ·exact z
  ·exact X05 (X69 (ho b EQ)) z ((AO.1 O).1 x J)
theorem Yaq {V:Vs}(h:GI V=true):V.fs.Pairwise Nt:=by
 obtain⟨_,_,_,h4,_,r⟩:=Ig h;exact VA h4 r
theorem QW {α:Type}{R:α->α->Prop}{l:List α}(h:l.Pairwise R){x y:α}(hx:x∈l)(hy:y∈l):x=y\/R x y\/R y x:=by
 induction l with
 | nil=>cases hx
 | cons a r ih=>
  rw[AO]at h;rcases Aj.1 hx with ex|hx2
  ·rcases Aj.1 hy with ey|hy2
   ·exact .inl (ex.trans ey.symm)
   ·exact .inr (.inl (ex▸h.1 y hy2))
  ·rcases Aj.1 hy with ey|hy2
   ·exact .inr (.inr (ey▸h.1 x hx2))
   ·exact ih h.2 hx2 hy2
theorem Xx2 {V:Vs}(h:GI V=true){f g:Fi}(hf:f∈V.fs)(hg:g∈V.fs)(hl:f.lev=g.lev)(h0:0<f.lev):f=g\/EU f.lst g.fst=true\/EU g.lst f.fst=true:=by
 rcases QW (Yaq h) hf hg with e|e|e
 ·exact .inl e
 ·rcases e with e|⟨_,e|e⟩
  ·omega
  ·omega
  ·exact .inr (.inl e.2)
 ·rcases e with e|⟨_,e|e⟩
  ·omega
  ·omega
  ·exact .inr (.inr e.2)
structure TV (t:Tb)(f:Fi):Prop where
 h:t.h=(f.lev,f.id)
 ne:t.cs≠[]
 fst:f.fst=(FZ t.cs 0).key
 lst:f.lst=(FZ t.cs (t.cs.length-1)).key
theorem Fw {l:List Cell}{i:Nat}{c:Cell}(h:l[i]?=some c):FZ l i=c:=by unfold FZ;rw[h];rfl
theorem X7a {l:List Cell}(hu:I3 l){c:Cell}(hc:c∈l):EU c.key (FZ l 0).key=false/\EU (FZ l (l.length-1)).key c.key=false:=by
 obtain⟨i,hi⟩:=AJ hc;obtain⟨h1,rfl⟩:=Ao.1 hi;have r:=BU.1 hu;rw[Fw (Av (show 0<l.length by omega)),Fw (Av (show l.length-1<l.length by omega))]
 constructor
 ·rcases Cl i with rfl|h0
  ·exact HZ _
  ·exact Jp (r 0 i EA h1 h0)
 ·by_cases e:i=l.length-1
  ·subst e;exact HZ _
  ·exact Jp (r i (l.length-1) h1 EA EA)
theorem TV.rng {t:Tb}{f:Fi}(h:TV t f)(hu:I3 t.cs){c:Cell}(hc:c∈t.cs):EU c.key f.fst=false/\EU f.lst c.key=false:=by
 rw[h.fst,h.lst];exact X7a hu hc
def Rn (t u:Tb):Prop:=t.h.1<u.h.1\/(t.h.1=0/\u.h.1=0/\u.h.2<t.h.2)
structure Sto (n:Int)(V:Vs)(ts:List Tb)(mem:List Cell):Prop where
 isv:GI V=true
 fwd:∀f∈V.fs,∃t∈ts,TV t f
 bwd:∀t∈ts,∃f∈V.fs,TV t f
 nod:(ts.map (·.h)).Nodup
 up:∀t∈ts,I3 t.cs
 okc:∀c∈Fx mem ts,Ge c=true/\c.seq<=n
 ms:Fv mem
 n1:∀c∈mem,∀t∈ts,∀d∈t.cs,d.key=c.key->d.seq<c.seq
 n2:∀t∈ts,∀u∈ts,Rn t u->∀c∈t.cs,∀d∈u.cs,d.key=c.key->d.seq<c.seq
theorem Qa {l:List Cell}(h:Fv l):IP l:=λc r d hd hk hs=>by
 rcases QW h r hd with e|e|e
 ·exact e
 ·rw[RV hk hs]at e;cases e
 ·rw[RV hk.symm hs.symm]at e;cases e
theorem WP {l:List Cell}(h:I3 l){c d:Cell}(hc:c∈l)(hd:d∈l)(hk:c.key=d.key):c=d:=by
 rcases QW h hc hd with e|e|e
 ·exact e
 ·exact absurd hk (Ms e)
 ·exact absurd hk.symm (Ms e)
section
variable {n:Int}{V:Vs}{ts:List Tb}{mem:List Cell}
theorem Sto.lev (h:Sto n V ts mem){t:Tb}(ht:t∈ts):0<=t.h.1/\t.h.1<=4/\1<=t.h.2/\t.h.2<V.next:=by
 obtain⟨f,r,hv⟩:=h.bwd t ht;have:=JH ((Ig h.isv).2.2.2.1 f r);rw[hv.h];exact⟨this.2.2.1,this.2.2.2.1,this.1,this.2.1⟩
theorem Sto.apart (h:Sto n V ts mem){t u:Tb}(ht:t∈ts)(hu:u∈ts)(hl:t.h.1=u.h.1)(h0:0<t.h.1){c d:Cell}(hc:c∈t.cs)(hd:d∈u.cs)(hk:d.key=c.key):t=u:=by
 obtain⟨f,Y,hv⟩:=h.bwd t ht;obtain⟨g,O,r⟩:=h.bwd u hu;obtain⟨J,Z⟩:=hv.rng (h.up t ht) hc;obtain⟨b1,z⟩:=r.rng (h.up u hu) hd;rw[hk]at b1 z;have e1:t.h.1=f.lev:=by rw[hv.h]
 have e2:u.h.1=g.lev:=by rw[r.h]
 rcases Xx2 h.isv Y O EA EA with e|e|e
 ·refine Lt h.nod ht hu ?_;rw[hv.h,r.h,e]
 ·rw[Oe Z e]at b1;cases b1
 ·rw[Oe z e]at J;cases J
theorem Sto.uniq (h:Sto n V ts mem):IP (Fx mem ts):=λc r d hd hk hs=>by
 rcases GC.1 r with r|⟨t,ht,r⟩
 ·rcases GC.1 hd with hd|⟨u,hu,hd⟩
  ·exact Qa h.ms c r d hd hk hs
  ·have:=h.n1 c r u hu d hd hk.symm;omega
 ·rcases GC.1 hd with hd|⟨u,hu,hd⟩
  ·have:=h.n1 d hd t ht c r hk;omega
  ·by_cases e:t=u
   ·subst e;exact WP (h.up t ht) r hd hk
   ·have l1:=h.lev ht;have l2:=h.lev hu;have z:t.h≠u.h:=λe2=>e (Lt h.nod ht hu e2);rcases DM t.h.1 u.h.1 with g|g|g
    ·have:=h.n2 t ht u hu (.inl g) c r d hd hk.symm;omega
    ·by_cases g0:0<t.h.1
     ·exact absurd (h.apart ht hu g g0 r hd hk.symm) e
     ·rcases DM t.h.2 u.h.2 with k|k|k
      ·have:=h.n2 u hu t ht (.inr ⟨by omega,by omega,k⟩) d hd c r hk;omega
      ·exact absurd (Prod.ext g k) z
      ·have:=h.n2 t ht u hu (.inr ⟨by omega,by omega,k⟩) c r d hd hk.symm;omega
    ·have:=h.n2 u hu t ht (.inl g) d hd c r hk;omega
end
theorem Xtp {ts:List Tb}{h:Int×Int}(hn:∀t∈ts,t.h≠h):Hl ts h=none:=by
 unfold Hl;rw[Dh];intro t r;simpa using hn t r
theorem M4 {ts:List Tb}(hn:(ts.map (·.h)).Nodup){t:Tb}(ht:t∈ts):Hl ts t.h=some t:=by
 cases e:Hl ts t.h with
 | none=>
  unfold Hl at e;rw[Dh]at e;have:=e t ht;simp at this
 | some u=>
  have h1:=OU e;have h2:u.h=t.h:=by unfold Hl at e;simpa using List.find?_some e
  rw[Lt hn h1 ht h2]
theorem O7 : ∀(tbs ts:List Tb),(∀t∈tbs,∀u∈ts,u.h≠t.h)->(tbs.map (·.h)).Nodup->tbs.foldl G4 ts=ts++tbs
 | [],ts,_,_=>by simp
 | t :: r,ts,h,hn=>by
  rw[Aq,AZ]at hn;have e:G4 ts t=ts++[t]:=by
   unfold G4;rw[Xtp (λu hu=>h t Al u hu)];rfl
  rw[List.foldl_cons,e,O7 r (ts++[t]) (λq z u hu=>?_) hn.2]
  ·simp
  ·rcases Ay.1 hu with hu|hu
   ·exact h q (Am _ z) u hu
   ·rw[Ah.1 hu];exact λe2=>hn.1 (by rw[e2];exact BD z)
def kp (gone:List Fi)(t:Tb):Bool:=gone.all λf=>decide (t.h≠(f.lev,f.id))
theorem QD : ∀(gone:List Fi) (ts:List Tb),Lm ts gone=ts.filter (kp gone)
 | [],ts=>by
  exact(Bm.2 λt _=>rfl).symm
 | f :: r,ts=>by
  show Lm (J2 ts (f.lev,f.id)) r=_;rw[QD r,J2,List.filter_filter]
  congr 1
  funext t
  show(kp r t && decide (t.h≠(f.lev,f.id)))=(decide (t.h≠(f.lev,f.id)) && kp r t);rw[Bool.and_comm]
theorem L4 {gone:List Fi}{t:Tb} : kp gone t=true↔∀f∈gone,t.h≠(f.lev,f.id):=by
 unfold kp;simp
theorem Xx4 (s:List (List Cell)×Nat)(c:Cell)(h:∀g∈s.1,g≠[]):∀g∈(JF s c).1,g≠[]:=by
 unfold JF;split
 ·intro g r;rcases Ay.1 r with r|r
  ·exact h g r
  ·rw[Ah.1 r];simp
 ·intro g r;rcases Ay.1 r with r|r
  ·exact h g (List.dropLast_subset _ r)
  ·rw[Ah.1 r];simp
theorem Tm (l:List Cell):∀g∈F7 l,g≠[]:=by
 unfold F7
 suffices hs:∀(l:List Cell) (s:List (List Cell)×Nat),(∀g∈s.1,g≠[])->∀g∈(l.foldl JF s).1,g≠[] from hs l _ (λg z=>by cases z)
 intro l
 induction l with
 | nil=>exact λs h=>h
 | cons c r ih=>exact λs h=>ih _ (Xx4 s c h)
structure ChS (V:Vs)(ts:List Tb)(l:List Cell)(lv:Int)(gone:List Fi)(V':Vs)(ts':List Tb):Prop where
 ok:Kl V (gone.map (·.id)) (F5 lv V.next (F7 l))=true
 vs:∃fs',fs'.Perm (Ik V.fs (gone.map (·.id))++F5 lv V.next (F7 l))/\GI ⟨GZ V.next (F5 lv V.next (F7 l)),fs'⟩=true/\V'=⟨GZ V.next (F5 lv V.next (F7 l)),fs'⟩
 tb:∃tbs:List Tb,tbs.map (λt=>(t.h,t.cs))=KM lv V.next (F7 l)/\ts'=Lm (tbs.foldl G4 ts) gone
theorem W6 (L:Led)(D:Dsk)(p:EC):(L.write D L.last p).2.1.last=L.last/\(L.write D L.last p).2.1.ents.length<=L.ents.length:=by
 unfold Led.write;split
 ·exact⟨rfl,Aa _⟩
 split
 ·exact⟨rfl,Aa _⟩
 split
 ·exact⟨rfl,Aa _⟩
 dsimp only
 repeat' split
 all_goals first|exact⟨rfl,Aa _⟩|exact⟨by unfold Led.last;simp,Ad _⟩
theorem Pp {L L':Led}{D D':Dsk}{V V':Vs}{ts ts':List Tb}{dead dead':Bool}{l:List Cell}{lv e:Int}{gone:List Fi}(h:JZ L D V ts dead l lv gone e L' D' V' ts' dead') :
  (L'.last=L.last/\L'.ents.length<=L.ents.length)/\((e≠0/\V'=V/\ts'=ts)\/(e=0/\dead'=dead/\ChS V ts l lv gone V' ts')):=by
 rcases h with⟨h1,rfl,_,h2,h3,_⟩|⟨_,hok,fs',hp,_,hv,_,⟨h1,rfl,rfl,_,h2,h3,_⟩|⟨_,rfl,_,⟨h1,rfl,h2,h3,_⟩|⟨_,h1,h2,h3,h4⟩⟩⟩
 ·exact⟨⟨rfl,Aa _⟩,.inl ⟨h1,h2,h3⟩⟩
 ·exact⟨⟨rfl,Aa _⟩,.inl ⟨h1,h2,h3⟩⟩
 ·exact⟨W6 _ _ _,.inl ⟨h1,h2,h3⟩⟩
 ·exact⟨W6 _ _ _,.inr ⟨h1,h3,hok,⟨fs',hp,hv,h2⟩,h4⟩⟩
theorem PB {lv next:Int}{ss:List (List Cell)}{tbs:List Tb}(h:tbs.map (λt=>(t.h,t.cs))=KM lv next ss) :
  tbs.length=ss.length/\(∀(i:Nat) (t:Tb),tbs[i]?=some t->t.h=(lv,next+↑i)/\ss[i]?=some t.cs)/\(∀(i:Nat) (sg:List Cell),ss[i]?=some sg->∃t,tbs[i]?=some t/\t.h=(lv,next+↑i)/\t.cs=sg):=by
 have z:tbs.length=ss.length:=by
  have:=congrArg List.length h;unfold KM at this;simpa using this
 have r:∀(i:Nat) (t:Tb),tbs[i]?=some t->t.h=(lv,next+↑i)/\ss[i]?=some t.cs:=λi t hi=>by
  have h1:=congrArg (λl=>l[i]?) h;unfold KM at h1;simp only [AH,KS,hi,Ck]at h1
  cases hs:ss[i]? with
  | none=>rw[hs]at h1;simp at h1
  | some sg=>
   rw[hs]at h1;simp only [Ck,A3.injEq,AX.injEq]at h1;exact⟨h1.1,by rw[h1.2]⟩
 refine⟨z,r,λi sg hi=>?_⟩;have hil:=(Ao.1 hi).1;have h1:tbs[i]?=some (tbs[i]'EA):=Av _;obtain⟨h2,h3⟩:=r i _ h1;rw[hi]at h3;exact⟨_,h1,h2,(A3.inj h3).symm⟩
theorem Xtq {lv next:Int}{ss:List (List Cell)}{tbs:List Tb}(h:tbs.map (λt=>(t.h,t.cs))=KM lv next ss):tbs.flatMap (·.cs)=ss.flatten:=by
 obtain⟨hl,h1,_⟩:=PB h;rw[List.flatMap_def]
 congr 1
 apply BA
 intro i;rw[AH]
 cases hi:tbs[i]? with
 | none=>rw[Et]at hi;rw[Bl EA];rfl
 | some t=>rw[(h1 i t hi).2];rfl
theorem X7b {lv next:Int}{ss:List (List Cell)}{f:Fi}(h:f∈F5 lv next ss):∃(i:Nat) (sg:List Cell),ss[i]?=some sg/\f=Kp lv next i sg:=by
 unfold F5 at h;obtain⟨p,r,rfl⟩:=Ar.1 h;obtain⟨i,hi⟩:=AJ r;rw[KS]at hi;obtain⟨sg,hs,rfl⟩:=Bd.1 hi;exact⟨i,sg,hs,rfl⟩
theorem X06 {lv next:Int}{ss:List (List Cell)}{i:Nat}{sg:List Cell}(h:ss[i]?=some sg):Kp lv next i sg∈F5 lv next ss:=by
 unfold F5;refine Ar.2 ⟨(sg,i),Ak (i:=i) ?_,rfl⟩;rw[KS,h];rfl
section
variable {n lv:Int}{V V':Vs}{ts ts':List Tb}{mem l:List Cell}{gone:List Fi}
theorem ChS.sto (h:Sto n V ts mem)(c:ChS V ts l lv gone V' ts')(hg:∀f∈gone,f∈V.fs)(hlu:I3 l)(hl:∀c∈l,c∈Fx mem ts)
  (hA:∀u∈ts,kp gone u=true->(lv<u.h.1\/(lv=0/\u.h.1=0))->∀c∈l,∀d∈u.cs,d.key=c.key->d.seq<c.seq)
  (hB:∀t∈ts,kp gone t=true->t.h.1<lv->∀c∈t.cs,∀d∈l,d.key=c.key->d.seq<c.seq) :
  Sto n V' ts' []/\∃tbs:List Tb,ts'=ts.filter (kp gone)++tbs/\tbs.flatMap (·.cs)=l:=by
 obtain⟨hok,⟨fs',hp,hv,rfl⟩,tbs,h8,xa⟩:=c;obtain⟨htl,hr,xc⟩:=PB h8;have O:=Xtq h8;rw[Q2]at O;have Z:∀t∈tbs,t.h.1=lv/\V.next<=t.h.2/\∃i:Nat,t.h.2=V.next+↑i/\(F7 l)[i]?=some t.cs:=λt r=>by
  obtain⟨i,hi⟩:=AJ r;obtain⟨h1,h2⟩:=hr i t hi;rw[h1];exact⟨rfl,by show V.next<=V.next+↑i;omega,i,rfl,h2⟩
 have h7:∀t∈tbs,∀u∈ts,u.h≠t.h:=λt r u hu e=>by
  have h1:=(Z t r).2.1;have h2:=(h.lev hu).2.2.2;rw[e]at h2;omega
 have hz:(tbs.map (·.h)).Nodup:=by
  rw[List.Nodup,BU];intro i j hi hj hij e;simp only [An]at hi hj;simp only [List.getElem_map]at e;rw[(hr i _ (Av hi)).1,(hr j _ (Av hj)).1]at e;have:=(AX.inj e).2;omega
 have xg:∀t∈tbs,kp gone t=true:=λt r=>L4.2 λf Y e=>by
  have h1:=(Z t r).2.1;have h2:=(JH ((Ig h.isv).2.2.2.1 f (hg f Y))).2.1;rw[e]at h1;have h3:V.next<=f.id:=h1;omega
 have hh:ts'=ts.filter (kp gone)++tbs:=by
  rw[xa,O7 tbs ts h7 hz,QD,Bu,Bm.2 xg]
 refine⟨?_,tbs,hh,O⟩;have z:∀t,t∈ts'↔(t∈ts/\kp gone t=true)\/t∈tbs:=λt=>by rw[hh,Ay,Az]
 have xd:(F7 l).flatten=l:=Q2 l;have hy:∀t∈tbs,∀c∈t.cs,c∈l:=λt r c J=>by rw[<-O];exact BP.2 ⟨t,r,J⟩
 have h5:=(Ig h.isv).2.2.2.2.1;have hx:(F7 l).flatten.Pairwise λa b=>EU a.key b.key=true:=by rw[xd];exact hlu
 rw[List.pairwise_flatten]at hx;have hq:∀f∈V.fs,∀t∈ts,TV t f->(kp gone t=true↔f.id∉gone.map (·.id)):=λf Y t r hv=>by
  rw[L4]
  constructor
  ·intro h1 h2;obtain⟨g,hw,xb⟩:=Ar.1 h2;have:g=f:=Lt h5 (hg g hw) Y xb;exact h1 g hw (by rw[hv.h,this])
  ·intro h1 g hw e;refine h1 (Ar.2 ⟨g,hw,?_⟩);rw[hv.h]at e;exact(AX.inj e).2.symm
 refine⟨hv,λf Y=>?_,λt r=>?_,?_,λt r=>?_,λc J=>?_,Bp,λc J=>(by cases J),λt r u hu hn c J d hd hk=>?_⟩
 ·rcases Ay.1 (hp.mem_iff.1 Y)with Y|Y
  ·unfold Ik at Y;obtain⟨h6,xe⟩:=Az.1 Y;obtain⟨t,r,hv⟩:=h.fwd f h6;exact⟨t,(z t).2 (.inl ⟨r,(hq f h6 t r hv).2 (by simpa using xe)⟩),hv⟩
  ·obtain⟨i,sg,hs,rfl⟩:=X7b Y;obtain⟨t,r,h1,h2⟩:=xc i sg hs;exact⟨t,(z t).2 (.inr (Ak r)),h1,by rw[h2];exact Tm l sg (Ak hs),by rw[h2];rfl,by rw[h2];rfl⟩
 ·rcases(z t).1 r with⟨r,hk⟩|r
  ·obtain⟨f,Y,hv⟩:=h.bwd t r;refine⟨f,hp.mem_iff.2 (BC _ ?_),hv⟩;unfold Ik;refine Az.2 ⟨Y,?_⟩;simpa using(hq f Y t r hv).1 hk
  ·obtain⟨i,hi⟩:=AJ r;obtain⟨h1,h2⟩:=hr i t hi;exact⟨Kp lv V.next i t.cs,hp.mem_iff.2 (Bt _ (X06 h2)),h1,Tm l _ (Ak h2),rfl,rfl⟩
 ·rw[hh,AC];refine List.nodup_append.2 ⟨List.Nodup.sublist (C4 _ List.filter_sublist) h.nod,hz,λa ha b hb e=>?_⟩;obtain⟨u,hu,rfl⟩:=Ar.1 ha;obtain⟨t,r,rfl⟩:=Ar.1 hb;exact h7 t r u (Az.1 hu).1 e
 ·rcases(z t).1 r with⟨r,_⟩|r
  ·exact h.up t r
  ·obtain⟨_,_,i,_,h2⟩:=Z t r;exact hx.1 _ (Ak h2)
 ·rcases GC.1 J with J|⟨t,r,J⟩
  ·cases J
  ·rcases(z t).1 r with⟨r,_⟩|r
   ·exact h.okc c (GC.2 (.inr ⟨t,r,J⟩))
   ·exact h.okc c (hl c (hy t r c J))
 ·rcases(z t).1 r with⟨r,hkt⟩|r
  ·rcases(z u).1 hu with⟨hu,hku⟩|hu
   ·exact h.n2 t r u hu hn c J d hd hk
   ·obtain⟨g1,g2,_⟩:=Z u hu;have g3:=h.lev r;rcases hn with hn|⟨_,_,hn⟩
    ·exact hB t r hkt EA c J d (hy u hu d hd) hk
    ·omega
  ·obtain⟨g1,g2,i,g4,g5⟩:=Z t r;rcases(z u).1 hu with⟨hu,hku⟩|hu
   ·refine hA u hu hku ?_ c (hy t r c J) d hd hk;rcases hn with hn|⟨hn1,hn2,_⟩
    ·exact .inl EA
    ·exact .inr ⟨by omega,hn2⟩
   ·obtain⟨k1,k2,j,k4,k5⟩:=Z u hu;rcases hn with hn|⟨_,_,hn⟩
    ·omega
    ·have xh:j<i:=by omega
     obtain⟨hi,xf⟩:=Ao.1 g5;obtain⟨hj,h9⟩:=Ao.1 k5;have:=BU.1 hx.2 j i hj hi xh d (by rw[h9];exact hd) c (by rw[xf];exact J);exact absurd hk (Ms this)
theorem ChS.flush {m:List Cell}{M:List Rw}(h:Sto n V ts mem)(hm:Mg mem m)(c:ChS V ts m 0 [] V' ts')(hT:Sp.Told (Fx mem ts) M):Sto n V' ts' []/\Sp.Told (Fx [] ts') M/\(∃tbs:List Tb,ts'=ts++tbs/\tbs.flatMap (·.cs)=m):=by
 obtain⟨O,J⟩:=O0 (Qa h.ms) hm;obtain⟨h1,tbs,h2,h3⟩:=c.sto h (λf Z=>(by cases Z)) O (λc r=>GC.2 (.inl ((J c).1 r).1)) (λu hu _ _ c r d hd hk=>h.n1 c ((J c).1 r).1 u hu d hd hk) (λt z _ hl=>by have:=(h.lev z).1;omega);have h4:ts.filter (kp [])=ts:=Bm.2 λt _=>rfl;rw[h4]at h2;refine⟨h1,Ot hT (λc r=>?_) (λc r=>.inl ?_),tbs,h2,h3⟩
 ·rcases GC.1 r with r|⟨t,z,r⟩
  ·cases r
  ·rw[h2]at z;rcases Ay.1 z with z|z
   ·exact GC.2 (.inr ⟨t,z,r⟩)
   ·refine GC.2 (.inl ((J c).1 ?_).1);rw[<-h3];exact BP.2 ⟨t,z,r⟩
 ·rcases GC.1 r.1 with hc1|⟨t,z,hc1⟩
  ·have:c∈m:=(J c).2 ⟨hc1,λd hd=>r.2 d (GC.2 (.inl hd))⟩;rw[<-h3]at this;obtain⟨t,z,Y⟩:=BP.1 this;exact GC.2 (.inr ⟨t,by rw[h2];exact Bt _ z,Y⟩)
  ·exact GC.2 (.inr ⟨t,by rw[h2];exact BC _ z,hc1⟩)
end
structure PickP (V:Vs)(p:List Fi)(lv:Int):Prop where
 hd:∃f,p[0]?=some f/\f.lev+1=lv
 sub:∀f∈p,f∈V.fs/\(f.lev=lv-1\/f.lev=lv)
 lo:1<=lv/\lv<=4
 src:lv=1->∀f∈V.fs,f.lev=0->f∈p
 ovr:∀f∈p,f.lev=lv-1->∀g∈V.fs,g.lev=lv->EU g.lst f.fst=false->EU f.lst g.fst=false->g∈p
 len:p.length<=V.fs.length
 nod:(p.map (·.id)).Nodup
def I5 (ts:List Tb)(p:List Fi):List Cell:=p.flatMap λf=>match Hl ts (f.lev,f.id)with
 | some t=>t.cs
 | none=>[]
def HF (fs:List Fi)(lv:Int)(c:Cell):Bool:=!c.del || fs.any λf=>decide (lv<f.lev) && (!EU f.lst c.key && !EU c.key f.fst)
section
variable {n lv:Int}{V V':Vs}{ts ts':List Tb}{m:List Cell}{p:List Fi}{M:List Rw}
theorem VV (h:Sto n V ts [])(hp:∀f∈p,f∈V.fs){c:Cell} : c∈I5 ts p↔∃t∈ts,kp p t=false/\c∈t.cs:=by
 unfold I5;rw[BP]
 constructor
 ·rintro ⟨f,r,hc⟩;obtain⟨t,z,hv⟩:=h.fwd f (hp f r);rw[<-hv.h,M4 h.nod z]at hc;refine⟨t,z,?_,hc⟩
  cases hk:kp p t with
  | false=>rfl
  | true=>exact absurd hv.h (L4.1 hk f r)
 ·rintro ⟨t,z,hk,hc⟩;have:¬ ∀f∈p,t.h≠(f.lev,f.id):=λh2=>by rw[L4.2 h2]at hk;cases hk
  obtain⟨f,r⟩:=Classical.not_forall.1 this;rw[Classical.not_imp]at r;have e:=Classical.not_not.1 r.2;refine⟨f,r.1,?_⟩;rw[<-e,M4 h.nod z];exact hc
theorem S9 (h:Sto n V ts [])(hp:PickP V p lv){t:Tb}(ht:t∈ts)(hk:kp p t=false):∃f∈p,TV t f/\(t.h.1=lv-1\/t.h.1=lv):=by
 have:¬ ∀f∈p,t.h≠(f.lev,f.id):=λh2=>by rw[L4.2 h2]at hk;cases hk
 obtain⟨f,z⟩:=Classical.not_forall.1 this;rw[Classical.not_imp]at z;have e:=Classical.not_not.1 z.2;obtain⟨g,J,hv⟩:=h.bwd t ht;have r:=(Ig h.isv).2.2.2.2.1;have e2:f=g:=Lt r (hp.sub f z.1).1 J (by have:=hv.h;rw[e]at this;exact(AX.inj this).2);subst e2;have:=(hp.sub f z.1).2;refine⟨f,z.1,hv,?_⟩;rw[hv.h];exact this
theorem Xt (h:Sto n V ts [])(hp:PickP V p lv){t u:Tb}(ht:t∈ts)(hkt:kp p t=false)(hu:u∈ts)(hku:kp p u=true){c d:Cell}(hc:c∈t.cs)(hd:d∈u.cs)(hk:d.key=c.key):lv<u.h.1\/Rn u t:=by
 obtain⟨f,hf,hv,J⟩:=S9 h hp ht hkt;obtain⟨g,O,z⟩:=h.bwd u hu;have e1:t.h.1=f.lev:=by rw[hv.h]
 have e2:u.h.1=g.lev:=by rw[z.h]
 have r:g∉p:=λh2=>L4.1 hku g h2 z.h;have hlo:=hp.lo;rcases DM lv u.h.1 with q|q|q
 ·exact .inl q
 ·exfalso;rcases J with J|J
  ·obtain⟨Z,a2⟩:=hv.rng (h.up t ht) hc;obtain⟨b1,Y⟩:=z.rng (h.up u hu) hd;rw[hk]at b1 Y;exact r (hp.ovr f hf EA g O EA (by
    cases e:EU g.lst f.fst with
    | false=>rfl
    | true=>rw[Oe Y e]at Z;cases Z) (by
    cases e:EU f.lst g.fst with
    | false=>rfl
    | true=>rw[Oe a2 e]at b1;cases b1))
  ·have:=h.apart ht hu EA EA hc hd hk;rw[this,hku]at hkt;cases hkt
 ·right
  by_cases q2:u.h.1<t.h.1
  ·exact .inl q2
  ·exfalso
   by_cases q3:lv=1
   ·exact r (hp.src q3 g O (by have:=h.lev hu;omega))
   ·have:=h.apart ht hu EA EA hc hd hk;rw[this,hku]at hkt;cases hkt
theorem ChS.merge (h:Sto n V ts [])(hp:PickP V p lv)(hm:Mg (I5 ts p) m)(c:ChS V ts (m.filter (HF V.fs lv)) lv p V' ts')(hT:Sp.Told (Fx [] ts) M) :
  Sto n V' ts' []/\Sp.Told (Fx [] ts') M/\(∃tbs:List Tb,ts'=ts.filter (kp p)++tbs/\tbs.flatMap (·.cs)=m.filter (HF V.fs lv)):=by
 have hz:∀f∈p,f∈V.fs:=λf hf=>(hp.sub f hf).1;have hj:∀c,c∈I5 ts p↔∃t∈ts,kp p t=false/\c∈t.cs:=λc=>VV h hz;have ha:∀c∈I5 ts p,c∈Fx [] ts:=λc r=>by
  obtain⟨t,z,_,h2⟩:=(hj c).1 r;exact GC.2 (.inr ⟨t,z,h2⟩)
 have hq:IP (I5 ts p):=λc r d hd=>h.uniq c (ha c r) d (ha d hd);obtain⟨hy,hx⟩:=O0 hq hm;have hlo:=hp.lo;have hr:∀c∈m.filter (HF V.fs lv),∃t∈ts,kp p t=false/\c∈t.cs:=λc r=>(hj c).1 ((hx c).1 (Az.1 r).1).1;obtain⟨h1,tbs,h2,h3⟩:=c.sto h hz (C9 _ hy) (λc r=>by
  obtain⟨t,z,_,O⟩:=hr c r;exact GC.2 (.inr ⟨t,z,O⟩)) (λu hu Z hl c r d hd hk=>by
  obtain⟨t,z,Y,O⟩:=hr c r;obtain⟨f,hf,hv,hlt⟩:=S9 h hp z Y;exact h.n2 t z u hu (.inl (by rcases hl with hl|hl<;>omega)) c O d hd hk) (λt z Y hl c r d hd hk=>by
  obtain⟨u,hu,Z,J⟩:=hr d hd;rcases Xt h hp hu Z z Y J r hk.symm with q|q
  ·omega
  ·exact h.n2 t z u hu q c r d J hk)
 refine⟨h1,Ot hT (λc r=>?_) (λc r=>?_),tbs,h2,h3⟩
 ·rcases GC.1 r with r|⟨t,z,r⟩
  ·cases r
  ·rw[h2]at z;rcases Ay.1 z with z|z
   ·exact GC.2 (.inr ⟨t,(Az.1 z).1,r⟩)
   ·have:c∈m.filter (HF V.fs lv):=by rw[<-h3];exact BP.2 ⟨t,z,r⟩
    exact ha c ((hx c).1 (Az.1 this).1).1
 ·rcases GC.1 r.1 with hc1|⟨t,z,O⟩
  ·cases hc1
  ·cases Y:kp p t with
   | true=>exact .inl (GC.2 (.inr ⟨t,by rw[h2];exact BC _ (Az.2 ⟨z,Y⟩),O⟩))
   | false=>
    have h5:c∈I5 ts p:=(hj c).2 ⟨t,z,Y,O⟩;have hh:c∈m:=(hx c).2 ⟨h5,λd hd=>r.2 d (ha d hd)⟩
    by_cases hs:HF V.fs lv c=true
    ·have:c∈m.filter (HF V.fs lv):=Az.2 ⟨hh,hs⟩;rw[<-h3]at this;obtain⟨u,hu,hcu⟩:=BP.1 this;exact .inl (GC.2 (.inr ⟨u,by rw[h2];exact Bt _ hu,hcu⟩))
    ·right;have hb:HF V.fs lv c=false:=by simpa using hs
     unfold HF at hb;rw[Bool.or_eq_false_iff]at hb;refine⟨by simpa using hb.1,λd hd hk=>?_⟩;rcases GC.1 hd with hd|⟨u,hu,J⟩
     ·cases hd
     ·rw[h2]at hu;rcases Ay.1 hu with hu|hu
      ·obtain⟨hu,Z⟩:=Az.1 hu;rcases Xt h hp z Y hu Z O J hk with q|q
       ·obtain⟨g,hg,hw⟩:=h.bwd u hu;obtain⟨b1,b2⟩:=hw.rng (h.up u hu) J;have h9:=List.any_eq_false.1 hb.2 g hg;rw[hk]at b1 b2;have e2:u.h.1=g.lev:=by rw[hw.h]
        rw[b1,b2,decide_eq_true (show lv<g.lev by omega)]at h9;exact h9 rfl
       ·have g1:=h.n2 u hu t z q d J c O hk.symm;have g2:=r.2 d (GC.2 (.inr ⟨u,hu,J⟩)) hk;omega
      ·have:d∈m.filter (HF V.fs lv):=by rw[<-h3];exact BP.2 ⟨u,hu,J⟩
       obtain⟨q1,q2⟩:=Az.1 this;rw[WP hy q1 hh hk]at q2;exact hs q2
end
section
variable {P:Program}{E:Fg}{d:Option Tmp}{ty:TypeId}{pos:String}{af:Array Edge}{g:Option (Nat×Bool)}
def I0 (a b:EC):EC:=if EU b a=true then b else a
def It (a b:EC):EC:=if EU a b=true then b else a
theorem X7c {x y:Operand}{ts:Array TypeId}{a b:EC}(hx:ev E x=S a)(hy:ev E y=S b):PV P ⟨d,.call { callee:=.builtin .min,args:=#[x,y],argTypes:=ts },ty,pos,af,g⟩ E (S (I0 a b)):=λw=>by
 have h:=TY a b
 cases h2:Op.bytesLess b a with
 | true=>rw[h2]at h;simp [execOp,resolve,invoke,builtin,Builtin.min_,Builtin.min2,hx,hy,C2,Op.stringOp,I0,EU,h2,h,asBool]
 | false=>rw[h2]at h;simp [execOp,resolve,invoke,builtin,Builtin.min_,Builtin.min2,hx,hy,C2,Op.stringOp,I0,EU,h2,h,asBool]
theorem X7d {x y:Operand}{ts:Array TypeId}{a b:EC}(hx:ev E x=S a)(hy:ev E y=S b):PV P ⟨d,.call { callee:=.builtin .max,args:=#[x,y],argTypes:=ts },ty,pos,af,g⟩ E (S (It a b)):=λw=>by
 cases h2:Op.bytesLess a b with
 | true=>simp [execOp,resolve,invoke,builtin,Builtin.max_,Builtin.max2,hx,hy,C2,Op.stringOp,It,EU,h2,asBool]
 | false=>simp [execOp,resolve,invoke,builtin,Builtin.max_,Builtin.max2,hx,hy,C2,Op.stringOp,It,EU,h2,asBool]
end
theorem P4 {P:Program}{E:Fg}{dd:Option Tmp}{ty:TypeId}{pos:String}{af:Array Edge}{g:Option (Nat×Bool)}{T m e k:Nat}{ps:List (Nat×Operand)}{zs cs:List Value}{pv:List (Nat×Value)}(hz:Kx P T=some zs)(hT:NI P T=some (m,e,k))(hv:Kr E ps pv)(hf:Hw (λi=>some (i*k,k)) zs pv=some cs) :
  PV P ⟨dd,.build T ps.toArray,ty,pos,af,g⟩ E (.agg ⟨cs⟩):=λw=>by
 obtain⟨z,r,J⟩:=Om (P:=P) (w:=w) hz;have hm:=Kr.map hv;obtain⟨hu,f,O,hk⟩:=Rs hT;have h2:=RN (λi=>some (i*k,k)) pv zs cs hf;simp [execOp,Instr.build,r,J,underlying,hu,sizeOf,typeInfo,O,hk,hm,h2]
def FC (fs:List Fi)(i:Int):List Fi:=fs.filter λf=>decide (f.lev=i)
theorem QG {fs:List Fi}{k:Nat}{f:Fi}(h:fs[k]?=some f)(i:Int):FC (fs.take (k+1)) i=FC (fs.take k) i++(if f.lev=i then[f]else[]):=by
 unfold FC;rw[Gs h,Bu]
 by_cases e:f.lev=i<;>simp [e]
theorem UO (fs:List Fi)(k:Nat)(i:Int):(FC (fs.take k) i).length<=fs.length:=by
 unfold FC;have h1:=List.length_filter_le (λf:Fi=>decide (f.lev=i)) (fs.take k);have h2:(fs.take k).length<=fs.length:=List.length_take_le' ..;omega
def Hf (fs:List Fi):List Nat:=(List.range 5).map λi:Nat=>(FC fs (i:Int)).length
theorem Mx (fs:List Fi){i:Nat}(h:i<5):(Hf fs)[i]?=some (FC fs ↑i).length:=by
 unfold Hf;rw[AH,List.getElem?_range h];rfl
theorem Xx6 {fs:List Fi}{k lv:Nat}{f:Fi}(h:fs[k]?=some f)(he:f.lev=↑lv)(hl:lv<5):(Hf (fs.take k)).set lv ((FC (fs.take k) ↑lv).length+1)=Hf (fs.take (k+1)):=by
 apply BA
 intro i
 by_cases hi:i<5
 ·rw[Mx _ hi]
  by_cases e:lv=i
  ·subst e;rw[BB (by unfold Hf;simpa using hl),QG h,if_pos he];simp
  ·rw[Cf e,Mx _ hi,QG h,if_neg EA];simp
 ·rw[Bl (by simp [Hf];omega),Bl (by simp [Hf];omega)]
def NQ (fs:List Fi)(F:Int×Int->Option Fi):Prop:=∀(i:Int) (j:Nat),F (i,↑j)=(FC fs i)[j]?
theorem Yb0 : NQ [] (λ_=>none):=λi j=>rfl
theorem X07 {fs:List Fi}{k:Nat}{f:Fi}{F:Int×Int->Option Fi}(h:fs[k]?=some f)(hF:NQ (fs.take k) F):NQ (fs.take (k+1)) (putF F (f.lev,↑(FC (fs.take k) f.lev).length) f):=λi j=>by
 rw[QG h];unfold putF
 by_cases e:f.lev=i
 ·subst e;rw[if_pos rfl]
  by_cases e2:j=(FC (fs.take k) f.lev).length
  ·subst e2;simp
  ·rw[if_neg (by simp;omega),hF,Es];split
   ·rfl
   ·rw[Bl EA,Bl (by simp;omega)]
 ·rw[if_neg (by simp;exact λe2=>absurd e2.symm e),if_neg e,List.append_nil,hF]
theorem X7e (a b:Fi)(h:Fi.v a=Fi.v b):a=b:=by
 obtain⟨a1,a2,a3,a4,a5⟩:=a;obtain⟨b1,b2,b3,b4,b5⟩:=b;simp [Fi.v]at h;obtain⟨rfl,rfl,rfl,rfl,rfl⟩:=h;rfl
theorem N5 : MapK Tryz.prog 177 181 62 Gi Fi.v Ju:=PR (i:=3) E9 E9 (Xtg E9 E9 E9) E9 E9 E9 E9 E9 E9 X7e
theorem X08 (n:Int)(fs:List Fi)(vf:Value)(w:World)(hv:EM Fi.cs 5 w vf fs)(hl:fs.length<=100000)(hlv:∀f∈fs,0<=f.lev/\f.lev<=4) :
  Calls Tryz.prog 104 [.agg ⟨[I n,vf]⟩].toArray w (ER w (λu w'=>∃b F,u=.tuple #[.agg ⟨FP (Hf fs)⟩,.map (some b)]/\NQ fs F/\Vc.Xbn Tryz.prog 181 Gi Fi.v w' b fs.length F)):=by
 refine cw Tryz.func104 ?_;have J:=EB.refl w;refine ws λ_ Z1=>wr (Gc rfl rfl rfl RX.all (λb1 w1 e1 x1 O=>?_));have g1:=J.ge e1;have J:=J.trans x1;refine FG (cs:=[.int .i64 0,.int .i64 0,.int .i64 0,.int .i64 0,.int .i64 0]) rfl E9 RX.all (λb2 w2 e2 x2 Y=>?_);have g2:=J.ge e2;have n2_1:=O.ltb e2;have O:=O.ext x2;have J:=J.trans x2;refine da (de Z1 (ws λ_ Z2=>wr ?_));refine FG (cs:=[.int .i64 0,.int .i64 0,.int .i64 0,.int .i64 0,.int .i64 0]) rfl E9 RX.all (λb3 w3 e3 x3 Z=>?_);have g3:=J.ge e3;have n3_1:=O.ltb e3;have n3_2:=Y.ltb e3;have O:=O.ext x3;have Y:=Y.ext x3;have J:=J.trans x3;refine de Z2 (ws λ_ Z3=>wr (Oy N5 rfl RX.all (λb4 w4 e4 x4 r=>?_)));have g4:=J.ge e4;have n4_1:=O.ltb e4;have n4_2:=Y.ltb e4;have n4_3:=Z.ltb e4;have O:=O.ext x4;have Y:=Y.ext x4;have Z:=Z.ext x4;have J:=J.trans x4;refine da (de Z3 (ws λ_ Z4=>ws λ_ Z5=>wr ?_));refine df 1 rfl (dl rfl (O.at rfl) (dv 62 5 (hv.ext J).sl (dm (de Z5 (EN ?_)))));refine Fk (G:=Nat×(Int×Int->Option Fi)) (λ(k,F)=>[(2,ED b2 0),(3,.map none),(4,ED b3 0),(5,.map (some b4)),(10,vf),(11,I ↑fs.length),(12,I ↑k)]) (λ(k,F) w'=>EB w w'/\EL w' b1 [I n,vf] 56/\EL w' b2 [I 0,I 0,I 0,I 0,I 0] 176/\k<=fs.length/\NQ (fs.take k) F/\EL w' b3 (FP (Hf (fs.take k))) 176/\Vc.Xbn Tryz.prog 181 Gi Fi.v w' b4 k F) (λ(k,F)=>fs.length-k) (0,λ_=>none) ?_ ?_ ?_
 ·exact FQ
 ·exact⟨J,O,Y,Ad _,Yb0,Z,r⟩
 intro X5 g5 w5 hw;obtain⟨k,F⟩:=g5;clear J O Y Z r;obtain⟨J,O,Y,hk1,hf,Z,r⟩:=hw;refine ws λ_ Z6=>wr (dp (Fa rfl rfl) (de Z6 (ws λ_ Z7=>wi (λc1=>?_) λc1=>?_)))
 ·obtain⟨f,hk⟩:∃f,fs[k]?=some f:=Fq;have hlf:=hlv f (Ak hk);obtain⟨lv,hle⟩:∃lv:Nat,f.lev=↑lv:=⟨f.lev.toNat,by omega⟩;have hb:lv<5:=by omega
  have hg:=Mx (fs.take k) hb;have hxl:=UO fs k ↑lv;have hz:=Xx6 hk hle hb;have hj:=X07 hk hf;rw[hle]at hj;refine EG (Z7 _ _ (ws λ_ Z8=>EN (ws λ_ Z9=>wr (di 62 5 hv.sl rfl (hv.lt hk) (dq (Fb E9 rfl rfl ((hv.ext J).row hk)) (FG (cs:=[.int .i64 0,.int .i64 0,.int .i64 0,S [],S []]) rfl E9 RX.all (λb5 w6 e5 x6 m5=>?_)))))));have g5:=J.ge e5;have n5_1:=O.ltb e5;have n5_2:=Y.ltb e5;have n5_3:=Z.ltb e5;have n5_mp4:=r.lt;have O:=O.ext x6;have Y:=Y.ext x6;have Z:=Z.ext x6;have r:=r.ext x6;have J:=J.trans x6;refine FM m5 (λw7 x7 xs7 m5=>?_);dsimp only [Fe,Ag,Af,Ai]at m5;have O:=O.mo x7;have Y:=Y.mo x7;have Z:=Z.mo x7;have r:=r.mod x7 (by intro h;have h2:_=b5:=h;omega);have J:=J.o1 x7;refine de Z9 (ws λ_ hr=>F4 (R:=Mod (ES b4)) J0 JY E9 [2,4,6,8] [(0,.p,false),(1,.p,false),(2,.l,false),(3,.p,false),(4,.l,false),(5,.p,false),(6,.l,false),(7,.p,false),(8,.l,false),(9,.x,true)] rfl E9 E9 (λw8 hh=>?_));have x8:=EJ hh;clear hh;have O:=O.ext x8;have Y:=Y.ext x8;have Z:=Z.ext x8;have r:=r.ext x8;have m5:=m5.ext x8;have J:=J.trans x8;refine dm ?_;refine df 1 rfl (FK rfl (λw' hR=>LV.to (MA E9 rfl ((m5.mod hR (λe=>r.ne_blk m5 e)).at rfl)) (congrArg (λz=>I z) hle)) (df 1 rfl (FK rfl (λw' hR=>LV.to (MA E9 rfl ((m5.mod hR (λe=>r.ne_blk m5 e)).at rfl)) (congrArg (λz=>I z) hle)) (dp (Kh (m:=5) (e:=3) (k:=1) E9 rfl rfl EA) (dL rfl (λ_ hR=>((Z.mod hR (λe=>r.ne_blk Z e)).at (LH hg))) (EW (v:=Gi (↑lv,↑(FC (fs.take k) ↑lv).length)) rfl (P4 (zs:=[I 0,I 0]) (m:=2) (e:=3) (k:=1) (pv:=[(0,I ↑lv),(1,I ↑(FC (fs.take k) ↑lv).length)]) (cs:=[I ↑lv,I ↑(FC (fs.take k) ↑lv).length]) E9 E9 FU rfl) rfl (FK rfl (λw' hR=>Fb (k:=5) E9 rfl rfl (m5.mod hR (λe=>r.ne_blk m5 e)).row) ?_)))))));refine NW N5 (kx:=(↑lv,↑(FC (fs.take k) ↑lv).length)) (a:=f) rfl rfl rfl rfl r ⟨by unfold ET;omega,by unfold ET;omega⟩ (by unfold maxLen;omega) (.inl rfl) (λw9 x9 xs9 hc=>?_);have O:=O.mod x9 (by exact λe=>r.ne_blk O e);have Y:=Y.mod x9 (by exact λe=>r.ne_blk Y e);have Z:=Z.mod x9 (by exact λe=>r.ne_blk Z e);have m5:=m5.mod x9 (by exact λe=>r.ne_blk m5 e);have J:=J.own x9 (λi hi=>by have hq:i=b4:=hi;subst hq;omega);have r:=hc;refine de hr (wr (df 1 rfl (dq (LV.to (MA E9 rfl (m5.at rfl)) (congrArg (λz=>I z) hle)) (dp (Kh (m:=5) (e:=3) (k:=1) E9 rfl rfl EA) (dl rfl (Z.at (LH hg)) (EW (v:=I ↑((FC (fs.take k) ↑lv).length+1)) rfl (Gx rfl rfl (by unfold ET;omega)) (by show I _=I _;congr 1) (dp (Kh (m:=5) (e:=3) (k:=1) E9 rfl rfl EA) (G5 Z (λw10 ha xs10 Z=>?_) (hv:=by rfl) (ho:=by rw[An];simp only [Hf,An,List.length_range];omega)))))))));rw[Nn]at Z;have O:=O.mo ha;have Y:=Y.mo ha;have r:=r.mod ha (by intro h;have h2:_=b3:=h;omega);have J:=J.o1 ha;refine de Z8 (wr (pa rfl rfl (dm (EF (?_)))));exact⟨(k+1,_),FQ,⟨J,O,Y,by omega,hj,by rw[<-hz];exact Z,r⟩,by simp only [];omega⟩
 refine Ff (Z4 _ _ (ws λ_ ht=>wr (dq (Fb (k:=5) E9 rfl (by rw[An];simp [Hf]) Z.row) (dm ?_))));refine NZ (m:=5) (vs:=?u9) rfl rfl ?h9 E9 ?c9 ?d9 Y ?n9 (.inl rfl) (λw11 hp xs11 Y=>?k9)
 case h9=>conv=>lhs;whnf
 case c9=>rw[An];simp [Hf]
 case d9=>rfl
 case n9=>simp [Value.oneCell']
 have r:=r.mod hp (by intro h;have h2:_=b2:=h;omega);have J:=J.o1 hp;refine da (de ht (EH ?_));refine IG (u:=?v11) rfl rfl rfl rfl E9 rfl Y.row ?h11 ?k11
 case h11=>conv=>lhs;whnf
 have hy:k=fs.length:=by omega
 subst hy;rw[AK]at hf;exact⟨_,rfl,J,b4,F,by rw[AK],hf,r⟩
def Hr (l:List Fi)(a:EC):EC:=l.foldl (λa f=>I0 a f.fst) a
def Ht (l:List Fi)(a:EC):EC:=l.foldl (λa f=>It a f.lst) a
def I4 (l:List Fi)(i:Nat):Fi:=(l[i]?).getD Fi.zero
def Ka (fs l:List Fi)(lev:Int):List Fi:=l++HJ fs (lev+1) (Hr l (I4 l 0).fst) (Ht l (I4 l 0).lst)
theorem Xx7 {l:List Fi}{k:Nat}{f:Fi}{a:EC}(h:l[k]?=some f):Hr (l.take (k+1)) a=I0 (Hr (l.take k) a) f.fst:=by unfold Hr;rw[Gs h,Bz];rfl
theorem Xx8 {l:List Fi}{k:Nat}{f:Fi}{a:EC}(h:l[k]?=some f):Ht (l.take (k+1)) a=It (Ht (l.take k) a) f.lst:=by unfold Ht;rw[Gs h,Bz];rfl
def Iz (l:List Fi)(o:Fi):Fi:=l.foldl (λo f=>if f.id<o.id then f else o) o
theorem XH {l:List Fi}{k:Nat}{f o:Fi}(h:l[k]?=some f):Iz (l.take (k+1)) o=if f.id<(Iz (l.take k) o).id then f else Iz (l.take k) o:=by unfold Iz;rw[Gs h,Bz];rfl
def GG (l:List Fi):Fi:=Iz l (I4 l 0)
def IA (fs:List Fi):Option (List Fi):=
 if 4<=(FC fs 0).length then some (Ka fs (FC fs 0) 0)
 else if 4<(FC fs 1).length then some (Ka fs [GG (FC fs 1)] 1)
 else if 16<(FC fs 2).length then some (Ka fs [GG (FC fs 2)] 2)
 else if 64<(FC fs 3).length then some (Ka fs [GG (FC fs 3)] 3)
 else none
theorem UQ {fs:List Fi}(h:4<=(FC fs 0).length):IA fs=some (Ka fs (FC fs 0) 0):=if_pos h
theorem X7f {fs:List Fi}{lv:Nat}(h0:¬ 4<=(FC fs 0).length)(h1:1<=lv)(h2:lv<4)(hA:∀i:Nat,1<=i->i<lv->(FC fs ↑i).length<=4 ^ i)(h:4 ^ lv<(FC fs ↑lv).length):IA fs=some (Ka fs [GG (FC fs ↑lv)] ↑lv):=by
 unfold IA;rw[if_neg h0];rcases(show lv=1\/lv=2\/lv=3 by omega)with rfl|rfl|rfl
 ·rw[if_pos (show 4<(FC fs 1).length from h)];rfl
 ·have r:=hA 1 EK EK;rw[if_neg (show¬ 4<(FC fs 1).length by exact Bi.2 r),if_pos (show 16<(FC fs 2).length by exact h)];rfl
 ·have r:=hA 1 EK EK;have z:=hA 2 EK EK;rw[if_neg (show¬ 4<(FC fs 1).length by exact Bi.2 r),if_neg (show¬ 16<(FC fs 2).length by exact Bi.2 z),if_pos (show 64<(FC fs 3).length by exact h)];rfl
theorem X7g {fs:List Fi}(h0:¬ 4<=(FC fs 0).length)(hA:∀i:Nat,1<=i->i<4->(FC fs ↑i).length<=4 ^ i):IA fs=none:=by
 have J:=hA 1 EK EK;have r:=hA 2 EK EK;have z:=hA 3 EK EK;unfold IA;rw[if_neg h0,if_neg (show¬ 4<(FC fs 1).length by exact Bi.2 J),if_neg (show¬ 16<(FC fs 2).length by exact Bi.2 r),if_neg (show¬ 64<(FC fs 3).length by exact Bi.2 z)]
theorem Yar {lv:Nat}(h1:1<=lv)(h2:lv<4):Value.int .i64 (IntKind.i64.wrap (1*2 ^ (min ((2:Int)*↑lv).toNat IntKind.i64.bits)))=I ↑(4 ^ lv):=by
 rcases(show lv=1\/lv=2\/lv=3 by omega)with rfl|rfl|rfl<;>rfl
theorem X7h {lv:Nat}(h1:1<=lv):4<=4 ^ lv:=by
 have:=Nat.pow_le_pow_right (n:=4) EK h1;simpa using this
theorem Xd (n:Int)(fs:List Fi)(vf:Value)(lev:Int)(l:List Fi)(vl:Value)(Bo:Nat)(w:World)(hv:EM Fi.cs 5 w vf fs)(hl:fs.length<=100000)(ho0:Vc.Own Fi.cs 5 62 Bo w vl l)(hne:l≠[])(hll:l.length<=100000)(hBo:Bo<=w.heap.size)(hB:fs≠[]->(base vf).1<Bo)(hlev:0<=lev/\lev<=10) :
  Calls Tryz.prog 105 [.agg ⟨[I n,vf]⟩,I lev,vl].toArray w (Fh (λk=>vl.ownBlock=some k) w (λu w'=>Vc.Own Fi.cs 5 62 Bo w' u (Ka fs l lev))):=by
 refine cw Tryz.func105 ?_;have z:=Vc.Mod.refl (λk=>vl.ownBlock=some k) w;have ho:=ho0;obtain⟨f0,hk0⟩:∃f,l[0]?=some f:=⟨_,Av (by cases l with|nil=>exact absurd rfl hne|cons a r=>simp)⟩;have hp:I4 l 0=f0:=by unfold I4;rw[hk0];rfl
 refine ws λ_ Z1=>wr (Gc rfl rfl rfl RX.all (λb1 w1 e1 x1 J=>?_));have g1:=z.ge e1;have o1_ho:=ho.ltb e1;have ho:=ho.ext x1;have z:=z.ext x1;refine da (de Z1 (ws λ_ Z2=>?_));refine F4 (R:=EB) EB.refl (λ_ _ _=>EB.trans) E9 [3,7] [(0,.p,false),(1,.p,false),(2,.p,false),(3,.l,false),(4,.p,false),(5,.p,false),(6,.p,false),(7,.l,false),(8,.p,false),(9,.p,false)] rfl E9 E9 (λw2 hc=>?_);have x2:=EJ hc;clear hc;have ho:=ho.ext x2;have J:=J.ext x2;have z:=z.ext x2;refine dm ?_;refine di 62 5 (ho.arr EE).sl rfl ((ho.arr EE).lt hk0) (df 3 rfl (dL rfl (λ_ O=>((((ho.arr EE).ext O).row hk0).at rfl)) (dm ?_)));refine di 62 5 (ho.arr EE).sl rfl ((ho.arr EE).lt hk0) (df 4 rfl (dL rfl (λ_ O=>((((ho.arr EE).ext O).row hk0).at rfl)) (da (da (de Z2 (ws λ_ Z3=>ws λ_ Z4=>wr (dm ?_)))))));refine dv 62 5 (ho.arr EE).sl (dm (de Z4 (EN ?_)));refine Fk (G:=Nat×EC×EC) (λ(k,a,b)=>[(1,I lev),(2,vl),(3,ED b1 0),(6,.slice none 0 0),(7,S a),(8,S b),(19,vl),(20,I ↑l.length),(21,I ↑k)]) (λ(k,a,b) w'=>Mod (λk=>vl.ownBlock=some k) w w'/\Vc.Own Fi.cs 5 62 Bo w' vl l/\EL w' b1 [I n,vf] 56/\k<=l.length/\a=Hr (l.take k) f0.fst/\b=Ht (l.take k) f0.lst) (λ(k,a,b)=>l.length-k) (0,f0.fst,f0.lst) ?_ ?_ ?_
 ·exact Je
 ·exact⟨z,ho,J,Ad _,rfl,rfl⟩
 intro X3 g3 w3 hj;obtain⟨k,a,b⟩:=g3;clear z ho J;obtain⟨z,ho,J,hk1,ha,hb⟩:=hj;refine ws λ_ Z5=>wr (dp (Fa rfl rfl) (de Z5 (ws λ_ Z6=>wi (λc1=>?_) λc1=>?_)))
 ·obtain⟨f,hk⟩:∃f,l[k]?=some f:=Fq;refine EG (Z6 _ _ (ws λ_ Z7=>EN (ws λ_ Z8=>wr (di 62 5 (ho.arr EE).sl rfl ((ho.arr EE).lt hk) (dq (Fb E9 rfl rfl ((ho.arr EE).row hk)) (FG (cs:=[.int .i64 0,.int .i64 0,.int .i64 0,S [],S []]) rfl E9 RX.all (λb2 w4 e2 x4 Y=>?_)))))));have g2:=z.ge e2;have n2_1:=J.ltb e2;have Z:=ho.ltb e2;have ho:=ho.ext x4;have J:=J.ext x4;have z:=z.ext x4;refine FM Y (λw5 x5 xs5 Y=>?_);dsimp only [Fe,Ag,Af,Ai]at Y;have ho:=ho.mod x5 (by intro k hk h;have h1:=Z k hk;have h2:k=b2:=h;omega);have J:=J.mo x5;have z:=z.o1 x5;refine de Z8 (F4 (R:=EB) EB.refl (λ_ _ _=>EB.trans) E9 [2,6] [(0,.p,false),(1,.p,false),(2,.l,false),(3,.p,false),(4,.p,false),(5,.p,false),(6,.l,false),(7,.p,false),(8,.p,false),(9,.p,false)] rfl E9 E9 (λw6 hg=>?_));have x6:=EJ hg;clear hg;have ho:=ho.ext x6;have J:=J.ext x6;have Y:=Y.ext x6;have z:=z.ext x6;refine dm ?_;refine df 3 rfl (dL rfl (λ_ O=>((Y.ext O).at rfl)) (dp (X7c rfl rfl) (dm ?_)));refine df 4 rfl (dL rfl (λ_ O=>((Y.ext O).at rfl)) (dp (X7d rfl rfl) (da (da (de Z7 (wr ?_))))));refine pa rfl rfl (dm (EF (?_)));exact⟨(k+1,_,_),Je,⟨z,ho,J,by omega,by rw[Xx7 hk,<-ha],by rw[Xx8 hk,<-hb]⟩,by simp only [];omega⟩
 refine Ff (Z3 _ _ (ws λ_ Z9=>wr (dm ?_)));refine dq (Fb (k:=2) E9 rfl rfl J.row) (dm ?_);refine pa rfl rfl (dm (dm ?_));refine cG (Ou n fs vf (lev+1) a b _ (hv.mod z (λhq e=>by have h1:=(ho0.lt _ e).1;have h2:=hB hq;omega)) hl) RX.all λvo w7 x7 hf=>?_;have hsz7:=z.size;have ho:=ho.ext x7;have z:=z.ext x7;refine Gv (lx:=(HJ fs (lev+1) a b)) (e:=62) (sz:=5) (by':=56) rfl E9 E9 EE ho ((hf.arr EE)) rfl rfl (by intro x _ u hu;simp at hu;rcases hu with rfl|rfl|rfl|rfl|rfl<;>rfl) (by have:=MJ fs (lev+1) a b;omega) EK (Ae hBo z.size) (.inl rfl) (λvr w8 hh x8=>?_);have z:=z.own x8 (λi hi hlt=>hi);have ho:=hh;refine da (de Z9 (EH ?_));refine ro ?_;rw[Ax EA]at ha hb;refine⟨_,rfl,z,?_⟩;unfold Ka;rw[hp,<-ha,<-hb];exact ho
theorem Wb (n:Int)(fs:List Fi)(vf:Value)(w:World)(hv:EM Fi.cs 5 w vf fs)(hl:fs.length<=100000)(hV:GI ⟨n,fs⟩=true) :
  Calls Tryz.prog 48 [.agg ⟨[I n,vf]⟩].toArray w (ER w (λu w'=>∃vp,u=.tuple #[vp,B (IA fs).isSome]/\Vc.Own Fi.cs 5 62 w.heap.size w' vp ((IA fs).getD []))):=by
 refine cw Tryz.func48 ?_;have z:=EB.refl w;obtain⟨_,_,xd,yh,_⟩:=Ig hV;have hvl2:fs.length<=1024:=xd;have xa:∀f∈fs,ET f.id:=λf hf=>(LZ hV f hf).1;have ye:∀f∈fs,0<=f.lev/\f.lev<=4:=λf hf=>by have:=JH (yh f hf);exact⟨this.2.2.1,this.2.2.2.1⟩
 have xc:fs≠[]->(base vf).1<w.heap.size:=λxy=>hv.base_lt EK xy;have Z:∀i,(FC fs i).length<=1024:=λi=>by have:=UO fs fs.length i;rw[AK]at this;omega
 have hz:(FC fs ((0:Nat):Int)).length=(FC fs 0).length:=rfl;have hk90:=Z 0;refine ws λ_ Z1=>wr (Gc rfl rfl rfl RX.all (λb1 w1 e1 x1 J=>?_));have g1:=z.ge e1;have z:=z.trans x1;refine da (da (de Z1 (ws λ_ Z2=>ws λ_ Z3=>wr ?_)));refine dq (Fb (k:=2) E9 rfl rfl J.row) (cP (PC n fs vf _ (hv.ext z) EA xa) RX.all λw2 x2=>?_);have J:=J.ext x2;have z:=z.trans x2;refine dn (de Z3 ?_);refine wc (λc1=>?_) λc1=>?_
 ·rw[hV]at c1;cases c1
 refine EG (Z2 _ _ (ws λ_ Z4=>wr (dq (Fb (k:=2) E9 rfl rfl J.row) (cG (X08 n fs vf _ (hv.ext z) hl ye) RX.all λu3 w3 x3 yi=>?_))));have hsz3:=z.size;have J:=J.ext x3;have z:=z.trans x3;obtain⟨ha,F,rfl,h7,r⟩:=yi;refine dm ?_;refine dx rfl rfl (dx rfl rfl (FG (cs:=[.int .i64 0,.int .i64 0,.int .i64 0,.int .i64 0,.int .i64 0]) rfl E9 RX.all (λb2 w4 e2 x4 O=>?_)));have g2:=z.ge e2;have n2_1:=J.ltb e2;have n2_mp9:=r.lt;have J:=J.ext x4;have r:=r.ext x4;have z:=z.trans x4;refine NZ (m:=5) (vs:=?u5) rfl rfl ?h5 E9 ?c5 ?d5 O ?n5 (.inl rfl) (λw5 x5 xs5 O=>?k5)
 case h5=>conv=>lhs;whnf
 case c5=>rw[An];simp [Hf]
 case d5=>rfl
 case n5=>simp [Value.oneCell']
 have J:=J.mo x5;have r:=r.mod x5 (by intro h;have h2:_=b2:=h;omega);have z:=z.o1 x5;refine da (de Z4 (ws λ_ Z5=>ws λ_ Z6=>wr ?_));refine dp (Kh (m:=5) (e:=3) (k:=1) E9 rfl rfl EK) (dl rfl (O.at (LH (Mx fs (show 0<5 by decide)))) (dp (IB rfl rfl) (de Z6 (wi (λc2=>?_) λc2=>?_))))
 ·have h4:4<=(FC fs 0).length:=Dq.1 (show((4:Nat):Int)<=((FC fs 0).length:Int) from c2);refine ws λ_ Z7=>wr (da (de Z7 (ws λ_ Z8=>ws λ_ Z9=>wr ?_)));refine dp (Kh (m:=5) (e:=3) (k:=1) E9 rfl rfl EK) (dl rfl (O.at (LH (Mx fs (show 0<5 by decide)))) (dm (de Z9 (EN ?_))));refine Fk (G:=Nat×Value) (λ(k,vl)=>[(1,ED b1 0),(2,.slice none 0 0),(3,.bool false),(4,ED b2 0),(5,.map (some ha)),(6,vl),(24,I ↑(FC fs 0).length),(25,I ↑k)]) (λ(k,vl) w'=>EB w w'/\EL w' b1 [I n,vf] 56/\Vc.Xbn Tryz.prog 181 Gi Fi.v w' ha fs.length F/\EL w' b2 (FP (Hf fs)) 176/\k<=(FC fs 0).length/\Vc.Own Fi.cs 5 62 w.heap.size w' vl ((FC fs 0).take k)) (λ(k,vl)=>(FC fs 0).length-k) (0,.slice none 0 0) ?_ ?_ ?_
  ·exact KJ
  ·exact⟨z,J,r,O,Ad _,Vc.Own.nil⟩
  intro X6 g6 w6 yc;obtain⟨k,vl⟩:=g6;clear z J r O;obtain⟨z,J,r,O,hk1,Y⟩:=yc;refine ws λ_ xj=>wr (dp (Fa rfl rfl) (de xj (ws λ_ xl=>wi (λc3=>?_) λc3=>?_)))
  ·obtain⟨f,hk⟩:∃f,(FC fs 0)[k]?=some f:=Fq;refine EG (xl _ _ (ws λ_ xe=>EN (ws λ_ xx=>wr (dm (da (de xx (wr (dm (dm (dm ?_))))))))));refine EW (v:=Gi (0,↑k)) rfl (P4 (zs:=[I 0,I 0]) (m:=2) (e:=3) (k:=1) (pv:=[(0,I 0),(1,I ↑k)]) (cs:=[I 0,I ↑k]) E9 E9 FU rfl) rfl (dq (LV.to (v':=f.v) (Ly N5 (kx:=(0,↑k)) (z0:=Fi.zero) rfl rfl E9 r ⟨by unfold ET;omega,by unfold ET;have:=Z 0;omega⟩) (congrArg (λo:Option Fi=>Fi.v (o.getD Fi.zero)) ((h7 0 k).trans hk))) (li (e:=62) (sz:=5) (zs:=[.int .i64 0,.int .i64 0,.int .i64 0,S [],S []]) (pv:=[(0,.agg ⟨[_,_,_,_,_]⟩)]) (cs:=[_,_,_,_,_]) RX.all (λb3 w7 e3 x7 m3=>?_)));have g3:=z.ge e3;have n3_1:=J.ltb e3;have n3_2:=O.ltb e3;have n3_mp9:=r.lt;have o3_hoL:=Y.ltb e3;have J:=J.ext x7;have r:=r.ext x7;have O:=O.ext x7;have Y:=Y.ext x7;have z:=z.trans x7;refine Gv (lx:=[f]) (e:=62) (sz:=5) (by':=56) rfl E9 E9 EE Y (m3.arr (enc:=Fi.cs) (sz:=5) (l:=[f]) rfl EE rfl (Ap rfl)) rfl rfl (by intro x _ u hu;simp at hu;rcases hu with rfl|rfl|rfl|rfl|rfl<;>rfl) (by have:=Z 0;simp;omega) EK z.size (.inl rfl) (λvp w8 hy x8=>?_);have J:=J.mod x8 (by intro h;exact Y.ne_blk J rfl h);have r:=r.mod x8 (r.ne_own Y);have O:=O.mod x8 (by intro h;exact Y.ne_blk O rfl h);have z:=z.own x8 (λi hi=>(Y.lt i hi).1);have Y:=hy;clear m3;refine da (de xe (wr ?_));refine pa rfl rfl (dm (EF (?_)));exact⟨(k+1,vp),KJ,⟨z,J,r,O,by omega,by rw[Gs hk];exact Y⟩,by simp only [];omega⟩
  rw[Ax EA]at Y;refine Ff (Z8 _ _ (ws λ_ xf=>wr (dq (Fb (k:=2) E9 rfl rfl J.row) (dm ?_))));refine cD (Xd n fs vf 0 (FC fs 0) vl w.heap.size _ (hv.ext z) hl Y (λe=>by rw[e]at h4;simp at h4) (by have:=Z 0;omega) z.size xc EK) (.inl rfl) λvr w9 x9 h6=>?_;have hsz9:=z.size;have J:=J.mod x9 (λe=>Y.ne_blk J rfl e);have r:=r.mod x9 (r.ne_own Y);have O:=O.mod x9 (λe=>Y.ne_blk O rfl e);have z:=z.own x9 (λi hi=>(Y.lt i hi).1);refine da (da (de xf (EH ?_)));refine rt ?_;exact⟨_,rfl,z,vr,by rw[UQ h4];rfl,by rw[UQ h4];exact h6⟩
 have h0:¬ 4<=(FC fs 0).length:=λh9=>c2 (show((4:Nat):Int)<=((FC fs 0).length:Int) from Dq.2 h9);refine EG (Z5 _ _ (ws λ_ xo=>ws λ_ xi=>wr (da (de xi (EN ?_)))));refine Fk (G:=Nat) (λlv=>[(1,ED b1 0),(4,ED b2 0),(5,.map (some ha)),(8,I ↑lv)]) (λlv w'=>EB w w'/\EL w' b1 [I n,vf] 56/\Vc.Xbn Tryz.prog 181 Gi Fi.v w' ha fs.length F/\EL w' b2 (FP (Hf fs)) 176/\1<=lv/\lv<=4/\∀i:Nat,1<=i->i<lv->(FC fs ↑i).length<=4 ^ i) (λlv=>4-lv) 1 ?_ ?_ ?_
 ·exact FU
 ·exact⟨z,J,r,O,Aa _,by decide,λi h1 h2=>by omega⟩
 intro X10 yg w10 hb;revert hb;revert yg;intro lv hb;clear z J r O;obtain⟨z,J,r,O,hc,hlv4,hA⟩:=hb;refine ws λ_ xt=>ws λ_ ya=>wr (dm ?_);refine dp (Fa rfl rfl) (de ya (wi (λc4=>?_) λc4=>?_))
 ·refine EG (xt _ _ (ws λ_ xu=>EN (ws λ_ xr=>ws λ_ xw=>F4 (R:=EB) EB.refl (λ_ _ _=>EB.trans) E9 [2] [(0,.p,false),(1,.p,false),(2,.l,false),(3,.p,false),(4,.p,false),(5,.p,false),(6,.p,false)] rfl E9 E9 (λw11 hw=>?_))));have ht:=EJ hw;clear hw;have J:=J.ext ht;have r:=r.ext ht;have O:=O.ext ht;have z:=z.trans ht;refine dm ?_;refine dp (Kh (m:=5) (e:=3) (k:=1) E9 rfl rfl EA) (dL rfl (λ_ hR=>((O.ext hR).at (LH (Mx fs (show lv<5 by omega))))) (dm ?_));refine dp (Ko rfl rfl (by unfold ET;omega)) (EW (v:=I ↑(4 ^ lv)) rfl (NH rfl rfl EA) (Yar hc EA) (dp (IM rfl rfl) (de xw (wi (λc5=>?_) λc5=>?_))))
  ·refine Ff (xu _ _ (wr (dm ?_)));refine pa rfl rfl (da (EF (?_)));refine⟨lv+1,FU,⟨z,J,r,O,by omega,by omega,λi h1 h2=>?_⟩,by omega⟩
   by_cases e9:i=lv
   ·subst e9;exact Dq.1 c5
   ·exact hA i h1 EA
  have hgt:4 ^ lv<(FC fs ↑lv).length:=Nat.lt_of_not_le (λh9=>c5 (Dq.2 h9));have hp4:=X7h hc;obtain⟨f0,hk0⟩:∃f,(FC fs ↑lv)[0]?=some f:=Fq;have xm:I4 (FC fs ↑lv) 0=f0:=by unfold I4;rw[hk0];rfl
  refine EG (xr _ _ (ws λ_ xq=>wr (dm (dm ?_))));refine EW (v:=Gi (↑lv,((0:Nat):Int))) rfl (P4 (zs:=[I 0,I 0]) (m:=2) (e:=3) (k:=1) (pv:=[(0,I ↑lv),(1,I ((0:Nat):Int))]) (cs:=[I ↑lv,I ((0:Nat):Int)]) E9 E9 FU rfl) rfl (dq (LV.to (v':=f0.v) (Ly N5 (kx:=(↑lv,((0:Nat):Int))) (z0:=Fi.zero) rfl rfl E9 r ⟨by unfold ET;omega,by unfold ET;omega⟩) (congrArg (λo:Option Fi=>Fi.v (o.getD Fi.zero)) ((h7 ↑lv 0).trans hk0))) (FG (cs:=[.int .i64 0,.int .i64 0,.int .i64 0,S [],S []]) rfl E9 RX.all (λb4 w12 e4 hq m4=>?_)));have g4:=z.ge e4;have n4_1:=J.ltb e4;have n4_2:=O.ltb e4;have n4_mp9:=r.lt;have J:=J.ext hq;have r:=r.ext hq;have O:=O.ext hq;have z:=z.trans hq;refine FM m4 (λw13 hj xs13 m4=>?_);dsimp only [Fe,Ag,Af,Ai]at m4;have J:=J.mo hj;have r:=r.mod hj (by intro h;have h2:_=b4:=h;omega);have O:=O.mo hj;have z:=z.o1 hj;refine de xq (ws λ_ yd=>ws λ_ yb=>wr (dm ?_));refine dp (Kh (m:=5) (e:=3) (k:=1) E9 rfl rfl EA) (dl rfl (O.at (LH (Mx fs (show lv<5 by omega)))) (dm (de yb (EN ?_))));refine Fk (G:=Nat×Fi) (λ(i,o)=>[(1,ED b1 0),(4,ED b2 0),(5,.map (some ha)),(8,I ↑lv),(9,ED b4 0),(56,I ↑(FC fs ↑lv).length),(57,I ↑i)]) (λ(i,o) w'=>EB w w'/\EL w' b1 [I n,vf] 56/\Vc.Xbn Tryz.prog 181 Gi Fi.v w' ha fs.length F/\EL w' b2 (FP (Hf fs)) 176/\i<=(FC fs ↑lv).length/\o=Iz ((FC fs ↑lv).take i) f0/\EL w' b4 o.cs 62) (λ(i,o)=>(FC fs ↑lv).length-i) (0,f0) ?_ ?_ ?_
  ·exact FQ
  ·exact⟨z,J,r,O,Ad _,rfl,m4⟩
  intro X14 xh w14 xb;obtain⟨i,o⟩:=xh;clear z J r O m4;obtain⟨z,J,r,O,hi1,hr,m4⟩:=xb;refine ws λ_ yf=>wr (dp (Fa rfl rfl) (de yf (ws λ_ xk=>wi (λc6=>?_) λc6=>?_)))
  ·obtain⟨f,hk⟩:∃f,(FC fs ↑lv)[i]?=some f:=Fq;have hk9:=Z ↑lv;refine EG (xk _ _ (ws λ_ h8=>EN (ws λ_ x6=>wr (dm (da (de x6 (ws λ_ xp=>wr (dm (dm (dm ?_))))))))));refine EW (v:=Gi (↑lv,↑i)) rfl (P4 (zs:=[I 0,I 0]) (m:=2) (e:=3) (k:=1) (pv:=[(0,I ↑lv),(1,I ↑i)]) (cs:=[I ↑lv,I ↑i]) E9 E9 FU rfl) rfl (dq (LV.to (v':=f.v) (Ly N5 (kx:=(↑lv,↑i)) (z0:=Fi.zero) rfl rfl E9 r ⟨by unfold ET;omega,by unfold ET;have:=Z ↑lv;omega⟩) (congrArg (λo:Option Fi=>Fi.v (o.getD Fi.zero)) ((h7 ↑lv i).trans hk))) (FG (cs:=[.int .i64 0,.int .i64 0,.int .i64 0,S [],S []]) rfl E9 RX.all (λb5 w15 e5 hg m5=>?_)));have g5:=z.ge e5;have n5_1:=J.ltb e5;have n5_2:=O.ltb e5;have n5_4:=m4.ltb e5;have n5_mp9:=r.lt;have J:=J.ext hg;have r:=r.ext hg;have O:=O.ext hg;have m4:=m4.ext hg;have z:=z.trans hg;refine FM m5 (λw16 hh xs16 m5=>?_);dsimp only [Fe,Ag,Af,Ai]at m5;have J:=J.mo hh;have r:=r.mod hh (by intro h;have h2:_=b5:=h;omega);have O:=O.mo hh;have m4:=m4.mo hh;have z:=z.o1 hh;refine de xp (ws λ_ xg=>wr (df 0 rfl (dl rfl (m5.at rfl) (df 0 rfl (dl rfl (m4.at rfl) (dp (Fa rfl rfl) (de xg (wi (λc7=>?_) λc7=>?_))))))))
   ·refine wr (dq (Fb (k:=5) E9 rfl rfl m5.row) (FM m4 (λw17 hp xs17 m4=>?_)));dsimp only [Fe,Ag,Af,Ai]at m4;have J:=J.mo hp;have r:=r.mod hp (by intro h;have h2:_=b4:=h;omega);have O:=O.mo hp;have z:=z.o1 hp;refine de h8 (wr (pa rfl rfl (dm (EF (?_)))));exact⟨(i+1,f),FQ,⟨z,J,r,O,by omega,by rw[XH hk,<-hr,if_pos EA],m4⟩,by simp only [];omega⟩
   refine EG (h8 _ _ (wr (pa rfl rfl (dm (EF (?_))))));exact⟨(i+1,o),FQ,⟨z,J,r,O,by omega,by rw[XH hk,<-hr,if_neg EA],m4⟩,by simp only [];omega⟩
  refine Ff (yd _ _ (ws λ_ x0=>wr (dq (Fb (k:=2) E9 rfl rfl J.row) (dm ?_))));refine dq (Fb (k:=5) E9 rfl rfl m4.row) (li (e:=62) (sz:=5) (zs:=[.int .i64 0,.int .i64 0,.int .i64 0,S [],S []]) (pv:=[(0,.agg ⟨[_,_,_,_,_]⟩)]) (cs:=[_,_,_,_,_]) RX.all (λb6 w18 e6 xn m6=>?_));have g6:=z.ge e6;have z:=z.trans xn;have Y:=m6.own (enc:=Fi.cs) (B:=w.heap.size) (l:=[o]) (sz:=5) (m:=1) g6 rfl EE rfl (Ap rfl);refine cD (Xd n fs vf ↑lv [o] (.slice (some ⟨b6,0,none⟩) 1 1) w.heap.size _ (hv.ext z) hl Y EQ EQ z.size xc EA) (.inl rfl) λvr w19 xz h6=>?_;have hsz19:=z.size;have z:=z.own xz (λi hi=>(Y.lt i hi).1);refine da (da (de x0 (EH ?_)));refine rt ?_;rw[Ax EA]at hr;have e9:GG (FC fs ↑lv)=o:=by unfold GG;rw[xm,<-hr]
  have e8:=X7f h0 hc EA hA hgt;rw[e9]at e8;exact⟨_,rfl,z,vr,by rw[e8];rfl,by rw[e8];exact h6⟩
 refine Ff (xo _ _ (ws λ_ xv=>wr (da (da (de xv (EH ?_))))));refine rt ?_;have e8:=X7g h0 (λi h1 h2=>hA i h1 EA);exact⟨_,rfl,z,_,by rw[e8];rfl,by rw[e8];exact Vc.Own.nil⟩
end Go.Proofs.YtiooodckiddpmaaGreatDoor
