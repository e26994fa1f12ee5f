/-
 A part of the proof: StB ChA SpTell VcGr MgA MkA KeA OpA.
-/
import Derived.Test.YtiooodckiddpmaaGreatDoorCkA
import Derived.Test.YtiooodckiddpmaaGreatDoorChecked
import Derived.KernelRfl
import Derived.Test.YtiooodckiddpmaaGreatDoorCkF
import Derived.Test.YtiooodckiddpmaaGreatDoorCkD
import Derived.Test.YtiooodckiddpmaaGreatDoorCkE
import Derived.Test.YtiooodckiddpmaaGreatDoorCkB
import Derived.Lib.ItoaLen
set_option maxRecDepth 100000
set_option maxHeartbeats 4000000
set_option linter.unusedVariables false
set_option linter.unusedSimpArgs false
namespace Go.Proofs.YtiooodckiddpmaaGreatDoor
open Go.Vc Go.Sp
attribute [local irreducible] W XW Dw DwT
theorem X2i (l:List Fi)(v:Value)(Bo f:Nat)(c:Fi->Fi->Int)(w:World)(ho:Vc.Own Fi.cs 5 62 Bo w v l)(hl:l.length≤10000000)(hcb:Xbw Tryz.prog f=true)(hc:∀w2 x y,Calls Tryz.prog f [Fi.v x,Fi.v y].toArray w2 (Pure w2 (I (c x y))))(O:Ord (ltC c))(a b:Nat)(hab:a≤b)(hb:b≤l.length) :
  Calls Tryz.prog 302 [v,I ↑a,I ↑b,fnV f].toArray w (Does (λk=>v.ownBlock=some k) w (λu w'=>u=.tuple #[]∧∃l',Vc.Own Fi.cs 5 62 Bo w' v l'∧Srt (ltC c) a b l l')):=by
 refine cw Tryz.func302 ?_
 have hx:=Vc.Mod.refl (λk=>v.ownBlock=some k) w
 refine ws λ_ Z1=>wr (dm ?_)
 refine pa rfl rfl (da (de Z1 (Xab ?_)))
 refine Xaj (G:=Nat×List Fi) (λ(i,cur)=>[(0,v),(1,I ↑a),(2,I ↑b),(3,fnV f),(8,I ↑i)]) (λ(i,cur) w'=>Mod (λk=>v.ownBlock=some k) w w'∧a+1≤i∧Srt (ltC c) a (min i b) l cur∧Vc.Own Fi.cs 5 62 Bo w' v cur) (λ(i,cur)=>b-i) (a+1,l) ?_ ?_ ?_
 ·exact zz5
 ·exact⟨hx,Nat.le_refl _,Srt.one l om9 om9 om9,ho⟩
 intro X1 g1 w1 hF1
 obtain⟨i,cur⟩:=g1
 clear hx ho
 obtain⟨hx,hi1,hs,ho⟩:=hF1
 refine ws λ_ Z2=>ws λ_ Z3=>wr (dm (dm ?_))
 refine dp (Xaf rfl rfl) (de Z3 (wi (λc1=>?_) λc1=>?_))
 ·have hs2:Srt (ltC c) a i l cur:=by rw[Nat.min_eq_left om9]at hs;exact hs
  refine Xaa (Z2 _ _ (ws λ_ Z4=>Xab (ws λ_ Z5=>wr (dm (da (de Z5 (Xab ?_)))))))
  refine Xaj (G:=Nat×List Fi) (λ(j,cur2)=>[(0,v),(1,I ↑a),(2,I ↑b),(3,fnV f),(8,I ↑i),(9,I ↑j)]) (λ(j,cur2) w'=>Mod (λk=>v.ownBlock=some k) w w'∧InsJ (ltC c) a i j l cur2∧Vc.Own Fi.cs 5 62 Bo w' v cur2) (λ(j,cur2)=>j) (i,cur) ?_ ?_ ?_
  ·exact zz6
  ·exact⟨hx,X1z hs2 om9,ho⟩
  intro X2 g2 w2 hF2
  obtain⟨j,cur2⟩:=g2
  clear hx ho
  obtain⟨hx,hj,ho⟩:=hF2
  refine ws λ_ Z6=>ws λ_ Z7=>Xaq (R:=Ext) Ext.refl (λ_ _ _=>Ext.trans) kr9 [8,13] [(0,.p,false),(1,.p,false),(2,.p,false),(3,.p,false),(4,.p,false),(5,.p,false),(6,.p,false),(7,.p,false),(8,.l,false),(9,.p,false),(10,.p,false),(11,.p,false),(12,.p,false),(13,.l,false),(14,.x,true),(15,.p,false),(16,.p,false)] rfl kr9 kr9 (λw3 ew3=>?_)
  have x3:=drewx ew3
  clear ew3
  replace ho:=ho.ext x3
  replace hx:=hx.ext x3
  iterate 2 refine dm ?_
  refine dp (Xaw rfl rfl) (dm ?_)
  refine Xag 21 rfl (λc2=>?_) (λc2=>?_)
  ·have hjl:=hj.len
   obtain⟨x,hxj⟩:∃x,cur2[j]?=some x:=gtE
   obtain⟨z,hzj⟩:∃x,cur2[j-1]?=some x:=gtE
   have hb0:=Xcv ho (λe=>by rw[e]at hxj;simp at hxj)
   iterate 3 refine dm ?_
   refine di 62 5 (ho.arr ir9).sl rfl ((ho.arr ir9).lt hxj) (D_l rfl (λw' hR=>Xac kr9 rfl rfl (((ho.arr ir9).ext hR).row hxj)) (dm (dm ?_)))
   refine Xa2 (v:=I ↑(j-1)) rfl (Xay rfl rfl (by unfold Xai;omega)) (by show I _=I _;first|rfl|(congr 1;omega)) (di 62 5 (ho.arr ir9).sl rfl ((ho.arr ir9).lt hzj) (D_l rfl (λw' hR=>Xac kr9 rfl rfl (((ho.arr ir9).ext hR).row hzj)) (Xcz (vs:=[x.v,z.v]) rfl rfl hcb (hc _ x z) rfl RX.all (λw4 x4=>?_))))
   replace ho:=ho.ext x4
   replace hx:=hx.ext x4
   refine dp (Xaf rfl rfl) (dk' (de Z7 ?_))
   refine wi (λc3=>?_) λc3=>?_
   ·have hlt:ltC c x z=true:=by simpa [ltC]using c3
    refine Xaa (Z6 _ _ (ws λ_ Z8=>Xab (Xaq (R:=Ext) Ext.refl (λ_ _ _=>Ext.trans) kr9 [9,13] [(0,.p,false),(1,.p,false),(2,.p,false),(3,.p,false),(4,.p,false),(5,.p,false),(6,.p,false),(7,.p,false),(8,.p,false),(9,.l,false),(10,.p,false),(11,.p,false),(12,.p,false),(13,.l,false),(14,.p,false),(15,.x,true),(16,.p,false),(17,.x,true)] rfl kr9 kr9 (λw5 ew5=>?_))))
    have x5:=drewx ew5
    clear ew5
    replace ho:=ho.ext x5
    replace hx:=hx.ext x5
    iterate 4 refine dm ?_
    refine Xa2 (v:=I ↑(j-1)) rfl (Xay rfl rfl (by unfold Xai;omega)) (by show I _=I _;first|rfl|(congr 1;omega)) (dm (dm ?_))
    refine Xa2 (v:=I ↑(j-1)) rfl (Xay rfl rfl (by unfold Xai;omega)) (by show I _=I _;first|rfl|(congr 1;omega)) (di 62 5 (ho.arr ir9).sl rfl ((ho.arr ir9).lt hzj) (D_l rfl (λw' hR=>Xac kr9 rfl rfl (((ho.arr ir9).ext hR).row hzj)) (dm (dm ?_))))
    refine di 62 5 (ho.arr ir9).sl rfl ((ho.arr ir9).lt hxj) (D_l rfl (λw' hR=>Xac kr9 rfl rfl (((ho.arr ir9).ext hR).row hxj)) (Xa2 (v:=ptr (base v).1 (j*5+0)) rfl (Xba (i:=j) (e:=62) (k:=5) kr9 ho.sl rfl rfl (by first|omega|(rw[List.length_set];omega))) (by rw[hb0];show ptr _ (0+_)=_;rw[Nat.zero_add];rfl) ?_))
    refine Xa3 (enc:=Fi.cs) (sz:=5) (l:=cur2) (i:=j) (j:=0) (x:=z) (vs:=z.cs) ir9 rfl ho rfl rfl rfl kr9 (by first|omega|(rw[List.length_set];omega)) rfl (Nat.le_refl 5) (by intro v hv;simp at hv;rcases hv with rfl|rfl|rfl|rfl|rfl<;>rfl) (.inl rfl) (λw6 x6 xs6 ho_n=>?_)
    replace hx:=hx.own x6 (λi hi hlt=>hi)
    replace ho:=ho_n
    refine Xa2 (v:=ptr (base v).1 ((j-1)*5+0)) rfl (Xba (i:=(j-1)) (e:=62) (k:=5) kr9 ho.sl rfl rfl (by first|omega|(rw[List.length_set];omega))) (by rw[hb0];show ptr _ (0+_)=_;rw[Nat.zero_add];rfl) ?_
    refine Xa3 (enc:=Fi.cs) (sz:=5) (l:=(cur2.set j z)) (i:=(j-1)) (j:=0) (x:=x) (vs:=x.cs) ir9 rfl ho rfl rfl rfl kr9 (by first|omega|(rw[List.length_set];omega)) rfl (Nat.le_refl 5) (by intro v hv;simp at hv;rcases hv with rfl|rfl|rfl|rfl|rfl<;>rfl) (.inl rfl) (λw7 x7 xs7 ho_n=>?_)
    replace hx:=hx.own x7 (λi hi hlt=>hi)
    replace ho:=ho_n
    refine de Z8 (wr (dm ?_))
    refine Xa2 (v:=I ↑(j-1)) rfl (Xay rfl rfl (by unfold Xai;omega)) (by show I _=I _;first|rfl|(congr 1;omega)) (da (Xae (?_)))
    exact⟨(j-1,_),zz6,⟨hx,Xnf hj om9 hxj hzj hlt,ho⟩,by simp only [];omega⟩
   have hst:Srt (ltC c) a (i+1) l cur2:=Xg0 O hj (.inr ⟨x,z,hxj,hzj,by simpa [ltC]using c3⟩)
   refine Xah (Z4 _ _ (wr (dm ?_)))
   refine pa rfl rfl (da (Xae (?_)))
   exact⟨(i+1,cur2),zz5,⟨hx,by omega,by rw[Nat.min_eq_left om9];exact hst,ho⟩,by simp only [];omega⟩
  have hjl:=hj.len
  have hst:Srt (ltC c) a (i+1) l cur2:=Xg0 O hj (.inl om9)
  iterate 12 refine dk ?_
  refine dk' (de Z7 ?_)
  refine W_f rfl (Xah (Z4 _ _ (wr (dm ?_))))
  refine pa rfl rfl (da (Xae (?_)))
  exact⟨(i+1,cur2),zz5,⟨hx,by omega,by rw[Nat.min_eq_left om9];exact hst,ho⟩,by simp only [];omega⟩
 refine Xah (Xa5 (Xav rfl ?_))
 rw[Nat.min_eq_right om9]at hs
 exact⟨_,rfl,hx,rfl,cur,ho,hs⟩
theorem Xwj (l:List Fi)(v:Value)(Bo f:Nat)(w:World)(ho:Vc.Own Fi.cs 5 62 Bo w v l)(hl:l.length≤10000000)(a b n:Nat)(h1:a+n≤b)(h2:b+n≤l.length) :
  Calls Tryz.prog 337 [v,I ↑a,I ↑b,I ↑n,fnV f].toArray w (Does (λk=>v.ownBlock=some k) w (λu w'=>u=.tuple #[]∧∃l',Vc.Own Fi.cs 5 62 Bo w' v l'∧Swp a b n l l')):=by
 refine cw Tryz.func337 ?_
 have hx:=Vc.Mod.refl (λk=>v.ownBlock=some k) w
 refine ws λ_ Z1=>wr (da (de Z1 (Xab ?_)))
 refine Xaj (G:=Nat×List Fi) (λ(i,cur)=>[(0,v),(1,I ↑a),(2,I ↑b),(3,I ↑n),(10,I ↑i)]) (λ(i,cur) w'=>Mod (λk=>v.ownBlock=some k) w w'∧SwR a b n i l cur∧Vc.Own Fi.cs 5 62 Bo w' v cur) (λ(i,cur)=>n-i) (0,l) ?_ ?_ ?_
 ·exact zz5
 ·exact⟨hx,X8f h1 h2,ho⟩
 intro X1 g1 w1 hF1
 obtain⟨i,cur⟩:=g1
 clear hx ho
 obtain⟨hx,hr,ho⟩:=hF1
 refine ws λ_ Z2=>ws λ_ Z3=>wr (dm (dm ?_))
 refine dp (Xaf rfl rfl) (de Z3 (wi (λc1=>?_) λc1=>?_))
 ·have hln:=hr.len
  obtain⟨x,hxi⟩:∃x,cur[a+i]?=some x:=gtE
  obtain⟨y,hyi⟩:∃x,cur[b+i]?=some x:=gtE
  have hb0:=Xcv ho (λe=>by rw[e]at hxi;simp at hxi)
  refine Xaa (Z2 _ _ (ws λ_ Z4=>Xab (Xaq (R:=Ext) Ext.refl (λ_ _ _=>Ext.trans) kr9 [13,19] [(0,.p,false),(1,.p,false),(2,.p,false),(3,.p,false),(4,.p,false),(5,.p,false),(6,.p,false),(7,.p,false),(8,.p,false),(9,.p,false),(10,.p,false),(11,.p,false),(12,.p,false),(13,.l,false),(14,.p,false),(15,.p,false),(16,.p,false),(17,.p,false),(18,.p,false),(19,.l,false),(20,.p,false),(21,.x,true),(22,.p,false),(23,.x,true)] rfl kr9 kr9 (λw2 ew2=>?_))))
  have x2:=drewx ew2
  clear ew2
  replace ho:=ho.ext x2
  replace hx:=hx.ext x2
  iterate 3 refine dm ?_
  refine Xa2 (v:=I ↑(a+i)) rfl (Xa7 rfl rfl (by unfold Xai;omega)) rfl (dm (dm (dm ?_)))
  refine Xa2 (v:=I ↑(b+i)) rfl (Xa7 rfl rfl (by unfold Xai;omega)) rfl (dm (dm (dm ?_)))
  refine Xa2 (v:=I ↑(b+i)) rfl (Xa7 rfl rfl (by unfold Xai;omega)) rfl (di 62 5 (ho.arr ir9).sl rfl ((ho.arr ir9).lt hyi) (D_l rfl (λw' hR=>Xac kr9 rfl rfl (((ho.arr ir9).ext hR).row hyi)) (dm (dm (dm ?_)))))
  refine Xa2 (v:=I ↑(a+i)) rfl (Xa7 rfl rfl (by unfold Xai;omega)) rfl (di 62 5 (ho.arr ir9).sl rfl ((ho.arr ir9).lt hxi) (D_l rfl (λw' hR=>Xac kr9 rfl rfl (((ho.arr ir9).ext hR).row hxi)) (Xa2 (v:=ptr (base v).1 ((a+i)*5+0)) rfl (Xba (i:=(a+i)) (e:=62) (k:=5) kr9 ho.sl rfl rfl (by first|omega|(rw[List.length_set];omega))) (by rw[hb0];show ptr _ (0+_)=_;rw[Nat.zero_add];rfl) ?_)))
  refine Xa3 (enc:=Fi.cs) (sz:=5) (l:=cur) (i:=(a+i)) (j:=0) (x:=y) (vs:=y.cs) ir9 rfl ho rfl rfl rfl kr9 (by first|omega|(rw[List.length_set];omega)) rfl (Nat.le_refl 5) (by intro v hv;simp at hv;rcases hv with rfl|rfl|rfl|rfl|rfl<;>rfl) (.inl rfl) (λw3 x3 xs3 ho_n=>?_)
  replace hx:=hx.own x3 (λi hi hlt=>hi)
  replace ho:=ho_n
  refine Xa2 (v:=ptr (base v).1 ((b+i)*5+0)) rfl (Xba (i:=(b+i)) (e:=62) (k:=5) kr9 ho.sl rfl rfl (by first|omega|(rw[List.length_set];omega))) (by rw[hb0];show ptr _ (0+_)=_;rw[Nat.zero_add];rfl) ?_
  refine Xa3 (enc:=Fi.cs) (sz:=5) (l:=(cur.set (a+i) y)) (i:=(b+i)) (j:=0) (x:=x) (vs:=x.cs) ir9 rfl ho rfl rfl rfl kr9 (by first|omega|(rw[List.length_set];omega)) rfl (Nat.le_refl 5) (by intro v hv;simp at hv;rcases hv with rfl|rfl|rfl|rfl|rfl<;>rfl) (.inl rfl) (λw4 x4 xs4 ho_n=>?_)
  replace hx:=hx.own x4 (λi hi hlt=>hi)
  replace ho:=ho_n
  refine de Z4 (wr (dm ?_))
  refine pa rfl rfl (da (Xae (?_)))
  exact⟨(i+1,_),zz5,⟨hx,Xrb hr om9 hxi hyi,ho⟩,by simp only [];omega⟩
 refine Xah (Xa5 (Xav rfl ?_))
 have hln:=hr.len
 rw[show i=n by omega]at hr
 exact⟨_,rfl,hx,rfl,cur,ho,Xv9 hr⟩
theorem X8q (l:List Fi)(v:Value)(Bo f:Nat)(w:World)(ho:Vc.Own Fi.cs 5 62 Bo w v l)(hl:l.length≤10000000)(a m b:Nat)(h1:a<m)(h2:m<b)(h3:b≤l.length) :
  Calls Tryz.prog 327 [v,I ↑a,I ↑m,I ↑b,fnV f].toArray w (Does (λk=>v.ownBlock=some k) w (λu w'=>u=.tuple #[]∧∃l',Vc.Own Fi.cs 5 62 Bo w' v l'∧l'=rotT l a m b)):=by
 refine cw Tryz.func327 ?_
 have hx:=Vc.Mod.refl (λk=>v.ownBlock=some k) w
 refine ws λ_ Z1=>wr (dm (dm ?_))
 refine Xa2 (v:=I ↑(m-a)) rfl (Xay rfl rfl (by unfold Xai;omega)) (by show I _=I _;first|rfl|(congr 1;omega)) (da (de Z1 (ws λ_ Z2=>wr (dm (dm ?_)))))
 refine Xa2 (v:=I ↑(b-m)) rfl (Xay rfl rfl (by unfold Xai;omega)) (by show I _=I _;first|rfl|(congr 1;omega)) (da (de Z2 (ws λ_ Z3=>Xab ?_)))
 refine Xaj (G:=Nat×Nat×List Fi) (λ(i,j,cur)=>[(0,v),(2,I ↑m),(4,fnV f),(10,I ↑i),(11,I ↑j)]) (λ(i,j,cur) w'=>Mod (λk=>v.ownBlock=some k) w w'∧0<i∧0<j∧cur.length=l.length∧RotI m i j (rotT l a m b) cur∧Vc.Own Fi.cs 5 62 Bo w' v cur) (λ(i,j,cur)=>i+j) (m-a,b-m,l) ?_ ?_ ?_
 ·exact zz5
 ·exact⟨hx,by omega,by omega,rfl,Xzz om9 om9 h3,ho⟩
 intro X1 g1 w1 hF1
 obtain⟨i,j,cur⟩:=g1
 clear hx ho
 obtain⟨hx,hi0,hj0,hcl,hr,ho⟩:=hF1
 refine ws λ_ Z4=>ws λ_ Z5=>wr (dm (dm ?_))
 refine dp (Xas rfl rfl) (de Z5 (wi (λc1=>?_) λc1=>?_))
 ·have hln:=hr.len
  refine Xaa (Z4 _ _ (Xab (ws λ_ Z6=>wr (dm (dm ?_)))))
  refine dp (Xaw rfl rfl) (de Z6 (wi (λc2=>?_) λc2=>?_))
  ·refine ws λ_ Z7=>wr (dm (dm (dm ?_)))
   refine Xa2 (v:=I ↑(m-i)) rfl (Xay rfl rfl (by unfold Xai;omega)) (by show I _=I _;first|rfl|(congr 1;omega)) (dm (dm (dm ?_)))
   refine cD (Xwj cur v Bo f _ ho om9 (m-i) m j om9 om9) (.inl rfl) λu2 w2 x2 hf2=>?_
   have hsz2:=hx.size
   replace hx:=hx.own x2 (λi hi hlt=>hi)
   obtain⟨rfl,cur1,ho,hsw⟩:=hf2
   refine de Z7 (wr (dm (dm ?_)))
   refine Xa2 (v:=I ↑(i-j)) rfl (Xay rfl rfl (by unfold Xai;omega)) (by show I _=I _;first|rfl|(congr 1;omega)) (da (Xae (?_)))
   have hr2:=X13 hr om9 hsw
   exact⟨(i-j,j,cur1),zz5,⟨hx,by omega,hj0,(hr2.len.1.trans (hr.len.1.symm.trans hcl)),hr2,ho⟩,by simp only [];omega⟩
  refine ws λ_ Z8=>wr (dm (dm (dm ?_)))
  refine Xa2 (v:=I ↑(m-i)) rfl (Xay rfl rfl (by unfold Xai;omega)) (by show I _=I _;first|rfl|(congr 1;omega)) (dm (dm ?_))
  refine Xa2 (v:=I ↑(m+j)) rfl (Xa7 rfl rfl (by unfold Xai;omega)) rfl (dm ?_)
  refine Xa2 (v:=I ↑(m+j-i)) rfl (Xay rfl rfl (by unfold Xai;omega)) (by show I _=I _;first|rfl|(congr 1;omega)) (dm (dm ?_))
  refine cD (Xwj cur v Bo f _ ho om9 (m-i) (m+j-i) i om9 om9) (.inl rfl) λu3 w3 x3 hf3=>?_
  have hsz3:=hx.size
  replace hx:=hx.own x3 (λi hi hlt=>hi)
  obtain⟨rfl,cur1,ho,hsw⟩:=hf3
  refine de Z8 (wr (dm (dm ?_)))
  refine Xa2 (v:=I ↑(j-i)) rfl (Xay rfl rfl (by unfold Xai;omega)) (by show I _=I _;first|rfl|(congr 1;omega)) (da (Xae (?_)))
  have hr2:=X2a hr om9 hsw
  exact⟨(i,j-i,cur1),zz5,⟨hx,hi0,by omega,(hr2.len.1.trans (hr.len.1.symm.trans hcl)),hr2,ho⟩,by simp only [];omega⟩
 have hln:=hr.len
 have hij:i=j:=by omega
 subst hij
 refine Xah (Z3 _ _ (wr (dm (dm (dm ?_)))))
 refine Xa2 (v:=I ↑(m-i)) rfl (Xay rfl rfl (by unfold Xai;omega)) (by show I _=I _;first|rfl|(congr 1;omega)) (dm (dm (dm ?_)))
 refine cD (Xwj cur v Bo f _ ho om9 (m-i) m i om9 om9) (.inl rfl) λu4 w4 x4 hf4=>?_
 have hsz4:=hx.size
 replace hx:=hx.own x4 (λi hi hlt=>hi)
 obtain⟨rfl,cur1,ho,hsw⟩:=hf4
 refine Xae ((Xa5 (Xav rfl ?_)))
 exact⟨_,rfl,hx,rfl,cur1,ho,X2b hr hsw⟩
def X2j (v:Value)(Bo f:Nat)(c:Fi->Fi->Int)(N:Nat):Prop:=∀(l:List Fi) (w:World) (a m b:Nat),b-a<N->Vc.Own Fi.cs 5 62 Bo w v l->l.length≤10000000->a<m->m<b->b≤l.length->SM (ltC c) a m b l->Calls Tryz.prog 303 [v,I ↑a,I ↑m,I ↑b,fnV f].toArray w (Does (λk=>v.ownBlock=some k) w (λu w'=>u=.tuple #[]∧∃l',Vc.Own Fi.cs 5 62 Bo w' v l'∧Srt (ltC c) a b l l'))
theorem X8r (l:List Fi)(v:Value)(Bo f:Nat)(c:Fi->Fi->Int)(w:World)(ho:Vc.Own Fi.cs 5 62 Bo w v l)(hl:l.length≤10000000)(hcb:Xbw Tryz.prog f=true)(hc:∀w2 x y,Calls Tryz.prog f [Fi.v x,Fi.v y].toArray w2 (Pure w2 (I (c x y))))(O:Ord (ltC c))(a m b:Nat)(ham:a<m)(hmb:m<b)(hb:b≤l.length)(hsm:SM (ltC c) a m b l)(ih:X2j v Bo f c (b-a)) :
  Calls Tryz.prog 303 [v,I ↑a,I ↑m,I ↑b,fnV f].toArray w (Does (λk=>v.ownBlock=some k) w (λu w'=>u=.tuple #[]∧∃l',Vc.Own Fi.cs 5 62 Bo w' v l'∧Srt (ltC c) a b l l')):=by
 refine cw Tryz.func303 ?_
 have hx:=Vc.Mod.refl (λk=>v.ownBlock=some k) w
 refine ws λ_ Z1=>ws λ_ Z2=>wr (dm (dm ?_))
 refine ps rfl rfl (dp (Xa9 rfl rfl) (de Z2 (wi (λc1=>?_) λc1=>?_)))
 ·have hm1:m=a+1:=by omega
  refine ws λ_ Z3=>wr (dm (da (de Z3 (ws λ_ Z4=>wr (dm (da (de Z4 (ws λ_ Z5=>Xab ?_))))))))
  refine Xaj (G:=Nat×Nat) (λ(i,j)=>[(0,v),(1,I ↑a),(2,I ↑m),(3,I ↑b),(4,fnV f),(10,I ↑i),(11,I ↑j)]) (λ(i,j) w'=>Mod (λk=>v.ownBlock=some k) w w'∧m≤i∧i≤j∧j≤b∧(j=b∨∃x y,l[a]?=some x∧l[j]?=some y∧ltC c y x=false)∧(i=m∨∃x y,l[a]?=some x∧l[i-1]?=some y∧ltC c y x=true)∧Vc.Own Fi.cs 5 62 Bo w' v l) (λ(i,j)=>j-i) (m,b) ?_ ?_ ?_
  ·exact zz7
  ·exact⟨hx,Nat.le_refl _,by omega,Nat.le_refl _,.inl rfl,.inl rfl,ho⟩
  intro X1 g1 w1 hF1
  obtain⟨i,j⟩:=g1
  clear hx ho
  obtain⟨hx,hi,hij,hjb,hup,hlo,ho⟩:=hF1
  refine ws λ_ Z6=>ws λ_ Z7=>wr (dm (dm ?_))
  refine dp (Xaf rfl rfl) (de Z7 (wi (λc2=>?_) λc2=>?_))
  ·obtain⟨x,hxa⟩:∃x,l[a]?=some x:=gtE
   obtain⟨y,hyh⟩:∃x,l[(i+j) / 2]?=some x:=gtE
   refine Xaa (Z6 _ _ (Xab (ws λ_ Z8=>wr (dm (dm ?_)))))
   refine Xa2 (v:=I ↑(i+j)) rfl (Xa7 rfl rfl (by unfold Xai;omega)) rfl (Xa2 (v:=.int .u64 ↑(i+j)) rfl (Xdl (n:=i+j) (k:=.i64) om9 rfl kr9 kr9) rfl (dp (Xdw (u:=i+j) rfl rfl) (dp (Xdy (n:=(i+j) / 2) om9 rfl kr9 kr9) (da (de Z8 (ws λ_ Z9=>?_))))))
   refine Xaq (R:=Ext) Ext.refl (λ_ _ _=>Ext.trans) kr9 [4,8] [(0,.p,false),(1,.p,false),(2,.p,false),(3,.p,false),(4,.l,false),(5,.p,false),(6,.p,false),(7,.p,false),(8,.l,false),(9,.x,true),(10,.p,false)] rfl kr9 kr9 (λw2 ew2=>?_)
   have x2:=drewx ew2
   clear ew2
   replace ho:=ho.ext x2
   replace hx:=hx.ext x2
   iterate 3 refine dm ?_
   refine di 62 5 (ho.arr ir9).sl rfl ((ho.arr ir9).lt hyh) (D_l rfl (λw' hR=>Xac kr9 rfl rfl (((ho.arr ir9).ext hR).row hyh)) (dm (dm ?_)))
   refine di 62 5 (ho.arr ir9).sl rfl ((ho.arr ir9).lt hxa) (D_l rfl (λw' hR=>Xac kr9 rfl rfl (((ho.arr ir9).ext hR).row hxa)) (Xcz (vs:=[y.v,x.v]) rfl rfl hcb (hc _ y x) rfl RX.all (λw3 x3=>?_)))
   replace ho:=ho.ext x3
   replace hx:=hx.ext x3
   refine dp (Xaf rfl rfl) (de Z9 (wi (λc3=>?_) λc3=>?_))
   ·have hlt:ltC c y x=true:=by simpa [ltC]using c3
    refine wr (dm ?_)
    refine pa rfl rfl (da (Xae (?_)))
    first|exact⟨((i+j) / 2+1,j),zz7,⟨hx,by omega,by omega,hjb,hup,.inr ⟨x,y,hxa,by rw[Nat.add_sub_cancel];exact hyh,hlt⟩,ho⟩,by simp only [];omega⟩|exact⟨(i,(i+j) / 2),zz7,⟨hx,hi,by omega,by omega,.inr ⟨x,y,hxa,hyh,hlt⟩,hlo,ho⟩,by simp only [];omega⟩
   have hlt:ltC c y x=false:=by simpa [ltC]using c3
   refine wr (dm (da (Xae (?_))))
   first|exact⟨((i+j) / 2+1,j),zz7,⟨hx,by omega,by omega,hjb,hup,.inr ⟨x,y,hxa,by rw[Nat.add_sub_cancel];exact hyh,hlt⟩,ho⟩,by simp only [];omega⟩|exact⟨(i,(i+j) / 2),zz7,⟨hx,hi,by omega,by omega,.inr ⟨x,y,hxa,hyh,hlt⟩,hlo,ho⟩,by simp only [];omega⟩
  refine Xah (Z5 _ _ (ws λ_ Z10=>ws λ_ Z11=>wr (dm (da (de Z11 (Xab ?_))))))
  refine Xaj (G:=Nat×List Fi) (λ(k,cur)=>[(0,v),(1,I ↑a),(2,I ↑m),(3,I ↑b),(4,fnV f),(10,I ↑i),(13,I ↑k)]) (λ(k,cur) w'=>Mod (λk=>v.ownBlock=some k) w w'∧ShU a k l cur∧k≤i-1∧Vc.Own Fi.cs 5 62 Bo w' v cur) (λ(k,cur)=>i-k) (a,l) ?_ ?_ ?_
  ·exact zz7
  ·exact⟨hx,X8h om9,by omega,ho⟩
  intro X4 g4 w4 hF4
  obtain⟨k,cur⟩:=g4
  clear hx ho
  obtain⟨hx,hk,hki,ho⟩:=hF4
  refine ws λ_ Z12=>ws λ_ Z13=>wr (dm (dm ?_))
  refine ps rfl rfl (dp (Xaf rfl rfl) (de Z13 (wi (λc4=>?_) λc4=>?_)))
  ·have hkl:=hk.len
   obtain⟨x,hxk⟩:∃x,cur[k]?=some x:=gtE
   obtain⟨y,hyk⟩:∃x,cur[k+1]?=some x:=gtE
   have hb0:=Xcv ho (λe=>by rw[e]at hxk;simp at hxk)
   refine Xaa (Z12 _ _ (ws λ_ Z14=>Xab (Xaq (R:=Ext) Ext.refl (λ_ _ _=>Ext.trans) kr9 [9,13] [(0,.p,false),(1,.p,false),(2,.p,false),(3,.p,false),(4,.p,false),(5,.p,false),(6,.p,false),(7,.p,false),(8,.p,false),(9,.l,false),(10,.p,false),(11,.p,false),(12,.p,false),(13,.l,false),(14,.p,false),(15,.x,true),(16,.p,false),(17,.x,true)] rfl kr9 kr9 (λw5 ew5=>?_))))
   have x5:=drewx ew5
   clear ew5
   replace ho:=ho.ext x5
   replace hx:=hx.ext x5
   iterate 4 refine dm ?_
   refine Xa2 (v:=I ↑(k+1)) rfl (Xa7 rfl rfl (by unfold Xai;omega)) rfl (dm (dm ?_))
   refine Xa2 (v:=I ↑(k+1)) rfl (Xa7 rfl rfl (by unfold Xai;omega)) rfl (di 62 5 (ho.arr ir9).sl rfl ((ho.arr ir9).lt hyk) (D_l rfl (λw' hR=>Xac kr9 rfl rfl (((ho.arr ir9).ext hR).row hyk)) (dm (dm ?_))))
   refine di 62 5 (ho.arr ir9).sl rfl ((ho.arr ir9).lt hxk) (D_l rfl (λw' hR=>Xac kr9 rfl rfl (((ho.arr ir9).ext hR).row hxk)) (Xa2 (v:=ptr (base v).1 (k*5+0)) rfl (Xba (i:=k) (e:=62) (k:=5) kr9 ho.sl rfl rfl (by first|omega|(rw[List.length_set];omega))) (by rw[hb0];show ptr _ (0+_)=_;rw[Nat.zero_add];rfl) ?_))
   refine Xa3 (enc:=Fi.cs) (sz:=5) (l:=cur) (i:=k) (j:=0) (x:=y) (vs:=y.cs) ir9 rfl ho rfl rfl rfl kr9 (by first|omega|(rw[List.length_set];omega)) rfl (Nat.le_refl 5) (by intro v hv;simp at hv;rcases hv with rfl|rfl|rfl|rfl|rfl<;>rfl) (.inl rfl) (λw6 x6 xs6 ho_n=>?_)
   replace hx:=hx.own x6 (λi hi hlt=>hi)
   replace ho:=ho_n
   refine Xa2 (v:=ptr (base v).1 ((k+1)*5+0)) rfl (Xba (i:=(k+1)) (e:=62) (k:=5) kr9 ho.sl rfl rfl (by first|omega|(rw[List.length_set];omega))) (by rw[hb0];show ptr _ (0+_)=_;rw[Nat.zero_add];rfl) ?_
   refine Xa3 (enc:=Fi.cs) (sz:=5) (l:=(cur.set k y)) (i:=(k+1)) (j:=0) (x:=x) (vs:=x.cs) ir9 rfl ho rfl rfl rfl kr9 (by first|omega|(rw[List.length_set];omega)) rfl (Nat.le_refl 5) (by intro v hv;simp at hv;rcases hv with rfl|rfl|rfl|rfl|rfl<;>rfl) (.inl rfl) (λw7 x7 xs7 ho_n=>?_)
   replace hx:=hx.own x7 (λi hi hlt=>hi)
   replace ho:=ho_n
   refine de Z14 (wr (dm ?_))
   refine pa rfl rfl (da (Xae (?_)))
   exact⟨(k+1,_),zz7,⟨hx,Xrc hk hxk hyk,by omega,ho⟩,by simp only [];omega⟩
  refine Xah (Z10 _ _ (Xad (Xav rfl ?_)))
  have hkl:=hk.len
  have:k=i-1:=by omega
  subst this
  have hij2:i=j:=by omega
  subst hij2
  exact⟨_,rfl,hx,rfl,cur,ho,Xwb O hsm hm1 hi hjb hk hup hlo⟩
 refine Xaa (Z1 _ _ (ws λ_ Z15=>ws λ_ Z16=>wr (dm (dm ?_))))
 refine ps rfl rfl (dp (Xa9 rfl rfl) (de Z16 (wi (λc5=>?_) λc5=>?_)))
 ·have hm1:b=m+1:=by omega
  refine ws λ_ Z17=>wr (dm (da (de Z17 (ws λ_ Z18=>wr (dm (da (de Z18 (ws λ_ Z19=>Xab ?_))))))))
  refine Xaj (G:=Nat×Nat) (λ(i,j)=>[(0,v),(1,I ↑a),(2,I ↑m),(3,I ↑b),(4,fnV f),(14,I ↑i),(15,I ↑j)]) (λ(i,j) w'=>Mod (λk=>v.ownBlock=some k) w w'∧a≤i∧i≤j∧j≤m∧(j=m∨∃x y,l[m]?=some x∧l[j]?=some y∧ltC c x y=true)∧(i=a∨∃x y,l[m]?=some x∧l[i-1]?=some y∧ltC c x y=false)∧Vc.Own Fi.cs 5 62 Bo w' v l) (λ(i,j)=>j-i) (a,m) ?_ ?_ ?_
  ·exact zz7
  ·exact⟨hx,Nat.le_refl _,by omega,Nat.le_refl _,.inl rfl,.inl rfl,ho⟩
  intro X8 g8 w8 hF8
  obtain⟨i,j⟩:=g8
  clear hx ho
  obtain⟨hx,hi,hij,hjb,hup,hlo,ho⟩:=hF8
  refine ws λ_ Z20=>ws λ_ Z21=>wr (dm (dm ?_))
  refine dp (Xaf rfl rfl) (de Z21 (wi (λc6=>?_) λc6=>?_))
  ·obtain⟨x,hxm⟩:∃x,l[m]?=some x:=gtE
   obtain⟨y,hyh⟩:∃x,l[(i+j) / 2]?=some x:=gtE
   refine Xaa (Z20 _ _ (Xab (ws λ_ Z22=>wr (dm (dm ?_)))))
   refine Xa2 (v:=I ↑(i+j)) rfl (Xa7 rfl rfl (by unfold Xai;omega)) rfl (Xa2 (v:=.int .u64 ↑(i+j)) rfl (Xdl (n:=i+j) (k:=.i64) om9 rfl kr9 kr9) rfl (dp (Xdw (u:=i+j) rfl rfl) (dp (Xdy (n:=(i+j) / 2) om9 rfl kr9 kr9) (da (de Z22 (ws λ_ Z23=>?_))))))
   refine Xaq (R:=Ext) Ext.refl (λ_ _ _=>Ext.trans) kr9 [4,8] [(0,.p,false),(1,.p,false),(2,.p,false),(3,.p,false),(4,.l,false),(5,.p,false),(6,.p,false),(7,.p,false),(8,.l,false),(9,.x,true),(10,.p,false),(11,.p,false)] rfl kr9 kr9 (λw9 ew9=>?_)
   have x9:=drewx ew9
   clear ew9
   replace ho:=ho.ext x9
   replace hx:=hx.ext x9
   iterate 3 refine dm ?_
   refine di 62 5 (ho.arr ir9).sl rfl ((ho.arr ir9).lt hxm) (D_l rfl (λw' hR=>Xac kr9 rfl rfl (((ho.arr ir9).ext hR).row hxm)) (dm (dm ?_)))
   refine di 62 5 (ho.arr ir9).sl rfl ((ho.arr ir9).lt hyh) (D_l rfl (λw' hR=>Xac kr9 rfl rfl (((ho.arr ir9).ext hR).row hyh)) (Xcz (vs:=[x.v,y.v]) rfl rfl hcb (hc _ x y) rfl RX.all (λw10 x10=>?_)))
   replace ho:=ho.ext x10
   replace hx:=hx.ext x10
   refine dp (Xaf rfl rfl) (dn (de Z23 ?_))
   refine wc (λc7=>?_) λc7=>?_
   ·have hlt:ltC c x y=false:=by simpa [ltC]using c7
    refine wr (dm ?_)
    refine pa rfl rfl (da (Xae (?_)))
    first|exact⟨((i+j) / 2+1,j),zz7,⟨hx,by omega,by omega,hjb,hup,.inr ⟨x,y,hxm,by rw[Nat.add_sub_cancel];exact hyh,hlt⟩,ho⟩,by simp only [];omega⟩|exact⟨(i,(i+j) / 2),zz7,⟨hx,hi,by omega,by omega,.inr ⟨x,y,hxm,hyh,hlt⟩,hlo,ho⟩,by simp only [];omega⟩
   have hlt:ltC c x y=true:=by simpa [ltC]using c7
   refine wr (dm (da (Xae (?_))))
   first|exact⟨((i+j) / 2+1,j),zz7,⟨hx,by omega,by omega,hjb,hup,.inr ⟨x,y,hxm,by rw[Nat.add_sub_cancel];exact hyh,hlt⟩,ho⟩,by simp only [];omega⟩|exact⟨(i,(i+j) / 2),zz7,⟨hx,hi,by omega,by omega,.inr ⟨x,y,hxm,hyh,hlt⟩,hlo,ho⟩,by simp only [];omega⟩
  refine Xah (Z19 _ _ (ws λ_ Z24=>ws λ_ Z25=>wr (dm (da (de Z25 (Xab ?_))))))
  refine Xaj (G:=Nat×List Fi) (λ(k,cur)=>[(0,v),(1,I ↑a),(2,I ↑m),(3,I ↑b),(4,fnV f),(14,I ↑i),(17,I ↑k)]) (λ(k,cur) w'=>Mod (λk=>v.ownBlock=some k) w w'∧ShD m k l cur∧i≤k∧Vc.Own Fi.cs 5 62 Bo w' v cur) (λ(k,cur)=>k) (m,l) ?_ ?_ ?_
  ·exact zz7
  ·exact⟨hx,X8i om9,by omega,ho⟩
  intro X11 g11 w11 hF11
  obtain⟨k,cur⟩:=g11
  clear hx ho
  obtain⟨hx,hk,hki,ho⟩:=hF11
  refine ws λ_ Z26=>ws λ_ Z27=>wr (dm (dm ?_))
  refine dp (Xaw rfl rfl) (de Z27 (wi (λc8=>?_) λc8=>?_))
  ·have hkl:=hk.len
   obtain⟨x,hxk⟩:∃x,cur[k]?=some x:=gtE
   obtain⟨y,hyk⟩:∃x,cur[k-1]?=some x:=gtE
   have hb0:=Xcv ho (λe=>by rw[e]at hxk;simp at hxk)
   refine Xaa (Z26 _ _ (ws λ_ Z28=>Xab (Xaq (R:=Ext) Ext.refl (λ_ _ _=>Ext.trans) kr9 [9,13] [(0,.p,false),(1,.p,false),(2,.p,false),(3,.p,false),(4,.p,false),(5,.p,false),(6,.p,false),(7,.p,false),(8,.p,false),(9,.l,false),(10,.p,false),(11,.p,false),(12,.p,false),(13,.l,false),(14,.p,false),(15,.x,true),(16,.p,false),(17,.x,true)] rfl kr9 kr9 (λw12 ew12=>?_))))
   have x12:=drewx ew12
   clear ew12
   replace ho:=ho.ext x12
   replace hx:=hx.ext x12
   iterate 4 refine dm ?_
   refine Xa2 (v:=I ↑(k-1)) rfl (Xay rfl rfl (by unfold Xai;omega)) (by show I _=I _;first|rfl|(congr 1;omega)) (dm (dm ?_))
   refine Xa2 (v:=I ↑(k-1)) rfl (Xay rfl rfl (by unfold Xai;omega)) (by show I _=I _;first|rfl|(congr 1;omega)) (di 62 5 (ho.arr ir9).sl rfl ((ho.arr ir9).lt hyk) (D_l rfl (λw' hR=>Xac kr9 rfl rfl (((ho.arr ir9).ext hR).row hyk)) (dm (dm ?_))))
   refine di 62 5 (ho.arr ir9).sl rfl ((ho.arr ir9).lt hxk) (D_l rfl (λw' hR=>Xac kr9 rfl rfl (((ho.arr ir9).ext hR).row hxk)) (Xa2 (v:=ptr (base v).1 (k*5+0)) rfl (Xba (i:=k) (e:=62) (k:=5) kr9 ho.sl rfl rfl (by first|omega|(rw[List.length_set];omega))) (by rw[hb0];show ptr _ (0+_)=_;rw[Nat.zero_add];rfl) ?_))
   refine Xa3 (enc:=Fi.cs) (sz:=5) (l:=cur) (i:=k) (j:=0) (x:=y) (vs:=y.cs) ir9 rfl ho rfl rfl rfl kr9 (by first|omega|(rw[List.length_set];omega)) rfl (Nat.le_refl 5) (by intro v hv;simp at hv;rcases hv with rfl|rfl|rfl|rfl|rfl<;>rfl) (.inl rfl) (λw13 x13 xs13 ho_n=>?_)
   replace hx:=hx.own x13 (λi hi hlt=>hi)
   replace ho:=ho_n
   refine Xa2 (v:=ptr (base v).1 ((k-1)*5+0)) rfl (Xba (i:=(k-1)) (e:=62) (k:=5) kr9 ho.sl rfl rfl (by first|omega|(rw[List.length_set];omega))) (by rw[hb0];show ptr _ (0+_)=_;rw[Nat.zero_add];rfl) ?_
   refine Xa3 (enc:=Fi.cs) (sz:=5) (l:=(cur.set k y)) (i:=(k-1)) (j:=0) (x:=x) (vs:=x.cs) ir9 rfl ho rfl rfl rfl kr9 (by first|omega|(rw[List.length_set];omega)) rfl (Nat.le_refl 5) (by intro v hv;simp at hv;rcases hv with rfl|rfl|rfl|rfl|rfl<;>rfl) (.inl rfl) (λw14 x14 xs14 ho_n=>?_)
   replace hx:=hx.own x14 (λi hi hlt=>hi)
   replace ho:=ho_n
   refine de Z28 (wr (dm ?_))
   refine Xa2 (v:=I ↑(k-1)) rfl (Xay rfl rfl (by unfold Xai;omega)) (by show I _=I _;first|rfl|(congr 1;omega)) (da (Xae (?_)))
   exact⟨(k-1,_),zz7,⟨hx,Xrd hk om9 hxk hyk,by omega,ho⟩,by simp only [];omega⟩
  refine Xah (Z24 _ _ (Xad (Xav rfl ?_)))
  have hkl:=hk.len
  have:k=i:=by omega
  subst this
  have hij2:k=j:=by omega
  subst hij2
  exact⟨_,rfl,hx,rfl,cur,ho,Xwc O hsm hm1 hi hjb hk hup hlo⟩
 have ham2:a+2≤m:=by omega
 have hmb2:m+2≤b:=by omega
 refine Xaa (Z15 _ _ (ws λ_ Z29=>wr (dm (dm ?_))))
 refine Xa2 (v:=I ↑(a+b)) rfl (Xa7 rfl rfl (by unfold Xai;omega)) rfl (Xa2 (v:=.int .u64 ↑(a+b)) rfl (Xdl (n:=a+b) (k:=.i64) om9 rfl kr9 kr9) rfl (dp (Xdw (u:=a+b) rfl rfl) (dp (Xdy (n:=(a+b) / 2) om9 rfl kr9 kr9) (da (de Z29 (ws λ_ Z30=>wr (dm (dm ?_))))))))
 refine Xa2 (v:=I ↑((a+b) / 2+m)) rfl (Xa7 rfl rfl (by unfold Xai;omega)) rfl (da (de Z30 (ws λ_ Z31=>wr (da (da (de Z31 ?_))))))
 refine Xdi (G:=Nat×Nat) (λ(s0,r0)=>[(0,v),(1,I ↑a),(2,I ↑m),(3,I ↑b),(4,fnV f),(18,I ↑((a+b) / 2)),(19,I ↑((a+b) / 2+m)),(20,I ↑s0),(21,I ↑r0)]) (λ(s0,r0) w'=>Mod (λk=>v.ownBlock=some k) w w'∧a≤s0∧s0≤r0∧r0≤m∧(s0=a∨(a+b) / 2+m-s0=b)∧(r0=m∨(a+b) / 2+m-r0=m)∧(a+b) / 2+m-s0≤b∧m≤(a+b) / 2+m-r0∧Vc.Own Fi.cs 5 62 Bo w' v l) ?_ ?_
 ·refine ws λ_ Z32=>wr (dm (dm ?_))
  refine dp (Xaw rfl rfl) (de Z32 (wi (λc9=>?_) λc9=>?_))
  ·have hgm:(a+b) / 2<m:=by omega
   refine ws λ_ Z33=>wr (dm (dm ?_))
   refine Xa2 (v:=I ↑((a+b) / 2+m-b)) rfl (Xay rfl rfl (by unfold Xai;omega)) (by show I _=I _;first|rfl|(congr 1;omega)) (da (de Z33 (wr (dm (da (Xae (?_)))))))
   first|exact⟨((a+b) / 2+m-b,(a+b) / 2),zz9,hx,by omega,by omega,by omega,.inr om9,.inr om9,by omega,by omega,ho⟩|exact⟨(a,m),zz9,hx,by omega,by omega,by omega,.inl rfl,.inl rfl,by omega,by omega,ho⟩
  have hgm:m≤(a+b) / 2:=by omega
  refine ws λ_ Z34=>wr (dm (da (de Z34 (wr (dm (da (Xae (?_))))))))
  first|exact⟨((a+b) / 2+m-b,(a+b) / 2),zz9,hx,by omega,by omega,by omega,.inr om9,.inr om9,by omega,by omega,ho⟩|exact⟨(a,m),zz9,hx,by omega,by omega,by omega,.inl rfl,.inl rfl,by omega,by omega,ho⟩
 intro X15 g15 w15 hF15
 obtain⟨s0,r0⟩:=g15
 clear hx ho
 obtain⟨hx,q0,q1,q2,q3,q4,q5,q6,ho⟩:=hF15
 refine ws λ_ Z35=>wr (dm ?_)
 refine Xa2 (v:=I ↑((a+b) / 2+m-1)) rfl (Xay rfl rfl (by unfold Xai;omega)) (by show I _=I _;first|rfl|(congr 1;omega)) (da (de Z35 (ws λ_ Z36=>Xab ?_)))
 refine Xaj (G:=Nat×Nat) (λ(s,r)=>[(0,v),(1,I ↑a),(2,I ↑m),(3,I ↑b),(4,fnV f),(18,I ↑((a+b) / 2)),(19,I ↑((a+b) / 2+m)),(20,I ↑s),(21,I ↑r),(22,I ↑((a+b) / 2+m-1))]) (λ(s,r) w'=>Mod (λk=>v.ownBlock=some k) w w'∧s0≤s∧s≤r∧r≤r0∧(s=s0∨∃x y,l[s-1]?=some x∧l[(a+b) / 2+m-s]?=some y∧ltC c y x=false)∧(r=r0∨∃x y,l[r]?=some x∧l[(a+b) / 2+m-1-r]?=some y∧ltC c y x=true)∧Vc.Own Fi.cs 5 62 Bo w' v l) (λ(s,r)=>r-s) (s0,r0) ?_ ?_ ?_
 ·exact zz10
 ·exact⟨hx,Nat.le_refl _,q1,Nat.le_refl _,.inl rfl,.inl rfl,ho⟩
 intro X16 g16 w16 hF16
 obtain⟨s,r⟩:=g16
 clear hx ho
 obtain⟨hx,hs0,hsr1,hr0,hlo,hhi,ho⟩:=hF16
 refine ws λ_ Z37=>ws λ_ Z38=>wr (dm (dm ?_))
 refine dp (Xaf rfl rfl) (de Z38 (wi (λc10=>?_) λc10=>?_))
 ·obtain⟨y,hyh⟩:∃x,l[(a+b) / 2+m-1-(s+r) / 2]?=some x:=gtE
  obtain⟨x,hxc⟩:∃x,l[(s+r) / 2]?=some x:=gtE
  refine Xaa (Z37 _ _ (Xab (ws λ_ Z39=>wr (dm (dm ?_)))))
  refine Xa2 (v:=I ↑(s+r)) rfl (Xa7 rfl rfl (by unfold Xai;omega)) rfl (Xa2 (v:=.int .u64 ↑(s+r)) rfl (Xdl (n:=s+r) (k:=.i64) om9 rfl kr9 kr9) rfl (dp (Xdw (u:=s+r) rfl rfl) (dp (Xdy (n:=(s+r) / 2) om9 rfl kr9 kr9) (da (de Z39 (ws λ_ Z40=>?_))))))
  refine Xaq (R:=Ext) Ext.refl (λ_ _ _=>Ext.trans) kr9 [6,10] [(0,.p,false),(1,.p,false),(2,.p,false),(3,.p,false),(4,.p,false),(5,.p,false),(6,.l,false),(7,.p,false),(8,.p,false),(9,.p,false),(10,.l,false),(11,.x,true),(12,.p,false),(13,.p,false)] rfl kr9 kr9 (λw17 ew17=>?_)
  have x17:=drewx ew17
  clear ew17
  replace ho:=ho.ext x17
  replace hx:=hx.ext x17
  iterate 4 refine dm ?_
  refine Xa2 (v:=I ↑((a+b) / 2+m-1-(s+r) / 2)) rfl (Xay rfl rfl (by unfold Xai;omega)) (by show I _=I _;first|rfl|(congr 1;omega)) (di 62 5 (ho.arr ir9).sl rfl ((ho.arr ir9).lt hyh) (D_l rfl (λw' hR=>Xac kr9 rfl rfl (((ho.arr ir9).ext hR).row hyh)) (dm (dm ?_))))
  refine di 62 5 (ho.arr ir9).sl rfl ((ho.arr ir9).lt hxc) (D_l rfl (λw' hR=>Xac kr9 rfl rfl (((ho.arr ir9).ext hR).row hxc)) (Xcz (vs:=[y.v,x.v]) rfl rfl hcb (hc _ y x) rfl RX.all (λw18 x18=>?_)))
  replace ho:=ho.ext x18
  replace hx:=hx.ext x18
  refine dp (Xaf rfl rfl) (dn (de Z40 ?_))
  refine wc (λc11=>?_) λc11=>?_
  ·have hlt:ltC c y x=false:=by simpa [ltC]using c11
   refine wr (dm ?_)
   refine pa rfl rfl (da (Xae (?_)))
   first|exact⟨((s+r) / 2+1,r),zz10,⟨hx,by omega,by omega,hr0,.inr ⟨x,y,by rw[Nat.add_sub_cancel];exact hxc,by rw[←hyh];congr 1;omega,hlt⟩,hhi,ho⟩,by simp only [];omega⟩|exact⟨(s,(s+r) / 2),zz10,⟨hx,hs0,by omega,by omega,hlo,.inr ⟨x,y,hxc,hyh,hlt⟩,ho⟩,by simp only [];omega⟩
  have hlt:ltC c y x=true:=by simpa [ltC]using c11
  refine wr (dm (da (Xae (?_))))
  first|exact⟨((s+r) / 2+1,r),zz10,⟨hx,by omega,by omega,hr0,.inr ⟨x,y,by rw[Nat.add_sub_cancel];exact hxc,by rw[←hyh];congr 1;omega,hlt⟩,hhi,ho⟩,by simp only [];omega⟩|exact⟨(s,(s+r) / 2),zz10,⟨hx,hs0,by omega,by omega,hlo,.inr ⟨x,y,hxc,hyh,hlt⟩,ho⟩,by simp only [];omega⟩
 have hsr:s=r:=by omega
 subst hsr
 have hm8:∀l2,((s<m∧m<(a+b) / 2+m-s->l2=rotT l s m ((a+b) / 2+m-s))∧(¬ (s<m∧m<(a+b) / 2+m-s)->l2=l))->SMr (ltC c) a m b s ((a+b) / 2+m-s) l l2:=λl2 h2=>X2c O hsm om9 om9 om9 om9 (by
  rcases hlo with e|e
  ·rcases q3 with e3|e3
   ·exact .inl om9
   ·exact .inr (.inl (by rw[e];exact e3))
  ·exact .inr (.inr e)) (by
  rcases hhi with e|e
  ·rcases q4 with e4|e4
   ·exact .inl om9
   ·exact .inr (.inl (by rw[e];exact e4))
  ·obtain⟨x,y,e1,e2,e3⟩:=e
   exact .inr (.inr ⟨x,y,e1,by rw[←e2];congr 1;omega,e3⟩)) h2
 have hmid:s+((a+b) / 2+m-s)=(a+b) / 2+m:=by omega
 refine Xah (Z36 _ _ (ws λ_ Z41=>wr (dm (dm ?_))))
 refine Xa2 (v:=I ↑((a+b) / 2+m-s)) rfl (Xay rfl rfl (by unfold Xai;omega)) (by show I _=I _;first|rfl|(congr 1;omega)) (da (de Z41 ?_))
 refine Xdi (G:=List Fi) (λl2=>[(0,v),(1,I ↑a),(3,I ↑b),(4,fnV f),(18,I ↑((a+b) / 2)),(20,I ↑s),(24,I ↑((a+b) / 2+m-s))]) (λl2 w'=>Mod (λk=>v.ownBlock=some k) w w'∧SMr (ltC c) a m b s ((a+b) / 2+m-s) l l2∧l2.length=l.length∧Vc.Own Fi.cs 5 62 Bo w' v l2) ?_ ?_
 ·refine ws λ_ Z42=>wr (dm (dm ?_))
  refine dp (Xaf rfl rfl) (dm ?_)
  refine Xag 181 rfl (λc12=>?_) (λc12=>?_)
  ·iterate 2 refine dm ?_
   refine dp (Xaf rfl rfl) (dk' (de Z42 ?_))
   refine wi (λc13=>?_) λc13=>?_
   ·refine wr (dm (dm (dm (dm (dm ?_)))))
    refine cD (X8q l v Bo f _ ho hl s m ((a+b) / 2+m-s) om9 om9 om9) (.inl rfl) λu19 w19 x19 hf19=>?_
    have hsz19:=hx.size
    replace hx:=hx.own x19 (λi hi hlt=>hi)
    obtain⟨rfl,cur1,ho,hrt⟩:=hf19
    have hm9:=hm8 cur1 ⟨λ_=>hrt,λh=>absurd ⟨by omega,by omega⟩ h⟩
    have hl9:cur1.length=l.length:=by rw[hrt];have:=(Xzz (l:=l) (a:=s) (m:=m) (b:=(a+b) / 2+m-s) om9 om9 om9).len.1;omega
    refine Xae (?_)
    exact⟨_,zz7,hx,hm9,hl9,ho⟩
   have hm9:=hm8 l ⟨λh=>absurd h.2 om9,λ_=>rfl⟩
   have hl9:l.length=l.length:=rfl
   refine Xaa ?_
   exact⟨_,zz7,hx,hm9,hl9,ho⟩
  have hm9:=hm8 l ⟨λh=>absurd h.1 om9,λ_=>rfl⟩
  have hl9:l.length=l.length:=rfl
  refine dk (dk (dk (dk' (de Z42 ?_))))
  refine W_f rfl (Xaa ?_)
  exact⟨_,zz7,hx,hm9,hl9,ho⟩
 intro X20 g20 w20 hF20
 revert hF20;revert g20;intro l2 hF20
 clear hx ho
 obtain⟨hx,hm9,hl9,ho⟩:=hF20
 refine Xdi (G:=List Fi) (λl3=>[(0,v),(3,I ↑b),(4,fnV f),(18,I ↑((a+b) / 2)),(24,I ↑((a+b) / 2+m-s))]) (λl3 w'=>Mod (λk=>v.ownBlock=some k) w w'∧Srt (ltC c) a ((a+b) / 2) l2 l3∧Vc.Own Fi.cs 5 62 Bo w' v l3) ?_ ?_
 ·refine ws λ_ Z43=>wr (dm (dm ?_))
  refine dp (Xaf rfl rfl) (dm ?_)
  refine Xag 195 rfl (λc14=>?_) (λc14=>?_)
  ·iterate 2 refine dm ?_
   refine dp (Xaf rfl rfl) (dk' (de Z43 ?_))
   refine wi (λc15=>?_) λc15=>?_
   ·refine wr (dm (dm (dm (dm (dm ?_)))))
    refine cD (ih l2 _ a s ((a+b) / 2) om9 ho om9 om9 om9 om9 (Xre hm9 hmid)) (.inl rfl) λu21 w21 x21 hf21=>?_
    have hsz21:=hx.size
    replace hx:=hx.own x21 (λi hi hlt=>hi)
    obtain⟨rfl,cur1,ho,hs9⟩:=hf21
    refine Xae (?_)
    exact⟨_,zz5,hx,hs9,ho⟩
   have hs9:=Xek hm9 hmid (λh=>absurd h.2 om9)
   refine Xaa ?_
   exact⟨_,zz5,hx,hs9,ho⟩
  have hs9:=Xek hm9 hmid (λh=>absurd h.1 om9)
  refine dk (dk (dk (dk' (de Z43 ?_))))
  refine W_f rfl (Xaa ?_)
  exact⟨_,zz5,hx,hs9,ho⟩
 intro X22 g22 w22 hF22
 revert hF22;revert g22;intro l3 hF22
 clear hx ho
 obtain⟨hx,hs9,ho⟩:=hF22
 refine ws λ_ Z44=>wr (dm (dm ?_))
 refine dp (Xaf rfl rfl) (dm ?_)
 refine Xag 209 rfl (λc16=>?_) (λc16=>?_)
 ·iterate 2 refine dm ?_
  refine dp (Xaf rfl rfl) (dk' (de Z44 ?_))
  refine wi (λc17=>?_) λc17=>?_
  ·refine wr (dm (dm (dm (dm (dm ?_)))))
   refine cD (ih l3 _ ((a+b) / 2) ((a+b) / 2+m-s) b om9 ho (by have:=hs9.len.1;omega) om9 om9 (by have:=hs9.len.1;omega) (Xng hm9 hmid hs9)) (.inl rfl) λu23 w23 x23 hf23=>?_
   have hsz23:=hx.size
   replace hx:=hx.own x23 (λi hi hlt=>hi)
   obtain⟨rfl,cur1,ho,hr9⟩:=hf23
   have hf9:=Xhn hm9 hmid hs9 hr9
   refine Xae ((Xa5 (Xav rfl ?_)))
   exact⟨_,rfl,hx,rfl,_,ho,hf9⟩
  have hf9:=Xhn hm9 hmid hs9 (Xdv hm9 hmid hs9 (λh=>absurd h.2 om9))
  refine Xaa (Xa5 (Xav rfl ?_))
  exact⟨_,rfl,hx,rfl,_,ho,hf9⟩
 have hf9:=Xhn hm9 hmid hs9 (Xdv hm9 hmid hs9 (λh=>absurd h.1 om9))
 refine dk (dk (dk (dk' (de Z44 ?_))))
 refine W_f rfl (Xaa (Xa5 (Xav rfl ?_)))
 exact⟨_,rfl,hx,rfl,_,ho,hf9⟩
theorem Xpd (v:Value)(Bo f:Nat)(c:Fi->Fi->Int)(hcb:Xbw Tryz.prog f=true)(hc:∀w2 x y,Calls Tryz.prog f [Fi.v x,Fi.v y].toArray w2 (Pure w2 (I (c x y))))(O:Ord (ltC c)):∀N,X2j v Bo f c N
 | 0=>λ_ _ _ _ _ h=>absurd h (Nat.not_lt_zero _)
 | N+1=>λl w a m b hN ho hl ham hmb hb hsm=>X8r l v Bo f c w ho hl hcb hc O a m b ham hmb hb hsm (λl2 w2 a2 m2 b2 hN2=>Xpd v Bo f c hcb hc O N l2 w2 a2 m2 b2 om9)
theorem X8s (l:List Fi)(v:Value)(Bo f:Nat)(c:Fi->Fi->Int)(w:World)(ho:Vc.Own Fi.cs 5 62 Bo w v l)(hl:l.length≤10000000)(hcb:Xbw Tryz.prog f=true)(hc:∀w2 x y,Calls Tryz.prog f [Fi.v x,Fi.v y].toArray w2 (Pure w2 (I (c x y))))(O:Ord (ltC c)) :
  Calls Tryz.prog 246 [v,I ↑l.length,fnV f].toArray w (Does (λk=>v.ownBlock=some k) w (λu w'=>u=.tuple #[]∧∃l',Vc.Own Fi.cs 5 62 Bo w' v l'∧l'.Perm l∧Up (ltC c) l')):=by
 refine cw Tryz.func246 ?_
 have hx:=Vc.Mod.refl (λk=>v.ownBlock=some k) w
 refine ws λ_ Z1=>wr (da (de Z1 (ws λ_ Z2=>wr (dm (da (da (de Z2 (ws λ_ Z3=>Xab ?_))))))))
 refine Xaj (G:=Nat×List Fi) (λ(j,cur)=>[(0,v),(1,I ↑l.length),(2,fnV f),(6,I 20),(7,I ↑(j*20)),(8,I ↑(j*20+20))]) (λ(j,cur) w'=>Mod (λk=>v.ownBlock=some k) w w'∧j*20≤l.length∧I2 (ltC c) 20 j cur∧cur.Perm l∧Vc.Own Fi.cs 5 62 Bo w' v cur) (λ(j,cur)=>l.length-j*20) (0,l) ?_ ?_ ?_
 ·exact zz6
 ·exact⟨hx,Nat.zero_le _,λk hk=>absurd hk (Nat.not_lt_zero k),.refl _,ho⟩
 intro X1 g1 w1 hF1
 obtain⟨j,cur⟩:=g1
 clear hx ho
 obtain⟨hx,hj,hI,hp,ho⟩:=hF1
 refine ws λ_ Z4=>ws λ_ Z5=>wr (dm (dm ?_))
 refine dp (Xci rfl rfl) (de Z5 (wi (λc1=>?_) λc1=>?_))
 ·have hpl:=hp.length_eq
  refine Xaa (Z4 _ _ (Xab (ws λ_ Z6=>wr (dm (dm (dm (dm ?_)))))))
  refine cD (X2i cur v Bo f c _ ho om9 hcb hc O (j*20) (j*20+20) om9 om9) (.inl rfl) λu2 w2 x2 hf2=>?_
  have hsz2:=hx.size
  replace hx:=hx.own x2 (λi hi hlt=>hi)
  obtain⟨rfl,cur1,ho,hsw⟩:=hf2
  refine de Z6 (ws λ_ Z7=>wr (Xa2 (v:=I ↑((j+1)*20)) rfl (Xfz rfl) (by show I _=I _;first|rfl|(congr 1;omega)) (da (de Z7 (wr (dm (dm ?_)))))))
  refine Xa2 (v:=I ↑((j+1)*20+20)) rfl (Xa7 rfl rfl (by unfold Xai;omega)) (by show I _=I _;first|rfl|(congr 1;omega)) (da (Xae (?_)))
  exact⟨(j+1,_),zz6,⟨hx,by omega,Xwe hI (by rw[Nat.succ_mul];exact hsw),hsw.perm.trans hp,ho⟩,by simp only [];omega⟩
 have hpl:=hp.length_eq
 refine Xah (Z3 _ _ (ws λ_ Z8=>wr (dm (dm (dm (dm ?_))))))
 refine cD (X2i cur v Bo f c _ ho om9 hcb hc O (j*20) l.length om9 om9) (.inl rfl) λu3 w3 x3 hf3=>?_
 have hsz3:=hx.size
 replace hx:=hx.own x3 (λi hi hlt=>hi)
 obtain⟨rfl,cur1,ho,hsw⟩:=hf3
 refine de Z8 (Xab ?_)
 refine Xaj (G:=Nat×List Fi) (λ(s,cur)=>[(0,v),(1,I ↑l.length),(2,fnV f),(6,I ↑s)]) (λ(s,cur) w'=>Mod (λk=>v.ownBlock=some k) w w'∧20≤s∧s≤40+2*l.length∧M2 (ltC c) s 0 cur∧cur.Perm l∧Vc.Own Fi.cs 5 62 Bo w' v cur) (λ(s,cur)=>l.length-s) (20,cur1) ?_ ?_ ?_
 ·exact zz4
 ·exact⟨hx,Nat.le_refl _,by omega,X2e hI om9 om9 (by rw[hpl];exact hsw),hsw.perm.trans hp,ho⟩
 intro X4 g4 w4 hF4
 obtain⟨s,cur⟩:=g4
 clear hx ho
 obtain⟨hx,hs,hs2,hM,hp,ho⟩:=hF4
 refine ws λ_ Z9=>ws λ_ Z10=>wr (dm (dm ?_))
 refine dp (Xaf rfl rfl) (de Z10 (wi (λc2=>?_) λc2=>?_))
 ·have hpl:=hp.length_eq
  refine Xaa (Z9 _ _ (Xab (ws λ_ Z11=>wr (dm ?_))))
  refine Xa2 (v:=I ↑(0+2*s)) rfl (Xen rfl rfl (by unfold Xai;omega)) (by show I _=I _;first|rfl|(congr 1;omega)) (da (da (de Z11 (ws λ_ Z12=>Xab ?_))))
  refine Xaj (G:=Nat×Nat×List Fi) (λ(j,q,cur2)=>[(0,v),(1,I ↑l.length),(2,fnV f),(6,I ↑s),(7,I ↑q),(8,I ↑(q+2*s))]) (λ(j,q,cur2) w'=>Mod (λk=>v.ownBlock=some k) w w'∧q=j*(2*s)∧q≤l.length∧M2 (ltC c) s j cur2∧cur2.Perm l∧Vc.Own Fi.cs 5 62 Bo w' v cur2) (λ(j,q,cur2)=>l.length-q) (0,0,cur) ?_ ?_ ?_
  ·exact zz6
  ·exact⟨hx,by omega,Nat.zero_le _,hM,hp,ho⟩
  intro X5 g5 w5 hF5
  obtain⟨j,q,cur2⟩:=g5
  clear hx ho
  obtain⟨hx,hq,hql,hM2,hp2,ho⟩:=hF5
  refine ws λ_ Z13=>ws λ_ Z14=>wr (dm (dm ?_))
  refine dp (Xci rfl rfl) (de Z14 (wi (λc3=>?_) λc3=>?_))
  ·have hpl2:=hp2.length_eq
   have hq1:(j+1)*(2*s)=q+2*s:=by rw[hq];exact Nat.succ_mul _ _
   refine Xaa (Z13 _ _ (Xab (ws λ_ Z15=>wr (dm (dm (dm (dm ?_)))))))
   refine Xa2 (v:=I ↑(q+s)) rfl (Xa7 rfl rfl (by unfold Xai;omega)) rfl (dm (dm ?_))
   refine cD (Xpd v Bo f c hcb hc O ((q+2*s)-q+1) cur2 _ q (q+s) (q+2*s) om9 ho om9 om9 om9 om9 (by have h9:=X8j hM2 (by rw[hq1];omega);rw[hq1,←hq]at h9;exact h9)) (.inl rfl) λu6 w6 x6 hf6=>?_
   have hsz6:=hx.size
   replace hx:=hx.own x6 (λi hi hlt=>hi)
   obtain⟨rfl,cur1,ho,hsw⟩:=hf6
   refine de Z15 (ws λ_ Z16=>wr (Xa2 (v:=I ↑(q+2*s)) rfl (Xfz rfl) (by show I _=I _;first|rfl|(congr 1;omega)) (da (de Z16 (wr (dm (dm ?_)))))))
   refine Xa2 (v:=I ↑(2*s)) rfl (Xen rfl rfl (by unfold Xai;omega)) (by show I _=I _;first|rfl|(congr 1;omega)) (Xa2 (v:=I ↑(q+2*s+2*s)) rfl (Xa7 rfl rfl (by unfold Xai;omega)) rfl (da (Xae (?_))))
   exact⟨(j+1,q+2*s,_),zz6,⟨hx,hq1.symm,by omega,Xwd hM2 (by rw[hq1,←hq];exact hsw),hsw.perm.trans hp2,ho⟩,by simp only [];omega⟩
  have hpl2:=hp2.length_eq
  have hq1:(j+1)*(2*s)=q+2*s:=by rw[hq];exact Nat.succ_mul _ _
  refine Xah (Z12 _ _ (ws λ_ Z17=>ws λ_ Z18=>wr (dm (dm ?_))))
  refine Xa2 (v:=I ↑(q+s)) rfl (Xa7 rfl rfl (by unfold Xai;omega)) rfl (da (de Z18 (ws λ_ Z19=>wr (dm (dm ?_)))))
  refine dp (Xaf rfl rfl) (de Z19 (wi (λc4=>?_) λc4=>?_))
  ·refine wr (dm (dm (dm (dm (dm ?_)))))
   refine cD (Xpd v Bo f c hcb hc O (l.length-q+1) cur2 _ q (q+s) l.length om9 ho om9 om9 om9 om9 (by have h9:=X2d hM2 (by rw[hq1];omega) (by rw[←hq];omega);rw[←hq,hpl2]at h9;exact h9)) (.inl rfl) λu7 w7 x7 hf7=>?_
   have hsz7:=hx.size
   replace hx:=hx.own x7 (λi hi hlt=>hi)
   obtain⟨rfl,cur1,ho,hsw⟩:=hf7
   refine de Z17 (wr (dm ?_))
   refine Xa2 (v:=I ↑(2*s)) rfl (Xen rfl rfl (by unfold Xai;omega)) (by show I _=I _;first|rfl|(congr 1;omega)) (da (Xae (?_)))
   first|exact⟨(2*s,_),zz4,⟨hx,by omega,by omega,Xhx hM2 (by rw[hq1];omega) (by rw[←hq];omega) ⟨λ_=>by rw[←hq,hpl2];exact hsw,λh=>absurd h (by rw[←hq];omega)⟩,hsw.perm.trans hp2,ho⟩,by simp only [];omega⟩|exact⟨(2*s,_),zz4,⟨hx,by omega,by omega,Xhx hM2 (by rw[hq1];omega) (by rw[←hq];omega) ⟨λh=>absurd h (by rw[←hq];omega),λ_=>rfl⟩,hp2,ho⟩,by simp only [];omega⟩
  refine Xaa (Z17 _ _ (wr (dm ?_)))
  refine Xa2 (v:=I ↑(2*s)) rfl (Xen rfl rfl (by unfold Xai;omega)) (by show I _=I _;first|rfl|(congr 1;omega)) (da (Xae (?_)))
  first|exact⟨(2*s,_),zz4,⟨hx,by omega,by omega,Xhx hM2 (by rw[hq1];omega) (by rw[←hq];omega) ⟨λ_=>by rw[←hq,hpl2];exact hsw,λh=>absurd h (by rw[←hq];omega)⟩,hsw.perm.trans hp2,ho⟩,by simp only [];omega⟩|exact⟨(2*s,_),zz4,⟨hx,by omega,by omega,Xhx hM2 (by rw[hq1];omega) (by rw[←hq];omega) ⟨λh=>absurd h (by rw[←hq];omega),λ_=>rfl⟩,hp2,ho⟩,by simp only [];omega⟩
 have hpl:=hp.length_eq
 refine Xah (Xa5 (Xav rfl ?_))
 have hpl:=hp.length_eq
 exact⟨_,rfl,hx,rfl,cur,ho,hp,X2f hM om9⟩
theorem X8t (l:List Fi)(v:Value)(Bo f:Nat)(c:Fi->Fi->Int)(w:World)(ho:Vc.Own Fi.cs 5 62 Bo w v l)(hl:l.length≤10000000)(hcb:Xbw Tryz.prog f=true)(hc:∀w2 x y,Calls Tryz.prog f [Fi.v x,Fi.v y].toArray w2 (Pure w2 (I (c x y))))(O:Ord (ltC c)) :
  Calls Tryz.prog 174 [v,fnV f].toArray w (Does (λk=>v.ownBlock=some k) w (λu w'=>u=.tuple #[]∧∃l',Vc.Own Fi.cs 5 62 Bo w' v l'∧l'.Perm l∧Up (ltC c) l')):=by
 refine cw Tryz.func174 ?_
 have hx:=Vc.Mod.refl (λk=>v.ownBlock=some k) w
 refine wr (dm (dm ?_))
 refine dv 62 5 (ho.arr ir9).sl (dm ?_)
 refine cD (X8s l v Bo f c _ ho hl hcb hc O) (.inl rfl) λu1 w1 x1 hf1=>?_
 have hsz1:=hx.size
 replace hx:=hx.own x1 (λi hi hlt=>hi)
 obtain⟨rfl,cur1,ho,hp,hu⟩:=hf1
 refine Xae ((Xa5 (Xav rfl ?_)))
 exact⟨_,rfl,hx,rfl,cur1,ho,hp,hu⟩
theorem Xnj {x y z:Str}(h1:sLt y x=false)(h2:sLt z y=false):sLt z x=false:=by
 cases h:sLt z x with
 | false=>rfl
 | true=>
  rcases Xbp x y with e|e|e
  ·rw[e,h2]at h;cases h
  ·rw[Xbg _ _ _ h e]at h2;cases h2
  ·rw[e]at h1;cases h1
theorem Xri (a b:Int):(cmpI a b<0)↔a<b:=by
 unfold cmpI
 split
 ·simp [*]
 ·split<;>simp<;>omega
theorem X2k (a b:Int):(cmpI a b=0)↔a=b:=by
 unfold cmpI
 split
 ·simp;omega
 ·split<;>simp<;>omega
theorem Xz1 (a b:Str):(cmpB a b<0)↔sLt a b=true:=by
 unfold cmpB
 split
 ·simp [*]
 ·split<;>simp [*]
theorem Xpe (a b:Fi):ltC cmpF a b=true↔(a.lev<b.lev∨(a.lev=b.lev∧((a.lev=0∧a.id<b.id)∨(a.lev≠0∧sLt a.fst b.fst=true)))):=by
 unfold ltC cmpF
 rw[decide_eq_true_iff]
 by_cases h:a.lev=0∧b.lev=0
 ·rw[if_pos h,Xri];simp [h.1,h.2]
 ·rw[if_neg h]
  by_cases h2:cmpI a.lev b.lev≠0
  ·rw[if_pos h2,Xri]
   have:=mt (X2k a.lev b.lev).2 h2
   constructor
   ·exact .inl
   ·rintro (h3|h3)
    ·exact h3
    ·exact absurd h3.1 this
  ·rw[if_neg h2,Xz1]
   have:=(X2k a.lev b.lev).1 (Decidable.of_not_not h2)
   have h0:a.lev≠0:=λe=>h ⟨e,by rw[←this];exact e⟩
   simp [this,h0,this▸h0]
theorem X2l {a b:Fi} : ltC cmpF a b=false↔¬ (a.lev<b.lev∨(a.lev=b.lev∧((a.lev=0∧a.id<b.id)∨(a.lev≠0∧sLt a.fst b.fst=true)))):=by
 rw[←Xpe];simp
theorem X94 : Ord (ltC cmpF):=⟨λx y z h1 h2=>(by
 rw[X2l]at *
 simp only [not_or,not_and,Bool.not_eq_true]at *
 refine⟨by omega,λe=>⟨λe0=>?_,λe0=>?_⟩⟩
 ·have e1:z.lev=y.lev:=by omega
  have g1:=(h1.2 om9).1 om9
  have g2:=(h2.2 e1).1 om9
  omega
 ·have e1:z.lev=y.lev:=by omega
  exact Xnj ((h1.2 om9).2 om9) ((h2.2 e1).2 om9)),λx y h=>(by
 rw[Xpe]at h
 rw[X2l]
 simp only [not_or,not_and,Bool.not_eq_true]
 refine⟨by omega,λe=>⟨λe0=>?_,λe0=>?_⟩⟩
 ·rcases h with h|⟨_,⟨_,h⟩|⟨h,_⟩⟩<;>omega
 ·rcases h with h|⟨_,⟨h,_⟩|⟨_,h⟩⟩
  ·omega
  ·omega
  ·exact Xbx h)⟩
def Xfb (fs:List Fi)(gone:List Int):Bool:=decide gone.Nodup && gone.all λi=>fs.any λf=>decide (f.id=i)
def Xcw (fs:List Fi)(gone:List Int):List Fi:=fs.filter λf=>!decide (f.id∈gone)
def Xcb (n:Int)(add:List Fi):Int:=add.foldl (λx f=>max x (f.id+1)) n
def Xh2 (v:Vs)(gone:List Int)(add:List Fi):Bool:=isV v && Xfb v.fs gone && add.all λf=>decide (f.id≤1099511627776)
theorem Xz2 {fs:List Fi}{gone:List Int}{k:Nat}{i:Int}(hk:gone[k]?=some i)(h:i∈(gone.take k).drop 0):Xfb fs gone=false:=by
 unfold Xfb
 rw[Bool.and_eq_false_iff]
 left
 rw[decide_eq_false_iff_not]
 intro hn
 rw[List.drop_zero]at h
 obtain⟨j,hj⟩:=List.getElem?_of_mem h
 rw[List.getElem?_take]at hj
 split at hj
 ·rename_i hlt
  obtain⟨h1,rfl⟩:=List.getElem?_eq_some_iff.1 hk
  obtain⟨h2,h3⟩:=List.getElem?_eq_some_iff.1 hj
  exact List.pairwise_iff_getElem.1 hn j k h2 h1 hlt h3
 ·cases hj
theorem Xwk {fs:List Fi}{gone:List Int}{k:Nat}{i:Int}(hk:gone[k]?=some i)(h:(fs.any λf=>decide (f.id=i))=false):Xfb fs gone=false:=by
 unfold Xfb
 rw[Bool.and_eq_false_iff]
 right
 rw[List.all_eq_false]
 exact⟨i,List.mem_of_getElem? hk,by rw[h];decide⟩
theorem Xwl {fs:List Fi}{gone:List Int}{k:Nat}{i:Int}(hk:gone[k]?=some i)(h:Xfb fs (gone.take k)=true)(h1:i∉(gone.take k).drop 0)(h2:(fs.any λf=>decide (f.id=i))=true):Xfb fs (gone.take (k+1))=true:=by
 unfold Xfb at *
 rw[Bool.and_eq_true,decide_eq_true_iff]at *
 rw[Xa0 hk,List.all_append,h.2]
 refine⟨List.nodup_append.2 ⟨h.1,by simp,λa ha b hb e=>h1 ?_⟩,by simp [h2]⟩
 rw[List.mem_singleton.1 hb]at e
 rw[List.drop_zero,←e];exact ha
theorem Xg1 {fs:List Fi}{gone:List Int}{k:Nat}{f:Fi}(hk:fs[k]?=some f):Xcw (fs.take (k+1)) gone=if f.id∈gone then Xcw (fs.take k) gone else Xcw (fs.take k) gone++[f]:=by
 unfold Xcw
 rw[Xa0 hk,List.filter_append]
 by_cases h:f.id∈gone<;>simp [h]
theorem Xlo (fs:List Fi)(gone:List Int)(k:Nat):(Xcw (fs.take k) gone).length≤fs.length:=by
 have h1:(Xcw (fs.take k) gone).length≤(fs.take k).length:=List.length_filter_le _ _
 have h2:(fs.take k).length≤fs.length:=List.length_take_le' ..
 omega
theorem Xwm {n:Int}{add:List Fi}{k:Nat}{f:Fi}(hk:add[k]?=some f):Xcb n (add.take (k+1))=max (Xcb n (add.take k)) (f.id+1):=by
 unfold Xcb
 rw[Xa0 hk,List.foldl_append];rfl
theorem Xlp {v:Vs}{gone:List Int}{add:List Fi}(h:isV v=false∨Xfb v.fs gone=false∨∃f∈add,¬ f.id≤1099511627776):Xh2 v gone add=false:=by
 unfold Xh2
 rcases h with h|h|⟨f,hf,h⟩
 ·rw[h];rfl
 ·rw[h];simp
 ·rw[Bool.and_eq_false_iff];right
  rw[List.all_eq_false]
  exact⟨f,hf,by simpa using h⟩
theorem Xlq {v:Vs}{gone:List Int}{add:List Fi}(h1:isV v=true)(h2:Xfb v.fs gone=true)(h3:∀f∈add,f.id≤1099511627776):Xh2 v gone add=true:=by
 unfold Xh2
 rw[h1,h2]
 simp only [Bool.and_self,Bool.true_and,List.all_eq_true,decide_eq_true_eq]
 exact h3
theorem Xz3 (n:Int)(fs:List Fi)(vf:Value)(gone:List Int)(vg:Value)(add:List Fi)(va:Value)(w:World)(hf:Arr Fi.cs 5 w vf fs)(hfl:fs.length≤40000)(hid:∀f∈fs,Xai f.id)(hg:Arr Vc.encI 1 w vg gone)(hgl:gone.length≤40000)(ha:Arr Fi.cs 5 w va add)(hal:add.length≤40000)(had:∀f∈add,Xai f.id) :
  Calls Tryz.prog 91 [.agg ⟨[I n,vf]⟩,vg,va].toArray w (Gives w (λu w'=>(Xh2 ⟨n,fs⟩ gone add=false∧u=.tuple #[.agg ⟨[I 0,.slice none 0 0]⟩,I 1])∨(Xh2 ⟨n,fs⟩ gone add=true∧∃fs',fs'.Perm (Xcw fs gone++add)∧Up (ltC cmpF) fs'∧((isV ⟨Xcb n add,fs'⟩=false∧u=.tuple #[.agg ⟨[I 0,.slice none 0 0]⟩,I 1])∨(isV ⟨Xcb n add,fs'⟩=true∧∃vx,u=.tuple #[.agg ⟨[I (Xcb n add),vx]⟩,I 0]∧Vc.Own Fi.cs 5 62 w.heap.size w' vx fs'))))):=by
 refine cw Tryz.func91 ?_
 have hx:=Ext.refl w
 refine ws λ_ Z1=>wr (Xbf rfl rfl rfl RX.all (λb1 w1 e1 x1 m1=>?_))
 have g1:=hx.ge e1
 replace hx:=hx.trans x1
 refine Xan (cs:=[.int .i64 0,.slice none 0 0]) rfl kr9 RX.all (λb2 w2 e2 x2 m2=>?_)
 have g2:=hx.ge e2
 have n2_1:=m1.ltb e2
 replace m1:=m1.ext x2
 replace hx:=hx.trans x2
 refine da (de Z1 (ws λ_ Z2=>ws λ_ Z3=>wr ?_))
 refine dq (Xac (k:=2) kr9 rfl rfl m1.row) (cP (Xzl n fs vf _ (hf.ext hx) om9 hid) RX.all λw3 x3=>?_)
 replace m1:=m1.ext x3
 replace m2:=m2.ext x3
 replace hx:=hx.trans x3
 refine dn (de Z3 ?_)
 refine wc (λc1=>?_) λc1=>?_
 ·refine ws λ_ Z4=>wr (db (zs:=[.int .i64 0,.slice none 0 0]) (pl:=[(0,1),(1,1)]) (pv:=[]) (cs:=[.int .i64 0,.slice none 0 0]) ?_)
  refine stA m2 (λw4 x4 xs4 m2=>?_)
  try dsimp only [Xal,List.set,List.take,List.drop]at m2
  try replace m1:=m1.mo x4
  replace hx:=hx.o1 x4
  refine da (de Z4 (Xad ?_))
  refine Xau (u:=?v6) rfl rfl rfl rfl kr9 rfl m2.row ?h6 ?k6
  case h6=>conv=>lhs;whnf
  exact⟨_,rfl,hx,.inl ⟨Xlp (.inl (by simpa using c1)),rfl⟩⟩
 have hV:isV ⟨n,fs⟩=true:=by simpa using c1
 refine Xaa (Z2 _ _ (ws λ_ Z5=>wr (df 0 rfl (dl rfl (m1.at rfl) (db (zs:=[.int .i64 0,.slice none 0 0]) (pl:=[(0,1),(1,1)]) (pv:=[(0,_)]) (cs:=[_,.slice none 0 0]) ?_)))))
 refine Xan (cs:=[.int .i64 0,.slice none 0 0]) rfl kr9 RX.all (λb3 w5 e3 x5 m3=>?_)
 have g3:=hx.ge e3
 have n3_1:=m1.ltb e3
 have n3_2:=m2.ltb e3
 replace m1:=m1.ext x5
 replace m2:=m2.ext x5
 replace hx:=hx.trans x5
 refine stA m3 (λw6 x6 xs6 m3=>?_)
 try dsimp only [Xal,List.set,List.take,List.drop]at m3
 try replace m1:=m1.mo x6
 try replace m2:=m2.mo x6
 replace hx:=hx.o1 x6
 refine de Z5 (ws λ_ Z6=>ws λ_ Z7=>wr (dm ?_))
 refine dv 3 1 (hg.ext hx).sl (dm (de Z7 (Xab ?_)))
 refine Xaj (G:=Nat) (λk=>[(1,vg),(2,va),(3,ptr b1 0),(6,ptr b2 0),(8,ptr b3 0),(22,vg),(23,I ↑gone.length),(24,I ↑k)]) (λk w'=>Ext w w'∧Blk w' b1 [I n,vf] 56∧Blk w' b2 [I 0,.slice none 0 0] 56∧Blk w' b3 [I n,.slice none 0 0] 56∧k≤gone.length∧Xfb fs (gone.take k)=true) (λk=>gone.length-k) 0 ?_ ?_ ?_
 ·exact zz8
 ·exact⟨hx,m1,m2,m3,Nat.zero_le _,rfl⟩
 intro X7 g7 w7 hF7
 revert hF7;revert g7;intro k hF7
 clear hx m1 m2 m3
 obtain⟨hx,m1,m2,m3,hk1,hgo⟩:=hF7
 refine ws λ_ Z8=>wr (dp (Xaf rfl rfl) (de Z8 (ws λ_ Z9=>wi (λc2=>?_) λc2=>?_)))
 ·obtain⟨i,hk⟩:∃i,gone[k]?=some i:=gtE
  refine Xaa (Z9 _ _ (ws λ_ Z10=>Xab (ws λ_ Z11=>wr (dm ?_))))
  refine di 3 1 hg.sl rfl (hg.lt hk) (dl rfl (((hg.ext hx).row hk).at0 rfl) (Xan (cs:=[.int .i64 0]) rfl kr9 RX.all (λb4 w8 e4 x8 m4=>?_)))
  have g4:=hx.ge e4
  have n4_1:=m1.ltb e4
  have n4_2:=m2.ltb e4
  have n4_3:=m3.ltb e4
  replace m1:=m1.ext x8
  replace m2:=m2.ext x8
  replace m3:=m3.ext x8
  replace hx:=hx.trans x8
  refine da ?_
  refine st1 m4 (λw9 x9 xs9 m4=>?_) (hv:=by first|rfl|exact isSl.one m1.sl|exact isSl.one m2.sl|exact isSl.one m3.sl|exact isSl.one ha.sl|exact isSl.one hf.sl|exact isSl.one hg.sl|exact isSl.one (hg.ext hx).sl|exact isSl.one (hf.ext hx).sl|exact isSl.one (ha.ext hx).sl)
  try dsimp only [Xal,List.set,List.take,List.drop]at m4
  try replace m1:=m1.mo x9
  try replace m2:=m2.mo x9
  try replace m3:=m3.mo x9
  replace hx:=hx.o1 x9
  refine de Z11 (ws λ_ Z12=>Xaq (R:=Ext) Ext.refl (λ_ _ _=>Ext.trans) kr9 [3,7] [(0,.p,false),(1,.p,false),(2,.p,false),(3,.l,false),(4,.x,true),(5,.p,false),(6,.p,false),(7,.l,false),(8,.p,false),(9,.x,false),(10,.p,false),(11,.p,false)] rfl kr9 kr9 (λw10 ew10=>?_))
  have x10:=drewx ew10
  clear ew10
  replace m1:=m1.ext x10
  replace m2:=m2.ext x10
  replace m3:=m3.ext x10
  replace m4:=m4.ext x10
  replace hx:=hx.trans x10
  iterate 2 refine dm ?_
  refine dp (Xc1 (e:=3) (k:=1) kr9 (hg.ext hx).sl rfl rfl rfl om9 om9) (dL rfl (λ_ hR=>((m4.ext hR).at rfl)) (cP (X1u ((gone.take k).drop 0) (slV 1 vg 0 k) i _ ((hg.ext hx).slice (Nat.zero_le _) om9) (by rw[List.length_drop,List.length_take];omega)) RX.all λw11 x11=>?_))
  replace m1:=m1.ext x11
  replace m2:=m2.ext x11
  replace m3:=m3.ext x11
  replace m4:=m4.ext x11
  replace hx:=hx.trans x11
  refine dm ?_
  refine Xb7 34 rfl (λc3=>?_) (λc3=>?_)
  ·refine dk (dk (dk (dk (dk (dk' (de Z12 ?_))))))
   refine W_t rfl (ws λ_ Z13=>wr (db (zs:=[.int .i64 0,.slice none 0 0]) (pl:=[(0,1),(1,1)]) (pv:=[]) (cs:=[.int .i64 0,.slice none 0 0]) ?_))
   refine stA m2 (λw12 x12 xs12 m2=>?_)
   try dsimp only [Xal,List.set,List.take,List.drop]at m2
   try replace m1:=m1.mo x12
   try replace m3:=m3.mo x12
   try replace m4:=m4.mo x12
   replace hx:=hx.o1 x12
   refine da (de Z13 (Xad ?_))
   refine Xau (u:=?v21) rfl rfl rfl rfl kr9 rfl m2.row ?h21 ?k21
   case h21=>conv=>lhs;whnf
   exact⟨_,rfl,hx,.inl ⟨Xlp (.inr (.inl (Xz2 hk (by simpa using c3)))),rfl⟩⟩
  refine df 1 rfl (dL rfl (λ_ hR=>((m1.ext hR).at rfl)) (dp (Xdn rfl) (cP (X44 fs vf 173 [ptr b4 0] (λf=>decide (f.id=i)) _ (hf.ext hx) om9 kr9 (λw2 x2 x _=>X73 x i _ w2 (m4.ext x2))) RX.ext λw13 x13=>?_)))
  replace m1:=m1.ext x13
  replace m2:=m2.ext x13
  replace m3:=m3.ext x13
  replace hx:=hx.trans x13
  refine dn ?_
  refine dk' (de Z12 ?_)
  refine wc (λc4=>?_) λc4=>?_
  ·refine ws λ_ Z14=>wr (db (zs:=[.int .i64 0,.slice none 0 0]) (pl:=[(0,1),(1,1)]) (pv:=[]) (cs:=[.int .i64 0,.slice none 0 0]) ?_)
   refine stA m2 (λw14 x14 xs14 m2=>?_)
   try dsimp only [Xal,List.set,List.take,List.drop]at m2
   try replace m1:=m1.mo x14
   try replace m3:=m3.mo x14
   replace hx:=hx.o1 x14
   refine da (de Z14 (Xad ?_))
   refine Xau (u:=?v27) rfl rfl rfl rfl kr9 rfl m2.row ?h27 ?k27
   case h27=>conv=>lhs;whnf
   exact⟨_,rfl,hx,.inl ⟨Xlp (.inr (.inl (Xwk hk (by simpa using c4)))),rfl⟩⟩
  refine Xaa (Z10 _ _ (wr (pa rfl rfl (dm (Xae (?_))))))
  exact⟨k+1,zz8,⟨hx,m1,m2,m3,by omega,Xwl hk hgo (by simpa using c3) (by simpa using c4)⟩,by omega⟩
 rw[List.take_of_length_le om9]at hgo
 refine Xah (Z6 _ _ (ws λ_ Z15=>ws λ_ Z16=>wr (df 1 rfl (dl rfl (m1.at rfl) (dv 62 5 (hf.ext hx).sl (dm (de Z16 (Xab ?_))))))))
 refine Xaj (G:=Nat×Value) (λ(k,vb)=>[(1,vg),(2,va),(6,ptr b2 0),(8,ptr b3 0),(44,vf),(45,I ↑fs.length),(46,I ↑k)]) (λ(k,vb) w'=>Ext w w'∧Blk w' b1 [I n,vf] 56∧Blk w' b2 [I 0,.slice none 0 0] 56∧k≤fs.length∧Blk w' b3 [I n,vb] 56∧Vc.Own Fi.cs 5 62 w.heap.size w' vb (Xcw (fs.take k) gone)) (λ(k,vb)=>fs.length-k) (0,.slice none 0 0) ?_ ?_ ?_
 ·exact zz7
 ·exact⟨hx,m1,m2,Nat.zero_le _,m3,Vc.Own.nil⟩
 intro X15 g15 w15 hF15
 obtain⟨k,vb⟩:=g15
 clear hx m1 m2 m3
 obtain⟨hx,m1,m2,hk1,m3,ho⟩:=hF15
 refine ws λ_ Z17=>wr (dp (Xaf rfl rfl) (de Z17 (ws λ_ Z18=>wi (λc5=>?_) λc5=>?_)))
 ·obtain⟨f,hk⟩:∃f,fs[k]?=some f:=gtE
  have hkl9:=Xlo fs gone k
  refine Xaa (Z18 _ _ (ws λ_ Z19=>Xab (ws λ_ Z20=>wr (di 62 5 hf.sl rfl (hf.lt hk) (dq (Xac kr9 rfl rfl ((hf.ext hx).row hk)) (Xan (cs:=[.int .i64 0,.int .i64 0,.int .i64 0,S [],S []]) rfl kr9 RX.all (λb5 w16 e5 x16 m5=>?_)))))))
  have g5:=hx.ge e5
  have n5_1:=m1.ltb e5
  have n5_2:=m2.ltb e5
  have n5_3:=m3.ltb e5
  have o5_ho:=ho.ltb e5
  replace m1:=m1.ext x16
  replace m2:=m2.ext x16
  replace m3:=m3.ext x16
  replace ho:=ho.ext x16
  replace hx:=hx.trans x16
  refine stA m5 (λw17 x17 xs17 m5=>?_)
  try dsimp only [Xal,List.set,List.take,List.drop]at m5
  try replace m1:=m1.mo x17
  try replace m2:=m2.mo x17
  try replace m3:=m3.mo x17
  try replace ho:=ho.mod x17 (by first|assumption|(intro k hk h;have h1:=(ho.lt k hk).1;have h2:k=b5:=h;omega)|(intro k hk h;have h1:=o5_ho k hk;have h2:k=b5:=h;omega)|(intro h;have h2:_=b5:=h;omega)|(intro hl h;have h1:=a5_ho hl;have h2:_=b5:=h;omega))
  replace hx:=hx.o1 x17
  refine de Z20 (ws λ_ Z21=>wr (dm ?_))
  refine df 0 rfl (dl rfl (m5.at rfl) (cP (X1u gone vg f.id _ (hg.ext hx) om9) RX.all λw18 x18=>?_))
  replace m1:=m1.ext x18
  replace m2:=m2.ext x18
  replace m3:=m3.ext x18
  replace ho:=ho.ext x18
  replace m5:=m5.ext x18
  replace hx:=hx.trans x18
  refine dn (de Z21 ?_)
  refine wc (λc6=>?_) λc6=>?_
  ·refine wr (df 1 rfl (dl rfl (m3.at rfl) (dq (Xac (k:=5) kr9 rfl rfl m5.row) (li (e:=62) (sz:=5) (zs:=[.int .i64 0,.int .i64 0,.int .i64 0,S [],S []]) (pv:=[(0,.agg ⟨[_,_,_,_,_]⟩)]) (cs:=[_,_,_,_,_]) RX.all (λb6 w19 e6 x19 m6=>?_)))))
   have g6:=hx.ge e6
   have n6_1:=m1.ltb e6
   have n6_2:=m2.ltb e6
   have n6_3:=m3.ltb e6
   have n6_5:=m5.ltb e6
   have o6_ho:=ho.ltb e6
   replace m1:=m1.ext x19
   replace m2:=m2.ext x19
   replace m3:=m3.ext x19
   replace ho:=ho.ext x19
   replace m5:=m5.ext x19
   replace hx:=hx.trans x19
   refine Xa6 (lx:=[f]) (e:=62) (sz:=5) (by':=56) rfl kr9 kr9 ir9 ho (m6.arr (enc:=Fi.cs) (sz:=5) (l:=[f]) rfl ir9 rfl (Nat.le_of_ble_eq_true rfl)) rfl rfl (by intro x _ u hu;simp at hu;rcases hu with rfl|rfl|rfl|rfl|rfl<;>rfl) (by simp;omega) dc9 hx.size (.inl rfl) (λvp w20 ho_n x20=>?_)
   try replace m1:=m1.mod x20 (by first|(intro h;have h2:b1=b1:=Option.some.inj h;omega)|(intro h;have h1:=(ho.lt _ h).1;omega)|(intro h;have h1:=o1_ho _ h;omega)|(intro h;exact ho.ne_blk m1 rfl h))
   try replace m2:=m2.mod x20 (by first|(intro h;have h2:b2=b2:=Option.some.inj h;omega)|(intro h;have h1:=(ho.lt _ h).1;omega)|(intro h;have h1:=o2_ho _ h;omega)|(intro h;exact ho.ne_blk m2 rfl h))
   try replace m3:=m3.mod x20 (by first|(intro h;have h2:b3=b3:=Option.some.inj h;omega)|(intro h;have h1:=(ho.lt _ h).1;omega)|(intro h;have h1:=o3_ho _ h;omega)|(intro h;exact ho.ne_blk m3 rfl h))
   try replace m5:=m5.mod x20 (by first|(intro h;have h2:b5=b5:=Option.some.inj h;omega)|(intro h;have h1:=(ho.lt _ h).1;omega)|(intro h;have h1:=o5_ho _ h;omega)|(intro h;exact ho.ne_blk m5 rfl h))
   replace hx:=hx.own x20 (λi hi=>(ho.lt i hi).1)
   replace ho:=ho_n
   have hne3:∀k,vp.ownBlock=some k->¬ oneB b3 k:=λk hk e=>ho.ne_blk m3 rfl (hk.trans (congrArg some e))
   clear m6
   refine df 1 rfl (st1 m3 (λw21 x21 xs21 m3=>?_) (hv:=by first|rfl|exact isSl.one m1.sl|exact isSl.one m2.sl|exact isSl.one ho.sl|exact isSl.one m5.sl|exact isSl.one ha.sl|exact isSl.one hf.sl|exact isSl.one hg.sl|exact isSl.one (hg.ext hx).sl|exact isSl.one (hf.ext hx).sl|exact isSl.one (ha.ext hx).sl))
   try dsimp only [Xal,List.set,List.take,List.drop]at m3
   try replace m1:=m1.mo x21
   try replace m2:=m2.mo x21
   try replace ho:=ho.mod x21 (by first|assumption|(intro k hk h;have h1:=(ho.lt k hk).1;have h2:k=b3:=h;omega)|(intro k hk h;have h1:=o3_ho k hk;have h2:k=b3:=h;omega)|(intro h;have h2:_=b3:=h;omega)|(intro hl h;have h1:=a3_ho hl;have h2:_=b3:=h;omega))
   replace hx:=hx.o1 x21
   refine de Z19 (wr (pa rfl rfl (dm (Xae (?_)))))
   first|(rw[show Xcw (fs.take k) gone++[f]=Xcw (fs.take (k+1)) gone by rw[Xg1 hk,if_neg (by simpa using c6)]]at ho;exact⟨(k+1,vp),zz7,⟨hx,m1,m2,by omega,m3,ho⟩,by simp only [];omega⟩)|(rw[show Xcw (fs.take k) gone=Xcw (fs.take (k+1)) gone by rw[Xg1 hk,if_pos (by simpa using c6)]]at ho;exact⟨(k+1,vb),zz7,⟨hx,m1,m2,by omega,m3,ho⟩,by simp only [];omega⟩)
  refine Xaa (Z19 _ _ (wr (pa rfl rfl (dm (Xae (?_))))))
  first|(rw[show Xcw (fs.take k) gone++[f]=Xcw (fs.take (k+1)) gone by rw[Xg1 hk,if_neg (by simpa using c6)]]at ho;exact⟨(k+1,vp),zz7,⟨hx,m1,m2,by omega,m3,ho⟩,by simp only [];omega⟩)|(rw[show Xcw (fs.take k) gone=Xcw (fs.take (k+1)) gone by rw[Xg1 hk,if_pos (by simpa using c6)]]at ho;exact⟨(k+1,vb),zz7,⟨hx,m1,m2,by omega,m3,ho⟩,by simp only [];omega⟩)
 rw[List.take_of_length_le om9]at ho
 refine Xah (Z15 _ _ (ws λ_ Z22=>ws λ_ Z23=>wr (dm ?_)))
 refine dv 62 5 (ha.ext hx).sl (dm (de Z23 (Xab ?_)))
 refine Xaj (G:=Nat×Value) (λ(j,vb)=>[(6,ptr b2 0),(8,ptr b3 0),(62,va),(63,I ↑add.length),(64,I ↑j)]) (λ(j,vb) w'=>Ext w w'∧Blk w' b1 [I n,vf] 56∧Blk w' b2 [I 0,.slice none 0 0] 56∧j≤add.length∧(∀f∈add.take j,f.id≤1099511627776)∧Blk w' b3 [I (Xcb n (add.take j)),vb] 56∧Vc.Own Fi.cs 5 62 w.heap.size w' vb (Xcw fs gone++add.take j)) (λ(j,vb)=>add.length-j) (0,vb) ?_ ?_ ?_
 ·exact zz5
 ·exact⟨hx,m1,m2,Nat.zero_le _,(λf hf=>by cases hf),m3,by simpa using ho⟩
 intro X22 g22 w22 hF22
 obtain⟨j,vb⟩:=g22
 clear hx m1 m2 m3 ho
 obtain⟨hx,m1,m2,hj1,hA,m3,ho⟩:=hF22
 refine ws λ_ Z24=>wr (dp (Xaf rfl rfl) (de Z24 (ws λ_ Z25=>wi (λc7=>?_) λc7=>?_)))
 ·obtain⟨f,hk⟩:∃f,add[j]?=some f:=gtE
  have hkl9:=Xlo fs gone fs.length
  rw[List.take_length]at hkl9
  have hfi:=had f (List.mem_of_getElem? hk)
  unfold Xai at hfi
  have hne3:∀k,vb.ownBlock=some k->¬ oneB b3 k:=λk hk e=>ho.ne_blk m3 rfl (hk.trans (congrArg some e))
  refine Xaa (Z25 _ _ (ws λ_ Z26=>Xab (ws λ_ Z27=>wr (di 62 5 ha.sl rfl (ha.lt hk) (dq (Xac kr9 rfl rfl ((ha.ext hx).row hk)) (Xan (cs:=[.int .i64 0,.int .i64 0,.int .i64 0,S [],S []]) rfl kr9 RX.all (λb7 w23 e7 x23 m7=>?_)))))))
  have g7:=hx.ge e7
  have n7_1:=m1.ltb e7
  have n7_2:=m2.ltb e7
  have n7_3:=m3.ltb e7
  have o7_ho:=ho.ltb e7
  replace m1:=m1.ext x23
  replace m2:=m2.ext x23
  replace m3:=m3.ext x23
  replace ho:=ho.ext x23
  replace hx:=hx.trans x23
  refine stA m7 (λw24 x24 xs24 m7=>?_)
  try dsimp only [Xal,List.set,List.take,List.drop]at m7
  try replace m1:=m1.mo x24
  try replace m2:=m2.mo x24
  try replace m3:=m3.mo x24
  try replace ho:=ho.mod x24 (by first|assumption|(intro k hk h;have h1:=(ho.lt k hk).1;have h2:k=b7:=h;omega)|(intro k hk h;have h1:=o7_ho k hk;have h2:k=b7:=h;omega)|(intro h;have h2:_=b7:=h;omega)|(intro hl h;have h1:=a7_ho hl;have h2:_=b7:=h;omega))
  replace hx:=hx.o1 x24
  refine de Z27 (ws λ_ Z28=>ws λ_ Z29=>wr (df 0 rfl (dl rfl (m7.at rfl) (dp (Xaw rfl rfl) (de Z29 (wi (λc8=>?_) λc8=>?_))))))
  ·refine ws λ_ Z30=>wr (db (zs:=[.int .i64 0,.slice none 0 0]) (pl:=[(0,1),(1,1)]) (pv:=[]) (cs:=[.int .i64 0,.slice none 0 0]) ?_)
   refine stA m2 (λw25 x25 xs25 m2=>?_)
   try dsimp only [Xal,List.set,List.take,List.drop]at m2
   try replace m1:=m1.mo x25
   try replace m3:=m3.mo x25
   try replace ho:=ho.mod x25 (by first|assumption|(intro k hk h;have h1:=(ho.lt k hk).1;have h2:k=b2:=h;omega)|(intro k hk h;have h1:=o2_ho k hk;have h2:k=b2:=h;omega)|(intro h;have h2:_=b2:=h;omega)|(intro hl h;have h1:=a2_ho hl;have h2:_=b2:=h;omega))
   try replace m7:=m7.mo x25
   replace hx:=hx.o1 x25
   refine da (de Z30 (Xad ?_))
   refine Xau (u:=?v43) rfl rfl rfl rfl kr9 rfl m2.row ?h43 ?k43
   case h43=>conv=>lhs;whnf
   exact⟨_,rfl,hx,.inl ⟨Xlp (.inr (.inr ⟨f,List.mem_of_getElem? hk,by omega⟩)),rfl⟩⟩
  refine Xaa (Z28 _ _ (ws λ_ Z31=>wr (df 0 rfl (dl rfl (m3.at rfl) (df 0 rfl (dl rfl (m7.at rfl) (pa rfl rfl (dp (Xoe rfl rfl) (df 0 rfl (st1 m3 (λw26 x26 xs26 m3=>?_) (hv:=by first|rfl|exact isSl.one m1.sl|exact isSl.one m2.sl|exact isSl.one ho.sl|exact isSl.one m7.sl|exact isSl.one ha.sl|exact isSl.one hf.sl|exact isSl.one hg.sl|exact isSl.one (hg.ext hx).sl|exact isSl.one (hf.ext hx).sl|exact isSl.one (ha.ext hx).sl)))))))))))
  try dsimp only [Xal,List.set,List.take,List.drop]at m3
  try replace m1:=m1.mo x26
  try replace m2:=m2.mo x26
  try replace ho:=ho.mod x26 (by first|assumption|(intro k hk h;have h1:=(ho.lt k hk).1;have h2:k=b3:=h;omega)|(intro k hk h;have h1:=o3_ho k hk;have h2:k=b3:=h;omega)|(intro h;have h2:_=b3:=h;omega)|(intro hl h;have h1:=a3_ho hl;have h2:_=b3:=h;omega))
  try replace m7:=m7.mo x26
  replace hx:=hx.o1 x26
  refine de Z31 (wr (df 1 rfl (dl rfl (m3.at rfl) (dq (Xac (k:=5) kr9 rfl rfl m7.row) (li (e:=62) (sz:=5) (zs:=[.int .i64 0,.int .i64 0,.int .i64 0,S [],S []]) (pv:=[(0,.agg ⟨[_,_,_,_,_]⟩)]) (cs:=[_,_,_,_,_]) RX.all (λb8 w27 e8 x27 m8=>?_))))))
  have g8:=hx.ge e8
  have n8_1:=m1.ltb e8
  have n8_2:=m2.ltb e8
  have n8_3:=m3.ltb e8
  have n8_7:=m7.ltb e8
  have o8_ho:=ho.ltb e8
  replace m1:=m1.ext x27
  replace m2:=m2.ext x27
  replace m3:=m3.ext x27
  replace ho:=ho.ext x27
  replace m7:=m7.ext x27
  replace hx:=hx.trans x27
  refine Xa6 (lx:=[f]) (e:=62) (sz:=5) (by':=56) rfl kr9 kr9 ir9 ho (m8.arr (enc:=Fi.cs) (sz:=5) (l:=[f]) rfl ir9 rfl (Nat.le_of_ble_eq_true rfl)) rfl rfl (by intro x _ u hu;simp at hu;rcases hu with rfl|rfl|rfl|rfl|rfl<;>rfl) (by simp;omega) dc9 hx.size (.inl rfl) (λvp w28 ho_n x28=>?_)
  try replace m1:=m1.mod x28 (by first|(intro h;have h2:b1=b1:=Option.some.inj h;omega)|(intro h;have h1:=(ho.lt _ h).1;omega)|(intro h;have h1:=o1_ho _ h;omega)|(intro h;exact ho.ne_blk m1 rfl h))
  try replace m2:=m2.mod x28 (by first|(intro h;have h2:b2=b2:=Option.some.inj h;omega)|(intro h;have h1:=(ho.lt _ h).1;omega)|(intro h;have h1:=o2_ho _ h;omega)|(intro h;exact ho.ne_blk m2 rfl h))
  try replace m3:=m3.mod x28 (by first|(intro h;have h2:b3=b3:=Option.some.inj h;omega)|(intro h;have h1:=(ho.lt _ h).1;omega)|(intro h;have h1:=o3_ho _ h;omega)|(intro h;exact ho.ne_blk m3 rfl h))
  try replace m7:=m7.mod x28 (by first|(intro h;have h2:b7=b7:=Option.some.inj h;omega)|(intro h;have h1:=(ho.lt _ h).1;omega)|(intro h;have h1:=o7_ho _ h;omega)|(intro h;exact ho.ne_blk m7 rfl h))
  replace hx:=hx.own x28 (λi hi=>(ho.lt i hi).1)
  replace ho:=ho_n
  have hne3:∀k,vp.ownBlock=some k->¬ oneB b3 k:=λk hk e=>ho.ne_blk m3 rfl (hk.trans (congrArg some e))
  clear m8
  refine df 1 rfl (st1 m3 (λw29 x29 xs29 m3=>?_) (hv:=by first|rfl|exact isSl.one m1.sl|exact isSl.one m2.sl|exact isSl.one ho.sl|exact isSl.one m7.sl|exact isSl.one ha.sl|exact isSl.one hf.sl|exact isSl.one hg.sl|exact isSl.one (hg.ext hx).sl|exact isSl.one (hf.ext hx).sl|exact isSl.one (ha.ext hx).sl))
  try dsimp only [Xal,List.set,List.take,List.drop]at m3
  try replace m1:=m1.mo x29
  try replace m2:=m2.mo x29
  try replace ho:=ho.mod x29 (by first|assumption|(intro k hk h;have h1:=(ho.lt k hk).1;have h2:k=b3:=h;omega)|(intro k hk h;have h1:=o3_ho k hk;have h2:k=b3:=h;omega)|(intro h;have h2:_=b3:=h;omega)|(intro hl h;have h1:=a3_ho hl;have h2:_=b3:=h;omega))
  replace hx:=hx.o1 x29
  refine de Z26 (wr (pa rfl rfl (dm (Xae (?_)))))
  rw[←Xwm hk]at m3
  rw[List.append_assoc,←Xa0 hk]at ho
  exact⟨(j+1,vp),zz5,⟨hx,m1,m2,by omega,λq hq=>(by rw[Xa0 hk]at hq;rcases List.mem_append.1 hq with h|h;exact hA q h;rw[List.mem_singleton.1 h];omega),m3,ho⟩,by simp only [];omega⟩
 have hne2:∀k,vb.ownBlock=some k->¬ oneB b2 k:=λk hk e=>ho.ne_blk m2 rfl (hk.trans (congrArg some e))
 have hkl9:=Xlo fs gone fs.length
 rw[List.take_length]at hkl9
 rw[List.take_of_length_le om9]at ho m3 hA
 refine Xah (Z22 _ _ (ws λ_ Z32=>wr (df 1 rfl (dl rfl (m3.at rfl) (cD (X8t _ vb w.heap.size 175 cmpF _ ho (by simp;omega) kr9 (λw2 x y=>Xvr x y w2) X94) (.inl rfl) λu30 w30 x30 hf30=>?_)))))
 have hsz30:=hx.size
 replace m2:=m2.mod x30 (λe=>ho.ne_blk m2 rfl e)
 replace m3:=m3.mod x30 (λe=>ho.ne_blk m3 rfl e)
 replace hx:=hx.own x30 (λi hi=>(ho.lt i hi).1)
 obtain⟨rfl,l2,ho,hp2,hu2⟩:=hf30
 have hpl2:=hp2.length_eq
 rw[List.length_append]at hpl2
 refine de Z32 (ws λ_ Z33=>ws λ_ Z34=>wr (dq (Xac (k:=2) kr9 rfl rfl m3.row) (cP (Xzl (Xcb n add) l2 vb _ (ho.arr ir9) om9 (λf hf2=>(List.mem_append.1 (hp2.mem_iff.1 hf2)).elim (λh=>hid f (List.mem_filter.1 h).1) (had f))) RX.all λw31 x31=>?_)))
 replace m2:=m2.ext x31
 replace m3:=m3.ext x31
 replace ho:=ho.ext x31
 replace hx:=hx.trans x31
 refine dn (de Z34 ?_)
 refine wc (λc9=>?_) λc9=>?_
 ·refine ws λ_ Z35=>wr (db (zs:=[.int .i64 0,.slice none 0 0]) (pl:=[(0,1),(1,1)]) (pv:=[]) (cs:=[.int .i64 0,.slice none 0 0]) ?_)
  refine stA m2 (λw32 x32 xs32 m2=>?_)
  try dsimp only [Xal,List.set,List.take,List.drop]at m2
  try replace m3:=m3.mo x32
  try replace ho:=ho.mod x32 (by first|assumption|(intro k hk h;have h1:=(ho.lt k hk).1;have h2:k=b2:=h;omega)|(intro k hk h;have h1:=o2_ho k hk;have h2:k=b2:=h;omega)|(intro h;have h2:_=b2:=h;omega)|(intro hl h;have h1:=a2_ho hl;have h2:_=b2:=h;omega))
  replace hx:=hx.o1 x32
  refine da (de Z35 (Xad ?_))
  refine Xau (u:=?v52) rfl rfl rfl rfl kr9 rfl m2.row ?h52 ?k52
  case h52=>conv=>lhs;whnf
  exact⟨_,rfl,hx,.inr ⟨Xlq hV hgo hA,l2,hp2,hu2,.inl ⟨by simpa using c9,rfl⟩⟩⟩
 refine Xaa (Z33 _ _ (ws λ_ Z36=>wr (dq (Xac (k:=2) kr9 rfl rfl m3.row) (stA m2 (λw33 x33 xs33 m2=>?_) (h1:=by(intro u hu;rcases List.mem_cons.1 hu with e|hu;subst e;rfl;rw[List.mem_singleton.1 hu];exact ho.sl.one))))))
 try dsimp only [Xal,List.set,List.take,List.drop]at m2
 try replace ho:=ho.mod x33 (by first|assumption|(intro k hk h;have h1:=(ho.lt k hk).1;have h2:k=b2:=h;omega)|(intro k hk h;have h1:=o2_ho k hk;have h2:k=b2:=h;omega)|(intro h;have h2:_=b2:=h;omega)|(intro hl h;have h1:=a2_ho hl;have h2:_=b2:=h;omega))
 replace hx:=hx.o1 x33
 refine da (de Z36 (Xad ?_))
 refine Xau (u:=?v55) rfl rfl rfl rfl kr9 rfl m2.row ?h55 ?k55
 case h55=>conv=>lhs;whnf
 exact⟨_,rfl,hx,.inr ⟨Xlq hV hgo hA,l2,hp2,hu2,.inr ⟨by simpa using c9,vb,rfl,ho⟩⟩⟩
end Go.Proofs.YtiooodckiddpmaaGreatDoor
namespace Go.Sp
open Go.Vc (Str)
def Uniq (l:List Cell):Prop:=∀c∈l,∀d∈l,c.key=d.key->c.seq=d.seq->c=d
def Top (l:List Cell)(c:Cell):Prop:=c∈l∧∀d∈l,d.key=c.key->d.seq≤c.seq
theorem Xho (k:Str):∀l:List Cell,(∀c∈l,c.key≠k)∨∃c,Top l c∧c.key=k
 | []=>.inl λc hc=>by cases hc
 | a :: r=>by
  by_cases e:a.key=k
  ·right
   rcases Xho k r with h|⟨c,h,hk⟩
   ·refine⟨a,⟨List.mem_cons_self,λd hd he=>?_⟩,e⟩
    rcases List.mem_cons.1 hd with rfl|hd
    ·exact Int.le_refl _
    ·exact absurd (he.trans e) (h d hd)
   ·by_cases hs:a.seq≤c.seq
    ·refine⟨c,⟨List.mem_cons_of_mem _ h.1,λd hd he=>?_⟩,hk⟩
     rcases List.mem_cons.1 hd with rfl|hd
     ·exact hs
     ·exact h.2 d hd he
    ·refine⟨a,⟨List.mem_cons_self,λd hd he=>?_⟩,e⟩
     rcases List.mem_cons.1 hd with rfl|hd
     ·exact Int.le_refl _
     ·have:=h.2 d hd (he.trans (e.trans hk.symm));omega
  ·rcases Xho k r with h|⟨c,h,hk⟩
   ·left
    intro c hc
    rcases List.mem_cons.1 hc with rfl|hc
    ·exact e
    ·exact h c hc
   ·right
    refine⟨c,⟨List.mem_cons_of_mem _ h.1,λd hd he=>?_⟩,hk⟩
    rcases List.mem_cons.1 hd with rfl|hd
    ·exact absurd (he.trans hk) e
    ·exact h.2 d hd he
def Xg2 (a b:Cell):Bool:=decide (a.key=b.key)
def Mg (l m:List Cell):Prop:=∃l':List Cell,l'.Perm l∧Up less l'∧m=Xfp Xg2 l'
theorem Xz4 {x p:Cell}(h:less x p=false)(hk:¬ x.key=p.key):sLt p.key x.key=true:=by
 rcases Xbp x.key p.key with e|e|e
 ·exact absurd e hk
 ·have:less x p=true:=(Xbq x p).2 (.inl e)
  rw[this]at h;cases h
 ·exact e
theorem Xrj {x p:Cell}(h:less x p=false)(hk:x.key=p.key):x.seq≤p.seq:=by
 refine Int.not_lt.1 λhlt=>?_
 have:less x p=true:=(Xbq x p).2 (.inr ⟨hk,hlt⟩)
 rw[this]at h;cases h
theorem Xnk : ∀(r:List Cell) (p:Cell),Up less (p :: r)->Uniq (p :: r)->(KUp (Xfa Xg2 p r)∧(∀c∈Xfa Xg2 p r,sLt p.key c.key=true))∧∀c,c∈Xfa Xg2 p r↔(c.key≠p.key∧Top r c)
 | [],p,_,_=>⟨⟨List.Pairwise.nil,λc hc=>(by cases hc)⟩,λc=>⟨λhc=>(by cases hc),λhc=>(by cases hc.2.1)⟩⟩
 | x :: r,p,hu,hq=>by
  have hu1:Up less (x :: r):=(List.pairwise_cons.1 hu).2
  have hxp:=(List.pairwise_cons.1 hu).1 x List.mem_cons_self
  obtain⟨⟨i1,i2⟩,i3⟩:=Xnk r x hu1 (λc hc d hd=>hq c (List.mem_cons_of_mem _ hc) d (List.mem_cons_of_mem _ hd))
  have htop:∀c:Cell,c.key≠x.key->(Top (x :: r) c↔Top r c):=λc hc=>by
   constructor
   ·rintro ⟨h1,h2⟩
    rcases List.mem_cons.1 h1 with rfl|h1
    ·exact absurd rfl hc
    ·exact⟨h1,λd hd=>h2 d (List.mem_cons_of_mem _ hd)⟩
   ·rintro ⟨h1,h2⟩
    refine⟨List.mem_cons_of_mem _ h1,λd hd he=>?_⟩
    rcases List.mem_cons.1 hd with rfl|hd
    ·exact absurd he.symm hc
    ·exact h2 d hd he
  unfold Xfa
  by_cases e:x.key=p.key
  ·rw[if_pos (show Xg2 x p=true by simpa [Xg2]using e)]
   refine⟨⟨i1,λc hc=>e▸i2 c hc⟩,λc=>?_⟩
   rw[i3 c,←e]
   constructor
   ·rintro ⟨h1,h2⟩;exact⟨h1,(htop c h1).2 h2⟩
   ·rintro ⟨h1,h2⟩;exact⟨h1,(htop c h1).1 h2⟩
  ·rw[if_neg (show¬ Xg2 x p=true by simpa [Xg2]using e)]
   have hpx:=Xz4 hxp e
   refine⟨⟨List.pairwise_cons.2 ⟨i2,i1⟩,λc hc=>?_⟩,λc=>?_⟩
   ·rcases List.mem_cons.1 hc with rfl|hc
    ·exact hpx
    ·exact Xbg _ _ _ hpx (i2 c hc)
   ·have hxt:Top (x :: r) x:=⟨List.mem_cons_self,λd hd he=>by
     rcases List.mem_cons.1 hd with rfl|hd
     ·exact Int.le_refl _
     ·exact Xrj ((List.pairwise_cons.1 hu1).1 d hd) he⟩
    constructor
    ·intro hc
     rcases List.mem_cons.1 hc with rfl|hc
     ·exact⟨e,hxt⟩
     ·have h1:=(i3 c).1 hc
      exact⟨λe2=>(by have:=Xbg _ _ _ hpx (i2 c hc);rw[e2,Xa1]at this;cases this),(htop c h1.1).2 h1.2⟩
    ·rintro ⟨h1,h2⟩
     by_cases e2:c.key=x.key
     ·have:c=x:=hq c (List.mem_cons_of_mem _ h2.1) x (List.mem_cons_of_mem _ List.mem_cons_self) e2 (by
       have g1:=h2.2 x List.mem_cons_self e2.symm
       have g2:=hxt.2 c h2.1 e2
       omega)
      rw[this];exact List.mem_cons_self
     ·exact List.mem_cons_of_mem _ ((i3 c).2 ⟨e2,(htop c e2).1 h2⟩)
theorem Xrk {l m:List Cell}(hq:Uniq l)(h:Mg l m):KUp m∧∀c,c∈m↔Top l c:=by
 obtain⟨l',hp,hu,rfl⟩:=h
 have ht:∀c,Top l c↔Top l' c:=λc=>by
  unfold Top
  constructor
  ·rintro ⟨h1,h2⟩;exact⟨hp.mem_iff.2 h1,λd hd=>h2 d (hp.mem_iff.1 hd)⟩
  ·rintro ⟨h1,h2⟩;exact⟨hp.mem_iff.1 h1,λd hd=>h2 d (hp.mem_iff.2 hd)⟩
 have hq':Uniq l':=λc hc d hd=>hq c (hp.mem_iff.1 hc) d (hp.mem_iff.1 hd)
 suffices hs:KUp (Xfp Xg2 l')∧∀c,c∈Xfp Xg2 l'↔Top l' c from⟨hs.1,λc=>(hs.2 c).trans (ht c).symm⟩
 clear ht hp hq
 cases l' with
 | nil=>exact⟨List.Pairwise.nil,λc=>⟨λhc=>(by cases hc),λhc=>(by cases hc.1)⟩⟩
 | cons x r=>
  obtain⟨⟨i1,i2⟩,i3⟩:=Xnk r x hu hq'
  refine⟨List.pairwise_cons.2 ⟨i2,i1⟩,λc=>?_⟩
  have hxt:Top (x :: r) x:=⟨List.mem_cons_self,λd hd he=>by
   rcases List.mem_cons.1 hd with rfl|hd
   ·exact Int.le_refl _
   ·exact Xrj ((List.pairwise_cons.1 hu).1 d hd) he⟩
  unfold Xfp
  constructor
  ·intro hc
   rcases List.mem_cons.1 hc with rfl|hc
   ·exact hxt
   ·have h1:=(i3 c).1 hc
    refine⟨List.mem_cons_of_mem _ h1.2.1,λd hd he=>?_⟩
    rcases List.mem_cons.1 hd with rfl|hd
    ·exact absurd he.symm h1.1
    ·exact h1.2.2 d hd he
  ·intro h2
   by_cases e2:c.key=x.key
   ·have:c=x:=hq' c h2.1 x List.mem_cons_self e2 (by
     have g1:=h2.2 x List.mem_cons_self e2.symm
     have g2:=hxt.2 c h2.1 e2
     omega)
    rw[this];exact List.mem_cons_self
   ·refine List.mem_cons_of_mem _ ((i3 c).2 ⟨e2,?_⟩)
    rcases List.mem_cons.1 h2.1 with rfl|h1
    ·exact absurd rfl e2
    ·exact⟨h1,λd hd=>h2.2 d (List.mem_cons_of_mem _ hd)⟩
def Told (l:List Cell)(M:List Rw):Prop:=(M.Pairwise λa b=>sLt a.key b.key=true)∧∀r,r∈M↔∃c,Top l c∧c.del=false∧r=⟨c.key,c.val,false⟩
def Xwn (m:List Cell):List Rw:=(m.filter λc=>!c.del).map λc=>⟨c.key,c.val,false⟩
theorem X95 {l m:List Cell}(hq:Uniq l)(h:Mg l m):Told l (Xwn m):=by
 obtain⟨h1,h2⟩:=Xrk hq h
 refine⟨?_,λr=>?_⟩
 ·unfold Xwn
  rw[List.pairwise_map]
  exact List.Pairwise.imp (λh=>h) (List.Pairwise.filter _ h1)
 ·unfold Xwn
  simp only [List.mem_map,List.mem_filter,Bool.not_eq_true']
  constructor
  ·rintro ⟨c,⟨hc,hd⟩,rfl⟩;exact⟨c,(h2 c).1 hc,hd,rfl⟩
  ·rintro ⟨c,hc,hd,rfl⟩;exact⟨c,⟨(h2 c).2 hc,hd⟩,rfl⟩
theorem Xlr {l l':List Cell}{M:List Rw}(h:Told l M)(hs:∀c∈l',c∈l)(hk:∀c,Top l c->c∈l'∨(c.del=true∧∀d∈l',d.key≠c.key)):Told l' M:=by
 refine⟨h.1,λr=>?_⟩
 rw[h.2 r]
 constructor
 ·rintro ⟨c,hc,hd,rfl⟩
  rcases hk c hc with h1|⟨h1,_⟩
  ·exact⟨c,⟨h1,λd hd he=>hc.2 d (hs d hd) he⟩,hd,rfl⟩
  ·rw[h1]at hd;cases hd
 ·rintro ⟨c,hc,hd,rfl⟩
  rcases Xho c.key l with h1|⟨t,ht,htk⟩
  ·exact absurd rfl (h1 c (hs c hc.1))
  ·rcases hk t ht with h2|⟨_,h2⟩
   ·refine⟨c,⟨hs c hc.1,λd hd he=>?_⟩,hd,rfl⟩
    have g1:=ht.2 d hd (he.trans htk.symm)
    have g2:=hc.2 t h2 htk
    omega
   ·exact absurd htk.symm (h2 c hc.1)
def layC (M:List Rw)(c:Cell):List Rw:=(M.filter λr=>sLt r.key c.key)++((if c.del then[]else[⟨c.key,c.val,false⟩])++M.filter λr=>sLt c.key r.key)
theorem Xwo {l:List Cell}{M:List Rw}{c:Cell}(h:Told l M)(hn:∀d∈l,d.key=c.key->d.seq<c.seq):Told (c :: l) (layC M c):=by
 have htop:∀d:Cell,Top (c :: l) d↔(d=c∨(d.key≠c.key∧Top l d)):=λd=>by
  constructor
  ·rintro ⟨h1,h2⟩
   rcases List.mem_cons.1 h1 with rfl|h1
   ·exact .inl rfl
   ·refine .inr ⟨λe=>?_,h1,λx hx=>h2 x (List.mem_cons_of_mem _ hx)⟩
    have g1:=h2 c List.mem_cons_self e.symm
    have g2:=hn d h1 e
    omega
  ·rintro (rfl|⟨h1,h2⟩)
   ·refine⟨List.mem_cons_self,λx hx he=>?_⟩
    rcases List.mem_cons.1 hx with rfl|hx
    ·exact Int.le_refl _
    ·have:=hn x hx he;omega
   ·refine⟨List.mem_cons_of_mem _ h2.1,λx hx he=>?_⟩
    rcases List.mem_cons.1 hx with rfl|hx
    ·exact absurd he.symm h1
    ·exact h2.2 x hx he
 refine⟨?_,λr=>?_⟩
 ·unfold layC
  refine List.pairwise_append.2 ⟨List.Pairwise.filter _ h.1,List.pairwise_append.2 ⟨?_,List.Pairwise.filter _ h.1,λx hx y hy=>?_⟩,λx hx y hy=>?_⟩
  ·split
   ·exact List.Pairwise.nil
   ·exact List.pairwise_singleton _ _
  ·split at hx
   ·cases hx
   ·rw[List.mem_singleton.1 hx];exact(List.mem_filter.1 hy).2
  ·have hxk:=(List.mem_filter.1 hx).2
   rcases List.mem_append.1 hy with hy|hy
   ·split at hy
    ·cases hy
    ·rw[List.mem_singleton.1 hy];exact hxk
   ·exact Xbg _ _ _ hxk (List.mem_filter.1 hy).2
 ·have hM:r∈layC M c↔((r∈M∧r.key≠c.key)∨(c.del=false∧r=⟨c.key,c.val,false⟩)):=by
   unfold layC
   simp only [List.mem_append,List.mem_filter]
   constructor
   ·rintro (⟨h1,h2⟩|h1|⟨h1,h2⟩)
    ·exact .inl ⟨h1,Xiq h2⟩
    ·split at h1
     ·cases h1
     ·rename_i h9;exact .inr ⟨by simpa using h9,List.mem_singleton.1 h1⟩
    ·exact .inl ⟨h1,(Xiq h2).symm⟩
   ·rintro (⟨h1,h2⟩|⟨h1,rfl⟩)
    ·rcases Xbp r.key c.key with e|e|e
     ·exact absurd e h2
     ·exact .inl ⟨h1,e⟩
     ·exact .inr (.inr ⟨h1,e⟩)
    ·right;left;rw[if_neg (by rw[h1];decide)];exact List.mem_singleton.2 rfl
  rw[hM,h.2 r]
  constructor
  ·rintro (⟨⟨d,hd,h1,rfl⟩,h2⟩|⟨h1,rfl⟩)
   ·exact⟨d,(htop d).2 (.inr ⟨h2,hd⟩),h1,rfl⟩
   ·exact⟨c,(htop c).2 (.inl rfl),h1,rfl⟩
  ·rintro ⟨d,hd,h1,rfl⟩
   rcases(htop d).1 hd with rfl|⟨h2,h3⟩
   ·exact .inr ⟨h1,rfl⟩
   ·exact .inl ⟨⟨d,h3,h1,rfl⟩,h2⟩
theorem Xkp {l l':List Cell}{M:List Rw}(h:Told l M)(he:∀c,c∈l↔c∈l'):Told l' M:=
 Xlr h (λc hc=>(he c).2 hc) λc hc=>.inl ((he c).1 hc.1)
theorem Xnl : ∀(cs:List Cell) {l:List Cell} {M:List Rw},Told l M->KUp cs->(∀d∈l,∀c∈cs,d.key=c.key->d.seq<c.seq)->Told (cs++l) (cs.foldl layC M)
 | [],l,M,h,_,_=>h
 | c :: cs,l,M,h,hk,hn=>by
  rw[KUp,List.pairwise_cons]at hk
  have h1:=Xwo (c:=c) h (λd hd=>hn d hd c List.mem_cons_self)
  have h2:=Xnl cs h1 hk.2 λd hd x hx he=>by
   rcases List.mem_cons.1 hd with rfl|hd
   ·have:=hk.1 x hx;rw[he,Xa1]at this;cases this
   ·exact hn d hd x (List.mem_cons_of_mem _ hx) he
  refine Xkp h2 λx=>?_
  simp only [List.mem_append,List.mem_cons]
  constructor
  ·rintro (h|h|h)
   ·exact .inl (.inr h)
   ·exact .inl (.inl h)
   ·exact .inr h
  ·rintro ((h|h)|h)
   ·exact .inr (.inl h)
   ·exact .inl h
   ·exact .inr (.inr h)
end Go.Sp
namespace Go.Vc
open Go.RowKit
section
variable {α:Type}{enc:α->List Value}{sz T B:Nat}{w:World}
variable {P:Program}{n:Nat}{E:Env}{ds:List (Option Tmp)}{R:World->World->Prop}{rs:List (Oper×Fl×Bool)}{K:Env->World->Prop}{d:Nat}{pos:String}{af:Array Edge}{g:Option (Nat×Bool)}{anc:Bool}{ty:TypeId}
theorem Xwp {s x:Operand}{t ti e by' m:Nat}(henc:∀x,(enc x).length=sz)(hg:Xao ds E g=true)(ht:Xco P t=some (e,sz))(hE:Xr3 P e sz by'=true)(hti:intK P ti=some .i64)
  (hs:ev E s=.slice none 0 0) (hx:ev E x=I ↑m) (hm:0<m) (hbytes:m*by'≤140737488355328) (hby:1≤by') (hB:B≤w.heap.size) (hR:RX R anc)
  (h:∀v' w',isSl v' m->Own enc sz e B w' (slV sz v' 0 0) []->Ext w w'->Dw P n ds R rs K (upd E d v') w') :
  Dw P n ds R ((⟨some d,.call { callee:=.builtin .append,args:=#[s,x],argTypes:=#[t,ti] },ty,pos,af,g⟩,.x,anc) :: rs) K E w:=by
 obtain⟨hu,_⟩:=Xbb ht
 obtain⟨i,z,hi,hz,hsize,hby',hzs,hsz⟩:=Xff hE
 have hint:P.underlying ti=some (.int .i64):=by
  unfold intK at hti
  split at hti
  ·rename_i k hk;cases hti;exact hk
  ·cases hti
 have hml:m≤140737488355328:=by have:=Nat.mul_le_mul_left m hby;omega
 have hwr:IntKind.i64.wrap (m:Int)=m:=Xcx (by unfold Xai;omega)
 have h0:¬ ((m:Int)<0):=by omega
 have hbig:¬ (281474976710656<(m:Int)*(i.bytes:Int)):=by
  rw[hby']
  have:((m*by':Nat):Int)≤140737488355328:=by omega
  rw[Int.natCast_mul]at this;omega
 have hn:m≠0:=by omega
 have h63:¬ (9223372036854775807<(m:Int)):=by omega
 have h48:¬ (281474976710656<Builtin.nextslicecap m 0*i.bytes):=by rw[nextslicecap_zero hm,hby'];omega
 have hms:¬ m*i.size=0:=by rw[hsize];exact Nat.ne_of_gt (Nat.mul_pos hm hsz)
 have hsz0:¬ i.size=0:=by omega
 have hcm:grownCap w m 0 e≤maxLen:=grownCap_le_maxLen w m 0 e (by unfold maxLen;omega)
 have hge:=grownCap_ge w m 0 e
 have hr:(Builtin.append_ #[t,ti] ty #[.slice none 0 0,I ↑m]).run P w=.ok (.slice (some ⟨w.heap.size,0,none⟩) m (grownCap w m 0 e)) (w.drew.alloc (.cells (Builtin.zeroCells z.cells m++Builtin.zeroCells z.cells (grownCap w m 0 e-m)) e)):=by
  simp [Builtin.append_,run_underlying hu,run_underlying hint,sizeOf,typeInfo,zeroValue,hi,hz,hn,h63,h48,Question.forced,run_firstCells_none,newRow,grownCap,asInt,asIntOf,hwr,h0,hbig,hms,hsz0]
 have hx1:Ext w (w.drew.alloc (.cells (Builtin.zeroCells z.cells m++Builtin.zeroCells z.cells (grownCap w m 0 e-m)) e)):=Ext.trans (Ext.drew _) (Ext.alloc _ _)
 refine Xhz (v:=.slice (some ⟨w.heap.size,0,none⟩) m (grownCap w m 0 e)) (w':=_) hg ?_ (hR.use hx1) (h _ _ (.inr (.inl ⟨_,_,_,rfl,hge⟩)) ?_ hx1)
 ·simp only [execOp,resolve,invoke,builtin,Sem.run_bind,Sem.run_pure,Result.andThen_ok,List.map_toArray,List.map_cons,List.map_nil,hs,hx,hr]
 ·refine⟨by simp,.inr ⟨w.heap.size,grownCap w m 0 e,Builtin.zeroCells z.cells m++Builtin.zeroCells z.cells (grownCap w m 0 e-m),?_,hB,?_,Nat.zero_le _,hcm,?_,by simp⟩⟩
  ·simp [slV,Addr.add]
  ·exact heap_alloc_new w.drew _
  ·simp only [Array.size_append,size_zeroCells,hzs,←Nat.add_mul]
   congr 1;omega
end
end Go.Vc
namespace Go.Proofs.YtiooodckiddpmaaGreatDoor
open Go.Vc Go.Sp
attribute [local irreducible] W XW Dw DwT
def cmpC (a b:Cell):Int:=if less a b=true then -1 else if less b a=true then 1 else 0
theorem Xwq : ltC cmpC=less:=by
 funext a b
 unfold ltC cmpC
 cases h:less a b with
 | true=>simp
 | false=>
  cases h2:less b a with
  | true=>simp
  | false=>simp
theorem Xz5 : Ord less:=⟨λx y z h1 h2=>(by
 cases h:less z x with
 | false=>rfl
 | true=>
  cases h3:less x y with
  | true=>rw[Xde h h3]at h2;cases h2
  | false=>
   have ht:=Xk4 h1 h3
   have:=Xbq z x
   rw[h]at this
   have h4:less z y=true:=(Xbq z y).2 (by
    rcases this.1 rfl with e|⟨e1,e2⟩
    ·exact .inl (by rw[ht.1];exact e)
    ·exact .inr ⟨e1.trans ht.1.symm,by omega⟩)
   rw[h4]at h2;cases h2),λx y h=>Xr4 h⟩
theorem X5f : Ord (ltC cmpC):=Xwq▸Xz5
@[reducible] def encQ (q:Value×List Cell):List Value:=[q.1]
theorem Xnm {qs:List (Value×List Cell)}{k:Nat}{q:Value×List Cell}(h:qs[k]?=some q):(qs.take (k+1)).flatMap (·.2)=(qs.take k).flatMap (·.2)++q.2:=by
 obtain⟨hk,rfl⟩:=List.getElem?_eq_some_iff.1 h
 rw[List.take_succ_eq_append_getElem hk,List.flatMap_append];simp
theorem Xpf (qs:List (Value×List Cell))(k:Nat):((qs.take k).flatMap (·.2)).length≤(qs.flatMap (·.2)).length:=by
 have h:=congrArg (λm=>(m.flatMap (·.2)).length) (List.take_append_drop k qs)
 simp only [List.flatMap_append,List.length_append]at h
 omega
theorem Xwr {l cur:List Cell}{k i n:Nat}(hc:cur.length=l.length)(he:∀j,n≤j+1->cur[j]?=l[j]?)(hi:n≤k+i+1):((cur.take l.length).drop k)[i]?=l[k+i]?:=by
 rw[←hc,List.take_length,List.getElem?_drop,he _ hi]
theorem X96 (a b:Cell)(w:World) :
  Calls Tryz.prog 98 [a.v,b.v].toArray w (Pure w (I (cmpC a b))):=by
 refine cw Tryz.func98 ?_
 have hx:=Ext.refl w
 refine ws λ_ Z1=>wr (Xbf rfl rfl rfl RX.all (λb1 w1 e1 x1 m1=>?_))
 have g1:=hx.ge e1
 replace hx:=hx.trans x1
 refine Xbf rfl rfl rfl RX.all (λb2 w2 e2 x2 m2=>?_)
 have g2:=hx.ge e2
 have n2_1:=m1.ltb e2
 replace m1:=m1.ext x2
 replace hx:=hx.trans x2
 refine da (de Z1 (ws λ_ Z2=>Xab (ws λ_ Z3=>wr ?_)))
 refine dq (Xac (k:=4) kr9 rfl rfl m1.row) (dq (Xac (k:=4) kr9 rfl rfl m2.row) (cP (Xkf a b _) RX.all λw3 x3=>?_))
 replace m1:=m1.ext x3
 replace m2:=m2.ext x3
 replace hx:=hx.trans x3
 refine da (de Z3 ?_)
 refine wc (λc1=>?_) λc1=>?_
 ·refine ws λ_ Z4=>wr (da (de Z4 (Xad ?_)))
  refine ro ?_
  refine⟨?_,hx⟩
  unfold cmpC;rw[if_pos c1]
 refine ws λ_ Z5=>wr (dq (Xac (k:=4) kr9 rfl rfl m2.row) (dq (Xac (k:=4) kr9 rfl rfl m1.row) (cP (Xkf b a _) RX.all λw4 x4=>?_)))
 replace hx:=hx.trans x4
 refine da (de Z5 ?_)
 refine wc (λc2=>?_) λc2=>?_
 ·refine ws λ_ Z6=>wr (da (de Z6 (Xad ?_)))
  refine ro ?_
  refine⟨?_,hx⟩
  unfold cmpC;rw[if_neg (by rw[c1];decide),if_pos c2]
 refine Xaa (Z2 _ _ (ws λ_ Z7=>wr (da (de Z7 (Xad ?_)))))
 refine ro ?_
 refine⟨?_,hx⟩
 unfold cmpC;rw[if_neg (by rw[c1];decide),if_neg (by rw[c2];decide)]
theorem X97 (a b:Cell)(w:World) :
  Calls Tryz.prog 101 [a.v,b.v].toArray w (Pure w (B (Xg2 a b))):=by
 refine cw Tryz.func101 ?_
 have hx:=Ext.refl w
 refine ws λ_ Z1=>wr (Xbf rfl rfl rfl RX.all (λb1 w1 e1 x1 m1=>?_))
 have g1:=hx.ge e1
 replace hx:=hx.trans x1
 refine Xbf rfl rfl rfl RX.all (λb2 w2 e2 x2 m2=>?_)
 have g2:=hx.ge e2
 have n2_1:=m1.ltb e2
 replace m1:=m1.ext x2
 replace hx:=hx.trans x2
 refine da (de Z1 (ws λ_ Z2=>wr ?_))
 refine df 0 rfl (dl rfl (m1.at rfl) (df 0 rfl (dl rfl (m2.at rfl) (dp (Xj3 rfl rfl) (da (de Z2 (Xad ?_)))))))
 refine ro ?_
 exact⟨rfl,hx⟩
theorem X5g (n:Nat)(w:World)(hn:n≤10000000) :
  Calls Tryz.prog 179 [.slice none 0 0,I ↑n].toArray w (Gives w (λu w'=>Vc.Own Cell.cs 4 79 w.heap.size w' u [])):=by
 refine cw Tryz.func179 ?_
 have hx:=Ext.refl w
 refine ws λ_ Z1=>wr (da (de Z1 (ws λ_ Z2=>ws λ_ Z3=>wr (dm ?_))))
 refine dp (Xaf rfl rfl) (de Z3 (wi (λc1=>?_) λc1=>?_))
 ·omega
 refine Xaa (Z2 _ _ (ws λ_ Z4=>ws λ_ Z5=>wr (dm (dm ?_))))
 refine dp (Xt5 (e:=79) (k:=4) kr9 rfl) (dm ?_)
 refine dp (Xk0 (e:=79) (k:=4) (n:=0) kr9 (.inl ⟨rfl,rfl⟩) rfl) (Xa2 (v:=I 0) rfl (Xay (a:=0) (b:=0) rfl rfl (by unfold Xai;omega)) rfl (Xa2 (v:=I ↑n) rfl (Xay rfl rfl (by unfold Xai;omega)) (by show I _=I _;first|rfl|(congr 1;omega)) (da (de Z5 (ws λ_ Z6=>wr (dm ?_))))))
 refine dp (Xaw rfl rfl) (de Z6 (wi (λc2=>?_) λc2=>?_))
 ·refine wr (dm (dm ?_))
  refine dp (Xt5 (e:=79) (k:=4) kr9 rfl) (Xa2 (v:=.slice none 0 0) rfl (Xc1 (e:=79) (k:=4) (m:=0) (a:=0) (b:=0) kr9 (.inl ⟨rfl,rfl⟩) rfl rfl rfl (Nat.le_refl 0) (Nat.le_refl 0)) rfl (dm ?_))
  refine Xwp (enc:=Cell.cs) (sz:=4) (e:=79) (m:=n) (by':=48) (B:=w.heap.size) ir9 rfl kr9 kr9 kr9 rfl rfl om9 om9 dc9 hx.size RX.all (λva w1 hsl ho x1=>?_)
  replace hx:=hx.trans x1
  refine dm ?_
  refine dp (Xk0 (e:=79) (k:=4) (n:=0) kr9 (.inl ⟨rfl,rfl⟩) rfl) (dp (Xc1 (e:=79) (k:=4) (a:=0) (b:=0) kr9 hsl rfl rfl rfl (Nat.le_refl 0) (Nat.zero_le _)) (da (de Z4 (ws λ_ Z7=>wr (dm (da (de Z7 (Xad ?_))))))))
  refine ro ?_
  exact⟨_,rfl,hx,ho⟩
 refine Xaa (Z4 _ _ (ws λ_ Z8=>wr (dm (da (de Z8 (Xad ?_))))))
 refine ro ?_
 exact⟨_,rfl,hx,Vc.Own.nil⟩
theorem Xws (qs:List (Value×List Cell))(v:Value)(w:World)(hv:Arr encQ 1 w v qs)(hq:∀q∈qs,Arr Cell.cs 4 w q.1 q.2)(hl:qs.length≤1000000)(htot:(qs.flatMap (·.2)).length≤10000000) :
  Calls Tryz.prog 96 [v].toArray w (Gives w (λu w'=>Vc.Own Cell.cs 4 79 w.heap.size w' u (qs.flatMap (·.2)))):=by
 refine cw Tryz.func96 ?_
 have hx:=Ext.refl w
 refine ws λ_ Z1=>wr (da (de Z1 (ws λ_ Z2=>wr (da (de Z2 (ws λ_ Z3=>ws λ_ Z4=>wr (dm ?_)))))))
 refine dv 95 1 (hv.ext hx).sl (dm (de Z4 (Xab ?_)))
 refine Xaj (G:=Nat) (λk=>[(0,v),(2,.slice none 0 0),(3,I ↑((qs.take k).flatMap (·.2)).length),(9,v),(10,I ↑qs.length),(11,I ↑k)]) (λk w'=>Ext w w'∧k≤qs.length) (λk=>qs.length-k) 0 ?_ ?_ ?_
 ·exact zz6
 ·exact⟨hx,Nat.zero_le _⟩
 intro X1 g1 w1 hF1
 revert hF1;revert g1;intro k hF1
 clear hx
 obtain⟨hx,hk1⟩:=hF1
 refine ws λ_ Z5=>wr (dp (Xaf rfl rfl) (de Z5 (ws λ_ Z6=>wi (λc1=>?_) λc1=>?_)))
 ·obtain⟨q,hk⟩:∃q,qs[k]?=some q:=gtE
  have hq2:=hq q (List.mem_of_getElem? hk)
  have hfs:=Xnm hk
  have hfl:=Xpf qs (k+1)
  have hfl0:=congrArg List.length hfs
  rw[List.length_append]at hfl0
  refine Xaa (Z6 _ _ (ws λ_ Z7=>Xab (ws λ_ Z8=>wr (di 95 1 hv.sl rfl (hv.lt hk) (dl rfl (((hv.ext hx).row hk).at0 rfl) (da (de Z8 (ws λ_ Z9=>wr (dm (dm ?_))))))))))
  refine dv 79 4 hq2.sl (Xa2 (v:=I ↑((qs.take (k+1)).flatMap (·.2)).length) rfl (Xa7 rfl rfl (by unfold Xai;omega)) (by show I _=I _;congr 1;omega) (da (de Z9 (ws λ_ Z10=>wr (dm ?_)))))
  refine dp (Xaf rfl rfl) (de Z10 (wi (λc2=>?_) λc2=>?_))
  ·omega
  refine Xaa (Z7 _ _ (wr (pa rfl rfl (dm (Xae (?_))))))
  exact⟨k+1,zz6,⟨hx,by omega⟩,by omega⟩
 refine Xah (Z3 _ _ (ws λ_ Z11=>wr (dm ?_)))
 refine cG (X5g ((qs.take k).flatMap (·.2)).length _ (Nat.le_trans (Xpf qs k) htot)) RX.all λvg w2 x2 ho0=>?_
 have hsz2:=hx.size
 replace hx:=hx.trans x2
 have ho:=ho0.mono hsz2
 refine da (de Z11 (ws λ_ Z12=>ws λ_ Z13=>wr (dm ?_)))
 refine dv 95 1 (hv.ext hx).sl (dm (de Z13 (Xab ?_)))
 refine Xaj (G:=Nat×Value) (λ(j,vb)=>[(2,.slice none 0 0),(6,vb),(25,v),(26,I ↑qs.length),(27,I ↑j)]) (λ(j,vb) w'=>Ext w w'∧j≤qs.length∧Vc.Own Cell.cs 4 79 w.heap.size w' vb ((qs.take j).flatMap (·.2))) (λ(j,vb)=>qs.length-j) (0,vg) ?_ ?_ ?_
 ·exact zz5
 ·exact⟨hx,Nat.zero_le _,by simpa using ho⟩
 intro X3 g3 w3 hF3
 obtain⟨j,vb⟩:=g3
 clear hx ho
 obtain⟨hx,hj1,ho⟩:=hF3
 refine ws λ_ Z14=>wr (dp (Xaf rfl rfl) (de Z14 (ws λ_ Z15=>wi (λc3=>?_) λc3=>?_)))
 ·obtain⟨q,hk⟩:∃q,qs[j]?=some q:=gtE
  have hq2:=hq q (List.mem_of_getElem? hk)
  have hfs:=Xnm hk
  have hfl:=Xpf qs (j+1)
  have hfl0:=congrArg List.length hfs
  rw[List.length_append]at hfl0
  refine Xaa (Z15 _ _ (ws λ_ Z16=>Xab (ws λ_ Z17=>wr (di 95 1 hv.sl rfl (hv.lt hk) (dl rfl (((hv.ext hx).row hk).at0 rfl) (da (de Z17 (wr (dm (dm ?_))))))))))
  refine Xa6 (lx:=q.2) (e:=79) (sz:=4) (by':=48) rfl kr9 kr9 ir9 ho ((hq2.ext hx)) rfl rfl (by intro x _ u hu;simp at hu;rcases hu with rfl|rfl|rfl|rfl<;>rfl) om9 dc9 hx.size (.inl rfl) (λvp w4 ho_n x4=>?_)
  replace hx:=hx.own x4 (λi hi=>(ho.lt i hi).1)
  replace ho:=ho_n
  refine da (de Z16 (wr ?_))
  refine pa rfl rfl (dm (Xae (?_)))
  rw[←hfs]at ho
  exact⟨(j+1,vp),zz5,⟨hx,by omega,ho⟩,by simp only [];omega⟩
 refine Xah (Z12 _ _ (ws λ_ Z18=>wr (dm (da (de Z18 (Xad ?_))))))
 refine ro ?_
 rw[List.take_of_length_le om9]at ho
 exact⟨_,rfl,hx,ho⟩
theorem X5h (l:List Cell)(v:Value)(Bo f:Nat)(p:Cell->Cell->Bool)(w:World)(ho:Vc.Own Cell.cs 4 79 Bo w v l)(hl:l.length≤10000000)(hcb:Xbw Tryz.prog f=true)(hc:∀w2 x y,Calls Tryz.prog f [Cell.v x,Cell.v y].toArray w2 (Pure w2 (B (p x y)))) :
  Calls Tryz.prog 100 [v,fnV f].toArray w (Does (λk=>v.ownBlock=some k) w (λu w'=>Vc.Own Cell.cs 4 79 Bo w' u (Xfp p l)∧u.ownBlock=v.ownBlock)):=by
 refine cw Tryz.func100 ?_
 have hx:=Vc.Mod.refl (λk=>v.ownBlock=some k) w
 have hvsl:=ho.sl
 refine ws λ_ Z1=>wr (da (de Z1 (ws λ_ Z2=>ws λ_ Z3=>wr (dm ?_))))
 refine dv 79 4 (ho.arr ir9).sl (dp (Xaf rfl rfl) (de Z3 (wi (λc1=>?_) λc1=>?_)))
 ·refine ws λ_ Z4=>wr (dm (da (de Z4 (Xad ?_))))
  refine ro ?_
  exact⟨_,rfl,hx,by rw[Xpb om9];exact ho,rfl⟩
 refine Xaa (Z2 _ _ (ws λ_ Z5=>ws λ_ Z6=>wr (da (de Z6 (Xab ?_)))))
 refine Xaj (G:=Nat) (λk=>[(0,v),(1,fnV f),(5,I ↑k)]) (λk w'=>Mod (λk=>v.ownBlock=some k) w w'∧1≤k∧k≤l.length∧Xfp p (l.take k)=l.take k∧Vc.Own Cell.cs 4 79 Bo w' v l) (λk=>l.length-k) 1 ?_ ?_ ?_
 ·exact zz3
 ·exact⟨hx,Nat.le_refl _,by omega,Xnh p l,ho⟩
 intro X1 g1 w1 hF1
 revert hF1;revert g1;intro k hF1
 clear hx ho
 obtain⟨hx,hk1,hkl,hcn,ho⟩:=hF1
 refine ws λ_ Z7=>ws λ_ Z8=>wr (dm (dm ?_))
 refine dv 79 4 (ho.arr ir9).sl (dp (Xaf rfl rfl) (de Z8 (wi (λc2=>?_) λc2=>?_)))
 ·obtain⟨x,hxk⟩:∃x,l[k]?=some x:=gtE
  obtain⟨y,hyk⟩:∃x,l[k-1]?=some x:=gtE
  refine Xaa (Z7 _ _ (ws λ_ Z9=>Xab (ws λ_ Z10=>Xaq (R:=Ext) Ext.refl (λ_ _ _=>Ext.trans) kr9 [4,9] [(0,.p,false),(1,.p,false),(2,.p,false),(3,.p,false),(4,.l,false),(5,.p,false),(6,.p,false),(7,.p,false),(8,.p,false),(9,.l,false),(10,.x,true)] rfl kr9 kr9 (λw2 ew2=>?_))))
  have x2:=drewx ew2
  clear ew2
  replace ho:=ho.ext x2
  replace hx:=hx.ext x2
  iterate 3 refine dm ?_
  refine di 79 4 (ho.arr ir9).sl rfl ((ho.arr ir9).lt hxk) (D_l rfl (λw' hR=>Xac kr9 rfl rfl (((ho.arr ir9).ext hR).row hxk)) (dm (dm ?_)))
  refine Xa2 (v:=I ↑(k-1)) rfl (Xay rfl rfl (by unfold Xai;omega)) (by show I _=I _;congr 1;omega) (di 79 4 (ho.arr ir9).sl rfl ((ho.arr ir9).lt hyk) (D_l rfl (λw' hR=>Xac kr9 rfl rfl (((ho.arr ir9).ext hR).row hyk)) (Xcz (vs:=[x.v,y.v]) rfl rfl hcb (hc _ x y) rfl RX.all (λw3 x3=>?_))))
  replace ho:=ho.ext x3
  replace hx:=hx.ext x3
  refine de Z10 (wc (λc3=>?_) λc3=>?_)
  ·refine ws λ_ Z11=>wr (dm (dm ?_))
   refine dp (Xc1 (e:=79) (k:=4) (m:=l.length) (a:=k) (b:=l.length) kr9 hvsl rfl rfl rfl om9 om9) (da (de Z11 (ws λ_ Z12=>ws λ_ Z13=>wr (da (de Z13 (Xab ?_))))))
   refine Xaj (G:=Nat×Nat×List Cell) (λ(i,k2,cur)=>[(0,v),(1,fnV f),(5,I ↑k2),(6,slV 4 v k l.length),(7,I ↑i)]) (λ(i,k2,cur) w'=>Mod (λk=>v.ownBlock=some k) w w'∧1≤i∧CmpR p l (k+i) k2 cur∧Vc.Own Cell.cs 4 79 Bo w' v cur) (λ(i,k2,cur)=>l.length-(k+i)) (1,k,l) ?_ ?_ ?_
   ·exact zz5
   ·exact⟨hx,Nat.le_refl _,X8k om9 hcn hxk hyk c3,ho⟩
   intro X4 g4 w4 hF4
   obtain⟨i,k2,cur⟩:=g4
   clear hx ho
   obtain⟨hx,hi1,hr,ho⟩:=hF4
   have hcl:=hr.1
   have hr2:=hr.2.1
   have hr3:=hr.2.2.1
   have hlen9:((cur.take l.length).drop k).length=l.length-k:=by rw[List.length_drop,List.length_take];omega
   refine ws λ_ Z14=>ws λ_ Z15=>wr (dm (dm ?_))
   refine dv 79 4 ((ho.arr ir9).slice (lo:=k) (hi:=l.length) om9 om9).sl (dp (Xaf rfl rfl) (de Z15 (wi (λc4=>?_) λc4=>?_)))
   ·obtain⟨x,hxl⟩:∃x,l[k+i]?=some x:=gtE
    obtain⟨y,hyl⟩:∃x,l[k+i-1]?=some x:=gtE
    have hxi:((cur.take l.length).drop k)[i]?=some x:=(Xwr hcl hr.2.2.2.2 om9).trans hxl
    have hyi:((cur.take l.length).drop k)[i-1]?=some y:=(Xwr hcl hr.2.2.2.2 om9).trans (by rw[←hyl];congr 1;omega)
    have hb0:=Xcv ho (λe=>by rw[e]at hcl;simp at hcl;omega)
    refine Xaa (Z14 _ _ (ws λ_ Z16=>Xab (ws λ_ Z17=>Xaq (R:=Ext) Ext.refl (λ_ _ _=>Ext.trans) kr9 [4,9] [(0,.p,false),(1,.p,false),(2,.p,false),(3,.p,false),(4,.l,false),(5,.p,false),(6,.p,false),(7,.p,false),(8,.p,false),(9,.l,false),(10,.x,true),(11,.p,false)] rfl kr9 kr9 (λw5 ew5=>?_))))
    have x5:=drewx ew5
    clear ew5
    replace ho:=ho.ext x5
    replace hx:=hx.ext x5
    iterate 3 refine dm ?_
    refine di 79 4 ((ho.arr ir9).slice (lo:=k) (hi:=l.length) om9 om9).sl rfl (((ho.arr ir9).slice (lo:=k) (hi:=l.length) om9 om9).lt hxi) (D_l rfl (λw' hR=>Xac kr9 rfl rfl ((((ho.arr ir9).slice (lo:=k) (hi:=l.length) om9 om9).ext hR).row hxi)) (dm (dm ?_)))
    refine Xa2 (v:=I ↑(i-1)) rfl (Xay rfl rfl (by unfold Xai;omega)) (by show I _=I _;congr 1;omega) (di 79 4 ((ho.arr ir9).slice (lo:=k) (hi:=l.length) om9 om9).sl rfl (((ho.arr ir9).slice (lo:=k) (hi:=l.length) om9 om9).lt hyi) (D_l rfl (λw' hR=>Xac kr9 rfl rfl ((((ho.arr ir9).slice (lo:=k) (hi:=l.length) om9 om9).ext hR).row hyi)) (Xcz (vs:=[x.v,y.v]) rfl rfl hcb (hc _ x y) rfl RX.all (λw6 x6=>?_))))
    replace ho:=ho.ext x6
    replace hx:=hx.ext x6
    refine dn (de Z17 ?_)
    refine wc (λc5=>?_) λc5=>?_
    ·refine ws λ_ Z18=>wr (dm (dm (dm (dm ?_))))
     refine di 79 4 ((ho.arr ir9).slice (lo:=k) (hi:=l.length) om9 om9).sl rfl (((ho.arr ir9).slice (lo:=k) (hi:=l.length) om9 om9).lt hxi) (dq (Xac kr9 rfl rfl (((ho.arr ir9).slice (lo:=k) (hi:=l.length) om9 om9).row hxi)) (Xa2 (v:=ptr (base v).1 (k2*4+0)) rfl (Xba (i:=k2) (e:=79) (k:=4) kr9 ho.sl rfl rfl om9) (by rw[hb0];show ptr _ (0+_)=_;rw[Nat.zero_add];rfl) ?_))
     refine Xa3 (enc:=Cell.cs) (sz:=4) (l:=cur) (i:=k2) (j:=0) (x:=x) (vs:=x.cs) ir9 rfl ho rfl rfl rfl kr9 om9 rfl (Nat.le_refl 4) (by intro v hv;simp at hv;rcases hv with rfl|rfl|rfl|rfl<;>rfl) (.inl rfl) (λw7 x7 xs7 ho_n=>?_)
     replace hx:=hx.own x7 (λi hi hlt=>hi)
     replace ho:=ho_n
     refine de Z18 (wr (dm ?_))
     refine pa rfl rfl (da (de Z16 (wr (dm ?_))))
     refine pa rfl rfl (da (Xae (?_)))
     first|exact⟨(i+1,k2+1,_),zz5,⟨hx,by omega,Xrg hr hxl hyl (by simpa using c5),ho⟩,by simp only [];omega⟩|exact⟨(i+1,k2,cur),zz5,⟨hx,by omega,Xwf hr hxl hyl (by simpa using c5),ho⟩,by simp only [];omega⟩
    refine Xaa (Z16 _ _ (wr (dm ?_)))
    refine pa rfl rfl (da (Xae (?_)))
    first|exact⟨(i+1,k2+1,_),zz5,⟨hx,by omega,Xrg hr hxl hyl (by simpa using c5),ho⟩,by simp only [];omega⟩|exact⟨(i+1,k2,cur),zz5,⟨hx,by omega,Xwf hr hxl hyl (by simpa using c5),ho⟩,by simp only [];omega⟩
   refine Xah (Z12 _ _ (ws λ_ Z19=>wr (dm (dm ?_))))
   refine dp (Xc1 (e:=79) (k:=4) (m:=cur.length) (a:=k2) (b:=cur.length) kr9 ho.sl rfl rfl rfl om9 om9) ?_
   refine Xwh (enc:=Cell.cs) (sz:=4) (e:=79) (l:=cur) (k:=k2) (zs:=[S [],S [],B false,.int .i64 0]) ir9 rfl kr9 kr9 rfl dc9 (by intro z hz;simp at hz;rcases hz with rfl|rfl|rfl|rfl<;>rfl) ho rfl om9 (.inl rfl) (λw8 x8 xs8 ho_n=>?_)
   replace hx:=hx.own x8 (λi hi hlt=>hi)
   replace ho:=ho_n
   refine de Z19 (ws λ_ Z20=>wr (dm (dm ?_)))
   refine dp (Xc1 (e:=79) (k:=4) (m:=l.length) (a:=0) (b:=k2) kr9 hvsl rfl rfl rfl om9 om9) (da (de Z20 (Xad ?_)))
   refine ro ?_
   rw[hr.2.2.2.1,List.take_of_length_le om9]at ho
   exact⟨_,rfl,hx,ho,Xni hvsl⟩
  refine Xaa (Z9 _ _ (wr (dm ?_)))
  refine pa rfl rfl (da (Xae (?_)))
  exact⟨k+1,zz3,⟨hx,by omega,by omega,by rw[Xfm om9 hxk hyk,if_neg (by rw[c3];decide),hcn,List.take_add_one,hxk];rfl,ho⟩,by omega⟩
 refine Xah (Z5 _ _ (ws λ_ Z21=>wr (dm (da (de Z21 (Xad ?_))))))
 refine ro ?_
 rw[List.take_of_length_le om9]at hcn
 exact⟨_,rfl,hx,by rw[hcn];exact ho,rfl⟩
theorem Xrl (qs:List (Value×List Cell))(v:Value)(w:World)(hv:Arr encQ 1 w v qs)(hq:∀q∈qs,Arr Cell.cs 4 w q.1 q.2)(hl:qs.length≤1000000)(htot:(qs.flatMap (·.2)).length≤10000000) :
  Calls Tryz.prog 45 [v].toArray w (Gives w (λu w'=>∃m,Mg (qs.flatMap (·.2)) m∧Vc.Own Cell.cs 4 79 w.heap.size w' u m)):=by
 refine cw Tryz.func45 ?_
 have hx:=Ext.refl w
 refine ws λ_ Z1=>wr (da (de Z1 (ws λ_ Z2=>wr (dm ?_))))
 refine cG (Xws qs v _ (hv.ext hx) (λq h=>(hq q h).ext hx) hl htot) RX.all λvb w1 x1 ho0=>?_
 have hsz1:=hx.size
 replace hx:=hx.trans x1
 have ho:=ho0.mono hsz1
 refine da (de Z2 (ws λ_ Z3=>wr (dm ?_)))
 refine cD (X8p _ vb w.heap.size 98 cmpC _ ho htot kr9 (λw2 x y=>X96 x y w2) X5f) (.inl rfl) λu2 w2 x2 hf2=>?_
 have hsz2:=hx.size
 replace hx:=hx.own x2 (λi hi=>(ho.lt i hi).1)
 obtain⟨rfl,l2,ho,hp2,hu2⟩:=hf2
 rw[Xwq]at hu2
 refine de Z3 (ws λ_ Z4=>wr (dm ?_))
 refine cD (X5h l2 vb w.heap.size 101 Xg2 _ ho (by have:=hp2.length_eq;omega) kr9 (λw2 x y=>X97 x y w2)) (.inl rfl) λvr w3 x3 hf3=>?_
 have hsz3:=hx.size
 replace hx:=hx.own x3 (λi hi=>(ho.lt i hi).1)
 obtain⟨ho,_⟩:=hf3
 refine da (de Z4 (Xad ?_))
 refine ro ?_
 exact⟨_,rfl,hx,_,⟨l2,hp2,hu2,rfl⟩,ho⟩
def Xdx (s:List (List Cell)×Nat)(c:Cell):List (List Cell)×Nat:=if s.1=[]∨4096<s.2+Xbh c then(s.1++[[c]],Xbh c)else(s.1.dropLast++[s.1.getLastD []++[c]],s.2+Xbh c)
def mkR (l:List Cell)(k:Nat):List (List Cell)×Nat:=(l.take k).foldl Xdx ([],0)
def Xam (l:List Cell):List (List Cell):=(l.foldl Xdx ([],0)).1
theorem Xg3 {l:List Cell}{k:Nat}{c:Cell}(h:l[k]?=some c):mkR l (k+1)=Xdx (mkR l k) c:=by
 unfold mkR;rw[Xa0 h,List.foldl_append];rfl
theorem Xpg {l:List Cell}{k:Nat}(h:l.length≤k):(mkR l k).1=Xam l:=by unfold mkR Xam;rw[List.take_of_length_le h]
theorem Xph (s:List (List Cell)×Nat)(c:Cell):(Xdx s c).1.flatten=s.1.flatten++[c]∧(Xdx s c).1.length≤s.1.length+1:=by
 unfold Xdx
 split
 ·simp
 ·rename_i h
  rw[not_or]at h
  rcases List.eq_nil_or_concat s.1 with e|⟨a,b,e⟩
  ·exact absurd e h.1
  ·rw[e];simp
theorem Xfn (l:List Cell):∀k,k≤l.length->(mkR l k).1.flatten=l.take k∧(mkR l k).1.length≤k
 | 0,_=>⟨rfl,Nat.le_refl _⟩
 | k+1,h=>by
  have ih:=Xfn l k om9
  have hk:l[k]?=some l[k]:=List.getElem?_eq_getElem om9
  have h2:=Xph (mkR l k) l[k]
  rw[Xg3 hk,h2.1,ih.1,←Xa0 hk]
  exact⟨rfl,by omega⟩
theorem Xdq (l:List Cell):(Xam l).flatten=l:=by
 rw[←Xpg (Nat.le_refl l.length),(Xfn l _ (Nat.le_refl _)).1,List.take_length]
theorem X2m {ss:List (List Cell)}{l sg:List Cell}(h:ss.flatten=l)(hs:sg∈ss):sg.length≤l.length:=by
 subst h
 rw[List.length_flatten]
 induction ss with
 | nil=>cases hs
 | cons a r ih=>
  simp only [List.map_cons,List.sum_cons]
  rcases List.mem_cons.1 hs with rfl|hs
  ·omega
  ·have:=ih hs;omega
theorem X2n {l:List Cell}(hc:∀c∈l,Xbh c≤30000):∀k,k≤l.length->(mkR l k).2≤30000
 | 0,_=>Nat.zero_le _
 | k+1,h=>by
  have hk:l[k]?=some l[k]:=List.getElem?_eq_getElem om9
  rw[Xg3 hk]
  have:=hc l[k] (List.getElem_mem _)
  unfold Xdx
  split
  ·exact this
  ·rename_i h2;rw[not_or]at h2;show(mkR l k).2+Xbh l[k]≤30000;omega
theorem Xkq {s:List (List Cell)×Nat}{c:Cell}(h:s.1=[]∨4096<s.2+Xbh c):Xdx s c=(s.1++[[]++[c]],0+Xbh c):=by unfold Xdx;rw[if_pos h,Nat.zero_add];rfl
theorem Xsl {ss:List (List Cell)}{s:List Cell}{z:Nat}{c:Cell}(h:¬ 4096<z+Xbh c):Xdx (ss++[s],z) c=(ss++[s++[c]],z+Xbh c):=by
 unfold Xdx
 rw[if_neg (by rw[not_or];exact⟨by simp,h⟩)];simp
structure Md where
 f:Fi
 vl:Value
 vb:Value
@[reducible] def Md.cs (m:Md):List Value:=[I m.f.id,I m.f.lev,I m.f.size,S m.f.fst,S m.f.lst,m.vl,m.vb]
@[reducible] def Md.v (m:Md):Value:=.agg ⟨m.cs⟩
structure MdR (w:World)(v:Value)(l:List Md):Prop where
 row:∀ {i:Nat} {x:Md},l[i]?=some x->Row w (base v).1 (i*7+0) x.cs
section
variable {b0 B B1:Nat}{lv next:Int}{w w':World}{v va:Value}{S:Nat->Prop}
theorem mdR {l:List Md}(h:Vc.Own Md.cs 7 161 B w v l):MdR w v l:=⟨λ {i x} hi=>by
 have h2:=(h.arr ir9).row hi
 rw[Xcv h (λe=>by rw[e]at hi;simp at hi),Nat.zero_add]at h2
 exact h2⟩
theorem Xg4 {α:Type}(ys:List α)(x z:α):(ys++[x]).getD ys.length z=x:=by simp
theorem Xih {α:Type}(ys:List α)(x z:α):(ys++[x]).set ys.length z=ys++[z]:=by simp
def MkL (b0:Nat)(lv next:Int)(i:Nat)(x:Md)(sg:List Cell)(w:World):Prop:=x.f.id=next+↑i∧x.f.lev=lv∧x.f.size=0∧x.f.fst=(cAt sg 0).key∧x.f.lst=(cAt sg (sg.length-1)).key∧x.vb=.slice none 0 0∧sg≠[]∧Vc.Own Cell.cs 4 79 b0 w x.vl sg
theorem MkL.mod {i:Nat}{x:Md}{sg:List Cell}(h:MkL b0 lv next i x sg w)(m:Vc.Mod S w w')(hS:∀k,x.vl.ownBlock=some k->¬ S k):MkL b0 lv next i x sg w':=by
 obtain⟨h1,h2,h3,h4,h5,h6,h7,h8⟩:=h
 exact⟨h1,h2,h3,h4,h5,h6,h7,h8.mod m hS⟩
def MkY (b0 B1:Nat)(lv next:Int)(ys:List Md)(ss:List (List Cell))(w:World):Prop:=ys.length=ss.length∧∀i x sg,ys[i]?=some x->ss[i]?=some sg->MkL b0 lv next i x sg w∧∀k,x.vl.ownBlock=some k->k<B1
theorem MkY.mod {ys:List Md}{ss:List (List Cell)}(h:MkY b0 B1 lv next ys ss w)(m:Vc.Mod S w w')(hS:∀x∈ys,∀k,x.vl.ownBlock=some k->¬ S k):MkY b0 B1 lv next ys ss w':=
 ⟨h.1,λi x sg hx hs=>⟨(h.2 i x sg hx hs).1.mod m (hS x (List.mem_of_getElem? hx)),(h.2 i x sg hx hs).2⟩⟩
theorem MkY.ext {ys:List Md}{ss:List (List Cell)}(h:MkY b0 B1 lv next ys ss w)(m:Ext w w'):MkY b0 B1 lv next ys ss w':=h.mod m (λ_ _ _ _ h=>h)
theorem MkY.at {ys:List Md}{ss:List (List Cell)}(h:MkY b0 B1 lv next ys ss w){x:Md}(hx:x∈ys):∃i sg,MkL b0 lv next i x sg w∧∀k,x.vl.ownBlock=some k->k<B1:=by
 obtain⟨i,hi⟩:=List.getElem?_of_mem hx
 have hl:=(List.getElem?_eq_some_iff.1 hi).1
 exact⟨i,_,h.2 i x _ hi (List.getElem?_eq_getElem (by rw[←h.1];exact hl))⟩
theorem MkY.ne {ys l:List Md}{ss:List (List Cell)}(h:MkY b0 B1 lv next ys ss w)(ho:Vc.Own Md.cs 7 161 B w va l):∀x∈ys,∀k,x.vl.ownBlock=some k->¬ va.ownBlock=some k:=λx hx k hk=>by
 obtain⟨i,sg,hL,_⟩:=h.at hx
 exact hL.2.2.2.2.2.2.2.ne ho rfl hk
theorem MkY.sep {ys:List Md}{ss:List (List Cell)}{vl:Value}{s:List Cell}(h:MkY b0 B1 lv next ys ss w)(hl:Vc.Own Cell.cs 4 79 B1 w vl s):∀x∈ys,∀k,x.vl.ownBlock=some k->¬ vl.ownBlock=some k:=λx hx k hk e=>by
 obtain⟨i,sg,_,h2⟩:=h.at hx
 have h3:=h2 k hk
 have h4:=(hl.lt k e).1
 omega
def MkH (b0:Nat)(lv next:Int)(xs:List Md)(R:List (List Cell))(w:World):Prop:=(xs=[]∧R=[])∨∃ys x ss s B1,xs=ys++[x]∧R=ss++[s]∧(b0≤B1∧Sz B1 w)∧MkY b0 B1 lv next ys ss w∧MkL b0 lv next ys.length x s w∧Vc.Own Cell.cs 4 79 B1 w x.vl s
theorem MkH.mod {xs:List Md}{R:List (List Cell)}(h:MkH b0 lv next xs R w)(m:Vc.Mod S w w')(hS:∀x∈xs,∀k,x.vl.ownBlock=some k->¬ S k):MkH b0 lv next xs R w':=by
 rcases h with h|⟨ys,x,ss,s,B1,rfl,h2,h3,h4,h5,h6⟩
 ·exact .inl h
 ·exact .inr ⟨ys,x,ss,s,B1,rfl,h2,⟨h3.1,h3.2.mod m trivial⟩,h4.mod m (λz hz=>hS z (List.mem_append_left _ hz)),h5.mod m (hS x sp9),h6.mod m (hS x sp9)⟩
theorem MkH.lt {xs:List Md}{R:List (List Cell)}(h:MkH b0 lv next xs R w):∀x∈xs,∀k,x.vl.ownBlock=some k->k<w.heap.size:=by
 rcases h with⟨rfl,_⟩|⟨ys,x,ss,s,B1,rfl,h2,h3,h4,h5,h6⟩
 ·intro x hx;cases hx
 ·intro z hz k hk
  rcases List.mem_append.1 hz with hz|hz
  ·obtain⟨i,sg,hL,_⟩:=h4.at hz
   exact(hL.2.2.2.2.2.2.2.lt k hk).2
  ·rw[List.mem_singleton.1 hz]at hk;exact(h6.lt k hk).2
theorem MkH.ext {xs:List Md}{R:List (List Cell)}(h:MkH b0 lv next xs R w)(m:Ext w w'):MkH b0 lv next xs R w':=h.imp id λ⟨ys,x,ss,s,B1,h1,h2,h3,h4,h5,h6⟩=>⟨ys,x,ss,s,B1,h1,h2,⟨h3.1,h3.2.ext m⟩,h4.ext m,h5.mod m (λ_ _ h=>h),h6.ext m⟩
theorem MkH.len {xs:List Md}{R:List (List Cell)}(h:MkH b0 lv next xs R w):xs.length=R.length:=by
 rcases h with⟨rfl,rfl⟩|⟨ys,x,ss,s,B1,rfl,rfl,h3,h4,h5,h6⟩
 ·rfl
 ·simp [h4.1]
theorem MkH.all {xs:List Md}{R:List (List Cell)}(h:MkH b0 lv next xs R w)(hs:b0≤w.heap.size):∃Bn,b0≤Bn∧Sz Bn w∧MkY b0 Bn lv next xs R w:=by
 refine⟨w.heap.size,hs,⟨Nat.le_refl _⟩,?_⟩
 rcases h with⟨rfl,rfl⟩|⟨ys,x,ss,s,B1,rfl,rfl,h3,h4,h5,h6⟩
 ·exact⟨rfl,λi x sg hx=>by simp at hx⟩
 ·refine⟨by simp [h4.1],λi z sg hz hs=>?_⟩
  have hL:MkL b0 lv next i z sg w:=by
   rw[List.getElem?_append]at hz hs
   rw[←h4.1]at hs
   split at hz
   ·rename_i hi;rw[if_pos hi]at hs;exact(h4.2 i z sg hz hs).1
   ·rename_i hi
    rw[if_neg hi]at hs
    have hi2:i-ys.length=0:=by
     rcases Nat.eq_zero_or_pos (i-ys.length)with e|e
     ·exact e
     ·rw[List.getElem?_eq_none (by simp;omega)]at hz;cases hz
    rw[hi2]at hz hs
    simp at hz hs
    subst hz;subst hs
    rw[show i=ys.length by omega];exact h5
  exact⟨hL,λk hk=>(hL.2.2.2.2.2.2.2.lt k hk).2⟩
def Xeq (lv next:Int)(j:Nat)(sg:List Cell):Fi:=⟨next+↑j,lv,↑(recS (tblS sg)).length,(cAt sg 0).key,(cAt sg (sg.length-1)).key⟩
def MkP (b0 B2:Nat)(lv next:Int)(i:Nat)(xs:List Md)(ss:List (List Cell))(w:World):Prop:=xs.length=ss.length∧∀j x sg,xs[j]?=some x->ss[j]?=some sg->(j<i->x.f=Xeq lv next j sg∧Xbz sg=0∧Arr encB 1 w x.vb (recS (tblS sg))∧B2≤(base x.vb).1∧x.vl.oneCell'=true)∧(i≤j->MkL b0 lv next j x sg w)
theorem MkP.mod {B2 i:Nat}{xs l:List Md}{ss:List (List Cell)}(h:MkP b0 B2 lv next i xs ss w)(ho:Vc.Own Md.cs 7 161 B w va l)(hv:∀k,va.ownBlock=some k->k<B2)(m:Vc.Mod (λk=>va.ownBlock=some k) w w'):MkP b0 B2 lv next i xs ss w':=
 ⟨h.1,λj x sg hx hs=>⟨λhj=>by
  obtain⟨h1,h2,h3,h4,h5⟩:=(h.2 j x sg hx hs).1 hj
  exact⟨h1,h2,h3.mod m (λ_ e=>by have:=hv _ e;omega),h4,h5⟩,λhj=>by
  have hL:=(h.2 j x sg hx hs).2 hj
  exact hL.mod m (λk hk=>hL.2.2.2.2.2.2.2.ne ho rfl hk)⟩⟩
theorem MkP.ext {B2 i:Nat}{xs:List Md}{ss:List (List Cell)}(h:MkP b0 B2 lv next i xs ss w)(m:Ext w w'):MkP b0 B2 lv next i xs ss w':=
 ⟨h.1,λj x sg hx hs=>⟨λhj=>by
  obtain⟨h1,h2,h3,h4,h5⟩:=(h.2 j x sg hx hs).1 hj
  exact⟨h1,h2,h3.ext m,h4,h5⟩,λhj=>((h.2 j x sg hx hs).2 hj).mod m (λ_ _ h=>h)⟩⟩
theorem MkP.zero {B2:Nat}{xs:List Md}{ss:List (List Cell)}(h:MkY b0 B1 lv next xs ss w):MkP b0 B2 lv next 0 xs ss w:=⟨h.1,λj x sg hx hs=>⟨λhj=>absurd hj (Nat.not_lt_zero j),λ_=>(h.2 j x sg hx hs).1⟩⟩
theorem MkP.step {B2 i:Nat}{xs:List Md}{ss:List (List Cell)}{x:Md}{sg:List Cell}{vb:Value}(h:MkP b0 B2 lv next i xs ss w)(hx:xs[i]?=some x)(hs:ss[i]?=some sg)(hb:Xbz sg=0)(ha:Arr encB 1 w vb (recS (tblS sg)))(hg:B2≤(base vb).1) :
  MkP b0 B2 lv next (i+1) (xs.set i ⟨⟨x.f.id,x.f.lev,↑(recS (tblS sg)).length,x.f.fst,x.f.lst⟩,x.vl,vb⟩) ss w:=by
 refine⟨by rw[List.length_set];exact h.1,λj z sz hz hsz=>?_⟩
 have hil:=(List.getElem?_eq_some_iff.1 hx).1
 by_cases e:i=j
 ·subst e
  rw[List.getElem?_set_self hil]at hz
  rw[hs]at hsz
  cases hz;cases hsz
  obtain⟨h1,h2,h3,h4,h5,h6,h7,h8⟩:=(h.2 i x sg hx hs).2 (Nat.le_refl _)
  exact⟨λ_=>⟨by unfold Xeq;rw[h1,h2,h4,h5],hb,ha,hg,h8.sl.one⟩,λhh=>by omega⟩
 ·rw[List.getElem?_set_ne e]at hz
  exact⟨λhj=>(h.2 j z sz hz hsz).1 om9,λhj=>(h.2 j z sz hz hsz).2 om9⟩
def MkF (b0:Nat)(lv next:Int)(xs:List Md)(ss:List (List Cell))(w:World):Prop:=xs.length=ss.length∧∀j x sg,xs[j]?=some x->ss[j]?=some sg->x.f=Xeq lv next j sg∧Xbz sg=0∧Arr encB 1 w x.vb (recS (tblS sg))∧b0≤(base x.vb).1∧x.vl.oneCell'=true
theorem MkP.fin {B2 i:Nat}{xs:List Md}{ss:List (List Cell)}(h:MkP b0 B2 lv next i xs ss w)(hi:xs.length≤i)(hb:b0≤B2):MkF b0 lv next xs ss w:=⟨h.1,λj x sg hx hs=>by
 have hil:=(List.getElem?_eq_some_iff.1 hx).1
 obtain⟨h1,h2,h3,h4,h5⟩:=(h.2 j x sg hx hs).1 om9
 exact⟨h1,h2,h3,Nat.le_trans hb h4,h5⟩⟩
theorem Xrm (s:List Cell)(c:Cell):cAt (s++[c]) ((s++[c]).length-1)=c:=by
 unfold cAt;simp
theorem X98 {s:List Cell}(hs:s≠[])(c:Cell):cAt (s++[c]) 0=cAt s 0:=by
 cases s with
 | nil=>exact absurd rfl hs
 | cons a r=>rfl
end
theorem X5i (l:List Cell)(v:Value)(lv next:Int)(w:World)(hv:Arr Cell.cs 4 w v l)(hl0:l.length≤30000)(hc9:∀c∈l,c.key.length≤4096∧c.val.length≤16384)(hlv:0≤lv∧lv≤100)(hnx:0≤next∧next≤1099511627776) :
  Calls Tryz.prog 90 [v,I lv,I next].toArray w (Gives w (λu w'=>(∃sg∈Xam l,Xbz sg≠0∧u=.tuple #[.slice none 0 0,I (Xbz sg)])∨∃va xs,u=.tuple #[va,I 0]∧Vc.Own Md.cs 7 161 w.heap.size w' va xs∧MkF w.heap.size lv next xs (Xam l) w')):=by
 refine cw Tryz.func90 ?_
 have hx:=Ext.refl w
 refine ws λ_ Z1=>wr (da (da (de Z1 (ws λ_ Z2=>wr (da (de Z2 (ws λ_ Z3=>wr (da (de Z3 (ws λ_ Z4=>ws λ_ Z5=>?_))))))))))
 refine wr (dm ?_)
 refine dv 79 4 (hv.ext hx).sl (dm (de Z5 (Xab ?_)))
 refine Xaj (G:=Nat×List Md×Value) (λ(k,xs,va)=>[(1,I lv),(2,I next),(6,.slice none 0 0),(7,I 0),(8,va),(9,I ↑(mkR l k).2),(18,v),(19,I ↑l.length),(20,I ↑k)]) (λ(k,xs,va) w'=>Ext w w'∧k≤l.length∧(mkR l k).2≤30000∧Vc.Own Md.cs 7 161 w.heap.size w' va xs∧MkH w.heap.size lv next xs (mkR l k).1 w') (λ(k,xs,va)=>l.length-k) (0,[],.slice none 0 0) ?_ ?_ ?_
 ·exact zz9
 ·exact⟨hx,Nat.zero_le _,Nat.zero_le _,Vc.Own.nil,.inl ⟨rfl,rfl⟩⟩
 intro X1 g1 w1 hF1
 obtain⟨k,xs,va⟩:=g1
 clear hx
 obtain⟨hx,hk1,hz1,ho,hI⟩:=hF1
 refine ws λ_ Z6=>wr (dp (Xaf rfl rfl) (de Z6 (ws λ_ Z7=>wi (λc1=>?_) λc1=>?_)))
 ·obtain⟨c,hk⟩:∃c,l[k]?=some c:=gtE
  have hcs:=hc9 c (List.mem_of_getElem? hk)
  have hcz:Xbh c≤30000:=by unfold Xbh;omega
  have hln:=hI.len
  have hrl:=(Xfn l k hk1).2
  refine Xaa (Z7 _ _ (ws λ_ Z8=>Xab (ws λ_ Z9=>wr (di 79 4 hv.sl rfl (hv.lt hk) (dq (Xac kr9 rfl rfl ((hv.ext hx).row hk)) (Xan (cs:=[S [],S [],B false,.int .i64 0]) rfl kr9 RX.all (λb1 w2 e1 x2 m1=>?_)))))))
  have g1:=hx.ge e1
  have o1_ho:=ho.ltb e1
  have a1_hI:=hI.lt
  replace ho:=ho.ext x2
  replace hI:=hI.ext x2
  replace hx:=hx.trans x2
  refine stA m1 (λw3 x3 xs3 m1=>?_)
  try dsimp only [Xal,List.set,List.take,List.drop]at m1
  try replace ho:=ho.mod x3 (by first|assumption|(intro k hk h;have h1:=(ho.lt k hk).1;have h2:k=b1:=h;omega)|(intro k hk h;have h1:=o1_ho k hk;have h2:k=b1:=h;omega)|(intro h;have h2:_=b1:=h;omega)|(intro hl h;have h1:=a1_ho hl;have h2:_=b1:=h;omega))
  replace hI:=hI.mod x3 (λx9 hx9 k9 hk9 e9=>by have h2:k9=b1:=e9;have h8:=a1_hI x9 hx9 k9 hk9;omega)
  replace hx:=hx.o1 x3
  refine de Z9 (ws λ_ Z10=>wr (dq (Xac (k:=4) kr9 rfl rfl m1.row) (cP (Xui c _ om9 om9) RX.all λw4 x4=>?_)))
  replace ho:=ho.ext x4
  replace hI:=hI.ext x4
  replace m1:=m1.ext x4
  replace hx:=hx.trans x4
  refine da (de Z10 ?_)
  refine Xdi (G:=List Md×Md×List (List Cell)×List Cell×Value×Nat×Nat) (λ(ys,x,ss,s,va,z,B1)=>[(1,I lv),(2,I next),(6,.slice none 0 0),(7,I 0),(8,va),(9,I ↑z),(11,ptr b1 0),(12,I ↑(Xbh c)),(18,v),(19,I ↑l.length),(20,I ↑k)]) (λ(ys,x,ss,s,va,z,B1) w'=>Ext w w'∧Blk w' b1 c.cs 79∧mkR l (k+1)=(ss++[s++[c]],z+Xbh c)∧w.heap.size≤B1∧z≤60000∧Sz B1 w'∧Vc.Own Md.cs 7 161 w.heap.size w' va (ys++[x])∧MkY w.heap.size B1 lv next ys ss w'∧Vc.Own Cell.cs 4 79 B1 w' x.vl s∧x.f.id=next+↑ys.length∧x.f.lev=lv∧x.f.size=0∧x.f.fst=(cAt (s++[c]) 0).key∧x.vb=.slice none 0 0∧ys.length≤k∧x.vl.ownBlock≠some b1) ?_ ?_
  ·refine ws λ_ Z11=>wr (dm ?_)
   refine dv 161 7 (ho.arr ir9).sl (dp (Xa9 rfl rfl) (dm ?_))
   refine Xag 29 rfl (λc2=>?_) (λc2=>?_)
   ·obtain⟨Bn,hBn,hSn,hy⟩:=hI.all hx.size
    have hnew:mkR l (k+1)=((mkR l k).1++[[]++[c]],0+Xbh c):=by rw[Xg3 hk,Xkq (.inl (List.eq_nil_of_length_eq_zero om9))]
    refine dk (dk (dk (dk (dk' (de Z11 ?_)))))
    refine W_t rfl (ws λ_ Z12=>wr (dm (dm (dm ?_))))
    refine dv 161 7 (ho.arr ir9).sl (pa rfl rfl (dm ?_))
    refine df 0 rfl (dl rfl (m1.at rfl) (db (zs:=[.int .i64 0,.int .i64 0,.int .i64 0,S [],S []]) (pl:=[(0,1),(1,1),(2,1),(3,1),(4,1)]) (pv:=[(0,_),(1,_),(3,_)]) (cs:=[_,_,.int .i64 0,_,S []]) ?_))
    refine db (zs:=[.int .i64 0,.int .i64 0,.int .i64 0,S [],S [],.slice none 0 0,.slice none 0 0]) (pl:=[(0,5),(5,1),(6,1)]) (pv:=[(0,.agg ⟨[_,_,_,_,_]⟩)]) (cs:=[_,_,_,_,_,.slice none 0 0,.slice none 0 0]) ?_
    refine li (e:=161) (sz:=7) (zs:=[.int .i64 0,.int .i64 0,.int .i64 0,S [],S [],.slice none 0 0,.slice none 0 0]) (pv:=[(0,.agg ⟨[_,_,_,_,_,_,_]⟩)]) (cs:=[_,_,_,_,_,_,_]) RX.all (λb2 w5 e2 x5 m2=>?_)
    have g2:=hx.ge e2
    have n2_1:=m1.ltb e2
    have o2_ho:=ho.ltb e2
    replace ho:=ho.ext x5
    replace m1:=m1.ext x5
    replace hy:=hy.ext x5
    replace hSn:=hSn.ext x5
    replace hx:=hx.trans x5
    refine Xa6 (lx:=[⟨⟨next+↑xs.length,lv,0,c.key,[]⟩,.slice none 0 0,.slice none 0 0⟩]) (e:=161) (sz:=7) (by':=104) rfl kr9 kr9 ir9 ho (m2.arr (enc:=Md.cs) (sz:=7) (l:=[⟨⟨next+↑xs.length,lv,0,c.key,[]⟩,.slice none 0 0,.slice none 0 0⟩]) rfl ir9 rfl (Nat.le_of_ble_eq_true rfl)) rfl rfl (by intro x hx9 u hu;rw[List.mem_singleton.1 hx9]at hu;simp at hu;rcases hu with rfl|rfl|rfl|rfl|rfl|rfl|rfl<;>rfl) (by simp;omega) dc9 hx.size (.inl rfl) (λvn w6 ho_n x6=>?_)
    try replace m1:=m1.mod x6 (by first|(intro h;have h2:b1=b1:=Option.some.inj h;omega)|(intro h;have h1:=(ho.lt _ h).1;omega)|(intro h;have h1:=o1_ho _ h;omega)|(intro h;exact ho.ne_blk m1 rfl h)|exact hvb)
    try replace hy:=hy.mod x6 (by first|exact hy.ne ho|trivial)
    try replace hSn:=hSn.mod x6 (by first|exact hy.ne ho|trivial)
    replace hx:=hx.own x6 (λi hi=>(ho.lt i hi).1)
    replace ho:=ho_n
    clear m2
    refine da (de Z12 (wr (da (Xae (?_)))))
    exact⟨(xs,⟨⟨next+↑xs.length,lv,0,c.key,[]⟩,.slice none 0 0,.slice none 0 0⟩,(mkR l k).1,[],vn,0,Bn),zz11,hx,m1,hnew,hBn,Nat.zero_le _,hSn,ho,hy,Vc.Own.nil,rfl,rfl,rfl,rfl,rfl,by omega,by simp [Value.ownBlock]⟩
   iterate 2 refine dm ?_
   refine pa rfl rfl (dp (Xaw rfl rfl) (dk' (de Z11 ?_)))
   refine wi (λc3=>?_) λc3=>?_
   ·obtain⟨Bn,hBn,hSn,hy⟩:=hI.all hx.size
    have hnew:mkR l (k+1)=((mkR l k).1++[[]++[c]],0+Xbh c):=by rw[Xg3 hk,Xkq (.inr om9)]
    refine ws λ_ Z13=>wr (dm (dm (dm ?_)))
    refine dv 161 7 (ho.arr ir9).sl (pa rfl rfl (dm ?_))
    refine df 0 rfl (dl rfl (m1.at rfl) (db (zs:=[.int .i64 0,.int .i64 0,.int .i64 0,S [],S []]) (pl:=[(0,1),(1,1),(2,1),(3,1),(4,1)]) (pv:=[(0,_),(1,_),(3,_)]) (cs:=[_,_,.int .i64 0,_,S []]) ?_))
    refine db (zs:=[.int .i64 0,.int .i64 0,.int .i64 0,S [],S [],.slice none 0 0,.slice none 0 0]) (pl:=[(0,5),(5,1),(6,1)]) (pv:=[(0,.agg ⟨[_,_,_,_,_]⟩)]) (cs:=[_,_,_,_,_,.slice none 0 0,.slice none 0 0]) ?_
    refine li (e:=161) (sz:=7) (zs:=[.int .i64 0,.int .i64 0,.int .i64 0,S [],S [],.slice none 0 0,.slice none 0 0]) (pv:=[(0,.agg ⟨[_,_,_,_,_,_,_]⟩)]) (cs:=[_,_,_,_,_,_,_]) RX.all (λb3 w7 e3 x7 m3=>?_)
    have g3:=hx.ge e3
    have n3_1:=m1.ltb e3
    have o3_ho:=ho.ltb e3
    replace ho:=ho.ext x7
    replace m1:=m1.ext x7
    replace hy:=hy.ext x7
    replace hSn:=hSn.ext x7
    replace hx:=hx.trans x7
    refine Xa6 (lx:=[⟨⟨next+↑xs.length,lv,0,c.key,[]⟩,.slice none 0 0,.slice none 0 0⟩]) (e:=161) (sz:=7) (by':=104) rfl kr9 kr9 ir9 ho (m3.arr (enc:=Md.cs) (sz:=7) (l:=[⟨⟨next+↑xs.length,lv,0,c.key,[]⟩,.slice none 0 0,.slice none 0 0⟩]) rfl ir9 rfl (Nat.le_of_ble_eq_true rfl)) rfl rfl (by intro x hx9 u hu;rw[List.mem_singleton.1 hx9]at hu;simp at hu;rcases hu with rfl|rfl|rfl|rfl|rfl|rfl|rfl<;>rfl) (by simp;omega) dc9 hx.size (.inl rfl) (λvn w8 ho_n x8=>?_)
    try replace m1:=m1.mod x8 (by first|(intro h;have h2:b1=b1:=Option.some.inj h;omega)|(intro h;have h1:=(ho.lt _ h).1;omega)|(intro h;have h1:=o1_ho _ h;omega)|(intro h;exact ho.ne_blk m1 rfl h)|exact hvb)
    try replace hy:=hy.mod x8 (by first|exact hy.ne ho|trivial)
    try replace hSn:=hSn.mod x8 (by first|exact hy.ne ho|trivial)
    replace hx:=hx.own x8 (λi hi=>(ho.lt i hi).1)
    replace ho:=ho_n
    clear m3
    refine da (de Z13 (wr (da (Xae (?_)))))
    exact⟨(xs,⟨⟨next+↑xs.length,lv,0,c.key,[]⟩,.slice none 0 0,.slice none 0 0⟩,(mkR l k).1,[],vn,0,Bn),zz11,hx,m1,hnew,hBn,Nat.zero_le _,hSn,ho,hy,Vc.Own.nil,rfl,rfl,rfl,rfl,rfl,by omega,by simp [Value.ownBlock]⟩
   rcases hI with⟨rfl,_⟩|⟨ys,x,ss,s,B1,rfl,hR,⟨hb1,hSn⟩,hy,hL,hl⟩
   ·simp at c2
   have hvb:x.vl.ownBlock≠some b1:=λe=>by have:=a1_hI x sp9 b1 e;omega
   refine Xaa ?_
   exact⟨(ys,x,ss,s,va,(mkR l k).2,B1),zz11,hx,m1,by rw[Xg3 hk,show mkR l k=(ss++[s],(mkR l k).2) from Prod.ext hR rfl,Xsl om9],hb1,by omega,hSn,ho,hy,hl,hL.1,hL.2.1,hL.2.2.1,by rw[X98 hL.2.2.2.2.2.2.1];exact hL.2.2.2.1,hL.2.2.2.2.2.1,by simp at hln;omega,hvb⟩
  intro X9 g9 w9 hF9
  obtain⟨ys,x,ss,s,va,z,B1⟩:=g9
  clear hx ho hI m1
  obtain⟨hx,m1,hR2,hb1,hz9,hSn,ho,hy,hl,q1,q2,q3,q4,q5,q6,hvb⟩:=hF9
  have hyx:(ys++[x])[ys.length]?=some x:=by simp
  have hsl:s.length≤30000:=by
   have h9:=(Xfn l (k+1) om9).1
   rw[hR2]at h9
   have h8:=X2m h9 (show s++[c]∈ss++[s++[c]] by simp)
   rw[List.length_append,List.length_take]at h8
   omega
  refine ws λ_ Z14=>wr (dm (dm ?_))
  refine pa rfl rfl (da (de Z14 (ws λ_ Z15=>wr (dm (dm ?_)))))
  refine dv 161 7 (ho.arr ir9).sl (Xa2 (v:=I ↑ys.length) rfl (Xay rfl rfl (by unfold Xai;simp;omega)) (by show I _=I _;congr 1;simp) (Xa2 (v:=ptr (base va).1 (ys.length*7+0)) rfl (Xba (i:=ys.length) (e:=161) (k:=7) kr9 ho.sl rfl rfl (by first|omega|(simp;done)|(simp;omega))) (by rw[Xcv ho sp9];show ptr _ (0+_)=_;rw[Nat.zero_add];rfl) (da (de Z15 ?_))))
  refine Xfy (R:=Mod (λk=>va.ownBlock=some k∨x.vl.ownBlock=some k)) Xc5 Xcy kr9 [6,10] (.one 0 .p false (.one 1 .p false (.one 2 .p false (.one 3 .p false (.one 4 .p false (.one 6 .l false (.one 9 .p false (.one 10 .l false (.fork (.alt 5 false (.one 7 .x false (.one 8 .x false (.one 11 .p false (.one 12 .p false (.one 13 .x false (.one 14 .p false (.one 15 .p false (.one 16 .p false (.one 17 .x true .nil))))))))) (.alt 7 false (.one 5 .x false (.one 8 .x false (.one 11 .p false (.one 12 .p false (.one 13 .x false (.one 14 .p false (.one 15 .p false (.one 16 .p false (.one 17 .x true .nil))))))))) .stop))))))))))) kr9 kr9 (λw10 ew10=>?_)
  have x10:=drewx ew10
  clear ew10
  replace m1:=m1.ext x10
  replace ho:=ho.ext x10
  replace hy:=hy.ext x10
  replace hl:=hl.ext x10
  replace hSn:=hSn.ext x10
  replace hx:=hx.trans x10
  refine Xap (dm (Xae ?_))
  refine Xap (dm (Xae ?_))
  refine Xap (dm (Xae ?_))
  refine Xap (dz rfl (Xae (Xap (df 5 rfl (Xae (Xap (D_l rfl (λw' hR=>Xac (k:=4) kr9 rfl rfl (m1.mod hR (λe=>e.elim (λe=>ho.ne_blk m1 rfl e) hvb)).row) (Xae (Xap (df 0 rfl (Xae (Xap (dL rfl (λ_ hR=>((m1.mod hR (λe=>e.elim (λe=>ho.ne_blk m1 rfl e) hvb)).at rfl)) ?_)))))))))))))
  refine Xae (Xfq ?_)
  refine Xd1 ?_ ?_
  ·refine Xhz (v:=x.vl) (w':=w10) rfl (Xf0 kr9 rfl (((mdR ho).row hyx).at rfl)) (λ_=>Xc5 _) (Xae (Xap (li (e:=79) (sz:=4) (zs:=[S [],S [],B false,.int .i64 0]) (pv:=[(0,.agg ⟨[_,_,_,_]⟩)]) (cs:=[_,_,_,_]) RX.mod (λb4 w11 e4 x11 m4=>?_))))
   have g4:=hx.ge e4
   have o4_ho:=ho.ltb e4
   have o4_hl:=hl.ltb e4
   replace ho:=ho.ext x11
   replace hy:=hy.ext x11
   replace hl:=hl.ext x11
   replace hSn:=hSn.ext x11
   replace hx:=hx.trans x11
   refine Xae (Xap ?_)
   refine Xa6 (lx:=[c]) (e:=79) (sz:=4) (by':=48) rfl kr9 kr9 ir9 hl (m4.arr (enc:=Cell.cs) (sz:=4) (l:=[c]) rfl ir9 rfl (Nat.le_of_ble_eq_true rfl)) rfl rfl (by intro x hx9 u hu;rw[List.mem_singleton.1 hx9]at hu;simp at hu;rcases hu with rfl|rfl|rfl|rfl<;>rfl) (by have:=hsl;simp;omega) dc9 hSn.le (.inr (λw9 h9=>h9.mono (λi hi _=>.inr hi))) (λvp w12 hl_n x12=>?_)
   try replace ho:=ho.mod x12 (by first|exact(λk hk=>ho.ne hl rfl hk)|exact hy.sep hl|trivial)
   try replace hy:=hy.mod x12 (by first|exact(λk hk=>ho.ne hl rfl hk)|exact hy.sep hl|trivial)
   try replace hSn:=hSn.mod x12 (by first|exact(λk hk=>ho.ne hl rfl hk)|exact hy.sep hl|trivial)
   replace hx:=hx.own x12 (λi hi=>(Nat.le_trans hb1 (hl.lt i hi).1))
   replace hl:=hl_n
   clear m4
   refine Xae (Xap (dz rfl (Xae (Xap (df 5 rfl (Xae (Xap (Xa3 (enc:=Md.cs) (sz:=7) (l:=(ys++[x])) (i:=ys.length) (j:=5) (x:=⟨x.f,vp,x.vb⟩) (vs:=[vp]) ir9 rfl ho rfl rfl (by exact hl.sl.cells) kr9 (by first|omega|(simp;done)|(simp;omega)|(rw[List.length_set];omega)) (by rw[Xg4];rfl) (Nat.le_of_ble_eq_true rfl) (by intro u hu;rw[List.mem_singleton.1 hu];exact hl.sl.one) (.inr (λw9 h9=>h9.mono (λi hi _=>.inl hi))) (λw13 x13 xs13 ho_n=>?_)))))))))
   replace hy:=hy.mod x13 (hy.ne ho)
   replace hl:=hl.mod x13 (λk hk=>hl.ne ho rfl hk)
   replace hSn:=hSn.mod x13 trivial
   replace hx:=hx.own x13 (λi hi=>(ho.lt i hi).1)
   replace ho:=ho_n
   rw[Xih]at ho
   refine Xae (Xap (dz rfl (Xae (Xap (df 0 rfl (Xae (Xap (df 4 rfl (Xae (Xap (Xa3 (enc:=Md.cs) (sz:=7) (l:=(ys++[⟨x.f,vp,x.vb⟩])) (i:=ys.length) (j:=4) (x:=⟨⟨x.f.id,x.f.lev,x.f.size,x.f.fst,c.key⟩,vp,x.vb⟩) (vs:=[S c.key]) ir9 rfl ho rfl rfl rfl kr9 (by first|omega|(simp;done)|(simp;omega)|(rw[List.length_set];omega)) (by rw[Xg4];rfl) (Nat.le_of_ble_eq_true rfl) (by intro u hu;rw[List.mem_singleton.1 hu];rfl) (.inl rfl) (λw14 x14 xs14 ho_n=>?_))))))))))))
   replace hy:=hy.mod x14 (hy.ne ho)
   replace hl:=hl.mod x14 (λk hk=>hl.ne ho rfl hk)
   replace hSn:=hSn.mod x14 trivial
   replace hx:=hx.own x14 (λi hi=>(ho.lt i hi).1)
   replace ho:=ho_n
   rw[Xih]at ho
   refine Xae (Xew (Z8 _ _ (wr (pa rfl rfl (dm (Xae (?_)))))))
   have hz2:=X2n (l:=l) (λc hc=>by have:=hc9 c hc;unfold Xbh;omega) (k+1) om9
   refine⟨(k+1,ys++[⟨⟨x.f.id,x.f.lev,x.f.size,x.f.fst,c.key⟩,vp,x.vb⟩],va),?_,⟨hx,by omega,hz2,ho,.inr ⟨ys,_,ss,s++[c],B1,rfl,by rw[hR2],⟨hb1,hSn⟩,hy,⟨q1,q2,q3,q4,by rw[Xrm],q5,by simp,hl.mono hb1⟩,hl⟩⟩,by simp only [];omega⟩
   dsimp only
   rw[hR2];exact zz9
  refine Xd1 ?_ ?_
  ·refine li (e:=79) (sz:=4) (zs:=[S [],S [],B false,.int .i64 0]) (pv:=[(0,.agg ⟨[_,_,_,_]⟩)]) (cs:=[_,_,_,_]) RX.mod (λb5 w15 e5 x15 m5=>?_)
   have g5:=hx.ge e5
   have o5_ho:=ho.ltb e5
   have o5_hl:=hl.ltb e5
   replace ho:=ho.ext x15
   replace hy:=hy.ext x15
   replace hl:=hl.ext x15
   replace hSn:=hSn.ext x15
   replace hx:=hx.trans x15
   refine Xae (Xap (Xhz (v:=x.vl) (w':=w15) rfl (Xf0 kr9 rfl (((mdR ho).row hyx).at rfl)) (λ_=>Xc5 _) (Xae (Xap ?_))))
   refine Xa6 (lx:=[c]) (e:=79) (sz:=4) (by':=48) rfl kr9 kr9 ir9 hl (m5.arr (enc:=Cell.cs) (sz:=4) (l:=[c]) rfl ir9 rfl (Nat.le_of_ble_eq_true rfl)) rfl rfl (by intro x hx9 u hu;rw[List.mem_singleton.1 hx9]at hu;simp at hu;rcases hu with rfl|rfl|rfl|rfl<;>rfl) (by have:=hsl;simp;omega) dc9 hSn.le (.inr (λw9 h9=>h9.mono (λi hi _=>.inr hi))) (λvp w16 hl_n x16=>?_)
   try replace ho:=ho.mod x16 (by first|exact(λk hk=>ho.ne hl rfl hk)|exact hy.sep hl|trivial)
   try replace hy:=hy.mod x16 (by first|exact(λk hk=>ho.ne hl rfl hk)|exact hy.sep hl|trivial)
   try replace hSn:=hSn.mod x16 (by first|exact(λk hk=>ho.ne hl rfl hk)|exact hy.sep hl|trivial)
   replace hx:=hx.own x16 (λi hi=>(Nat.le_trans hb1 (hl.lt i hi).1))
   replace hl:=hl_n
   clear m5
   refine Xae (Xap (dz rfl (Xae (Xap (df 5 rfl (Xae (Xap (Xa3 (enc:=Md.cs) (sz:=7) (l:=(ys++[x])) (i:=ys.length) (j:=5) (x:=⟨x.f,vp,x.vb⟩) (vs:=[vp]) ir9 rfl ho rfl rfl (by exact hl.sl.cells) kr9 (by first|omega|(simp;done)|(simp;omega)|(rw[List.length_set];omega)) (by rw[Xg4];rfl) (Nat.le_of_ble_eq_true rfl) (by intro u hu;rw[List.mem_singleton.1 hu];exact hl.sl.one) (.inr (λw9 h9=>h9.mono (λi hi _=>.inl hi))) (λw17 x17 xs17 ho_n=>?_)))))))))
   replace hy:=hy.mod x17 (hy.ne ho)
   replace hl:=hl.mod x17 (λk hk=>hl.ne ho rfl hk)
   replace hSn:=hSn.mod x17 trivial
   replace hx:=hx.own x17 (λi hi=>(ho.lt i hi).1)
   replace ho:=ho_n
   rw[Xih]at ho
   refine Xae (Xap (dz rfl (Xae (Xap (df 0 rfl (Xae (Xap (df 4 rfl (Xae (Xap (Xa3 (enc:=Md.cs) (sz:=7) (l:=(ys++[⟨x.f,vp,x.vb⟩])) (i:=ys.length) (j:=4) (x:=⟨⟨x.f.id,x.f.lev,x.f.size,x.f.fst,c.key⟩,vp,x.vb⟩) (vs:=[S c.key]) ir9 rfl ho rfl rfl rfl kr9 (by first|omega|(simp;done)|(simp;omega)|(rw[List.length_set];omega)) (by rw[Xg4];rfl) (Nat.le_of_ble_eq_true rfl) (by intro u hu;rw[List.mem_singleton.1 hu];rfl) (.inl rfl) (λw18 x18 xs18 ho_n=>?_))))))))))))
   replace hy:=hy.mod x18 (hy.ne ho)
   replace hl:=hl.mod x18 (λk hk=>hl.ne ho rfl hk)
   replace hSn:=hSn.mod x18 trivial
   replace hx:=hx.own x18 (λi hi=>(ho.lt i hi).1)
   replace ho:=ho_n
   rw[Xih]at ho
   refine Xae (Xew (Z8 _ _ (wr (pa rfl rfl (dm (Xae (?_)))))))
   have hz2:=X2n (l:=l) (λc hc=>by have:=hc9 c hc;unfold Xbh;omega) (k+1) om9
   refine⟨(k+1,ys++[⟨⟨x.f.id,x.f.lev,x.f.size,x.f.fst,c.key⟩,vp,x.vb⟩],va),?_,⟨hx,by omega,hz2,ho,.inr ⟨ys,_,ss,s++[c],B1,rfl,by rw[hR2],⟨hb1,hSn⟩,hy,⟨q1,q2,q3,q4,by rw[Xrm],q5,by simp,hl.mono hb1⟩,hl⟩⟩,by simp only [];omega⟩
   dsimp only
   rw[hR2];exact zz9
  exact Xfr
 have hnx9:xs.length≤30000:=by have h8:=hI.len;have h9:=(Xfn l k hk1).2;omega
 obtain⟨Bn,hBn,_,hy⟩:=hI.all hx.size
 rw[Xpg om9]at hy
 obtain⟨B2,hB2,hvf,hS,hP⟩:∃B2,w.heap.size≤B2∧(∀k,va.ownBlock=some k->k<B2)∧Sz B2 _∧MkP w.heap.size B2 lv next 0 xs (Xam l) _:=⟨_,hx.size,λk hk=>(ho.lt k hk).2,⟨Nat.le_refl _⟩,MkP.zero hy⟩
 clear hy
 refine Xah (Z4 _ _ (ws λ_ Z16=>ws λ_ Z17=>wr (dm ?_)))
 refine dv 161 7 (ho.arr ir9).sl (dm (de Z17 (Xab ?_)))
 refine Xaj (G:=Nat×List Md) (λ(i,ms)=>[(8,va),(72,va),(73,I ↑xs.length),(74,I ↑i)]) (λ(i,ms) w'=>Ext w w'∧i≤xs.length∧ms.length=xs.length∧Vc.Own Md.cs 7 161 w.heap.size w' va ms∧MkP w.heap.size B2 lv next i ms (Xam l) w'∧Sz B2 w') (λ(i,ms)=>xs.length-i) (0,xs) ?_ ?_ ?_
 ·exact zz4
 ·exact⟨hx,Nat.zero_le _,rfl,ho,hP,hS⟩
 intro X19 g19 w19 hF19
 obtain⟨i,ms⟩:=g19
 clear hx ho hS hP
 obtain⟨hx,hi1,hml,ho,hP,hS⟩:=hF19
 refine ws λ_ Z18=>wr (dp (Xaf rfl rfl) (de Z18 (ws λ_ Z19=>wi (λc4=>?_) λc4=>?_)))
 ·obtain⟨x,hk⟩:∃x,ms[i]?=some x:=gtE
  obtain⟨sg,hsi⟩:∃sg,(Xam l)[i]?=some sg:=⟨_,List.getElem?_eq_getElem (by have:=hP.1;omega)⟩
  have hLx:=(hP.2 i x sg hk hsi).2 (Nat.le_refl _)
  have hsl9:=X2m (Xdq l) (List.mem_of_getElem? hsi)
  have hml9:ms≠[]:=λe=>by rw[e]at hk;simp at hk
  refine Xaa (Z19 _ _ (ws λ_ Z20=>Xab (ws λ_ Z21=>wr (dm (da (de Z21 (ws λ_ Z22=>wr (dm (dm ?_)))))))))
  refine Xa2 (v:=ptr (base va).1 (i*7+0)) rfl (Xba (i:=i) (e:=161) (k:=7) kr9 ho.sl rfl rfl om9) (by rw[Xcv ho hml9];show ptr _ (0+_)=_;rw[Nat.zero_add];rfl) (da (de Z22 (ws λ_ Z23=>wr (dm ?_))))
  refine dz rfl (df 5 rfl (dl rfl (((mdR ho).row hk).at rfl) ?_))
  have hS0:=hS.le
  refine cG (Xvg sg x.vl _ ((hLx.2.2.2.2.2.2.2.ext (Ext.refl _)).arr ir9) om9) RX.all λu20 w20 x20 hf20=>?_
  have hsz20:=hx.size
  replace ho:=ho.ext x20
  replace hP:=hP.ext x20
  replace hS:=hS.ext x20
  replace hx:=hx.trans x20
  obtain⟨vb2,rfl,hbd⟩:=hf20
  refine dm ?_
  refine dx rfl rfl (dx rfl rfl (da (da (de Z23 (ws λ_ Z24=>ws λ_ Z25=>wr (dm ?_))))))
  refine dp (Xas rfl rfl) (de Z25 (wi (λc5=>?_) λc5=>?_))
  ·refine ws λ_ Z26=>wr (dm (da (da (de Z26 (Xad ?_)))))
   refine rt ?_
   exact⟨_,rfl,hx,.inl ⟨sg,List.mem_of_getElem? hsi,c5,rfl⟩⟩
  have hbz:Xbz sg=0:=Decidable.of_not_not c5
  obtain⟨hab,hge⟩:=hbd hbz
  have hge2:=Nat.le_trans hS0 hge
  refine Xaa (Z24 _ _ (wr (dm (dm (dm (dm ?_))))))
  refine dv 5 1 hab.sl (dz rfl (df 6 rfl ?_))
  refine Xa3 (enc:=Md.cs) (sz:=7) (l:=ms) (i:=i) (j:=6) (x:=⟨x.f,x.vl,vb2⟩) (vs:=[vb2]) ir9 rfl ho rfl rfl (by exact hab.sl.cells) kr9 (by first|omega|(simp;done)|(simp;omega)|(rw[List.length_set];omega)) (by rw[List.getD_eq_getElem?_getD,hk];rfl) (Nat.le_of_ble_eq_true rfl) (by intro u hu;rw[List.mem_singleton.1 hu];exact hab.sl.one) (.inl rfl) (λw21 x21 xs21 ho_n=>?_)
  replace hP:=hP.mod ho hvf x21
  replace hab:=hab.mod x21 (λ_ e=>by have:=hvf _ e;omega)
  replace hS:=hS.mod x21 trivial
  replace hx:=hx.own x21 (λi hi=>(ho.lt i hi).1)
  replace ho:=ho_n
  refine dz rfl (df 0 rfl (df 2 rfl ?_))
  refine Xa3 (enc:=Md.cs) (sz:=7) (l:=(ms.set i ⟨x.f,x.vl,vb2⟩)) (i:=i) (j:=2) (x:=⟨⟨x.f.id,x.f.lev,↑(recS (tblS sg)).length,x.f.fst,x.f.lst⟩,x.vl,vb2⟩) (vs:=[I ↑(recS (tblS sg)).length]) ir9 rfl ho rfl rfl rfl kr9 (by first|omega|(simp;done)|(simp;omega)|(rw[List.length_set];omega)) (by rw[List.getD_eq_getElem?_getD,List.getElem?_set_self om9];rfl) (Nat.le_of_ble_eq_true rfl) (by intro u hu;rw[List.mem_singleton.1 hu];rfl) (.inl rfl) (λw22 x22 xs22 ho_n=>?_)
  replace hP:=hP.mod ho hvf x22
  replace hab:=hab.mod x22 (λ_ e=>by have:=hvf _ e;omega)
  replace hS:=hS.mod x22 trivial
  replace hx:=hx.own x22 (λi hi=>(ho.lt i hi).1)
  replace ho:=ho_n
  rw[List.set_set]at ho
  refine de Z20 (wr (pa rfl rfl (dm (Xae (?_)))))
  exact⟨(i+1,_),zz4,⟨hx,by omega,by rw[List.length_set];exact hml,ho,hP.step hk hsi hbz hab hge2,hS⟩,by simp only [];omega⟩
 refine Xah (Z16 _ _ (ws λ_ Z27=>wr (dm (da (da (de Z27 (Xad ?_)))))))
 refine rt ?_
 exact⟨_,rfl,hx,.inr ⟨va,ms,rfl,ho,hP.fin om9 hB2⟩⟩
@[reducible] def Yaq (q:Md×Str):List Value:=q.1.cs
def Xbs : List (Int×Str)->Dsk->Int×Dsk
 | [],D=>(0,D)
 | q :: r,D=>if(D.save (Xbc q.1) q.2).1≠0 then D.save (Xbc q.1) q.2 else Xbs r (D.save (Xbc q.1) q.2).2
theorem Xnn {qs:List (Int×Str)}{k:Nat}{q:Int×Str}{D:Dsk}(h:qs[k]?=some q)(he:(D.save (Xbc q.1) q.2).1≠0):Xbs (qs.drop k) D=D.save (Xbc q.1) q.2:=by
 rw[Xcs h];unfold Xbs;rw[if_pos he]
theorem Xrn {qs:List (Int×Str)}{k:Nat}{q:Int×Str}{D:Dsk}(h:qs[k]?=some q)(he:(D.save (Xbc q.1) q.2).1=0):Xbs (qs.drop k) D=Xbs (qs.drop (k+1)) (D.save (Xbc q.1) q.2).2:=by
 rw[Xcs h];rw[Xbs.eq_2,if_neg (by rw[he];decide)]
theorem Xls {n:Int}(h:Xai n):(Lib.itoa n).length≤21:=Lib.itoa_length_le n h.1 (by have:=h.2;omega)
theorem Xno {n:Int}(h:Xai n):(Xbc n).length≤22:=by have:=Xls h;unfold Xbc;simp;omega
theorem X5j (κ:Nat->Nat)(bs bd bl bo bm:Nat)(vf:Value)(L:Led)(D:Dsk)(V:Vs)(ts:List Tb)(mem:List Cell)(dead:Bool)(qs:List (Md×Str))(va:Value)(w:World)(h:StE κ bs bd bl bo bm vf L D V ts mem dead w)(hg:GV w)(hgs:∀k,gvS k->κ k=0)(ha:Arr Md.cs 7 w va (qs.map (·.1)))(hal:qs.length≤40000)(hak:qs≠[]->κ (base va).1=0)(hq:∀q∈qs,Arr encB 1 w q.1.vb q.2∧q.2.length≤2001000020∧Xai q.1.f.id∧(q.2≠[]->κ (base q.1.vb).1=0)∧q.1.vl.oneCell'=true) :
  Calls Tryz.prog 93 [ptr bs 0,va].toArray w (Does (λk=>κ k=1) w (λu w'=>u=I (Xbs (qs.map λq=>(q.1.f.id,q.2)) D).1∧∃κ',(∀k,k<w.heap.size->κ' k=κ k)∧StE κ' bs bd bl bo bm vf L (Xbs (qs.map λq=>(q.1.f.id,q.2)) D).2 V ts mem dead w')):=by
 refine cw Tryz.func93 ?_
 have hx:=Vc.Mod.refl (λk=>κ k=1) w
 have hS:=h
 have hlt0:=h.lt
 have hmlen:(qs.map (·.1)).length=qs.length:=List.length_map _
 refine ws λ_ Z1=>wr (da (de Z1 (ws λ_ Z2=>ws λ_ Z3=>wr (dm ?_))))
 refine dv 161 7 (ha.mod hx (λhl e=>by have e2:κ (base va).1=1:=e;rw[hak (by rintro rfl;exact hl rfl)]at e2;cases e2)).sl (dm (de Z3 (Xab ?_)))
 refine Xaj (G:=Nat×(Nat->Nat)×Dsk) (λ(k,κ1,D1)=>[(0,ptr bs 0),(8,va),(9,I ↑(qs.map (·.1)).length),(10,I ↑k)]) (λ(k,κ1,D1) w'=>Mod (λk=>κ k=1) w w'∧k≤qs.length∧Xbs (qs.map λq=>(q.1.f.id,q.2)) D=Xbs ((qs.map λq=>(q.1.f.id,q.2)).drop k) D1∧(∀k,k<w.heap.size->κ1 k=κ k)∧StE κ1 bs bd bl bo bm vf L D1 V ts mem dead w') (λ(k,κ1,D1)=>qs.length-k) (0,κ,D) ?_ ?_ ?_
 ·exact zz4
 ·exact⟨hx,Nat.zero_le _,rfl,λ_ _=>rfl,hS⟩
 intro X1 g1 w1 hF1
 obtain⟨k,κ1,D1⟩:=g1
 clear hx hS
 obtain⟨hx,hk1,hsv,hmv,hS⟩:=hF1
 refine ws λ_ Z4=>wr (dp (Xaf rfl rfl) (de Z4 (ws λ_ Z5=>wi (λc1=>?_) λc1=>?_)))
 ·obtain⟨q,hk⟩:∃q,qs[k]?=some q:=gtE
  obtain⟨hqa,hql,hqi,hqk,hqo⟩:=hq q (List.mem_of_getElem? hk)
  have hkm:(qs.map (·.1))[k]?=some q.1:=by simp [hk]
  have hq9:((qs.map λq=>(q.1.f.id,q.2)))[k]?=some (q.1.f.id,q.2):=by simp [hk]
  have hnl:=Xno hqi
  have hil:=Xls hqi
  refine Xaa (Z5 _ _ (ws λ_ Z6=>Xab (ws λ_ Z7=>wr (di 161 7 ha.sl rfl (ha.lt hkm) (dq (Xac kr9 rfl rfl ((ha.mod hx (λhl e=>by have e2:κ (base va).1=1:=e;rw[hak (by rintro rfl;exact hl rfl)]at e2;cases e2)).row hkm)) (Xan (cs:=[.int .i64 0,.int .i64 0,.int .i64 0,S [],S [],.slice none 0 0,.slice none 0 0]) rfl kr9 RX.all (λb1 w2 e1 x2 m1=>?_)))))))
  have g1:=hx.ge e1
  have a1_hS:=hS.lt
  replace hS:=hS.ext x2
  replace hx:=hx.ext x2
  refine stA m1 (λw3 x3 xs3 m1=>?_) (h1:=by(intro u hu;simp only [List.mem_cons,List.not_mem_nil,or_false]at hu;rcases hu with e|e|e|e|e|e|e<;>subst e<;>first|rfl|exact hqo|exact hqa.sl.one))
  try dsimp only [Xal,List.set,List.take,List.drop]at m1
  replace hS:=hS.mod x3 (λk9 h9 e9=>by have h2:k9=b1:=e9;have h8:=a1_hS k9 h9;omega)
  replace hx:=hx.o1 x3
  refine de Z7 (ws λ_ Z8=>Xfy (R:=Mod (λk=>κ1 k=1)) Xc5 Xcy kr9 [3,6,9] (.one 0 .p false (.one 1 .p false (.one 2 .p false (.one 3 .l false (.one 4 .p false (.one 5 .p false (.one 6 .l false (.one 8 .p false (.one 9 .l false (.fork (.alt 7 false (.one 10 .x false (.one 11 .x false (.one 12 .p false .nil))) (.alt 10 false (.one 7 .x false (.one 11 .x false (.one 12 .p false .nil))) .stop)))))))))))) kr9 kr9 (λw4 ew4=>?_))
  have x4:=drewx ew4
  clear ew4
  replace hS:=hS.ext x4
  replace m1:=m1.ext x4
  replace hx:=hx.ext x4
  refine Xap (dm (Xae ?_))
  refine Xap (dz rfl (Xae (Xap (df 0 rfl (Xae (Xap (dL rfl (λ_ hR=>((hS.m.mod hR (λe=>by have e2:κ1 bs=1:=e;rw[hS.k0]at e2;cases e2)).at rfl)) (Xae (Xap (df 0 rfl (Xae (Xap (df 0 rfl ?_)))))))))))))
  refine Xae (Xap (dL rfl (λ_ hR=>((m1.mod hR (λe=>by have e2:κ1 b1=1:=e;have:=a1_hS b1 (by rw[e2];decide);omega)).at rfl)) (Xae (Xap (df 6 rfl (Xae (Xap (dL rfl (λ_ hR=>((m1.mod hR (λe=>by have e2:κ1 b1=1:=e;have:=a1_hS b1 (by rw[e2];decide);omega)).at rfl)) (Xae (Xfq ?_))))))))))
  refine Xd1 ?_ ?_
  ·refine cP (Xvu q.1.f.id _ (hg.mod hx (λk hk e=>by have e2:κ k=1:=e;rw[hgs k hk]at e2;cases e2)) hqi om9) RX.mod λw5 x5=>?_
   replace hS:=hS.ext x5
   replace hx:=hx.ext x5
   refine Xae (Xap ?_)
   refine Xd2 (e:=82) (sz:=1) (zs:=[.slice none 0 0]) (pv:=[(0,?a6_0)]) (cs:=[?a6_0]) rfl kr9 ⟨rfl,rfl⟩ kr9 rfl ?h6 ?f6 RX.mod (λb2 w6 e2 x6 m2=>?k6)
   case h6=>refine⟨rfl,?_,trivial⟩<;>(conv=>lhs;whnf)
   case f6=>simp [Xcq,Xal,List.replicate,hqa.sl.cells]
   have g2:=hx.ge e2
   have a2_hS:=hS.lt
   replace hS:=hS.ext x6
   replace hx:=hx.ext x6
   refine Xae (Xap ?_)
   have hszb:=hx.size
   obtain⟨F,hD,hFH,hback⟩:=hS.ld.disk
   refine Xc6 rfl kr9 (Xu1 F bd D1 (Xbc q.1.f.id) q.2 q.1.vb _ _ hD (m2.arr (enc:=λx:Value=>[x]) (sz:=1) (l:=[q.1.vb]) rfl ir9 rfl sp9) (hqa.mod hx (λhl e=>by have e2:κ (base q.1.vb).1=1:=e;rw[hqk hl]at e2;cases e2)) hql om9) rfl (.inr λw9 h9=>h9.mono (λi hi _=>hFH i hi)) (λu7 w7 x7 hf7=>?_)
   have hsz7:=hx.size
   replace hx:=hx.own x7 (λi hi hlt=>(by have e1:=hFH i hi;rw[←hmv i hlt];exact e1))
   obtain⟨rfl,hd9⟩:=hf7
   have hS2:=hS.ledger (x7.mono (λi hi _=>hFH i hi)) (hback _ _ x7 hd9)
   have hmv2:=λk (hk:k<w.heap.size)=>(Xdu (κ:=κ1) (i:=1) (w':=w7) (Nat.lt_of_lt_of_le hk hszb)).trans (hmv k hk)
   replace hS:=hS2
   refine Xae (Xap (da (Xae ?_)))
   refine Xew (Z8 _ _ (ws λ_ Z9=>wr (dm ?_)))
   refine dp (Xas rfl rfl) (de Z9 (wi (λc2=>?_) λc2=>?_))
   ·refine ws λ_ Z10=>wr (dm (da (de Z10 (Xad ?_))))
    refine ro ?_
    rw[hsv,Xnn hq9 c2]
    exact⟨_,rfl,hx,rfl,_,hmv2,hS⟩
   refine Xaa (Z6 _ _ (wr (pa rfl rfl (dm (Xae (?_))))))
   exact⟨(k+1,_,_),zz4,⟨hx,by omega,by rw[hsv,Xrn hq9 (Decidable.of_not_not (by first|exact c2|exact c3))],hmv2,hS⟩,by simp only [];omega⟩
  refine Xd1 ?_ ?_
  ·refine Xd2 (e:=82) (sz:=1) (zs:=[.slice none 0 0]) (pv:=[(0,?a13_0)]) (cs:=[?a13_0]) rfl kr9 ⟨rfl,rfl⟩ kr9 rfl ?h13 ?f13 RX.mod (λb3 w8 e3 x8 m3=>?k13)
   case h13=>refine⟨rfl,?_,trivial⟩<;>(conv=>lhs;whnf)
   case f13=>simp [Xcq,Xal,List.replicate,hqa.sl.cells]
   have g3:=hx.ge e3
   have a3_hS:=hS.lt
   replace hS:=hS.ext x8
   replace hx:=hx.ext x8
   refine Xae (Xap (cP (Xvu q.1.f.id _ (hg.mod hx (λk hk e=>by have e2:κ k=1:=e;rw[hgs k hk]at e2;cases e2)) hqi om9) RX.mod λw9 x9=>?_))
   replace hS:=hS.ext x9
   replace m3:=m3.ext x9
   replace hx:=hx.ext x9
   refine Xae (Xap ?_)
   have hszb:=hx.size
   obtain⟨F,hD,hFH,hback⟩:=hS.ld.disk
   refine Xc6 rfl kr9 (Xu1 F bd D1 (Xbc q.1.f.id) q.2 q.1.vb _ _ hD (m3.arr (enc:=λx:Value=>[x]) (sz:=1) (l:=[q.1.vb]) rfl ir9 rfl sp9) (hqa.mod hx (λhl e=>by have e2:κ (base q.1.vb).1=1:=e;rw[hqk hl]at e2;cases e2)) hql om9) rfl (.inr λw9 h9=>h9.mono (λi hi _=>hFH i hi)) (λu10 w10 x10 hf10=>?_)
   have hsz10:=hx.size
   replace hx:=hx.own x10 (λi hi hlt=>(by have e1:=hFH i hi;rw[←hmv i hlt];exact e1))
   obtain⟨rfl,hd9⟩:=hf10
   have hS2:=hS.ledger (x10.mono (λi hi _=>hFH i hi)) (hback _ _ x10 hd9)
   have hmv2:=λk (hk:k<w.heap.size)=>(Xdu (κ:=κ1) (i:=1) (w':=w10) (Nat.lt_of_lt_of_le hk hszb)).trans (hmv k hk)
   replace hS:=hS2
   refine Xae (Xap (da (Xae ?_)))
   refine Xew (Z8 _ _ (ws λ_ Z11=>wr (dm ?_)))
   refine dp (Xas rfl rfl) (de Z11 (wi (λc3=>?_) λc3=>?_))
   ·refine ws λ_ Z12=>wr (dm (da (de Z12 (Xad ?_))))
    refine ro ?_
    rw[hsv,Xnn hq9 c3]
    exact⟨_,rfl,hx,rfl,_,hmv2,hS⟩
   refine Xaa (Z6 _ _ (wr (pa rfl rfl (dm (Xae (?_))))))
   exact⟨(k+1,_,_),zz4,⟨hx,by omega,by rw[hsv,Xrn hq9 (Decidable.of_not_not (by first|exact c2|exact c3))],hmv2,hS⟩,by simp only [];omega⟩
  exact Xfr
 refine Xah (Z2 _ _ (ws λ_ Z13=>wr (da (de Z13 (Xad ?_)))))
 refine ro ?_
 rw[hsv,List.drop_of_length_le (by rw[List.length_map];simp at c1;omega)]
 exact⟨_,rfl,hx,rfl,_,hmv,hS⟩
def tabK (κ:Nat->Nat)(bt:Nat)(vl vb:Value):Nat->Nat:=λk=>if k=bt∨k=(base vl).1∨k=(base vb).1 then 6 else κ k
theorem Xsm (tbs:List Tb):∀ts:List Tb,(tbs.foldl insT ts).length≤ts.length+tbs.length:=by
 induction tbs with
 | nil=>intro ts;exact Nat.le_refl _
 | cons t r ih=>
  intro ts
  have h1:=ih (insT ts t)
  have h2:(insT ts t).length≤ts.length+1:=by unfold insT;split<;>simp
  show((r.foldl insT (insT ts t)).length≤_)
  simp only [List.length_cons];omega
def Xg5 (ts:List Tb)(gone:List Fi):List Tb:=gone.foldl (λts f=>delT ts (f.lev,f.id)) ts
theorem Xpi {ts:List Tb}{gone:List Fi}{j:Nat}{f:Fi}(h:gone[j]?=some f):Xg5 ts (gone.take (j+1))=delT (Xg5 ts (gone.take j)) (f.lev,f.id):=by unfold Xg5;rw[Xa0 h,List.foldl_append];rfl
section
variable {κ:Nat->Nat}{bs bd bl bo bm:Nat}{vf:Value}{L:Led}{D:Dsk}{V:Vs}{ts:List Tb}{mem:List Cell}{dead:Bool}{w w':World}
theorem StE.addT {t:Tb}(h:StE κ bs bd bl bo bm vf L D V ts mem dead w)(hT:TblE t.bt t.vl t.vb t.cs w)(hn:∀k,tblF t.bt t.vl t.vb k->κ k=0)(m:Vc.Mod (oneB bo) w w')(hm:MapL Tryz.prog 104 kvII pO w' bo (setL (ts.map Tb.kv) t.h (some t.bt))):StE (tabK κ t.bt t.vl t.vb) bs bd bl bo bm vf L D V (insT ts t) mem dead w':=by
 have o:∀k,κ k≠0->tabK κ t.bt t.vl t.vb k=κ k:=λk hk=>by
  unfold tabK
  rw[if_neg]
  intro e;exact hk (hn k e)
 have hr:=h.relab o (λk hk=>by
  unfold tabK at hk
  split at hk
  ·rename_i e;exact hT.lt k e
  ·exact h.lt k hk)
 refine hr.setMap m (by rw[X5d];exact hm) λq hq=>?_
 rcases Xzy hq with rfl|hq
 ·exact⟨hT,λk hk=>by unfold tabK;rw[if_pos hk]⟩
 ·exact⟨hr.tb q hq,hr.k6 q hq⟩
theorem StE.subT {x:Int×Int}(h:StE κ bs bd bl bo bm vf L D V ts mem dead w)(m:Vc.Mod (oneB bo) w w')(hm:MapL Tryz.prog 104 kvII pO w' bo (delL (ts.map Tb.kv) x)):StE κ bs bd bl bo bm vf L D V (delT ts x) mem dead w':=
 h.setMap m (by rw[X5e];exact hm) λq hq=>⟨h.tb q (List.mem_filter.1 hq).1,h.k6 q (List.mem_filter.1 hq).1⟩
end
theorem X5k (κ:Nat->Nat)(bs bd bl bo bm:Nat)(vf:Value)(L:Led)(D:Dsk)(V:Vs)(ts:List Tb)(mem:List Cell)(dead:Bool)(V':Vs)(vf':Value)(qs:List (Md×List Cell))(va:Value)(gone:List Fi)(vg:Value)(w:World)(h:StE κ bs bd bl bo bm vf L D V ts mem dead w)(hvf:Arr Fi.cs 5 w vf' V'.fs)(hvk:V'.fs≠[]->κ (base vf').1=0)(ha:Arr Md.cs 7 w va (qs.map (·.1)))(hal:qs.length≤40000)(hak:qs≠[]->κ (base va).1=0)(hq:∀q∈qs,Arr encB 1 w q.1.vb (recS (tblS q.2))∧Xbz q.2=0∧Xai q.1.f.id∧Xai q.1.f.lev∧(recS (tblS q.2)≠[]->κ (base q.1.vb).1=0)∧q.1.vl.oneCell'=true)(hg:Arr Fi.cs 5 w vg gone)(hgl:gone.length≤40000)(hgk:gone≠[]->κ (base vg).1=0)(hgi:∀f∈gone,Xai f.id∧Xai f.lev)(htl:ts.length≤1000000) :
  Calls Tryz.prog 95 [ptr bs 0,.agg ⟨[I V'.next,vf']⟩,va,vg].toArray w (Does (λk=>κ k≠0) w (λu w'=>u=I 0∧∃κ' ts',(∀k,k<w.heap.size->(V'.fs≠[]->k≠(base vf').1)->κ' k=κ k)∧(∃tbs:List Tb,tbs.map (λt=>(t.h,t.cs))=qs.map (λq=>((q.1.f.lev,q.1.f.id),q.2))∧ts'=Xg5 (tbs.foldl insT ts) gone)∧StE κ' bs bd bl bo bm vf' L D V' ts' mem dead w')):=by
 refine cw Tryz.func95 ?_
 have hx:=Vc.Mod.refl (λk=>κ k≠0) w
 have hS:=h
 have hmlen:(qs.map (·.1)).length=qs.length:=List.length_map _
 refine ws λ_ Z1=>wr (Xbf rfl rfl rfl RX.all (λb1 w1 e1 x1 m1=>?_))
 have g1:=hx.ge e1
 have a1_hS:=hS.lt
 replace hS:=hS.ext x1
 replace hx:=hx.ext x1
 refine da (de Z1 (ws λ_ Z2=>ws λ_ Z3=>wr (dm ?_)))
 refine dv 161 7 (ha.mod hx (λhl e=>e (hak (by rintro rfl;exact hl rfl)))).sl (dm (de Z3 (Xab ?_)))
 refine Xaj (G:=Nat×(Nat->Nat)×List Tb) (λ(k,κ1,tbs)=>[(0,ptr bs 0),(3,vg),(5,ptr b1 0),(15,va),(16,I ↑(qs.map (·.1)).length),(17,I ↑k)]) (λ(k,κ1,tbs) w'=>Mod (λk=>κ k≠0) w w'∧k≤qs.length∧tbs.length=k∧tbs.map (λt=>(t.h,t.cs))=(qs.take k).map (λq=>((q.1.f.lev,q.1.f.id),q.2))∧(∀k,k<w.heap.size->κ1 k=κ k)∧StE κ1 bs bd bl bo bm vf L D V (tbs.foldl insT ts) mem dead w'∧Blk w' b1 [I V'.next,vf'] 56) (λ(k,κ1,tbs)=>qs.length-k) (0,κ,[]) ?_ ?_ ?_
 ·exact zz6
 ·exact⟨hx,Nat.zero_le _,rfl,rfl,λ_ _=>rfl,hS,m1⟩
 intro X2 g2 w2 hF2
 obtain⟨k,κ1,tbs⟩:=g2
 clear hx hS m1
 obtain⟨hx,hk1,htl9,htb,hmv,hS,m1⟩:=hF2
 refine ws λ_ Z4=>wr (dp (Xaf rfl rfl) (de Z4 (ws λ_ Z5=>wi (λc1=>?_) λc1=>?_)))
 ·obtain⟨q,hk⟩:∃q,qs[k]?=some q:=gtE
  obtain⟨hqa,hqb,hqi,hqlv,hqk,hqo⟩:=hq q (List.mem_of_getElem? hk)
  have hkm:(qs.map (·.1))[k]?=some q.1:=by simp [hk]
  have hwsz:=hx.size
  refine Xaa (Z5 _ _ (ws λ_ Z6=>Xab (ws λ_ Z7=>wr (di 161 7 ha.sl rfl (ha.lt hkm) (dq (Xac kr9 rfl rfl ((ha.mod hx (λhl e=>e (hak (by rintro rfl;exact hl rfl)))).row hkm)) (Xan (cs:=[.int .i64 0,.int .i64 0,.int .i64 0,S [],S [],.slice none 0 0,.slice none 0 0]) rfl kr9 RX.all (λb2 w3 e2 x3 m2=>?_)))))))
  have g2:=hx.ge e2
  have n2_1:=m1.ltb e2
  have a2_hS:=hS.lt
  replace hS:=hS.ext x3
  replace m1:=m1.ext x3
  replace hx:=hx.ext x3
  refine stA m2 (λw4 x4 xs4 m2=>?_) (h1:=by(intro u hu;simp only [List.mem_cons,List.not_mem_nil,or_false]at hu;rcases hu with e|e|e|e|e|e|e<;>subst e<;>first|rfl|exact hqo|exact hqa.sl.one))
  try dsimp only [Xal,List.set,List.take,List.drop]at m2
  replace hS:=hS.mod x4 (λk9 h9 e9=>by have h2:k9=b2:=e9;first|(have h8:=a2_hS k9 h9;omega)|(have h8:=a3_hS k9 h9;omega)|(have h8:=a1_hS k9 h9;omega))
  try replace m1:=m1.mo x4
  replace hx:=hx.o1 x4
  refine de Z7 (ws λ_ Z8=>wr (df 6 rfl (dl rfl (m2.at rfl) ?_)))
  have hlt1:=hS.lt
  refine cG (X7s q.2 q.1.vb _ (hqa.mod hx (λhl e=>e (hqk hl))) hqb) RX.all λu5 w5 x5 hf5=>?_
  have hsz5:=hx.size
  replace hS:=hS.ext x5
  replace m1:=m1.ext x5
  replace m2:=m2.ext x5
  replace hx:=hx.ext x5
  obtain⟨bt,vl,vb9,rfl,hT,hTf⟩:=hf5
  have hno:∀k,tblF bt vl vb9 k->κ1 k=0:=λk hk=>Decidable.byContradiction λh9=>by have h1:=hTf k hk;have h2:=hlt1 k h9;omega
  refine dm ?_
  refine dx rfl rfl (dx rfl rfl (da (da (de Z8 (ws λ_ Z9=>ws λ_ Z10=>wr (dm ?_))))))
  refine dp (Xas rfl rfl) (de Z10 (wi (λc2=>?_) λc2=>?_))
  ·exact absurd rfl c2
  refine Xaa (Z9 _ _ (Xaq (R:=Mod (oneB bo)) Xc5 Xcy kr9 [3,6,9] [(0,.p,false),(1,.p,false),(2,.p,false),(3,.l,false),(4,.p,false),(5,.p,false),(6,.l,false),(7,.p,false),(8,.p,false),(9,.l,false),(10,.p,false),(11,.p,false),(12,.x,true)] rfl kr9 kr9 (λw6 ew6=>?_)))
  have x6:=drewx ew6
  clear ew6
  replace hS:=hS.ext x6
  replace m1:=m1.ext x6
  replace m2:=m2.ext x6
  replace hT:=hT.ext x6
  replace hx:=hx.ext x6
  refine dm ?_
  refine dz rfl (df 4 rfl (dL rfl (λ_ hR=>((hS.m.mod hR (λe=>hS.mp.at.ne_blk hS.m e)).at rfl)) (df 0 rfl (df 1 rfl (dL rfl (λ_ hR=>((m2.mod hR (λe=>hS.mp.at.ne_blk m2 e)).at rfl)) (df 0 rfl (df 0 rfl (dL rfl (λ_ hR=>((m2.mod hR (λe=>hS.mp.at.ne_blk m2 e)).at rfl)) (db (zs:=[.int .i64 0,.int .i64 0]) (pl:=[(0,1),(1,1)]) (pv:=[(0,_),(1,_)]) (cs:=[_,_]) (dm ?_))))))))))
  refine Xua Xzv (kx:=(q.1.f.lev,q.1.f.id)) (a:=some bt) rfl rfl rfl rfl hS.mp ⟨hqlv,hqi⟩ (by have:=Xsm tbs ts;rw[List.length_map];unfold maxLen;omega) (.inl rfl) (λw7 x7 xs7 hm9=>?_)
  have hS2:=hS.addT (t:=⟨(q.1.f.lev,q.1.f.id),bt,vl,vb9,q.2⟩) hT hno x7 hm9
  clear hT
  have hm1:=m1.mod x7 (λe=>hS.mp.at.ne_blk m1 e)
  replace hx:=hx.own x7 (λi hi hlt=>by have hi2:i=bo:=hi;rw[hi2,h.k2];decide)
  replace hS:=hS2
  have hmv2:∀k,k<w.heap.size->tabK κ1 bt vl vb9 k=κ k:=λk hk=>by
   unfold tabK
   rw[if_neg (λe=>by have:=hTf k e;omega)]
   exact hmv k hk
  replace m1:=hm1
  refine de Z6 (wr (pa rfl rfl (dm (Xae (?_)))))
  exact⟨(k+1,_,tbs++[⟨(q.1.f.lev,q.1.f.id),bt,vl,vb9,q.2⟩]),zz6,⟨hx,by omega,by simp [htl9],by rw[List.map_append,htb,Xa0 hk,List.map_append];rfl,hmv2,by rw[List.foldl_append];exact hS,m1⟩,by simp only [];omega⟩
 have hkq:k=qs.length:=by omega
 subst hkq
 rw[List.take_length]at htb
 refine Xah (Z2 _ _ (ws λ_ Z11=>ws λ_ Z12=>wr (dm ?_)))
 refine dv 62 5 (hg.mod hx (λhl e=>e (hgk hl))).sl (dm (de Z12 (Xab ?_)))
 refine Xaj (G:=Nat) (λj=>[(0,ptr bs 0),(5,ptr b1 0),(45,vg),(46,I ↑gone.length),(47,I ↑j)]) (λj w'=>Mod (λk=>κ k≠0) w w'∧j≤gone.length∧StE κ1 bs bd bl bo bm vf L D V (Xg5 (tbs.foldl insT ts) (gone.take j)) mem dead w'∧Blk w' b1 [I V'.next,vf'] 56) (λj=>gone.length-j) 0 ?_ ?_ ?_
 ·exact zz5
 ·exact⟨hx,Nat.zero_le _,hS,m1⟩
 intro X8 g8 w8 hF8
 revert hF8;revert g8;intro j hF8
 clear hx hS m1
 obtain⟨hx,hj1,hS,m1⟩:=hF8
 refine ws λ_ Z13=>wr (dp (Xaf rfl rfl) (de Z13 (ws λ_ Z14=>wi (λc3=>?_) λc3=>?_)))
 ·obtain⟨f,hk⟩:∃f,gone[j]?=some f:=gtE
  obtain⟨hfi9,hfl9⟩:=hgi f (List.mem_of_getElem? hk)
  refine Xaa (Z14 _ _ (ws λ_ Z15=>Xab (ws λ_ Z16=>wr (di 62 5 hg.sl rfl (hg.lt hk) (dq (Xac kr9 rfl rfl ((hg.mod hx (λhl e=>e (hgk hl))).row hk)) (Xan (cs:=[.int .i64 0,.int .i64 0,.int .i64 0,S [],S []]) rfl kr9 RX.all (λb3 w9 e3 x9 m3=>?_)))))))
  have g3:=hx.ge e3
  have n3_1:=m1.ltb e3
  have a3_hS:=hS.lt
  replace hS:=hS.ext x9
  replace m1:=m1.ext x9
  replace hx:=hx.ext x9
  refine stA m3 (λw10 x10 xs10 m3=>?_)
  try dsimp only [Xal,List.set,List.take,List.drop]at m3
  replace hS:=hS.mod x10 (λk9 h9 e9=>by have h2:k9=b3:=e9;first|(have h8:=a2_hS k9 h9;omega)|(have h8:=a3_hS k9 h9;omega)|(have h8:=a1_hS k9 h9;omega))
  try replace m1:=m1.mo x10
  replace hx:=hx.o1 x10
  refine de Z16 (Xaq (R:=Mod (oneB bo)) Xc5 Xcy kr9 [3,5,7] [(0,.p,false),(1,.p,false),(2,.p,false),(3,.l,false),(4,.p,false),(5,.l,false),(6,.p,false),(7,.l,false),(8,.p,false),(9,.x,false)] rfl kr9 kr9 (λw11 ew11=>?_))
  have x11:=drewx ew11
  clear ew11
  replace hS:=hS.ext x11
  replace m1:=m1.ext x11
  replace m3:=m3.ext x11
  replace hx:=hx.ext x11
  refine dm ?_
  refine dz rfl (df 4 rfl (dL rfl (λ_ hR=>((hS.m.mod hR (λe=>hS.mp.at.ne_blk hS.m e)).at rfl)) (df 1 rfl (dL rfl (λ_ hR=>((m3.mod hR (λe=>hS.mp.at.ne_blk m3 e)).at rfl)) (df 0 rfl (dL rfl (λ_ hR=>((m3.mod hR (λe=>hS.mp.at.ne_blk m3 e)).at rfl)) (db (zs:=[.int .i64 0,.int .i64 0]) (pl:=[(0,1),(1,1)]) (pv:=[(0,_),(1,_)]) (cs:=[_,_]) ?_)))))))
  refine Xub Xzv (kx:=(f.lev,f.id)) rfl rfl rfl hS.mp ⟨hfl9,hfi9⟩ (.inr λ_ h=>h) (λw12 x12 xs12 hm9=>?_)
  have hS2:=hS.subT x12 hm9
  have hm1:=m1.mod x12 (λe=>hS.mp.at.ne_blk m1 e)
  replace hx:=hx.own x12 (λi hi hlt=>by have hi2:i=bo:=hi;rw[hi2,h.k2];decide)
  replace hS:=hS2
  replace m1:=hm1
  refine de Z15 (wr (pa rfl rfl (dm (Xae (?_)))))
  rw[←Xpi hk]at hS
  exact⟨j+1,zz5,⟨hx,by omega,hS,m1⟩,by omega⟩
 refine Xah (Z11 _ _ (ws λ_ Z17=>wr (dm ?_)))
 refine dq (Xac (k:=2) kr9 rfl rfl m1.row) (dz rfl (df 2 rfl (Xim (v:=.agg ⟨[I V'.next,vf']⟩) (vs:=[I V'.next,vf']) rfl rfl rfl rfl kr9 hS.m (Nat.le_of_ble_eq_true rfl) (by intro u hu;rcases List.mem_cons.1 hu with e|hu;subst e;rfl;rw[List.mem_singleton.1 hu];exact hvf.sl.one) (.inl rfl) (λw13 x13 xs13 hm9=>?_))))
 have hS2:=hS.setV (V':=V') (vf':=vf') x13 hm9 (hvf.mod hx (λhl e=>e (hvk hl))) (λhl=>(hmv _ (hvf.base_lt dc9 hl)).trans (hvk hl))
 replace hx:=hx.own x13 (λi hi hlt=>by have hi2:i=bs:=hi;rw[hi2,h.k0];decide)
 replace hS:=hS2
 refine de Z17 (ws λ_ Z18=>wr (da (de Z18 (Xad ?_))))
 refine ro ?_
 rw[List.take_of_length_le om9]at hS
 refine⟨_,rfl,hx,rfl,_,_,?_,⟨tbs,htb,rfl⟩,hS⟩
 intro k hk hkn
 split
 ·exact hmv k hk
 ·rename_i h9;unfold setK;rw[if_neg (hkn h9)];exact hmv k hk
end Go.Proofs.YtiooodckiddpmaaGreatDoor
