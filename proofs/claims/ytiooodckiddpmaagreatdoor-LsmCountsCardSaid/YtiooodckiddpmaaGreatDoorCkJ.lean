/-
 A part of the proof: EmR BgA KnA LwN GvR LwT LwC.
-/
import Derived.Test.YtiooodckiddpmaaGreatDoorCkA
import Derived.Test.YtiooodckiddpmaaGreatDoorChecked
import Derived.KernelRfl
import Derived.Test.YtiooodckiddpmaaGreatDoorCkI
import Derived.Test.YtiooodckiddpmaaGreatDoorRows
import Derived.Lib.LaidTab
set_option maxRecDepth 100000
set_option maxHeartbeats 4000000
set_option linter.unusedVariables false
set_option linter.unusedSimpArgs false
namespace Go.Proofs.YtiooodckiddpmaaGreatDoor.Em
open Go.Vc Go.Sp
attribute [local irreducible] W XW Dw DwT
structure RStE (w:World)(bs bd bl bm:Nat)(room:Int):Prop where
 s:Blk w bs [ptr bd 0,ptr bl 0,I 1,.slice none 0 0,.slice none 0 0,ptr bm 0,B false] 69
 l:Blk w bl [ptr bd 0,S [115],I 0,.slice none 0 0,.slice none 0 0,B false] 135
 d:Blk w bd [I room,.slice none 0 0,I (-1)] 138
theorem rdiskNew_w (room:Int)(w:World)(h0:0≤room)(h1:room≤1073741824) :
  Calls Tryz.prog 34 [I room].toArray w (Gives w (λu w'=>∃bd,u=.tuple #[ptr bd 0,I 0]∧Blk w' bd [I room,.slice none 0 0,I (-1)] 138)):=by
 refine cw Tryz.func34 ?_
 have hx:=Ext.refl w
 refine ws λ_ Z1=>wr (da (da (de Z1 (ws λ_ Z2=>ws λ_ Z3=>wr (dm ?_)))))
 refine dp (Xaf rfl rfl) (dm ?_)
 refine Xag 6 rfl (λc1=>?_) (λc1=>?_)
 ·omega
 refine dm ?_
 refine dp (Xaw rfl rfl) (dk' (de Z3 ?_))
 refine wi (λc2=>?_) λc2=>?_
 ·omega
 refine Xaa (Z2 _ _ (ws λ_ Z4=>wr (dm ?_)))
 refine db (zs:=[.int .i64 0,.slice none 0 0,.int .i64 0]) (pl:=[(0,1),(1,1),(2,1)]) (pv:=[(0,_),(2,_)]) (cs:=[_,.slice none 0 0,_]) ?_
 refine Xbf rfl rfl rfl RX.all (λb1 w1 e1 x1 m1=>?_)
 have g1:=hx.ge e1
 replace hx:=hx.trans x1
 refine da (da (de Z4 (Xad ?_)))
 refine rt ?_
 exact⟨_,rfl,hx,b1,rfl,m1⟩
theorem X6e (bd:Nat)(room:Int)(s:Str)(w:World)(hd:Blk w bd [I room,.slice none 0 0,I (-1)] 138) :
  Calls Tryz.prog 227 [ptr bd 0,S s].toArray w (Pure w (.tuple #[I 0,B false])):=by
 refine cw Tryz.func227 ?_
 have hx:=Ext.refl w
 refine ws λ_ Z1=>wr (da (da (de Z1 (ws λ_ Z2=>wr (da (de Z2 (ws λ_ Z3=>Xab ?_)))))))
 refine Xaj (G:=Unit) (λuu=>[(0,ptr bd 0),(1,S s),(4,I 0),(5,.bool false),(6,I 0)]) (λuu w'=>Ext w w'∧True) (λuu=>0) () ?_ ?_ ?_
 ·exact zz5
 ·exact⟨hx,trivial⟩
 intro X1 g1 w1 hF1
 revert hF1;revert g1;intro uu hF1
 clear hx
 obtain⟨hx,htr⟩:=hF1
 refine ws λ_ Z4=>ws λ_ Z5=>wr (dm (dm ?_))
 refine dz rfl (df 1 rfl (dl rfl ((hd.ext hx).at rfl) (dv 226 3 (Arr.nil (enc:=λx:List Value=>x) (sz:=3) (w:=w)).sl (dp (Xaf rfl rfl) (dm ?_)))))
 refine Xag 14 rfl (λc1=>?_) (λc1=>?_)
 ·exact absurd c1 dc9
 iterate 10 refine dk ?_
 refine dk' (de Z5 ?_)
 refine W_f rfl (Xah (Z3 _ _ (ws λ_ Z6=>Xaq (R:=Ext) Ext.refl (λ_ _ _=>Ext.trans) kr9 [5,12,16] [(0,.p,false),(1,.p,false),(2,.p,false),(3,.p,false),(4,.p,false),(5,.l,false),(6,.p,false),(7,.p,false),(8,.p,false),(9,.p,false),(10,.p,false),(11,.p,false),(12,.l,false),(13,.p,false),(14,.p,false),(15,.p,false),(16,.l,false),(17,.p,false),(18,.p,false),(19,.p,false),(20,.p,false),(21,.p,false)] rfl kr9 kr9 (λw2 ew2=>?_))))
 have x2:=drewx ew2
 clear ew2
 replace hx:=hx.trans x2
 iterate 3 refine dm ?_
 refine dz rfl (df 1 rfl (dL rfl (λ_ hR=>((hd.ext (hx.trans hR)).at rfl)) (dv 226 3 (Arr.nil (enc:=λx:List Value=>x) (sz:=3) (w:=w)).sl (dp (Xaf rfl rfl) (dm ?_)))))
 refine Xag 36 rfl (λc2=>?_) (λc2=>?_)
 ·exact absurd c2 dc9
 iterate 10 refine dk ?_
 refine dk' ?_
 refine da (da (de Z6 (Xad ?_)))
 refine rt ?_
 exact⟨rfl,hx⟩
theorem Xxy (bd:Nat)(room:Int)(s:Str)(w:World)(hd:Blk w bd [I room,.slice none 0 0,I (-1)] 138) :
  Calls Tryz.prog 232 [ptr bd 0,S s].toArray w (Pure w (.tuple #[.slice none 0 0,I 7])):=by
 refine cw Tryz.func232 ?_
 have hx:=Ext.refl w
 refine ws λ_ Z1=>wr (da (da (de Z1 (ws λ_ Z2=>wr (dm (dm ?_))))))
 refine cP (X6e bd room s _ (hd.ext hx)) RX.all λw1 x1=>?_
 replace hx:=hx.trans x1
 refine dm ?_
 refine dx rfl rfl (dx rfl rfl (da (da (de Z2 (ws λ_ Z3=>ws λ_ Z4=>wr (dm ?_))))))
 refine dn (de Z4 ?_)
 refine W_t rfl (ws λ_ Z5=>wr (da (da (de Z5 (Xad ?_)))))
 refine rt ?_
 exact⟨rfl,hx⟩
theorem X2z (bl bd:Nat)(room:Int)(s:Str)(w:World)(hl:Blk w bl [ptr bd 0,S [115],I 0,.slice none 0 0,.slice none 0 0,B false] 135)(hd:Blk w bd [I room,.slice none 0 0,I (-1)] 138) :
  Calls Tryz.prog 230 [ptr bl 0,S s].toArray w (Pure w (B false)):=by
 refine cw Tryz.func230 ?_
 have hx:=Ext.refl w
 refine ws λ_ Z1=>wr (da (de Z1 (ws λ_ Z2=>wr (dm ?_))))
 refine dz rfl (df 0 rfl (dl rfl ((hl.ext hx).at rfl) (dm ?_)))
 refine cP (Xxy bd room s _ (hd.ext hx)) RX.all λw1 x1=>?_
 replace hx:=hx.trans x1
 refine dm ?_
 refine dx rfl rfl (dx rfl rfl (da (da (de Z2 (ws λ_ Z3=>wr (dm ?_))))))
 refine dp (Xa9 rfl rfl) (da (de Z3 (Xad ?_)))
 refine ro ?_
 exact⟨rfl,hx⟩
theorem X0t (bl bd:Nat)(room:Int)(w:World)(hl:Blk w bl [ptr bd 0,S [115],I 0,.slice none 0 0,.slice none 0 0,B false] 135)(hd:Blk w bd [I room,.slice none 0 0,I (-1)] 138) :
  Calls Tryz.prog 231 [ptr bl 0].toArray w (Pure w (I 0)):=by
 refine cw Tryz.func231 ?_
 have hx:=Ext.refl w
 refine ws λ_ Z1=>wr (da (de Z1 (ws λ_ Z2=>ws λ_ Z3=>wr (dm (dm ?_)))))
 refine dz rfl (df 1 rfl (dl rfl ((hl.ext hx).at rfl) (dp (Xce rfl rfl (by first|(simp;done)|(simp;omega)|omega)) (cP (X2z bl bd room _ _ (hl.ext hx) (hd.ext hx)) RX.all λw1 x1=>?_))))
 replace hx:=hx.trans x1
 refine dn (de Z3 ?_)
 refine W_t rfl (ws λ_ Z4=>wr (da (de Z4 (Xad ?_))))
 refine ro ?_
 exact⟨rfl,hx⟩
theorem X6f (bl bd:Nat)(w:World)(hl:Blk w bl [ptr bd 0,S [115],I 0,.slice none 0 0,.slice none 0 0,B false] 135) :
  Calls Tryz.prog 31 [ptr bl 0].toArray w (Pure w (I 0)):=by
 refine cw Tryz.func31 ?_
 have hx:=Ext.refl w
 refine ws λ_ Z1=>wr (da (de Z1 (ws λ_ Z2=>?_)))
 refine Xaq (R:=Ext) Ext.refl (λ_ _ _=>Ext.trans) kr9 [3,7] [(0,.p,false),(1,.p,false),(2,.p,false),(3,.l,false),(4,.p,false),(5,.p,false),(6,.p,false),(7,.l,false),(8,.p,false),(9,.p,false),(10,.p,false)] rfl kr9 kr9 (λw1 ew1=>?_)
 have x1:=drewx ew1
 clear ew1
 replace hx:=hx.trans x1
 refine dm ?_
 refine dz rfl (df 2 rfl (dL rfl (λ_ hR=>((hl.ext (hx.trans hR)).at rfl)) (dm ?_)))
 refine dz rfl (df 4 rfl (dL rfl (λ_ hR=>((hl.ext (hx.trans hR)).at rfl)) (dv 82 1 (Arr.nil (enc:=λx:List Value=>x) (sz:=3) (w:=w)).sl (dp (Xa7 (a:=0) (b:=0) rfl rfl (by simp [Xai])) (da (de Z2 (Xad ?_)))))))
 refine ro ?_
 exact⟨rfl,hx⟩
theorem Xl2 (bd:Nat)(room:Int)(w:World)(hd:Blk w bd [I room,.slice none 0 0,I (-1)] 138) :
  Calls Tryz.prog 147 [ptr bd 0,S [115]].toArray w (Gives w (λu w'=>∃bl,u=.tuple #[ptr bl 0,I 0]∧Blk w' bl [ptr bd 0,S [115],I 0,.slice none 0 0,.slice none 0 0,B false] 135)):=by
 refine cw Tryz.func147 ?_
 have hx:=Ext.refl w
 refine ws λ_ Z1=>wr (da (da (de Z1 (ws λ_ Z2=>ws λ_ Z3=>wr (dm ?_)))))
 refine dp (Xa4 kr9 rfl rfl) (dm ?_)
 refine Xag 13 rfl (λc1=>?_) (λc1=>?_)
 ·exact absurd c1 sp9
 refine dm ?_
 refine dt rfl (dp (Xaf rfl rfl) (dk' ?_))
 refine dm ?_
 refine Xag 18 rfl (λc2=>?_) (λc2=>?_)
 ·exact absurd c2 dc9
 refine dm ?_
 refine dt rfl (dp (Xaw rfl rfl) (dk' (de Z3 ?_)))
 refine wi (λc3=>?_) λc3=>?_
 ·exact absurd c3 dc9
 refine Xaa (Z2 _ _ (ws λ_ Z4=>wr (dm (dm ?_))))
 refine db (zs:=[.pointer none,S [],.int .i64 0,.slice none 0 0,.slice none 0 0,B false]) (pl:=[(0,1),(1,1),(2,1),(3,1),(4,1),(5,1)]) (pv:=[(0,_),(1,_)]) (cs:=[_,_,.int .i64 0,.slice none 0 0,.slice none 0 0,B false]) ?_
 refine Xbf rfl rfl rfl RX.all (λb1 w1 e1 x1 m1=>?_)
 have g1:=hx.ge e1
 replace hx:=hx.trans x1
 refine da (de Z4 (ws λ_ Z5=>wr (da (de Z5 (ws λ_ Z6=>ws λ_ Z7=>wr (dm (dm ?_)))))))
 refine dp (Xce rfl rfl (by first|(simp;done)|(simp;omega)|omega)) (cP (X2z b1 bd room _ _ m1 (hd.ext hx)) RX.all λw2 x2=>?_)
 replace m1:=m1.ext x2
 replace hx:=hx.trans x2
 refine de Z7 (W_f rfl (Xaa (Z6 _ _ (ws λ_ Z8=>ws λ_ Z9=>wr (dm ?_)))))
 refine dp (Xa9 rfl rfl) (de Z9 (wi (λc4=>?_) λc4=>?_))
 ·refine wr (dm ?_)
  refine cP (X0t b1 bd room _ m1 (hd.ext hx)) RX.all λw3 x3=>?_
  replace m1:=m1.ext x3
  replace hx:=hx.trans x3
  refine da (de Z8 (ws λ_ Z10=>ws λ_ Z11=>wr (dm ?_)))
  refine dp (Xas rfl rfl) (de Z11 (wi (λc5=>?_) λc5=>?_))
  ·exact absurd rfl c5
  refine Xaa (Z10 _ _ (ws λ_ Z12=>wr (dm (dm ?_))))
  refine dp (Xce rfl rfl (by first|(simp;done)|(simp;omega)|omega)) (cP (Xxy bd room _ _ (hd.ext hx)) RX.all λw4 x4=>?_)
  replace m1:=m1.ext x4
  replace hx:=hx.trans x4
  refine dm ?_
  refine dx rfl rfl (dx rfl rfl (da (da (de Z12 (ws λ_ Z13=>ws λ_ Z14=>wr (dm ?_))))))
  refine dp (Xas rfl rfl) (de Z14 (wi (λc6=>?_) λc6=>?_))
  ·refine ws λ_ Z15=>wr (dm (da (da (de Z15 (Xad ?_)))))
   refine rt ?_
   exact⟨_,rfl,hx,b1,rfl,m1⟩
  exact absurd dc9 c6
 exact absurd rfl c4
theorem X6g (bs bd bl bm:Nat)(w:World)(hs:Blk w bs [ptr bd 0,ptr bl 0,I 1,.slice none 0 0,.slice none 0 0,ptr bm 0,B false] 69) :
  Calls Tryz.prog 149 [ptr bs 0].toArray w (Pure w (I 0)):=by
 refine cw Tryz.func149 ?_
 have hx:=Ext.refl w
 refine ws λ_ Z1=>wr (da (de Z1 (ws λ_ Z2=>ws λ_ Z3=>wr (da (de Z3 (Xab ?_))))))
 refine Xaj (G:=Unit) (λuu=>[(0,ptr bs 0),(3,I 0)]) (λuu w'=>Ext w w'∧True) (λuu=>0) () ?_ ?_ ?_
 ·exact zz2
 ·exact⟨hx,trivial⟩
 intro X1 g1 w1 hF1
 revert hF1;revert g1;intro uu hF1
 clear hx
 obtain⟨hx,htr⟩:=hF1
 refine ws λ_ Z4=>ws λ_ Z5=>wr (dm (dm ?_))
 refine dz rfl (df 2 rfl (df 1 rfl (dl rfl ((hs.ext hx).at rfl) (dv 62 5 (Arr.nil (enc:=λv:Value=>[v]) (sz:=5) (w:=w)).sl (dp (Xaf rfl rfl) (de Z5 (wi (λc1=>?_) λc1=>?_)))))))
 ·exact absurd c1 dc9
 refine Xah (Z2 _ _ (ws λ_ Z6=>wr (da (de Z6 (Xad ?_)))))
 refine ro ?_
 exact⟨rfl,hx⟩
theorem X6h (bd:Nat)(room:Int)(w:World)(hd:Blk w bd [I room,.slice none 0 0,I (-1)] 138) :
  Calls Tryz.prog 239 [ptr bd 0].toArray w (Pure w (.slice none 0 0)):=by
 refine cw Tryz.func239 ?_
 have hx:=Ext.refl w
 refine ws λ_ Z1=>wr (da (de Z1 (ws λ_ Z2=>wr (da (de Z2 (ws λ_ Z3=>ws λ_ Z4=>wr (da (de Z4 (Xab ?_)))))))))
 refine Xaj (G:=Unit) (λuu=>[(0,ptr bd 0),(2,.slice none 0 0),(3,.slice none 0 0),(4,I 0)]) (λuu w'=>Ext w w'∧True) (λuu=>0) () ?_ ?_ ?_
 ·exact zz4
 ·exact⟨hx,trivial⟩
 intro X1 g1 w1 hF1
 revert hF1;revert g1;intro uu hF1
 clear hx
 obtain⟨hx,htr⟩:=hF1
 refine ws λ_ Z5=>ws λ_ Z6=>wr (dm (dm ?_))
 refine dz rfl (df 1 rfl (dl rfl ((hd.ext hx).at rfl) (dv 226 3 (Arr.nil (enc:=λx:List Value=>x) (sz:=3) (w:=w)).sl (dp (Xaf rfl rfl) (de Z6 (wi (λc1=>?_) λc1=>?_))))))
 ·exact absurd c1 dc9
 refine Xah (Z3 _ _ (ws λ_ Z7=>wr (dm (da (de Z7 (Xad ?_))))))
 refine ro ?_
 exact⟨rfl,hx⟩
theorem X0u (bd:Nat)(room:Int)(s:Str)(w:World)(hd:Blk w bd [I room,.slice none 0 0,I (-1)] 138) :
  Calls Tryz.prog 152 [ptr bd 0,S s,.slice none 0 0].toArray w (Pure w (I 0)):=by
 refine cw Tryz.func152 ?_
 have hx:=Ext.refl w
 refine ws λ_ Z1=>wr (da (de Z1 (ws λ_ Z2=>ws λ_ Z3=>wr (dm ?_))))
 refine dp (Xa4 kr9 rfl rfl) (de Z3 (wi (λc1=>?_) λc1=>?_))
 ·exact absurd c1 sp9
 refine Xaa (Z2 _ _ (ws λ_ Z4=>wr (dm ?_)))
 refine cP (X6h bd room _ (hd.ext hx)) RX.all λw1 x1=>?_
 replace hx:=hx.trans x1
 refine da (de Z4 (ws λ_ Z5=>ws λ_ Z6=>wr (da (de Z6 (Xab ?_)))))
 refine Xaj (G:=Unit) (λuu=>[(0,ptr bd 0),(1,S s),(2,.slice none 0 0),(7,.slice none 0 0),(8,I 0)]) (λuu w'=>Ext w w'∧True) (λuu=>0) () ?_ ?_ ?_
 ·exact zz5
 ·exact⟨hx,trivial⟩
 intro X2 g2 w2 hF2
 revert hF2;revert g2;intro uu hF2
 clear hx
 obtain⟨hx,htr⟩:=hF2
 refine ws λ_ Z7=>ws λ_ Z8=>wr (dm (dm ?_))
 refine dv 9 1 (Arr.nil (enc:=sEnc) (sz:=1) (w:=w)).sl (dp (Xaf rfl rfl) (de Z8 (wi (λc2=>?_) λc2=>?_)))
 ·exact absurd c2 dc9
 refine Xah (Z5 _ _ (ws λ_ Z9=>wr (da (de Z9 (Xad ?_)))))
 refine ro ?_
 exact⟨rfl,hx⟩
theorem rlsmOpen_w (bd:Nat)(room:Int)(w:World)(hd:Blk w bd [I room,.slice none 0 0,I (-1)] 138) :
  Calls Tryz.prog 77 [ptr bd 0].toArray w (Gives w (λu w'=>∃bs bl bm,u=.tuple #[ptr bs 0,I 0]∧RStE w' bs bd bl bm room)):=by
 refine cw Tryz.func77 ?_
 have hx:=Ext.refl w
 refine ws λ_ Z1=>wr (da (da (de Z1 (ws λ_ Z2=>ws λ_ Z3=>wr (dm ?_)))))
 refine dp (Xa4 kr9 rfl rfl) (de Z3 (wi (λc1=>?_) λc1=>?_))
 ·exact absurd c1 sp9
 refine Xaa (Z2 _ _ (ws λ_ Z4=>wr (dm ?_)))
 refine cG (Xl2 bd room _ (hd.ext hx)) RX.all λu1 w1 x1 hf1=>?_
 have hsz1:=hx.size
 replace hx:=hx.trans x1
 obtain⟨bl,rfl,hl⟩:=hf1
 refine dm ?_
 refine dx rfl rfl (dx rfl rfl (da (da (de Z4 (ws λ_ Z5=>ws λ_ Z6=>wr (dm ?_))))))
 refine dp (Xas rfl rfl) (de Z6 (wi (λc2=>?_) λc2=>?_))
 ·exact absurd rfl c2
 refine Xaa (Z5 _ _ (ws λ_ Z7=>wr (dm (dm ?_))))
 refine db (zs:=[.int .i64 0,.slice none 0 0]) (pl:=[(0,1),(1,1)]) (pv:=[(0,_)]) (cs:=[_,.slice none 0 0]) ?_
 refine db (zs:=[.slice none 0 0]) (pl:=[(0,1)]) (pv:=[]) (cs:=[.slice none 0 0]) ?_
 refine Xbf rfl rfl rfl RX.all (λb1 w2 e1 x2 m1=>?_)
 have g1:=hx.ge e1
 have a1_hl:=hl.lt
 replace hl:=hl.ext x2
 replace hx:=hx.trans x2
 refine db (zs:=[.pointer none,.pointer none,.int .i64 0,.slice none 0 0,.slice none 0 0,.pointer none,B false]) (pl:=[(0,1),(1,1),(2,2),(4,1),(5,1),(6,1)]) (pv:=[(0,_),(1,_),(2,.agg ⟨[_,_]⟩),(4,_)]) (cs:=[_,_,_,_,.slice none 0 0,_,B false]) ?_
 refine Xbf rfl rfl rfl RX.all (λb2 w3 e2 x3 m2=>?_)
 have g2:=hx.ge e2
 have n2_1:=m1.ltb e2
 have a2_hl:=hl.lt
 replace hl:=hl.ext x3
 replace m1:=m1.ext x3
 replace hx:=hx.trans x3
 refine da (de Z7 (ws λ_ Z8=>ws λ_ Z9=>wr (dm ?_)))
 refine dz rfl (df 3 rfl (dl rfl (hl.at rfl) (dv 5 1 (Arr.nil (enc:=encB) (sz:=1) (w:=w)).sl (dp (Xaw rfl rfl) (dm ?_)))))
 refine Xag 37 rfl (λc3=>?_) (λc3=>?_)
 ·exact absurd c3 dc9
 refine dm ?_
 refine dz rfl (df 2 rfl (dl rfl (hl.at rfl) (dp (Xaw rfl rfl) (dk' (de Z9 ?_)))))
 refine wi (λc4=>?_) λc4=>?_
 ·exact absurd c4 dc9
 refine Xaa (Z8 _ _ (ws λ_ Z10=>wr (dm ?_)))
 refine cP (X6g b2 bd bl b1 _ m2) RX.all λw4 x4=>?_
 replace hl:=hl.ext x4
 replace m1:=m1.ext x4
 replace m2:=m2.ext x4
 replace hx:=hx.trans x4
 refine da (de Z10 (ws λ_ Z11=>ws λ_ Z12=>wr (dm ?_)))
 refine dp (Xas rfl rfl) (de Z12 (wi (λc5=>?_) λc5=>?_))
 ·exact absurd rfl c5
 refine Xaa (Z11 _ _ (ws λ_ Z13=>ws λ_ Z14=>wr (dm ?_)))
 refine dz rfl (df 2 rfl (dl rfl (hl.at rfl) (pa rfl rfl (da (de Z14 (Xab ?_))))))
 refine Xaj (G:=Unit) (λuu=>[(0,ptr bd 0),(4,ptr bl 0),(5,I 0),(6,ptr b2 0),(7,I 1)]) (λuu w'=>Ext w w'∧Blk w' bl [ptr bd 0,S [115],I 0,.slice none 0 0,.slice none 0 0,B false] 135∧Blk w' b1 [.slice none 0 0] 215∧Blk w' b2 [ptr bd 0,ptr bl 0,I 1,.slice none 0 0,.slice none 0 0,ptr b1 0,B false] 69∧True) (λuu=>0) () ?_ ?_ ?_
 ·exact zz5
 ·exact⟨hx,hl,m1,m2,trivial⟩
 intro X5 g5 w5 hF5
 revert hF5;revert g5;intro uu hF5
 clear hx hl m1 m2
 obtain⟨hx,hl,m1,m2,htr⟩:=hF5
 refine ws λ_ Z15=>ws λ_ Z16=>wr (dm (dm ?_))
 refine cP (X6f bl bd _ hl) RX.all λw6 x6=>?_
 replace hl:=hl.ext x6
 replace m1:=m1.ext x6
 replace m2:=m2.ext x6
 replace hx:=hx.trans x6
 refine dp (Xci rfl rfl) (de Z16 (wi (λc6=>?_) λc6=>?_))
 ·exact absurd c6 dc9
 refine Xah (Z13 _ _ (ws λ_ Z17=>wr (da (de Z17 (ws λ_ Z18=>ws λ_ Z19=>wr (da (de Z19 (Xab ?_))))))))
 refine Xaj (G:=Unit) (λuu=>[(0,ptr bd 0),(5,I 0),(6,ptr b2 0),(12,.slice none 0 0),(13,I 0)]) (λuu w'=>Ext w w'∧Blk w' bl [ptr bd 0,S [115],I 0,.slice none 0 0,.slice none 0 0,B false] 135∧Blk w' b1 [.slice none 0 0] 215∧Blk w' b2 [ptr bd 0,ptr bl 0,I 1,.slice none 0 0,.slice none 0 0,ptr b1 0,B false] 69∧True) (λuu=>0) () ?_ ?_ ?_
 ·exact zz5
 ·exact⟨hx,hl,m1,m2,trivial⟩
 intro X7 g7 w7 hF7
 revert hF7;revert g7;intro uu hF7
 clear hx hl m1 m2
 obtain⟨hx,hl,m1,m2,htr⟩:=hF7
 refine ws λ_ Z20=>ws λ_ Z21=>wr (dm (dm ?_))
 refine dz rfl (df 2 rfl (df 1 rfl (dl rfl (m2.at rfl) (dv 62 5 (Arr.nil (enc:=λv:Value=>[v]) (sz:=5) (w:=w)).sl (dp (Xaf rfl rfl) (de Z21 (wi (λc7=>?_) λc7=>?_)))))))
 ·exact absurd c7 dc9
 refine Xah (Z18 _ _ (ws λ_ Z22=>wr (dm (dm ?_))))
 refine cP (X0u bd room [116] _ (hd.ext hx)) RX.all λw8 x8=>?_
 replace hl:=hl.ext x8
 replace m2:=m2.ext x8
 replace hx:=hx.trans x8
 refine da (de Z22 (ws λ_ Z23=>ws λ_ Z24=>wr (dm ?_)))
 refine dp (Xas rfl rfl) (de Z24 (wi (λc8=>?_) λc8=>?_))
 ·exact absurd rfl c8
 refine Xaa (Z23 _ _ (ws λ_ Z25=>wr (dm (da (da (de Z25 (Xad ?_)))))))
 refine rt ?_
 exact⟨_,rfl,hx,b2,bl,b1,rfl,⟨m2,hl,hd.ext hx⟩⟩
end Go.Proofs.YtiooodckiddpmaaGreatDoor.Em
namespace Go.Proofs.YtiooodckiddpmaaGreatDoor
open Go.Vc Go.Sp
attribute [local irreducible] W XW Dw DwT
theorem X6i {bs bd bl mo bm ba bn mf n:Nat}(h1:n≤bs)(h2:n≤bl)(h3:n≤mo)(h4:n≤bm)(h5:n≤ba)(h6:n≤bn):∀k,kap0 bs bd bl mo bm ba bn mf k≠0->k=bd∨k=mf∨n≤k:=λk hk=>by
 unfold kap0 at hk
 repeat' split at hk
 all_goals first|omega|exact absurd rfl hk
theorem X6j (pb bd bx mf:Nat)(room:Int)(w:World)(hp0:Blk w pb [ptr bd 0,ptr bx 0,.pointer none,.pointer none] 31)(hd:Blk w bd [I room,.map (some mf),B false,I 0] 122)(hm:EmpM w mf)(hr:Blk w bx [I room,.slice none 0 0,I (-1)] 138)(hw:(dsk0 room).Wf) :
  Calls Tryz.prog 35 [ptr pb 0].toArray w (Does (oneB pb) w (λu w'=>u=B true∧∃κ bs bl bo bm sb,Blk w' pb [ptr bd 0,ptr bx 0,ptr bs 0,ptr sb 0] 31∧StE κ bs bd bl bo bm (.slice none 0 0) led0 (dsk0 room) ⟨1,[]⟩ [] [] false w'∧(∀k,κ k≠0->k=bd∨k=mf∨w.heap.size≤k))):=by
 refine cw Tryz.func35 ?_
 have hx:=Vc.Mod.refl (oneB pb) w
 have hp:=hp0
 have hmfl:=hm.lt
 have hne1:=hp0.ne hd rfl
 have hne2:=Xd9 hm hp0
 have hpl:=hp0.lt
 refine ws λ_ Z1=>wr (da (de Z1 (ws λ_ Z2=>wr (dm ?_))))
 refine dz rfl (df 0 rfl (dl rfl (hp.at rfl) ?_))
 have hszc:=hx.size
 refine cG (Em.lsmOpen_w bd mf room _ hd hm) RX.all λu1 w1 x1 hf1=>?_
 have hsz1:=hx.size
 replace hp:=hp.ext x1
 replace hd:=hd.ext x1
 replace hm:=hm.ext x1
 replace hr:=hr.ext x1
 replace hx:=hx.ext x1
 obtain⟨bs,bl,mo,bm,ba,bn,rfl,hE,k1,k2,k3,k4,k5,k6⟩:=hf1
 have hS:=X87 hE om9 hw
 have hκ:=X6i (bd:=bd) (mf:=mf) (Nat.le_trans hszc k1) (Nat.le_trans hszc k2) (Nat.le_trans hszc k3) (Nat.le_trans hszc k4) (Nat.le_trans hszc k5) (Nat.le_trans hszc k6)
 refine dm ?_
 refine dx rfl rfl (dx rfl rfl (da (da (de Z2 (ws λ_ Z3=>wr (dm ?_))))))
 refine dz rfl (df 1 rfl (dl rfl (hp.at rfl) (cG (Em.rlsmOpen_w bx room _ hr) RX.all λu2 w2 x2 hf2=>?_)))
 have hsz2:=hx.size
 replace hp:=hp.ext x2
 replace hd:=hd.ext x2
 replace hm:=hm.ext x2
 replace hr:=hr.ext x2
 replace hS:=hS.ext x2
 replace hx:=hx.ext x2
 obtain⟨sb,rbl,rbm,rfl,hRS⟩:=hf2
 refine dm ?_
 refine dx rfl rfl (dx rfl rfl (da (da (de Z3 (ws λ_ Z4=>wr (dm (dm (dm (dm ?_)))))))))
 refine dz rfl (df 2 rfl (st1 hp (λw3 x3 xs3 hp=>?_) (hv:=by first|rfl|exact isSl.one hd.sl|exact isSl.one hm.sl|exact isSl.one hr.sl|exact isSl.one hS.sl)))
 try dsimp only [Xal,List.set,List.take,List.drop]at hp
 try replace hd:=hd.mod x3 (by first|assumption|(intro k hk h;have h1:=(hd.lt k hk).1;have h2:k=pb:=h;omega)|(intro k hk h;have h1:=opb_hd k hk;have h2:k=pb:=h;omega)|(intro h;have h2:_=pb:=h;omega)|(intro hl h;have h1:=apb_hd hl;have h2:_=pb:=h;omega))
 try replace hm:=hm.mod x3 (by first|assumption|(intro k hk h;have h1:=(hm.lt k hk).1;have h2:k=pb:=h;omega)|(intro k hk h;have h1:=opb_hm k hk;have h2:k=pb:=h;omega)|(intro h;have h2:_=pb:=h;omega)|(intro hl h;have h1:=apb_hm hl;have h2:_=pb:=h;omega))
 try replace hr:=hr.mod x3 (by first|assumption|(intro k hk h;have h1:=(hr.lt k hk).1;have h2:k=pb:=h;omega)|(intro k hk h;have h1:=opb_hr k hk;have h2:k=pb:=h;omega)|(intro h;have h2:_=pb:=h;omega)|(intro hl h;have h1:=apb_hr hl;have h2:_=pb:=h;omega))
 replace hS:=hS.mod x3 (λk9 h9 e9=>by have h2:k9=pb:=e9;have h8:=hκ k9 h9;omega)
 replace hx:=hx.own x3 (λi hi _=>hi)
 refine dz rfl (df 3 rfl (st1 hp (λw4 x4 xs4 hp=>?_) (hv:=by first|rfl|exact isSl.one hd.sl|exact isSl.one hm.sl|exact isSl.one hr.sl|exact isSl.one hS.sl)))
 try dsimp only [Xal,List.set,List.take,List.drop]at hp
 replace hS:=hS.mod x4 (λk9 h9 e9=>by have h2:k9=pb:=e9;have h8:=hκ k9 h9;omega)
 replace hx:=hx.own x4 (λi hi _=>hi)
 refine de Z4 (ws λ_ Z5=>wr (dm (dm ?_)))
 refine dp (Xa9 rfl rfl) (dm ?_)
 refine Xag 34 rfl (λc1=>?_) (λc1=>?_)
 ·refine dm ?_
  refine dp (Xa4 kr9 rfl rfl) (dm ?_)
  refine dp (Xas rfl rfl) (dp (X6q kr9 rfl rfl) (dk' ?_))
  refine da (de Z5 (Xad ?_))
  refine ro ?_
  exact⟨_,rfl,hx,by simp,_,bs,bl,mo,bm,sb,hp,hS,hκ⟩
 exact absurd rfl c1
theorem X6k (room:Int)(w:World)(h0:0≤room)(h1:room≤1073741824)(hw:(dsk0 room).Wf) :
  Calls Tryz.prog 12 [I room].toArray w (Gives w (λu w'=>∃κ pb bd bx bs bl bo bm sb,u=ptr pb 0∧Blk w' pb [ptr bd 0,ptr bx 0,ptr bs 0,ptr sb 0] 31∧StE κ bs bd bl bo bm (.slice none 0 0) led0 (dsk0 room) ⟨1,[]⟩ [] [] false w'∧(∀k,κ k≠0->w.heap.size≤k)∧κ pb=0∧w.heap.size≤pb)):=by
 refine cw Tryz.func12 ?_
 have hx:=Ext.refl w
 refine ws λ_ Z1=>wr (da (de Z1 (ws λ_ Z2=>wr (dm ?_))))
 have hsza:=hx.size
 refine cG (Em.diskNew_w room _ h0 h1) RX.all λu1 w1 x1 hf1=>?_
 have hsz1:=hx.size
 replace hx:=hx.trans x1
 obtain⟨bd,mf,rfl,hd,hm,hgd,hgm⟩:=hf1
 refine dm ?_
 refine dx rfl rfl (dx rfl rfl (da (da (de Z2 (ws λ_ Z3=>wr (dm ?_))))))
 refine cG (Em.rdiskNew_w room _ h0 h1) RX.all λu2 w2 x2 hf2=>?_
 have hsz2:=hx.size
 replace hd:=hd.ext x2
 replace hm:=hm.ext x2
 replace hx:=hx.trans x2
 obtain⟨bx,rfl,hr⟩:=hf2
 refine dm ?_
 refine dx rfl rfl (dx rfl rfl (da (da (de Z3 (ws λ_ Z4=>wr (dm (dm ?_)))))))
 refine db (zs:=[.pointer none,.pointer none,.pointer none,.pointer none]) (pl:=[(0,1),(1,1),(2,1),(3,1)]) (pv:=[(0,_),(1,_)]) (cs:=[_,_,.pointer none,.pointer none]) ?_
 refine Xbf rfl rfl rfl RX.all (λb1 w3 e1 x3 m1=>?_)
 have g1:=hx.ge e1
 have a1_hd:=hd.lt
 have a1_hr:=hr.lt
 replace hd:=hd.ext x3
 replace hm:=hm.ext x3
 replace hr:=hr.ext x3
 replace hx:=hx.trans x3
 refine da (de Z4 (ws λ_ Z5=>ws λ_ Z6=>wr (dm ?_)))
 refine dp (Xa4 kr9 rfl rfl) (dm ?_)
 refine Xag 24 rfl (λc1=>?_) (λc1=>?_)
 ·exact absurd c1 sp9
 refine dm ?_
 refine dp (Xa4 kr9 rfl rfl) (dk' ?_)
 refine dm ?_
 refine Xag 28 rfl (λc2=>?_) (λc2=>?_)
 ·exact absurd c2 sp9
 refine dm ?_
 have hpl9:=m1.lt
 have hne1:=m1.ne hd rfl
 have hne2:=Xd9 hm m1
 have hszd:=hx.size
 refine cD (X6j b1 bd bx mf room _ m1 hd hm hr hw) (.inl rfl) λu4 w4 x4 hf4=>?_
 have hsz4:=hx.size
 replace hx:=hx.own x4 (λi hi=>(by have e9:i=b1:=hi;omega))
 obtain⟨rfl,κ,bs,bl,bo,bm,sb,hp,hS,hκ⟩:=hf4
 refine dn ?_
 refine dk' (de Z6 ?_)
 refine W_f rfl (Xaa (Z5 _ _ (ws λ_ Z7=>wr (dm (da (de Z7 (Xad ?_)))))))
 refine ro ?_
 exact⟨_,rfl,hx,κ,b1,bd,bx,bs,bl,bo,bm,sb,rfl,hp,hS,λk hk=>(by have h9:=hκ k hk;omega),Decidable.byContradiction λh9=>(by have h8:=hκ _ h9;omega),om9⟩
theorem X89 {L L':Led}{D D':Dsk}{mem mem':List Cell}{l:List Rw}{e:Int}{dead':Bool}{u k:Nat}(h:WrP L D mem false l e L' D' mem' dead')(hc:Xb4 l=0)(hL:L.dead=false)(hl:L.last<1099511627776)(hO:OkD D u k)(hb:(batS l).length≤65536)(hr:((u+(batS l).length+32:Nat):Int)≤D.room)(hk:k<4096){nn:Int}{mm:List Cell}(hn:L.last+1=nn)(hm:Xes mem (Xa8 l nn)=mm) :
  e=0∧dead'=false∧mem'=mm∧L'={ L with ents:=L.ents++[batS l] }∧OkD D' (u+(batS l).length+32) (k+1)∧D'.room=D.room:=by
 obtain⟨a1,a2,a3,a4,a5⟩:=Xn7 hO hL hb hl hr hk
 rcases h with⟨h1,_⟩|⟨_,h1,_⟩|⟨_,_,h2,h3,⟨h4,_⟩|⟨_,h5,h6,h7⟩⟩
 ·cases h1
 ·exact absurd hc h1
 ·exact absurd a2 h4
 ·exact⟨h5,h7,by rw[h6,a1,hn,hm],h2.trans a3,h3▸a4,by rw[h3];exact a5⟩
theorem geK {κ κ1:Nat->Nat}{n m:Nat}(h:∀k,κ k≠0->n≤k)(hm:∀k,k<m->κ1 k=κ k)(hn:n≤m):∀k,κ1 k≠0->n≤k:=λk hk=>by
 rcases Nat.lt_or_ge k m with h1|h1
 ·rw[hm k h1]at hk;exact h k hk
 ·omega
def rowX : Rw:=⟨[97],[120],false⟩
def rowD : Rw:=⟨[97],[],true⟩
def ca1 : Cell:=⟨[97],[120],false,1⟩
def ca2 : Cell:=⟨[97],[],true,2⟩
theorem X0v : (batS [rowX]).length≤100:=by
 have h1:=Xi9 [rowX]
 have h2:=Xak (0+1)
 have h3:rsz [rowX]=2:=rfl
 unfold batS
 rw[List.length_append]
 simp only [List.length_cons,List.length_nil]at *;omega
theorem X0w : (batS [rowD]).length≤100:=by
 have h1:=Xi9 [rowD]
 have h2:=Xak (0+1)
 have h3:rsz [rowD]=1:=rfl
 unfold batS
 rw[List.length_append]
 simp only [List.length_cons,List.length_nil]at *;omega
theorem Xl3 : (tblS [ca1]).length≤31000:=by
 have:=Xqw (l:=[ca1]) (by intro c hc;rw[List.mem_singleton.1 hc];decide) dc9
 simpa using this
theorem X9a : Xbz [ca1]=0:=by
 rw[Xvd dc9 dc9]
 unfold encE
 rw[if_neg (by have:=Xl3;omega)]
def fX : Fi:=Xeq 0 1 0 [ca1]
theorem X6l : fX.size=↑((tblS [ca1]).length+12):=by
 show((recS (tblS [ca1])).length:Int)=_
 rw[Xbi]
theorem Yae : isV ⟨2,[fX]⟩=true:=by
 have h1:=Xl3
 have h2:=X6l
 refine X1s dc9 dc9 sp9 ?_ sp9 rfl
 simp only [List.all_cons,List.all_nil,Bool.and_true]
 unfold okF
 rw[h2]
 have e1:fX.id=1:=rfl
 have e2:fX.lev=0:=rfl
 have e3:fX.fst=[97]:=rfl
 have e4:fX.lst=[97]:=rfl
 rw[e1,e2,e3,e4]
 simp only [Bool.and_eq_true,decide_eq_true_eq]
 refine⟨⟨⟨⟨⟨⟨⟨⟨by decide,by decide⟩,by decide⟩,by decide⟩,by omega⟩,by omega⟩,by decide⟩,by decide⟩,by decide⟩
theorem X0x : (verS ⟨2,[fX]⟩).length≤200:=by
 unfold verS
 have a1:=Xak (2:Int).toNat
 have a2:=Xak (0+1)
 have e:([fX].flatMap filS)=filS fX:=by simp
 have b1:=Xak fX.id.toNat
 have b2:=Xak fX.lev.toNat
 have b3:=Xak fX.size.toNat
 have e3:fX.fst=[97]:=rfl
 have e4:fX.lst=[97]:=rfl
 simp only [e]
 unfold filS rowS
 rw[e3,e4]
 simp only [List.length_append,List.length_cons,List.length_nil]at *
 omega
theorem X9b : Xbc 1=[116,49]:=by
 have:Lib.itoa 1=[49]:=by
  unfold Lib.itoa
  rw[if_neg dc9]
  unfold Lib.decDigits
  simp
 unfold Xbc;rw[this]
theorem mgX {m:List Cell}(h:Mg [ca1] m):m=[ca1]:=by
 obtain⟨l',hp,_,rfl⟩:=h
 rw[List.perm_singleton.1 hp];rfl
theorem segX : Xam [ca1]=[[ca1]]:=by decide
theorem X9c {L L':Led}{D D':Dsk}{V':Vs}{ts':List Tb}{mem':List Cell}{ok dead':Bool}{e:Int}{u k:Nat}(h:FluP L D ⟨1,[]⟩ [] [ca1] false ok e L' D' V' ts' mem' dead')(hL:L.dead=false)(hl:0≤L.last∧L.last<1099511627776)(hO:OkD D u k)(hr:((u+32000:Nat):Int)≤D.room)(hk:k<4000) :
  ok=true∧e=0∧mem'=[]∧dead'=false∧(∃p,L'=⟨L.last,p,[],false⟩)∧V'=⟨2,[fX]⟩∧(∃bt vl vb,ts'=[⟨(0,1),bt,vl,vb,[ca1]⟩])∧OkD D' (u+32000) (k+2)∧D'.room=D.room:=by
 rcases h with⟨h1,_⟩|⟨_,h1,_⟩|⟨_,_,m,hm,hC,hE⟩
 ·cases h1
 ·cases h1
 ·have:=mgX hm
  subst this
  have hA:addF 0 1 (Xam [ca1])=[fX]:=by rw[segX];rfl
  have hF:Xbn 1 (Xam [ca1])=[(1,recS (tblS [ca1]))]:=by rw[segX];rfl
  have hT:Xj2 0 1 (Xam [ca1])=[((0,1),[ca1])]:=by rw[segX];rfl
  have hN:Xcb 1 [fX]=2:=rfl
  have hP:∀fs':List Fi,fs'.Perm (Xcw [] []++[fX])->fs'=[fX]:=λfs' hp=>List.perm_singleton.1 hp
  have hok:Xh2 ⟨1,[]⟩ [] [fX]=true:=Xlq rfl rfl (by intro f hf;rw[List.mem_singleton.1 hf];decide)
  have ht:=Xl3
  have hrl:=Xbi (tblS [ca1])
  obtain⟨s1,s2,s3⟩:=Xxq (n:=Xbc 1) (p:=recS (tblS [ca1])) hO (by rw[X9b];decide) (by rw[X9b];decide) om9 om9 om9
  have hv:=X0x
  obtain⟨w1,w2,w3,w4⟩:=Xrv (i:=L.last) (p:=verS ⟨2,[fX]⟩) s2 hL ⟨Int.le_refl _,by omega⟩ om9 (by rw[s3];omega) om9
  have hsv:Xbs [(1,recS (tblS [ca1]))] D=(0,(D.save (Xbc 1) (recS (tblS [ca1]))).2):=by
   unfold Xbs
   rw[if_neg (by rw[s1];decide)];rfl
  unfold ChgP at hC
  simp only [hA,hF,hT,hN,List.map_nil]at hC
  rcases hC with⟨he,_,_,_,_,_,hx⟩|⟨_,_,fs',hp,_,_,_,hx⟩
  ·exfalso
   rcases hx with⟨sg,hs,hb⟩|hx|⟨fs',hp,_,hx⟩
   ·rw[segX]at hs
    rw[List.mem_singleton.1 hs]at hb
    exact hb X9a
   ·rw[hok]at hx;cases hx
   ·rw[hP fs' hp]at hx
    rcases hx with hx|hx
    ·rw[Yae]at hx;cases hx
    ·omega
  ·have e1:=hP fs' hp
   subst e1
   rw[hsv]at hx
   dsimp only at hx
   rcases hx with⟨hx,_⟩|⟨_,hL',hD',hx⟩
   ·exact absurd rfl hx
   ·rcases hx with⟨hx,_⟩|⟨_,he,hV,hd,tbs,htb,hts⟩
    ·exact absurd w1 hx
    ·rcases hE with⟨h9,_⟩|⟨_,h8,h7⟩
     ·exact absurd he h9
     ·rcases tbs with _|⟨t,_|⟨t2,r⟩⟩
      ·cases htb
      ·obtain⟨th,bt,vl,vb,tc⟩:=t
       simp only [List.map_cons,List.map_nil,List.cons.injEq,Prod.mk.injEq,and_true]at htb
       obtain⟨rfl,rfl⟩:=htb
       refine⟨h8,he,h7,hd,⟨_,hL'.trans w2⟩,hV,⟨bt,vl,vb,hts⟩,hD'▸w3.mono om9 om9,?_⟩
       rw[hD',w4,s3]
      ·simp at htb
theorem Xxz {κ:Nat->Nat}{bs bd bl bo bm:Nat}{vf:Value}{L:Led}{D:Dsk}{V:Vs}{ts:List Tb}{mem:List Cell}{dead:Bool}{w:World}(h:StE κ bs bd bl bo bm vf L D V ts mem dead w)(key:Str)(hml:mem.length≤900000)(hfl:V.fs.length≤100000)(hfs:∀f∈V.fs,(∃t,Xcf ts (f.lev,f.id)=some t)∧Xai f.lev∧Xai f.id)(hkl:key.length≤1000000000) :
  Calls Tryz.prog 22 [ptr bs 0,S key].toArray w (Pure w (.tuple #[S (getR (Xh1 mem V.fs ts key)).1,B (getR (Xh1 mem V.fs ts key)).2])):=by
 have hmo:=h.mp.at
 rw[show lk (ts.map Tb.kv)=tabP ts from funext (Xv8 ts)]at hmo
 exact X8d bs bd bl V.next vf bo bm _ dead _ mem V.fs ts key w h.m h.mr hml h.vs hfl hmo h.tb hfs hkl
theorem Xx0 {κ:Nat->Nat}{bs bd bl bo bm:Nat}{vf:Value}{L:Led}{D:Dsk}{V:Vs}{ts:List Tb}{mem:List Cell}{dead:Bool}{w:World}(h:StE κ bs bd bl bo bm vf L D V ts mem dead w) :
  Calls Tryz.prog 17 [ptr bs 0].toArray w (Pure w (I L.last)):=by
 obtain⟨F,G,vd,ve,vs,h1,h2,_⟩:=h.ld
 exact X8c bs bd bl V.next vf bo bm dead G vd ve vs L w h.m h2
theorem Yas : (dsk0 65536).Wf:=⟨by decide,by decide,by decide,by decide,by decide,λp hp=>(by cases hp),λp hp=>(by cases hp),List.nodup_nil,by decide⟩
theorem Yaf : OkD (dsk0 65536) 0 0:=⟨rfl,Nat.le_refl _,Nat.le_refl _,List.nodup_nil,λp hp=>(by cases hp)⟩
theorem getX {bt:Nat}{vl vb:Value} : Xh1 [] [fX] [⟨(0,1),bt,vl,vb,[ca1]⟩] [97]=some ca1:=by
 have e:fX=⟨1,0,fX.size,[97],[97]⟩:=rfl
 rw[e];rfl
theorem Yag {fs:List Fi}{ts:List Tb} : Xh1 [ca2] fs ts [97]=some ca2:=rfl
theorem X6m (w:World)(hgv:GV w) :
  Calls Tryz.prog 18 [].toArray w (Pure w (B true)):=by
 refine cw Tryz.func18 ?_
 have hx:=Ext.refl w
 refine ws λ_ Z1=>wr (da (de Z1 (ws λ_ Z2=>wr ?_)))
 refine cG (Em.diskNew_w 65536 _ dc9 dc9) RX.all λu1 w1 x1 hf1=>?_
 have hsz1:=hx.size
 replace hx:=hx.trans x1
 obtain⟨bd,mf,rfl,hd,hm,hgd,hgm⟩:=hf1
 refine dm ?_
 refine dx rfl rfl (dx rfl rfl (da (da (de Z2 (ws λ_ Z3=>wr (dm ?_))))))
 have hmfl:=hm.lt
 have hsz0:=hx.size
 refine cG (Em.lsmOpen_w bd mf 65536 _ hd hm) RX.all λu2 w2 x2 hf2=>?_
 have hsz2:=hx.size
 replace hx:=hx.trans x2
 obtain⟨bs,bl,mo,bm,ba,bn,rfl,hE,k1,k2,k3,k4,k5,k6⟩:=hf2
 have hS:=X87 hE om9 Yas
 have hκ:∀k,(kap0 bs bd bl mo bm ba bn mf) k≠0->w.heap.size≤k:=λk hk=>by
  unfold kap0 at hk
  repeat' split at hk
  all_goals first|omega|exact absurd rfl hk
 refine dm ?_
 refine dx rfl rfl (dx rfl rfl (da (da (de Z3 (ws λ_ Z4=>ws λ_ Z5=>wr (dm ?_))))))
 refine dp (Xas rfl rfl) (dm ?_)
 refine Xag 22 rfl (λc1=>?_) (λc1=>?_)
 ·exact absurd rfl c1
 refine dm ?_
 refine dp (Xa4 kr9 rfl rfl) (dk' (de Z5 ?_))
 refine wi (λc2=>?_) λc2=>?_
 ·exact absurd c2 sp9
 refine Xaa (Z4 _ _ (ws λ_ Z6=>wr (dm ?_)))
 refine db (zs:=[S [],S [],B false]) (pl:=[(0,1),(1,1),(2,1)]) (pv:=[(0,_),(1,_)]) (cs:=[_,_,B false]) ?_
 refine li (e:=48) (sz:=3) (zs:=[S [],S [],B false]) (pv:=[(0,.agg ⟨[_,_,_]⟩)]) (cs:=[_,_,_]) RX.all (λb1 w3 e1 x3 m1=>?_)
 have g1:=hx.ge e1
 have a1_hS:=hS.lt
 replace hS:=hS.ext x3
 replace hx:=hx.trans x3
 have hszc:=hx.size
 refine cD (Xlt (kap0 bs bd bl mo bm ba bn mf) bs bd bl mo bm (.slice none 0 0) led0 (dsk0 65536) ⟨1,[]⟩ [] [] false [rowX] _ _ hS (m1.arr (enc:=Rw.cs) (sz:=3) (l:=[rowX]) rfl ir9 rfl sp9) dc9 (λ_=>Decidable.byContradiction λh9=>by have h8:=a1_hS _ h9;have h7:=e1;dsimp only [base]at h8;omega) dc9 dc9 dc9) (.inl rfl) λu4 w4 x4 hf4=>?_
 have hsz4:=hx.size
 replace hx:=hx.own x4 (λi hi=>(hκ i hi))
 obtain⟨e1,κ1,L1,D1,mem1,dead1,rfl,hmv,hS9,hW⟩:=hf4
 have hbl:=X0v
 obtain⟨he1,rfl,rfl,rfl,hOk1,hro1⟩:=X89 hW dc9 rfl dc9 Yaf om9 (by show _≤(65536:Int);omega) dc9 (nn:=1) (mm:=[ca1]) rfl dc9
 have hS:=hS9
 have hκ1:=geK hκ hmv hszc
 refine de Z6 (ws λ_ Z7=>wr (dm ?_))
 have hszd:=hx.size
 have hS:StE κ1 bs bd bl mo bm (.slice none 0 0) _ D1 ⟨1,[]⟩ [] [ca1] false _:=hS
 refine cD (Xlu κ1 bs bd bl mo bm (.slice none 0 0) _ D1 ⟨1,[]⟩ [] [ca1] false _ hS dc9 (by intro c hc;rw[List.mem_singleton.1 hc];decide) rfl (hgv.ext hx) (λk hk=>Decidable.byContradiction λh9=>by have h8:=hκ1 k h9;have h7:=hgv.lt k hk;omega) dc9) (.inl rfl) λu5 w5 x5 hf5=>?_
 have hsz5:=hx.size
 replace hx:=hx.own x5 (λi hi=>(hκ1 i hi))
 obtain⟨ok,e2,κ2,bm2,vf2,L2,D2,V2,ts2,mem2,dead2,rfl,hmv2,hS9,hFl⟩:=hf5
 obtain⟨rfl,rfl,rfl,rfl,⟨p2,rfl⟩,rfl,⟨bt,vl,vb,rfl⟩,hOk2,hro2⟩:=X9c hFl rfl dc9 hOk1 (by rw[hro1];show _≤(65536:Int);omega) dc9
 have hS:=hS9
 have hκ2:=geK hκ1 hmv2 hszd
 refine dm ?_
 refine dx rfl rfl (dx rfl rfl (da (da (de Z7 (ws λ_ Z8=>wr (dm ?_))))))
 refine cP ((show Calls Tryz.prog 22 [ptr bs 0,S [97]].toArray w5 (Pure w5 (.tuple #[S [120],B true])) from by have h9:=Xxz hS [97] dc9 sp9 (by intro f hf;rw[List.mem_singleton.1 hf];exact⟨⟨_,rfl⟩,by unfold Xai;decide,by unfold Xai;decide⟩) dc9;rw[getX]at h9;exact h9)) RX.all λw6 x6=>?_
 replace hS:=hS.ext x6
 replace hx:=hx.trans x6
 refine dm ?_
 refine dx rfl rfl (dx rfl rfl (da (da (de Z8 (ws λ_ Z9=>wr (dm ?_))))))
 refine db (zs:=[S [],S [],B false]) (pl:=[(0,1),(1,1),(2,1)]) (pv:=[(0,_),(2,_)]) (cs:=[_,S [],_]) ?_
 refine li (e:=48) (sz:=3) (zs:=[S [],S [],B false]) (pv:=[(0,.agg ⟨[_,_,_]⟩)]) (cs:=[_,_,_]) RX.all (λb2 w7 e2 x7 m2=>?_)
 have g2:=hx.ge e2
 have a2_hS:=hS.lt
 replace hS:=hS.ext x7
 replace hx:=hx.trans x7
 have hsze:=hx.size
 refine cD (Xlt κ2 bs bd bl mo bm2 vf2 _ D2 ⟨2,[fX]⟩ [⟨(0,1),bt,vl,vb,[ca1]⟩] [] false [rowD] _ _ hS (m2.arr (enc:=Rw.cs) (sz:=3) (l:=[rowD]) rfl ir9 rfl sp9) dc9 (λ_=>Decidable.byContradiction λh9=>by have h8:=a2_hS _ h9;have h7:=e2;dsimp only [base]at h8;omega) dc9 (by show 0≤900000;decide) dc9) (.inl rfl) λu8 w8 x8 hf8=>?_
 have hsz8:=hx.size
 replace hx:=hx.own x8 (λi hi=>(hκ2 i hi))
 obtain⟨e3,κ3,L3,D3,mem3,dead3,rfl,hmv3,hS9,hW3⟩:=hf8
 have hbl3:=X0w
 obtain⟨he3,hde3,hme3,hLe3,hOk3,hro3⟩:=X89 hW3 dc9 rfl (by show(1:Int)<1099511627776;decide) hOk2 om9 (by rw[hro2,hro1];show _≤(65536:Int);omega) dc9 (nn:=2) (mm:=[ca2]) rfl dc9
 rw[hde3,hme3,hLe3]at hS9
 have hS:StE κ3 bs bd bl mo bm2 vf2 _ D3 ⟨2,[fX]⟩ [⟨(0,1),bt,vl,vb,[ca1]⟩] [ca2] false _:=hS9
 refine de Z9 (ws λ_ Z10=>wr (dm ?_))
 refine cP ((show Calls Tryz.prog 22 [ptr bs 0,S [97]].toArray w8 (Pure w8 (.tuple #[S [],B false])) from by have h9:=Xxz hS [97] dc9 sp9 (by intro f hf;rw[List.mem_singleton.1 hf];exact⟨⟨_,rfl⟩,by unfold Xai;decide,by unfold Xai;decide⟩) dc9;rw[Yag]at h9;exact h9)) RX.all λw9 x9=>?_
 replace hS:=hS.ext x9
 replace hx:=hx.trans x9
 refine dm ?_
 refine dx rfl rfl (dx rfl rfl (da (da (de Z10 (ws λ_ Z11=>wr (dm ?_))))))
 refine dp (Xa9 rfl rfl) (dm ?_)
 refine Xag 51 rfl (λc3=>?_) (λc3=>?_)
 ·refine dm ?_
  refine dk' ?_
  refine dm ?_
  refine dm ?_
  refine dk' ?_
  refine dm ?_
  refine dm ?_
  refine dp (Xj3 rfl rfl) (dk' ?_)
  refine dm ?_
  refine Xag 61 rfl (λc4=>?_) (λc4=>?_)
  ·refine dm ?_
   refine dn ?_
   refine dk' ?_
   refine dm ?_
   refine dm ?_
   refine cP (Xx0 hS) RX.all λw10 x10=>?_
   replace hx:=hx.trans x10
   refine dp (Xa9 rfl rfl) (dk' ?_)
   refine da (de Z11 (Xad ?_))
   refine ro ?_
   exact⟨rfl,hx⟩
  exact absurd rfl c4
 exact absurd rfl c3
theorem Xx1 {P:Program}{W:World}{name:String}{k:IntKind}{zs:List Int}{a b:String×DataW Unit}{g:Nat}{t e:TypeId}{n:Nat}
  (hg:P.globalNamed name=some g) (hty:(P.globals[g]?).map (·.type)=some t) (ht:P.underlying t=some (.array n e)) (he:P.underlying e=some (.int k)) (hce:P.cellsOf e=1) (hct:P.cellsOf t=n)
  (h:laidMet P [a,b,(name,Lib.tabData k zs)] W):Lib.TabIs P W name k zs:=by
 obtain⟨ps,hv,_⟩:=h
 obtain⟨_,_,_,_,_,q1,_,_,_,_,hv,_⟩:=hv
 obtain⟨_,_,_,_,_,q2,_,_,_,_,hv,_⟩:=hv
 obtain⟨g',t',cs,fuel,p,q,hg',ht',hvar,hd,_,_⟩:=hv
 obtain rfl:=Option.some.inj (hg.symm.trans hg')
 obtain rfl:=Option.some.inj (hty.symm.trans ht')
 unfold Lib.TabIs
 rw[hvar,←Lib.cells_of_tab ht he hce hct hd]
theorem X0y : (Rows.laid_internal_strconv_uint64pow10:DataW Unit)=Lib.tabData .u64 Lib.pow10Tab:=by rfl
theorem GV.of_row {a b : String × DataW Unit} {w : World} (_ : w.ShapedOpen Tryz.prog) (h : laidMet Tryz.prog [a, b, ("internal/strconv.uint64pow10", Rows.laid_internal_strconv_uint64pow10)] w) : GV w := by
 rw[X0y]at h
 exact⟨Xx1 (g:=1) (t:=366) (e:=236) (n:=20) kr9 kr9 kr9 kr9 kr9 kr9 h⟩
theorem Yat : (dsk0 4194304).Wf:=⟨by decide,by decide,by decide,by decide,by decide,λp hp=>(by cases hp),λp hp=>(by cases hp),List.nodup_nil,by decide⟩
theorem Xx2 {S i:Nat}{L:Led}{V:Vs}{ts:List Tb}{mem:List Cell}{M:List Rw}(h:TI S i L V ts mem M)(hS:S≤60000)(hi:i≤60):L.last≤60∧(allC mem ts).length≤30000∧mem.length≤30000∧ts.length≤30000∧V.fs.length≤1024∧Xb5 mem≤100000000000∧(∀c∈mem,c.key.length≤4096∧c.val.length≤16384∧c.seq≤4611686018427387904):=by
 have h1:=h.len
 have h2:=h.l0
 have h3:=h.sto.tlen
 have h4:(allC mem ts).length=mem.length+(ts.flatMap (·.cs)).length:=by unfold allC;rw[List.length_append]
 obtain⟨_,_,h5,_⟩:=Xbl h.sto.isv
 have h5:V.fs.length≤1024:=h5
 have h6:=λc (hc:c∈mem)=>h.sto.cellsB om9 c (Xar.2 (.inl hc))
 refine⟨by omega,by omega,by omega,by omega,h5,?_,h6⟩
 have h7:=Xnq (l:=mem) (λc hc=>by have:=h6 c hc;unfold Xbh;omega)
 omega
theorem Xsw (l:List Ac)(v:Value)(w:World)(hv:Arr Ac.cs 5 w v l)(hl:l.length≤140737488355328)(hok:∀a∈l,AcOk w a)(hgv:GV w) :
  Calls Tryz.prog 3 [v].toArray w (Pure w (B true)):=by
 refine Xsx Tryz.func3 rfl rfl rfl kr9 ?_
 have hx:=Ext.refl w
 refine Xdb λK1 hK1=>wr (da (de hK1 (Xdb λK2 hK2=>Xdb λK3 hK3=>wr (dm ?_))))
 refine Xin rfl kr9 (X53 l v _ (hv.ext hx) hl (λa ha=>(hok a ha).ext hx)) rfl RX.all (λw1 x1=>?_)
 replace hx:=hx.trans x1
 refine de hK3 ?_
 refine Xl5 rfl (λc1=>?_) (λc1=>?_)
 ·refine Xdb λK4 hK4=>wr (da (de hK4 (Xad ?_)))
  try dsimp only [then',Xl4,noGo]
  refine ro ?_
  exact⟨rfl,hx⟩
 have hhv:hvS l≤60000:=by simpa using c1
 refine Xaa (hK2 _ _ (Xdb λK5 hK5=>wr ?_))
 have hszb:=hx.size
 refine Xog rfl kr9 (X6k 4194304 _ dc9 dc9 Yat) rfl RX.all (λu2 w2 x2 hf2=>?_)
 have hsz2:=hx.size
 replace hx:=hx.trans x2
 obtain⟨κ,pb,bd,bx,bs,bl,bo,bm,sb,rfl,hp,hS,hκ9,hκp,hpge⟩:=hf2
 have hκ:∀k,κ k≠0->w.heap.size≤k:=λk hk=>Nat.le_trans hszb (hκ9 k hk)
 refine da (de hK5 (Xdb λK6 hK6=>Xdb λK7 hK7=>wr (dm ?_)))
 refine dp (Xa4 kr9 rfl rfl) (dm ?_)
 refine Xag 12 rfl (λc2=>?_) (λc2=>?_)
 ·cases c2
 refine dm ?_
 refine dp (Xhb rfl) (df 2 rfl (dl rfl (hp.at rfl) (dp (Xa4 kr9 rfl rfl) (dk' (de hK7 ?_)))))
 refine Xx3 rfl (λc3=>?_) (λc3=>?_)
 ·cases c3
 refine Xaa (hK6 _ _ (Xdb λK8 hK8=>wr (da (de hK8 ?_))))
 refine Xdi (G:=Unit) (λuu=>[]) (λuu w'=>Ext w w'∧True) ?_ ?_
 ·refine Xdb λK9 hK9=>wr (da (de hK9 (Xab ?_)))
  refine Xaj (G:=Nat×(Nat->Nat)×Nat×Value×Led×Dsk×Vs×List Tb×List Cell×Bool×List Rw×Nat) (λ(i,κ,bm,vf,L,D,V,ts,mem,dead,M,n)=>[(0,v),(3,ptr pb 0),(4,I ↑n),(5,I ↑i)]) (λ(i,κ,bm,vf,L,D,V,ts,mem,dead,M,n) w'=>Ext w w'∧Blk w' pb [ptr bd 0,ptr bx 0,ptr bs 0,ptr sb 0] 31∧i≤l.length∧i≤60∧TI ((l.take i).map actW).sum i L V ts mem M∧CI ((l.take i).map actW).sum i L D ts dead∧L.last=↑n∧(∀k,κ k≠0->w.heap.size≤k)∧κ pb=0∧StE κ bs bd bl bo bm vf L D V ts mem dead w') (λ(i,κ,bm,vf,L,D,V,ts,mem,dead,M,n)=>l.length-i) (0,κ,bm,.slice none 0 0,led0,dsk0 4194304,⟨1,[]⟩,[],[],false,[],0) ?_ ?_ ?_
  ·exact zz4
  ·exact⟨hx,hp,Nat.zero_le _,Nat.zero_le _,TI.nil,CI.nil,rfl,hκ,hκp,hS⟩
  intro X3 g3 w3 hF3
  obtain⟨i,κ,bm,vf,L,D,V,ts,mem,dead,M,n⟩:=g3
  clear hx hp hS
  obtain⟨hx,hp,hi1,hi2,hT,hC,hn,hκ,hκp,hS⟩:=hF3
  refine Xdb λK10 hK10=>Xdb λK11 hK11=>wr (dm (dm ?_))
  refine dp (Xk0 (e:=34) (k:=5) kr9 (hv.ext hx).sl rfl) (dp (Xaf rfl rfl) (dm ?_))
  refine Xag 23 rfl (λc4=>?_) (λc4=>?_)
  ·refine dm ?_
   refine dp (Xaf rfl rfl) (dk' (de hK11 ?_))
   refine Xx3 rfl (λc5=>?_) (λc5=>?_)
   ·obtain⟨a,hk⟩:∃a,l[i]?=some a:=gtE
    have hok9:=hok a (List.mem_of_getElem? hk)
    have hav:=hok9.v
    have hge:=X2w (k:=a.l.length) om9 hk (Nat.le_refl _)
    rw[List.take_length]at hge
    have hst:=Xg9 actW hk
    have haw:actW a=a.key.length+a.to.length+(a.l.map rowW).sum:=rfl
    have hrs:=Xlz a.l
    have hml9:=hT.ml
    have hS60:((l.take i).map actW).sum+(a.l.map rowW).sum≤60000:=by have h9:=Xpo actW l (show i+1≤60 by omega);unfold hvS at hhv;omega
    refine Xaa (hK10 _ _ (Xdb λK12 hK12=>Xab ?_))
    refine Xdi (G:=(Nat->Nat)×Nat×Value×Led×Dsk×Vs×List Tb×List Cell×Bool×List Rw×Nat) (λ(κ,bm,vf,L,D,V,ts,mem,dead,M,n)=>[(0,v),(3,ptr pb 0),(4,I ↑n),(5,I ↑i)]) (λ(κ,bm,vf,L,D,V,ts,mem,dead,M,n) w'=>Ext w w'∧Blk w' pb [ptr bd 0,ptr bx 0,ptr bs 0,ptr sb 0] 31∧TI ((l.take (i+1)).map actW).sum (i+1) L V ts mem M∧CI ((l.take (i+1)).map actW).sum (i+1) L D ts dead∧L.last=↑n∧(∀k,κ k≠0->w.heap.size≤k)∧κ pb=0∧StE κ bs bd bl bo bm vf L D V ts mem dead w') ?_ ?_
    ·refine Xdb λK13 hK13=>wr (dm (dm ?_))
     refine dp (Xba (e:=34) (k:=5) kr9 hv.sl rfl rfl (hv.lt hk)) (df 0 rfl (dl rfl (((hv.ext hx).row hk).at rfl) (de hK13 (Xab (Xdb λK14 hK14=>wr (dp (Xa9 rfl rfl) (da (de hK14 ?_))))))))
     refine Xx3 rfl (λc6=>?_) (λc6=>?_)
     ·refine Xdb λK15 hK15=>wr (dm (dm ?_))
      refine dp (Xba (e:=34) (k:=5) kr9 hv.sl rfl rfl (hv.lt hk)) (df 4 rfl (dl rfl (((hv.ext hx).row hk).at rfl) (Xin rfl kr9 (Xzj a.l a.v _ (hav.ext hx) om9 (λr hr=>by have:=X0s hr;omega)) rfl RX.all (λw4 x4=>?_))))
      replace hp:=hp.ext x4
      replace hS:=hS.ext x4
      replace hx:=hx.trans x4
      refine da (de hK15 (Xdb λK16 hK16=>Xdb λK17 hK17=>?_))
      refine Xaq (R:=Ext) Ext.refl (λ_ _ _=>Ext.trans) kr9 [3,8] [(0,.p,false),(1,.p,false),(2,.p,false),(3,.l,false),(4,.p,false),(5,.p,false),(6,.p,false),(7,.p,false),(8,.l,false),(10,.p,false),(9,.x,true),(11,.p,false)] rfl kr9 kr9 (λw5 ew5=>?_)
      have x5:=drewx ew5
      clear ew5
      replace hp:=hp.ext x5
      replace hS:=hS.ext x5
      replace hx:=hx.trans x5
      refine dm ?_
      refine dp (Xhb rfl) (df 2 rfl (dL rfl (λ_ hR=>((hp.ext hR).at rfl)) (dm (dm ?_))))
      refine dp (Xba (e:=34) (k:=5) kr9 hv.sl rfl rfl (hv.lt hk)) (df 4 rfl (dL rfl (λ_ hR=>(((hv.ext (hx.trans hR)).row hk).at rfl)) (dm ?_)))
      have hszc:=hx.size
      have hpl:=hp.lt
      obtain⟨q1,q2,q3,q4,q5,q6,q7⟩:=Xx2 hT om9 om9
      have hκ0:∀k,k<w.heap.size->κ k=0:=λk hk=>Decidable.byContradiction λh9=>by have:=hκ k h9;omega
      refine Xc6 rfl kr9 (Xlt κ bs bd bl bo bm vf L D V ts mem dead a.l a.v _ hS (hav.ext hx) om9 (λh9=>hκ0 _ (hav.base_lt dc9 h9)) om9 (by have:=hT.en;omega) q6) rfl (.inl rfl) (λu6 w6 x6 hf6=>?_)
      have hsz6:=hx.size
      replace hp:=hp.mod x6 (λe=>e hκp)
      replace hx:=hx.own x6 (λi hi=>(hκ i hi))
      obtain⟨e,κ1,L1,D1,mem1,dead1,rfl,hmv,hS9,hW⟩:=hf6
      have hS:=hS9
      have hκ1:=geK hκ hmv hszc
      have hκp1:κ1 pb=0:=(hmv _ hpl).trans hκp
      obtain⟨he9,hC1,hl9⟩:=hC.write hT hW om9 om9
      have hT1:=hT.write hW
      subst he9
      refine dp (Xas rfl rfl) (de hK17 ?_)
      refine Xx3 rfl (λc7=>?_) (λc7=>?_)
      ·exact absurd rfl c7
      refine Xaa (hK16 _ _ (Xdb λK18 hK18=>wr (dm ?_)))
      refine dp (Xa9 rfl rfl) (de hK18 ?_)
      refine Xx3 rfl (λc8=>?_) (λc8=>?_)
      ·rw[if_pos c8]at hl9
       refine wr (dm ?_)
       refine pa rfl rfl (da (Xae (?_)))
       exact⟨(κ1,bm,vf,L1,D1,V,ts,mem1,dead1,_,n+1),zz4,hx,hp,hT1.mono om9 (Nat.le_refl _),hC1.mono om9 (Nat.le_refl _),by rw[hl9,hn];rfl,hκ1,hκp1,hS⟩
      rw[if_neg c8]at hl9
      refine Xaa ?_
      exact⟨(κ1,bm,vf,L1,D1,V,ts,mem1,dead1,_,n),zz4,hx,hp,hT1.mono om9 (Nat.le_refl _),hC1.mono om9 (Nat.le_refl _),by rw[hl9,hn];simp,hκ1,hκp1,hS⟩
     refine Xdb λK19 hK19=>wr (dp (Xa9 rfl rfl) (da (de hK19 ?_)))
     refine Xx3 rfl (λc9=>?_) (λc9=>?_)
     ·refine wr (dm ?_)
      refine dp (Xhb rfl) (df 2 rfl (dl rfl (hp.at rfl) ?_))
      have hszc:=hx.size
      have hpl:=hp.lt
      obtain⟨q1,q2,q3,q4,q5,q6,q7⟩:=Xx2 hT om9 om9
      have hκ0:∀k,k<w.heap.size->κ k=0:=λk hk=>Decidable.byContradiction λh9=>by have:=hκ k h9;omega
      refine Xc6 rfl kr9 (Xlu κ bs bd bl bo bm vf L D V ts mem dead _ hS q3 q7 hT.sto.isv (hgv.ext hx) (λk hk=>hκ0 k (hgv.lt k hk)) om9) rfl (.inl rfl) (λu7 w7 x7 hf7=>?_)
      have hsz7:=hx.size
      replace hp:=hp.mod x7 (λe=>e hκp)
      replace hx:=hx.own x7 (λi hi=>(hκ i hi))
      obtain⟨ok1,e1,κ1,bm1,vf1,L1,D1,V1,ts1,mem1,dead1,rfl,hmv,hS9,hF⟩:=hf7
      have hS:=hS9
      have hκ1:=geK hκ hmv hszc
      have hκp1:κ1 pb=0:=(hmv _ hpl).trans hκp
      refine Xae (?_)
      exact⟨(κ1,bm1,vf1,L1,D1,V1,ts1,mem1,dead1,M,n),zz4,hx,hp,(hT.flush hF).mono om9 (Nat.le_succ _),(hC.flush hT hF om9 om9).mono om9 (Nat.le_succ _),(Xr1 hF).trans hn,hκ1,hκp1,hS⟩
     refine Xdb λK20 hK20=>wr (dp (Xa9 rfl rfl) (da (de hK20 ?_)))
     refine Xx3 rfl (λc10=>?_) (λc10=>?_)
     ·refine wr (dm ?_)
      refine dp (Xhb rfl) (df 2 rfl (dl rfl (hp.at rfl) ?_))
      have hszc:=hx.size
      have hpl:=hp.lt
      obtain⟨q1,q2,q3,q4,q5,q6,q7⟩:=Xx2 hT om9 om9
      have hκ0:∀k,k<w.heap.size->κ k=0:=λk hk=>Decidable.byContradiction λh9=>by have:=hκ k h9;omega
      refine Xc6 rfl kr9 (Xxx κ bs bd bl bo bm vf L D V ts mem dead L.last _ hS hT.sto om9 q2 (hgv.ext hx) (λk hk=>hκ0 k (hgv.lt k hk))) rfl (.inl rfl) (λu8 w8 x8 hf8=>?_)
      have hsz8:=hx.size
      replace hp:=hp.mod x8 (λe=>e hκp)
      replace hx:=hx.own x8 (λi hi=>(hκ i hi))
      obtain⟨did1,e1,κ1,bm1,vf1,L1,D1,V1,ts1,mem1,dead1,rfl,hmv,hS9,hF⟩:=hf8
      have hS:=hS9
      have hκ1:=geK hκ hmv hszc
      have hκp1:κ1 pb=0:=(hmv _ hpl).trans hκp
      refine Xae (?_)
      exact⟨(κ1,bm1,vf1,L1,D1,V1,ts1,mem1,dead1,M,n),zz4,hx,hp,(hT.comp hF).mono om9 (Nat.le_succ _),(hC.comp hT hF om9 om9).mono om9 (Nat.le_succ _),(X0r hF).trans hn,hκ1,hκp1,hS⟩
     refine Xaa ?_
     exact⟨(κ,bm,vf,L,D,V,ts,mem,dead,M,n),zz4,hx,hp,hT.mono om9 (Nat.le_succ _),hC.mono om9 (Nat.le_succ _),hn,hκ,hκp,hS⟩
    intro X9 g9 w9 hF9
    obtain⟨κ,bm,vf,L,D,V,ts,mem,dead,M,n⟩:=g9
    clear hx hp hS
    obtain⟨hx,hp,hT,hC,hn,hκ,hκp,hS⟩:=hF9
    refine Xdb λK21 hK21=>wr (dm ?_)
    refine dp (Xhb rfl) (df 2 rfl (dl rfl (hp.at rfl) (Xin rfl kr9 (Xx0 hS) rfl RX.all (λw10 x10=>?_))))
    replace hp:=hp.ext x10
    replace hS:=hS.ext x10
    replace hx:=hx.trans x10
    refine dm ?_
    refine dp (Xas rfl rfl) (de hK21 ?_)
    refine Xx3 rfl (λc11=>?_) (λc11=>?_)
    ·exact absurd hn c11
    refine Xaa (hK12 _ _ (wr (dm ?_)))
    refine pa rfl rfl (da (Xae (?_)))
    exact⟨(i+1,κ,bm,vf,L,D,V,ts,mem,dead,M,n),zz4,⟨hx,hp,by omega,by omega,hT,hC,hn,hκ,hκp,hS⟩,by simp only [];omega⟩
   refine Xah ?_
   exact⟨(),trivial,hx,trivial⟩
  refine dk (dk (dk' (de hK11 ?_)))
  refine W_f rfl (Xah ?_)
  exact⟨(),trivial,hx,trivial⟩
 intro X11 g11 w11 hF11
 revert hF11;revert g11;intro uu hF11
 clear hx hp hS
 obtain⟨hx,htr⟩:=hF11
 refine Xdb λK22 hK22=>wr (Xin rfl kr9 (X6m _ (hgv.ext hx)) rfl RX.all (λw12 x12=>?_))
 replace hx:=hx.trans x12
 refine da (de hK22 (Xad ?_))
 try dsimp only [then',Xl4,noGo]
 refine ro ?_
 exact⟨rfl,hx⟩
end Go.Proofs.YtiooodckiddpmaaGreatDoor
