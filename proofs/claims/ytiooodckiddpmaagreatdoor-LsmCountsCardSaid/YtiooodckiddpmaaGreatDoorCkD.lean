/-
 A part of the proof: BkB BkC BkD SpTbl TbA TbB VcR TbC MemB TbD SpBat BtA SpLev LvA LvB.
-/
import Derived.Test.YtiooodckiddpmaaGreatDoorCkA
import Derived.Test.YtiooodckiddpmaaGreatDoorChecked
import Derived.KernelRfl
import Derived.Test.YtiooodckiddpmaaGreatDoorCkB
import Derived.Test.YtiooodckiddpmaaGreatDoorCkC
import Derived.Lib.Bytealg
set_option maxRecDepth 100000
set_option maxHeartbeats 4000000
set_option linter.unusedVariables false
set_option linter.unusedSimpArgs false
namespace Go.Proofs.YtiooodckiddpmaaGreatDoor
open Go.Vc Go.Sp
attribute [local irreducible] W XW Dw DwT
theorem Xy2 {w:World}{v v2:Value}{bw b:Nat}(hg:Grew w v v2)(h:¬ WrS bw v b)(hlt:b<w.heap.size):¬ WrS bw v2 b:=λh2=>h (Xp6 hg h2 hlt)
theorem Xsd {A:Str}{n:Nat}(h:n≤4611686018427387904):A++[(n:Int)].flatMap numI=A++numS n:=by simp [Xh4 h]
theorem X9q {A:Str}{s:Int}{g:Nat}(h1:1≤s)(h2:s≤1099511627776)(h:g≤4611686018427387904):A++[s,(g:Int)].flatMap numI=A++(numS s.toNat++numS g):=by
 simp only [List.flatMap_cons,List.flatMap_nil,List.append_nil,Xh4 h]
 unfold numI
 rw[Xqj h1 h2]
theorem row1 {A p:Str}{v:Value} : A++List.flatMap rowS (List.map (λq:Value×Str=>q.2) [(v,p)])=A++rowS p:=by simp
theorem Xqs (d:Bool):Xi0 d≤1:=by cases d<;>decide
theorem Xlb {A:Str}{n N:Nat}(h:A.length≤N):(A++numS n).length≤N+10:=by rw[List.length_append];have:=Xak n;omega
theorem Xlc {A p:Str}{N M:Nat}(h:A.length≤N)(hp:p.length≤M):(A++rowS p).length≤N+M+10:=by rw[List.length_append];unfold rowS;rw[List.length_append];have:=Xak p.length;omega
theorem Xy3 {A:Str}{m n N:Nat}(h:A.length≤N):(A++(numS m++numS n)).length≤N+20:=by rw[List.length_append,List.length_append];have:=Xak m;have:=Xak n;omega
theorem Xi4 {l:List Cell}{k:Nat}{c:Cell}(h:l[k]?=some c):Xcp l k=Xe5 (shAt l k) c:=by unfold Xcp;rw[h];rfl
theorem X4d {l:List Cell}{k:Nat}{c x:Cell}(h:l[k]?=some c)(h2:l[k-1]?=some x)(h4:k % 4≠0):Xb8 x.key c.key=shAt l k:=by unfold shAt;rw[if_neg h4,h,h2];rfl
theorem X7n {l:List Cell}{k:Nat}(h4:k % 4=0):(0:Nat)=shAt l k:=by unfold shAt;rw[if_pos h4]
theorem Xy4 {l:List Cell}(k:Nat)(h:k=l.length):(List.range k).flatMap (Xcp l)=blkS l:=by rw[h];rfl
theorem Xld (l:List Cell)(v:Value)(w:World)(hv:Arr Cell.cs 4 w v l)(hl:l.length≤30000) :
  Calls Tryz.prog 243 [v].toArray w (Gives w (λu w'=>∃vb,u=.tuple #[vb,I (errB l)]∧Vc.Own encB 1 5 w.heap.size w' vb (if errB l=0 then blkS l else[]))):=by
 refine cw Tryz.func243 ?_
 have hx:=Ext.refl w
 refine ws λ_ Z1=>wr (da (da (de Z1 (ws λ_ Z2=>ws λ_ Z3=>wr (dm ?_)))))
 refine cP (X3v l v _ (hv.ext hx) hl) RX.all λw1 x1=>?_
 replace hx:=hx.trans x1
 refine da (de Z3 (ws λ_ Z4=>wr (dm ?_)))
 refine dp (Xas rfl rfl) (de Z4 (wi (λc1=>?_) λc1=>?_))
 ·refine ws λ_ Z5=>wr (dm (da (da (de Z5 (Xad ?_)))))
  refine rt ?_
  rw[if_neg c1]
  exact⟨_,rfl,hx,_,rfl,Vc.Own.nil⟩
 have hE:errB l=0:=Decidable.of_not_not c1
 obtain⟨hAll,hRis⟩:=Xfu.1 hE
 refine Xaa (Z2 _ _ (ws λ_ Z6=>wr (Xan (cs:=[.slice none 0 0]) rfl kr9 RX.all (λb1 w2 e1 x2 m1=>?_))))
 have g1:=hx.ge e1
 replace hx:=hx.trans x2
 refine de Z6 (ws λ_ Z7=>ws λ_ Z8=>wr (dm ?_))
 refine dv 79 4 (hv.ext hx).sl (dm (de Z8 (Xab ?_)))
 refine Xaj (G:=Nat×Value) (λ(k,vc)=>[(0,v),(2,.slice none 0 0),(3,I 0),(5,ptr b1 0),(14,v),(15,I ↑l.length),(16,I ↑k)]) (λ(k,vc) w'=>Ext w w'∧k≤l.length∧Wr w.heap.size b1 vc ((List.range k).flatMap (Xcp l)) w') (λ(k,vc)=>l.length-k) (0,.slice none 0 0) ?_ ?_ ?_
 ·exact zz7
 ·exact⟨hx,Nat.zero_le _,⟨m1,Vc.Own.nil⟩⟩
 intro X3 g3 w3 hF3
 obtain⟨k,vc⟩:=g3
 clear hx m1
 obtain⟨hx,hk1,hWr⟩:=hF3
 refine ws λ_ Z9=>wr (dp (Xaf rfl rfl) (de Z9 (ws λ_ Z10=>wi (λc2=>?_) λc2=>?_)))
 ·obtain⟨c,hk⟩:∃c,l[k]?=some c:=gtE
  have hbl:=Xow hAll k om9
  have hcs:=Xbk (hAll c (List.mem_of_getElem? hk))
  have hng:=Xqs c.del
  refine Xaa (Z10 _ _ (ws λ_ Z11=>Xab (ws λ_ Z12=>wr (dm ?_))))
  refine di 79 4 (hv.ext hx).sl rfl ((hv.ext hx).lt hk) (dq (Xac kr9 rfl rfl ((hv.ext hx).row hk)) (Xan (cs:=[S [],S [],B false,.int .i64 0]) rfl kr9 RX.all (λb2 w4 e2 x4 m2=>?_)))
  have g2:=hx.ge e2
  have a2_hWr:=hWr.lt
  replace hWr:=hWr.ext x4
  replace hx:=hx.trans x4
  refine da ?_
  refine stA m2 (λw5 x5 xs5 m2=>?_)
  try dsimp only [Xal,List.set,List.take,List.drop]at m2
  replace hWr:=hWr.mod x5 (λk hk h=>by have h2:k=b2:=h;subst h2;exact Nat.lt_irrefl _ (Nat.lt_of_lt_of_eq (a2_hWr _ hk) e2.symm))
  replace hx:=hx.o1 x5
  refine de Z12 (ws λ_ Z13=>wr (da (de Z13 ?_)))
  refine Xdi (G:=Nat) (λn=>[(0,v),(2,.slice none 0 0),(3,I 0),(5,ptr b1 0),(6,I ↑k),(7,ptr b2 0),(8,I ↑n),(14,v),(15,I ↑l.length),(16,I ↑k)]) (λn w'=>Ext w w'∧Wr w.heap.size b1 vc ((List.range k).flatMap (Xcp l)) w'∧Blk w' b2 c.cs 79∧n=shAt l k) ?_ ?_
  ·refine ws λ_ Z14=>wr (dm ?_)
   refine dp (Xs8 rfl rfl om9 om9) (dp (Xas rfl rfl) (de Z14 (wi (λc3=>?_) λc3=>?_)))
   ·obtain⟨x,hk1⟩:∃x,l[k-1]?=some x:=gtE
    have hcx:=Xbk (hAll x (List.mem_of_getElem? hk1))
    refine Xaq (R:=Ext) Ext.refl (λ_ _ _=>Ext.trans) kr9 [5,7] [(0,.p,false),(1,.p,false),(2,.p,false),(3,.p,false),(4,.p,false),(5,.l,false),(6,.p,false),(7,.l,false),(8,.x,true),(9,.p,false)] rfl kr9 kr9 (λw6 ew6=>?_)
    have x6:=drewx ew6
    clear ew6
    replace hWr:=hWr.ext x6
    replace m2:=m2.ext x6
    replace hx:=hx.trans x6
    iterate 2 refine dm ?_
    refine Xa2 (v:=I ↑(k-1)) rfl (Xay rfl rfl (by unfold Xai;omega)) (by show I _=I _;congr 1;omega) (di 79 4 (hv.ext hx).sl rfl ((hv.ext hx).lt hk1) (df 0 rfl (dL rfl (λ_ hR=>((((hv.ext hx).ext hR).row hk1).at rfl)) (df 0 rfl (dL rfl (λ_ hR=>((m2.ext hR).at rfl)) (cP (Xyx x.key c.key _ om9 om9) RX.all λw7 x7=>?_))))))
    replace hWr:=hWr.ext x7
    replace m2:=m2.ext x7
    replace hx:=hx.trans x7
    refine da (Xae (?_))
    exact⟨_,zz10,hx,hWr,m2,X4d hk hk1 om9⟩
   refine Xaa ?_
   exact⟨0,zz10,hx,hWr,m2,X7n om9⟩
  intro X8 g8 w8 hF8
  revert hF8;revert g8;intro n hF8
  clear hx hWr m2
  obtain⟨hx,hWr,m2,hn⟩:=hF8
  refine ws λ_ Z15=>wr (dm ?_)
  refine li (e:=3) (sz:=1) (zs:=[.int .i64 0]) (pv:=[(0,_)]) (cs:=[_]) RX.all (λb3 w9 e3 x9 m3=>?_)
  have g3:=hx.ge e3
  have n3_2:=m2.ltb e3
  have a3_hWr:=hWr.lt
  replace hWr:=hWr.ext x9
  replace m2:=m2.ext x9
  replace hx:=hx.trans x9
  have hnk:=hn▸Xov hk
  have hlnm:=m2.lt
  have hnm:¬ WrS b1 vc b2:=λh9=>(Nat.lt_irrefl b2 (Nat.lt_of_lt_of_eq (a2_hWr _ h9) e2.symm))
  refine cD (Xcr w.heap.size b1 vc _ [↑n] (.slice (some ⟨b3,0,none⟩) 1 1) _ hWr (Nat.le_trans hbl om9) hx.size (m3.arr (enc:=Vc.encI) (sz:=1) (l:=[↑n]) rfl ir9 rfl sp9) sp9 (λk9 h9 _ e77=>by have e88:b3=k9:=e77;subst e88;exact(Nat.lt_irrefl b3 (Nat.lt_of_lt_of_eq (a3_hWr _ h9) e3.symm)))) (.inl rfl) λu10 w10 x10 hf10=>?_
  have hsz10:=hx.size
  replace m2:=m2.mod x10 hnm
  replace hx:=hx.own x10 (λi hi=>hWr.ge g1 hi)
  obtain⟨rfl,v2,hWr,hg9⟩:=hf10
  rw[Xsd om9]at hWr
  have hln35:=Xlb (n:=n) hbl
  replace hnm:=Xy2 hg9 hnm hlnm
  refine de Z15 (ws λ_ Z16=>Xky [.p,.l,.p,.p,.x,.x,.x] rfl (df 0 rfl (dl rfl (m2.at rfl) (dm ?_))))
  refine Xa2 (v:=S (c.key.drop n)) rfl (X02 (b:=c.key.length) kr9 rfl rfl rfl hnk (Nat.le_refl _)) (by rw[List.take_length]) (Xoj (e:=5) rfl kr9 kr9 kr9 rfl RX.all (λb4 cap4 w11 e4 x11 by4=>?_))
  have g4:=hx.ge e4
  have n4_2:=m2.ltb e4
  have a4_hWr:=hWr.lt
  replace m2:=m2.ext x11
  replace hWr:=hWr.ext x11
  replace hx:=hx.trans x11
  refine li (e:=82) (sz:=1) (zs:=[.slice none 0 0]) (pv:=[(0,_)]) (cs:=[_]) RX.all (λb5 w12 e5 x12 m5=>?_)
  have g5:=hx.ge e5
  have n5_2:=m2.ltb e5
  have a5_hWr:=hWr.lt
  replace m2:=m2.ext x12
  replace hWr:=hWr.ext x12
  replace by4:=by4.ext x12
  replace hx:=hx.trans x12
  have hlnm:=m2.lt
  refine cD (Xc0 w.heap.size b1 v2 _ [(.slice (some ⟨b4,0,none⟩) (c.key.drop n).length cap4,c.key.drop n)] (.slice (some ⟨b5,0,none⟩) 1 1) _ hWr (Nat.le_trans hln35 om9) hx.size (Xc8 m5) (λq h=>by rw[List.mem_singleton.1 h];exact by4) (λq h=>by rw[List.mem_singleton.1 h];exact(by rw[List.length_drop];omega)) sp9 (λ_ h9=>(Nat.lt_irrefl b5 (Nat.lt_of_lt_of_eq (a5_hWr _ h9) e5.symm))) (λq h hl h9=>by rw[List.mem_singleton.1 h]at hl h9;exact(Nat.lt_irrefl b4 (Nat.lt_of_lt_of_eq (a4_hWr _ h9) e4.symm)))) (.inl rfl) λu13 w13 x13 hf13=>?_
  have hsz13:=hx.size
  replace m2:=m2.mod x13 hnm
  replace hx:=hx.own x13 (λi hi=>hWr.ge g1 hi)
  obtain⟨rfl,v3,hWr,hg9⟩:=hf13
  rw[row1]at hWr
  have hln42:=Xlc (p:=c.key.drop n) (M:=4096) hln35 (by rw[List.length_drop];omega)
  replace hnm:=Xy2 hg9 hnm hlnm
  refine de Z16 (ws λ_ Z17=>Xaq (R:=Mod (WrS b1 v3)) Xc5 Xcy kr9 [1,3] [(0,.p,false),(1,.l,false),(2,.p,false),(3,.l,false),(4,.x,false),(5,.x,false),(6,.x,false)] rfl kr9 kr9 (λw14 ew14=>?_))
  have x14:=drewx ew14
  clear ew14
  replace m2:=m2.ext x14
  replace hWr:=hWr.ext x14
  replace hx:=hx.trans x14
  refine df 3 rfl (dL rfl (λ_ hR=>((m2.mod hR hnm).at rfl)) (df 2 rfl (dL rfl (λ_ hR=>((m2.mod hR hnm).at rfl)) (cP (X63 c.del _) RX.mod λw15 x15=>?_))))
  replace m2:=m2.ext x15
  replace hWr:=hWr.ext x15
  replace hx:=hx.trans x15
  refine li (e:=3) (sz:=1) (zs:=[.int .i64 0]) (pv:=[(0,_),(1,_)]) (cs:=[_,_]) RX.mod (λb6 w16 e6 x16 m6=>?_)
  have g6:=hx.ge e6
  have n6_2:=m2.ltb e6
  have a6_hWr:=hWr.lt
  replace m2:=m2.ext x16
  replace hWr:=hWr.ext x16
  replace hx:=hx.trans x16
  have hlnm:=m2.lt
  refine Xc6 rfl kr9 (Xcr w.heap.size b1 v3 _ [c.seq,↑(Xi0 c.del)] (.slice (some ⟨b6,0,none⟩) 2 2) _ hWr (Nat.le_trans hln42 om9) hx.size (m6.arr (enc:=Vc.encI) (sz:=1) (l:=[c.seq,↑(Xi0 c.del)]) rfl ir9 rfl sp9) sp9 (λk9 h9 _ e77=>by have e88:b6=k9:=e77;subst e88;exact(Nat.lt_irrefl b6 (Nat.lt_of_lt_of_eq (a6_hWr _ h9) e6.symm)))) rfl (.inr λ_ h=>h) (λu17 w17 x17 hf17=>?_)
  have hsz17:=hx.size
  replace m2:=m2.mod x17 hnm
  replace hx:=hx.own x17 (λi hi=>hWr.ge g1 hi)
  obtain⟨rfl,v4,hWr,hg9⟩:=hf17
  rw[X9q om9 om9 om9]at hWr
  have hln49:=Xy3 (m:=c.seq.toNat) (n:=Xi0 c.del) hln42
  refine de Z17 (ws λ_ Z18=>wr (df 2 rfl (dl rfl (m2.at rfl) (dn (de Z18 ?_)))))
  refine wc (λc4=>?_) λc4=>?_
  ·refine Xky [.p,.l,.x,.x,.x] rfl (df 1 rfl (dl rfl (m2.at rfl) (Xoj (e:=5) rfl kr9 kr9 kr9 rfl RX.all (λb7 cap7 w18 e7 x18 by7=>?_))))
   have g7:=hx.ge e7
   have n7_2:=m2.ltb e7
   have a7_hWr:=hWr.lt
   replace m2:=m2.ext x18
   replace hWr:=hWr.ext x18
   replace hx:=hx.trans x18
   refine li (e:=82) (sz:=1) (zs:=[.slice none 0 0]) (pv:=[(0,_)]) (cs:=[_]) RX.all (λb8 w19 e8 x19 m8=>?_)
   have g8:=hx.ge e8
   have n8_2:=m2.ltb e8
   have a8_hWr:=hWr.lt
   replace m2:=m2.ext x19
   replace hWr:=hWr.ext x19
   replace by7:=by7.ext x19
   replace hx:=hx.trans x19
   have hlnm:=m2.lt
   refine cD (Xc0 w.heap.size b1 v4 _ [(.slice (some ⟨b7,0,none⟩) c.val.length cap7,c.val)] (.slice (some ⟨b8,0,none⟩) 1 1) _ hWr (Nat.le_trans hln49 om9) hx.size (Xc8 m8) (λq h=>by rw[List.mem_singleton.1 h];exact by7) (λq h=>by rw[List.mem_singleton.1 h];exact(show c.val.length≤1000000 by omega)) sp9 (λ_ h9=>(Nat.lt_irrefl b8 (Nat.lt_of_lt_of_eq (a8_hWr _ h9) e8.symm))) (λq h hl h9=>by rw[List.mem_singleton.1 h]at hl h9;exact(Nat.lt_irrefl b7 (Nat.lt_of_lt_of_eq (a7_hWr _ h9) e7.symm)))) (.inl rfl) λu20 w20 x20 hf20=>?_
   have hsz20:=hx.size
   replace hx:=hx.own x20 (λi hi=>hWr.ge g1 hi)
   obtain⟨rfl,v5,hWr,hg9⟩:=hf20
   rw[row1]at hWr
   have hln57:=trivial
   refine de Z11 (wr (pa rfl rfl (dm (Xae (?_)))))
   refine⟨(k+1,v5),zz7,⟨hx,by omega,?_⟩,by simp only [];omega⟩
   rw[Xgm om9,Xi4 hk,←hn]
   unfold Xe5
   have hd:c.del=false:=by simpa using c4
   rw[hd]at hWr ⊢
   simpa only [List.append_assoc,List.append_nil,if_true,if_false,Bool.false_eq_true]using hWr
  refine Xaa (Z11 _ _ (wr (pa rfl rfl (dm (Xae (?_))))))
  refine⟨(k+1,v4),zz7,⟨hx,by omega,?_⟩,by simp only [];omega⟩
  rw[Xgm om9,Xi4 hk,←hn]
  unfold Xe5
  have hd:c.del=true:=by simpa using c4
  rw[hd]at hWr ⊢
  simpa only [List.append_assoc,List.append_nil,if_true,if_false,Bool.false_eq_true]using hWr
 refine Xah (Z7 _ _ (ws λ_ Z19=>wr (cG (Xj6 w.heap.size b1 vc _ _ hWr (by have:=Xow hAll k om9;omega)) RX.all λvo w21 x21 hB=>?_)))
 have hsz21:=hx.size
 replace hx:=hx.trans x21
 refine da (da (de Z19 (Xad ?_)))
 refine rt ?_
 rw[Xy4 k om9]at hB
 rw[if_pos hE,hE]
 exact⟨_,rfl,hx,_,rfl,hB.mono om9⟩
theorem in1 {br b k o:Nat} : (k=br∨∃p∈[((b,o):Nat×Nat)],k=p.1)↔(k=br∨k=b):=by simp
theorem in2 {br b b' k o o':Nat} : (k=br∨∃p∈[((b,o):Nat×Nat),(b',o')],k=p.1)↔(k=br∨k=b∨k=b'):=by simp
theorem X4e {n:Nat}(r:Str)(h:n≤4611686018427387904):Xe1 1 (numS n++r) false=([n],r,false):=by
 unfold Xe1;rw[Xd3 r false h];rfl
theorem X4f {n m:Nat}(r:Str)(h:n≤4611686018427387904)(h2:m≤4611686018427387904):Xe1 2 (numS n++(numS m++r)) false=([n,m],r,false):=by
 unfold Xe1;rw[Xd3 _ false h];unfold Xe1;rw[Xd3 _ false h2];rfl
theorem Xqt (n:Nat)(c:Cell)(r:Str):Xe5 n c++r=numS n++(rowS (c.key.drop n)++(numS c.seq.toNat++(numS (Xi0 c.del)++((if c.del then[]else rowS c.val)++r)))):=by unfold Xe5;simp only [List.append_assoc]
theorem Xy5 (n:Nat)(c:Cell)(r:Str):Xe5 n c++r≠[]:=λe=>by
 have h:=Xmv n c
 have h2:=congrArg List.length e
 rw[List.length_append,List.length_nil]at h2
 omega
theorem X4g {b o n:Nat}{Cs:Nat->List Value} : wrote Cs [(b,o)] [n] b=(Cs b).set o (I ↑n):=by unfold wrote;unfold wrote;rw[if_pos rfl]
theorem Xy6 {b b' o o' n m:Nat}{Cs:Nat->List Value}(h:b≠b'):wrote Cs [(b,o),(b',o')] [n,m] b=(Cs b).set o (I ↑n):=by unfold wrote;unfold wrote;unfold wrote;rw[if_neg h,if_pos rfl]
theorem Xy7 {b b' o o' n m:Nat}{Cs:Nat->List Value}(h:b≠b'):wrote Cs [(b,o),(b',o')] [n,m] b'=(Cs b').set o' (I ↑m):=by unfold wrote;unfold wrote;unfold wrote;rw[if_pos rfl,if_neg (λe=>h e.symm)]
theorem X4h (d:Bool):decide (¬ (↑(Xi0 d):Int)=0)=d:=by cases d<;>rfl
theorem Xi5 {α:Type}{a b:α}{P:α->Prop}(h1:P a)(h2:P b):∀p∈[a,b],P p:=λp hp=>by
 rcases List.mem_cons.1 hp with rfl|hp
 ·exact h1
 ·rw[List.mem_singleton.1 hp];exact h2
theorem X4i {b o s:Nat}{w:World}(h:Blk w s [ptr b o] 197):Arr (λp:Nat×Nat=>[ptr p.1 p.2]) 1 w (.slice (some ⟨s,0,none⟩) 1 1) [(b,o)]:=h.arr (enc:=λp:Nat×Nat=>[ptr p.1 p.2]) (sz:=1) (l:=[(b,o)]) rfl ir9 rfl sp9
theorem X4j {b o b' o' s:Nat}{w:World}(h:Blk w s [ptr b o,ptr b' o'] 197):Arr (λp:Nat×Nat=>[ptr p.1 p.2]) 1 w (.slice (some ⟨s,0,none⟩) 2 2) [(b,o),(b',o')]:=h.arr (enc:=λp:Nat×Nat=>[ptr p.1 p.2]) (sz:=1) (l:=[(b,o),(b',o')]) rfl ir9 rfl sp9
theorem X7o (br bb:Nat)(v:Value)(n:Nat)(c:Cell)(rest ahead:Str)(w:World)(h:Rd br bb v (Xe5 n c++rest) false w)(hll:(Xe5 n c++rest).length≤2001000020)(hc:isC c=true)(hn:n≤c.key.length)(hna:n≤ahead.length)(hah:ahead.length≤1000000)(he:ahead.take n++c.key.drop n=c.key) :
  Calls Tryz.prog 261 [ptr br 0,S ahead].toArray w (Does (oneB br) w (λu w'=>u=c.v∧∃v',Rd br bb v' rest false w')):=by
 refine cw Tryz.func261 ?_
 have hx:=Vc.Mod.refl (oneB br) w
 have hR:=h
 have hl0:=Xy5 n c rest
 have hlt0:=h.lt
 have hbr:=h.m.lt
 rw[Xqt]at hR
 have hcs:=Xbk hc
 have hng:=Xqs c.del
 rw[Xqt]at hll
 have hl2:=hll
 rw[List.length_append]at hl2
 refine ws λ_ Z1=>wr (Xan (cs:=[S [],S [],B false,.int .i64 0]) rfl kr9 RX.all (λb1 w1 e1 x1 m1=>?_))
 have g1:=hx.ge e1
 have a1_hR:=hR.lt
 replace hR:=hR.ext x1
 replace hx:=hx.ext x1
 refine de Z1 (ws λ_ Z2=>wr (Xan (cs:=[.int .i64 0]) rfl kr9 RX.all (λb2 w2 e2 x2 m2=>?_)))
 have g2:=hx.ge e2
 have n2_1:=m1.ltb e2
 have a2_hR:=hR.lt
 replace hR:=hR.ext x2
 replace m1:=m1.ext x2
 replace hx:=hx.ext x2
 refine Xan (cs:=[.int .i64 0]) rfl kr9 RX.all (λb3 w3 e3 x3 m3=>?_)
 have g3:=hx.ge e3
 have n3_1:=m1.ltb e3
 have n3_2:=m2.ltb e3
 have a3_hR:=hR.lt
 replace hR:=hR.ext x3
 replace m1:=m1.ext x3
 replace m2:=m2.ext x3
 replace hx:=hx.ext x3
 refine de Z2 (ws λ_ Z3=>wr (dm ?_))
 refine li (e:=197) (sz:=1) (zs:=[.pointer none]) (pv:=[(0,_)]) (cs:=[_]) RX.all (λb4 w4 e4 x4 m4=>?_)
 have g4:=hx.ge e4
 have n4_1:=m1.ltb e4
 have n4_2:=m2.ltb e4
 have n4_3:=m3.ltb e4
 have a4_hR:=hR.lt
 replace hR:=hR.ext x4
 replace m1:=m1.ext x4
 replace m2:=m2.ext x4
 replace m3:=m3.ext x4
 replace hx:=hx.ext x4
 refine cD (Xtx br bb v _ false [(b2,0)] (.slice (some ⟨b4,0,none⟩) 1 1) (λ_=>[I 0]) (λ_=>3) _ hR (by rw[List.length_append];omega) (X4i m4) sp9 (λp hp=>by rw[List.mem_singleton.1 hp];exact⟨m2,Nat.zero_lt_one⟩) (λp hp h9=>by rw[List.mem_singleton.1 hp]at h9;have h8:=hlt0 _ (Xct (λ_=>hl0) h9);have h7:b2<w.heap.size:=h8;omega) (λ_ h9=>by have h2:b4=br∨b4=b2:=in1.1 h9;omega)) (.inl rfl) λu5 w5 x5 hf5=>?_
 have hsz5:=hx.size
 replace m1:=m1.mod x5 (λh9=>by have h2:b1=br∨b1=b2:=in1.1 h9;omega)
 replace m3:=m3.mod x5 (λh9=>by have h2:b3=br∨b3=b2:=in1.1 h9;omega)
 replace hx:=hx.own x5 (λi hi hlt=>(show i=br from by have h2:=in1.1 hi;omega))
 obtain⟨rfl,v1,hR,hB9⟩:=hf5
 have m2:=hB9 (b2,0) List.mem_cons_self
 rw[show[((b2,0):Nat×Nat)].length=1 from rfl,X4e _ om9]at hR m2
 rw[show((b2,0):Nat×Nat).1=b2 from rfl,X4g]at m2
 refine de Z3 (ws λ_ Z4=>wr (dm ?_))
 have hb5:=m1.lt
 refine cD (Xh5 br bb v1 _ false _ hR (by simp only [List.length_append]at *;omega)) (.inl rfl) λu6 w6 x6 hf6=>?_
 have hsz6:=hx.size
 replace m1:=m1.mod x6 (λh9=>by have h2:_=br:=h9;omega)
 replace m3:=m3.mod x6 (λh9=>by have h2:_=br:=h9;omega)
 replace m2:=m2.mod x6 (λh9=>by have h2:_=br:=h9;omega)
 replace hx:=hx.own x6 (λi hi hlt=>hi)
 obtain⟨hO,v2,hR⟩:=hf6
 rw[Xeg _ _ _ (by rw[List.length_drop];omega)]at hO hR
 dsimp only at hO hR
 refine da (de Z4 (ws λ_ Z5=>ws λ_ Z6=>wr ?_))
 refine dl rfl (m2.at rfl) (dm ?_)
 refine dt rfl (dp (Xaw rfl rfl) (de Z6 (wi (λc1=>?_) λc1=>?_)))
 ·omega
 refine Xaa (Z5 _ _ (ws λ_ Z7=>Xaq (R:=Ext) Ext.refl (λ_ _ _=>Ext.trans) kr9 [1,4] [(0,.p,false),(1,.l,false),(2,.p,false),(3,.p,false),(4,.l,false),(5,.p,false),(6,.p,false),(7,.x,true)] rfl kr9 kr9 (λw7 ew7=>?_)))
 have x7:=drewx ew7
 clear ew7
 replace m1:=m1.ext x7
 replace m3:=m3.ext x7
 replace m2:=m2.ext x7
 replace hO:=hO.ext x7
 replace hR:=hR.ext x7
 replace hx:=hx.ext x7
 refine dm ?_
 refine dL rfl (λ_ hR=>((m2.ext hR).at rfl)) (Xa2 (v:=S (ahead.take n)) rfl (X02 (a:=0) kr9 rfl rfl rfl (Nat.zero_le _) hna) (by rw[List.drop_zero]) (dm ?_))
 refine D_l rfl (λw' hR=>Xpx kr9 kr9 ((hO.ext hR).arr ir9) rfl) (Xa2 (v:=S c.key) rfl (Xce rfl rfl (by simp;omega)) (by rw[he]) (df 0 rfl (st1 m1 (λw8 x8 xs8 m1=>?_) (hv:=by first|rfl|exact isSl.one m3.sl|exact isSl.one m2.sl|exact isSl.one hO.sl|exact isSl.one hR.sl))))
 try dsimp only [Xal,List.set,List.take,List.drop]at m1
 try replace m3:=m3.mo x8
 replace hR:=hR.mod x8 (λk hk e=>by have h2:k=b1:=e;have h8:=hlt0 _ (Xct (λ_=>hl0) hk);omega)
 replace hx:=hx.o1 x8
 refine de Z7 (ws λ_ Z8=>wr (dm ?_))
 refine df 3 rfl (li (e:=197) (sz:=1) (zs:=[.pointer none]) (pv:=[(0,_),(1,_)]) (cs:=[_,_]) RX.all (λb5 w9 e5 x9 m5=>?_))
 have g5:=hx.ge e5
 have n5_1:=m1.ltb e5
 have n5_3:=m3.ltb e5
 have a5_hR:=hR.lt
 replace m1:=m1.ext x9
 replace m3:=m3.ext x9
 replace hR:=hR.ext x9
 replace hx:=hx.ext x9
 refine cD (Xtx br bb v2 _ false [(b1,3),(b3,0)] (.slice (some ⟨b5,0,none⟩) 2 2) (λk=>if k=b1 then[S c.key,S [],B false,I 0]else[I 0]) (λk=>if k=b1 then 79 else 3) _ hR (by simp only [List.length_append]at *;omega) (X4j m5) sp9 (Xi5 (P:=λp:Nat×Nat=>Blk _ p.1 (if p.1=b1 then _ else _) (if p.1=b1 then _ else _)∧p.2<(if p.1=b1 then _ else _:List Value).length) (by rw[if_pos rfl,if_pos rfl];exact⟨m1,(by decide:3<4)⟩) (by rw[if_neg om9,if_neg om9];exact⟨m3,Nat.zero_lt_one⟩)) (Xi5 (P:=λp:Nat×Nat=>¬ RdS br bb _ p.1) (λh9=>by have h8:=hlt0 _ (Xct (λ_=>hl0) h9);have h7:b1<w.heap.size:=h8;omega) (λh9=>by have h8:=hlt0 _ (Xct (λ_=>hl0) h9);have h7:b3<w.heap.size:=h8;omega)) (λ_ h9=>by have h2:b5=br∨b5=b1∨b5=b3:=in2.1 h9;omega)) (.inl rfl) λu10 w10 x10 hf10=>?_
 have hsz10:=hx.size
 replace hx:=hx.own x10 (λi hi hlt=>(show i=br from by have h2:=in2.1 hi;omega))
 obtain⟨rfl,v3,hR,hB9⟩:=hf10
 have hb13:b1≠b3:=by omega
 have m1:=hB9 (b1,3) List.mem_cons_self
 have m3:=hB9 (b3,0) (List.mem_cons_of_mem _ List.mem_cons_self)
 rw[show[((b1,3):Nat×Nat),(b3,0)].length=2 from rfl,X4f _ om9 om9]at hR m1 m3
 dsimp only at hR m1 m3
 rw[Xy6 hb13,if_pos rfl,if_pos rfl]at m1
 rw[Xy7 hb13,if_neg (λe=>hb13 e.symm),if_neg (λe=>hb13 e.symm)]at m3
 dsimp only [List.set]at m1 m3
 rw[show((c.seq.toNat:Nat):Int)=c.seq by omega]at m1
 refine de Z8 (ws λ_ Z9=>ws λ_ Z10=>wr (dl rfl (m3.at rfl) (Xa2 (v:=B c.del) rfl (Xas rfl rfl) (by show B _=B _;congr 1;exact X4h _) (df 2 rfl (st1 m1 (λw11 x11 xs11 m1=>?_) (hv:=by first|rfl|exact isSl.one hR.sl|exact isSl.one m3.sl))))))
 try dsimp only [Xal,List.set,List.take,List.drop]at m1
 replace hR:=hR.mod x11 (λk hk e=>by have h2:k=b1:=e;have h8:=hlt0 _ (Xct (λ_=>hl0) hk);omega)
 try replace m3:=m3.mo x11
 replace hx:=hx.o1 x11
 refine de Z10 (ws λ_ Z11=>wr (df 2 rfl (dl rfl (m1.at rfl) (dn (de Z11 ?_)))))
 refine wc (λc2=>?_) λc2=>?_
 ·refine Xky [.p,.x,.l,.p,.x] rfl (dm ?_)
  have hb6:=m1.lt
  refine cD (Xh5 br bb v3 _ false _ hR (by simp only [List.length_append]at *;omega)) (.inl rfl) λu12 w12 x12 hf12=>?_
  have hsz12:=hx.size
  replace m1:=m1.mod x12 (λh9=>by have h2:_=br:=h9;omega)
  replace m3:=m3.mod x12 (λh9=>by have h2:_=br:=h9;omega)
  replace hx:=hx.own x12 (λi hi hlt=>hi)
  have hd:c.del=false:=by simpa using c2
  obtain⟨hO2,v4,hR⟩:=hf12
  rw[hd,if_neg dc9,Xeg _ _ _ om9]at hO2 hR
  dsimp only at hO2 hR
  refine dq (Xpx kr9 kr9 (hO2.arr ir9) rfl) (df 1 rfl (st1 m1 (λw13 x13 xs13 m1=>?_) (hv:=by first|rfl|exact isSl.one m3.sl|exact isSl.one hO2.sl|exact isSl.one hR.sl)))
  try dsimp only [Xal,List.set,List.take,List.drop]at m1
  replace hR:=hR.mod x13 (λk hk e=>by have h2:k=b1:=e;have h8:=hlt0 _ (Xct (λ_=>hl0) hk);omega)
  replace hx:=hx.o1 x13
  refine de Z9 (ws λ_ Z12=>wr (dq (Xac (k:=4) kr9 rfl rfl m1.row) (stA m1 (λw14 x14 xs14 m1=>?_))))
  try dsimp only [Xal,List.set,List.take,List.drop]at m1
  replace hR:=hR.mod x14 (λk hk e=>by have h2:k=b1:=e;have h8:=hlt0 _ (Xct (λ_=>hl0) hk);omega)
  replace hx:=hx.o1 x14
  refine de Z12 (Xad (Xfe (k:=4) rfl rfl rfl kr9 rfl m1.row ?_))
  have e0:c=⟨c.key,c.val,false,c.seq⟩:=by rw[←hd]
  rw[hd]at m1
  refine⟨_,rfl,hx,by rw[e0],v4,hR⟩
 refine Xaa (Z9 _ _ (ws λ_ Z13=>wr (dq (Xac (k:=4) kr9 rfl rfl m1.row) (stA m1 (λw15 x15 xs15 m1=>?_)))))
 try dsimp only [Xal,List.set,List.take,List.drop]at m1
 replace hR:=hR.mod x15 (λk hk e=>by have h2:k=b1:=e;have h8:=hlt0 _ (Xct (λ_=>hl0) hk);omega)
 replace hx:=hx.o1 x15
 refine de Z13 (Xad (Xfe (k:=4) rfl rfl rfl kr9 rfl m1.row ?_))
 have hd:c.del=true:=by simpa using c2
 have e0:c=⟨c.key,[],true,c.seq⟩:=by rw[←hd,←hcs.2.2.2.2.2 hd]
 rw[hd,if_pos rfl,List.nil_append]at hR
 exact⟨_,rfl,hx,by rw[e0],v3,hR⟩
structure Sz (n:Nat)(w:World):Prop where
 le:n≤w.heap.size
theorem Sz.ext {n:Nat}{w w':World}(h:Sz n w)(x:Ext w w'):Sz n w':=⟨Nat.le_trans h.le x.size⟩
theorem Sz.mod {n:Nat}{w w':World}{S:Nat->Prop}(h:Sz n w)(x:Vc.Mod S w w')(_:True):Sz n w':=⟨Nat.le_trans h.le x.size⟩
theorem Xle {l:List Cell}{k:Nat} : 0<(blkD l k).length↔k<l.length:=by
 by_cases h:k<l.length
 ·rw[Xi1 h,List.length_append]
  have:=Xmv (shAt l k) (l[k]?.getD Cell.zero)
  unfold Xcp
  exact⟨λ_=>h,λ_=>by omega⟩
 ·rw[Xk7 om9];exact⟨λh2=>by simp at h2,λh2=>absurd h2 h⟩
theorem Xy8 {l:List Cell}(k:Nat):(blkD l k).length≤(blkS l).length:=by
 by_cases h:k≤l.length
 ·induction k with
  | zero=>exact Nat.le_refl _
  | succ k ih=>
   have:=ih om9
   rw[Xi1 om9,List.length_append]at this
   omega
 ·rw[Xk7 om9];exact Nat.zero_le _
theorem Xy9 {l:List Cell}(h:∀c∈l,isC c=true)(k:Nat):(if k=0 then([]:Str)else(l[k-1]?.getD Cell.zero).key).length≤4096:=by
 split
 ·simp
 ·cases e:l[k-1]? with
  | none=>simp [Cell.zero]
  | some c=>exact(Xbk (h c (List.mem_of_getElem? e))).1
theorem Xza {l:List Cell}(h:blkS l=[]):l=[]:=by
 cases l with
 | nil=>rfl
 | cons a r=>
  have:=(Xle (l:=a :: r) (k:=0)).2 sp9
  rw[X62,h]at this;simp at this
theorem Xzb (l:List Cell)(v:Value)(w:World)(hv:Arr encB 1 w v (blkS l))(hl:l.length≤30000)(hE:errB l=0) :
  Calls Tryz.prog 196 [v].toArray w (Gives w (λu w'=>∃vb,u=.tuple #[vb,I 0]∧Vc.Own Cell.cs 4 79 w.heap.size w' vb l)):=by
 refine cw Tryz.func196 ?_
 have hx:=Ext.refl w
 obtain⟨hAll,hRis⟩:=Xfu.1 hE
 have hbl:=Xh7 hAll
 refine ws λ_ Z1=>wr (da (da (de Z1 (ws λ_ Z2=>wr (dm ?_)))))
 refine cG (Xiu (blkS l) v _ (hv.ext hx) om9) RX.all λu1 w1 x1 hf1=>?_
 have hsz1:=hx.size
 replace hx:=hx.trans x1
 obtain⟨br,bb,vc0,rfl,gbr,gbb,hR⟩:=hf1
 have hS:Sz w1.heap.size w1:=⟨Nat.le_refl _⟩
 have hlt1:=hR.lt
 have hw1:=Nat.le_trans hsz1 x1.size
 refine da (de Z2 (ws λ_ Z3=>wr (da (de Z3 (ws λ_ Z4=>Xab ?_)))))
 refine Xaj (G:=Nat×Value×Value) (λ(k,vc,vl)=>[(0,v),(4,ptr br 0),(5,vl)]) (λ(k,vc,vl) w'=>Ext w w'∧k≤l.length∧Rd br bb vc (blkD l k) false w'∧Vc.Own Cell.cs 4 79 w1.heap.size w' vl (l.take k)∧Sz w1.heap.size w') (λ(k,vc,vl)=>l.length-k) (0,vc0,.slice none 0 0) ?_ ?_ ?_
 ·exact zz3
 ·exact⟨hx,Nat.zero_le _,hR,Vc.Own.nil,hS⟩
 intro X2 g2 w2 hF2
 obtain⟨k,vc,vl⟩:=g2
 clear hx hR hS
 obtain⟨hx,hk9,hR,ho,hS⟩:=hF2
 refine ws λ_ Z5=>ws λ_ Z6=>wr (dm ?_)
 refine cP (X6w br bb vc (blkD l k) false _ hR) RX.all λw3 x3=>?_
 replace hR:=hR.ext x3
 replace ho:=ho.ext x3
 replace hS:=hS.ext x3
 replace hx:=hx.trans x3
 refine dp (Xaw rfl rfl) (de Z6 (wi (λc1=>?_) λc1=>?_))
 ·have htl:(l.take k).length=k:=by rw[List.length_take];omega
  have hkl:k<l.length:=by have:=(Xle (l:=l) (k:=k)).1 om9;exact this
  have hlne:blkS l≠[]:=λe=>by rw[Xza e]at hkl;simp at hkl
  obtain⟨c,hk⟩:∃c,l[k]?=some c:=⟨_,List.getElem?_eq_getElem hkl⟩
  have hci:=hAll c (List.mem_of_getElem? hk)
  have hcs:=Xbk hci
  refine Xaa (Z5 _ _ (Xab (ws λ_ Z7=>wr (da (de Z7 ?_)))))
  refine Xdi (G:=Str) (λp=>[(0,v),(4,ptr br 0),(5,vl),(6,S p)]) (λp w'=>Ext w w'∧Rd br bb vc (blkD l k) false w'∧Vc.Own Cell.cs 4 79 w1.heap.size w' vl (l.take k)∧Sz w1.heap.size w'∧p=if k=0 then[]else(l[k-1]?.getD Cell.zero).key) ?_ ?_
  ·refine ws λ_ Z8=>wr (dm ?_)
   refine dv 79 4 (ho.arr ir9).sl (dp (Xaw rfl rfl) (de Z8 (wi (λc2=>?_) λc2=>?_)))
   ·obtain⟨x,hk0⟩:∃x,l[k-1]?=some x:=gtE
    have hk1:(l.take k)[k-1]?=some x:=by rw[List.getElem?_take,if_pos om9];exact hk0
    refine wr (dm (dm ?_))
    refine dv 79 4 (ho.arr ir9).sl (Xa2 (v:=I ↑(k-1)) rfl (Xay rfl rfl (by unfold Xai;omega)) (by show I _=I _;congr 1;omega) (di 79 4 (ho.arr ir9).sl rfl ((ho.arr ir9).lt hk1) (df 0 rfl (dl rfl (((ho.arr ir9).row hk1).at rfl) (da (Xae (?_)))))))
    exact⟨_,zz4,hx,hR,ho,hS,by rw[if_neg om9,hk0];rfl⟩
   refine Xaa ?_
   exact⟨_,zz4,hx,hR,ho,hS,by rw[if_pos om9]⟩
  intro X4 g4 w4 hF4
  revert hF4;revert g4;intro p hF4
  clear hx hR ho hS
  obtain⟨hx,hR,ho,hS,hp⟩:=hF4
  refine ws λ_ Z9=>wr (dm (dm ?_))
  have hst:=Xuj hk p hp
  have hpl:=hp▸Xy9 hAll k
  have hbd:=Xy8 (l:=l) k
  rw[Xi1 hkl,Xi4 hk]at hR hbd
  refine cD (X7o br bb vc (shAt l k) c (blkD l (k+1)) p _ hR om9 hci (Xov hk) hst.1 om9 hst.2) (.inl rfl) λu5 w5 x5 hf5=>?_
  have hsz5:=hx.size
  replace ho:=ho.mod x5 (λk9 h9 e=>ho.ne_blk hR.m rfl (by rw[h9];exact congrArg some e))
  replace hS:=hS.mod x5 trivial
  replace hx:=hx.own x5 (λi hi=>(by have h2:i=br:=hi;omega))
  obtain⟨rfl,vc2,hR⟩:=hf5
  refine Xan (cs:=[S [],S [],B false,.int .i64 0]) rfl kr9 RX.all (λb1 w6 e1 x6 m1=>?_)
  have g1:=hx.ge e1
  have o1_ho:=ho.ltb e1
  have a1_hS:=hS.le
  have a1_hR:=hR.lt
  replace ho:=ho.ext x6
  replace hS:=hS.ext x6
  replace hR:=hR.ext x6
  replace hx:=hx.trans x6
  refine stA m1 (λw7 x7 xs7 m1=>?_)
  try dsimp only [Xal,List.set,List.take,List.drop]at m1
  try replace ho:=ho.mod x7 (by first|assumption|(intro k hk h;have h1:=(ho.lt k hk).1;have h2:k=b1:=h;omega)|(intro k hk h;have h1:=o1_ho k hk;have h2:k=b1:=h;omega)|(intro h;have h2:_=b1:=h;omega)|(intro hl h;have h1:=a1_ho hl;have h2:_=b1:=h;omega))
  replace hS:=hS.mod x7 trivial
  replace hR:=hR.mod x7 (λk9 h9 e=>by have h2:k9=b1:=e;have h8:=a1_hR k9 h9;omega)
  replace hx:=hx.o1 x7
  refine de Z9 (ws λ_ Z10=>ws λ_ Z11=>wr (df 0 rfl (dl rfl (m1.at rfl) (dt rfl (dp (Xaw rfl rfl) (de Z11 (wi (λc3=>?_) λc3=>?_)))))))
  ·omega
  refine Xaa (Z10 _ _ (wr (dm ?_)))
  refine dq (Xac (k:=4) kr9 rfl rfl m1.row) (li (e:=79) (sz:=4) (zs:=[S [],S [],B false,.int .i64 0]) (pv:=[(0,.agg ⟨[_,_,_,_]⟩)]) (cs:=[_,_,_,_]) RX.all (λb2 w8 e2 x8 m2=>?_))
  have g2:=hx.ge e2
  have o2_ho:=ho.ltb e2
  have a2_hS:=hS.le
  have a2_hR:=hR.lt
  replace ho:=ho.ext x8
  replace hS:=hS.ext x8
  replace hR:=hR.ext x8
  replace hx:=hx.trans x8
  refine Xa6 (lx:=[c]) (e:=79) (sz:=4) (by':=48) rfl kr9 kr9 ir9 ho (m2.arr (enc:=Cell.cs) (sz:=4) (l:=[c]) rfl ir9 rfl (Nat.le_of_ble_eq_true rfl)) rfl rfl (by intro x _ u hu;simp at hu;rcases hu with rfl|rfl|rfl|rfl<;>rfl) (by simp;omega) dc9 hS.le (.inl rfl) (λvl2 w9 ho_n x9=>?_)
  try replace hS:=hS.mod x9 (by first|trivial|(intro k9 h9 e9;have h8:=hlt1 k9 (Xct (λ_=>hlne) h9);have h7:=(ho.lt k9 e9).1;omega))
  try replace hR:=hR.mod x9 (by first|trivial|(intro k9 h9 e9;have h8:=hlt1 k9 (Xct (λ_=>hlne) h9);have h7:=(ho.lt k9 e9).1;omega))
  replace hx:=hx.own x9 (λi hi=>(Nat.le_trans hw1 (ho.lt i hi).1))
  replace ho:=ho_n
  clear m2
  refine da (Xae (?_))
  refine⟨(k+1,vc2,vl2),zz3,⟨hx,by omega,hR,?_,hS⟩,by simp only [];omega⟩
  rw[Xa0 hk];exact ho
 have hkl:l.length≤k:=by
  have h9:=(Xle (l:=l) (k:=k)).2
  omega
 have hkl2:k=l.length:=by omega
 refine Xah (Z4 _ _ (ws λ_ Z12=>ws λ_ Z13=>wr (dm ?_)))
 rw[List.take_of_length_le hkl]at ho
 rw[Xk7 hkl]at hR
 refine cG (Xld l vl _ (ho.arr ir9) hl) RX.all λu10 w10 x10 hf10=>?_
 have hsz10:=hx.size
 replace hR:=hR.ext x10
 replace ho:=ho.ext x10
 replace hx:=hx.trans x10
 obtain⟨vb,rfl,hB⟩:=hf10
 rw[if_pos hE]at hB
 refine dm ?_
 refine dx rfl rfl (dx rfl rfl (da (da (de Z13 (ws λ_ Z14=>wr (dm ?_))))))
 refine cP (X3j br bb vc [] false _ hR) RX.all λw11 x11=>?_
 replace ho:=ho.ext x11
 replace hB:=hB.ext x11
 replace hx:=hx.trans x11
 refine dn (dm ?_)
 refine Xb7 44 rfl (λc4=>?_) (λc4=>?_)
 ·simp at c4
 refine dm ?_
 refine dp (Xas rfl rfl) (dk' ?_)
 refine dm ?_
 refine Xag 48 rfl (λc5=>?_) (λc5=>?_)
 ·exact absurd hE c5
 iterate 2 refine dm ?_
 refine cP (X3z (blkS l) (blkS l) vb v _ (hB.arr ir9) (hv.ext hx)) RX.all λw12 x12=>?_
 replace ho:=ho.ext x12
 replace hx:=hx.trans x12
 refine dn ?_
 refine dk' (de Z14 ?_)
 refine wc (λc6=>?_) λc6=>?_
 ·simp at c6
 refine Xaa (Z12 _ _ (ws λ_ Z15=>wr (dm (da (da (de Z15 (Xad ?_)))))))
 refine rt ?_
 exact⟨_,rfl,hx,vl,rfl,ho.mono hw1⟩
end Go.Proofs.YtiooodckiddpmaaGreatDoor
namespace Go.Sp
open Go.Vc (Str)
def cAt (l:List Cell)(k:Nat):Cell:=l[k]?.getD Cell.zero
theorem cAt_at {l:List Cell}{k:Nat}{c:Cell}(h:l[k]?=some c):cAt l k=c:=by unfold cAt;rw[h];rfl
def keyB (l:List Cell)(k:Nat):Bool:=decide (k=0) || decide ((cAt l (k-1)).key≠(cAt l k).key)
def Xjy (l:List Cell)(k:Nat):List Str:=((List.range k).filter (keyB l)).map λi=>(cAt l i).key
def Xb9 (l:List Cell):List Str:=Xjy l l.length
theorem Xse (l:List Cell)(k:Nat):Xjy l (k+1)=if keyB l k=true then Xjy l k++[(cAt l k).key]else Xjy l k:=by
 unfold Xjy
 rw[List.range_succ,List.filter_append]
 split
 ·rename_i h;simp [h]
 ·rename_i h;simp [h]
theorem Xcl (l:List Cell)(k:Nat):(Xjy l k).length≤k:=by
 unfold Xjy
 rw[List.length_map]
 exact Nat.le_trans (List.length_filter_le _ _) sp9
theorem Xm3 (l:List Cell):∀(i k:Nat),i<k->(cAt l i).key∈Xjy l k
 | 0,k,h=>List.mem_map.2 ⟨0,List.mem_filter.2 ⟨List.mem_range.2 h,rfl⟩,rfl⟩
 | i+1,k,h=>by
  by_cases e:keyB l (i+1)=true
  ·exact List.mem_map.2 ⟨i+1,List.mem_filter.2 ⟨List.mem_range.2 h,e⟩,rfl⟩
  ·have ih:=Xm3 l i k om9
   unfold keyB at e
   simp at e
   rw[←e];exact ih
theorem Xu7 {l:List Cell}{c:Cell}(h:c∈l):c.key∈Xb9 l:=by
 obtain⟨i,hi⟩:=List.mem_iff_getElem?.1 h
 have:=Xm3 l i l.length (List.getElem?_eq_some_iff.1 hi).1
 rwa [cAt_at hi]at this
theorem Xkh {l:List Cell}{k:Nat}(hk:k≤l.length){s:Str}(h:s∈Xjy l k):∃c∈l,c.key=s:=by
 obtain⟨i,hi,rfl⟩:=List.mem_map.1 h
 have hi2:=List.mem_range.1 (List.mem_filter.1 hi).1
 have e:l[i]?=some l[i]:=List.getElem?_eq_getElem om9
 exact⟨l[i],List.getElem_mem ..,by rw[cAt_at e]⟩
def runF (l:List Cell):Nat->List (Nat×Nat)×Nat×Nat
 | 0=>([],0,0)
 | k+1=>if k=0 then([],0,Xbh (cAt l 0))else if 512<(runF l k).2.2+Xbh (cAt l k)then((runF l k).1++[((runF l k).2.1,k)],k,Xbh (cAt l k))else((runF l k).1,(runF l k).2.1,(runF l k).2.2+Xbh (cAt l k))
def Xc9 (l:List Cell)(k:Nat):List (Nat×Nat):=if k=0 then[]else(runF l k).1++[((runF l k).2.1,k)]
def Xaz (l:List Cell):List (Nat×Nat):=Xc9 l l.length
def Chain : Nat->List (Nat×Nat)->Nat->Prop
 | a,[],b=>a=b
 | a,p :: r,b=>p.1=a∧a<p.2∧p.2≤a+32∧Chain p.2 r b
theorem Chain.append {a b c:Nat}{l m:List (Nat×Nat)}(h:Chain a l b)(h2:Chain b m c):Chain a (l++m) c:=by
 induction l generalizing a with
 | nil=>rw[show a=b from h];exact h2
 | cons p r ih=>exact⟨h.1,h.2.1,h.2.2.1,ih h.2.2.2⟩
theorem Chain.le {a b:Nat}{l:List (Nat×Nat)}(h:Chain a l b):a+l.length≤b:=by
 induction l generalizing a with
 | nil=>have e:a=b:=h;simp;omega
 | cons p r ih=>
  have:=ih h.2.2.2
  have:=h.2.1
  simp;omega
theorem Chain.mem {a b:Nat}{l:List (Nat×Nat)}(h:Chain a l b){p:Nat×Nat}(hp:p∈l):a≤p.1∧p.1<p.2∧p.2≤p.1+32∧p.2≤b:=by
 induction l generalizing a with
 | nil=>cases hp
 | cons q r ih=>
  rcases List.mem_cons.1 hp with rfl|hp
  ·have:=h.2.2.2.le
   have:=h.1;have:=h.2.1;have:=h.2.2.1
   exact⟨by omega,by omega,by omega,by omega⟩
  ·have:=ih h.2.2.2 hp
   have:=h.2.1
   exact⟨by omega,by omega,by omega,by omega⟩
theorem Xzc (l:List Cell)(k:Nat):Chain 0 (runF l (k+1)).1 (runF l (k+1)).2.1∧(runF l (k+1)).2.1<k+1∧16*(k+1-(runF l (k+1)).2.1)≤(runF l (k+1)).2.2∧((runF l (k+1)).2.2≤512∨k+1=(runF l (k+1)).2.1+1):=by
 induction k with
 | zero=>
  unfold runF
  rw[if_pos rfl]
  exact⟨rfl,Nat.one_pos,by unfold Xbh;simp,.inr rfl⟩
 | succ k ih=>
  obtain⟨h1,h2,h3,h4⟩:=ih
  rw[runF.eq_2,if_neg om9]
  split
  ·refine⟨h1.append ⟨rfl,h2,?_,rfl⟩,by show k+1<k+1+1;omega,by show 16*(k+1+1-(k+1))≤Xbh _;unfold Xbh;omega,.inr rfl⟩
   rcases h4 with h4|h4<;>omega
  ·rename_i hn
   refine⟨h1,by show(runF l (k+1)).2.1<k+1+1;omega,?_,?_⟩
   ·show 16*(k+1+1-(runF l (k+1)).2.1)≤(runF l (k+1)).2.2+Xbh _
    unfold Xbh;omega
   ·left;show(runF l (k+1)).2.2+Xbh _≤512;omega
theorem Xb3 (l:List Cell)(k:Nat):Chain 0 (Xc9 l k) k:=by
 cases k with
 | zero=>rfl
 | succ k=>
  obtain⟨h1,h2,h3,h4⟩:=Xzc l k
  unfold Xc9
  rw[if_neg om9]
  refine h1.append ⟨rfl,h2,?_,rfl⟩
  show k+1≤_
  rcases h4 with h4|h4<;>omega
theorem Xgr (l:List Cell)(k:Nat):(Xc9 l k).length≤k:=by have:=(Xb3 l k).le;omega
def seg (l:List Cell)(p:Nat×Nat):List Cell:=(l.take p.2).drop p.1
theorem Xu8 {l:List Cell}{p:Nat×Nat}(h:p.2≤p.1+32):(seg l p).length≤32:=by
 unfold seg;rw[List.length_drop,List.length_take];omega
theorem Xhh {l:List Cell}{a b:Nat}{ps:List (Nat×Nat)}(h:Chain a ps b):ps.flatMap (seg l)=(l.take b).drop a:=by
 induction ps generalizing a with
 | nil=>
  have e:a=b:=h
  subst e
  rw[List.drop_eq_nil_of_le (by rw[List.length_take];omega)];rfl
 | cons p r ih=>
  have hle:=h.2.2.2.le
  rw[List.flatMap_cons,ih h.2.2.2]
  unfold seg
  rw[h.1]
  have hb:p.2≤b:=by omega
  have e1:l.take p.2=(l.take b).take p.2:=by rw[List.take_take,Nat.min_eq_left hb]
  have e2:(l.take b).drop a=((l.take b).drop a).take (p.2-a)++((l.take b).drop a).drop (p.2-a):=(List.take_append_drop _ _).symm
  have h3:=h.2.1
  rw[e2,List.drop_drop,show a+(p.2-a)=p.2 by omega,e1,List.drop_take]
theorem Xi6 {l:List Cell}{p:Nat×Nat}{c:Cell}(h:c∈seg l p):c∈l:=List.mem_of_mem_take (List.mem_of_mem_drop h)
theorem X1j {l:List Cell}{p:Nat×Nat}{k:Nat}{c:Cell}(h:(seg l p)[k]?=some c):l[p.1+k]?=some c:=by
 unfold seg at h
 rw[List.getElem?_drop,List.getElem?_take]at h
 split at h
 ·exact h
 ·cases h
theorem Xoz {l:List Cell}(h:errB l=0)(p:Nat×Nat):errB (seg l p)=0:=by
 obtain⟨h1,h2⟩:=Xfu.1 h
 exact Xfu.2 ⟨λc hc=>h1 c (Xi6 hc),Xyv λk a b ha hb=>Xqi h2 (X1j ha) (by have:=X1j hb;rwa [show p.1+(k+1)=p.1+k+1 by omega]at this)⟩
def Xdz (l:List Cell)(p:Nat×Nat):Str:=rowS (cAt l (p.2-1)).key++numS (cAt l (p.2-1)).seq.toNat++rowS (blkS (seg l p))
end Go.Sp
namespace Go.Proofs.YtiooodckiddpmaaGreatDoor
open Go.Vc Go.Sp
attribute [local irreducible] W XW Dw DwT
@[reducible] def pEnc (p:Nat×Nat):List Value:=[I ↑p.1,I ↑p.2]
theorem Xki {l:List Cell}{k:Nat} : Xc9 l (k+1)=(runF l (k+1)).1++[((runF l (k+1)).2.1,k+1)]:=by unfold Xc9;rw[if_neg om9]
theorem Xu9 {l:List Cell}{k:Nat} : Xc9 l k=[]↔k=0:=by
 unfold Xc9
 split
 ·rename_i h;exact⟨λ_=>h,λ_=>rfl⟩
 ·rename_i h;exact⟨λe=>by simp at e,λe=>absurd e h⟩
theorem Xva {l:List Cell}{k:Nat}(h:k=0∨512<(runF l k).2.2+Xbh (cAt l k)):runF l (k+1)=(Xc9 l k,k,Xbh (cAt l k)):=by
 rw[runF.eq_2]
 unfold Xc9
 by_cases e:k=0
 ·subst e;rfl
 ·rw[if_neg e,if_pos (h.resolve_left e),if_neg e]
theorem X4k {l:List Cell}{k:Nat}(h:k≠0)(h2:¬ 512<(runF l k).2.2+Xbh (cAt l k)):runF l (k+1)=((runF l k).1,(runF l k).2.1,(runF l k).2.2+Xbh (cAt l k)):=by
 rw[runF.eq_2,if_neg h,if_neg h2]
theorem X1k (l:List Cell)(hl:∀c∈l,Xbh c≤1000000)(k:Nat):(runF l k).2.2≤1000512:=by
 have hc:∀k,Xbh (cAt l k)≤1000000:=λk=>by
  unfold cAt
  cases e:l[k]? with
  | none=>simp [Cell.zero,Xbh]
  | some c=>exact hl c (List.mem_of_getElem? e)
 cases k with
 | zero=>simp [runF]
 | succ k=>
  rw[runF.eq_2]
  have:=hc k;have:=hc 0
  split
  ·simp only;omega
  ·split<;>simp only<;>omega
theorem X4l {α:Type}{l:List α}{a b:α} : (l++[a]).set l.length b=l++[b]:=by simp
theorem Xvb (l:List Cell)(v:Value)(w:World)(hv:Arr Cell.cs 4 w v l)(hl:l.length≤30000) :
  Calls Tryz.prog 198 [v].toArray w (Gives w (λu w'=>Vc.Own sEnc 1 9 w.heap.size w' u (Xb9 l))):=by
 refine cw Tryz.func198 ?_
 have hx:=Ext.refl w
 refine ws λ_ Z1=>wr (da (de Z1 (ws λ_ Z2=>wr (da (de Z2 (ws λ_ Z3=>ws λ_ Z4=>wr (dm ?_)))))))
 refine dv 79 4 hv.sl (dm (de Z4 (Xab ?_)))
 refine Xaj (G:=Nat×Value) (λ(k,vm)=>[(0,v),(2,.slice none 0 0),(3,vm),(6,v),(7,I ↑l.length),(8,I ↑k)]) (λ(k,vm) w'=>Ext w w'∧k≤l.length∧Vc.Own sEnc 1 9 w.heap.size w' vm (Xjy l k)) (λ(k,vm)=>l.length-k) (0,.slice none 0 0) ?_ ?_ ?_
 ·exact zz6
 ·exact⟨hx,Nat.zero_le _,Vc.Own.nil⟩
 intro X1 g1 w1 hF1
 obtain⟨k,vm⟩:=g1
 clear hx
 obtain⟨hx,hk9,ho⟩:=hF1
 refine ws λ_ Z5=>wr (dp (Xaf rfl rfl) (de Z5 (ws λ_ Z6=>wi (λc1=>?_) λc1=>?_)))
 ·obtain⟨c,hk⟩:∃c,l[k]?=some c:=gtE
  have hlk:=Xcl l k
  have hst:=Xse l k
  rw[cAt_at hk]at hst
  refine Xaa (Z6 _ _ (ws λ_ Z7=>Xab (ws λ_ Z8=>wr (dm ?_))))
  refine di 79 4 hv.sl rfl (hv.lt hk) (dq (Xac kr9 rfl rfl ((hv.ext hx).row hk)) (Xan (cs:=[S [],S [],B false,.int .i64 0]) rfl kr9 RX.all (λb1 w2 e1 x2 m1=>?_)))
  have g1:=hx.ge e1
  have o1_ho:=ho.ltb e1
  replace ho:=ho.ext x2
  replace hx:=hx.trans x2
  refine da ?_
  refine stA m1 (λw3 x3 xs3 m1=>?_)
  try dsimp only [Xal,List.set,List.take,List.drop]at m1
  try replace ho:=ho.mod x3 (by first|assumption|(intro k hk h;have h1:=(ho.lt k hk).1;have h2:k=b1:=h;omega)|(intro k hk h;have h1:=o1_ho k hk;have h2:k=b1:=h;omega)|(intro h;have h2:_=b1:=h;omega)|(intro hl h;have h1:=a1_ho hl;have h2:_=b1:=h;omega))
  replace hx:=hx.o1 x3
  refine de Z8 (ws λ_ Z9=>Xaq (R:=Ext) Ext.refl (λ_ _ _=>Ext.trans) kr9 [8,10] [(0,.p,false),(1,.p,false),(2,.p,false),(3,.p,false),(4,.p,false),(5,.p,false),(6,.p,false),(7,.p,false),(8,.l,false),(9,.p,false),(10,.l,false),(11,.p,false),(12,.p,false)] rfl kr9 kr9 (λw4 ew4=>?_))
  have x4:=drewx ew4
  clear ew4
  replace ho:=ho.ext x4
  replace m1:=m1.ext x4
  replace hx:=hx.trans x4
  refine dm ?_
  refine dp (Xa9 rfl rfl) (dm ?_)
  refine Xag 15 rfl (λc2=>?_) (λc2=>?_)
  ·iterate 9 refine dk ?_
   refine dk' (de Z9 ?_)
   refine W_t rfl (wr (dm ?_))
   refine df 0 rfl (dl rfl (m1.at rfl) (li (e:=9) (sz:=1) (zs:=[S []]) (pv:=[(0,_)]) (cs:=[_]) RX.all (λb2 w5 e2 x5 m2=>?_)))
   have g2:=hx.ge e2
   have n2_1:=m1.ltb e2
   have o2_ho:=ho.ltb e2
   replace ho:=ho.ext x5
   replace m1:=m1.ext x5
   replace hx:=hx.trans x5
   refine Xa6 (lx:=[c.key]) (e:=9) (sz:=1) (by':=16) rfl kr9 kr9 ir9 ho (m2.arr (enc:=sEnc) (sz:=1) (l:=[c.key]) rfl ir9 rfl (Nat.le_of_ble_eq_true rfl)) rfl rfl (by intro x _ u hu;simp at hu;rcases hu with rfl<;>rfl) (by simp;omega) dc9 hx.size (.inl rfl) (λvm2 w6 ho_n x6=>?_)
   try replace m1:=m1.mod x6 (by first|(intro h;have h2:b1=b1:=Option.some.inj h;omega)|(intro h;have h1:=(ho.lt _ h).1;omega)|(intro h;have h1:=o1_ho _ h;omega))
   replace hx:=hx.own x6 (λi hi=>(ho.lt i hi).1)
   replace ho:=ho_n
   clear m2
   refine da (de Z7 (wr ?_))
   refine pa rfl rfl (dm (Xae (?_)))
   refine⟨(k+1,vm2),zz6,⟨hx,by omega,?_⟩,by simp only [];omega⟩
   rw[hst,if_pos (by unfold keyB;simp;omega)];exact ho
  obtain⟨x,hk1⟩:∃x,l[k-1]?=some x:=gtE
  iterate 2 refine dm ?_
  refine Xa2 (v:=I ↑(k-1)) rfl (Xay rfl rfl (by unfold Xai;omega)) (by show I _=I _;congr 1;omega) (di 79 4 hv.sl rfl (hv.lt hk1) (df 0 rfl (dL rfl (λ_ hR=>(((hv.ext (hx.trans hR)).row hk1).at rfl)) (df 0 rfl (dL rfl (λ_ hR=>((m1.ext hR).at rfl)) (dp (Xj4 rfl rfl) (dk' (de Z9 ?_))))))))
  refine wi (λc3=>?_) λc3=>?_
  ·refine wr (dm ?_)
   refine df 0 rfl (dl rfl (m1.at rfl) (li (e:=9) (sz:=1) (zs:=[S []]) (pv:=[(0,_)]) (cs:=[_]) RX.all (λb3 w7 e3 x7 m3=>?_)))
   have g3:=hx.ge e3
   have o3_ho:=ho.ltb e3
   replace ho:=ho.ext x7
   replace hx:=hx.trans x7
   refine Xa6 (lx:=[c.key]) (e:=9) (sz:=1) (by':=16) rfl kr9 kr9 ir9 ho (m3.arr (enc:=sEnc) (sz:=1) (l:=[c.key]) rfl ir9 rfl (Nat.le_of_ble_eq_true rfl)) rfl rfl (by intro x _ u hu;simp at hu;rcases hu with rfl<;>rfl) (by simp;omega) dc9 hx.size (.inl rfl) (λvm2 w8 ho_n x8=>?_)
   replace hx:=hx.own x8 (λi hi=>(ho.lt i hi).1)
   replace ho:=ho_n
   clear m3
   refine da (de Z7 (wr ?_))
   refine pa rfl rfl (dm (Xae (?_)))
   refine⟨(k+1,vm2),zz6,⟨hx,by omega,?_⟩,by simp only [];omega⟩
   rw[hst,if_pos (by unfold keyB;rw[cAt_at hk1,cAt_at hk];simp [c3])];exact ho
  refine Xaa (Z7 _ _ (wr (pa rfl rfl (dm (Xae (?_))))))
  refine⟨(k+1,vm),zz6,⟨hx,by omega,?_⟩,by simp only [];omega⟩
  have hk0:¬ k=0:=by omega
  rw[hst,if_neg (by unfold keyB;rw[cAt_at hk1,cAt_at hk];simp [hk0];simpa using c3)];exact ho
 refine Xah (Z3 _ _ (ws λ_ Z10=>wr (dm (da (de Z10 (Xad ?_))))))
 refine ro ?_
 rw[show k=l.length by omega]at ho
 exact⟨_,rfl,hx,ho⟩
theorem Xqu (l:List Cell)(v:Value)(w:World)(hv:Arr Cell.cs 4 w v l)(hl:l.length≤30000)(hsz9:∀c∈l,Xbh c≤1000000)(hkv:∀c∈l,c.key.length≤1000000000∧c.val.length≤1000000000) :
  Calls Tryz.prog 199 [v].toArray w (Gives w (λu w'=>Vc.Own pEnc 2 284 w.heap.size w' u (Xaz l))):=by
 refine cw Tryz.func199 ?_
 have hx:=Ext.refl w
 refine ws λ_ Z1=>wr (da (de Z1 (ws λ_ Z2=>wr (da (de Z2 (ws λ_ Z3=>wr (da (de Z3 (ws λ_ Z4=>ws λ_ Z5=>?_)))))))))
 refine wr (dm ?_)
 refine dv 79 4 hv.sl (dm (de Z5 (Xab ?_)))
 refine Xaj (G:=Nat×Value) (λ(k,vp)=>[(0,v),(2,.slice none 0 0),(3,vp),(4,I ↑(runF l k).2.2),(8,v),(9,I ↑l.length),(10,I ↑k)]) (λ(k,vp) w'=>Ext w w'∧k≤l.length∧Vc.Own pEnc 2 284 w.heap.size w' vp (Xc9 l k)) (λ(k,vp)=>l.length-k) (0,.slice none 0 0) ?_ ?_ ?_
 ·exact zz7
 ·exact⟨hx,Nat.zero_le _,Vc.Own.nil⟩
 intro X1 g1 w1 hF1
 obtain⟨k,vp⟩:=g1
 clear hx
 obtain⟨hx,hk9,ho⟩:=hF1
 refine ws λ_ Z6=>wr (dp (Xaf rfl rfl) (de Z6 (ws λ_ Z7=>wi (λc1=>?_) λc1=>?_)))
 ·obtain⟨c,hk⟩:∃c,l[k]?=some c:=gtE
  have hrl:=X1k l hsz9 k
  have hsc:=hsz9 c (List.mem_of_getElem? hk)
  have hkc:=hkv c (List.mem_of_getElem? hk)
  have hpl:=Xgr l k
  have hpn:=Xu9 (l:=l) (k:=k)
  refine Xaa (Z7 _ _ (ws λ_ Z8=>Xab (ws λ_ Z9=>wr (dm ?_))))
  refine di 79 4 hv.sl rfl (hv.lt hk) (dq (Xac kr9 rfl rfl ((hv.ext hx).row hk)) (Xan (cs:=[S [],S [],B false,.int .i64 0]) rfl kr9 RX.all (λb1 w2 e1 x2 m1=>?_)))
  have g1:=hx.ge e1
  have o1_ho:=ho.ltb e1
  replace ho:=ho.ext x2
  replace hx:=hx.trans x2
  refine da ?_
  refine stA m1 (λw3 x3 xs3 m1=>?_)
  try dsimp only [Xal,List.set,List.take,List.drop]at m1
  try replace ho:=ho.mod x3 (by first|assumption|(intro k hk h;have h1:=(ho.lt k hk).1;have h2:k=b1:=h;omega)|(intro k hk h;have h1:=o1_ho k hk;have h2:k=b1:=h;omega)|(intro h;have h2:_=b1:=h;omega)|(intro hl h;have h1:=a1_ho hl;have h2:_=b1:=h;omega))
  replace hx:=hx.o1 x3
  refine de Z9 (ws λ_ Z10=>wr (dq (Xac (k:=4) kr9 rfl rfl m1.row) (cP (Xui c _ hkc.1 hkc.2) RX.all λw4 x4=>?_)))
  replace ho:=ho.ext x4
  replace hx:=hx.trans x4
  refine da (de Z10 ?_)
  refine Xdi (G:=Value×List (Nat×Nat)×Nat×Nat×Nat) (λ(va,fr,f,e,s0)=>[(0,v),(2,.slice none 0 0),(3,va),(4,I ↑s0),(5,I ↑k),(7,I ↑(Xbh c)),(8,v),(9,I ↑l.length),(10,I ↑k)]) (λ(va,fr,f,e,s0) w'=>Ext w w'∧Vc.Own pEnc 2 284 w.heap.size w' va (fr++[(f,e)])∧(fr,f,s0+Xbh c)=runF l (k+1)) ?_ ?_
  ·refine ws λ_ Z11=>wr (dm ?_)
   refine dv 284 2 (ho.arr ir9).sl (dp (Xa9 rfl rfl) (dm ?_))
   refine Xag 20 rfl (λc2=>?_) (λc2=>?_)
   ·refine dk (dk (dk (dk (dk' (de Z11 ?_)))))
    refine W_t rfl (ws λ_ Z12=>wr (dm (dm (dm ?_))))
    refine db (zs:=[.int .i64 0,.int .i64 0]) (pl:=[(0,1),(1,1)]) (pv:=[(0,_),(1,_)]) (cs:=[_,_]) ?_
    refine li (e:=284) (sz:=2) (zs:=[.int .i64 0,.int .i64 0]) (pv:=[(0,.agg ⟨[_,_]⟩)]) (cs:=[_,_]) RX.all (λb2 w5 e2 x5 m2=>?_)
    have g2:=hx.ge e2
    have o2_ho:=ho.ltb e2
    replace ho:=ho.ext x5
    replace hx:=hx.trans x5
    refine Xa6 (lx:=[(k,k)]) (e:=284) (sz:=2) (by':=16) rfl kr9 kr9 ir9 ho (m2.arr (enc:=pEnc) (sz:=2) (l:=[(k,k)]) rfl ir9 rfl (Nat.le_of_ble_eq_true rfl)) rfl rfl (by intro x _ u hu;simp at hu;rcases hu with rfl|rfl<;>rfl) (by simp;omega) dc9 hx.size (.inl rfl) (λvp2 w6 ho_n x6=>?_)
    replace hx:=hx.own x6 (λi hi=>(ho.lt i hi).1)
    replace ho:=ho_n
    clear m2
    refine da (de Z12 (wr (da (Xae (?_)))))
    have hk0:k=0:=by
     have:(Xc9 l k).length=0:=by omega
     exact hpn.1 (List.eq_nil_of_length_eq_zero this)
    exact⟨(vp2,Xc9 l k,k,k,0),zz9,hx,ho,by rw[Xva (.inl hk0),cAt_at hk,Nat.zero_add]⟩
   iterate 2 refine dm ?_
   refine pa rfl rfl (dp (Xaw rfl rfl) (dk' (de Z11 ?_)))
   refine wi (λc3=>?_) λc3=>?_
   ·refine ws λ_ Z13=>wr (dm (dm (dm ?_)))
    refine db (zs:=[.int .i64 0,.int .i64 0]) (pl:=[(0,1),(1,1)]) (pv:=[(0,_),(1,_)]) (cs:=[_,_]) ?_
    refine li (e:=284) (sz:=2) (zs:=[.int .i64 0,.int .i64 0]) (pv:=[(0,.agg ⟨[_,_]⟩)]) (cs:=[_,_]) RX.all (λb3 w7 e3 x7 m3=>?_)
    have g3:=hx.ge e3
    have o3_ho:=ho.ltb e3
    replace ho:=ho.ext x7
    replace hx:=hx.trans x7
    refine Xa6 (lx:=[(k,k)]) (e:=284) (sz:=2) (by':=16) rfl kr9 kr9 ir9 ho (m3.arr (enc:=pEnc) (sz:=2) (l:=[(k,k)]) rfl ir9 rfl (Nat.le_of_ble_eq_true rfl)) rfl rfl (by intro x _ u hu;simp at hu;rcases hu with rfl|rfl<;>rfl) (by simp;omega) dc9 hx.size (.inl rfl) (λvp2 w8 ho_n x8=>?_)
    replace hx:=hx.own x8 (λi hi=>(ho.lt i hi).1)
    replace ho:=ho_n
    clear m3
    refine da (de Z13 (wr (da (Xae (?_)))))
    exact⟨(vp2,Xc9 l k,k,k,0),zz9,hx,ho,by rw[Xva (.inr (by rw[cAt_at hk];omega)),cAt_at hk,Nat.zero_add]⟩
   refine Xaa ?_
   have hk0:k≠0:=λe=>by rw[hpn.2 e]at c2;simp at c2
   exact⟨(vp,(runF l k).1,(runF l k).2.1,k,(runF l k).2.2),zz9,hx,by rw[show Xc9 l k=_ from if_neg hk0]at ho;exact ho,by rw[X4k hk0 (by rw[cAt_at hk];omega),cAt_at hk]⟩
  intro X9 g9 w9 hF9
  obtain⟨va,fr,f,e,s0⟩:=g9
  clear hx ho m1
  obtain⟨hx,ho,hrn⟩:=hF9
  have hsl:=congrArg (λt:List (Nat×Nat)×Nat×Nat=>t.2.2) hrn
  simp only at hsl
  have hrl1:=X1k l hsz9 (k+1)
  have hfl:=congrArg (λt:List (Nat×Nat)×Nat×Nat=>t.1.length) hrn
  simp only at hfl
  have hpl1:=Xgr l (k+1)
  rw[Xki,List.length_append,List.length_singleton]at hpl1
  obtain⟨cs9,cap9,hva9,_⟩:=ho.cells sp9
  refine ws λ_ Z14=>wr (dm (dm ?_))
  refine Xa2 (v:=I ↑(runF l (k+1)).2.2) rfl (Xa7 rfl rfl (by unfold Xai;omega)) (by show I _=I _;congr 1;omega) (da (de Z14 (wr (dm (dm ?_)))))
  refine dv 284 2 (ho.arr ir9).sl (Xa2 (v:=I ↑fr.length) rfl (Xay rfl rfl (by unfold Xai;simp;omega)) (by show I _=I _;congr 1;simp) (dm ?_))
  refine Xa2 (v:=I ↑(k+1)) rfl (Xa7 rfl rfl (by unfold Xai;omega)) (by show I _=I _;congr 1) (Xa2 (v:=ptr (base va).1 (fr.length*2)) rfl (Xba (e:=284) (k:=2) kr9 ho.sl rfl rfl sp9) (by rw[hva9];show ptr _ (0+_)=_;rw[Nat.zero_add]) (df 1 rfl ?_))
  refine Xa3 (enc:=pEnc) (sz:=2) (i:=fr.length) (j:=1) (x:=(f,k+1)) (vs:=[I ↑(k+1)]) ir9 rfl ho rfl rfl rfl kr9 sp9 (by rw[List.getD_eq_getElem?_getD,List.getElem?_concat_length];rfl) (Nat.le_refl 2) (by intro v hv;rw[List.mem_singleton.1 hv];rfl) (.inl rfl) (λw10 x10 xs10 ho_n=>?_)
  replace hx:=hx.own x10 (λi hi=>(ho.lt i hi).1)
  replace ho:=ho_n
  rw[X4l]at ho
  refine de Z8 (wr (pa rfl rfl (dm (Xae (?_)))))
  refine⟨(k+1,va),zz7,⟨hx,by omega,?_⟩,by simp only [];omega⟩
  rw[Xki,←hrn];exact ho
 refine Xah (Z4 _ _ (ws λ_ Z15=>wr (dm (da (de Z15 (Xad ?_))))))
 refine ro ?_
 rw[show k=l.length by omega]at ho
 exact⟨_,rfl,hx,ho⟩
def tblS (l:List Cell):Str:=numS (Xaz l).length++(Xaz l).flatMap (Xdz l)++numS l.length++rowS (Xdp (Xb9 l))
def Xbz (l:List Cell):Int:=if l.length<1∨4096<l.length then 1 else if errB l≠0 then errB l else encE (tblS l)
theorem Xvc {l:List Cell}(h:l.length<1∨4096<l.length):Xbz l=1:=if_pos h
theorem X4m {l:List Cell}(h:¬ (l.length<1∨4096<l.length))(h2:errB l≠0):Xbz l=errB l:=by unfold Xbz;rw[if_neg h,if_pos h2]
theorem Xvd {l:List Cell}(h:¬ (l.length<1∨4096<l.length))(h2:errB l=0):Xbz l=encE (tblS l):=by unfold Xbz;rw[if_neg h,if_neg (λe=>e h2)]
theorem X1l {l:List Cell}(h:∀c∈l,isC c=true):(∀c∈l,Xbh c≤1000000)∧∀c∈l,c.key.length≤1000000000∧c.val.length≤1000000000:=by
 refine⟨λc hc=>?_,λc hc=>?_⟩
 ·have:=Xbk (h c hc);unfold Xbh;omega
 ·have:=Xbk (h c hc);omega
theorem X7p {A:Str}{s:Int}(h1:1≤s)(h2:s≤1099511627776):A++[s].flatMap numI=A++numS s.toNat:=by
 simp only [List.flatMap_cons,List.flatMap_nil,List.append_nil]
 unfold numI
 rw[Xqj h1 h2]
theorem Xkj {a b:Nat}{ps:List (Nat×Nat)}(h:Chain a ps b)(k:Nat):∃c,Chain a (ps.take k) c∧c≤b:=by
 induction ps generalizing a k with
 | nil=>exact⟨a,by simp;rfl,Nat.le_of_eq h⟩
 | cons p r ih=>
  cases k with
  | zero=>exact⟨a,rfl,by have:=Chain.le (l:=p :: r) h;simp at this;omega⟩
  | succ k=>
   obtain⟨c,h1,h2⟩:=ih h.2.2.2 k
   exact⟨c,⟨h.1,h.2.1,h.2.2.1,h1⟩,h2⟩
theorem X4n {l:List Cell}(h:∀c∈l,isC c=true)(k:Nat):(cAt l k).key.length≤4096:=by
 unfold cAt
 cases e:l[k]? with
 | none=>simp [Cell.zero]
 | some c=>exact(Xbk (h c (List.mem_of_getElem? e))).1
theorem Xve {l:List Cell}(h:∀c∈l,isC c=true){p:Nat×Nat}(hp:p.1<p.2):(Xdz l p).length≤25000*(p.2-p.1):=by
 unfold Xdz rowS
 have h1:=X4n h (p.2-1)
 have h2:=Xak (cAt l (p.2-1)).key.length
 have h3:=Xak (cAt l (p.2-1)).seq.toNat
 have h4:=Xak (blkS (seg l p)).length
 have h5:=Xh7 (l:=seg l p) (λc hc=>h c (Xi6 hc))
 have h6:(seg l p).length≤p.2-p.1:=by unfold seg;rw[List.length_drop,List.length_take];omega
 have h7:20600*(seg l p).length≤20600*(p.2-p.1):=Nat.mul_le_mul_left _ h6
 simp only [List.length_append]
 omega
theorem Xvf {l:List Cell}(h:∀c∈l,isC c=true){a b:Nat}{ps:List (Nat×Nat)}(hc:Chain a ps b):(ps.flatMap (Xdz l)).length+25000*a≤25000*b:=by
 induction ps generalizing a with
 | nil=>have e:a=b:=hc;subst e;simp
 | cons p r ih=>
  have h1:=ih hc.2.2.2
  have h2:=Xve h (p:=p) (by have:=hc.1;have:=hc.2.1;omega)
  have h3:=hc.1;have h4:=hc.2.1
  rw[List.flatMap_cons,List.length_append]
  omega
theorem Xf8 {l:List Cell}(h:∀c∈l,isC c=true)(k:Nat):(((Xaz l).take k).flatMap (Xdz l)).length≤25000*l.length:=by
 obtain⟨c,h1,h2⟩:=Xkj (Xb3 l l.length) k
 have:=Xvf h h1
 have:25000*c≤25000*l.length:=Nat.mul_le_mul_left _ h2
 show(((Xc9 l l.length).take k).flatMap (Xdz l)).length≤_
 omega
theorem Xqv {w:World}{v v2:Value}{bw:Nat}{Q:Nat->Prop}(hg:Grew w v v2)(h:∀k,Q k->¬ WrS bw v k)(hlt:∀k,Q k->k<w.heap.size):∀k,Q k->¬ WrS bw v2 k:=λk hk h2=>h k hk (Xp6 hg h2 (hlt k hk))
theorem Xqw {l:List Cell}(h:∀c∈l,isC c=true)(hl:l.length≤4096):(tblS l).length≤25000*l.length+6000:=by
 unfold tblS
 have h1:=Xf8 h (Xaz l).length
 rw[List.take_length]at h1
 have h2:=Xak (Xaz l).length
 have h3:=Xak l.length
 have h4:(Xdp (Xb9 l)).length≤5130:=by rw[Xck];have:=Xcl l l.length;unfold Xcn;unfold Xb9;omega
 have h5:=Xak (Xdp (Xb9 l)).length
 unfold rowS
 simp only [List.length_append]
 omega
theorem Xvg (l:List Cell)(v:Value)(w:World)(hv:Arr Cell.cs 4 w v l)(hl:l.length≤30000) :
  Calls Tryz.prog 170 [v].toArray w (Gives w (λu w'=>∃vb,u=.tuple #[vb,I (Xbz l)]∧(Xbz l=0->Arr encB 1 w' vb (recS (tblS l))∧w.heap.size≤(base vb).1))):=by
 refine cw Tryz.func170 ?_
 have hx:=Ext.refl w
 refine ws λ_ Z1=>wr (da (da (de Z1 (ws λ_ Z2=>ws λ_ Z3=>wr (dm ?_)))))
 refine dv 79 4 (hv.ext hx).sl (dp (Xaf rfl rfl) (dm ?_))
 refine Xag 16 rfl (λc1=>?_) (λc1=>?_)
 ·refine dk (dk (dk (dk' (de Z3 ?_))))
  refine W_t rfl (ws λ_ Z4=>wr (da (da (de Z4 (Xad ?_)))))
  refine rt ?_
  rw[Xvc (.inl om9)]
  exact⟨_,rfl,hx,_,rfl,λe=>by simp at e⟩
 refine dm ?_
 refine dv 79 4 (hv.ext hx).sl (dp (Xaw rfl rfl) (dk' (de Z3 ?_)))
 refine wi (λc2=>?_) λc2=>?_
 ·refine ws λ_ Z5=>wr (da (da (de Z5 (Xad ?_))))
  refine rt ?_
  rw[Xvc (.inr om9)]
  exact⟨_,rfl,hx,_,rfl,λe=>by simp at e⟩
 refine Xaa (Z2 _ _ (ws λ_ Z6=>ws λ_ Z7=>wr (dm ?_)))
 refine cG (Xld l v _ (hv.ext hx) hl) RX.all λu1 w1 x1 hf1=>?_
 have hsz1:=hx.size
 replace hx:=hx.trans x1
 obtain⟨vb0,rfl,_⟩:=hf1
 refine dm ?_
 refine dx rfl rfl (dx rfl rfl (da (da (de Z7 (ws λ_ Z8=>wr (dm ?_))))))
 refine dp (Xas rfl rfl) (de Z8 (wi (λc3=>?_) λc3=>?_))
 ·refine ws λ_ Z9=>wr (dm (da (da (de Z9 (Xad ?_)))))
  refine rt ?_
  rw[X4m om9 c3]
  exact⟨_,rfl,hx,_,rfl,λe=>absurd e c3⟩
 have hE:errB l=0:=Decidable.of_not_not c3
 obtain⟨hAll,hRis⟩:=Xfu.1 hE
 obtain⟨hsz9,hkv⟩:=X1l hAll
 have hpl:=Xgr l l.length
 have hpN:(Xaz l).length≤l.length:=hpl
 refine Xaa (Z6 _ _ (ws λ_ Z10=>wr (Xan (cs:=[.slice none 0 0]) rfl kr9 RX.all (λb1 w2 e1 x2 m1=>?_))))
 have g1:=hx.ge e1
 replace hx:=hx.trans x2
 refine de Z10 (ws λ_ Z11=>wr (dm ?_))
 refine cG (Xqu l v _ (hv.ext hx) hl hsz9 hkv) RX.all λvp w3 x3 hP0=>?_
 have hsz3:=hx.size
 replace m1:=m1.ext x3
 replace hx:=hx.trans x3
 have hP:=hP0.mono hsz3
 refine da (de Z11 (ws λ_ Z12=>wr (dm ?_)))
 refine dv 284 2 (hP.arr ir9).sl (li (e:=3) (sz:=1) (zs:=[.int .i64 0]) (pv:=[(0,_)]) (cs:=[_]) RX.all (λb2 w4 e2 x4 m2=>?_))
 have g2:=hx.ge e2
 have n2_1:=m1.ltb e2
 have o2_hP:=hP.ltb e2
 replace m1:=m1.ext x4
 replace hP:=hP.ext x4
 replace hx:=hx.trans x4
 have hWr:Wr w.heap.size b1 (.slice none 0 0) [] w4:=⟨m1,Vc.Own.nil⟩
 have hQi:∀k9,vp.ownBlock=some k9->¬ WrS b1 (.slice none 0 0) k9:=λk9 h9 h=>h.elim (λe=>hP.ne_blk m1 rfl (e▸h9)) (λe=>by cases e)
 have hltP:=λk9 h9=>(hP.lt k9 h9).2
 refine cD (Xcr w.heap.size b1 (.slice none 0 0) _ [↑(Xaz l).length] (.slice (some ⟨b2,0,none⟩) 1 1) _ hWr (Nat.le_trans (Nat.le_refl 0:([]:Str).length≤0) om9) hx.size (m2.arr (enc:=Vc.encI) (sz:=1) (l:=[↑(Xaz l).length]) rfl ir9 rfl sp9) sp9 (λk9 h9 _ e77=>by have e88:b2=k9:=e77;subst e88;exact(h9.elim (λh=>by omega) (λh=>by cases h)))) (.inl rfl) λu5 w5 x5 hf5=>?_
 have hsz5:=hx.size
 replace hP:=hP.mod x5 hQi
 replace hx:=hx.own x5 (λi hi=>hWr.ge g1 hi)
 obtain⟨rfl,v1,hWr,hg9⟩:=hf5
 rw[Xsd om9,List.nil_append]at hWr
 have hln34:=trivial
 have hQ1:=Xqv hg9 hQi hltP
 refine de Z12 (ws λ_ Z13=>ws λ_ Z14=>wr (dm ?_))
 refine dv 284 2 (hP.arr ir9).sl (dm (de Z14 (Xab ?_)))
 refine Xaj (G:=Nat×Value) (λ(k,vc)=>[(0,v),(2,.slice none 0 0),(3,I 0),(6,ptr b1 0),(35,vp),(36,I ↑(Xaz l).length),(37,I ↑k)]) (λ(k,vc) w'=>Ext w w'∧k≤(Xaz l).length∧Wr w.heap.size b1 vc (numS (Xaz l).length++((Xaz l).take k).flatMap (Xdz l)) w'∧Vc.Own pEnc 2 284 w.heap.size w' vp (Xaz l)∧(∀k9,vp.ownBlock=some k9->¬ WrS b1 vc k9)) (λ(k,vc)=>(Xaz l).length-k) (0,v1) ?_ ?_ ?_
 ·exact zz7
 ·exact⟨hx,Nat.zero_le _,by simpa using hWr,hP,hQ1⟩
 intro X6 g6 w6 hF6
 obtain⟨k,vc⟩:=g6
 clear hx hP hWr
 obtain⟨hx,hk9,hWr,hP,hQ1⟩:=hF6
 refine ws λ_ Z15=>wr (dp (Xaf rfl rfl) (de Z15 (ws λ_ Z16=>wi (λc4=>?_) λc4=>?_)))
 ·obtain⟨p,hkp⟩:∃p,(Xaz l)[k]?=some p:=gtE
  have hpm:=(Xb3 l l.length).mem (List.mem_of_getElem? hkp)
  obtain⟨c,hk⟩:∃c,l[p.2-1]?=some c:=gtE
  have hcs:=Xbk (hAll c (List.mem_of_getElem? hk))
  have hsl:=Xu8 (l:=l) hpm.2.2.1
  have hsb:=Xh7 (l:=seg l p) (λc hc=>hAll c (Xi6 hc))
  have hpb:=Xf8 hAll k
  have hnb:=Xak (Xaz l).length
  have hln0:(numS (Xaz l).length++((Xaz l).take k).flatMap (Xdz l)).length≤25000*l.length+10:=by rw[List.length_append];omega
  refine Xaa (Z16 _ _ (ws λ_ Z17=>Xab (ws λ_ Z18=>wr (di 284 2 (hP.arr ir9).sl rfl ((hP.arr ir9).lt hkp) (dq (Xac kr9 rfl rfl ((hP.arr ir9).row hkp)) (Xan (cs:=[.int .i64 0,.int .i64 0]) rfl kr9 RX.all (λb3 w7 e3 x7 m3=>?_)))))))
  have g3:=hx.ge e3
  have a3_hWr:=hWr.lt
  have o3_hP:=hP.ltb e3
  replace hWr:=hWr.ext x7
  replace hP:=hP.ext x7
  replace hx:=hx.trans x7
  refine stA m3 (λw8 x8 xs8 m3=>?_)
  try dsimp only [Xal,List.set,List.take,List.drop]at m3
  replace hWr:=hWr.mod x8 (λk9 h9 h=>by have h2:k9=b3:=h;subst h2;first|exact Nat.lt_irrefl _ (Nat.lt_of_lt_of_eq (a3_hWr _ h9) e3.symm)|exact Nat.lt_irrefl _ (Nat.lt_of_lt_of_eq (a4_hWr _ h9) e4.symm))
  try replace hP:=hP.mod x8 (by first|assumption|(intro k hk h;have h1:=(hP.lt k hk).1;have h2:k=b3:=h;omega)|(intro k hk h;have h1:=o3_hP k hk;have h2:k=b3:=h;omega)|(intro h;have h2:_=b3:=h;omega)|(intro hl h;have h1:=a3_hP hl;have h2:_=b3:=h;omega))
  replace hx:=hx.o1 x8
  refine de Z18 (ws λ_ Z19=>wr (dm ?_))
  refine df 1 rfl (dl rfl (m3.at rfl) (Xa2 (v:=I ↑(p.2-1)) rfl (Xay rfl rfl (by unfold Xai;omega)) (by show I _=I _;congr 1;omega) (di 79 4 (hv.ext hx).sl rfl ((hv.ext hx).lt hk) (dq (Xac kr9 rfl rfl ((hv.ext hx).row hk)) (Xan (cs:=[S [],S [],B false,.int .i64 0]) rfl kr9 RX.all (λb4 w9 e4 x9 m4=>?_))))))
  have g4:=hx.ge e4
  have n4_3:=m3.ltb e4
  have a4_hWr:=hWr.lt
  have o4_hP:=hP.ltb e4
  replace hWr:=hWr.ext x9
  replace hP:=hP.ext x9
  replace m3:=m3.ext x9
  replace hx:=hx.trans x9
  refine stA m4 (λw10 x10 xs10 m4=>?_)
  try dsimp only [Xal,List.set,List.take,List.drop]at m4
  replace hWr:=hWr.mod x10 (λk9 h9 h=>by have h2:k9=b4:=h;subst h2;first|exact Nat.lt_irrefl _ (Nat.lt_of_lt_of_eq (a3_hWr _ h9) e3.symm)|exact Nat.lt_irrefl _ (Nat.lt_of_lt_of_eq (a4_hWr _ h9) e4.symm))
  try replace hP:=hP.mod x10 (by first|assumption|(intro k hk h;have h1:=(hP.lt k hk).1;have h2:k=b4:=h;omega)|(intro k hk h;have h1:=o4_hP k hk;have h2:k=b4:=h;omega)|(intro h;have h2:_=b4:=h;omega)|(intro hl h;have h1:=a4_hP hl;have h2:_=b4:=h;omega))
  try replace m3:=m3.mo x10
  replace hx:=hx.o1 x10
  refine de Z19 (ws λ_ Z20=>wr (dm ?_))
  refine df 0 rfl (dl rfl (m3.at rfl) (df 1 rfl (dl rfl (m3.at rfl) (dp (Xc1 (e:=79) (k:=4) kr9 (hv.ext hx).sl rfl rfl rfl om9 om9) ?_))))
  have hltW:=hWr.lt
  refine cG (Xld (seg l p) (slV 4 v p.1 p.2) _ ((hv.ext hx).slice om9 om9) om9) RX.all λu11 w11 x11 hf11=>?_
  have hsz11:=hx.size
  replace hWr:=hWr.ext x11
  replace hP:=hP.ext x11
  replace m3:=m3.ext x11
  replace m4:=m4.ext x11
  replace hx:=hx.trans x11
  obtain⟨vb2,rfl,hB⟩:=hf11
  rw[if_pos (Xoz hE p)]at hB
  have hEs:=Xoz hE p
  have hQ:∀k9,(λk9=>k9=b3∨k9=b4∨vb2.ownBlock=some k9∨vp.ownBlock=some k9) k9->¬ WrS b1 vc k9:=λk9 h9 h=>by
   rcases h9 with h9|h9|h9|h9
   ·rw[h9]at h;exact Nat.lt_irrefl _ (Nat.lt_of_lt_of_eq (a3_hWr _ h) e3.symm)
   ·rw[h9]at h;exact Nat.lt_irrefl _ (Nat.lt_of_lt_of_eq (a4_hWr _ h) e4.symm)
   ·have h8:=hltW _ h;have h7:=(hB.lt _ h9).1;omega
   ·exact hQ1 k9 h9 h
  have hQ0:∀k9,(λk9=>k9=b3∨k9=b4∨vb2.ownBlock=some k9∨vp.ownBlock=some k9) k9->k9<w11.heap.size:=λk9 h9=>by
   rcases h9 with h9|h9|h9|h9
   ·rw[h9];exact m3.lt
   ·rw[h9];exact m4.lt
   ·exact(hB.lt _ h9).2
   ·exact(hP.lt _ h9).2
  have hS:Sz w11.heap.size w11:=⟨Nat.le_refl _⟩
  refine dm ?_
  refine dx rfl rfl (dx rfl rfl (da (da (de Z20 (ws λ_ Z21=>Xky [.p,.l,.x,.x,.x] rfl ?_)))))
  refine df 0 rfl (dl rfl (m4.at rfl) (Xoj (e:=5) rfl kr9 kr9 kr9 rfl RX.all (λb5 cap5 w12 e5 x12 by5=>?_)))
  have g5:=hx.ge e5
  have n5_4:=m4.ltb e5
  have a5_hWr:=hWr.lt
  have o5_hP:=hP.ltb e5
  have a5_hS:=hS.le
  replace hWr:=hWr.ext x12
  replace hP:=hP.ext x12
  replace m4:=m4.ext x12
  replace hB:=hB.ext x12
  replace hS:=hS.ext x12
  replace hx:=hx.trans x12
  refine li (e:=82) (sz:=1) (zs:=[.slice none 0 0]) (pv:=[(0,_)]) (cs:=[_]) RX.all (λb6 w13 e6 x13 m6=>?_)
  have g6:=hx.ge e6
  have n6_4:=m4.ltb e6
  have a6_hWr:=hWr.lt
  have o6_hP:=hP.ltb e6
  have a6_hS:=hS.le
  replace hWr:=hWr.ext x13
  replace hP:=hP.ext x13
  replace m4:=m4.ext x13
  replace hB:=hB.ext x13
  replace hS:=hS.ext x13
  replace by5:=by5.ext x13
  replace hx:=hx.trans x13
  have hltQ:=λk9 h9=>Nat.lt_of_lt_of_le (hQ0 k9 h9) hS.le
  refine cD (Xc0 w.heap.size b1 vc _ [(.slice (some ⟨b5,0,none⟩) c.key.length cap5,c.key)] (.slice (some ⟨b6,0,none⟩) 1 1) _ hWr (Nat.le_trans hln0 om9) hx.size (Xc8 m6) (λq h=>by rw[List.mem_singleton.1 h];exact by5) (λq h=>by rw[List.mem_singleton.1 h];exact(show c.key.length≤1000000 by omega)) sp9 (λ_ h9=>(Nat.lt_irrefl b6 (Nat.lt_of_lt_of_eq (a6_hWr _ h9) e6.symm))) (λq h hl h9=>by rw[List.mem_singleton.1 h]at hl h9;exact(Nat.lt_irrefl b5 (Nat.lt_of_lt_of_eq (a5_hWr _ h9) e5.symm)))) (.inl rfl) λu14 w14 x14 hf14=>?_
  have hsz14:=hx.size
  replace hP:=hP.mod x14 (λk9 h9=>hQ k9 (.inr (.inr (.inr h9))))
  replace m4:=m4.mod x14 (hQ _ (.inr (.inl rfl)))
  replace hB:=hB.mod x14 (λk9 h9=>hQ k9 (.inr (.inr (.inl h9))))
  replace hS:=hS.mod x14 trivial
  replace hx:=hx.own x14 (λi hi=>hWr.ge g1 hi)
  obtain⟨rfl,v2,hWr,hg9⟩:=hf14
  rw[row1]at hWr
  have hln61:=Xlc (p:=c.key) (M:=4096) hln0 om9
  replace hQ:=Xqv hg9 hQ hltQ
  refine de Z21 (ws λ_ Z22=>wr (df 3 rfl (dl rfl (m4.at rfl) (li (e:=3) (sz:=1) (zs:=[.int .i64 0]) (pv:=[(0,_)]) (cs:=[_]) RX.all (λb7 w15 e7 x15 m7=>?_)))))
  have g7:=hx.ge e7
  have o7_hP:=hP.ltb e7
  have a7_hS:=hS.le
  have a7_hWr:=hWr.lt
  replace hP:=hP.ext x15
  replace hB:=hB.ext x15
  replace hS:=hS.ext x15
  replace hWr:=hWr.ext x15
  replace hx:=hx.trans x15
  have hltQ:=λk9 h9=>Nat.lt_of_lt_of_le (hQ0 k9 h9) hS.le
  refine cD (Xcr w.heap.size b1 v2 _ [c.seq] (.slice (some ⟨b7,0,none⟩) 1 1) _ hWr (Nat.le_trans hln61 om9) hx.size (m7.arr (enc:=Vc.encI) (sz:=1) (l:=[c.seq]) rfl ir9 rfl sp9) sp9 (λk9 h9 _ e77=>by have e88:b7=k9:=e77;subst e88;exact(Nat.lt_irrefl b7 (Nat.lt_of_lt_of_eq (a7_hWr _ h9) e7.symm)))) (.inl rfl) λu16 w16 x16 hf16=>?_
  have hsz16:=hx.size
  replace hP:=hP.mod x16 (λk9 h9=>hQ k9 (.inr (.inr (.inr h9))))
  replace hB:=hB.mod x16 (λk9 h9=>hQ k9 (.inr (.inr (.inl h9))))
  replace hS:=hS.mod x16 trivial
  replace hx:=hx.own x16 (λi hi=>hWr.ge g1 hi)
  obtain⟨rfl,v3,hWr,hg9⟩:=hf16
  rw[X7p om9 om9]at hWr
  have hln65:=Xlb (n:=c.seq.toNat) hln61
  replace hQ:=Xqv hg9 hQ hltQ
  refine de Z22 (wr (dm ?_))
  refine Xd2 (e:=82) (sz:=1) (zs:=[.slice none 0 0]) (pv:=[(0,?a39_0)]) (cs:=[?a39_0]) rfl kr9 ⟨rfl,rfl⟩ kr9 rfl ?h39 ?f39 RX.all (λb8 w17 e8 x17 m8=>?k39)
  case h39=>refine⟨rfl,?_,trivial⟩<;>(conv=>lhs;whnf)
  case f39=>simp [Xcq,Xal,List.replicate,hB.sl.cells]
  have g8:=hx.ge e8
  have o8_hP:=hP.ltb e8
  have a8_hS:=hS.le
  have a8_hWr:=hWr.lt
  replace hP:=hP.ext x17
  replace hB:=hB.ext x17
  replace hS:=hS.ext x17
  replace hWr:=hWr.ext x17
  replace hx:=hx.trans x17
  have hltQ:=λk9 h9=>Nat.lt_of_lt_of_le (hQ0 k9 h9) hS.le
  refine cD (Xc0 w.heap.size b1 v3 _ [(vb2,blkS (seg l p))] (.slice (some ⟨b8,0,none⟩) 1 1) _ hWr (Nat.le_trans hln65 om9) hx.size (Xc8 m8) (λq h=>by rw[List.mem_singleton.1 h];exact(hB.arr ir9)) (λq h=>by rw[List.mem_singleton.1 h];exact(show(blkS (seg l p)).length≤1000000 by omega)) sp9 (λ_ h9=>(Nat.lt_irrefl b8 (Nat.lt_of_lt_of_eq (a8_hWr _ h9) e8.symm))) (λq h hl h9=>by rw[List.mem_singleton.1 h]at hl h9;exact hQ _ (.inr (.inr (.inl (hB.base_block hl)))) h9)) (.inl rfl) λu18 w18 x18 hf18=>?_
  have hsz18:=hx.size
  replace hP:=hP.mod x18 (λk9 h9=>hQ k9 (.inr (.inr (.inr h9))))
  replace hx:=hx.own x18 (λi hi=>hWr.ge g1 hi)
  obtain⟨rfl,v4,hWr,hg9⟩:=hf18
  rw[row1]at hWr
  have hln68:=trivial
  replace hQ:=Xqv hg9 hQ hltQ
  refine de Z17 (wr (pa rfl rfl (dm (Xae (?_)))))
  refine⟨(k+1,v4),zz7,⟨hx,by omega,?_,hP,λk9 h9=>hQ k9 (.inr (.inr (.inr h9)))⟩,by simp only [];omega⟩
  have e99:Xdz l p=rowS c.key++numS c.seq.toNat++rowS (blkS (seg l p)):=by unfold Xdz;rw[cAt_at hk]
  rw[Xa0 hkp,List.flatMap_append,List.flatMap_cons,List.flatMap_nil,e99]
  simpa only [List.append_assoc,List.append_nil]using hWr
 have hpb:=Xf8 hAll k
 have hnb:=Xak (Xaz l).length
 have hln1:(numS (Xaz l).length++((Xaz l).take k).flatMap (Xdz l)).length≤25000*l.length+10:=by rw[List.length_append];omega
 refine Xah (Z13 _ _ (ws λ_ Z23=>wr (dm ?_)))
 refine dv 79 4 (hv.ext hx).sl (li (e:=3) (sz:=1) (zs:=[.int .i64 0]) (pv:=[(0,_)]) (cs:=[_]) RX.all (λb9 w19 e9 x19 m9=>?_))
 have g9:=hx.ge e9
 have a9_hWr:=hWr.lt
 replace hWr:=hWr.ext x19
 replace hx:=hx.trans x19
 refine cD (Xcr w.heap.size b1 vc _ [↑l.length] (.slice (some ⟨b9,0,none⟩) 1 1) _ hWr (Nat.le_trans hln1 om9) hx.size (m9.arr (enc:=Vc.encI) (sz:=1) (l:=[↑l.length]) rfl ir9 rfl sp9) sp9 (λk9 h9 _ e77=>by have e88:b9=k9:=e77;subst e88;exact(Nat.lt_irrefl b9 (Nat.lt_of_lt_of_eq (a9_hWr _ h9) e9.symm)))) (.inl rfl) λu20 w20 x20 hf20=>?_
 have hsz20:=hx.size
 replace hx:=hx.own x20 (λi hi=>hWr.ge g1 hi)
 obtain⟨rfl,v5,hWr,hg9⟩:=hf20
 rw[Xsd om9]at hWr
 have hln73:=Xlb (n:=l.length) hln1
 refine de Z23 (ws λ_ Z24=>wr (dm ?_))
 refine cG (Xvb l v _ (hv.ext hx) hl) RX.all λvK w21 x21 Z0=>?_
 have hsz21:=hx.size
 replace hWr:=hWr.ext x21
 replace hx:=hx.trans x21
 have hK:=Z0.mono hsz21
 have hltW:=hWr.lt
 refine cG (Xuh (Xb9 l) vK _ (hK.arr ir9) (by have:=Xcl l l.length;unfold Xb9;omega) (λs9 h9=>by obtain⟨c9,hc9,rfl⟩:=Xkh (Nat.le_refl _) h9;have:=Xbk (hAll c9 hc9);omega)) RX.all λvM w22 x22 hM=>?_
 have hsz22:=hx.size
 replace hWr:=hWr.ext x22
 replace hx:=hx.trans x22
 refine Xd2 (e:=82) (sz:=1) (zs:=[.slice none 0 0]) (pv:=[(0,?a44_0)]) (cs:=[?a44_0]) rfl kr9 ⟨rfl,rfl⟩ kr9 rfl ?h44 ?f44 RX.all (λb10 w23 e10 x23 m10=>?k44)
 case h44=>refine⟨rfl,?_,trivial⟩<;>(conv=>lhs;whnf)
 case f44=>simp [Xcq,Xal,List.replicate,hM.sl.cells]
 have g10:=hx.ge e10
 have a10_hWr:=hWr.lt
 replace hWr:=hWr.ext x23
 replace hM:=hM.ext x23
 replace hx:=hx.trans x23
 refine cD (Xc0 w.heap.size b1 v5 _ [(vM,Xdp (Xb9 l))] (.slice (some ⟨b10,0,none⟩) 1 1) _ hWr (Nat.le_trans hln73 om9) hx.size (Xc8 m10) (λq h=>by rw[List.mem_singleton.1 h];exact(hM.arr ir9)) (λq h=>by rw[List.mem_singleton.1 h];exact(show(Xdp (Xb9 l)).length≤1000000 by rw[Xck];have:=Xcl l l.length;unfold Xcn Xb9;omega)) sp9 (λ_ h9=>(Nat.lt_irrefl b10 (Nat.lt_of_lt_of_eq (a10_hWr _ h9) e10.symm))) (λq h hl h9=>by rw[List.mem_singleton.1 h]at hl h9;exact(by have h8:(base vM).1<_:=hltW _ h9;have h7:=(hM.base_ge hl).1;omega))) (.inl rfl) λu24 w24 x24 hf24=>?_
 have hsz24:=hx.size
 replace hx:=hx.own x24 (λi hi=>hWr.ge g1 hi)
 obtain⟨rfl,v6,hWr,hg9⟩:=hf24
 rw[row1]at hWr
 have hln78:=Xlc (p:=Xdp (Xb9 l)) (M:=1000000) hln73 (by rw[Xck];have:=Xcl l l.length;unfold Xcn Xb9;omega)
 refine de Z24 (ws λ_ Z25=>wr (cG (Xj6 w.heap.size b1 v6 _ _ hWr om9) RX.all λvo w25 x25 hO=>?_))
 have hsz25:=hx.size
 replace hx:=hx.trans x25
 rw[show k=(Xaz l).length by omega,List.take_length]at hO
 change Vc.Own encB 1 _ _ _ vo (tblS l)at hO
 refine Xd2 (e:=82) (sz:=1) (zs:=[.slice none 0 0]) (pv:=[(0,?a45_0)]) (cs:=[?a45_0]) rfl kr9 ⟨rfl,rfl⟩ kr9 rfl ?h45 ?f45 RX.all (λb11 w26 e11 x26 m11=>?k45)
 case h45=>refine⟨rfl,?_,trivial⟩<;>(conv=>lhs;whnf)
 case f45=>simp [Xcq,Xal,List.replicate,hO.sl.cells]
 have g11:=hx.ge e11
 replace hO:=hO.ext x26
 replace hx:=hx.trans x26
 refine cG (Xuy (tblS l) vo _ _ (m11.arr (enc:=λx:Value=>[x]) (sz:=1) (l:=[vo]) rfl ir9 rfl sp9) (hO.arr ir9) (by have:=Xqw hAll om9;omega)) RX.all λu27 w27 x27 hf27=>?_
 have hsz27:=hx.size
 replace hx:=hx.trans x27
 obtain⟨vb,rfl,hEn⟩:=hf27
 refine dx rfl rfl (dx rfl rfl (da (da (de Z25 (Xad ?_)))))
 refine rt ?_
 rw[Xvd om9 hE]
 exact⟨_,rfl,hx,_,rfl,λe=>⟨(hEn e).1,by have:=(hEn e).2;omega⟩⟩
end Go.Proofs.YtiooodckiddpmaaGreatDoor
namespace Go.Vc
open Go.RowKit Go.Maps
@[reducible] def kvII (p:Int×Int):Value:=.agg ⟨[I p.1,I p.2]⟩
def okII (p:Int×Int):Prop:=Xai p.1∧Xai p.2
theorem Xzd (x y:Int×Int)(h:kvII x=kvII y):x=y:=by
 simp [kvII]at h
 exact Prod.ext h.1 h.2
theorem Xi7 {P:Program}{e d:Nat}(he:P.underlying e=some (.int .i64)){n:Int}(hn:Xai n):P.keyLits (d+1) e [I n]=some [.int .i64 n]:=by
 have hw:(Lit.int .i64 n).wf=true:=by
  unfold Xai at hn
  simp [Lit.wf,IntKind.min,IntKind.max,IntKind.signed,IntKind.bits]
  omega
 simp [Program.keyLits,he,hw]
theorem Xe8 {P:Program}{e d:Nat}(he:P.underlying e=some (.int .i64)){cs:List Value}{l:List Lit}(h:P.keyLits (d+1) e cs=some l):∃n:Int,cs=[I n]∧Xai n:=by
 unfold Program.keyLits at h
 rw[he]at h
 match cs,h with
 | [.int q' n],h=>
  simp only []at h
  split at h
  ·rename_i hc
   obtain⟨rfl,hw⟩:=hc
   refine⟨n,rfl,?_⟩
   have hw':-9223372036854775808≤n∧n≤9223372036854775807:=by simpa [Lit.wf,IntKind.min,IntKind.max,IntKind.signed,IntKind.bits]using hw
   unfold Xai;omega
  ·cases h
def X4o (P:Program)(k i:Nat):Prop:=∀d cs,P.keyLits (d+1) k cs=if cs.length=2 then((P.keyLits d i (cs.take 1)).bind λa=>(P.keyLits d i ((cs.drop 1).take 1)).bind λb=>some [a,b]).map List.flatten else none
theorem Xsf {P:Program}{k i:Nat}(hk:P.underlying k=some (.array 2 i))(hc:P.cellsOf k=2)(hi:P.cellsOf i=1):X4o P k i:=λd cs=>by
 rw[Program.keyLits.eq_def]
 simp only [hk,hc,hi]
 rfl
theorem Xi8 {P : Program} {k i : Nat} (hs : (match P.underlying k with | some (.struct fs) => decide (fs.toList.map (λ f => (f.type, f.offset)) = [(i, 0), (i, 1)]) && fs.all (·.name != "_") | _ => false) = true) (hc : P.cellsOf k = 2) (hi : P.cellsOf i = 1) : X4o P k i := λ d cs => by
 split at hs
 ·rename_i fs hk
  rw[Bool.and_eq_true,decide_eq_true_eq]at hs
  obtain⟨hf,ha⟩:=hs
  rw[Program.keyLits.eq_def]
  simp only [hk,hc,ha,and_true]
  obtain⟨f0,r0,h0,h1,h2⟩:=List.map_eq_cons_iff.1 hf
  obtain⟨f1,r1,h3,h4,h5⟩:=List.map_eq_cons_iff.1 h2
  have h6:=List.map_eq_nil_iff.1 h5
  subst h6 h3
  rw[h0]
  simp only [Prod.mk.injEq]at h1 h4
  simp only [List.mapM_cons,List.mapM_nil,h1.1,h1.2,h4.1,h4.2,hi,Nat.zero_mul,List.drop_zero,Option.bind_eq_bind,Option.pure_def,Option.bind_some]
  cases P.keyLits d i (List.take 1 cs)<;>cases P.keyLits d i (List.take 1 (List.drop 1 cs))<;>rfl
 ·cases hs
theorem X4p {P:Program}{α:Type}{t k e i:Nat}{av:α->Value}(hl:laidOutB P=true)(hu:P.underlying t=some (.map k e))(hL:X4o P k i)(hi:P.underlying i=some (.int .i64))(hc:P.cellsOf k=2)
  (hwide:(match P.underlying k with|some (.array _ _)|some (.struct _)=>true|_=>false)=true) (hkt:P.keyType k=true) (hka:P.keyTypeAt 2 k=true) (hrow:Nat.blt k P.types.size=true)
  (ha:∀a b,av a=av b->a=b):MapK P t k e kvII av okII:=by
 have hrow':k<P.types.size:=by simpa [Nat.blt_eq]using hrow
 obtain⟨d,hd⟩:∃d,P.types.size=d+1:=⟨P.types.size-1,by omega⟩
 have hko:∀v,keyOf P k v=if P.keyType k && v.formed P k then(P.keyLits (P.types.size+1) k v.cells.toList).map λls=>.string (keyBytes ls)else none:=λv=>by
  unfold keyOf
  split at hwide
  ·rename_i h;rw[h]
  ·rename_i h;rw[h]
  ·cases hwide
 have hform:∀cs:Array Value,(Value.agg cs).formed P k=decide (cs.size=2):=λcs=>by
  split at hwide
  ·rename_i h;simp [Value.formed,h,hc];rfl
  ·rename_i h;simp [Value.formed,h,hc];rfl
  ·cases hwide
 have hform2:∀v:Value,v.formed P k=true->∃cs,v=.agg cs:=λv hf=>by
  split at hwide
  ·rename_i h;cases v<;>simp [Value.formed,h]at hf;exact⟨_,rfl⟩
  ·rename_i h;cases v<;>simp [Value.formed,h]at hf;exact⟨_,rfl⟩
  ·cases hwide
 refine⟨hu,Keyed.of_law (deep_law_laid hl (m:=2) om9 hrow' hka hwide),λx hx=>?_,λv l hv=>?_,Xzd,ha⟩
 ·refine⟨.string (keyBytes ([[.int .i64 x.1],[.int .i64 x.2]].flatten)),?_⟩
  rw[hko,hkt,hform,hd,hL]
  simp only [Value.cells,List.length_cons,List.length_nil,if_true,List.take_succ_cons,List.take_zero,List.drop_succ_cons,List.drop_zero,Xi7 hi hx.1,Xi7 hi hx.2]
  rfl
 ·rw[hko,hkt,Bool.true_and]at hv
  split at hv
  ·rename_i hf
   obtain⟨cs,rfl⟩:=hform2 v hf
   rw[hform,decide_eq_true_eq]at hf
   simp only [hd,Value.cells,Option.map_eq_some_iff]at hv
   obtain⟨ls,hls,_⟩:=hv
   rw[hL]at hls
   split at hls
   ·simp only [Option.map_eq_some_iff,Option.bind_eq_some_iff]at hls
    obtain⟨_,⟨a,hA,b,hB,_⟩,_⟩:=hls
    obtain⟨n,h1,hn⟩:=Xe8 hi hA
    obtain⟨m,h2,hm⟩:=Xe8 hi hB
    refine⟨(n,m),?_,hn,hm⟩
    show Value.agg cs=.agg ⟨_⟩
    congr 1
    apply Array.toList_inj.1
    have hlen:cs.toList.length=2:=by simpa using hf
    rw[←List.take_append_drop 1 cs.toList,h1]
    have:cs.toList.drop 1=(cs.toList.drop 1).take 1:=by rw[List.take_of_length_le (by simp;omega)]
    rw[this,h2];rfl
   ·cases hls
  ·cases hv
theorem mapI {P:Program}{α:Type}{t k e:TypeId}{av:α->Value}(hu:P.underlying t=some (.map k e))(hk:P.underlying k=some (.int .i64))(ha:∀a b,av a=av b->a=b):MapK P t k e I av Xai:=
 ⟨hu,int_keyed hk,λx hx=>⟨.int .i64 x,by
  have hw:(Lit.int .i64 x).wf=true:=by
   unfold Xai at hx
   simp [Lit.wf,IntKind.min,IntKind.max,IntKind.signed,IntKind.bits]
   omega
  simp [keyOf,hk,mapKey,hw]⟩,λv l hl=>by
  simp only [keyOf,hk]at hl
  cases v<;>simp [mapKey,hk]at hl
  rename_i q n
  obtain⟨⟨rfl,hw⟩,rfl⟩:=hl
  refine⟨n,rfl,?_⟩
  have hw':-9223372036854775808≤n∧n≤9223372036854775807:=by simpa [Lit.wf,IntKind.min,IntKind.max,IntKind.signed,IntKind.bits]using hw
  unfold Xai;omega,λx y h=>by simpa using h,ha⟩
end Go.Vc
namespace Go.Proofs.YtiooodckiddpmaaGreatDoor
open Go.Vc Go.Sp
attribute [local irreducible] W XW Dw DwT
theorem X7q (a b:Bool)(h:Value.bool a=.bool b):a=b:=by simpa using h
theorem X7r : MapK Tryz.prog 183 284 4 kvII B okII:=X4p (i:=3) kr9 kr9 (Xi8 kr9 kr9 kr9) kr9 kr9 kr9 kr9 kr9 kr9 X7q
structure TblE (bt:Nat)(vl vb:Value)(l:List Cell)(w:World):Prop where
 m:∃vp,Blk w bt [vl,vp,vb] 185
 a:Arr Cell.cs 4 w vl l
 b:Arr encB 1 w vb (Xdp (Xb9 l))
 ok:Xbz l=0
@[reducible] def tblF (bt:Nat) (vl vb:Value):Nat->Prop:=λk=>k=bt∨k=(base vl).1∨k=(base vb).1
theorem Xei {l:List Cell}(h:Xbz l=0):1≤l.length∧l.length≤4096∧errB l=0∧encE (tblS l)=0:=by
 unfold Xbz at h
 split at h
 ·simp at h
 ·split at h
  ·rename_i h2;exact absurd h h2
  ·rename_i h1 h2;exact⟨by omega,by omega,Decidable.of_not_not h2,h⟩
theorem TblE.mod {bt:Nat}{vl vb:Value}{l:List Cell}{S:Nat->Prop}{w w':World}(h:TblE bt vl vb l w)(x:Vc.Mod S w w')(hS:∀k,tblF bt vl vb k->¬ S k):TblE bt vl vb l w':=by
 obtain⟨⟨vp,h1⟩,h2,h3,h4⟩:=h
 exact⟨⟨vp,h1.mod x (hS _ (.inl rfl))⟩,h2.mod x (λ_=>hS _ (.inr (.inl rfl))),h3.mod x (λ_=>hS _ (.inr (.inr rfl))),h4⟩
theorem TblE.ext {bt:Nat}{vl vb:Value}{l:List Cell}{w w':World}(h:TblE bt vl vb l w)(x:Ext w w'):TblE bt vl vb l w':=h.mod x (λ_ _ h=>h)
theorem TblE.lt {bt:Nat}{vl vb:Value}{l:List Cell}{w:World}(h:TblE bt vl vb l w):∀k,tblF bt vl vb k->k<w.heap.size:=by
 obtain⟨⟨vp,h1⟩,h2,h3,h4⟩:=h
 have hb:=Xei h4
 rintro k (rfl|rfl|rfl)
 ·exact h1.lt
 ·exact h2.base_lt dc9 (λe=>by rw[e]at hb;simp at hb)
 ·exact h3.base_lt dc9 (λe=>by have h9:=Xck (Xb9 l);rw[e]at h9;unfold Xcn at h9;simp at h9;omega)
theorem Xm4 {α β:Type}(f:α->List β)(l:List α)(k:Nat):((l.drop k).flatMap f).length≤(l.flatMap f).length:=by
 have h:=congrArg (λm=>(m.flatMap f).length) (List.take_append_drop k l)
 simp only [List.flatMap_append,List.length_append]at h
 omega
theorem Xo0 (l:List Cell)(k:Nat):(((Xaz l).take k).flatMap (seg l)).length≤l.length:=by
 obtain⟨c,h1,h2⟩:=Xkj (Xb3 l l.length) k
 unfold Xaz
 rw[Xhh h1,List.length_drop,List.length_take]
 omega
theorem Xvh (l:List Cell):(Xaz l).flatMap (seg l)=l:=by
 unfold Xaz
 rw[Xhh (Xb3 l l.length)];simp
theorem Xvi (l:List Cell):tblS l=numS (Xaz l).length++(((Xaz l).flatMap (Xdz l))++(numS l.length++rowS (Xdp (Xb9 l)))):=by unfold tblS;simp only [List.append_assoc]
theorem X7s (l:List Cell)(v:Value)(w:World)(hv:Arr encB 1 w v (recS (tblS l)))(hb:Xbz l=0) :
  Calls Tryz.prog 124 [v].toArray w (Gives w (λu w'=>∃bt vl vb,u=.tuple #[ptr bt 0,I 0]∧TblE bt vl vb l w'∧∀k,tblF bt vl vb k->w.heap.size≤k)):=by
 refine cw Tryz.func124 ?_
 have hx:=Ext.refl w
 obtain⟨hl1,hl2,hE,hen⟩:=Xei hb
 obtain⟨hAll,hRis⟩:=Xfu.1 hE
 obtain⟨hsz9,hkv⟩:=X1l hAll
 have htl:=Xuz hen
 have hpl:=Xgr l l.length
 have hpN:(Xaz l).length≤l.length:=hpl
 have hmk:(Xdp (Xb9 l)).length≤5130:=by rw[Xck];have:=Xcl l l.length;unfold Xcn;unfold Xb9;omega
 have hrl:(recS (tblS l)).length≤2001000020:=by rw[Xbi];omega
 have hln9:=congrArg List.length (Xvi l)
 simp only [List.length_append]at hln9
 have hne0:numS (Xaz l).length++(((Xaz l).flatMap (Xdz l))++(numS l.length++rowS (Xdp (Xb9 l))))≠[]:=λe=>by
  have h9:=congrArg List.length e
  have h8:1≤(numS (Xaz l).length).length:=Xp2 9 _
  rw[List.length_append,List.length_nil]at h9;omega
 refine ws λ_ Z1=>wr (da (da (de Z1 (ws λ_ Z2=>wr (dm ?_)))))
 refine cG (X9n (recS (tblS l)) v _ (hv.ext hx) hrl) RX.all λu1 w1 x1 hf1=>?_
 have hsz1:=hx.size
 replace hx:=hx.trans x1
 obtain⟨vo,rfl,hV⟩:=hf1
 rw[Xmw _ om9]at hV
 refine dm ?_
 refine dx rfl rfl (dx rfl rfl (da (da (de Z2 (ws λ_ Z3=>ws λ_ Z4=>wr (dm ?_))))))
 refine dp (Xas rfl rfl) (de Z4 (wi (λc1=>?_) λc1=>?_))
 ·rw[Xmw _ om9]at c1;simp at c1
 refine Xaa (Z3 _ _ (ws λ_ Z5=>wr (dm ?_)))
 refine cG (Xiu (tblS l) vo _ (hV.arr ir9) om9) RX.all λu2 w2 x2 hf2=>?_
 have hsz2:=hx.size
 replace hx:=hx.trans x2
 obtain⟨br,bb,vc0,rfl,gbr,gbb,hR⟩:=hf2
 have hbr:w.heap.size≤br:=Nat.le_trans hsz2 gbr
 have hlt1:=hR.lt
 rw[Xvi]at hR hlt1
 have hw1:=Nat.le_trans hsz2 x2.size
 have hS:Sz w2.heap.size w2:=⟨Nat.le_refl _⟩
 refine da (de Z5 (ws λ_ Z6=>wr (da (de Z6 (ws λ_ Z7=>ws λ_ Z8=>wr (dm ?_))))))
 refine cD (Xyd br bb vc0 _ false _ hR (by simp only [List.length_append];omega)) (.inl rfl) λu3 w3 x3 hf3=>?_
 have hsz3:=hx.size
 replace hS:=hS.mod x3 trivial
 replace hx:=hx.own x3 (λi hi=>(by have h2:i=br:=hi;omega))
 obtain⟨hu9,vc1,hR⟩:=hf3
 rw[Xd3 _ _ om9]at hu9 hR
 dsimp only at hu9 hR
 subst hu9
 refine dm (de Z8 (Xab ?_))
 refine Xaj (G:=Nat×Value×Value) (λ(k,vc,vl)=>[(0,v),(5,I (oneF (recS (tblS l))).2),(6,ptr br 0),(7,vl),(25,I ↑(Xaz l).length),(26,I ↑k)]) (λ(k,vc,vl) w'=>Ext w w'∧k≤(Xaz l).length∧Rd br bb vc ((((Xaz l).drop k).flatMap (Xdz l))++(numS l.length++rowS (Xdp (Xb9 l)))) false w'∧Vc.Own Cell.cs 4 79 w2.heap.size w' vl (((Xaz l).take k).flatMap (seg l))∧Sz w2.heap.size w') (λ(k,vc,vl)=>(Xaz l).length-k) (0,vc1,.slice none 0 0) ?_ ?_ ?_
 ·exact zz6
 ·exact⟨hx,Nat.zero_le _,hR,Vc.Own.nil,hS⟩
 intro X4 g4 w4 hF4
 obtain⟨k,vc,vl⟩:=g4
 clear hx hS hR
 obtain⟨hx,hk9,hR,ho,hS⟩:=hF4
 refine ws λ_ Z9=>wr (dp (Xaf rfl rfl) (de Z9 (ws λ_ Z10=>wi (λc2=>?_) λc2=>?_)))
 ·obtain⟨p,hkp⟩:∃p,(Xaz l)[k]?=some p:=gtE
  have hpm:=(Xb3 l l.length).mem (List.mem_of_getElem? hkp)
  obtain⟨c,hk⟩:∃c,l[p.2-1]?=some c:=gtE
  have hcs:=Xbk (hAll c (List.mem_of_getElem? hk))
  have hsl:=Xu8 (l:=l) hpm.2.2.1
  have hsb:=Xh7 (l:=seg l p) (λc hc=>hAll c (Xi6 hc))
  have hfd:=Xm4 (Xdz l) (Xaz l) k
  have hfs:=Xo0 l k
  have hdr:((((Xaz l).drop k).flatMap (Xdz l))++(numS l.length++rowS (Xdp (Xb9 l))))=(rowS c.key++(numS c.seq.toNat++(rowS (blkS (seg l p))++(((Xaz l).drop (k+1)).flatMap (Xdz l)++(numS l.length++rowS (Xdp (Xb9 l))))))):=by rw[Xcs hkp,List.flatMap_cons];unfold Xdz;rw[cAt_at hk];simp only [List.append_assoc]
  have hll:=congrArg List.length hdr
  simp only [List.length_append]at hll
  refine Xaa (Z10 _ _ (ws λ_ Z11=>Xab (ws λ_ Z12=>wr (dm ?_))))
  rw[hdr]at hR
  refine cD (Xh5 br bb vc _ false _ hR (by simp only [List.length_append];omega)) (.inl rfl) λu5 w5 x5 hf5=>?_
  have hsz5:=hx.size
  replace ho:=ho.mod x5 (λk9 h9 e=>ho.ne_blk hR.m rfl (by rw[h9];exact congrArg some e))
  replace hS:=hS.mod x5 trivial
  replace hx:=hx.own x5 (λi hi=>(by have h2:i=br:=hi;omega))
  obtain⟨_,vc2,hR⟩:=hf5
  rw[Xeg _ _ _ om9]at hR
  dsimp only at hR
  refine de Z12 (ws λ_ Z13=>wr (dm ?_))
  refine cD (Xyd br bb vc2 _ false _ hR (by simp only [List.length_append];omega)) (.inl rfl) λu6 w6 x6 hf6=>?_
  have hsz6:=hx.size
  replace ho:=ho.mod x6 (λk9 h9 e=>ho.ne_blk hR.m rfl (by rw[h9];exact congrArg some e))
  replace hS:=hS.mod x6 trivial
  replace hx:=hx.own x6 (λi hi=>(by have h2:i=br:=hi;omega))
  obtain⟨rfl,vc3,hR⟩:=hf6
  rw[Xd3 _ _ om9]at hR
  dsimp only at hR
  refine de Z13 (ws λ_ Z14=>wr (dm ?_))
  refine cD (Xh5 br bb vc3 _ false _ hR (by simp only [List.length_append];omega)) (.inl rfl) λuB w7 x7 hf7=>?_
  have hsz7:=hx.size
  replace ho:=ho.mod x7 (λk9 h9 e=>ho.ne_blk hR.m rfl (by rw[h9];exact congrArg some e))
  replace hS:=hS.mod x7 trivial
  replace hx:=hx.own x7 (λi hi=>(by have h2:i=br:=hi;omega))
  obtain⟨hB,vc4,hR⟩:=hf7
  rw[Xeg _ _ _ om9]at hB hR
  dsimp only at hB hR
  refine cG (Xzb (seg l p) uB _ (hB.arr ir9) om9 (Xoz hE p)) RX.all λu8 w8 x8 hf8=>?_
  have hsz8:=hx.size
  replace ho:=ho.ext x8
  replace hS:=hS.ext x8
  replace hR:=hR.ext x8
  replace hx:=hx.trans x8
  obtain⟨vC,rfl,hC⟩:=hf8
  refine dm ?_
  refine dx rfl rfl (dx rfl rfl (da (da (de Z14 (ws λ_ Z15=>ws λ_ Z16=>wr (dm ?_))))))
  refine cP (X05 br bb vc4 _ false _ hR) RX.all λw9 x9=>?_
  replace ho:=ho.ext x9
  replace hS:=hS.ext x9
  replace hR:=hR.ext x9
  replace hC:=hC.ext x9
  replace hx:=hx.trans x9
  refine dn (dm ?_)
  refine Xb7 41 rfl (λc3=>?_) (λc3=>?_)
  ·simp at c3
  refine dm ?_
  refine dp (Xas rfl rfl) (dk' (de Z16 ?_))
  refine wi (λc4=>?_) λc4=>?_
  ·exact absurd rfl c4
  refine Xaa (Z15 _ _ (wr (dm (dm ?_))))
  refine Xa6 (lx:=(seg l p)) (e:=79) (sz:=4) (by':=48) rfl kr9 kr9 ir9 ho ((hC.arr ir9)) rfl rfl (by intro x _ u hu;simp at hu;rcases hu with rfl|rfl|rfl|rfl<;>rfl) om9 dc9 hS.le (.inl rfl) (λvl2 w10 ho_n x10=>?_)
  try replace hS:=hS.mod x10 (by first|trivial|(intro k9 h9 e9;have h8:=hlt1 k9 (Xct (λ_=>hne0) h9);have h7:=(ho.lt k9 e9).1;omega))
  try replace hR:=hR.mod x10 (by first|trivial|(intro k9 h9 e9;have h8:=hlt1 k9 (Xct (λ_=>hne0) h9);have h7:=(ho.lt k9 e9).1;omega))
  replace hx:=hx.own x10 (λi hi=>(Nat.le_trans hw1 (ho.lt i hi).1))
  replace ho:=ho_n
  refine da (de Z11 (wr ?_))
  refine pa rfl rfl (dm (Xae (?_)))
  refine⟨(k+1,vc4,vl2),zz6,⟨hx,by omega,hR,?_,hS⟩,by simp only [];omega⟩
  rw[Xa0 hkp,List.flatMap_append,List.flatMap_cons,List.flatMap_nil,List.append_nil];exact ho
 have hkN:k=(Xaz l).length:=by omega
 rw[hkN,List.take_length,Xvh]at ho
 have hL:=ho
 refine Xah (Z7 _ _ (ws λ_ Z17=>wr (dm ?_)))
 refine cG (Xvg l vl _ (hL.arr ir9) om9) RX.all λu11 w11 x11 hf11=>?_
 have hsz11:=hx.size
 replace hR:=hR.ext x11
 replace hL:=hL.ext x11
 replace hx:=hx.trans x11
 obtain⟨vb9,rfl,hEn⟩:=hf11
 have hE2:=(hEn hb).1
 refine dm ?_
 refine dx rfl rfl (dx rfl rfl (da (da (de Z17 (ws λ_ Z18=>ws λ_ Z19=>wr (dm ?_))))))
 refine dp (Xas rfl rfl) (dm ?_)
 refine Xag 56 rfl (λc5=>?_) (λc5=>?_)
 ·exact absurd hb c5
 iterate 2 refine dm ?_
 refine cP (X3z (recS (tblS l)) (recS (tblS l)) vb9 v _ hE2 (hv.ext hx)) RX.all λw12 x12=>?_
 replace hR:=hR.ext x12
 replace hL:=hL.ext x12
 replace hx:=hx.trans x12
 refine dn ?_
 refine dk' (de Z19 ?_)
 refine wc (λc6=>?_) λc6=>?_
 ·simp at c6
 refine Xaa (Z18 _ _ (ws λ_ Z20=>wr (dm ?_)))
 refine Xgj X7r rfl RX.all (λb1 w13 e1 x13 mp1=>?_)
 have g1:=hx.ge e1
 have a1_hR:=hR.lt
 have o1_hL:=hL.ltb e1
 replace hR:=hR.ext x13
 replace hL:=hL.ext x13
 replace hx:=hx.trans x13
 refine dm ?_
 refine cG (Xvb l vl _ (hL.arr ir9) om9) RX.all λvK w14 x14 hK=>?_
 have hsz14:=hx.size
 replace hR:=hR.ext x14
 replace hL:=hL.ext x14
 replace mp1:=mp1.ext x14
 replace hx:=hx.trans x14
 refine cG (Xuh (Xb9 l) vK _ (hK.arr ir9) (by have:=Xcl l l.length;unfold Xb9;omega) (λs9 h9=>by obtain⟨c9,hc9,rfl⟩:=Xkh (Nat.le_refl _) h9;have:=Xbk (hAll c9 hc9);omega)) RX.all λvM w15 x15 hM0=>?_
 have hsz15:=hx.size
 replace hR:=hR.ext x15
 replace hL:=hL.ext x15
 replace mp1:=mp1.ext x15
 replace hx:=hx.trans x15
 have hM:=hM0.mono hsz15
 refine dp (Xfd (zs:=[.slice none 0 0,.map none,.slice none 0 0]) (pl:=[(0,1),(1,1),(2,1)]) (pv:=[(0,?a40_0),(1,?a40_1),(2,?a40_2)]) (cs:=[?a40_0,?a40_1,?a40_2]) kr9 kr9 ?h40 ?f40) ?k40
 case h40=>refine⟨rfl,?_,rfl,?_,rfl,?_,trivial⟩<;>(conv=>lhs;whnf)
 case f40=>rcases hL.sl with⟨e,_⟩|⟨_,_,_,e,_⟩|⟨_,_,_,e⟩<;>rcases hM.sl with⟨e2,_⟩|⟨_,_,_,e2,_⟩|⟨_,_,_,e2⟩<;>rw[e,e2]<;>rfl
 refine Xbf rfl rfl rfl RX.all (λb2 w16 e2 x16 m2=>?_)
 have g2:=hx.ge e2
 have n2_mp1:=mp1.lt
 have a2_hR:=hR.lt
 have o2_hL:=hL.ltb e2
 have o2_hM:=hM.ltb e2
 replace hR:=hR.ext x16
 replace hL:=hL.ext x16
 replace mp1:=mp1.ext x16
 replace hM:=hM.ext x16
 replace hx:=hx.trans x16
 refine da (de Z20 (ws λ_ Z21=>ws λ_ Z22=>wr (dm ?_)))
 refine cG (Xqu l vl _ (hL.arr ir9) om9 hsz9 hkv) RX.all λvP w17 x17 hP0=>?_
 have hsz17:=hx.size
 replace hR:=hR.ext x17
 replace hL:=hL.ext x17
 replace mp1:=mp1.ext x17
 replace hM:=hM.ext x17
 replace m2:=m2.ext x17
 replace hx:=hx.trans x17
 have hP:=hP0.mono hsz17
 refine dv 284 2 (hP.arr ir9).sl (dm (de Z22 (Xab ?_)))
 refine Xaj (G:=Nat×(Int×Int->Option Bool)) (λ(k,fm)=>[(11,ptr b2 0),(70,vP),(71,I ↑(Xaz l).length),(72,I ↑k)]) (λ(k,fm) w'=>Ext w w'∧Vc.Own Cell.cs 4 79 w2.heap.size w' vl l∧Vc.Own encB 1 5 w.heap.size w' vM (Xdp (Xb9 l))∧Blk w' b2 [vl,.map (some b1),vM] 185∧Vc.Own pEnc 2 284 w.heap.size w' vP (Xaz l)∧k≤(Xaz l).length∧Vc.Xbo Tryz.prog 284 kvII B w' b1 k fm) (λ(k,fm)=>(Xaz l).length-k) (0,λ_=>none) ?_ ?_ ?_
 ·exact zz4
 ·exact⟨hx,hL,hM,m2,hP,Nat.zero_le _,mp1⟩
 intro X18 g18 w18 hF18
 obtain⟨k,fm⟩:=g18
 clear hx hR hS hL hE2 mp1 hK hM m2 hP
 obtain⟨hx,hL,hM,m2,hP,hk9,mp1⟩:=hF18
 refine ws λ_ Z23=>wr (dp (Xaf rfl rfl) (de Z23 (ws λ_ Z24=>wi (λc7=>?_) λc7=>?_)))
 ·obtain⟨p,hkp⟩:∃p,(Xaz l)[k]?=some p:=gtE
  have hpm:=(Xb3 l l.length).mem (List.mem_of_getElem? hkp)
  refine Xaa (Z24 _ _ (ws λ_ Z25=>Xab (ws λ_ Z26=>wr (di 284 2 (hP.arr ir9).sl rfl ((hP.arr ir9).lt hkp) (dq (Xac kr9 rfl rfl ((hP.arr ir9).row hkp)) (Xan (cs:=[.int .i64 0,.int .i64 0]) rfl kr9 RX.all (λb3 w19 e3 x19 m3=>?_)))))))
  have g3:=hx.ge e3
  have n3_2:=m2.ltb e3
  have n3_mp1:=mp1.lt
  have o3_hL:=hL.ltb e3
  have o3_hM:=hM.ltb e3
  have o3_hP:=hP.ltb e3
  replace hL:=hL.ext x19
  replace hM:=hM.ext x19
  replace m2:=m2.ext x19
  replace hP:=hP.ext x19
  replace mp1:=mp1.ext x19
  replace hx:=hx.trans x19
  refine stA m3 (λw20 x20 xs20 m3=>?_)
  try dsimp only [Xal,List.set,List.take,List.drop]at m3
  try replace hL:=hL.mod x20 (by first|assumption|(intro k hk h;have h1:=(hL.lt k hk).1;have h2:k=b3:=h;omega)|(intro k hk h;have h1:=o3_hL k hk;have h2:k=b3:=h;omega)|(intro h;have h2:_=b3:=h;omega)|(intro hl h;have h1:=a3_hL hl;have h2:_=b3:=h;omega))
  try replace hM:=hM.mod x20 (by first|assumption|(intro k hk h;have h1:=(hM.lt k hk).1;have h2:k=b3:=h;omega)|(intro k hk h;have h1:=o3_hM k hk;have h2:k=b3:=h;omega)|(intro h;have h2:_=b3:=h;omega)|(intro hl h;have h1:=a3_hM hl;have h2:_=b3:=h;omega))
  try replace m2:=m2.mo x20
  try replace hP:=hP.mod x20 (by first|assumption|(intro k hk h;have h1:=(hP.lt k hk).1;have h2:k=b3:=h;omega)|(intro k hk h;have h1:=o3_hP k hk;have h2:k=b3:=h;omega)|(intro h;have h2:_=b3:=h;omega)|(intro hl h;have h1:=a3_hP hl;have h2:_=b3:=h;omega))
  replace mp1:=mp1.mod x20 (by intro h;have h2:_=b3:=h;omega)
  replace hx:=hx.o1 x20
  refine de Z26 (Xaq (R:=Ext) Ext.refl (λ_ _ _=>Ext.trans) kr9 [3,4] [(0,.p,false),(1,.p,false),(2,.p,false),(3,.l,false),(4,.l,false),(5,.x,true)] rfl kr9 kr9 (λw21 ew21=>?_))
  have x21:=drewx ew21
  clear ew21
  replace hL:=hL.ext x21
  replace hM:=hM.ext x21
  replace m2:=m2.ext x21
  replace hP:=hP.ext x21
  replace mp1:=mp1.ext x21
  replace m3:=m3.ext x21
  replace hx:=hx.trans x21
  refine dm ?_
  refine dz rfl (df 1 rfl (dL rfl (λ_ hR=>((m2.ext hR).at rfl)) (D_l rfl (λw' hR=>Xac (k:=2) kr9 rfl rfl (m3.ext hR).row) ?_)))
  refine Xdk X7r (kx:=((p.1:Int),(p.2:Int))) (a:=true) rfl rfl rfl rfl mp1 (by unfold okII Xai;constructor<;>simp<;>omega) (by unfold maxLen;omega) (.inl rfl) (λw22 x22 xs22 mp1_n=>?_)
  replace hL:=hL.mod x22 (by first|exact(λk hk e=>mp1.ne_own hL (hk.trans (congrArg some e)))|exact λe=>mp1.ne_blk hL e|assumption|omega)
  replace hM:=hM.mod x22 (by first|exact(λk hk e=>mp1.ne_own hM (hk.trans (congrArg some e)))|exact λe=>mp1.ne_blk hM e|assumption|omega)
  replace m2:=m2.mod x22 (by first|exact(λk hk e=>mp1.ne_own m2 (hk.trans (congrArg some e)))|exact λe=>mp1.ne_blk m2 e|assumption|omega)
  replace hP:=hP.mod x22 (by first|exact(λk hk e=>mp1.ne_own hP (hk.trans (congrArg some e)))|exact λe=>mp1.ne_blk hP e|assumption|omega)
  replace hx:=hx.own x22 (λi hi=>by have hi2:i=b1:=hi;subst hi2;omega)
  replace mp1:=mp1_n
  refine de Z25 (wr (pa rfl rfl (dm (Xae (?_)))))
  exact⟨(k+1,_),zz4,⟨hx,hL,hM,m2,hP,by omega,mp1⟩,by simp only [];omega⟩
 refine Xah (Z21 _ _ (ws λ_ Z27=>wr (dm (da (da (de Z27 (Xad ?_)))))))
 refine rt ?_
 have hl0:l≠[]:=λe=>by rw[e]at hl1;simp at hl1
 have hm0:Xdp (Xb9 l)≠[]:=λe=>by have h9:=Xck (Xb9 l);rw[e]at h9;unfold Xcn at h9;simp at h9;omega
 exact⟨_,rfl,hx,b2,vl,vM,rfl,⟨⟨_,m2⟩,hL.arr ir9,hM.arr ir9,hb⟩,λk9 h9=>by
  rcases h9 with h9|h9|h9
  ·omega
  ·have:=(hL.base_ge hl0).1;omega
  ·have:=(hM.base_ge hm0).1;omega⟩
theorem Xgs {l:List Cell}{k:Nat}{c:Cell}{frm to:Str}(h:l[k]?=some c):scan (l.take (k+1)) frm to=if Xds frm to c=true then scan (l.take k) frm to++[c]else scan (l.take k) frm to:=by
 obtain⟨hk,rfl⟩:=List.getElem?_eq_some_iff.1 h
 rw[List.take_succ_eq_append_getElem hk]
 unfold scan
 rw[List.filter_append]
 by_cases hi:Xds frm to l[k]=true
 ·rw[if_pos hi];simp [hi]
 ·rw[if_neg hi];simp [hi]
theorem Xm5 (l:List Cell)(k:Nat)(frm to:Str):(scan (l.take k) frm to).length≤l.length:=by
 have h1:=List.length_filter_le (Xds frm to) (l.take k)
 have h2:(l.take k).length≤l.length:=List.length_take_le' ..
 exact Nat.le_trans h1 h2
theorem Xh9 {c:Cell}{frm to:Str}(h:(!Op.bytesLess c.key frm)=true)(e:to=[]):Xds frm to c=true:=by simp [Xds,sLt,h,e]
theorem Xgt {c:Cell}{frm to:Str}(h:(!Op.bytesLess c.key frm)=true)(e:Op.bytesLess c.key to=true):Xds frm to c=true:=by simp [Xds,sLt,h,e]
theorem Xia {c:Cell}{frm to:Str}(h:(!Op.bytesLess c.key frm)=false):¬ Xds frm to c=true:=by simp [Xds,sLt,h]
theorem Xib {c:Cell}{frm to:Str}(e:¬ to=[])(h:Op.bytesLess c.key to=false):¬ Xds frm to c=true:=by simp [Xds,sLt,h,e]
def weight (l:List Cell):Nat:=(l.map λc=>c.key.length+c.val.length).sum
def light (l:List Cell):Prop:=l.length≤201∧weight l≤6000
theorem Xqx {l:List Cell}(h:Xdt l=true){i j:Nat}(hij:i<j)(hj:j<l.length):less (cAt l i) (cAt l j)=true:=by
 induction j with
 | zero=>omega
 | succ j ih=>
  have e1:l[j]?=some l[j]:=List.getElem?_eq_getElem om9
  have e2:l[j+1]?=some l[j+1]:=List.getElem?_eq_getElem hj
  have h1:=Xqi h e1 e2
  rw[←cAt_at e1,←cAt_at e2]at h1
  by_cases e:i=j
  ·rw[e];exact h1
  ·exact Xde (ih om9 om9) h1
theorem first_none {l:List Cell}{key:Str}{seq:Int}(h:∀c∈l,¬ (c.key=key∧c.seq≤seq)):first l key seq=none:=by
 unfold first
 rw[List.find?_eq_none]
 intro c hc
 have:=h c hc
 simp only [Bool.and_eq_true,decide_eq_true_eq]
 exact this
theorem first_at {l:List Cell}{key:Str}{seq:Int}{i:Nat}{c:Cell}(hc:l[i]?=some c)(h1:c.key=key)(h2:c.seq≤seq)(h:∀j,j<i->¬ ((cAt l j).key=key∧(cAt l j).seq≤seq)):first l key seq=some c:=by
 obtain⟨hi,rfl⟩:=List.getElem?_eq_some_iff.1 hc
 unfold first
 rw[List.find?_eq_some_iff_getElem]
 refine⟨by simp [h1,h2],i,hi,rfl,λj hj=>?_⟩
 have e:l[j]?=some l[j]:=List.getElem?_eq_getElem om9
 have:=h j hj
 rw[cAt_at e]at this
 simp only [Bool.not_eq_true',Bool.and_eq_false_iff,decide_eq_false_iff_not]
 by_cases e2:l[j].key=key
 ·exact .inr (λe3=>this ⟨e2,e3⟩)
 ·exact .inl e2
theorem Xvj {a:Cell}{key:Str}{seq:Int}(h:less a ⟨key,[],false,seq⟩=true):¬ (a.key=key∧a.seq≤seq):=by
 rw[Xbq]at h
 rintro ⟨e,h2⟩
 rcases h with h|⟨_,h⟩
 ·rw[e,Xa1]at h;cases h
 ·simp only at h;omega
theorem Xvk {l:List Cell}(hr:Xdt l=true){key:Str}{seq:Int}{i:Nat}(h1:∀j,j<i->less (cAt l j) ⟨key,[],false,seq⟩=true)(h2:i<l.length->less (cAt l i) ⟨key,[],false,seq⟩=false)(h3:i=l.length∨(i<l.length∧(cAt l i).key≠key)):first l key seq=none:=by
 refine first_none λc hc=>?_
 obtain⟨j,hj⟩:=List.mem_iff_getElem?.1 hc
 have hjl:=(List.getElem?_eq_some_iff.1 hj).1
 rw[←cAt_at hj]
 by_cases e:j<i
 ·exact Xvj (h1 j e)
 ·rcases h3 with h3|⟨h3,h4⟩
  ·omega
  ·rintro ⟨e2,e3⟩
   have hk:=h2 h3
   have hgt:sLt key (cAt l i).key=true:=by
    rcases Xbp key (cAt l i).key with h|h|h
    ·exact absurd h.symm h4
    ·exact h
    ·have:less (cAt l i) ⟨key,[],false,seq⟩=true:=(Xbq _ _).2 (.inl h)
     rw[this]at hk;cases hk
   by_cases e4:j=i
   ·rw[e4]at e2;exact h4 e2
   ·have h5:=Xqx hr (show i<j by omega) hjl
    rw[Xbq]at h5
    rcases h5 with h5|⟨h5,_⟩
    ·rw[e2]at h5
     rw[Xbx hgt]at h5;cases h5
    ·rw[e2]at h5;exact h4 h5
theorem X4q {l:List Cell}{key:Str}{seq:Int}{i:Nat}{c:Cell}(hc:l[i]?=some c)(h1:∀j,j<i->less (cAt l j) ⟨key,[],false,seq⟩=true)(h2:less c ⟨key,[],false,seq⟩=false)(h3:c.key=key):first l key seq=some c:=by
 refine first_at hc h3 ?_ λj hj=>Xvj (h1 j hj)
 have n:¬ less c ⟨key,[],false,seq⟩=true:=by rw[h2];decide
 rw[Xbq,not_or]at n
 have n2:=n.2
 simp only [h3,true_and]at n2
 omega
theorem Xze {l:List Cell}{key:Str}{seq:Int}(h:mayS (Xdp (Xb9 l)) key=false):first l key seq=none:=by
 refine first_none λc hc e=>?_
 have:=Xyu (Xu7 hc)
 rw[e.1,h]at this
 cases this
theorem X4r {P:Program}{E:Env}{dd:Option Tmp}{ty:TypeId}{pos:String}{af:Array Edge}{g:Option (Nat×Bool)}{x y:Operand}{T U:TypeId}{u:Nat}{ky:IntKind}(hx:ev E x=.int .u64 u)(hy:ev E y=.int ky 1):PV P ⟨dd,.binOp .shr T x y U,ty,pos,af,g⟩ E (.int .u64 (u / 2:Nat)):=by
 have:=Xj5 (P:=P) (dd:=dd) (ty:=ty) (pos:=pos) (af:=af) (g:=g) (T:=T) (U:=U) hx hy dc9
 rwa [show((u:Int)).fdiv (2 ^ min (1:Int).toNat IntKind.u64.bits)=((u / 2:Nat):Int) by
  rw[show(2:Int) ^ min (1:Int).toNat IntKind.u64.bits=2 by decide,Int.fdiv_eq_ediv_of_nonneg _ om9];omega]at this
theorem Xzf (n f:Nat)(cs:List Value)(p:Nat->Bool)(w:World)(hn:n≤1000000)(hcb:Xbw Tryz.prog f=true)(hc:∀w2,Ext w w2->∀i,i<n->Calls Tryz.prog f ([I ↑i]++cs).toArray w2 (Pure w2 (B (p i))))(hmo:∀i j,i≤j->j<n->p i=true->p j=true) :
  Calls Tryz.prog 256 [I ↑n,fnC f cs].toArray w (Gives w (λu _=>∃i:Nat,u=I ↑i∧i≤n∧(∀j,j<i->p j=false)∧(i<n->p i=true))):=by
 refine cw Tryz.func256 ?_
 have hx:=Ext.refl w
 refine ws λ_ Z1=>wr (da (de Z1 (ws λ_ Z2=>wr (dm (da (da (de Z2 (ws λ_ Z3=>Xab ?_))))))))
 refine Xaj (G:=Nat×Nat) (λ(lo,hi)=>[(1,fnC f cs),(4,I 0),(5,I ↑lo),(6,I ↑hi)]) (λ(lo,hi) w'=>Ext w w'∧lo≤hi∧hi≤n∧(∀j,j<lo->p j=false)∧(hi<n->p hi=true)) (λ(lo,hi)=>hi-lo) (0,n) ?_ ?_ ?_
 ·exact zz4
 ·exact⟨hx,Nat.zero_le _,Nat.le_refl _,(λj h=>by omega),(λh=>by omega)⟩
 intro X1 g1 w1 hF1
 obtain⟨lo,hi⟩:=g1
 clear hx
 obtain⟨hx,h1,h2,h3,h4⟩:=hF1
 refine ws λ_ Z4=>ws λ_ Z5=>wr (dm (dm ?_))
 refine dp (Xaf rfl rfl) (de Z5 (wi (λc1=>?_) λc1=>?_))
 ·refine Xaa (Z4 _ _ (Xab (ws λ_ Z6=>wr (dm (dm ?_)))))
  refine pa rfl rfl (Xa2 (v:=.int .u64 ↑(lo+hi)) rfl (Xdl (n:=lo+hi) (k:=.i64) om9 rfl kr9 kr9) rfl (dp (X4r (u:=lo+hi) rfl rfl) (dp (Xdy (n:=(lo+hi) / 2) om9 rfl kr9 kr9) (da (de Z6 (ws λ_ Z7=>wr (dm (dm ?_))))))))
  refine Xh6 (vs:=[I ↑((lo+hi) / 2)]) (cs:=cs) rfl rfl hcb (hc _ hx ((lo+hi) / 2) om9) rfl RX.all (λw2 x2=>?_)
  replace hx:=hx.trans x2
  refine dn (de Z7 ?_)
  refine wc (λc2=>?_) λc2=>?_
  ·refine wr (dm ?_)
   refine pa rfl rfl (da (Xae (?_)))
   refine⟨((lo+hi) / 2+1,hi),zz4,⟨hx,by omega,h2,λj hj=>?_,h4⟩,by simp only [];omega⟩
   cases e:p j with
   | false=>rfl
   | true=>have h9:=hmo j ((lo+hi) / 2) om9 om9 e;rw[h9]at c2;simp at c2
  refine wr (dm (da (Xae (?_))))
  refine⟨(lo,(lo+hi) / 2),zz4,⟨hx,by omega,by omega,h3,λ_=>by simpa using c2⟩,by simp only [];omega⟩
 refine Xah (Z3 _ _ (ws λ_ Z8=>wr (dm (da (de Z8 (Xad ?_))))))
 refine ro ?_
 exact⟨_,rfl,hx,lo,rfl,by omega,h3,λh=>by rw[show lo=hi by omega];exact h4 om9⟩
theorem X9r (bt:Nat)(vl vb:Value)(l:List Cell)(key:Str)(seq:Int)(i b3 b4 b5:Nat)(w:World)(hT:TblE bt vl vb l w)(h3:Blk w b3 [ptr bt 0] 102)(h4:Blk w b4 [S key] 9)(h5:Blk w b5 [I seq] 3)(hi:i<l.length) :
  Calls Tryz.prog 257 [I ↑i,ptr b3 0,ptr b4 0,ptr b5 0].toArray w (Pure w (B (!less (cAt l i) ⟨key,[],false,seq⟩))):=by
 refine cw Tryz.func257 ?_
 have hx:=Ext.refl w
 obtain⟨⟨vp,hm⟩,ha,hb,hok⟩:=hT
 obtain⟨hl1,hl2,hE,hen⟩:=Xei hok
 obtain⟨hAll,hRis⟩:=Xfu.1 hE
 obtain⟨c,hk⟩:∃c,l[i]?=some c:=⟨_,List.getElem?_eq_getElem hi⟩
 refine ws λ_ Z1=>wr (da (de Z1 (ws λ_ Z2=>?_)))
 refine Xaq (R:=Ext) Ext.refl (λ_ _ _=>Ext.trans) kr9 [0,3,6,7,8] [(0,.l,false),(1,.p,false),(2,.p,false),(3,.l,false),(4,.p,false),(5,.p,false),(6,.l,false),(7,.l,false),(8,.l,false),(9,.p,false),(10,.x,false),(11,.p,false),(12,.p,false)] rfl kr9 kr9 (λw1 ew1=>?_)
 have x1:=drewx ew1
 clear ew1
 replace hx:=hx.trans x1
 refine dL rfl (λ_ hR=>((h3.ext (hx.trans hR)).at rfl)) (dz rfl (df 0 rfl (dL rfl (λ_ hR=>((hm.ext (hx.trans hR)).at rfl)) (dm ?_))))
 refine di 79 4 (ha.ext hx).sl rfl ((ha.ext hx).lt hk) (D_l rfl (λw' hR=>Xac kr9 rfl rfl (((ha.ext hx).ext hR).row hk)) (dL rfl (λ_ hR=>((h4.ext (hx.trans hR)).at rfl)) (dL rfl (λ_ hR=>((h5.ext (hx.trans hR)).at rfl)) (db (zs:=[S [],S [],B false,.int .i64 0]) (pl:=[(0,1),(1,1),(2,1),(3,1)]) (pv:=[(0,_),(3,_)]) (cs:=[_,S [],B false,_]) ?_))))
 refine cP (Xkf c ⟨key,[],false,seq⟩ _) RX.ext λw2 x2=>?_
 replace hx:=hx.trans x2
 refine dn (da (de Z2 (Xad ?_)))
 refine ro ?_
 rw[cAt_at hk]
 exact⟨rfl,hx⟩
theorem X9s (bt:Nat)(vl vb:Value)(l:List Cell)(key:Str)(seq:Int)(w:World)(hT:TblE bt vl vb l w) :
  Calls Tryz.prog 186 [ptr bt 0,S key,I seq].toArray w (Gives w (λu _=>∃i:Nat,u=I ↑i∧i≤l.length∧(∀j,j<i->less (cAt l j) ⟨key,[],false,seq⟩=true)∧(i<l.length->less (cAt l i) ⟨key,[],false,seq⟩=false))):=by
 refine cw Tryz.func186 ?_
 have hx:=Ext.refl w
 have hT0:=hT
 obtain⟨⟨vp,hm⟩,ha,hb,hok⟩:=hT
 obtain⟨hl1,hl2,hE,hen⟩:=Xei hok
 obtain⟨hAll,hRis⟩:=Xfu.1 hE
 refine ws λ_ Z1=>wr (Xbf rfl rfl rfl RX.all (λb1 w1 e1 x1 m1=>?_))
 have g1:=hx.ge e1
 replace hx:=hx.trans x1
 refine Xbf rfl rfl rfl RX.all (λb2 w2 e2 x2 m2=>?_)
 have g2:=hx.ge e2
 have n2_1:=m1.ltb e2
 replace m1:=m1.ext x2
 replace hx:=hx.trans x2
 refine Xbf rfl rfl rfl RX.all (λb3 w3 e3 x3 m3=>?_)
 have g3:=hx.ge e3
 have n3_1:=m1.ltb e3
 have n3_2:=m2.ltb e3
 replace m1:=m1.ext x3
 replace m2:=m2.ext x3
 replace hx:=hx.trans x3
 refine da (de Z1 (ws λ_ Z2=>wr ?_))
 refine dl rfl (m1.at rfl) (dz rfl (df 0 rfl (dl rfl ((hm.ext hx).at rfl) (dv 79 4 (ha.ext hx).sl (dp (Xdn rfl) ?_)))))
 refine Xog rfl kr9 (Xzf l.length 257 [ptr b1 0,ptr b2 0,ptr b3 0] (λi=>!less (cAt l i) ⟨key,[],false,seq⟩) _ om9 kr9 (λw2 x2 i hi=>X9r bt vl vb l key seq i _ _ _ w2 (hT0.ext (hx.trans x2)) (m1.ext x2) (m2.ext x2) (m3.ext x2) hi) (λi j hij hj h=>by
  cases e:less (cAt l j) ⟨key,[],false,seq⟩with
  | false=>rfl
  | true=>
   by_cases e2:i=j
   ·rw[e2,e]at h;simp at h
   ·rw[Xde (Xqx hRis (show i<j by omega) hj) e]at h;simp at h)) rfl RX.all (λu4 w4 x4 hf4=>?_)
 have hsz4:=hx.size
 replace hx:=hx.trans x4
 obtain⟨i,rfl,hi1,hi2,hi3⟩:=hf4
 refine da (de Z2 (Xad ?_))
 refine ro ?_
 exact⟨_,rfl,hx,i,rfl,hi1,λj hj=>by simpa using hi2 j hj,λh=>by simpa using hi3 h⟩
theorem X1m (bt:Nat)(vl vb:Value)(l:List Cell)(key:Str)(seq:Int)(w:World)(hT:TblE bt vl vb l w)(hkl:key.length≤1000000000) :
  Calls Tryz.prog 114 [ptr bt 0,S key,I seq].toArray w (Pure w (.tuple #[((first l key seq).getD Cell.zero).v,B (first l key seq).isSome])):=by
 refine cw Tryz.func114 ?_
 have hx:=Ext.refl w
 have hT0:=hT
 obtain⟨⟨vp,hm⟩,ha,hb,hok⟩:=hT
 obtain⟨hl1,hl2,hE,hen⟩:=Xei hok
 obtain⟨hAll,hRis⟩:=Xfu.1 hE
 refine ws λ_ Z1=>wr (Xan (cs:=[S [],S [],B false,.int .i64 0]) rfl kr9 RX.all (λb1 w1 e1 x1 m1=>?_))
 have g1:=hx.ge e1
 replace hx:=hx.trans x1
 refine da (de Z1 (ws λ_ Z2=>ws λ_ Z3=>wr (dm ?_)))
 refine dp (Xa4 kr9 rfl rfl) (dm ?_)
 refine Xag 11 rfl (λc1=>?_) (λc1=>?_)
 ·exact absurd c1 sp9
 refine dm ?_
 refine dz rfl (df 2 rfl (dl rfl ((hm.ext hx).at rfl) (dm ?_)))
 refine cP (X61 (Xdp (Xb9 l)) vb key _ (hb.ext hx) (by rw[Xck];have:=Xcl l l.length;unfold Xcn Xb9;omega) hkl) RX.all λw2 x2=>?_
 replace m1:=m1.ext x2
 replace hx:=hx.trans x2
 refine dn ?_
 refine dk' (de Z3 ?_)
 refine wc (λc2=>?_) λc2=>?_
 ·refine ws λ_ Z4=>wr (db (zs:=[S [],S [],B false,.int .i64 0]) (pl:=[(0,1),(1,1),(2,1),(3,1)]) (pv:=[]) (cs:=[S [],S [],B false,.int .i64 0]) ?_)
  refine stA m1 (λw3 x3 xs3 m1=>?_)
  try dsimp only [Xal,List.set,List.take,List.drop]at m1
  replace hx:=hx.o1 x3
  refine da (de Z4 (Xad ?_))
  refine Xau (u:=?v11) rfl rfl rfl rfl kr9 rfl m1.row ?h11 ?k11
  case h11=>conv=>lhs;whnf
  rw[Xze (by simpa using c2)]
  exact⟨rfl,hx⟩
 refine Xaa (Z2 _ _ (ws λ_ Z5=>wr (dm (dm (dm ?_)))))
 refine cG (X9s bt vl vb l key seq _ (hT0.ext hx)) RX.all λu4 w4 x4 hf4=>?_
 have hsz4:=hx.size
 replace m1:=m1.ext x4
 replace hx:=hx.trans x4
 obtain⟨i,rfl,hi1,hi2,hi3⟩:=hf4
 refine da (de Z5 (ws λ_ Z6=>ws λ_ Z7=>wr (dm (dm ?_))))
 refine dz rfl (df 0 rfl (dl rfl ((hm.ext hx).at rfl) (dv 79 4 (ha.ext hx).sl (dp (Xa9 rfl rfl) (dm ?_)))))
 refine Xag 32 rfl (λc3=>?_) (λc3=>?_)
 ·iterate 10 refine dk ?_
  refine dk' (de Z7 ?_)
  refine W_t rfl (ws λ_ Z8=>wr (db (zs:=[S [],S [],B false,.int .i64 0]) (pl:=[(0,1),(1,1),(2,1),(3,1)]) (pv:=[]) (cs:=[S [],S [],B false,.int .i64 0]) ?_))
  refine stA m1 (λw5 x5 xs5 m1=>?_)
  try dsimp only [Xal,List.set,List.take,List.drop]at m1
  replace hx:=hx.o1 x5
  refine da (de Z8 (Xad ?_))
  refine Xau (u:=?v23) rfl rfl rfl rfl kr9 rfl m1.row ?h23 ?k23
  case h23=>conv=>lhs;whnf
  rw[Xvk hRis hi2 hi3 (.inl om9)]
  exact⟨rfl,hx⟩
 have hil:i<l.length:=by omega
 obtain⟨c,hk⟩:∃c,l[i]?=some c:=⟨_,List.getElem?_eq_getElem hil⟩
 have hi9:=hi3 hil
 rw[cAt_at hk]at hi9
 refine dm ?_
 refine dz rfl (df 0 rfl (dl rfl ((hm.ext hx).at rfl) (dm ?_)))
 refine di 79 4 (ha.ext hx).sl rfl ((ha.ext hx).lt hk) (df 0 rfl (dl rfl (((ha.ext hx).row hk).at rfl) (dm ?_)))
 refine dp (Xj4 rfl rfl) (dk' (de Z7 ?_))
 refine wi (λc4=>?_) λc4=>?_
 ·refine ws λ_ Z9=>wr (db (zs:=[S [],S [],B false,.int .i64 0]) (pl:=[(0,1),(1,1),(2,1),(3,1)]) (pv:=[]) (cs:=[S [],S [],B false,.int .i64 0]) ?_)
  refine stA m1 (λw6 x6 xs6 m1=>?_)
  try dsimp only [Xal,List.set,List.take,List.drop]at m1
  replace hx:=hx.o1 x6
  refine da (de Z9 (Xad ?_))
  refine Xau (u:=?v31) rfl rfl rfl rfl kr9 rfl m1.row ?h31 ?k31
  case h31=>conv=>lhs;whnf
  rw[Xvk hRis hi2 hi3 (.inr ⟨hil,by rw[cAt_at hk];exact c4⟩)]
  exact⟨rfl,hx⟩
 refine Xaa (Z6 _ _ (ws λ_ Z10=>wr (dm ?_)))
 refine dz rfl (df 0 rfl (dl rfl ((hm.ext hx).at rfl) (dm ?_)))
 refine di 79 4 (ha.ext hx).sl rfl ((ha.ext hx).lt hk) (dq (Xac kr9 rfl rfl ((ha.ext hx).row hk)) (stA m1 (λw7 x7 xs7 m1=>?_)))
 try dsimp only [Xal,List.set,List.take,List.drop]at m1
 replace hx:=hx.o1 x7
 refine da (de Z10 (Xad ?_))
 refine Xau (u:=?v36) rfl rfl rfl rfl kr9 rfl m1.row ?h36 ?k36
 case h36=>conv=>lhs;whnf
 rw[X4q hk hi2 hi9 (Decidable.of_not_not c4)]
 exact⟨rfl,hx⟩
theorem X4s (bt:Nat)(vl vb:Value)(l:List Cell)(frm to:Str)(w:World)(hT:TblE bt vl vb l w) :
  Calls Tryz.prog 49 [ptr bt 0,S frm,S to].toArray w (Gives w (λv' w'=>Vc.Own Cell.cs 4 79 w.heap.size w' v' (scan l frm to))):=by
 refine cw Tryz.func49 ?_
 have hx:=Ext.refl w
 have hT0:=hT
 obtain⟨⟨vp,hm⟩,ha,hb,hok⟩:=hT
 obtain⟨hl1,hl2,hE,hen⟩:=Xei hok
 obtain⟨hAll,hRis⟩:=Xfu.1 hE
 refine ws λ_ Z1=>wr (da (de Z1 (ws λ_ Z2=>ws λ_ Z3=>wr (dm ?_))))
 refine dp (Xa4 kr9 rfl rfl) (de Z3 (wi (λc1=>?_) λc1=>?_))
 ·exact absurd c1 sp9
 refine Xaa (Z2 _ _ (ws λ_ Z4=>wr (da (de Z4 (ws λ_ Z5=>ws λ_ Z6=>wr (dm ?_))))))
 refine dz rfl (df 0 rfl (dl rfl ((hm.ext hx).at rfl) (dv 79 4 (ha.ext hx).sl (dm (de Z6 (Xab ?_))))))
 refine Xaj (G:=Nat×Value) (λ(k,vm)=>[(1,S frm),(2,S to),(6,.slice none 0 0),(7,vm),(15,vl),(16,I ↑l.length),(17,I ↑k)]) (λ(k,vm) w'=>Ext w w'∧k≤l.length∧Vc.Own Cell.cs 4 79 w.heap.size w' vm (scan (l.take k) frm to)) (λ(k,vm)=>l.length-k) (0,.slice none 0 0) ?_ ?_ ?_
 ·exact zz7
 ·exact⟨hx,Nat.zero_le _,Vc.Own.nil⟩
 intro X1 g1 w1 hF1
 obtain⟨k,vm⟩:=g1
 clear hx
 obtain⟨hx,hk1,ho⟩:=hF1
 refine ws λ_ Z7=>wr (dp (Xaf rfl rfl) (de Z7 (ws λ_ Z8=>wi (λc2=>?_) λc2=>?_)))
 ·obtain⟨c,hk⟩:∃c,l[k]?=some c:=gtE
  have hlen:=Xm5 l k frm to
  refine Xaa (Z8 _ _ (ws λ_ Z9=>Xab (ws λ_ Z10=>wr (di 79 4 (ha.ext hx).sl rfl ((ha.ext hx).lt hk) (dq (Xac kr9 rfl rfl ((ha.ext hx).row hk)) (Xan (cs:=[S [],S [],B false,.int .i64 0]) rfl kr9 RX.all (λb1 w2 e1 x2 m1=>?_)))))))
  have g1:=hx.ge e1
  have o1_ho:=ho.ltb e1
  replace ho:=ho.ext x2
  replace hx:=hx.trans x2
  refine stA m1 (λw3 x3 xs3 m1=>?_)
  try dsimp only [Xal,List.set,List.take,List.drop]at m1
  try replace ho:=ho.mod x3 (by first|assumption|(intro k hk h;have h1:=(ho.lt k hk).1;have h2:k=b1:=h;omega)|(intro k hk h;have h1:=o1_ho k hk;have h2:k=b1:=h;omega)|(intro h;have h2:_=b1:=h;omega)|(intro hl h;have h1:=a1_ho hl;have h2:_=b1:=h;omega))
  replace hx:=hx.o1 x3
  refine de Z10 (ws λ_ Z11=>wr (df 0 rfl (dl rfl (m1.at rfl) (dm ?_))))
  refine dp (Xs2 rfl rfl) (dm ?_)
  refine Xb7 25 rfl (λc3=>?_) (λc3=>?_)
  ·refine dm ?_
   refine dp (Xj3 rfl rfl) (dm ?_)
   refine Xag 28 rfl (λc4=>?_) (λc4=>?_)
   ·refine dk (dk (dk (dk (dk' ?_))))
    refine dk' (de Z11 ?_)
    refine W_t rfl (wr (dm ?_))
    refine dq (Xac (k:=4) kr9 rfl rfl m1.row) (li (e:=79) (sz:=4) (zs:=[S [],S [],B false,.int .i64 0]) (pv:=[(0,.agg ⟨[_,_,_,_]⟩)]) (cs:=[_,_,_,_]) RX.all (λb2 w4 e2 x4 m2=>?_))
    have g2:=hx.ge e2
    have n2_1:=m1.ltb e2
    have o2_ho:=ho.ltb e2
    replace ho:=ho.ext x4
    replace m1:=m1.ext x4
    replace hx:=hx.trans x4
    refine Xa6 (lx:=[c]) (e:=79) (sz:=4) (by':=48) rfl kr9 kr9 ir9 ho (m2.arr (enc:=Cell.cs) (sz:=4) (l:=[c]) rfl ir9 rfl (Nat.le_of_ble_eq_true rfl)) rfl rfl (by intro x _ u hu;simp at hu;rcases hu with rfl|rfl|rfl|rfl<;>rfl) (by simp;omega) dc9 hx.size (.inl rfl) (λvm2 w5 ho_n x5=>?_)
    try replace m1:=m1.mod x5 (by first|(intro h;have h2:b1=b1:=Option.some.inj h;omega)|(intro h;have h1:=(ho.lt _ h).1;omega)|(intro h;have h1:=o1_ho _ h;omega))
    replace hx:=hx.own x5 (λi hi=>(ho.lt i hi).1)
    replace ho:=ho_n
    clear m2
    refine da (de Z9 (wr ?_))
    refine pa rfl rfl (dm (Xae (?_)))
    refine⟨(k+1,_),zz7,⟨hx,by omega,?_⟩,by simp only [];omega⟩
    rw[Xgs hk]
    first|(rw[if_pos (Xh9 ‹_› ‹_›)];exact ho)|(rw[if_pos (Xgt ‹_› ‹_›)];exact ho)|(rw[if_neg (Xia ‹_›)];exact ho)|(rw[if_neg (Xib ‹_› ‹_›)];exact ho)
   refine df 0 rfl (dl rfl (m1.at rfl) (dm ?_))
   refine dp (Xpw rfl rfl) (dk' ?_)
   refine dk' (de Z11 ?_)
   refine wc (λc5=>?_) λc5=>?_
   ·refine wr (dm ?_)
    refine dq (Xac (k:=4) kr9 rfl rfl m1.row) (li (e:=79) (sz:=4) (zs:=[S [],S [],B false,.int .i64 0]) (pv:=[(0,.agg ⟨[_,_,_,_]⟩)]) (cs:=[_,_,_,_]) RX.all (λb3 w6 e3 x6 m3=>?_))
    have g3:=hx.ge e3
    have o3_ho:=ho.ltb e3
    replace ho:=ho.ext x6
    replace hx:=hx.trans x6
    refine Xa6 (lx:=[c]) (e:=79) (sz:=4) (by':=48) rfl kr9 kr9 ir9 ho (m3.arr (enc:=Cell.cs) (sz:=4) (l:=[c]) rfl ir9 rfl (Nat.le_of_ble_eq_true rfl)) rfl rfl (by intro x _ u hu;simp at hu;rcases hu with rfl|rfl|rfl|rfl<;>rfl) (by simp;omega) dc9 hx.size (.inl rfl) (λvm2 w7 ho_n x7=>?_)
    replace hx:=hx.own x7 (λi hi=>(ho.lt i hi).1)
    replace ho:=ho_n
    clear m3
    refine da (de Z9 (wr ?_))
    refine pa rfl rfl (dm (Xae (?_)))
    refine⟨(k+1,_),zz7,⟨hx,by omega,?_⟩,by simp only [];omega⟩
    rw[Xgs hk]
    first|(rw[if_pos (Xh9 ‹_› ‹_›)];exact ho)|(rw[if_pos (Xgt ‹_› ‹_›)];exact ho)|(rw[if_neg (Xia ‹_›)];exact ho)|(rw[if_neg (Xib ‹_› ‹_›)];exact ho)
   refine Xaa (Z9 _ _ (wr (pa rfl rfl (dm (Xae (?_))))))
   refine⟨(k+1,_),zz7,⟨hx,by omega,?_⟩,by simp only [];omega⟩
   rw[Xgs hk]
   first|(rw[if_pos (Xh9 ‹_› ‹_›)];exact ho)|(rw[if_pos (Xgt ‹_› ‹_›)];exact ho)|(rw[if_neg (Xia ‹_›)];exact ho)|(rw[if_neg (Xib ‹_› ‹_›)];exact ho)
  refine dk (dk (dk (dk (dk (dk (dk (dk (dk' (de Z11 ?_)))))))))
  refine W_f rfl (Xaa (Z9 _ _ (wr (pa rfl rfl (dm (Xae (?_)))))))
  refine⟨(k+1,_),zz7,⟨hx,by omega,?_⟩,by simp only [];omega⟩
  rw[Xgs hk]
  first|(rw[if_pos (Xh9 ‹_› ‹_›)];exact ho)|(rw[if_pos (Xgt ‹_› ‹_›)];exact ho)|(rw[if_neg (Xia ‹_›)];exact ho)|(rw[if_neg (Xib ‹_› ‹_›)];exact ho)
 refine Xah (Z5 _ _ (ws λ_ Z12=>wr (dm (da (de Z12 (Xad ?_))))))
 refine ro ?_
 exact⟨_,rfl,hx,by rw[List.take_of_length_le om9]at ho;exact ho⟩
end Go.Proofs.YtiooodckiddpmaaGreatDoor
namespace Go.Sp
open Go.Vc (Str I S B)
structure Rw where
 key:Str
 val:Str
 del:Bool
deriving DecidableEq
@[reducible] def Rw.cs (r:Rw):List Value:=[S r.key,S r.val,B r.del]
@[reducible] def Rw.v (r:Rw):Value:=.agg ⟨r.cs⟩
def Rw.cell (r:Rw)(seq:Int):Cell:=⟨r.key,r.val,r.del,seq⟩
def rsz (l:List Rw):Nat:=(l.map λr=>r.key.length+r.val.length).sum
def Xb4 (l:List Rw):Int:=if l.length=0 then 1 else if(l.all λr=>isC (r.cell 1))=true then(if 512<l.length∨32768<rsz l then 5 else 0)else 1
theorem Xlf {l:List Rw}{k:Nat}{r:Rw}(h:l[k]?=some r):rsz (l.take (k+1))=rsz (l.take k)+(r.key.length+r.val.length):=by
 unfold rsz
 rw[List.take_add_one,h,List.map_append,List.sum_append];simp
theorem X7t (l:List Rw)(k:Nat):rsz (l.take k)≤rsz l:=by
 have h:=congrArg rsz (List.take_append_drop k l)
 unfold rsz at *
 rw[List.map_append,List.sum_append]at h
 omega
theorem Xm6 {l:List Rw}{k:Nat}{r:Rw}(h:l[k]?=some r):((l.take (k+1)).all λr=>isC (r.cell 1))=(((l.take k).all λr=>isC (r.cell 1)) && isC (r.cell 1)):=by
 rw[List.take_add_one,h,List.all_append];simp
theorem Xm7 {l:List Rw}{k:Nat}{r:Rw}(h:l[k]?=some r)(hc:isC (r.cell 1)=false):Xb4 l=1:=by
 unfold Xb4
 split
 ·rfl
 ·rw[if_neg]
  intro h2
  rw[List.all_eq_true]at h2
  have:=h2 r (List.mem_of_getElem? h)
  rw[hc]at this;cases this
theorem Xvl {l:List Rw}(h:l.length=0):Xb4 l=1:=if_pos h
theorem Xlg {l:List Rw}(h:l.length≠0)(h2:(l.all λr=>isC (r.cell 1))=true)(h3:512<l.length∨32768<rsz l):Xb4 l=5:=by unfold Xb4;rw[if_neg h,if_pos h2,if_pos h3]
theorem Xvm {l:List Rw}(h:l.length≠0)(h2:(l.all λr=>isC (r.cell 1))=true)(h3:¬ (512<l.length∨32768<rsz l)):Xb4 l=0:=by unfold Xb4;rw[if_neg h,if_pos h2,if_neg h3]
theorem Xgu {l:List Rw}(h:Xb4 l=0):1≤l.length∧l.length≤512∧rsz l≤32768∧∀r∈l,isC (r.cell 1)=true:=by
 unfold Xb4 at h
 split at h
 ·simp at h
 ·split at h
  ·rename_i h1 h2
   rw[List.all_eq_true]at h2
   split at h
   ·simp at h
   ·exact⟨by omega,by omega,by omega,h2⟩
  ·simp at h
def rowB (r:Rw):Str:=rowS r.key++(if r.del then numS 1 else numS 0++rowS r.val)
def batS (l:List Rw):Str:=numS l.length++l.flatMap rowB
theorem Xzg (r:Rw):(rowB r).length≤30+(r.key.length+r.val.length):=by
 unfold rowB rowS
 have h1:=Xak r.key.length;have h2:=Xak 1;have h3:=Xak 0;have h4:=Xak r.val.length
 split<;>simp only [List.length_append]<;>omega
theorem Xi9 (l:List Rw):(l.flatMap rowB).length≤30*l.length+rsz l:=by
 induction l with
 | nil=>simp
 | cons r t ih=>
  have:=Xzg r
  have e:rsz (r :: t)=(r.key.length+r.val.length)+rsz t:=by simp [rsz]
  rw[List.flatMap_cons,List.length_append,e,List.length_cons]
  omega
theorem Xhw (l:List Rw)(k:Nat):((l.take k).flatMap rowB).length≤30*l.length+rsz l:=by
 have h1:=Xi9 (l.take k)
 have h2:=X7t l k
 have h3:(l.take k).length≤l.length:=by rw[List.length_take];omega
 omega
def insK (out:List Cell)(c:Cell):List Cell:=if(out.any λx=>decide (x.key=c.key))=true then out else(out.takeWhile λx=>sLt x.key c.key)++c :: (out.dropWhile λx=>sLt x.key c.key)
def Xa8 (l:List Rw)(seq:Int):List Cell:=l.foldr (λr out=>insK out (r.cell seq)) []
def KUp (l:List Cell):Prop:=l.Pairwise λa b=>sLt a.key b.key=true
theorem X4t {out:List Cell}{c:Cell}(h:KUp out):KUp (insK out c):=by
 unfold insK
 split
 ·exact h
 ·rename_i hn
  have hn2:∀x∈out,x.key≠c.key:=λx hx e=>hn (List.any_eq_true.2 ⟨x,hx,by simp [e]⟩)
  have hps:(out.takeWhile λx=>sLt x.key c.key)++(out.dropWhile λx=>sLt x.key c.key)=out:=List.takeWhile_append_dropWhile ..
  have h':KUp ((out.takeWhile λx=>sLt x.key c.key)++(out.dropWhile λx=>sLt x.key c.key)):=by rw[hps];exact h
  have hp:∀x∈(out.takeWhile λx=>sLt x.key c.key),sLt x.key c.key=true:=λx hx=>(List.all_eq_true.1 (List.all_takeWhile (p:=λx=>sLt x.key c.key) (l:=out)) x hx)
  have h2:=List.pairwise_append.1 h'
  have hs:∀x∈(out.dropWhile λx=>sLt x.key c.key),sLt c.key x.key=true:=by
   cases hsu:(out.dropWhile λx=>sLt x.key c.key)with
   | nil=>intro x hx;cases hx
   | cons s r=>
    have hns:sLt s.key c.key=false:=by
     have:=List.head?_dropWhile_not (λx=>sLt x.key c.key) out
     rw[hsu]at this
     simpa using this
    have hso:s∈out:=by rw[←hps,hsu];simp
    have hcs:sLt c.key s.key=true:=by
     rcases Xbp c.key s.key with h|h|h
     ·exact absurd h.symm (hn2 s hso)
     ·exact h
     ·rw[hns]at h;cases h
    intro x hx
    rcases List.mem_cons.1 hx with rfl|hx
    ·exact hcs
    ·have:=h2.2.1
     rw[hsu]at this
     exact Xbg _ _ _ hcs (List.rel_of_pairwise_cons this hx)
  refine List.pairwise_append.2 ⟨h2.1,List.pairwise_cons.2 ⟨hs,h2.2.1⟩,λa ha b hb=>?_⟩
  rcases List.mem_cons.1 hb with rfl|hb
  ·exact hp a ha
  ·exact h2.2.2 a ha b hb
theorem Xja (l:List Rw)(seq:Int):KUp (Xa8 l seq):=by
 induction l with
 | nil=>exact List.Pairwise.nil
 | cons r t ih=>exact X4t ih
theorem Xic {out:List Cell}{c x:Cell} : x∈insK out c↔x∈out∨(x=c∧∀y∈out,y.key≠c.key):=by
 unfold insK
 have hps:(out.takeWhile λx=>sLt x.key c.key)++(out.dropWhile λx=>sLt x.key c.key)=out:=List.takeWhile_append_dropWhile ..
 split
 ·rename_i h
  obtain⟨y,hy,e⟩:=List.any_eq_true.1 h
  exact⟨.inl,λh2=>h2.elim id λh3=>absurd (by simpa using e) (h3.2 y hy)⟩
 ·rename_i hn
  have hn2:∀x∈out,x.key≠c.key:=λx hx e=>hn (List.any_eq_true.2 ⟨x,hx,by simp [e]⟩)
  rw[List.mem_append,List.mem_cons]
  constructor
  ·rintro (h|h|h)
   ·exact .inl (by rw[←hps];exact List.mem_append_left _ h)
   ·exact .inr ⟨h,hn2⟩
   ·exact .inl (by rw[←hps];exact List.mem_append_right _ h)
  ·rintro (h|⟨h,_⟩)
   ·rw[←hps]at h
    rcases List.mem_append.1 h with h|h
    ·exact .inl h
    ·exact .inr (.inr h)
   ·exact .inr (.inl h)
theorem Xhi {l:List Rw}{seq:Int}{c:Cell}(h:c∈Xa8 l seq):∃r∈l,c=r.cell seq:=by
 induction l with
 | nil=>cases h
 | cons r t ih=>
  rcases Xic.1 h with h|⟨h,_⟩
  ·obtain⟨q,hq,e⟩:=ih h
   exact⟨q,List.mem_cons_of_mem _ hq,e⟩
  ·exact⟨r,List.mem_cons_self,h⟩
theorem Xsg {l:List Rw}{seq:Int}{r:Rw}(h:r∈l):∃c∈Xa8 l seq,c.key=r.key:=by
 induction l with
 | nil=>cases h
 | cons q t ih=>
  by_cases e:∃c∈Xa8 t seq,c.key=r.key
  ·obtain⟨c,hc,e⟩:=e
   exact⟨c,Xic.2 (.inl hc),e⟩
  ·rcases List.mem_cons.1 h with rfl|h
   ·exact⟨_,Xic.2 (.inr ⟨rfl,λy hy e2=>e ⟨y,hy,e2⟩⟩),rfl⟩
   ·exact absurd (ih h) e
theorem Xhj (l:List Rw)(seq:Int):(Xa8 l seq).length≤l.length:=by
 induction l with
 | nil=>exact Nat.le_refl _
 | cons r t ih=>
  show(insK (Xa8 t seq) (r.cell seq)).length≤_
  unfold insK
  split
  ·simp;omega
  ·have:=congrArg List.length (List.takeWhile_append_dropWhile (p:=λx:Cell=>sLt x.key (r.cell seq).key) (l:=Xa8 t seq))
   simp only [List.length_append,List.length_cons]at *
   omega
end Go.Sp
namespace Go.Proofs.YtiooodckiddpmaaGreatDoor
open Go.Vc Go.Sp
attribute [local irreducible] W XW Dw DwT
theorem Xgv {r:Rw}(h:isC (r.cell 1)=true):r.key.length≤4096∧r.val.length≤16384∧1≤r.key.length∧(r.del=true->r.val=[]):=by
 have:=Xbk h
 exact⟨this.1,this.2.1,this.2.2.1,this.2.2.2.2.2⟩
theorem X1n {l:List Rw}{k:Nat}{r:Rw}(h:l[k]?=some r):(l.take (k+1)).flatMap rowB=(l.take k).flatMap rowB++rowB r:=by
 rw[Xa0 h,List.flatMap_append];simp
theorem X7u {l:List Rw}{k:Nat}(h:∀r∈l,r.key.length+r.val.length≤1000000000000)(hk:k≤1000000):rsz (l.take k)≤1000000000000*k:=by
 induction k with
 | zero=>simp [rsz]
 | succ k ih=>
  have:=ih om9
  cases e:l[k]? with
  | none=>rw[List.take_add_one,e];simp;omega
  | some r=>rw[Xlf e];have:=h r (List.mem_of_getElem? e);omega
theorem Xvn (r:Rw)(seq:Int)(w:World) :
  Calls Tryz.prog 154 [r.v,I seq].toArray w (Pure w (r.cell seq).v):=by
 refine cw Tryz.func154 ?_
 have hx:=Ext.refl w
 refine ws λ_ Z1=>wr (Xbf rfl rfl rfl RX.all (λb1 w1 e1 x1 m1=>?_))
 have g1:=hx.ge e1
 replace hx:=hx.trans x1
 refine Xan (cs:=[S [],S [],B false,.int .i64 0]) rfl kr9 RX.all (λb2 w2 e2 x2 m2=>?_)
 have g2:=hx.ge e2
 have n2_1:=m1.ltb e2
 replace m1:=m1.ext x2
 replace hx:=hx.trans x2
 refine de Z1 (ws λ_ Z2=>wr (df 0 rfl (dl rfl (m1.at rfl) (df 1 rfl (dl rfl (m1.at rfl) (df 2 rfl (dl rfl (m1.at rfl) (dm ?_))))))))
 refine db (zs:=[S [],S [],B false,.int .i64 0]) (pl:=[(0,1),(1,1),(2,1),(3,1)]) (pv:=[(0,_),(1,_),(2,_),(3,_)]) (cs:=[_,_,_,_]) ?_
 refine stA m2 (λw3 x3 xs3 m2=>?_)
 try dsimp only [Xal,List.set,List.take,List.drop]at m2
 replace hx:=hx.o1 x3
 refine de Z2 (Xad (Xfe (k:=4) rfl rfl rfl kr9 rfl m2.row ?_))
 exact⟨rfl,hx⟩
theorem Xzh (r:Rw)(seq:Int)(w:World) :
  Calls Tryz.prog 37 [r.v,I seq].toArray w (Pure w (r.cell seq).v):=by
 refine cw Tryz.func37 ?_
 have hx:=Ext.refl w
 refine ws λ_ Z1=>wr (Xbf rfl rfl rfl RX.all (λb1 w1 e1 x1 m1=>?_))
 have g1:=hx.ge e1
 replace hx:=hx.trans x1
 refine Xan (cs:=[S [],S [],B false,.int .i64 0]) rfl kr9 RX.all (λb2 w2 e2 x2 m2=>?_)
 have g2:=hx.ge e2
 have n2_1:=m1.ltb e2
 replace m1:=m1.ext x2
 replace hx:=hx.trans x2
 refine de Z1 (ws λ_ Z2=>wr (df 0 rfl (dl rfl (m1.at rfl) (df 1 rfl (dl rfl (m1.at rfl) (df 2 rfl (dl rfl (m1.at rfl) (dm ?_))))))))
 refine db (zs:=[S [],S [],B false,.int .i64 0]) (pl:=[(0,1),(1,1),(2,1),(3,1)]) (pv:=[(0,_),(1,_),(2,_),(3,_)]) (cs:=[_,_,_,_]) ?_
 refine stA m2 (λw3 x3 xs3 m2=>?_)
 try dsimp only [Xal,List.set,List.take,List.drop]at m2
 replace hx:=hx.o1 x3
 refine de Z2 (Xad (Xfe (k:=4) rfl rfl rfl kr9 rfl m2.row ?_))
 exact⟨rfl,hx⟩
theorem X4u (l:List Rw)(v:Value)(w:World)(hv:Arr Rw.cs 3 w v l)(hl:l.length≤1000000) :
  Calls Tryz.prog 78 [v].toArray w (Pure w (I (Xb4 l))):=by
 refine cw Tryz.func78 ?_
 have hx:=Ext.refl w
 refine ws λ_ Z1=>wr (da (de Z1 (ws λ_ Z2=>ws λ_ Z3=>wr (dm ?_))))
 refine dv 48 3 (hv.ext hx).sl (dp (Xa9 rfl rfl) (de Z3 (wi (λc1=>?_) λc1=>?_)))
 ·refine ws λ_ Z4=>wr (da (de Z4 (Xad ?_)))
  refine ro ?_
  refine⟨?_,hx⟩
  rw[Xvl om9]
 refine Xaa (Z2 _ _ (ws λ_ Z5=>wr (da (de Z5 (ws λ_ Z6=>ws λ_ Z7=>wr (dm ?_))))))
 refine dv 48 3 (hv.ext hx).sl (dm (de Z7 (Xab ?_)))
 refine Xaj (G:=Nat×Nat) (λ(k,z)=>[(0,v),(3,I ↑z),(9,v),(10,I ↑l.length),(11,I ↑k)]) (λ(k,z) w'=>Ext w w'∧k≤l.length∧z≤32769∧z=min (rsz (l.take k)) 32769∧((l.take k).all λr=>isC (r.cell 1))=true) (λ(k,z)=>l.length-k) (0,0) ?_ ?_ ?_
 ·exact zz5
 ·exact⟨hx,Nat.zero_le _,by omega,rfl,rfl⟩
 intro X1 g1 w1 hF1
 obtain⟨k,z⟩:=g1
 clear hx
 obtain⟨hx,hk1,hz0,hz,hA⟩:=hF1
 refine ws λ_ Z8=>wr (dp (Xaf rfl rfl) (de Z8 (ws λ_ Z9=>wi (λc2=>?_) λc2=>?_)))
 ·obtain⟨r,hk⟩:∃r,l[k]?=some r:=gtE
  refine Xaa (Z9 _ _ (ws λ_ Z10=>Xab (ws λ_ Z11=>wr (di 48 3 (hv.ext hx).sl rfl ((hv.ext hx).lt hk) (dq (Xac kr9 rfl rfl ((hv.ext hx).row hk)) (Xan (cs:=[S [],S [],B false]) rfl kr9 RX.all (λb1 w2 e1 x2 m1=>?_)))))))
  have g1:=hx.ge e1
  replace hx:=hx.trans x2
  refine stA m1 (λw3 x3 xs3 m1=>?_)
  try dsimp only [Xal,List.set,List.take,List.drop]at m1
  replace hx:=hx.o1 x3
  refine de Z11 (ws λ_ Z12=>ws λ_ Z13=>wr (dq (Xac (k:=3) kr9 rfl rfl m1.row) (cP (Xvn r 1 _) RX.all λw4 x4=>?_)))
  replace m1:=m1.ext x4
  replace hx:=hx.trans x4
  refine cP (X9j (r.cell 1) _) RX.all λw5 x5=>?_
  replace m1:=m1.ext x5
  replace hx:=hx.trans x5
  refine dn (de Z13 ?_)
  refine wc (λc3=>?_) λc3=>?_
  ·refine ws λ_ Z14=>wr (da (de Z14 (Xad ?_)))
   refine ro ?_
   refine⟨?_,hx⟩
   rw[Xm7 hk (by simpa using c3)]
  have hir:isC (r.cell 1)=true:=by simpa using c3
  have hrs:=Xgv hir
  refine Xaa (Z12 _ _ (wr (dm ?_)))
  refine df 0 rfl (dl rfl (m1.at rfl) (dt rfl (pa rfl rfl (df 1 rfl (dl rfl (m1.at rfl) (dt rfl (pa rfl rfl (Xa2 (v:=I ↑(min (z+r.key.length+r.val.length) 32769)) rfl (Xs9 rfl rfl) (by show I _=I _;congr 1;omega) (da (de Z10 (wr ?_)))))))))))
  refine pa rfl rfl (dm (Xae (?_)))
  refine⟨(k+1,min (z+r.key.length+r.val.length) 32769),zz5,⟨hx,by omega,Nat.min_le_right _ _,?_,?_⟩,by simp only [];omega⟩
  ·rw[Xlf hk,hz];omega
  ·rw[Xm6 hk,hA,hir];rfl
 refine Xah (Z6 _ _ (ws λ_ Z15=>ws λ_ Z16=>wr (dm ?_)))
 refine dv 48 3 (hv.ext hx).sl (dp (Xaw rfl rfl) (dm ?_))
 refine Xag 33 rfl (λc4=>?_) (λc4=>?_)
 ·refine dk (dk (dk' (de Z16 ?_)))
  refine W_t rfl (ws λ_ Z17=>wr (da (de Z17 (Xad ?_))))
  refine ro ?_
  rw[List.take_of_length_le om9]at hz hA
  refine⟨?_,hx⟩
  rw[Xlg om9 hA om9]
 refine dm ?_
 refine dp (Xaw rfl rfl) (dk' (de Z16 ?_))
 refine wi (λc5=>?_) λc5=>?_
 ·refine ws λ_ Z18=>wr (da (de Z18 (Xad ?_)))
  refine ro ?_
  rw[List.take_of_length_le om9]at hz hA
  refine⟨?_,hx⟩
  rw[Xlg om9 hA om9]
 refine Xaa (Z15 _ _ (ws λ_ Z19=>wr (da (de Z19 (Xad ?_)))))
 refine ro ?_
 rw[List.take_of_length_le om9]at hz hA
 refine⟨?_,hx⟩
 rw[Xvm om9 hA om9]
theorem Xzi (l:List Rw)(v:Value)(w:World)(hv:Arr Rw.cs 3 w v l)(hl:l.length≤1000000) :
  Calls Tryz.prog 39 [v].toArray w (Gives w (λu w'=>∃vb,u=.tuple #[vb,I (Xb4 l)]∧Vc.Own encB 1 5 w.heap.size w' vb (if Xb4 l=0 then batS l else[]))):=by
 refine cw Tryz.func39 ?_
 have hx:=Ext.refl w
 refine ws λ_ Z1=>wr (da (da (de Z1 (ws λ_ Z2=>ws λ_ Z3=>wr (dm ?_)))))
 refine cP (X4u l v _ (hv.ext hx) hl) RX.all λw1 x1=>?_
 replace hx:=hx.trans x1
 refine da (de Z3 (ws λ_ Z4=>wr (dm ?_)))
 refine dp (Xas rfl rfl) (de Z4 (wi (λc1=>?_) λc1=>?_))
 ·refine ws λ_ Z5=>wr (dm (da (da (de Z5 (Xad ?_)))))
  refine rt ?_
  rw[if_neg c1]
  exact⟨_,rfl,hx,_,rfl,Vc.Own.nil⟩
 have hE:Xb4 l=0:=Decidable.of_not_not c1
 obtain⟨hl1,hl2,hz,hAll⟩:=Xgu hE
 refine Xaa (Z2 _ _ (ws λ_ Z6=>wr (Xan (cs:=[.slice none 0 0]) rfl kr9 RX.all (λb1 w2 e1 x2 m1=>?_))))
 have g1:=hx.ge e1
 replace hx:=hx.trans x2
 refine de Z6 (ws λ_ Z7=>wr (dm ?_))
 refine dv 48 3 (hv.ext hx).sl (li (e:=3) (sz:=1) (zs:=[.int .i64 0]) (pv:=[(0,_)]) (cs:=[_]) RX.all (λb2 w3 e2 x3 m2=>?_))
 have g2:=hx.ge e2
 have n2_1:=m1.ltb e2
 replace m1:=m1.ext x3
 replace hx:=hx.trans x3
 have hWr:Wr w.heap.size b1 (.slice none 0 0) [] w3:=⟨m1,Vc.Own.nil⟩
 refine cD (Xcr w.heap.size b1 (.slice none 0 0) _ [↑l.length] (.slice (some ⟨b2,0,none⟩) 1 1) _ hWr (Nat.le_trans (Nat.le_refl 0:([]:Str).length≤0) om9) hx.size (m2.arr (enc:=Vc.encI) (sz:=1) (l:=[↑l.length]) rfl ir9 rfl sp9) sp9 (λk9 h9 _ e77=>by have e88:b2=k9:=e77;subst e88;exact(h9.elim (λh=>by omega) (λh=>by cases h)))) (.inl rfl) λu4 w4 x4 hf4=>?_
 have hsz4:=hx.size
 replace hx:=hx.own x4 (λi hi=>hWr.ge g1 hi)
 obtain⟨rfl,v1,hWr,hg9⟩:=hf4
 rw[Xsd om9,List.nil_append]at hWr
 have hln16:=trivial
 refine de Z7 (ws λ_ Z8=>ws λ_ Z9=>wr (dm ?_))
 refine dv 48 3 (hv.ext hx).sl (dm (de Z9 (Xab ?_)))
 refine Xaj (G:=Nat×Value) (λ(k,vc)=>[(0,v),(2,.slice none 0 0),(3,I 0),(5,ptr b1 0),(17,v),(18,I ↑l.length),(19,I ↑k)]) (λ(k,vc) w'=>Ext w w'∧k≤l.length∧Wr w.heap.size b1 vc (numS l.length++(l.take k).flatMap rowB) w') (λ(k,vc)=>l.length-k) (0,v1) ?_ ?_ ?_
 ·exact zz7
 ·exact⟨hx,Nat.zero_le _,by simpa using hWr⟩
 intro X5 g5 w5 hF5
 obtain⟨k,vc⟩:=g5
 clear hx hWr
 obtain⟨hx,hk1,hWr⟩:=hF5
 refine ws λ_ Z10=>wr (dp (Xaf rfl rfl) (de Z10 (ws λ_ Z11=>wi (λc2=>?_) λc2=>?_)))
 ·obtain⟨r,hk⟩:∃r,l[k]?=some r:=gtE
  have hrs:=Xgv (hAll r (List.mem_of_getElem? hk))
  have hbl:=Xhw l k
  have hnn:=Xak l.length
  have hln0:(numS l.length++(l.take k).flatMap rowB).length≤60000:=by rw[List.length_append];omega
  refine Xaa (Z11 _ _ (ws λ_ Z12=>Xab (ws λ_ Z13=>wr (di 48 3 (hv.ext hx).sl rfl ((hv.ext hx).lt hk) (dq (Xac kr9 rfl rfl ((hv.ext hx).row hk)) (Xan (cs:=[S [],S [],B false]) rfl kr9 RX.all (λb3 w6 e3 x6 m3=>?_)))))))
  have g3:=hx.ge e3
  have a3_hWr:=hWr.lt
  replace hWr:=hWr.ext x6
  replace hx:=hx.trans x6
  refine stA m3 (λw7 x7 xs7 m3=>?_)
  try dsimp only [Xal,List.set,List.take,List.drop]at m3
  replace hWr:=hWr.mod x7 (λk9 h9 h=>by have h2:k9=b3:=h;subst h2;exact Nat.lt_irrefl _ (Nat.lt_of_lt_of_eq (a3_hWr _ h9) e3.symm))
  replace hx:=hx.o1 x7
  refine de Z13 (ws λ_ Z14=>Xky [.p,.l,.x,.x,.x] rfl (df 0 rfl (dl rfl (m3.at rfl) (Xoj (e:=5) rfl kr9 kr9 kr9 rfl RX.all (λb4 cap4 w8 e4 x8 by4=>?_)))))
  have g4:=hx.ge e4
  have n4_3:=m3.ltb e4
  have a4_hWr:=hWr.lt
  replace hWr:=hWr.ext x8
  replace m3:=m3.ext x8
  replace hx:=hx.trans x8
  refine li (e:=82) (sz:=1) (zs:=[.slice none 0 0]) (pv:=[(0,_)]) (cs:=[_]) RX.all (λb5 w9 e5 x9 m5=>?_)
  have g5:=hx.ge e5
  have n5_3:=m3.ltb e5
  have a5_hWr:=hWr.lt
  replace hWr:=hWr.ext x9
  replace m3:=m3.ext x9
  replace by4:=by4.ext x9
  replace hx:=hx.trans x9
  have hnm:¬ WrS b1 vc b3:=λh9=>(Nat.lt_irrefl b3 (Nat.lt_of_lt_of_eq (a3_hWr _ h9) e3.symm))
  have hlnm:=m3.lt
  refine cD (Xc0 w.heap.size b1 vc _ [(.slice (some ⟨b4,0,none⟩) r.key.length cap4,r.key)] (.slice (some ⟨b5,0,none⟩) 1 1) _ hWr (Nat.le_trans hln0 om9) hx.size (Xc8 m5) (λq h=>by rw[List.mem_singleton.1 h];exact by4) (λq h=>by rw[List.mem_singleton.1 h];exact(show r.key.length≤1000000 by omega)) sp9 (λ_ h9=>(Nat.lt_irrefl b5 (Nat.lt_of_lt_of_eq (a5_hWr _ h9) e5.symm))) (λq h hl h9=>by rw[List.mem_singleton.1 h]at hl h9;exact(Nat.lt_irrefl b4 (Nat.lt_of_lt_of_eq (a4_hWr _ h9) e4.symm)))) (.inl rfl) λu10 w10 x10 hf10=>?_
  have hsz10:=hx.size
  replace m3:=m3.mod x10 hnm
  replace hx:=hx.own x10 (λi hi=>hWr.ge g1 hi)
  obtain⟨rfl,v2,hWr,hg9⟩:=hf10
  rw[row1]at hWr
  have hln27:=Xlc (p:=r.key) (M:=4096) hln0 om9
  replace hnm:=Xy2 hg9 hnm hlnm
  refine de Z14 (ws λ_ Z15=>ws λ_ Z16=>wr (df 2 rfl (dl rfl (m3.at rfl) (de Z16 (wc (λc3=>?_) λc3=>?_)))))
  ·refine ws λ_ Z17=>wr (li (e:=3) (sz:=1) (zs:=[.int .i64 0]) (pv:=[(0,_)]) (cs:=[_]) RX.all (λb6 w11 e6 x11 m6=>?_))
   have g6:=hx.ge e6
   have n6_3:=m3.ltb e6
   have a6_hWr:=hWr.lt
   replace m3:=m3.ext x11
   replace hWr:=hWr.ext x11
   replace hx:=hx.trans x11
   have hlnm:=m3.lt
   refine cD (Xcr w.heap.size b1 v2 _ [((1:Nat):Int)] (.slice (some ⟨b6,0,none⟩) 1 1) _ hWr (Nat.le_trans hln27 om9) hx.size (m6.arr (enc:=Vc.encI) (sz:=1) (l:=[((1:Nat):Int)]) rfl ir9 rfl sp9) sp9 (λk9 h9 _ e77=>by have e88:b6=k9:=e77;subst e88;exact(Nat.lt_irrefl b6 (Nat.lt_of_lt_of_eq (a6_hWr _ h9) e6.symm)))) (.inl rfl) λu12 w12 x12 hf12=>?_
   have hsz12:=hx.size
   replace m3:=m3.mod x12 hnm
   replace hx:=hx.own x12 (λi hi=>hWr.ge g1 hi)
   obtain⟨rfl,v3,hWr,hg9⟩:=hf12
   rw[Xsd om9]at hWr
   have hln31:=trivial
   replace hnm:=Xy2 hg9 hnm hlnm
   refine de Z17 (Xah (Z12 _ _ (wr (pa rfl rfl (dm (Xae (?_)))))))
   refine⟨(k+1,v3),zz7,⟨hx,by omega,?_⟩,by simp only [];omega⟩
   rw[X1n hk,show rowB r=rowS r.key++(if r.del then numS 1 else numS 0++rowS r.val) from rfl,c3]
   simpa only [List.append_assoc,List.append_nil,if_true,if_false,Bool.false_eq_true]using hWr
  refine Xaa (Z15 _ _ (ws λ_ Z18=>wr (li (e:=3) (sz:=1) (zs:=[.int .i64 0]) (pv:=[(0,_)]) (cs:=[_]) RX.all (λb7 w13 e7 x13 m7=>?_))))
  have g7:=hx.ge e7
  have n7_3:=m3.ltb e7
  have a7_hWr:=hWr.lt
  replace m3:=m3.ext x13
  replace hWr:=hWr.ext x13
  replace hx:=hx.trans x13
  have hlnm:=m3.lt
  refine cD (Xcr w.heap.size b1 v2 _ [((0:Nat):Int)] (.slice (some ⟨b7,0,none⟩) 1 1) _ hWr (Nat.le_trans hln27 om9) hx.size (m7.arr (enc:=Vc.encI) (sz:=1) (l:=[((0:Nat):Int)]) rfl ir9 rfl sp9) sp9 (λk9 h9 _ e77=>by have e88:b7=k9:=e77;subst e88;exact(Nat.lt_irrefl b7 (Nat.lt_of_lt_of_eq (a7_hWr _ h9) e7.symm)))) (.inl rfl) λu14 w14 x14 hf14=>?_
  have hsz14:=hx.size
  replace m3:=m3.mod x14 hnm
  replace hx:=hx.own x14 (λi hi=>hWr.ge g1 hi)
  obtain⟨rfl,v3,hWr,hg9⟩:=hf14
  rw[Xsd om9]at hWr
  have hln33:=Xlb (n:=0) hln27
  refine de Z18 (Xky [.p,.l,.x,.x,.x] rfl (df 1 rfl (dl rfl (m3.at rfl) (Xoj (e:=5) rfl kr9 kr9 kr9 rfl RX.all (λb8 cap8 w15 e8 x15 by8=>?_)))))
  have g8:=hx.ge e8
  have n8_3:=m3.ltb e8
  have a8_hWr:=hWr.lt
  replace m3:=m3.ext x15
  replace hWr:=hWr.ext x15
  replace hx:=hx.trans x15
  refine li (e:=82) (sz:=1) (zs:=[.slice none 0 0]) (pv:=[(0,_)]) (cs:=[_]) RX.all (λb9 w16 e9 x16 m9=>?_)
  have g9:=hx.ge e9
  have n9_3:=m3.ltb e9
  have a9_hWr:=hWr.lt
  replace m3:=m3.ext x16
  replace hWr:=hWr.ext x16
  replace by8:=by8.ext x16
  replace hx:=hx.trans x16
  have hlnm:=m3.lt
  refine cD (Xc0 w.heap.size b1 v3 _ [(.slice (some ⟨b8,0,none⟩) r.val.length cap8,r.val)] (.slice (some ⟨b9,0,none⟩) 1 1) _ hWr (Nat.le_trans hln33 om9) hx.size (Xc8 m9) (λq h=>by rw[List.mem_singleton.1 h];exact by8) (λq h=>by rw[List.mem_singleton.1 h];exact(show r.val.length≤1000000 by omega)) sp9 (λ_ h9=>(Nat.lt_irrefl b9 (Nat.lt_of_lt_of_eq (a9_hWr _ h9) e9.symm))) (λq h hl h9=>by rw[List.mem_singleton.1 h]at hl h9;exact(Nat.lt_irrefl b8 (Nat.lt_of_lt_of_eq (a8_hWr _ h9) e8.symm)))) (.inl rfl) λu17 w17 x17 hf17=>?_
  have hsz17:=hx.size
  replace hx:=hx.own x17 (λi hi=>hWr.ge g1 hi)
  obtain⟨rfl,v4,hWr,hg9⟩:=hf17
  rw[row1]at hWr
  have hln38:=trivial
  refine de Z12 (wr (pa rfl rfl (dm (Xae (?_)))))
  refine⟨(k+1,v4),zz7,⟨hx,by omega,?_⟩,by simp only [];omega⟩
  rw[X1n hk,show rowB r=rowS r.key++(if r.del then numS 1 else numS 0++rowS r.val) from rfl,c3]
  simpa only [List.append_assoc,List.append_nil,if_true,if_false,Bool.false_eq_true]using hWr
 have hbl:=Xhw l k
 have hnn:=Xak l.length
 have hln1:(numS l.length++(l.take k).flatMap rowB).length≤60000:=by rw[List.length_append];omega
 refine Xah (Z8 _ _ (ws λ_ Z19=>wr (cG (Xj6 w.heap.size b1 vc _ _ hWr om9) RX.all λvo w18 x18 hB=>?_)))
 have hsz18:=hx.size
 replace hx:=hx.trans x18
 refine da (da (de Z19 (Xad ?_)))
 refine rt ?_
 rw[show k=l.length by omega,List.take_length]at hB
 rw[if_pos hE,hE]
 exact⟨_,rfl,hx,_,rfl,hB.mono om9⟩
theorem Xzj (l:List Rw)(v:Value)(w:World)(hv:Arr Rw.cs 3 w v l)(hl:l.length≤1000000)(hks:∀r∈l,r.key.length+r.val.length≤1000000000000) :
  Calls Tryz.prog 13 [v].toArray w (Pure w (I (Xb4 l))):=by
 refine cw Tryz.func13 ?_
 have hx:=Ext.refl w
 refine ws λ_ Z1=>wr (da (de Z1 (ws λ_ Z2=>ws λ_ Z3=>wr (dm ?_))))
 refine dv 48 3 (hv.ext hx).sl (dp (Xa9 rfl rfl) (de Z3 (wi (λc1=>?_) λc1=>?_)))
 ·refine ws λ_ Z4=>wr (da (de Z4 (Xad ?_)))
  refine ro ?_
  refine⟨?_,hx⟩
  rw[Xvl om9]
 refine Xaa (Z2 _ _ (ws λ_ Z5=>ws λ_ Z6=>wr (da (de Z6 (Xab ?_)))))
 refine Xaj (G:=Nat) (λk=>[(0,v),(3,I ↑k)]) (λk w'=>Ext w w'∧k≤l.length∧((l.take k).all λr=>isC (r.cell 1))=true) (λk=>l.length-k) 0 ?_ ?_ ?_
 ·exact zz2
 ·exact⟨hx,Nat.zero_le _,rfl⟩
 intro X1 g1 w1 hF1
 revert hF1;revert g1;intro k hF1
 clear hx
 obtain⟨hx,hk1,hA⟩:=hF1
 refine ws λ_ Z7=>ws λ_ Z8=>wr (dm (dm ?_))
 refine dv 48 3 (hv.ext hx).sl (dp (Xaf rfl rfl) (de Z8 (wi (λc2=>?_) λc2=>?_)))
 ·obtain⟨r,hk⟩:∃r,l[k]?=some r:=gtE
  refine Xaa (Z7 _ _ (ws λ_ Z9=>Xab (ws λ_ Z10=>wr (dm (dm ?_)))))
  refine di 48 3 (hv.ext hx).sl rfl ((hv.ext hx).lt hk) (dq (Xac kr9 rfl rfl ((hv.ext hx).row hk)) (cP (Xzh r 1 _) RX.all λw2 x2=>?_))
  replace hx:=hx.trans x2
  refine cP (X9k (r.cell 1) _) RX.all λw3 x3=>?_
  replace hx:=hx.trans x3
  refine dn (de Z10 ?_)
  refine wc (λc3=>?_) λc3=>?_
  ·refine ws λ_ Z11=>wr (da (de Z11 (Xad ?_)))
   refine ro ?_
   refine⟨?_,hx⟩
   rw[Xm7 hk (by simpa using c3)]
  have hir:isC (r.cell 1)=true:=by simpa using c3
  refine Xaa (Z9 _ _ (wr (dm ?_)))
  refine pa rfl rfl (da (Xae (?_)))
  refine⟨k+1,zz2,⟨hx,by omega,?_⟩,by omega⟩
  rw[Xm6 hk,hA,hir];rfl
 refine Xah (Z5 _ _ (ws λ_ Z12=>ws λ_ Z13=>wr (dm ?_)))
 refine dv 48 3 (hv.ext hx).sl (dp (Xaw rfl rfl) (de Z13 (wi (λc4=>?_) λc4=>?_)))
 ·refine ws λ_ Z14=>wr (da (de Z14 (Xad ?_)))
  refine ro ?_
  rw[List.take_of_length_le om9]at hA
  refine⟨?_,hx⟩
  rw[Xlg om9 hA om9]
 refine Xaa (Z12 _ _ (ws λ_ Z15=>wr (da (de Z15 (ws λ_ Z16=>ws λ_ Z17=>wr (da (de Z17 (Xab ?_))))))))
 refine Xaj (G:=Nat) (λk=>[(0,v),(4,I ↑(rsz (l.take k))),(5,I ↑k)]) (λk w'=>Ext w w'∧k≤l.length∧(l.all λr=>isC (r.cell 1))=true) (λk=>l.length-k) 0 ?_ ?_ ?_
 ·exact zz3
 ·exact⟨hx,Nat.zero_le _,by rw[List.take_of_length_le om9]at hA;exact hA⟩
 intro X4 g4 w4 hF4
 revert hF4;revert g4;intro k hF4
 clear hx
 obtain⟨hx,hk1,hA⟩:=hF4
 refine ws λ_ Z18=>ws λ_ Z19=>wr (dm (dm ?_))
 refine dv 48 3 (hv.ext hx).sl (dp (Xaf rfl rfl) (de Z19 (wi (λc5=>?_) λc5=>?_)))
 ·obtain⟨r,hk⟩:∃r,l[k]?=some r:=gtE
  have hrk:=hks r (List.mem_of_getElem? hk)
  have hrz:=Xlf hk
  have hrm:=X7u (l:=l) (k:=k) hks om9
  refine Xaa (Z18 _ _ (ws λ_ Z20=>Xab (Xaq (R:=Ext) Ext.refl (λ_ _ _=>Ext.trans) kr9 [5,12] [(0,.p,false),(1,.p,false),(2,.p,false),(3,.p,false),(4,.p,false),(5,.l,false),(6,.p,false),(7,.p,false),(8,.p,false),(9,.p,false),(10,.p,false),(11,.p,false),(12,.l,false),(13,.p,false),(14,.p,false),(15,.p,false)] rfl kr9 kr9 (λw5 ew5=>?_))))
  have x5:=drewx ew5
  clear ew5
  replace hx:=hx.trans x5
  iterate 3 refine dm ?_
  refine di 48 3 (hv.ext hx).sl rfl ((hv.ext hx).lt hk) (df 0 rfl (dL rfl (λ_ hR=>((((hv.ext hx).ext hR).row hk).at rfl)) (dt rfl (pa rfl rfl (dm (dm ?_))))))
  refine di 48 3 (hv.ext hx).sl rfl ((hv.ext hx).lt hk) (df 1 rfl (dL rfl (λ_ hR=>((((hv.ext hx).ext hR).row hk).at rfl)) (dt rfl (Xa2 (v:=I ↑(rsz (l.take (k+1)))) rfl (Xa7 rfl rfl (by unfold Xai;omega)) (by show I _=I _;congr 1;omega) (da (de Z20 (wr (dm ?_))))))))
  refine pa rfl rfl (da (Xae (?_)))
  exact⟨k+1,zz3,⟨hx,by omega,hA⟩,by omega⟩
 refine Xah (Z16 _ _ (ws λ_ Z21=>ws λ_ Z22=>wr (dm ?_)))
 refine dp (Xaw rfl rfl) (de Z22 (wi (λc6=>?_) λc6=>?_))
 ·refine ws λ_ Z23=>wr (da (de Z23 (Xad ?_)))
  refine ro ?_
  rw[List.take_of_length_le om9]at c6
  refine⟨?_,hx⟩
  rw[Xlg om9 hA om9]
 refine Xaa (Z21 _ _ (ws λ_ Z24=>wr (da (de Z24 (Xad ?_)))))
 refine ro ?_
 rw[List.take_of_length_le om9]at c6
 refine⟨?_,hx⟩
 rw[Xvm om9 hA om9]
end Go.Proofs.YtiooodckiddpmaaGreatDoor
namespace Go.Sp
open Go.Vc (Str I S B)
structure Fi where
 id:Int
 lev:Int
 size:Int
 fst:Str
 lst:Str
deriving DecidableEq
@[reducible] def Fi.cs (f:Fi):List Value:=[I f.id,I f.lev,I f.size,S f.fst,S f.lst]
@[reducible] def Fi.v (f:Fi):Value:=.agg ⟨f.cs⟩
def Fi.zero : Fi:=⟨0,0,0,[],[]⟩
structure Vs where
 next:Int
 fs:List Fi
deriving DecidableEq
def cmpI (a b:Int):Int:=if a<b then -1 else if b<a then 1 else 0
def cmpB (a b:Str):Int:=if sLt a b=true then -1 else if sLt b a=true then 1 else 0
def cmpF (a b:Fi):Int:=if a.lev=0∧b.lev=0 then cmpI a.id b.id else if cmpI a.lev b.lev≠0 then cmpI a.lev b.lev else cmpB a.fst b.fst
def folF (a b:Fi):Bool:=if 0<a.lev∧a.lev=b.lev then sLt a.lst b.fst else decide (cmpF a b<0)
def isK (s:Str):Bool:=decide (1≤s.length) && decide (s.length≤4096)
def okF (n:Int)(f:Fi):Bool:=decide (1≤f.id) && decide (f.id<n) && decide (0≤f.lev) && decide (f.lev≤4) && decide (1≤f.size) && decide (f.size≤1048576) && isK f.fst && isK f.lst && !sLt f.lst f.fst
def Xgw : List Fi->Bool
 | a :: b :: r=>folF a b && Xgw (b :: r)
 | _=>true
def isV (v:Vs):Bool:=decide (1≤v.next) && decide (v.next≤1099511627776) && decide (v.fs.length≤1024) && v.fs.all (okF v.next) && decide ((v.fs.map (·.id)).Nodup) && Xgw v.fs
def Xda (lev:Int)(frm to:Str)(f:Fi):Bool:=decide (f.lev=lev) && !sLt f.lst frm && !sLt to f.fst
def Xcu (fs:List Fi)(lev:Int)(frm to:Str):List Fi:=fs.filter (Xda lev frm to)
def Xd6 (fs:List Fi)(key:Str):List Fi:=(Xcu fs 0 key key).reverse++Xcu fs 1 key key++Xcu fs 2 key key++Xcu fs 3 key key++Xcu fs 4 key key
theorem Xfk {fs:List Fi}{k:Nat}{f:Fi}{lev:Int}{frm to:Str}(h:fs[k]?=some f):Xcu (fs.take (k+1)) lev frm to=if Xda lev frm to f=true then Xcu (fs.take k) lev frm to++[f]else Xcu (fs.take k) lev frm to:=by
 unfold Xcu
 rw[List.take_add_one,h,List.filter_append]
 split
 ·rename_i h;simp [h]
 ·rename_i h;simp [h]
theorem Xd7 (fs:List Fi)(lev:Int)(frm to:Str):(Xcu fs lev frm to).length≤fs.length:=List.length_filter_le _ _
theorem Xjz (fs:List Fi)(k:Nat)(lev:Int)(frm to:Str):(Xcu (fs.take k) lev frm to).length≤fs.length:=by
 have:=Xd7 (fs.take k) lev frm to
 rw[List.length_take]at this
 omega
end Go.Sp
namespace Go.Proofs.YtiooodckiddpmaaGreatDoor
open Go.Vc Go.Sp
attribute [local irreducible] W XW Dw DwT
theorem X7v (a b:Str):(!Op.bytesLess a b && !a == b)=Op.bytesLess b a:=by
 rcases Xbp a b with h|h|h
 ·subst h;have:=Xa1 a;simp only [sLt]at this;simp [this]
 ·have h2:=Xbx h;simp only [sLt]at h h2;simp [h,h2]
 ·have h2:=Xbx h;have h3:=Xiq h;simp only [sLt]at h h2;simp [h,h2];exact λe=>h3 e.symm
theorem X7w (a b:Str):(Op.bytesLess a b || a == b)=!Op.bytesLess b a:=by
 rw[←X7v a b];cases Op.bytesLess a b<;>cases(a == b)<;>rfl
section
variable {P:Program}{E:Env}{d:Option Tmp}{ty:TypeId}{pos:String}{af:Array Edge}{g:Option (Nat×Bool)}
theorem X1o {x y:Operand}{T U:TypeId}{a b:Str}(hx:ev E x=S a)(hy:ev E y=S b):PV P ⟨d,.binOp .gtr T x y U,ty,pos,af,g⟩ E (.bool (Op.bytesLess b a)):=λw=>by
 rw[←X7v];simp [execOp,hx,hy,eqGuard,binOp,Op.stringOp]
theorem X7x {x y:Operand}{T U:TypeId}{a b:Str}(hx:ev E x=S a)(hy:ev E y=S b):PV P ⟨d,.binOp .leq T x y U,ty,pos,af,g⟩ E (.bool (!Op.bytesLess b a)):=λw=>by
 rw[←X7w];simp [execOp,hx,hy,eqGuard,binOp,Op.stringOp]
end
theorem Xvo {a b:Fi}(h1:a.lev=0)(h2:b.lev=0):cmpF a b=cmpI a.id b.id:=by unfold cmpF;rw[if_pos ⟨h1,h2⟩]
theorem Xvp {a b:Fi}(h:¬ (a.lev=0∧b.lev=0)):cmpF a b=if cmpI a.lev b.lev≠0 then cmpI a.lev b.lev else cmpB a.fst b.fst:=by unfold cmpF;rw[if_neg h]
theorem X4v {a b:Str}(h:sLt a b=true):cmpB a b=-1:=if_pos h
theorem X4w {a b:Str}(h:sLt a b=false)(h2:sLt b a=true):cmpB a b=1:=by unfold cmpB;rw[if_neg (by rw[h];decide),if_pos h2]
theorem X4x {a b:Str}(h:sLt a b=false)(h2:sLt b a=false):cmpB a b=0:=by unfold cmpB;rw[if_neg (by rw[h];decide),if_neg (by rw[h2];decide)]
def orI : List Int->Int
 | a :: r=>if a≠0 then a else orI r
 | []=>0
theorem orI2 (a b:Int):orI [a,b]=if a≠0 then a else b:=by
 unfold orI;unfold orI;unfold orI
 split
 ·rfl
 ·split<;>simp_all
theorem Xqy {l:List Int}{k:Nat}{x:Int}(h:l[k]?=some x):orI (l.drop k)=if x≠0 then x else orI (l.drop (k+1)):=by rw[Xcs h];rfl
theorem X1p (x:Int)(w:World) :
  Calls Tryz.prog 304 [I x].toArray w (Pure w (B false)):=by
 refine cw Tryz.func304 ?_
 have hx:=Ext.refl w
 refine ws λ_ Z1=>wr (da (de Z1 (ws λ_ Z2=>wr (dm (dm ?_)))))
 refine dp (Xas rfl rfl) (da (de Z2 (Xad ?_)))
 refine ro ?_
 exact⟨by simp,hx⟩
theorem X1q (x:Str)(w:World) :
  Calls Tryz.prog 305 [S x].toArray w (Pure w (B false)):=by
 refine cw Tryz.func305 ?_
 have hx:=Ext.refl w
 refine ws λ_ Z1=>wr (da (de Z1 (ws λ_ Z2=>wr (dm (dm ?_)))))
 refine dp (Xj4 rfl rfl) (da (de Z2 (Xad ?_)))
 refine ro ?_
 exact⟨by simp,hx⟩
theorem Xvq (x y:Int)(w:World) :
  Calls Tryz.prog 247 [I x,I y].toArray w (Pure w (I (cmpI x y))):=by
 refine cw Tryz.func247 ?_
 have hx:=Ext.refl w
 refine ws λ_ Z1=>wr (da (de Z1 (ws λ_ Z2=>wr (dm ?_))))
 refine cP (X1p x _) RX.all λw1 x1=>?_
 replace hx:=hx.trans x1
 refine da (de Z2 (ws λ_ Z3=>wr (dm ?_)))
 refine cP (X1p y _) RX.all λw2 x2=>?_
 replace hx:=hx.trans x2
 refine da (de Z3 (ws λ_ Z4=>ws λ_ Z5=>wr (dm (de Z5 ?_))))
 refine wc (λc1=>?_) λc1=>?_
 ·cases c1
 refine Xaa (Z4 _ _ (ws λ_ Z6=>ws λ_ Z7=>wr (dm (de Z7 ?_))))
 refine wc (λc2=>?_) λc2=>?_
 ·cases c2
 refine Xaa (Z6 _ _ (ws λ_ Z8=>ws λ_ Z9=>wr (dm (dm ?_))))
 refine dp (Xaf rfl rfl) (de Z9 (wi (λc3=>?_) λc3=>?_))
 ·refine ws λ_ Z10=>wr (da (de Z10 (Xad ?_)))
  refine ro ?_
  refine⟨?_,hx⟩
  unfold cmpI
  first|(rw[if_pos om9];done)|(rw[if_neg om9,if_pos om9];done)|(rw[if_neg om9,if_neg om9])
 refine Xaa (Z8 _ _ (ws λ_ Z11=>ws λ_ Z12=>wr (dm (dm ?_))))
 refine dp (Xaw rfl rfl) (de Z12 (wi (λc4=>?_) λc4=>?_))
 ·refine ws λ_ Z13=>wr (da (de Z13 (Xad ?_)))
  refine ro ?_
  refine⟨?_,hx⟩
  unfold cmpI
  first|(rw[if_pos om9];done)|(rw[if_neg om9,if_pos om9];done)|(rw[if_neg om9,if_neg om9])
 refine Xaa (Z11 _ _ (ws λ_ Z14=>wr (da (de Z14 (Xad ?_)))))
 refine ro ?_
 refine⟨?_,hx⟩
 unfold cmpI
 first|(rw[if_pos om9];done)|(rw[if_neg om9,if_pos om9];done)|(rw[if_neg om9,if_neg om9])
theorem X1r (x y:Str)(w:World) :
  Calls Tryz.prog 249 [S x,S y].toArray w (Pure w (I (cmpB x y))):=by
 refine cw Tryz.func249 ?_
 have hx:=Ext.refl w
 refine ws λ_ Z1=>wr (da (de Z1 (ws λ_ Z2=>wr (dm ?_))))
 refine cP (X1q x _) RX.all λw1 x1=>?_
 replace hx:=hx.trans x1
 refine da (de Z2 (ws λ_ Z3=>wr (dm ?_)))
 refine cP (X1q y _) RX.all λw2 x2=>?_
 replace hx:=hx.trans x2
 refine da (de Z3 (ws λ_ Z4=>ws λ_ Z5=>wr (dm (de Z5 ?_))))
 refine wc (λc1=>?_) λc1=>?_
 ·cases c1
 refine Xaa (Z4 _ _ (ws λ_ Z6=>ws λ_ Z7=>wr (dm (de Z7 ?_))))
 refine wc (λc2=>?_) λc2=>?_
 ·cases c2
 refine Xaa (Z6 _ _ (ws λ_ Z8=>ws λ_ Z9=>wr (dm (dm ?_))))
 refine dp (Xpw rfl rfl) (de Z9 (wc (λc3=>?_) λc3=>?_))
 ·refine ws λ_ Z10=>wr (da (de Z10 (Xad ?_)))
  refine ro ?_
  rw[X4v c3]
  exact⟨rfl,hx⟩
 refine Xaa (Z8 _ _ (ws λ_ Z11=>ws λ_ Z12=>wr (dm (dm ?_))))
 refine dp (X1o rfl rfl) (de Z12 (wc (λc4=>?_) λc4=>?_))
 ·refine ws λ_ Z13=>wr (da (de Z13 (Xad ?_)))
  refine ro ?_
  rw[X4w c3 c4]
  exact⟨rfl,hx⟩
 refine Xaa (Z11 _ _ (ws λ_ Z14=>wr (da (de Z14 (Xad ?_)))))
 refine ro ?_
 rw[X4x c3 c4]
 exact⟨rfl,hx⟩
theorem X7y (l:List Int)(v:Value)(w:World)(hv:Arr Vc.encI 1 w v l)(hl:l.length≤1000000) :
  Calls Tryz.prog 248 [v].toArray w (Pure w (I (orI l))):=by
 refine cw Tryz.func248 ?_
 have hx:=Ext.refl w
 refine ws λ_ Z1=>wr (da (de Z1 (ws λ_ Z2=>wr (da (de Z2 (ws λ_ Z3=>ws λ_ Z4=>wr (dm ?_)))))))
 refine dv 3 1 hv.sl (dm (de Z4 (Xab ?_)))
 refine Xaj (G:=Nat) (λk=>[(3,I 0),(6,v),(7,I ↑l.length),(8,I ↑k)]) (λk w'=>Ext w w'∧k≤l.length∧orI l=orI (l.drop k)) (λk=>l.length-k) 0 ?_ ?_ ?_
 ·exact zz4
 ·exact⟨hx,Nat.zero_le _,rfl⟩
 intro X1 g1 w1 hF1
 revert hF1;revert g1;intro k hF1
 clear hx
 obtain⟨hx,hk1,ho⟩:=hF1
 refine ws λ_ Z5=>wr (dp (Xaf rfl rfl) (de Z5 (ws λ_ Z6=>wi (λc1=>?_) λc1=>?_)))
 ·obtain⟨x,hk⟩:∃x,l[k]?=some x:=gtE
  refine Xaa (Z6 _ _ (ws λ_ Z7=>Xab (ws λ_ Z8=>wr (di 3 1 hv.sl rfl (hv.lt hk) (dl rfl (((hv.ext hx).row hk).at0 rfl) (da (de Z8 (ws λ_ Z9=>wr (dm (dm ?_))))))))))
  refine dp (Xas rfl rfl) (de Z9 (wi (λc2=>?_) λc2=>?_))
  ·refine ws λ_ Z10=>wr (dm (da (de Z10 (Xad ?_))))
   refine ro ?_
   refine⟨?_,hx⟩
   rw[ho,Xqy hk,if_pos c2]
  refine Xaa (Z7 _ _ (wr (pa rfl rfl (dm (Xae (?_))))))
  refine⟨k+1,zz4,⟨hx,by omega,?_⟩,by omega⟩
  rw[ho,Xqy hk,if_neg (λe=>e (Decidable.of_not_not c2))]
 refine Xah (Z3 _ _ (ws λ_ Z11=>wr (dm (da (de Z11 (Xad ?_))))))
 refine ro ?_
 refine⟨?_,hx⟩
 rw[ho,List.drop_eq_nil_of_le om9];rfl
theorem X7z (s:Str)(w:World) :
  Calls Tryz.prog 181 [S s].toArray w (Pure w (B (isK s))):=by
 refine cw Tryz.func181 ?_
 have hx:=Ext.refl w
 refine ws λ_ Z1=>wr (da (de Z1 (ws λ_ Z2=>wr (dm ?_))))
 refine dt rfl (dp (Xcg rfl rfl) (dm ?_))
 refine Xag 6 rfl (λc1=>?_) (λc1=>?_)
 ·refine dm ?_
  refine dt rfl (dp (Xci rfl rfl) (dk' ?_))
  refine da (de Z2 (Xad ?_))
  refine ro ?_
  refine⟨?_,hx⟩
  simp only [Ending.returned.injEq,Value.bool.injEq]
  unfold isK
  first|(rw[decide_eq_true (show 1≤s.length by omega),Bool.true_and];exact decide_eq_decide.2 om9)|(rw[decide_eq_false (show¬ 1≤s.length by omega)];rfl)
 refine dk (dk (dk (dk' ?_)))
 refine da (de Z2 (Xad ?_))
 refine ro ?_
 refine⟨?_,hx⟩
 simp only [Ending.returned.injEq,Value.bool.injEq]
 unfold isK
 first|(rw[decide_eq_true (show 1≤s.length by omega),Bool.true_and];exact decide_eq_decide.2 om9)|(rw[decide_eq_false (show¬ 1≤s.length by omega)];rfl)
theorem Xvr (a b:Fi)(w:World) :
  Calls Tryz.prog 175 [a.v,b.v].toArray w (Pure w (I (cmpF a b))):=by
 refine cw Tryz.func175 ?_
 have hx:=Ext.refl w
 refine ws λ_ Z1=>wr (Xbf rfl rfl rfl RX.all (λb1 w1 e1 x1 m1=>?_))
 have g1:=hx.ge e1
 replace hx:=hx.trans x1
 refine Xbf rfl rfl rfl RX.all (λb2 w2 e2 x2 m2=>?_)
 have g2:=hx.ge e2
 have n2_1:=m1.ltb e2
 replace m1:=m1.ext x2
 replace hx:=hx.trans x2
 refine da (de Z1 (ws λ_ Z2=>ws λ_ Z3=>wr ?_))
 refine df 1 rfl (dl rfl (m1.at rfl) (dp (Xa9 rfl rfl) (dm ?_)))
 refine Xag 8 rfl (λc1=>?_) (λc1=>?_)
 ·refine df 1 rfl (dl rfl (m2.at rfl) (dp (Xa9 rfl rfl) (dk' (de Z3 ?_))))
  refine wi (λc2=>?_) λc2=>?_
  ·refine ws λ_ Z4=>wr (df 0 rfl (dl rfl (m1.at rfl) (df 0 rfl (dl rfl (m2.at rfl) (cP (Xvq a.id b.id _) RX.all λw3 x3=>?_)))))
   replace m1:=m1.ext x3
   replace m2:=m2.ext x3
   replace hx:=hx.trans x3
   refine da (de Z4 (Xad ?_))
   refine ro ?_
   refine⟨?_,hx⟩
   first|(rw[Xvo om9 om9];done)|(rw[Xvp om9,orI2])
  refine Xaa (Z2 _ _ (ws λ_ Z5=>Xaq (R:=Ext) Ext.refl (λ_ _ _=>Ext.trans) kr9 [1,3,6,8] [(0,.p,false),(1,.l,false),(2,.p,false),(3,.l,false),(5,.p,false),(6,.l,false),(7,.p,false),(8,.l,false),(4,.x,false),(9,.x,false),(10,.x,false),(11,.x,false),(12,.p,false)] rfl kr9 kr9 (λw4 ew4=>?_)))
  have x4:=drewx ew4
  clear ew4
  replace m1:=m1.ext x4
  replace m2:=m2.ext x4
  replace hx:=hx.trans x4
  refine df 1 rfl (dL rfl (λ_ hR=>((m1.ext hR).at rfl)) (df 1 rfl (dL rfl (λ_ hR=>((m2.ext hR).at rfl)) (df 3 rfl (dL rfl (λ_ hR=>((m1.ext hR).at rfl)) (df 3 rfl (dL rfl (λ_ hR=>((m2.ext hR).at rfl)) (cP (Xvq a.lev b.lev _) RX.ext λw5 x5=>?_))))))))
  replace m1:=m1.ext x5
  replace m2:=m2.ext x5
  replace hx:=hx.trans x5
  refine cP (X1r a.fst b.fst _) RX.ext λw6 x6=>?_
  replace m1:=m1.ext x6
  replace m2:=m2.ext x6
  replace hx:=hx.trans x6
  refine li (e:=3) (sz:=1) (zs:=[.int .i64 0]) (pv:=[(0,_),(1,_)]) (cs:=[_,_]) RX.ext (λb3 w7 e3 x7 m3=>?_)
  have g3:=hx.ge e3
  have n3_1:=m1.ltb e3
  have n3_2:=m2.ltb e3
  replace m1:=m1.ext x7
  replace m2:=m2.ext x7
  replace hx:=hx.trans x7
  refine cP (X7y [cmpI a.lev b.lev,cmpB a.fst b.fst] _ _ (m3.arr (enc:=Vc.encI) (l:=[cmpI a.lev b.lev,cmpB a.fst b.fst]) rfl ir9 rfl sp9) sp9) RX.ext λw8 x8=>?_
  replace m1:=m1.ext x8
  replace m2:=m2.ext x8
  replace hx:=hx.trans x8
  refine da (de Z5 (Xad ?_))
  refine ro ?_
  refine⟨?_,hx⟩
  first|(rw[Xvo om9 om9];done)|(rw[Xvp om9,orI2])
 refine dk (dk (dk (dk' (de Z3 ?_))))
 refine W_f rfl (Xaa (Z2 _ _ (ws λ_ Z6=>Xaq (R:=Ext) Ext.refl (λ_ _ _=>Ext.trans) kr9 [1,3,6,8] [(0,.p,false),(1,.l,false),(2,.p,false),(3,.l,false),(5,.p,false),(6,.l,false),(7,.p,false),(8,.l,false),(4,.x,false),(9,.x,false),(10,.x,false),(11,.x,false),(12,.p,false)] rfl kr9 kr9 (λw9 ew9=>?_))))
 have x9:=drewx ew9
 clear ew9
 replace m1:=m1.ext x9
 replace m2:=m2.ext x9
 replace hx:=hx.trans x9
 refine df 1 rfl (dL rfl (λ_ hR=>((m1.ext hR).at rfl)) (df 1 rfl (dL rfl (λ_ hR=>((m2.ext hR).at rfl)) (df 3 rfl (dL rfl (λ_ hR=>((m1.ext hR).at rfl)) (df 3 rfl (dL rfl (λ_ hR=>((m2.ext hR).at rfl)) (cP (Xvq a.lev b.lev _) RX.ext λw10 x10=>?_))))))))
 replace hx:=hx.trans x10
 refine cP (X1r a.fst b.fst _) RX.ext λw11 x11=>?_
 replace hx:=hx.trans x11
 refine li (e:=3) (sz:=1) (zs:=[.int .i64 0]) (pv:=[(0,_),(1,_)]) (cs:=[_,_]) RX.ext (λb4 w12 e4 x12 m4=>?_)
 have g4:=hx.ge e4
 replace hx:=hx.trans x12
 refine cP (X7y [cmpI a.lev b.lev,cmpB a.fst b.fst] _ _ (m4.arr (enc:=Vc.encI) (l:=[cmpI a.lev b.lev,cmpB a.fst b.fst]) rfl ir9 rfl sp9) sp9) RX.ext λw13 x13=>?_
 replace hx:=hx.trans x13
 refine da (de Z6 (Xad ?_))
 refine ro ?_
 refine⟨?_,hx⟩
 first|(rw[Xvo om9 om9];done)|(rw[Xvp om9,orI2])
theorem X70 (a b:Fi)(w:World) :
  Calls Tryz.prog 182 [a.v,b.v].toArray w (Pure w (B (folF a b))):=by
 refine cw Tryz.func182 ?_
 have hx:=Ext.refl w
 refine ws λ_ Z1=>wr (Xbf rfl rfl rfl RX.all (λb1 w1 e1 x1 m1=>?_))
 have g1:=hx.ge e1
 replace hx:=hx.trans x1
 refine Xbf rfl rfl rfl RX.all (λb2 w2 e2 x2 m2=>?_)
 have g2:=hx.ge e2
 have n2_1:=m1.ltb e2
 replace m1:=m1.ext x2
 replace hx:=hx.trans x2
 refine da (de Z1 (ws λ_ Z2=>ws λ_ Z3=>wr ?_))
 refine df 1 rfl (dl rfl (m1.at rfl) (dp (Xaw rfl rfl) (dm ?_)))
 refine Xag 8 rfl (λc1=>?_) (λc1=>?_)
 ·refine df 1 rfl (dl rfl (m1.at rfl) (df 1 rfl (dl rfl (m2.at rfl) (dp (Xa9 rfl rfl) (dk' (de Z3 ?_))))))
  refine wi (λc2=>?_) λc2=>?_
  ·refine ws λ_ Z4=>wr (df 4 rfl (dl rfl (m1.at rfl) (df 3 rfl (dl rfl (m2.at rfl) (dp (Xpw rfl rfl) (da (de Z4 (Xad ?_))))))))
   refine ro ?_
   refine⟨?_,hx⟩
   unfold folF
   first|(rw[if_pos om9];done)|(rw[if_neg om9])
  refine Xaa (Z2 _ _ (ws λ_ Z5=>wr (dq (Xac (k:=5) kr9 rfl rfl m1.row) (dq (Xac (k:=5) kr9 rfl rfl m2.row) (cP (Xvr a b _) RX.all λw3 x3=>?_)))))
  replace m1:=m1.ext x3
  replace m2:=m2.ext x3
  replace hx:=hx.trans x3
  refine dp (Xaf rfl rfl) (da (de Z5 (Xad ?_)))
  refine ro ?_
  refine⟨?_,hx⟩
  unfold folF
  first|(rw[if_pos om9];done)|(rw[if_neg om9])
 refine dk (dk (dk (dk (dk (dk' (de Z3 ?_))))))
 refine W_f rfl (Xaa (Z2 _ _ (ws λ_ Z6=>wr (dq (Xac (k:=5) kr9 rfl rfl m1.row) (dq (Xac (k:=5) kr9 rfl rfl m2.row) (cP (Xvr a b _) RX.all λw4 x4=>?_))))))
 replace hx:=hx.trans x4
 refine dp (Xaf rfl rfl) (da (de Z6 (Xad ?_)))
 refine ro ?_
 refine⟨?_,hx⟩
 unfold folF
 first|(rw[if_pos om9];done)|(rw[if_neg om9])
theorem Xid {lev:Int}{frm to:Str}{f:Fi}(h1:f.lev=lev)(h2:(!Op.bytesLess f.lst frm)=true)(h3:(!Op.bytesLess to f.fst)=true):Xda lev frm to f=true:=by
 unfold Xda;rw[decide_eq_true h1,show sLt f.lst frm=Op.bytesLess f.lst frm from rfl,h2,show sLt to f.fst=Op.bytesLess to f.fst from rfl,h3];rfl
theorem Xie {lev:Int}{frm to:Str}{f:Fi}(h1:¬ f.lev=lev):¬ Xda lev frm to f=true:=by unfold Xda;rw[decide_eq_false h1];simp
theorem Xif {lev:Int}{frm to:Str}{f:Fi}(h2:(!Op.bytesLess f.lst frm)=false):¬ Xda lev frm to f=true:=by unfold Xda;rw[show sLt f.lst frm=Op.bytesLess f.lst frm from rfl,h2];simp
theorem Xig {lev:Int}{frm to:Str}{f:Fi}(h3:(!Op.bytesLess to f.fst)=false):¬ Xda lev frm to f=true:=by unfold Xda;rw[show sLt to f.fst=Op.bytesLess to f.fst from rfl,h3];simp
theorem Xqz (n:Int)(fs:List Fi)(vf:Value)(lev:Int)(frm to:Str)(w:World)(hv:Arr Fi.cs 5 w vf fs)(hl:fs.length≤100000) :
  Calls Tryz.prog 108 [.agg ⟨[I n,vf]⟩,I lev,S frm,S to].toArray w (Gives w (λu w'=>Vc.Own Fi.cs 5 62 w.heap.size w' u (Xcu fs lev frm to))):=by
 refine cw Tryz.func108 ?_
 have hx:=Ext.refl w
 refine ws λ_ Z1=>wr (Xbf rfl rfl rfl RX.all (λb1 w1 e1 x1 m1=>?_))
 have g1:=hx.ge e1
 replace hx:=hx.trans x1
 refine da (de Z1 (ws λ_ Z2=>wr (da (de Z2 (ws λ_ Z3=>ws λ_ Z4=>wr ?_)))))
 refine df 1 rfl (dl rfl (m1.at rfl) (dv 62 5 (hv.ext hx).sl (dm (de Z4 (Xab ?_)))))
 refine Xaj (G:=Nat×Value) (λ(k,vm)=>[(1,I lev),(2,S frm),(3,S to),(8,.slice none 0 0),(9,vm),(13,vf),(14,I ↑fs.length),(15,I ↑k)]) (λ(k,vm) w'=>Ext w w'∧k≤fs.length∧Vc.Own Fi.cs 5 62 w.heap.size w' vm (Xcu (fs.take k) lev frm to)) (λ(k,vm)=>fs.length-k) (0,.slice none 0 0) ?_ ?_ ?_
 ·exact zz8
 ·exact⟨hx,Nat.zero_le _,Vc.Own.nil⟩
 intro X2 g2 w2 hF2
 obtain⟨k,vm⟩:=g2
 clear hx m1
 obtain⟨hx,hk1,ho⟩:=hF2
 refine ws λ_ Z5=>wr (dp (Xaf rfl rfl) (de Z5 (ws λ_ Z6=>wi (λc1=>?_) λc1=>?_)))
 ·obtain⟨f,hk⟩:∃f,fs[k]?=some f:=gtE
  have hlen:=Xjz fs k lev frm to
  refine Xaa (Z6 _ _ (ws λ_ Z7=>Xab (ws λ_ Z8=>wr (di 62 5 (hv.ext hx).sl rfl ((hv.ext hx).lt hk) (dq (Xac kr9 rfl rfl ((hv.ext hx).row hk)) (Xan (cs:=[.int .i64 0,.int .i64 0,.int .i64 0,S [],S []]) rfl kr9 RX.all (λb2 w3 e2 x3 m2=>?_)))))))
  have g2:=hx.ge e2
  have o2_ho:=ho.ltb e2
  replace ho:=ho.ext x3
  replace hx:=hx.trans x3
  refine stA m2 (λw4 x4 xs4 m2=>?_)
  try dsimp only [Xal,List.set,List.take,List.drop]at m2
  try replace ho:=ho.mod x4 (by first|assumption|(intro k hk h;have h1:=(ho.lt k hk).1;have h2:k=b2:=h;omega)|(intro k hk h;have h1:=o2_ho k hk;have h2:k=b2:=h;omega)|(intro h;have h2:_=b2:=h;omega)|(intro hl h;have h1:=a2_ho hl;have h2:_=b2:=h;omega))
  replace hx:=hx.o1 x4
  refine de Z8 (ws λ_ Z9=>wr (df 1 rfl (dl rfl (m2.at rfl) (dm ?_))))
  refine dp (Xa9 rfl rfl) (dm ?_)
  refine Xag 23 rfl (λc2=>?_) (λc2=>?_)
  ·refine df 4 rfl (dl rfl (m2.at rfl) (dm ?_))
   refine dp (Xs2 rfl rfl) (dk' ?_)
   refine dm ?_
   refine Xb7 29 rfl (λc3=>?_) (λc3=>?_)
   ·refine df 3 rfl (dl rfl (m2.at rfl) (dm ?_))
    refine dp (X7x rfl rfl) (dk' (de Z9 ?_))
    refine wc (λc4=>?_) λc4=>?_
    ·refine wr (dm ?_)
     refine dq (Xac (k:=5) kr9 rfl rfl m2.row) (li (e:=62) (sz:=5) (zs:=[.int .i64 0,.int .i64 0,.int .i64 0,S [],S []]) (pv:=[(0,.agg ⟨[_,_,_,_,_]⟩)]) (cs:=[_,_,_,_,_]) RX.all (λb3 w5 e3 x5 m3=>?_))
     have g3:=hx.ge e3
     have o3_ho:=ho.ltb e3
     replace ho:=ho.ext x5
     replace hx:=hx.trans x5
     refine Xa6 (lx:=[f]) (e:=62) (sz:=5) (by':=56) rfl kr9 kr9 ir9 ho (m3.arr (enc:=Fi.cs) (sz:=5) (l:=[f]) rfl ir9 rfl (Nat.le_of_ble_eq_true rfl)) rfl rfl (by intro x _ u hu;simp at hu;rcases hu with rfl|rfl|rfl|rfl|rfl<;>rfl) (by simp;omega) dc9 hx.size (.inl rfl) (λvm2 w6 ho_n x6=>?_)
     replace hx:=hx.own x6 (λi hi=>(ho.lt i hi).1)
     replace ho:=ho_n
     clear m3
     refine da (de Z7 (wr ?_))
     refine pa rfl rfl (dm (Xae (?_)))
     refine⟨(k+1,_),zz8,⟨hx,by omega,?_⟩,by simp only [];omega⟩
     rw[Xfk hk]
     first|(rw[if_pos (Xid om9 ‹_› ‹_›)];exact ho)|(rw[if_neg (Xie om9)];exact ho)|(rw[if_neg (Xif ‹_›)];exact ho)|(rw[if_neg (Xig ‹_›)];exact ho)
    refine Xaa (Z7 _ _ (wr (pa rfl rfl (dm (Xae (?_))))))
    refine⟨(k+1,_),zz8,⟨hx,by omega,?_⟩,by simp only [];omega⟩
    rw[Xfk hk]
    first|(rw[if_pos (Xid om9 ‹_› ‹_›)];exact ho)|(rw[if_neg (Xie om9)];exact ho)|(rw[if_neg (Xif ‹_›)];exact ho)|(rw[if_neg (Xig ‹_›)];exact ho)
   refine dk (dk (dk (dk (dk' (de Z9 ?_)))))
   refine W_f rfl (Xaa (Z7 _ _ (wr (pa rfl rfl (dm (Xae (?_)))))))
   refine⟨(k+1,_),zz8,⟨hx,by omega,?_⟩,by simp only [];omega⟩
   rw[Xfk hk]
   first|(rw[if_pos (Xid om9 ‹_› ‹_›)];exact ho)|(rw[if_neg (Xie om9)];exact ho)|(rw[if_neg (Xif ‹_›)];exact ho)|(rw[if_neg (Xig ‹_›)];exact ho)
  refine dk (dk (dk (dk (dk' ?_))))
  refine dm ?_
  refine dk (dk (dk (dk (dk' (de Z9 ?_)))))
  refine W_f rfl (Xaa (Z7 _ _ (wr (pa rfl rfl (dm (Xae (?_)))))))
  refine⟨(k+1,_),zz8,⟨hx,by omega,?_⟩,by simp only [];omega⟩
  rw[Xfk hk]
  first|(rw[if_pos (Xid om9 ‹_› ‹_›)];exact ho)|(rw[if_neg (Xie om9)];exact ho)|(rw[if_neg (Xif ‹_›)];exact ho)|(rw[if_neg (Xig ‹_›)];exact ho)
 refine Xah (Z3 _ _ (ws λ_ Z10=>wr (dm (da (de Z10 (Xad ?_))))))
 refine ro ?_
 exact⟨_,rfl,hx,by rw[List.take_of_length_le om9]at ho;exact ho⟩
end Go.Proofs.YtiooodckiddpmaaGreatDoor
