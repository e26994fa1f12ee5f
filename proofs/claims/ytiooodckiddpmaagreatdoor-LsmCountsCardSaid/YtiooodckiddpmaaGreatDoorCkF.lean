/-
 A part of the proof: BtB LsC LsD LsE LsF LsG SpStab SpSt2 SpMg VcCl StA.
-/
import Derived.Test.YtiooodckiddpmaaGreatDoorCkA
import Derived.Test.YtiooodckiddpmaaGreatDoorChecked
import Derived.KernelRfl
import Derived.Test.YtiooodckiddpmaaGreatDoorCkD
import Derived.Test.YtiooodckiddpmaaGreatDoorCkE
import Derived.Test.YtiooodckiddpmaaGreatDoorCkB
set_option maxRecDepth 100000
set_option maxHeartbeats 4000000
set_option linter.unusedVariables false
set_option linter.unusedSimpArgs false
namespace Go.Proofs.YtiooodckiddpmaaGreatDoor
open Go.Vc Go.Sp
attribute [local irreducible] W XW Dw DwT
section
open Go.Shelf Go.RowKit Go.Lib Go.Sort
theorem X8a : Tryz.f165.ntmps=10:=by kernel_rfl
theorem Xj1 (x y:Cell)(W:World):Calls Tryz.prog 165 #[.agg x.cs.toArray,.agg y.cs.toArray] W λe w'=>e=.returned (.int .i64 (Lib.compareBytes x.key y.key))∧∃q os',w'=grow (W.drewN q) os':=by
 have hcon:=λW'=>Tryz.strings_Compare ⟨⟨x.key⟩⟩ ⟨⟨y.key⟩⟩ W'
 change ∀W',Calls Tryz.prog 166 _ _ _ at hcon
 generalize Lib.compareBytes x.key y.key=r at hcon ⊢
 go_enter Tryz.func165,X8a
 go_wp2_with (go_at_call 166;refine(hcon _).mono ?_;rintro e w' ⟨rfl,rfl⟩)
 go_ret
 exact⟨rfl,0,_,by rw[alloc_eq_grow,alloc_eq_grow,grow_grow];rfl⟩
@[reducible] def cfK (x y:Cell):Int:=Lib.compareBytes x.key y.key
theorem Xq8 (x y:Cell):ltOf cfK x y=sLt x.key y.key:=by
 unfold ltOf cfK
 rw[Bool.eq_iff_iff,decide_eq_true_iff]
 exact Xq6 x.key y.key
theorem X49 : SWO (ltOf cfK) where
 irrefl x:=by rw[Xq8,Xa1]
 trans x y z h1 h2:=by rw[Xq8]at *;exact Xbg _ _ _ h1 h2
 ntrans x y z h1 h2:=by
  rw[Xq8]at *
  rcases Xbp x.key z.key with h|h|h
  ·rw[h,Xa1]
  ·rcases Xbp y.key z.key with h3|h3|h3
   ·rw[h3]at h1;exact h1
   ·rw[h3]at h2;cases h2
   ·rw[Xbg _ _ _ h h3]at h1;cases h1
  ·exact Xbx h
instance : Inhabited Cell:=⟨Cell.zero⟩
theorem Xo7 {T B:Nat}{w:World}{v:Value}{l:List Cell}(ho:Vc.Own Cell.cs 4 T B w v l)(hl:l.length<4611686018427387904) :
  Calls Tryz.prog 164 [v,.func (.func 165) #[] #[]].toArray w (Does (λk=>v.ownBlock=some k) w λu w'=>u=.tuple #[]∧∃l',l'.Perm l∧l'.Pairwise (λx y=>sLt y.key x.key=false)∧Vc.Own Cell.cs 4 T B w' v l'):=by
 have h:=X48 Tryz.sortF164 4 (λw=>(Xdr (k:=4) (T:=79) kr9).1) (λw=>(Xdr (k:=4) (T:=79) kr9).2) Cell.cs (λ_=>rfl) (λx v hv=>by simp at hv;rcases hv with rfl|rfl|rfl|rfl<;>rfl) cfK X49 165 #[] (enters_of Tryz.func165 kr9 rfl) (λx y W=>Xj1 x y W) ho hl
 refine Calls.mono h ?_
 rintro e w' ⟨u,he,hm,hu,l',h1,h2,h3⟩
 exact⟨u,he,hm,hu,l',h1,h2.imp (λ {a b} hab=>by rw[Xq8]at hab;exact hab),h3⟩
end
theorem Xzs {rows:List Rw}{seq:Int}{l':List Cell}(h1:l'.Perm ((Xer rows).map (·.cell seq)))(h2:l'.Pairwise (λx y=>sLt y.key x.key=false)):l'=Xa8 rows seq:=by
 have hk:l'.Pairwise λa b=>a.key≠b.key:=by
  have h:((Xer rows).map (·.cell seq)).Pairwise λa b=>a.key≠b.key:=List.pairwise_map.2 ((Xsj rows).imp (λ {a b} hab=>hab))
  exact h.perm h1.symm (λ {a b} hab=>hab.symm)
 refine X79 (List.Pairwise.imp₂ (λa b (ha:sLt b.key a.key=false) (hb:a.key≠b.key)=>?_) h2 hk) (Xja rows seq) λx=>by rw[Xnc,h1.mem_iff]
 rcases Xbp a.key b.key with h|h|h
 ·exact absurd h hb
 ·exact h
 ·rw[ha]at h;cases h
theorem X93 (a b:Int)(h:I a=I b):a=b:=by simpa using h
theorem X5a : MapK Tryz.prog 242 9 3 S Vc.I (λs=>s.length≤maxLen):=mapS kr9 kr9 X93
theorem Xv2 (l:List Rw)(k:Nat)(r:Rw)(h:l[k]?=some r):putF (Xhl l k) r.key (k:Int)=Xhl l (k+1):=by
 funext s
 show(putF (Xhl l k) r.key (k:Int)) s=if(rAt l k).key=s then some (k:Int)else Xhl l k s
 unfold putF
 rw[Xnd h]
 by_cases e:s=r.key
 ·rw[if_pos e,if_pos e.symm]
 ·rw[if_neg e,if_neg (λe2=>e e2.symm)]
theorem Xzt (l:List Rw)(v:Value)(seq:Int)(w:World)(hv:Arr Rw.cs 3 w v l)(hl:l.length≤100000)(hks:∀r∈l,r.key.length≤1000000) :
  Calls Tryz.prog 88 [v,I seq].toArray w (Gives w (λu w'=>Vc.Own Cell.cs 4 79 w.heap.size w' u (Xa8 l seq))):=by
 refine cw Tryz.func88 ?_
 have hx:=Ext.refl w
 refine ws λ_ Z1=>wr (da (de Z1 (ws λ_ Z2=>wr ?_)))
 refine Xgj X5a rfl RX.all (λb1 w1 e1 x1 mp1=>?_)
 have g1:=hx.ge e1
 replace hx:=hx.trans x1
 refine da (de Z2 (ws λ_ Z3=>ws λ_ Z4=>wr (dm ?_)))
 refine dv 48 3 (hv.ext hx).sl (dm (de Z4 (Xab ?_)))
 refine Xaj (G:=Nat) (λk=>[(0,v),(1,I seq),(4,.slice none 0 0),(5,.map (some b1)),(12,v),(13,I ↑l.length),(14,I ↑k)]) (λk w'=>Ext w w'∧k≤l.length∧Vc.Xbo Tryz.prog 9 S Vc.I w' b1 k (Xhl l k)) (λk=>l.length-k) 0 ?_ ?_ ?_
 ·exact zz7
 ·exact⟨hx,Nat.zero_le _,mp1⟩
 intro X2 g2 w2 hF2
 revert hF2;revert g2;intro k hF2
 clear hx mp1
 obtain⟨hx,hk1,mp1⟩:=hF2
 refine ws λ_ Z5=>wr (dp (Xaf rfl rfl) (de Z5 (ws λ_ Z6=>wi (λc1=>?_) λc1=>?_)))
 ·obtain⟨r,hk⟩:∃r,l[k]?=some r:=gtE
  refine Xaa (Z6 _ _ (ws λ_ Z7=>Xab (ws λ_ Z8=>wr (dm ?_))))
  refine di 48 3 (hv.ext hx).sl rfl ((hv.ext hx).lt hk) (dq (Xac kr9 rfl rfl ((hv.ext hx).row hk)) (Xan (cs:=[S [],S [],B false]) rfl kr9 RX.all (λb2 w3 e2 x3 m2=>?_)))
  have g2:=hx.ge e2
  have n2_mp1:=mp1.lt
  replace mp1:=mp1.ext x3
  replace hx:=hx.trans x3
  refine da ?_
  refine stA m2 (λw4 x4 xs4 m2=>?_)
  try dsimp only [Xal,List.set,List.take,List.drop]at m2
  replace mp1:=mp1.mod x4 (by intro h;have h2:_=b2:=h;omega)
  replace hx:=hx.o1 x4
  refine de Z8 (wr (dm ?_))
  refine df 0 rfl (dl rfl (m2.at rfl) (dm ?_))
  refine Xdk X5a (kx:=r.key) (a:=(k:Int)) rfl rfl rfl rfl mp1 (by have:=hks r (List.mem_of_getElem? hk);unfold maxLen;omega) (by unfold maxLen;omega) (.inl rfl) (λw5 x5 xs5 mp1_n=>?_)
  replace hx:=hx.own x5 (λi hi=>by have hi2:i=b1:=hi;subst hi2;omega)
  replace mp1:=mp1_n
  refine de Z7 (wr (pa rfl rfl (dm (Xae (?_)))))
  refine⟨k+1,zz7,⟨hx,by omega,?_⟩,by omega⟩
  rw[Xv2 l k r hk]at mp1;exact mp1
 refine Xah (Z3 _ _ (ws λ_ Z9=>wr (da (de Z9 (ws λ_ Z10=>ws λ_ Z11=>wr (dm ?_))))))
 refine dv 48 3 (hv.ext hx).sl (dm (de Z11 (Xab ?_)))
 refine Xaj (G:=Nat×Value×List Cell) (λ(k,va,acc)=>[(1,I seq),(4,.slice none 0 0),(5,.map (some b1)),(8,va),(24,v),(25,I ↑l.length),(26,I ↑k)]) (λ(k,va,acc) w'=>Ext w w'∧k≤l.length∧acc.length≤k∧acc++(Xer (l.drop k)).map (·.cell seq)=(Xer l).map (·.cell seq)∧Vc.Own Cell.cs 4 79 w.heap.size w' va acc∧Vc.Xbo Tryz.prog 9 S Vc.I w' b1 l.length (Xhl l l.length)) (λ(k,va,acc)=>l.length-k) (0,.slice none 0 0,[]) ?_ ?_ ?_
 ·exact zz7
 ·exact⟨hx,Nat.zero_le _,Nat.le_refl _,rfl,Vc.Own.nil,by rw[show k=l.length by omega]at mp1;exact mp1⟩
 intro X6 g6 w6 hF6
 obtain⟨k,va,acc⟩:=g6
 clear hx mp1
 obtain⟨hx,hk1,hal,hacc,ho,mp1⟩:=hF6
 refine ws λ_ Z12=>wr (dp (Xaf rfl rfl) (de Z12 (ws λ_ Z13=>wi (λc2=>?_) λc2=>?_)))
 ·obtain⟨r,hk⟩:∃r,l[k]?=some r:=gtE
  have hst:=Xv1 hk
  have hli:=X47 hk
  refine Xaa (Z13 _ _ (ws λ_ Z14=>Xab (ws λ_ Z15=>wr (dm ?_))))
  refine di 48 3 (hv.ext hx).sl rfl ((hv.ext hx).lt hk) (dq (Xac kr9 rfl rfl ((hv.ext hx).row hk)) (Xan (cs:=[S [],S [],B false]) rfl kr9 RX.all (λb3 w7 e3 x7 m3=>?_)))
  have g3:=hx.ge e3
  have n3_mp1:=mp1.lt
  have o3_ho:=ho.ltb e3
  replace ho:=ho.ext x7
  replace mp1:=mp1.ext x7
  replace hx:=hx.trans x7
  refine da ?_
  refine stA m3 (λw8 x8 xs8 m3=>?_)
  try dsimp only [Xal,List.set,List.take,List.drop]at m3
  try replace ho:=ho.mod x8 (by first|assumption|(intro k hk h;have h1:=(ho.lt k hk).1;have h2:k=b3:=h;omega)|(intro k hk h;have h1:=o3_ho k hk;have h2:k=b3:=h;omega)|(intro h;have h2:_=b3:=h;omega)|(intro hl h;have h1:=a3_ho hl;have h2:_=b3:=h;omega))
  replace mp1:=mp1.mod x8 (by intro h;have h2:_=b3:=h;omega)
  replace hx:=hx.o1 x8
  refine de Z15 (ws λ_ Z16=>wr (dm ?_))
  refine df 0 rfl (dl rfl (m3.at rfl) (dq (Xee X5a (kx:=r.key) (z0:=0) rfl rfl kr9 mp1 (by have:=hks r (List.mem_of_getElem? hk);unfold maxLen;omega)) (dm ?_)))
  refine dp (Xa9 rfl rfl) (de Z16 (wi (λc3=>?_) λc3=>?_))
  ·refine wr (dm ?_)
   refine dq (Xac (k:=3) kr9 rfl rfl m3.row) (dm ?_)
   refine cP (Xvn r seq _) RX.all λw9 x9=>?_
   replace ho:=ho.ext x9
   replace mp1:=mp1.ext x9
   replace hx:=hx.trans x9
   refine li (e:=79) (sz:=4) (zs:=[S [],S [],B false,.int .i64 0]) (pv:=[(0,.agg ⟨[_,_,_,_]⟩)]) (cs:=[_,_,_,_]) RX.all (λb4 w10 e4 x10 m4=>?_)
   have g4:=hx.ge e4
   have n4_mp1:=mp1.lt
   have o4_ho:=ho.ltb e4
   replace ho:=ho.ext x10
   replace mp1:=mp1.ext x10
   replace hx:=hx.trans x10
   refine Xa6 (lx:=[r.cell seq]) (e:=79) (sz:=4) (by':=48) rfl kr9 kr9 ir9 ho (m4.arr (enc:=Cell.cs) (sz:=4) (l:=[r.cell seq]) rfl ir9 rfl (Nat.le_of_ble_eq_true rfl)) rfl rfl (by intro x _ u hu;simp at hu;rcases hu with rfl|rfl|rfl|rfl<;>rfl) (by simp;omega) dc9 hx.size (.inl rfl) (λva2 w11 ho_n x11=>?_)
   replace mp1:=mp1.mod x11 (mp1.ne_own ho)
   replace hx:=hx.own x11 (λi hi=>(ho.lt i hi).1)
   replace ho:=ho_n
   clear m4
   refine da (de Z14 (wr ?_))
   refine pa rfl rfl (dm (Xae (?_)))
   refine⟨(k+1,va2,acc++[r.cell seq]),zz7,⟨hx,by omega,by simp;omega,?_,ho,mp1⟩,by simp only [];omega⟩
   rw[←hacc,hst,if_neg (by rw[hli.1 c3];decide)];simp
  refine Xaa (Z14 _ _ (wr (pa rfl rfl (dm (Xae (?_))))))
  refine⟨(k+1,va,acc),zz7,⟨hx,by omega,by omega,?_,ho,mp1⟩,by simp only [];omega⟩
  have hany:((l.drop (k+1)).any λq=>decide (q.key=r.key))=true:=by
   cases e:((l.drop (k+1)).any λq=>decide (q.key=r.key))with
   | true=>rfl
   | false=>exact absurd (hli.2 e) c3
  rw[←hacc,hst,if_pos hany]
 have hkl:k=l.length:=by omega
 rw[hkl,List.drop_of_length_le (Nat.le_refl _),show Xer ([]:List Rw)=[] from rfl,List.map_nil,List.append_nil]at hacc
 have hll:=Xv0 l
 refine Xah (Z10 _ _ (ws λ_ Z17=>wr (dm ?_)))
 refine cD (Xo7 ho (by rw[hacc,List.length_map];omega)) (.inl rfl) λu12 w12 x12 hf12=>?_
 have hsz12:=hx.size
 replace hx:=hx.own x12 (λi hi=>(ho.lt i hi).1)
 obtain⟨rfl,l',hp,hsd,ho⟩:=hf12
 refine de Z17 (ws λ_ Z18=>wr (dm (da (de Z18 (Xad ?_)))))
 refine ro ?_
 exact⟨_,rfl,hx,by rw[Xzs (hacc▸hp) hsd]at ho;exact ho⟩
def Xes (m:List Cell)(cs:List Cell):List Cell:=cs.foldl (λm c=>(put m c).2) m
theorem Xzu (l:List Cell)(c:Cell):(put l c).2.length≤l.length+1∧Xb5 (put l c).2≤Xb5 l+Xbh c:=by
 unfold put
 split
 ·simp only;omega
 ·simp only
  have h:=Xf2 l c
  have h1:=congrArg List.length h
  have h2:=congrArg Xb5 h
  unfold Xb5 at *
  simp only [List.length_append,List.map_append,List.sum_append,List.length_cons,List.map_cons,List.sum_cons]at *
  omega
theorem Xv3 (m:List Cell)(cs:List Cell):(Xes m cs).length≤m.length+cs.length∧Xb5 (Xes m cs)≤Xb5 m+Xb5 cs:=by
 induction cs generalizing m with
 | nil=>exact⟨Nat.le_refl _,by show Xb5 m≤Xb5 m+Xb5 [];omega⟩
 | cons c r ih=>
  have h1:=ih (put m c).2
  have h2:=Xzu m c
  have e:Xb5 (c :: r)=Xbh c+Xb5 r:=by simp [Xb5]
  show(Xes (put m c).2 r).length≤_∧Xb5 (Xes (put m c).2 r)≤_
  rw[e,List.length_cons]
  omega
theorem Xo8 (cs:List Cell)(k:Nat):Xb5 (cs.take k)≤Xb5 cs:=by
 have h:=congrArg Xb5 (List.take_append_drop k cs)
 unfold Xb5 at *
 rw[List.map_append,List.sum_append]at h
 omega
theorem MRep.to {F G:Nat->Prop}{w:World}{bm:Nat}{l:List Cell}(h:MRep F w bm l)(hs:∀k,F k->G k)(hl:∀k,G k->k<w.heap.size):MRep G w bm l:=by
 obtain⟨va,vd,a,nx,dr,L,h1,h2,h3,h4,h5⟩:=h
 exact⟨va,vd,a,nx,dr,L,h1,h2,h3,λk hk=>hs k (h4 k hk),hl⟩
theorem X5b {m cs:List Cell}{k:Nat}{c:Cell}(h:cs[k]?=some c):Xes m (cs.take (k+1))=(put (Xes m (cs.take k)) c).2:=by
 unfold Xes;rw[Xa0 h,List.foldl_append];rfl
theorem X8b (F:Nat->Prop)(bs bd bl:Nat)(n:Int)(vf:Value)(bo bm:Nat)(dead:Bool)(mem:List Cell)(l:List Rw)(v:Value)(seq:Int)(w:World)(hs:Blk w bs (stoC bd bl n vf bo bm dead) 90)(hM0:MRep F w bm mem)(hFs:¬ F bs)(hv:Arr Rw.cs 3 w v l)(hl:l.length≤100000)(hks:∀r∈l,r.key.length≤1000000)(hml:mem.length≤700000)(hmz:Xb5 mem+Xb5 (Xa8 l seq)≤1000000000000) :
  Calls Tryz.prog 42 [ptr bs 0,v,I seq].toArray w (Does F w (λu w'=>u=.tuple #[]∧MRep (Xvv F w w') w' bm (Xes mem (Xa8 l seq)))):=by
 refine cw Tryz.func42 ?_
 have hx:=Vc.Mod.refl F w
 have hM:=hM0
 have hF0:=hM0.lt
 have hs0:=hs.lt
 have hcl:=Xhj l seq
 refine ws λ_ Z1=>wr (dm (dm ?_))
 refine cG (Xzt l v seq _ hv hl hks) RX.all λvc w1 x1 hC0=>?_
 have hsz1:=hx.size
 replace hs:=hs.ext x1
 replace hM:=hM.ext x1
 replace hx:=hx.ext x1
 have hC:=hC0.mono hsz1
 have hw1:=Nat.le_trans hsz1 x1.size
 have hS:Sz w1.heap.size w1:=⟨Nat.le_refl _⟩
 have hC1:=λk9 h9=>(hC.lt k9 h9).2
 refine dv 79 4 (hC.arr ir9).sl (dm (de Z1 (Xab ?_)))
 refine Xaj (G:=Nat×(Nat->Prop)) (λ(k,Fc)=>[(0,ptr bs 0),(10,vc),(11,I ↑(Xa8 l seq).length),(12,I ↑k)]) (λ(k,Fc) w'=>Mod F w w'∧k≤(Xa8 l seq).length∧MRep Fc w' bm (Xes mem ((Xa8 l seq).take k))∧(∀j,Fc j->F j∨w1.heap.size≤j)∧Blk w' bs (stoC bd bl n vf bo bm dead) 90∧Vc.Own Cell.cs 4 79 w.heap.size w' vc (Xa8 l seq)∧Sz w1.heap.size w') (λ(k,Fc)=>(Xa8 l seq).length-k) (0,F) ?_ ?_ ?_
 ·exact zz4
 ·exact⟨hx,Nat.zero_le _,hM,λ_ h=>.inl h,hs,hC,hS⟩
 intro X2 g2 w2 hF2
 obtain⟨k,Fc⟩:=g2
 clear hx hs hM hC hS
 obtain⟨hx,hk1,hM,hsub,hs,hC,hS⟩:=hF2
 have hSr:=hS.le
 refine ws λ_ Z2=>wr (dp (Xaf rfl rfl) (de Z2 (ws λ_ Z3=>wi (λc1=>?_) λc1=>?_)))
 ·obtain⟨c,hk⟩:∃c,(Xa8 l seq)[k]?=some c:=gtE
  have hpz:=Xv3 mem ((Xa8 l seq).take k)
  have hst:=Xo8 (Xa8 l seq) k
  have hlt9:((Xa8 l seq).take k).length≤(Xa8 l seq).length:=by rw[List.length_take];omega
  refine Xaa (Z3 _ _ (ws λ_ Z4=>Xab (ws λ_ Z5=>wr (di 79 4 (hC.arr ir9).sl rfl ((hC.arr ir9).lt hk) (dq (Xac kr9 rfl rfl ((hC.arr ir9).row hk)) (Xan (cs:=[S [],S [],B false,.int .i64 0]) rfl kr9 RX.all (λb1 w3 e1 x3 m1=>?_)))))))
  have g1:=hx.ge e1
  have a1_hM:=hM.lt
  have o1_hM:=hM.lt
  have a1_hs:=hs.lt
  have o1_hC:=hC.ltb e1
  have a1_hS:=hS.le
  replace hM:=hM.ext x3
  replace hs:=hs.ext x3
  replace hC:=hC.ext x3
  replace hS:=hS.ext x3
  replace hx:=hx.ext x3
  refine stA m1 (λw4 x4 xs4 m1=>?_)
  try dsimp only [Xal,List.set,List.take,List.drop]at m1
  replace hM:=hM.mod x4 (λk9 h9 e=>by have h2:k9=b1:=e;have h8:=a1_hM k9 h9;omega)
  try replace hs:=hs.mod x4 (by first|assumption|(intro k hk h;have h1:=(hs.lt k hk).1;have h2:k=b1:=h;omega)|(intro k hk h;have h1:=o1_hs k hk;have h2:k=b1:=h;omega)|(intro h;have h2:_=b1:=h;omega)|(intro hl h;have h1:=a1_hs hl;have h2:_=b1:=h;omega))
  try replace hC:=hC.mod x4 (by first|assumption|(intro k hk h;have h1:=(hC.lt k hk).1;have h2:k=b1:=h;omega)|(intro k hk h;have h1:=o1_hC k hk;have h2:k=b1:=h;omega)|(intro h;have h2:_=b1:=h;omega)|(intro hl h;have h1:=a1_hC hl;have h2:_=b1:=h;omega))
  replace hS:=hS.mod x4 trivial
  replace hx:=hx.o1 x4
  refine de Z5 (Xaq (R:=Ext) Ext.refl (λ_ _ _=>Ext.trans) kr9 [3,4] [(0,.p,false),(1,.p,false),(2,.p,false),(3,.l,false),(4,.l,false),(5,.x,true)] rfl kr9 kr9 (λw5 ew5=>?_))
  have x5:=drewx ew5
  clear ew5
  replace hM:=hM.ext x5
  replace hs:=hs.ext x5
  replace hC:=hC.ext x5
  replace hS:=hS.ext x5
  replace m1:=m1.ext x5
  replace hx:=hx.ext x5
  refine dm ?_
  refine dz rfl (df 5 rfl (dL rfl (λ_ hR=>((hs.ext hR).at rfl)) (D_l rfl (λw' hR=>Xac (k:=4) kr9 rfl rfl (m1.ext hR).row) ?_)))
  have hSb:=hS.le
  refine cD (hM.calls_put c _ om9 om9) (.inl rfl) λu6 w6 x6 hf6=>?_
  have hsz6:=hx.size
  replace hs:=hs.mod x6 (λh9=>(hsub _ h9).elim hFs (λh=>by have:=hs0;omega))
  replace hC:=hC.mod x6 (λk9 h9 e9=>(hsub _ e9).elim (λh=>by have:=hF0 _ h;have:=(hC.lt k9 h9).1;omega) (λh=>by have:=hC1 k9 h9;omega))
  replace hS:=hS.mod x6 trivial
  replace hx:=hx.own x6 (λi hi hlt=>((hsub i hi).resolve_right (λh=>by have:=hw1;omega)))
  obtain⟨rfl,hM⟩:=hf6
  refine de Z4 (wr (pa rfl rfl (dm (Xae (?_)))))
  rw[←X5b hk]at hM
  exact⟨(k+1,_),zz4,⟨hx,by omega,hM,λj hj=>hj.elim (hsub j) (λh=>.inr (Nat.le_trans hSb h.1)),hs,hC,hS⟩,by simp only [];omega⟩
 refine Xah (Xa5 (Xav rfl ?_))
 rw[List.take_of_length_le om9]at hM
 refine⟨_,rfl,hx,rfl,?_⟩
 exact hM.to (λj hj=>(hsub j hj).elim .inl (λh=>.inr ⟨by omega,hM.lt j hj⟩)) (λj hj=>hj.elim (λh=>Nat.lt_of_lt_of_le (hF0 j h) hx.size) (·.2))
theorem X8c (bs bd bl:Nat)(n:Int)(vf:Value)(bo bm:Nat)(dead:Bool)(G:Nat->Prop)(vd ve:Value)(vs:List (Value×Str))(L:Led)(w:World)(hs:Blk w bs (stoC bd bl n vf bo bm dead) 90)(hE:LedE G bl bd vd ve vs L w) :
  Calls Tryz.prog 17 [ptr bs 0].toArray w (Pure w (I L.last)):=by
 refine cw Tryz.func17 ?_
 have hx:=Ext.refl w
 refine ws λ_ Z1=>wr (da (de Z1 (ws λ_ Z2=>ws λ_ Z3=>wr (dm ?_))))
 refine dp (Xa4 kr9 rfl rfl) (de Z3 (wi (λc1=>?_) λc1=>?_))
 ·exact absurd c1 sp9
 refine Xaa (Z2 _ _ (ws λ_ Z4=>wr (dm ?_)))
 refine dz rfl (df 1 rfl (dl rfl ((hs.ext hx).at rfl) (cP (last_w G bl bd vd ve vs L _ (hE.ext hx)) RX.all λw1 x1=>?_)))
 replace hx:=hx.trans x1
 refine da (de Z4 (Xad ?_))
 refine ro ?_
 exact⟨rfl,hx⟩
theorem Xzv : MapK Tryz.prog 87 104 102 kvII pO okII:=X4p (i:=3) kr9 kr9 (Xi8 kr9 kr9 kr9) kr9 kr9 kr9 kr9 kr9 kr9 Xt3
structure Tb where
 h:Int×Int
 bt:Nat
 vl:Value
 vb:Value
 cs:List Cell
def Xcf (ts:List Tb)(h:Int×Int):Option Tb:=ts.find? λt=>decide (t.h=h)
def tabP (ts:List Tb)(h:Int×Int):Option (Option Nat):=(Xcf ts h).map λt=>some t.bt
def Xd0 (ts:List Tb)(key:Str):List Fi->Option Cell
 | []=>none
 | f :: r=>match(Xcf ts (f.lev,f.id)).bind λt=>first t.cs key 1099511627776 with
  | some c=>some c
  | none=>Xd0 ts key r
def Xh1 (mem:List Cell)(fs:List Fi)(ts:List Tb)(key:Str):Option Cell:=match first mem key 1099511627776 with
 | some c=>some c
 | none=>Xd0 ts key (Xd6 fs key)
theorem Xsk {mem:List Cell}{fs:List Fi}{ts:List Tb}{key:Str}{c:Cell}(h:first mem key 1099511627776=some c):Xh1 mem fs ts key=some c:=by unfold Xh1;rw[h]
theorem Xhm {mem:List Cell}{fs:List Fi}{ts:List Tb}{key:Str}(h:first mem key 1099511627776=none):Xh1 mem fs ts key=Xd0 ts key (Xd6 fs key):=by unfold Xh1;rw[h]
theorem Xgz {ts:List Tb}{h:Int×Int}{t:Tb}(e:Xcf ts h=some t):t∈ts:=List.mem_of_find?_eq_some e
theorem Xv4 {ts:List Tb}{key:Str}{fs:List Fi}{k:Nat}{f:Fi}{t:Tb}{c:Cell}(h:fs[k]?=some f)(ht:Xcf ts (f.lev,f.id)=some t)(hc:first t.cs key 1099511627776=some c):Xd0 ts key (fs.drop k)=some c:=by
 rw[Xcs h];unfold Xd0;rw[ht,Option.bind_some,hc]
theorem X1w {ts:List Tb}{key:Str}{fs:List Fi}{k:Nat}{f:Fi}{t:Tb}(h:fs[k]?=some f)(ht:Xcf ts (f.lev,f.id)=some t)(hc:first t.cs key 1099511627776=none):Xd0 ts key (fs.drop k)=Xd0 ts key (fs.drop (k+1)):=by
 rw[Xcs h,Xd0.eq_2,ht,Option.bind_some,hc]
theorem LV.to {P:Program}{o:Oper}{E:Env}{w:World}{v v':Value}(h:LV P o E w v)(e:v=v'):LV P o E w v':=e▸h
theorem Xv5 {ts:List Tb}{h:Int×Int}{t:Tb}(e:Xcf ts h=some t):pO ((tabP ts h).getD none)=ptr t.bt 0:=by unfold tabP;rw[e];rfl
theorem Xv6 {fs:List Fi}{key:Str}{f:Fi}(h:f∈Xd6 fs key):f∈fs:=by
 unfold Xd6 Xcu at h
 simp only [List.mem_append,List.mem_reverse,List.mem_filter]at h
 rcases h with(((h|h)|h)|h)|h<;>exact h.1
theorem X5c (bs bd bl:Nat)(n:Int)(vf:Value)(bo bm no:Nat)(dead:Bool)(F:Nat->Prop)(mem:List Cell)(fs:List Fi)(ts:List Tb)(key:Str)(w:World)(hs:Blk w bs (stoC bd bl n vf bo bm dead) 90)(hM:MRep F w bm mem)(hml:mem.length≤900000)(hf:Arr Fi.cs 5 w vf fs)(hfl:fs.length≤100000)(mo:Vc.Xbo Tryz.prog 104 kvII pO w bo no (tabP ts))(htb:∀t∈ts,TblE t.bt t.vl t.vb t.cs w)(hfs:∀f∈fs,(∃t,Xcf ts (f.lev,f.id)=some t)∧Xai f.lev∧Xai f.id)(hkl:key.length≤1000000000) :
  Calls Tryz.prog 58 [ptr bs 0,S key].toArray w (Pure w (.tuple #[((Xh1 mem fs ts key).getD Cell.zero).v,B (Xh1 mem fs ts key).isSome])):=by
 refine cw Tryz.func58 ?_
 have hx:=Ext.refl w
 refine ws λ_ Z1=>wr (Xan (cs:=[S [],S [],B false,.int .i64 0]) rfl kr9 RX.all (λb1 w1 e1 x1 m1=>?_))
 have g1:=hx.ge e1
 replace hx:=hx.trans x1
 refine da (de Z1 (ws λ_ Z2=>ws λ_ Z3=>wr (dm ?_)))
 refine dz rfl (df 5 rfl (dl rfl ((hs.ext hx).at rfl) (dm ?_)))
 refine cP (hM.ext hx |>.calls_get key 1099511627776 _ hml) RX.all λw2 x2=>?_
 replace m1:=m1.ext x2
 replace hx:=hx.trans x2
 refine dm ?_
 refine dx rfl rfl (dx rfl rfl (Xan (cs:=[S [],S [],B false,.int .i64 0]) rfl kr9 RX.all (λb2 w3 e2 x3 m2=>?_)))
 have g2:=hx.ge e2
 have n2_1:=m1.ltb e2
 replace m1:=m1.ext x3
 replace hx:=hx.trans x3
 refine stA m2 (λw4 x4 xs4 m2=>?_)
 try dsimp only [Xal,List.set,List.take,List.drop]at m2
 try replace m1:=m1.mo x4
 replace hx:=hx.o1 x4
 refine da (de Z3 (ws λ_ Z4=>wr (dm (de Z4 ?_))))
 refine wc (λc1=>?_) λc1=>?_
 ·refine ws λ_ Z5=>wr (dq (Xac (k:=4) kr9 rfl rfl m2.row) (stA m1 (λw5 x5 xs5 m1=>?_)))
  try dsimp only [Xal,List.set,List.take,List.drop]at m1
  replace hx:=hx.o1 x5
  refine da (de Z5 (Xad ?_))
  refine Xau (u:=?v10) rfl rfl rfl rfl kr9 rfl m1.row ?h10 ?k10
  case h10=>conv=>lhs;whnf
  obtain⟨c,hc⟩:=Option.isSome_iff_exists.1 c1
  rw[Xsk hc,hc]
  exact⟨rfl,hx⟩
 have hmem:first mem key 1099511627776=none:=by simpa using c1
 refine Xaa (Z2 _ _ (ws λ_ Z6=>ws λ_ Z7=>wr (dm ?_)))
 refine dz rfl (df 2 rfl (dq (Xac kr9 rfl rfl ((hs.ext hx).part 2 2)) (dm ?_)))
 refine cG (X4y n fs vf key _ (hf.ext hx) hfl) RX.all λvo w6 x6 hO0=>?_
 have hsz6:=hx.size
 replace m1:=m1.ext x6
 replace hx:=hx.trans x6
 have hO:=hO0.mono hsz6
 refine dv 62 5 (hO.arr ir9).sl (dm (de Z7 (Xab ?_)))
 refine Xaj (G:=Nat) (λk=>[(0,ptr bs 0),(1,S key),(4,ptr b1 0),(28,vo),(29,I ↑(Xd6 fs key).length),(30,I ↑k)]) (λk w'=>Ext w w'∧Blk w' b1 Cell.zero.cs 79∧Vc.Own Fi.cs 5 62 w.heap.size w' vo (Xd6 fs key)∧k≤(Xd6 fs key).length∧Xd0 ts key (Xd6 fs key)=Xd0 ts key ((Xd6 fs key).drop k)) (λk=>(Xd6 fs key).length-k) 0 ?_ ?_ ?_
 ·exact zz6
 ·exact⟨hx,m1,hO,Nat.zero_le _,rfl⟩
 intro X7 g7 w7 hF7
 revert hF7;revert g7;intro k hF7
 clear hx m1 m2 hO
 obtain⟨hx,m1,hO,hk1,hin⟩:=hF7
 refine ws λ_ Z8=>wr (dp (Xaf rfl rfl) (de Z8 (ws λ_ Z9=>wi (λc2=>?_) λc2=>?_)))
 ·obtain⟨f,hk⟩:∃f,(Xd6 fs key)[k]?=some f:=gtE
  have hff:=hfs f (Xv6 (List.mem_of_getElem? hk))
  obtain⟨t,ht⟩:=hff.1
  have hT:=htb t (Xgz ht)
  have hol:=Xkl fs key 4
  rw[Xq0]at hol
  refine Xaa (Z9 _ _ (ws λ_ Z10=>Xab (ws λ_ Z11=>wr (di 62 5 (hO.arr ir9).sl rfl ((hO.arr ir9).lt hk) (dq (Xac kr9 rfl rfl ((hO.arr ir9).row hk)) (Xan (cs:=[.int .i64 0,.int .i64 0,.int .i64 0,S [],S []]) rfl kr9 RX.all (λb3 w8 e3 x8 m3=>?_)))))))
  have g3:=hx.ge e3
  have n3_1:=m1.ltb e3
  have o3_hO:=hO.ltb e3
  replace m1:=m1.ext x8
  replace hO:=hO.ext x8
  replace hx:=hx.trans x8
  refine stA m3 (λw9 x9 xs9 m3=>?_)
  try dsimp only [Xal,List.set,List.take,List.drop]at m3
  try replace m1:=m1.mo x9
  try replace hO:=hO.mod x9 (by first|assumption|(intro k hk h;have h1:=(hO.lt k hk).1;have h2:k=b3:=h;omega)|(intro k hk h;have h1:=o3_hO k hk;have h2:k=b3:=h;omega)|(intro h;have h2:_=b3:=h;omega)|(intro hl h;have h1:=a3_hO hl;have h2:_=b3:=h;omega))
  replace hx:=hx.o1 x9
  refine de Z11 (ws λ_ Z12=>Xfy (R:=Ext) Ext.refl (λ_ _ _=>Ext.trans) kr9 [3,5,7,9] (.one 0 .p false (.one 1 .p false (.one 2 .p false (.one 3 .l false (.one 4 .p false (.one 5 .l false (.one 6 .p false (.one 7 .l false (.one 8 .p false (.one 9 .l false (.one 10 .p false (.fork (.alt 11 false (.one 12 .p false (.one 13 .p false (.one 14 .p false (.one 15 .x false (.one 16 .x true (.one 17 .p false .nil)))))) (.alt 15 false (.one 11 .x false (.one 12 .p false (.one 13 .p false (.one 14 .p false (.one 16 .x true (.one 17 .p false .nil)))))) .stop)))))))))))))) kr9 kr9 (λw10 ew10=>?_))
  have x10:=drewx ew10
  clear ew10
  replace m1:=m1.ext x10
  replace hO:=hO.ext x10
  replace m3:=m3.ext x10
  replace hx:=hx.trans x10
  refine Xap (dm (Xae ?_))
  refine Xap (dz rfl (Xae (Xap (df 4 rfl (Xae (Xap (dL rfl (λ_ hR=>((hs.ext (hx.trans hR)).at rfl)) (Xae (Xap (df 1 rfl (Xae (Xap (dL rfl (λ_ hR=>((m3.ext hR).at rfl)) ?_)))))))))))))
  refine Xae (Xap (df 0 rfl (Xae (Xap (dL rfl (λ_ hR=>((m3.ext hR).at rfl)) (Xae (Xap (db (zs:=[.int .i64 0,.int .i64 0]) (pl:=[(0,1),(1,1)]) (pv:=[(0,_),(1,_)]) (cs:=[_,_]) (Xae ?_)))))))))
  refine Xap (D_l (v:=ptr t.bt 0) rfl (λw' hR=>LV.to (Xee Xzv (kx:=(f.lev,f.id)) (z0:=none) rfl rfl kr9 (mo.ext (hx.trans hR)) ⟨hff.2.1,hff.2.2⟩) (Xv5 ht)) (Xae (Xap (dm (Xae ?_)))))
  refine Xfq ?_
  refine Xd1 ?_ ?_
  ·refine cP (X1m t.bt t.vl t.vb t.cs key 1099511627776 _ (hT.ext hx) hkl) RX.ext λw11 x11=>?_
   replace m1:=m1.ext x11
   replace hO:=hO.ext x11
   replace hx:=hx.trans x11
   refine Xae (Xap (dm (Xae ?_)))
   refine Xap (dx rfl rfl (Xae (Xap (dx rfl rfl (Xae (Xap (Xan (cs:=[S [],S [],B false,.int .i64 0]) rfl kr9 RX.ext (λb4 w12 e4 x12 m4=>?_))))))))
   have g4:=hx.ge e4
   have n4_1:=m1.ltb e4
   have o4_hO:=hO.ltb e4
   replace m1:=m1.ext x12
   replace hO:=hO.ext x12
   replace hx:=hx.trans x12
   refine Xae (Xap (stA m4 (λw13 x13 xs13 m4=>?_)))
   try dsimp only [Xal,List.set,List.take,List.drop]at m4
   try replace m1:=m1.mo x13
   try replace hO:=hO.mod x13 (by first|assumption|(intro k hk h;have h1:=(hO.lt k hk).1;have h2:k=b4:=h;omega)|(intro k hk h;have h1:=o4_hO k hk;have h2:k=b4:=h;omega)|(intro h;have h2:_=b4:=h;omega)|(intro hl h;have h1:=a4_hO hl;have h2:_=b4:=h;omega))
   replace hx:=hx.o1 x13
   refine Xae (Xap (da (Xae ?_)))
   refine Xew (Z12 _ _ (ws λ_ Z13=>wr (dm (de Z13 ?_))))
   refine wc (λc3=>?_) λc3=>?_
   ·refine ws λ_ Z14=>wr (dq (Xac (k:=4) kr9 rfl rfl m4.row) (stA m1 (λw14 x14 xs14 m1=>?_)))
    try dsimp only [Xal,List.set,List.take,List.drop]at m1
    try replace hO:=hO.mod x14 (by first|assumption|(intro k hk h;have h1:=(hO.lt k hk).1;have h2:k=b1:=h;omega)|(intro k hk h;have h1:=o1_hO k hk;have h2:k=b1:=h;omega)|(intro h;have h2:_=b1:=h;omega)|(intro hl h;have h1:=a1_hO hl;have h2:_=b1:=h;omega))
    replace hx:=hx.o1 x14
    refine da (de Z14 (Xad ?_))
    refine Xau (u:=?v24) rfl rfl rfl rfl kr9 rfl m1.row ?h24 ?k24
    case h24=>conv=>lhs;whnf
    obtain⟨c,hc⟩:=Option.isSome_iff_exists.1 c3
    rw[Xhm hmem,hin,Xv4 hk ht hc,hc]
    exact⟨rfl,hx⟩
   refine Xaa (Z10 _ _ (wr (pa rfl rfl (dm (Xae (?_))))))
   have hc:first t.cs key 1099511627776=none:=by simpa using c3
   exact⟨k+1,zz6,⟨hx,m1,hO,by omega,by rw[hin,X1w hk ht hc]⟩,by omega⟩
  refine Xd1 ?_ ?_
  ·refine Xan (cs:=[S [],S [],B false,.int .i64 0]) rfl kr9 RX.ext (λb5 w15 e5 x15 m5=>?_)
   have g5:=hx.ge e5
   have n5_1:=m1.ltb e5
   have o5_hO:=hO.ltb e5
   replace m1:=m1.ext x15
   replace hO:=hO.ext x15
   replace hx:=hx.trans x15
   refine Xae (Xap (cP (X1m t.bt t.vl t.vb t.cs key 1099511627776 _ (hT.ext hx) hkl) RX.ext λw16 x16=>?_))
   replace m1:=m1.ext x16
   replace hO:=hO.ext x16
   replace m5:=m5.ext x16
   replace hx:=hx.trans x16
   refine Xae (Xap (dm (Xae ?_)))
   refine Xap (dx rfl rfl (Xae (Xap (dx rfl rfl (Xae (Xap (stA m5 (λw17 x17 xs17 m5=>?_))))))))
   try dsimp only [Xal,List.set,List.take,List.drop]at m5
   try replace m1:=m1.mo x17
   try replace hO:=hO.mod x17 (by first|assumption|(intro k hk h;have h1:=(hO.lt k hk).1;have h2:k=b5:=h;omega)|(intro k hk h;have h1:=o5_hO k hk;have h2:k=b5:=h;omega)|(intro h;have h2:_=b5:=h;omega)|(intro hl h;have h1:=a5_hO hl;have h2:_=b5:=h;omega))
   replace hx:=hx.o1 x17
   refine Xae (Xap (da (Xae ?_)))
   refine Xew (Z12 _ _ (ws λ_ Z15=>wr (dm (de Z15 ?_))))
   refine wc (λc4=>?_) λc4=>?_
   ·refine ws λ_ Z16=>wr (dq (Xac (k:=4) kr9 rfl rfl m5.row) (stA m1 (λw18 x18 xs18 m1=>?_)))
    try dsimp only [Xal,List.set,List.take,List.drop]at m1
    try replace hO:=hO.mod x18 (by first|assumption|(intro k hk h;have h1:=(hO.lt k hk).1;have h2:k=b1:=h;omega)|(intro k hk h;have h1:=o1_hO k hk;have h2:k=b1:=h;omega)|(intro h;have h2:_=b1:=h;omega)|(intro hl h;have h1:=a1_hO hl;have h2:_=b1:=h;omega))
    replace hx:=hx.o1 x18
    refine da (de Z16 (Xad ?_))
    refine Xau (u:=?v32) rfl rfl rfl rfl kr9 rfl m1.row ?h32 ?k32
    case h32=>conv=>lhs;whnf
    obtain⟨c,hc⟩:=Option.isSome_iff_exists.1 c4
    rw[Xhm hmem,hin,Xv4 hk ht hc,hc]
    exact⟨rfl,hx⟩
   refine Xaa (Z10 _ _ (wr (pa rfl rfl (dm (Xae (?_))))))
   have hc:first t.cs key 1099511627776=none:=by simpa using c4
   exact⟨k+1,zz6,⟨hx,m1,hO,by omega,by rw[hin,X1w hk ht hc]⟩,by omega⟩
  exact Xfr
 refine Xah (Z6 _ _ (ws λ_ Z17=>wr (db (zs:=[S [],S [],B false,.int .i64 0]) (pl:=[(0,1),(1,1),(2,1),(3,1)]) (pv:=[]) (cs:=[S [],S [],B false,.int .i64 0]) ?_)))
 refine stA m1 (λw19 x19 xs19 m1=>?_)
 try dsimp only [Xal,List.set,List.take,List.drop]at m1
 replace hx:=hx.o1 x19
 refine da (de Z17 (Xad ?_))
 refine Xau (u:=?v37) rfl rfl rfl rfl kr9 rfl m1.row ?h37 ?k37
 case h37=>conv=>lhs;whnf
 rw[Xhm hmem,hin,List.drop_of_length_le om9]
 exact⟨rfl,hx⟩
def getR (o:Option Cell):Str×Bool:=match o with
 | some c=>if c.del=true then([],false)else(c.val,true)
 | none=>([],false)
theorem Xv7 {o:Option Cell}(h:o.isSome=false):getR o=([],false):=by cases o with|none=>rfl|some c=>cases h
theorem Xzw {o:Option Cell}(h:o.isSome=true)(h2:(o.getD Cell.zero).del=true):getR o=([],false):=by
 cases o with
 | none=>cases h
 | some c=>exact if_pos h2
theorem Xzx {o:Option Cell}(h:o.isSome=true)(h2:(o.getD Cell.zero).del=false):getR o=((o.getD Cell.zero).val,true):=by
 cases o with
 | none=>cases h
 | some c=>exact if_neg (by rw[show c.del=false from h2];decide)
theorem X8d (bs bd bl:Nat)(n:Int)(vf:Value)(bo bm no:Nat)(dead:Bool)(F:Nat->Prop)(mem:List Cell)(fs:List Fi)(ts:List Tb)(key:Str)(w:World)(hs:Blk w bs (stoC bd bl n vf bo bm dead) 90)(hM:MRep F w bm mem)(hml:mem.length≤900000)(hf:Arr Fi.cs 5 w vf fs)(hfl:fs.length≤100000)(mo:Vc.Xbo Tryz.prog 104 kvII pO w bo no (tabP ts))(htb:∀t∈ts,TblE t.bt t.vl t.vb t.cs w)(hfs:∀f∈fs,(∃t,Xcf ts (f.lev,f.id)=some t)∧Xai f.lev∧Xai f.id)(hkl:key.length≤1000000000) :
  Calls Tryz.prog 22 [ptr bs 0,S key].toArray w (Pure w (.tuple #[S (getR (Xh1 mem fs ts key)).1,B (getR (Xh1 mem fs ts key)).2])):=by
 refine cw Tryz.func22 ?_
 have hx:=Ext.refl w
 refine ws λ_ Z1=>wr (da (da (de Z1 (ws λ_ Z2=>ws λ_ Z3=>wr (dm ?_)))))
 refine dp (Xa4 kr9 rfl rfl) (de Z3 (wi (λc1=>?_) λc1=>?_))
 ·exact absurd c1 sp9
 refine Xaa (Z2 _ _ (ws λ_ Z4=>wr (dm (dm ?_))))
 refine cP (X5c bs bd bl n vf bo bm no dead F mem fs ts key _ (hs.ext hx) (hM.ext hx) hml (hf.ext hx) hfl (mo.ext hx) (λt ht=>(htb t ht).ext hx) hfs hkl) RX.all λw1 x1=>?_
 replace hx:=hx.trans x1
 refine dm ?_
 refine dx rfl rfl (dx rfl rfl (Xan (cs:=[S [],S [],B false,.int .i64 0]) rfl kr9 RX.all (λb1 w2 e1 x2 m1=>?_)))
 have g1:=hx.ge e1
 replace hx:=hx.trans x2
 refine stA m1 (λw3 x3 xs3 m1=>?_)
 try dsimp only [Xal,List.set,List.take,List.drop]at m1
 replace hx:=hx.o1 x3
 refine da (de Z4 (ws λ_ Z5=>ws λ_ Z6=>wr (dm ?_)))
 refine dn (dm ?_)
 refine Xb7 18 rfl (λc2=>?_) (λc2=>?_)
 ·refine dk (dk (dk' (de Z6 ?_)))
  refine W_t rfl (ws λ_ Z7=>wr (da (da (de Z7 (Xad ?_)))))
  refine rt ?_
  rw[Xv7 (by simpa using c2)]
  exact⟨rfl,hx⟩
 refine df 2 rfl (dl rfl (m1.at rfl) (dk' (de Z6 ?_)))
 refine wc (λc3=>?_) λc3=>?_
 ·refine ws λ_ Z8=>wr (da (da (de Z8 (Xad ?_))))
  refine rt ?_
  rw[Xzw (by simpa using c2) c3]
  exact⟨rfl,hx⟩
 refine Xaa (Z5 _ _ (ws λ_ Z9=>wr (df 1 rfl (dl rfl (m1.at rfl) (da (da (de Z9 (Xad ?_))))))))
 refine rt ?_
 rw[Xzx (by simpa using c2) c3]
 exact⟨rfl,hx⟩
@[reducible] def Tb.kv (t:Tb):(Int×Int)×Option Nat:=(t.h,some t.bt)
theorem Xv8 (ts:List Tb)(h:Int×Int):lk (ts.map Tb.kv) h=tabP ts h:=by
 unfold tabP Xcf
 induction ts with
 | nil=>rfl
 | cons t r ih=>
  rw[List.map_cons,Xb2,List.find?_cons]
  by_cases e:t.h=h
  ·simp [e]
  ·simp only [e,decide_false,if_false];exact ih
structure StE (κ:Nat->Nat)(bs bd bl bo bm:Nat)(vf:Value)(L:Led)(D:Dsk)(V:Vs)(ts:List Tb)(mem:List Cell)(dead:Bool)(w:World):Prop where
 m:Blk w bs (stoC bd bl V.next vf bo bm dead) 90
 ld:LD (λk=>κ k=1) bl bd L D w
 mp:MapL Tryz.prog 104 kvII pO w bo (ts.map Tb.kv)
 mr:MRep (λk=>κ k=3) w bm mem
 vs:Arr Fi.cs 5 w vf V.fs
 tb:∀t∈ts,TblE t.bt t.vl t.vb t.cs w
 k0:κ bs=5
 k2:κ bo=2
 k4:V.fs≠[]->κ (base vf).1=4
 k6:∀t∈ts,∀k,tblF t.bt t.vl t.vb k->κ k=6
 lt:∀k,κ k≠0->k<w.heap.size
def updK (κ:Nat->Nat)(i:Nat)(w w':World):Nat->Nat:=λk=>if w.heap.size≤k∧k<w'.heap.size then i else κ k
theorem Xdu {κ:Nat->Nat}{i:Nat}{w w':World}{k:Nat}(h:k<w.heap.size):updK κ i w w' k=κ k:=by unfold updK;rw[if_neg om9]
theorem Xq9 {κ:Nat->Nat}{i:Nat}{w w':World}{k:Nat}(h:w.heap.size≤k)(h2:k<w'.heap.size):updK κ i w w' k=i:=by unfold updK;rw[if_pos ⟨h,h2⟩]
section
variable {κ:Nat->Nat}{bs bd bl bo bm:Nat}{vf:Value}{L:Led}{D:Dsk}{V:Vs}{ts:List Tb}{mem:List Cell}{dead:Bool}{w w':World}{S:Nat->Prop}
theorem StE.mod (h:StE κ bs bd bl bo bm vf L D V ts mem dead w)(m:Vc.Mod S w w')(hS:∀k,κ k≠0->¬ S k):StE κ bs bd bl bo bm vf L D V ts mem dead w':=
 ⟨h.m.mod m (hS _ (by rw[h.k0];decide)),h.ld.mod m (λk hk=>hS k (by rw[hk];decide)),h.mp.mod m (hS _ (by rw[h.k2];decide)),MRep.mod h.mr m (λk hk=>hS k (by rw[hk];decide)),
  h.vs.mod m (λhl=>hS _ (by rw[h.k4 hl];decide)),λt ht=>(h.tb t ht).mod m (λk hk=>hS k (by rw[h.k6 t ht k hk];decide)),h.k0,h.k2,h.k4,h.k6,λk hk=>Nat.lt_of_lt_of_le (h.lt k hk) m.size⟩
theorem StE.ext (h:StE κ bs bd bl bo bm vf L D V ts mem dead w)(x:Ext w w'):StE κ bs bd bl bo bm vf L D V ts mem dead w':=h.mod x (λ_ _ h=>h)
theorem StE.updLt (h:StE κ bs bd bl bo bm vf L D V ts mem dead w)(hs:w.heap.size≤w'.heap.size){i:Nat} : ∀k,updK κ i w w' k≠0->k<w'.heap.size:=λk hk=>by
 unfold updK at hk
 split at hk
 ·omega
 ·exact Nat.lt_of_lt_of_le (h.lt k hk) hs
theorem StE.ledger {L':Led}{D':Dsk}(h:StE κ bs bd bl bo bm vf L D V ts mem dead w)(m:Vc.Mod (λk=>κ k=1) w w')(hl:LD (Xb6 (λk=>κ k=1) w w') bl bd L' D' w'):StE (updK κ 1 w w') bs bd bl bo bm vf L' D' V ts mem dead w':=by
 have hs:=m.size
 have o:∀k,κ k≠0->updK κ 1 w w' k=κ k:=λk hk=>Xdu (h.lt k hk)
 refine⟨h.m.mod m (by rw[h.k0];decide),hl.wide (λk hk=>hk.elim (λe=>(o k (by rw[e];decide)).trans e) (λe=>Xq9 e.1 e.2)) (λk hk=>h.updLt hs k (by rw[hk];decide)),h.mp.mod m (by rw[h.k2];decide),
  (MRep.mod h.mr m (λk hk e=>by rw[hk]at e;cases e)).to (λk hk=>(o k (by rw[hk];decide)).trans hk) (λk hk=>h.updLt hs k (by rw[hk];decide)),h.vs.mod m (λhl=>by rw[h.k4 hl];decide),λt ht=>(h.tb t ht).mod m (λk hk=>by rw[h.k6 t ht k hk];decide),
  (o _ (by rw[h.k0];decide)).trans h.k0,(o _ (by rw[h.k2];decide)).trans h.k2,λhl=>(o _ (by rw[h.k4 hl];decide)).trans (h.k4 hl),λt ht k hk=>(o k (by rw[h.k6 t ht k hk];decide)).trans (h.k6 t ht k hk),h.updLt hs⟩
theorem StE.setMem {mem':List Cell}(h:StE κ bs bd bl bo bm vf L D V ts mem dead w)(m:Vc.Mod (λk=>κ k=3) w w')(hl:MRep (Xvv (λk=>κ k=3) w w') w' bm mem'):StE (updK κ 3 w w') bs bd bl bo bm vf L D V ts mem' dead w':=by
 have hs:=m.size
 have o:∀k,κ k≠0->updK κ 3 w w' k=κ k:=λk hk=>Xdu (h.lt k hk)
 refine⟨h.m.mod m (by rw[h.k0];decide),(h.ld.mod m (λk hk e=>by rw[hk]at e;cases e)).wide (λk hk=>(o k (by rw[hk];decide)).trans hk) (λk hk=>h.updLt hs k (by rw[hk];decide)),h.mp.mod m (by rw[h.k2];decide),
  hl.to (λk hk=>hk.elim (λe=>(o k (by rw[e];decide)).trans e) (λe=>Xq9 e.1 e.2)) (λk hk=>h.updLt hs k (by rw[hk];decide)),h.vs.mod m (λhl=>by rw[h.k4 hl];decide),λt ht=>(h.tb t ht).mod m (λk hk=>by rw[h.k6 t ht k hk];decide),
  (o _ (by rw[h.k0];decide)).trans h.k0,(o _ (by rw[h.k2];decide)).trans h.k2,λhl=>(o _ (by rw[h.k4 hl];decide)).trans (h.k4 hl),λt ht k hk=>(o k (by rw[h.k6 t ht k hk];decide)).trans (h.k6 t ht k hk),h.updLt hs⟩
theorem StE.head {dead':Bool}(h:StE κ bs bd bl bo bm vf L D V ts mem dead w)(m:Vc.Mod (oneB bs) w w')(hm:Blk w' bs (stoC bd bl V.next vf bo bm dead') 90):StE κ bs bd bl bo bm vf L D V ts mem dead' w':=by
 have hs:=m.size
 have o:∀k,κ k≠5->¬ oneB bs k:=λk hk e=>hk (by have e2:k=bs:=e;rw[e2];exact h.k0)
 exact⟨hm,h.ld.mod m (λk hk=>o k (by rw[hk];decide)),h.mp.mod m (o _ (by rw[h.k2];decide)),MRep.mod h.mr m (λk hk=>o k (by rw[hk];decide)),h.vs.mod m (λhl=>o _ (by rw[h.k4 hl];decide)),λt ht=>(h.tb t ht).mod m (λk hk=>o k (by rw[h.k6 t ht k hk];decide)),h.k0,h.k2,h.k4,h.k6,λk hk=>Nat.lt_of_lt_of_le (h.lt k hk) hs⟩
end
section
variable {κ:Nat->Nat}{bs bd bl bo bm:Nat}{vf:Value}{L:Led}{D:Dsk}{V:Vs}{ts:List Tb}{mem:List Cell}{dead:Bool}{w w':World}{S:Nat->Prop}
theorem StE.relab {κ':Nat->Nat}(h:StE κ bs bd bl bo bm vf L D V ts mem dead w)(o:∀k,κ k≠0->κ' k=κ k)(hl:∀k,κ' k≠0->k<w.heap.size):StE κ' bs bd bl bo bm vf L D V ts mem dead w:=
 ⟨h.m,h.ld.wide (λk hk=>(o k (by rw[hk];decide)).trans hk) (λk hk=>hl k (by rw[hk];decide)),h.mp,h.mr.to (λk hk=>(o k (by rw[hk];decide)).trans hk) (λk hk=>hl k (by rw[hk];decide)),h.vs,h.tb,(o _ (by rw[h.k0];decide)).trans h.k0,(o _ (by rw[h.k2];decide)).trans h.k2,
  λhl=>(o _ (by rw[h.k4 hl];decide)).trans (h.k4 hl),λt ht k hk=>(o k (by rw[h.k6 t ht k hk];decide)).trans (h.k6 t ht k hk),hl⟩
def insT (ts:List Tb)(t:Tb):List Tb:=if(Xcf ts t.h).isSome then ts.map (λq=>if q.h=t.h then t else q)else ts++[t]
def delT (ts:List Tb)(h:Int×Int):List Tb:=ts.filter λt=>decide (t.h≠h)
theorem X5d (ts:List Tb)(t:Tb):(insT ts t).map Tb.kv=setL (ts.map Tb.kv) t.h (some t.bt):=by
 unfold insT setL
 rw[Xv8]
 unfold tabP
 rw[Option.isSome_map]
 split
 ·rw[List.map_map,List.map_map]
  apply List.map_congr_left
  intro q _
  simp only [Function.comp]
  split<;>simp_all
 ·simp
theorem X5e (ts:List Tb)(h:Int×Int):(delT ts h).map Tb.kv=delL (ts.map Tb.kv) h:=by
 unfold delT delL
 rw[List.filter_map];rfl
theorem Xzy {ts:List Tb}{t q:Tb}(h:q∈insT ts t):q=t∨q∈ts:=by
 unfold insT at h
 split at h
 ·obtain⟨z,hz,e⟩:=List.mem_map.1 h
  split at e
  ·exact .inl e.symm
  ·exact .inr (e▸hz)
 ·rcases List.mem_append.1 h with h|h
  ·exact .inr h
  ·exact .inl (List.mem_singleton.1 h)
theorem StE.setMap {ts':List Tb}(h:StE κ bs bd bl bo bm vf L D V ts mem dead w)(m:Vc.Mod (oneB bo) w w')(hm:MapL Tryz.prog 104 kvII pO w' bo (ts'.map Tb.kv))(ht:∀t∈ts',TblE t.bt t.vl t.vb t.cs w∧∀k,tblF t.bt t.vl t.vb k->κ k=6):StE κ bs bd bl bo bm vf L D V ts' mem dead w':=by
 have o:∀k,κ k≠2->¬ oneB bo k:=λk hk e=>hk (by have e2:k=bo:=e;rw[e2];exact h.k2)
 exact⟨h.m.mod m (o _ (by rw[h.k0];decide)),h.ld.mod m (λk hk=>o k (by rw[hk];decide)),hm,MRep.mod h.mr m (λk hk=>o k (by rw[hk];decide)),h.vs.mod m (λhl=>o _ (by rw[h.k4 hl];decide)),λt h1=>(ht t h1).1.mod m (λk hk=>o k (by rw[(ht t h1).2 k hk];decide)),h.k0,h.k2,h.k4,λt h1=>(ht t h1).2,λk hk=>Nat.lt_of_lt_of_le (h.lt k hk) m.size⟩
def setK (κ:Nat->Nat)(b i:Nat):Nat->Nat:=λk=>if k=b then i else κ k
theorem StE.setV {V':Vs}{vf':Value}(h:StE κ bs bd bl bo bm vf L D V ts mem dead w)(m:Vc.Mod (oneB bs) w w')(hm:Blk w' bs (stoC bd bl V'.next vf' bo bm dead) 90)(ha:Arr Fi.cs 5 w vf' V'.fs)(hk:V'.fs≠[]->κ (base vf').1=0):StE (if V'.fs=[]then κ else setK κ (base vf').1 4) bs bd bl bo bm vf' L D V' ts mem dead w':=by
 have o:∀k,κ k≠5->¬ oneB bs k:=λk hk e=>hk (by have e2:k=bs:=e;rw[e2];exact h.k0)
 have h1:∀κ',(∀k,κ k≠0->κ' k=κ k)->(∀k,κ' k≠0->k<w.heap.size)->(V'.fs≠[]->κ' (base vf').1=4)->StE κ' bs bd bl bo bm vf' L D V' ts mem dead w':=λκ' e1 e2 e3=>by
  have hr:=h.relab e1 e2
  have o:∀k,κ' k≠5->¬ oneB bs k:=λk hk e=>hk (by have e2:k=bs:=e;rw[e2];exact hr.k0)
  exact⟨hm,hr.ld.mod m (λk hk=>o k (by rw[hk];decide)),hr.mp.mod m (o _ (by rw[hr.k2];decide)),MRep.mod hr.mr m (λk hk=>o k (by rw[hk];decide)),ha.mod m (λhl=>o _ (by rw[e3 hl];decide)),λt ht=>(hr.tb t ht).mod m (λk hk=>o k (by rw[hr.k6 t ht k hk];decide)),hr.k0,hr.k2,e3,hr.k6,λk hk=>Nat.lt_of_lt_of_le (hr.lt k hk) m.size⟩
 split
 ·rename_i e;exact h1 κ (λ_ _=>rfl) h.lt (λhn=>absurd e hn)
 ·rename_i e
  refine h1 _ (λk hk2=>?_) (λk hk2=>?_) (λ_=>by unfold setK;rw[if_pos rfl])
  ·unfold setK
   rw[if_neg]
   intro e2;rw[e2,hk e]at hk2;exact hk2 rfl
  ·unfold setK at hk2
   split at hk2
   ·rename_i e2;rw[e2];exact ha.base_lt dc9 e
   ·exact h.lt k hk2
end
theorem LD.disk {H:Nat->Prop}{bl bd:Nat}{L:Led}{D:Dsk}{w:World}(h:LD H bl bd L D w):∃F:Nat->Prop,Xax F bd D w∧(∀k,F k->H k)∧∀(D':Dsk) (w':World),Vc.Mod F w w'->Xax (Xb6 F w w') bd D' w'->LD (Xb6 H w w') bl bd L D' w':=by
 obtain⟨F,G,vd,ve,vs,h1,h2,h3,h4,h5⟩:=h
 refine⟨F,h1,λk hk=>h4 k (.inl hk),λD' w' m hd=>?_⟩
 refine⟨Xb6 F w w',G,vd,ve,vs,hd,h2.mod m (λk hk hf=>h3 k hf hk),λk hk hg=>hk.elim (λe=>h3 k e hg) (λe=>by have:=h2.lt k hg;omega),λk hk=>hk.elim (λe=>e.elim (λe=>.inl (h4 k (.inl e))) .inr) (λe=>.inl (h4 k (.inr e))),Xbj h5 m.size⟩
end Go.Proofs.YtiooodckiddpmaaGreatDoor
namespace Go.Sp
open Go.Vc
variable {α:Type}
structure Ord (lt:α->α->Bool):Prop where
 tr:∀x y z,lt y x=false->lt z y=false->lt z x=false
 az:∀x y,lt x y=true->lt y x=false
def Up (lt:α->α->Bool)(l:List α):Prop:=l.Pairwise λx y=>lt y x=false
theorem X1x {X Y:List α}{i:Nat}{x:α}(h:X.length≤i):(X++Y)[i]?=Y[i-X.length]?:=List.getElem?_append_right h
theorem Xo9 {X Y:List α}{i:Nat}{x:α}(h:X.length≤i):(X++Y).set i x=X++Y.set (i-X.length) x:=List.set_append_right _ _ h
theorem Xra (X M Y:List α)(x y:α):((X++x :: (M++y :: Y)).set X.length y).set (X.length+1+M.length) x=X++y :: (M++x :: Y):=by
 rw[Xo9 (Nat.le_refl _),Nat.sub_self,List.set_cons_zero,Xo9 om9,show X.length+1+M.length-X.length=M.length+1 by omega,List.set_cons_succ,Xo9 (Nat.le_refl _),Nat.sub_self,List.set_cons_zero]
theorem Xll (X Y:List α)(x y:α):((X++x :: y :: Y).set X.length y).set (X.length+1) x=X++y :: x :: Y:=Xra X [] Y x y
theorem Up.left {lt:α->α->Bool}{A B:List α}(h:Up lt (A++B)):Up lt A:=(List.pairwise_append.1 h).1
theorem Up.right {lt:α->α->Bool}{A B:List α}(h:Up lt (A++B)):Up lt B:=(List.pairwise_append.1 h).2.1
theorem Up.app {lt:α->α->Bool}{A B:List α}(ha:Up lt A)(hb:Up lt B)(h:∀x∈A,∀y∈B,lt y x=false):Up lt (A++B):=List.pairwise_append.2 ⟨ha,hb,h⟩
theorem Up.at {lt:α->α->Bool}{A:List α}(h:Up lt A){i j:Nat}{x y:α}(hi:A[i]?=some x)(hj:A[j]?=some y)(hij:i<j):lt y x=false:=by
 obtain⟨h1,rfl⟩:=List.getElem?_eq_some_iff.1 hi
 obtain⟨h2,rfl⟩:=List.getElem?_eq_some_iff.1 hj
 exact List.pairwise_iff_getElem.1 h i j h1 h2 hij
theorem Ord.refl {lt:α->α->Bool}(O:Ord lt)(x:α):lt x x=false:=by
 cases h:lt x x with
 | false=>rfl
 | true=>have:=O.az x x h;rw[h]at this;exact this
theorem Up.le {lt:α->α->Bool}(O:Ord lt){A:List α}(h:Up lt A){i j:Nat}{x y:α}(hi:A[i]?=some x)(hj:A[j]?=some y)(hij:i≤j):lt y x=false:=by
 rcases Nat.lt_or_ge i j with h1|h1
 ·exact h.at hi hj h1
 ·have:i=j:=by omega
  subst this;rw[hi]at hj;cases hj;exact O.refl _
theorem parts_le {lt:α->α->Bool}(O:Ord lt){A B:List α}(hA:Up lt A)(hB:Up lt B){s t:Nat}(hs:s≤A.length)(ht:t≤B.length)
  (h1:s=0∨t=B.length∨∃x y,A[s-1]?=some x∧B[t]?=some y∧lt y x=false) (h2:s=A.length∨t=0∨∃x y,A[s]?=some x∧B[t-1]?=some y∧lt y x=true) :
  ∀x∈A.take s++B.take t,∀y∈A.drop s++B.drop t,lt y x=false:=by
 intro x hx y hy
 rcases List.mem_append.1 hx with hx|hx
 ·obtain⟨i,hi⟩:=List.getElem?_of_mem hx
  rw[List.getElem?_take]at hi
  split at hi
  ·rename_i hlt
   rcases List.mem_append.1 hy with hy|hy
   ·obtain⟨j,hj⟩:=List.getElem?_of_mem hy
    rw[List.getElem?_drop]at hj
    exact hA.at hi hj om9
   ·obtain⟨j,hj⟩:=List.getElem?_of_mem hy
    rw[List.getElem?_drop]at hj
    have hjl:=(List.getElem?_eq_some_iff.1 hj).1
    rcases h1 with h|h|⟨a,b,ha,hb,hab⟩
    ·omega
    ·omega
    ·exact O.tr _ _ _ (hA.le O hi ha om9) (O.tr _ _ _ hab (hB.le O hb hj om9))
  ·cases hi
 ·obtain⟨i,hi⟩:=List.getElem?_of_mem hx
  rw[List.getElem?_take]at hi
  split at hi
  ·rename_i hlt
   rcases List.mem_append.1 hy with hy|hy
   ·obtain⟨j,hj⟩:=List.getElem?_of_mem hy
    rw[List.getElem?_drop]at hj
    have hjl:=(List.getElem?_eq_some_iff.1 hj).1
    rcases h2 with h|h|⟨a,b,ha,hb,hab⟩
    ·omega
    ·omega
    ·exact O.tr _ _ _ (hB.le O hi hb om9) (O.tr _ _ _ (O.az _ _ hab) (hA.le O ha hj om9))
   ·obtain⟨j,hj⟩:=List.getElem?_of_mem hy
    rw[List.getElem?_drop]at hj
    exact hB.at hi hj om9
  ·cases hi
theorem X1y {lt:α->α->Bool}(O:Ord lt){B:List α}{x:α}(hB:Up lt B){t:Nat}(ht:t≤B.length)(h1:t=B.length∨∃y,B[t]?=some y∧lt y x=false)(h2:t=0∨∃y,B[t-1]?=some y∧lt x y=false):Up lt (B.take t++x :: B.drop t):=by
 have hB':Up lt (B.take t++B.drop t):=by rw[List.take_append_drop];exact hB
 refine Up.app hB'.left (List.pairwise_cons.2 ⟨λy hy=>?_,hB'.right⟩) λz hz y hy=>?_
 ·obtain⟨j,hj⟩:=List.getElem?_of_mem hy
  rw[List.getElem?_drop]at hj
  have hjl:=(List.getElem?_eq_some_iff.1 hj).1
  rcases h1 with h|⟨b,hb,hbx⟩
  ·omega
  ·exact O.tr _ _ _ hbx (hB.le O hb hj om9)
 ·obtain⟨i,hi⟩:=List.getElem?_of_mem hz
  rw[List.getElem?_take]at hi
  split at hi
  ·rename_i hlt
   have hzx:lt x z=false:=by
    rcases h2 with h|⟨b,hb,hbx⟩
    ·omega
    ·exact O.tr _ _ _ (hB.le O hi hb om9) hbx
   rcases List.mem_cons.1 hy with rfl|hy
   ·exact hzx
   ·obtain⟨j,hj⟩:=List.getElem?_of_mem hy
    rw[List.getElem?_drop]at hj
    exact hB.at hi hj om9
  ·cases hi
def UpOn (lt:α->α->Bool)(l:List α)(a b:Nat):Prop:=Up lt ((l.take b).drop a)
theorem X8e (l:List α){a b:Nat}(hab:a≤b):l.take a++(l.take b).drop a++l.drop b=l:=by
 have e:l.take a=(l.take b).take a:=by rw[List.take_take,Nat.min_eq_left hab]
 rw[e,List.take_append_drop,List.take_append_drop]
variable {α:Type}
def Srt (lt:α->α->Bool)(a b:Nat)(l l':List α):Prop:=∃P M M' Q:List α,l=P++(M++Q)∧l'=P++(M'++Q)∧P.length=a∧a+M.length=b∧M'.Perm M∧Up lt M'
theorem cut3 (l:List α){a b:Nat}(hab:a≤b)(hb:b≤l.length):∃P M Q:List α,l=P++(M++Q)∧P.length=a∧a+M.length=b:=by
 refine⟨l.take a,(l.take b).drop a,l.drop b,?_,?_,?_⟩
 ·have:=X8e l hab;rw[List.append_assoc]at this;exact this.symm
 ·rw[List.length_take];omega
 ·rw[List.length_drop,List.length_take];omega
theorem Xeo {P P' X X':List α}(h:P++X=P'++X')(hl:P.length=P'.length):P=P'∧X=X':=List.append_inj h hl
theorem Srt.len {lt:α->α->Bool}{a b:Nat}{l l':List α}(h:Srt lt a b l l'):l'.length=l.length∧a≤b∧b≤l.length:=by
 obtain⟨P,M,M',Q,rfl,rfl,h1,h2,h3,_⟩:=h
 have:=h3.length_eq
 simp only [List.length_append];omega
theorem Srt.perm {lt:α->α->Bool}{a b:Nat}{l l':List α}(h:Srt lt a b l l'):l'.Perm l:=by
 obtain⟨P,M,M',Q,rfl,rfl,h1,h2,h3,_⟩:=h
 exact List.Perm.append_left _ (h3.append_right _)
theorem Srt.one {lt:α->α->Bool}{a b:Nat}(l:List α)(hab:a≤b)(hb:b≤l.length)(h1:b≤a+1):Srt lt a b l l:=by
 obtain⟨P,M,Q,e,h2,h3⟩:=cut3 l hab hb
 refine⟨P,M,M,Q,e,e,h2,h3,.refl _,?_⟩
 rcases M with _|⟨x,_|⟨y,M⟩⟩
 ·exact List.Pairwise.nil
 ·exact List.pairwise_singleton _ _
 ·simp at h3;omega
def InsJ (lt:α->α->Bool)(a i j:Nat)(l cur:List α):Prop:=∃(P M A B Q:List α) (x:α),l=P++(M++(x :: Q))∧cur=P++(A++(x :: (B++Q)))∧P.length=a∧a+M.length=i∧a+A.length=j∧(A++B).Perm M∧Up lt (A++B)∧∀y∈B,lt x y=true
theorem InsJ.len {lt:α->α->Bool}{a i j:Nat}{l cur:List α}(h:InsJ lt a i j l cur):cur.length=l.length∧a≤j∧j≤i∧i<l.length:=by
 obtain⟨P,M,A,B,Q,x,rfl,rfl,h1,h2,h3,h4,_,_⟩:=h
 have:=h4.length_eq
 simp only [List.length_append,List.length_cons]at *;omega
theorem X1z {lt:α->α->Bool}{a i:Nat}{l cur:List α}(h:Srt lt a i l cur)(hi:i<l.length):InsJ lt a i i l cur:=by
 obtain⟨P,M,M',Q,rfl,rfl,h1,h2,h3,h4⟩:=h
 rcases Q with _|⟨x,Q⟩
 ·simp only [List.length_append,List.length_nil]at hi;omega
 ·exact⟨P,M,M',[],Q,x,rfl,rfl,h1,h2,by rw[h3.length_eq];exact h2,by rw[List.append_nil];exact h3,by rw[List.append_nil];exact h4,by intro y hy;cases hy⟩
theorem Xep {P A R:List α}{x:α}{j:Nat}(h:P.length+A.length=j):(P++(A++(x :: R)))[j]?=some x:=by
 rw[X1x (x:=x) om9,X1x (x:=x) om9,show j-P.length-A.length=0 by omega];rfl
theorem Xnf {lt:α->α->Bool}{a i j:Nat}{l cur:List α}{x z:α}(h:InsJ lt a i j l cur)(hj:a<j)(hx:cur[j]?=some x)(hz:cur[j-1]?=some z)(hlt:lt x z=true):InsJ lt a i (j-1) l ((cur.set j z).set (j-1) x):=by
 obtain⟨P,M,A,B,Q,x',e1,e2,h1,h2,h3,h4,h5,h6⟩:=h
 rcases List.eq_nil_or_concat A with rfl|⟨A',z',rfl⟩
 ·simp at h3;omega
 ·simp only [List.concat_eq_append,List.length_append,List.length_cons,List.length_nil]at *
  have ex:x'=x:=by
   rw[e2,Xep (by simp;omega)]at hx;exact Option.some.inj hx
  have ez:z'=z:=by
   rw[e2,List.append_assoc,List.cons_append,List.nil_append,Xep om9]at hz;exact Option.some.inj hz
  subst ex;subst ez
  refine⟨P,M,A',z' :: B,Q,x',e1,?_,h1,h2,by omega,by simpa using h4,by simpa using h5,λy hy=>(List.mem_cons.1 hy).elim (λe=>e▸hlt) (h6 y)⟩
  have:=Xll (P++A') (B++Q) z' x'
  rw[e2]
  rw[List.set_comm _ _ om9]
  have ej:j=(P++A').length+1:=by simp;omega
  rw[ej,Nat.add_sub_cancel]
  simpa using this
theorem Xg0 {lt:α->α->Bool}(O:Ord lt){a i j:Nat}{l cur:List α}(h:InsJ lt a i j l cur)(hs:j=a∨∃x z,cur[j]?=some x∧cur[j-1]?=some z∧lt x z=false):Srt lt a (i+1) l cur:=by
 obtain⟨P,M,A,B,Q,x,e1,e2,h1,h2,h3,h4,h5,h6⟩:=h
 refine⟨P,M++[x],A++x :: B,Q,by rw[e1];simp,by rw[e2];simp,h1,by simp;omega,?_,?_⟩
 ·exact List.perm_middle.trans ((List.Perm.cons x h4).trans (List.perm_append_singleton x M).symm)
 ·have hxB:∀y∈B,lt y x=false:=λy hy=>O.az _ _ (h6 y hy)
  refine Up.app h5.left (List.pairwise_cons.2 ⟨hxB,h5.right⟩) λy hy w hw=>?_
  rcases List.mem_cons.1 hw with rfl|hw
  ·rcases hs with rfl|⟨x',z,hx,hz,hlt⟩
   ·have:A=[]:=List.eq_nil_of_length_eq_zero om9
    subst this;cases hy
   ·rcases List.eq_nil_or_concat A with rfl|⟨A',z',rfl⟩
    ·cases hy
    ·simp only [List.concat_eq_append,List.length_append,List.length_cons,List.length_nil]at *
     have ex:w=x':=by rw[e2,Xep (by simp;omega)]at hx;exact Option.some.inj hx
     have ez:z'=z:=by rw[e2,List.append_assoc,List.cons_append,List.nil_append,Xep om9]at hz;exact Option.some.inj hz
     subst ex;subst ez
     rcases List.mem_append.1 hy with hy|hy
     ·exact O.tr _ _ _ ((List.pairwise_append.1 h5.left).2.2 y hy z' sp9) hlt
     ·rw[List.mem_singleton.1 hy];exact hlt
  ·exact(List.pairwise_append.1 h5).2.2 y hy w hw
def Swp (a b n:Nat)(l l':List α):Prop:=∃P U M V Q:List α,l=P++(U++(M++(V++Q)))∧l'=P++(V++(M++(U++Q)))∧P.length=a∧U.length=n∧V.length=n∧a+n+M.length=b
def SwR (a b n i:Nat)(l cur:List α):Prop:=∃P U1 U2 M V1 V2 Q:List α,l=P++((U1++U2)++(M++((V1++V2)++Q)))∧cur=P++(V1++(U2++(M++(U1++(V2++Q)))))∧P.length=a∧U1.length=i∧V1.length=i∧i+U2.length=n∧i+V2.length=n∧a+n+M.length=b
theorem SwR.len {a b n i:Nat}{l cur:List α}(h:SwR a b n i l cur):cur.length=l.length∧b+n≤l.length∧a+n≤b∧i≤n:=by
 obtain⟨P,U1,U2,M,V1,V2,Q,rfl,rfl,h1,h2,h3,h4,h5,h6⟩:=h
 simp only [List.length_append];omega
theorem X8f {a b n:Nat}{l:List α}(h1:a+n≤b)(h2:b+n≤l.length):SwR a b n 0 l l:=by
 obtain⟨P,X,R,e,hP,hX⟩:=cut3 l (a:=a) (b:=b) om9 om9
 obtain⟨V,_,Q,e2,hV,_⟩:=cut3 R (a:=n) (b:=n) (Nat.le_refl _) (by have:=congrArg List.length e;simp only [List.length_append]at this;omega)
 rename_i Z hZ
 have eZ:Z=[]:=List.eq_nil_of_length_eq_zero om9
 subst eZ
 obtain⟨U,_,M,e3,hU,_⟩:=cut3 X (a:=n) (b:=n) (Nat.le_refl _) om9
 rename_i Z hZ
 have eZ:Z=[]:=List.eq_nil_of_length_eq_zero om9
 subst eZ
 have hm:=congrArg List.length e3
 simp only [List.length_append,List.length_nil]at hm
 refine⟨P,[],U,M,[],V,Q,?_,?_,hP,rfl,rfl,by omega,by omega,by omega⟩<;>rw[e,e2,e3]<;>simp
theorem Xrb {a b n i:Nat}{l cur:List α}{x y:α}(h:SwR a b n i l cur)(hi:i<n)(hx:cur[a+i]?=some x)(hy:cur[b+i]?=some y):SwR a b n (i+1) l ((cur.set (a+i) y).set (b+i) x):=by
 obtain⟨P,U1,U2,M,V1,V2,Q,e1,e2,h1,h2,h3,h4,h5,h6⟩:=h
 rcases U2 with _|⟨x',U2⟩
 ·simp at h4;omega
 rcases V2 with _|⟨y',V2⟩
 ·simp at h5;omega
 simp only [List.length_cons]at h4 h5
 have ex:x'=x:=by rw[e2,List.cons_append,Xep om9]at hx;exact Option.some.inj hx
 have ey:y'=y:=by
  have:cur=(P++(V1++(x' :: U2)))++((M++U1)++(y' :: (V2++Q))):=by rw[e2];simp
  rw[this,Xep (by simp;omega)]at hy;exact Option.some.inj hy
 subst ex;subst ey
 refine⟨P,U1++[x'],U2,M,V1++[y'],V2,Q,by rw[e1];simp,?_,h1,by simp;omega,by simp;omega,by omega,by omega,h6⟩
 have:=Xra (P++V1) (U2++(M++U1)) (V2++Q) x' y'
 rw[e2,show a+i=(P++V1).length by simp;omega,show b+i=(P++V1).length+1+(U2++(M++U1)).length by simp;omega]
 simpa using this
theorem Xv9 {a b n:Nat}{l cur:List α}(h:SwR a b n n l cur):Swp a b n l cur:=by
 obtain⟨P,U1,U2,M,V1,V2,Q,e1,e2,h1,h2,h3,h4,h5,h6⟩:=h
 have eU:U2=[]:=List.eq_nil_of_length_eq_zero om9
 have eV:V2=[]:=List.eq_nil_of_length_eq_zero om9
 subst eU;subst eV
 exact⟨P,U1,M,V1,Q,by rw[e1];simp,by rw[e2];simp,h1,h2,h3,h6⟩
theorem Swp.at {a b n:Nat}{l l' P U M V Q:List α}(h:Swp a b n l l')(e:l=P++(U++(M++(V++Q))))(h1:P.length=a)(h2:U.length=n)(h3:V.length=n)(h4:a+n+M.length=b):l'=P++(V++(M++(U++Q))):=by
 obtain⟨P',U',M',V',Q',e',rfl,g1,g2,g3,g4⟩:=h
 rw[e]at e'
 obtain⟨a1,b1⟩:=Xeo e' om9
 obtain⟨a2,b2⟩:=Xeo b1 om9
 obtain⟨a3,b3⟩:=Xeo b2 om9
 obtain⟨a4,b4⟩:=Xeo b3 om9
 rw[a1,a2,a3,a4,b4]
def RotI (m i j:Nat)(T cur:List α):Prop:=∃P X Y Q:List α,cur=P++(X++(Y++Q))∧X.length=i∧Y.length=j∧P.length+i=m∧T=P++(Y++(X++Q))
theorem RotI.len {m i j:Nat}{T cur:List α}(h:RotI m i j T cur):cur.length=T.length∧i≤m∧m+j≤T.length:=by
 obtain⟨P,X,Y,Q,rfl,h1,h2,h3,rfl⟩:=h
 simp only [List.length_append];omega
theorem cut2 (l:List α){a:Nat}(h:a≤l.length):∃P Q:List α,l=P++Q∧P.length=a:=⟨l.take a,l.drop a,(List.take_append_drop _ _).symm,by rw[List.length_take];omega⟩
theorem X13 {m i j:Nat}{T cur cur':List α}(h:RotI m i j T cur)(hij:j<i)(hs:Swp (m-i) m j cur cur'):RotI m (i-j) j T cur':=by
 obtain⟨P,X,Y,Q,e1,h1,h2,h3,e2⟩:=h
 obtain⟨X1,X2,rfl,hX⟩:=cut2 X (a:=j) om9
 rw[List.length_append]at h1
 have:=hs.at (P:=P) (U:=X1) (M:=X2) (V:=Y) (Q:=Q) (by rw[e1];simp) om9 hX h2 om9
 exact⟨P++Y,X2,X1,Q,by rw[this];simp,by omega,hX,by simp;omega,by rw[e2];simp⟩
theorem X2a {m i j:Nat}{T cur cur':List α}(h:RotI m i j T cur)(hij:i<j)(hs:Swp (m-i) (m+j-i) i cur cur'):RotI m i (j-i) T cur':=by
 obtain⟨P,X,Y,Q,e1,h1,h2,h3,e2⟩:=h
 obtain⟨Y1,Y2,rfl,hY⟩:=cut2 Y (a:=j-i) om9
 rw[List.length_append]at h2
 have:=hs.at (P:=P) (U:=X) (M:=Y1) (V:=Y2) (Q:=Q) (by rw[e1];simp) om9 h1 om9 om9
 exact⟨P,Y2,Y1,X++Q,by rw[this],by omega,by omega,h3,by rw[e2];simp⟩
theorem X2b {m i:Nat}{T cur cur':List α}(h:RotI m i i T cur)(hs:Swp (m-i) m i cur cur'):cur'=T:=by
 obtain⟨P,X,Y,Q,e1,h1,h2,h3,e2⟩:=h
 have:=hs.at (P:=P) (U:=X) (M:=[]) (V:=Y) (Q:=Q) (by rw[e1];simp) om9 h1 h2 (by simp;omega)
 rw[this,e2];simp
def Rot (a m b:Nat)(l l':List α):Prop:=∃P U V Q:List α,l=P++(U++(V++Q))∧l'=P++(V++(U++Q))∧P.length=a∧a+U.length=m∧m+V.length=b
theorem cut4 (l:List α){a m b:Nat}(ham:a≤m)(hmb:m≤b)(hb:b≤l.length):∃P U V Q:List α,l=P++(U++(V++Q))∧P.length=a∧a+U.length=m∧m+V.length=b:=by
 obtain⟨P,M,Q,e,h1,h2⟩:=cut3 l (Nat.le_trans ham hmb) hb
 obtain⟨U,V,e2,h3⟩:=cut2 M (a:=m-a) om9
 have:=congrArg List.length e2
 rw[List.length_append]at this
 exact⟨P,U,V,Q,by rw[e,e2];simp,h1,by omega,by omega⟩
def rotT (l:List α)(a m b:Nat):List α:=l.take a++((l.take b).drop m++((l.take m).drop a++l.drop b))
theorem Xwa {P U V Q:List α}{a m b:Nat}(h1:P.length=a)(h2:a+U.length=m)(h3:m+V.length=b):rotT (P++(U++(V++Q))) a m b=P++(V++(U++Q)):=by
 subst h1;subst h2;subst h3
 unfold rotT
 have e1:(P++(U++(V++Q))).take P.length=P:=List.take_left' rfl
 have e2:(P++(U++(V++Q))).take (P.length+U.length)=P++U:=by rw[←List.append_assoc];exact List.take_left' sp9
 have e3:(P++(U++(V++Q))).take (P.length+U.length+V.length)=P++(U++V):=by
  rw[show P++(U++(V++Q))=(P++(U++V))++Q by simp];exact List.take_left' (by simp;omega)
 have e4:(P++(U++(V++Q))).drop (P.length+U.length+V.length)=Q:=by
  rw[show P++(U++(V++Q))=(P++(U++V))++Q by simp];exact List.drop_left' (by simp;omega)
 have e5:(P++U).drop P.length=U:=List.drop_left' rfl
 have e6:(P++(U++V)).drop (P.length+U.length)=V:=by rw[←List.append_assoc];exact List.drop_left' sp9
 rw[e1,e2,e3,e4,e5,e6]
theorem Xzz {l:List α}{a m b:Nat}(ham:a≤m)(hmb:m≤b)(hb:b≤l.length):RotI m (m-a) (b-m) (rotT l a m b) l:=by
 obtain⟨P,U,V,Q,e,h1,h2,h3⟩:=cut4 l ham hmb hb
 exact⟨P,U,V,Q,e,by omega,by omega,by omega,by rw[e];exact Xwa h1 h2 h3⟩
def SM (lt:α->α->Bool)(a m b:Nat)(l:List α):Prop:=∃P A B Q:List α,l=P++(A++(B++Q))∧P.length=a∧a+A.length=m∧m+B.length=b∧Up lt A∧Up lt B
theorem Xlm {lt:α->α->Bool}{P M Q:List α}{a b:Nat}(h1:P.length=a)(h2:a+M.length=b):UpOn lt (P++(M++Q)) a b↔Up lt M:=by
 subst h1;subst h2
 unfold UpOn
 have e1:(P++(M++Q)).take (P.length+M.length)=P++M:=by rw[←List.append_assoc];exact List.take_left' sp9
 rw[e1,List.drop_left' rfl]
theorem X8g {lt:α->α->Bool}{a m b:Nat}{l:List α}(ham:a≤m)(hmb:m≤b)(hb:b≤l.length)(h1:UpOn lt l a m)(h2:UpOn lt l m b):SM lt a m b l:=by
 obtain⟨P,A,B,Q,rfl,e1,e2,e3⟩:=cut4 l ham hmb hb
 refine⟨P,A,B,Q,rfl,e1,e2,e3,(Xlm e1 e2).1 h1,?_⟩
 rw[←List.append_assoc]at h2
 exact(Xlm (by simp;omega) e3).1 h2
theorem Srt.up {lt:α->α->Bool}{a b:Nat}{l l':List α}(h:Srt lt a b l l'):UpOn lt l' a b:=by
 obtain⟨P,M,M',Q,rfl,rfl,h1,h2,h3,h4⟩:=h
 exact(Xlm h1 (by rw[h3.length_eq];exact h2)).2 h4
theorem Srt.keep {lt:α->α->Bool}{a b c d:Nat}{l l':List α}(h:Srt lt a b l l')(hcd:d≤a∨b≤c)(hu:UpOn lt l c d):UpOn lt l' c d:=by
 obtain⟨P,M,M',Q,rfl,rfl,h1,h2,h3,h4⟩:=h
 have hl:=h3.length_eq
 unfold UpOn at *
 rcases hcd with h|h
 ·rw[List.take_append_of_le_length om9]at hu ⊢;exact hu
 ·have e:∀N:List α,N.length=M.length->((P++(N++Q)).take d).drop c=(Q.take (d-b)).drop (c-b):=by
   intro N hN
   rw[←List.append_assoc,List.take_append,List.drop_append]
   have:((P++N).take d).drop c=[]:=List.drop_eq_nil_of_le (by rw[List.length_take,List.length_append];omega)
   rw[this,List.nil_append,List.length_take,List.length_append]
   rcases Nat.lt_or_ge d (P.length+N.length)with h9|h9
   ·rw[show d-(P.length+N.length)=0 by omega,show d-b=0 by omega];simp
   ·rw[show c-min d (P.length+N.length)=c-b by omega,show d-(P.length+N.length)=d-b by omega]
  rw[e M rfl]at hu
  rw[e M' hl];exact hu
def ShU (a k:Nat)(l cur:List α):Prop:=∃(P B R:List α) (x:α),l=P++(x :: (B++R))∧cur=P++(B++(x :: R))∧P.length=a∧a+B.length=k
theorem ShU.len {a k:Nat}{l cur:List α}(h:ShU a k l cur):cur.length=l.length∧a≤k∧k<l.length:=by
 obtain⟨P,B,R,x,rfl,rfl,h1,h2⟩:=h
 simp only [List.length_append,List.length_cons];omega
theorem X8h {a:Nat}{l:List α}(h:a<l.length):ShU a a l l:=by
 obtain⟨P,Q,rfl,hP⟩:=cut2 l (a:=a) om9
 rcases Q with _|⟨x,Q⟩
 ·simp at h;omega
 ·exact⟨P,[],Q,x,rfl,rfl,hP,rfl⟩
theorem Xrc {a k:Nat}{l cur:List α}{x y:α}(h:ShU a k l cur)(hx:cur[k]?=some x)(hy:cur[k+1]?=some y):ShU a (k+1) l ((cur.set k y).set (k+1) x):=by
 obtain⟨P,B,R,x',e1,e2,h1,h2⟩:=h
 have ex:x'=x:=by rw[e2,Xep om9]at hx;exact Option.some.inj hx
 subst ex
 rcases R with _|⟨y',R⟩
 ·exfalso
  rw[e2,List.getElem?_eq_none (by simp;omega)]at hy;cases hy
 ·have ey:y'=y:=by
   have:cur=(P++B)++([x']++(y' :: R)):=by rw[e2];simp
   rw[this,Xep (by simp;omega)]at hy;exact Option.some.inj hy
  subst ey
  refine⟨P,B++[y'],R,x',by rw[e1];simp,?_,h1,by simp;omega⟩
  have:=Xll (P++B) R x' y'
  rw[e2,show k=(P++B).length by simp;omega]
  simpa using this
def ShD (m k:Nat)(l cur:List α):Prop:=∃(P A R:List α) (x:α),l=P++(A++(x :: R))∧cur=P++(x :: (A++R))∧P.length=k∧k+A.length=m
theorem ShD.len {m k:Nat}{l cur:List α}(h:ShD m k l cur):cur.length=l.length∧k≤m∧m<l.length:=by
 obtain⟨P,B,R,x,rfl,rfl,h1,h2⟩:=h
 simp only [List.length_append,List.length_cons];omega
theorem X8i {m:Nat}{l:List α}(h:m<l.length):ShD m m l l:=by
 obtain⟨P,Q,rfl,hP⟩:=cut2 l (a:=m) om9
 rcases Q with _|⟨x,Q⟩
 ·simp at h;omega
 ·exact⟨P,[],Q,x,rfl,rfl,hP,rfl⟩
theorem Xrd {m k:Nat}{l cur:List α}{x y:α}(h:ShD m k l cur)(hk:0<k)(hx:cur[k]?=some x)(hy:cur[k-1]?=some y):ShD m (k-1) l ((cur.set k y).set (k-1) x):=by
 obtain⟨P,A,R,x',e1,e2,h1,h2⟩:=h
 have ex:x'=x:=by rw[e2,show P++(x' :: (A++R))=P++([]++(x' :: (A++R))) from rfl,Xep (by simpa using h1)]at hx;exact Option.some.inj hx
 subst ex
 rcases List.eq_nil_or_concat P with rfl|⟨P',y',rfl⟩
 ·simp at h1;omega
 ·simp only [List.concat_eq_append,List.length_append,List.length_cons,List.length_nil]at *
  have ey:y'=y:=by
   rw[e2,show P'++[y']++(x' :: (A++R))=P'++([]++(y' :: (x' :: (A++R)))) by simp,Xep (by simp;omega)]at hy;exact Option.some.inj hy
  subst ey
  refine⟨P',y' :: A,R,x',by rw[e1];simp,?_,by omega,by simp;omega⟩
  have:=Xll P' (A++R) y' x'
  rw[e2,List.set_comm _ _ om9,show k=P'.length+1 by omega,Nat.add_sub_cancel]
  simp;done
theorem Xwb {lt:α->α->Bool}(O:Ord lt){a m b i:Nat}{l cur:List α}(h:SM lt a m b l)(hm:m=a+1)(hi:m≤i)(hib:i≤b)(hc:ShU a (i-1) l cur)
  (h1:i=b∨∃x y,l[a]?=some x∧l[i]?=some y∧lt y x=false) (h2:i=m∨∃x y,l[a]?=some x∧l[i-1]?=some y∧lt y x=true):Srt lt a b l cur:=by
 obtain⟨P,A,B,Q,rfl,g1,g2,g3,g4,g5⟩:=h
 rcases A with _|⟨x,_|⟨x2,A⟩⟩
 ·simp at g2;omega
 ·obtain⟨P',B',R,x',e1,e2,f1,f2⟩:=hc
  obtain⟨r1,r2⟩:=Xeo e1 om9
  simp only [List.cons_append,List.nil_append,List.cons.injEq]at r2
  obtain⟨rfl,r2⟩:=r2
  subst r1
  have ht:i-m≤B.length:=by omega
  have eB:B'=B.take (i-m)∧R=B.drop (i-m)++Q:=by
   have r3:B.take (i-m)++(B.drop (i-m)++Q)=B'++R:=by rw[←List.append_assoc,List.take_append_drop];exact r2
   have r4:=Xeo r3 (by rw[List.length_take];omega)
   exact⟨r4.1.symm,r4.2.symm⟩
  have hx9:(P++([x]++(B++Q)))[a]?=some x:=by
   rw[show P++([x]++(B++Q))=P++([]++(x :: (B++Q))) from rfl];exact Xep (by simpa using g1)
  have hB:∀k,k<B.length->(P++([x]++(B++Q)))[m+k]?=B[k]?:=by
   intro k hk
   rw[←List.append_assoc,List.getElem?_append_right (by simp;omega),show m+k-(P++[x]).length=k by simp;omega,List.getElem?_append_left hk]
  refine⟨P,[x]++B,B.take (i-m)++x :: B.drop (i-m),Q,by simp,by rw[e2,eB.1,eB.2];simp,g1,by simp;omega,?_,?_⟩
  ·refine List.perm_middle.trans ?_
   rw[List.take_append_drop];exact .refl _
  ·refine X1y O g5 ht ?_ ?_
   ·rcases h1 with h|⟨x1,y,q1,q2,q3⟩
    ·left;omega
    ·rcases Nat.lt_or_ge (i-m) B.length with h9|h9
     ·right
      rw[hx9]at q1;cases q1
      have:=hB (i-m) h9
      rw[show m+(i-m)=i by omega,q2]at this
      exact⟨y,this.symm,q3⟩
     ·left;omega
   ·rcases h2 with h|⟨x1,y,q1,q2,q3⟩
    ·left;omega
    ·right
     rw[hx9]at q1;cases q1
     rcases Nat.eq_or_lt_of_le hi with h9|h9
     ·exfalso
      rw[show i-1=a by omega,hx9]at q2;cases q2
      rw[O.refl]at q3;cases q3
     ·have:=hB (i-m-1) om9
      rw[show m+(i-m-1)=i-1 by omega,q2]at this
      exact⟨y,this.symm,O.az _ _ q3⟩
 ·simp at g2;omega
theorem Xwc {lt:α->α->Bool}(O:Ord lt){a m b i:Nat}{l cur:List α}(h:SM lt a m b l)(hm:b=m+1)(hi:a≤i)(hib:i≤m)(hc:ShD m i l cur)
  (h1:i=m∨∃x y,l[m]?=some x∧l[i]?=some y∧lt x y=true) (h2:i=a∨∃x y,l[m]?=some x∧l[i-1]?=some y∧lt x y=false):Srt lt a b l cur:=by
 obtain⟨P,A,B,Q,rfl,g1,g2,g3,g4,g5⟩:=h
 rcases B with _|⟨x,_|⟨x2,B⟩⟩
 ·simp at g3;omega
 ·obtain⟨P',A',R,x',e1,e2,f1,f2⟩:=hc
  have ht:i-a≤A.length:=by omega
  have e3:(P++A.take (i-a))++(A.drop (i-a)++(x :: Q))=P'++(A'++(x' :: R)):=by
   rw[←e1,List.append_assoc,←List.append_assoc (A.take _),List.take_append_drop];rfl
  obtain⟨r1,r2⟩:=Xeo e3 (by simp;omega)
  obtain⟨r3,r4⟩:=Xeo r2 (by rw[List.length_drop];omega)
  simp only [List.cons.injEq]at r4
  obtain⟨rfl,rfl⟩:=r4
  have hx9:(P++(A++([x]++Q)))[m]?=some x:=Xep om9
  have hA:∀k,k<A.length->(P++(A++([x]++Q)))[a+k]?=A[k]?:=by
   intro k hk
   rw[List.getElem?_append_right om9,show a+k-P.length=k by omega,List.getElem?_append_left hk]
  refine⟨P,A++[x],A.take (i-a)++x :: A.drop (i-a),Q,by simp,by rw[e2,←r1,←r3];simp,g1,by simp;omega,?_,?_⟩
  ·refine List.perm_middle.trans ?_
   rw[List.take_append_drop];exact(List.perm_append_singleton x A).symm
  ·refine X1y O g4 ht ?_ ?_
   ·rcases h1 with h|⟨x1,y,q1,q2,q3⟩
    ·left;omega
    ·right
     rw[hx9]at q1;cases q1
     rcases Nat.lt_or_ge (i-a) A.length with h9|h9
     ·have:=hA (i-a) h9
      rw[show a+(i-a)=i by omega,q2]at this
      exact⟨y,this.symm,O.az _ _ q3⟩
     ·exfalso
      rw[show i=m by omega,hx9]at q2;cases q2
      rw[O.refl]at q3;cases q3
   ·rcases Nat.eq_or_lt_of_le hi with h9|h9
    ·left;omega
    rcases h2 with h|⟨x1,y,q1,q2,q3⟩
    ·left;omega
    ·right
     rw[hx9]at q1;cases q1
     have:=hA (i-a-1) om9
     rw[show a+(i-a-1)=i-1 by omega,q2]at this
     exact⟨y,this.symm,q3⟩
 ·simp at g3;omega
def SMr (lt:α->α->Bool)(a m b start e:Nat)(l l2:List α):Prop:=∃P A1 A2 B1 B2 Q:List α,l=P++((A1++A2)++((B1++B2)++Q))∧P.length=a∧a+A1.length=start∧start+A2.length=m∧m+B1.length=e∧e+B2.length=b∧Up lt (A1++A2)∧Up lt (B1++B2)∧l2=P++((A1++B1)++((A2++B2)++Q))∧∀x∈A1++B1,∀y∈A2++B2,lt y x=false
theorem X2c {lt:α->α->Bool}(O:Ord lt){a m b s e:Nat}{l l2:List α}(h:SM lt a m b l)(hs1:a≤s)(hs2:s≤m)(he1:m≤e)(he2:e≤b)
  (h1:s=a∨e=b∨∃x y,l[s-1]?=some x∧l[e]?=some y∧lt y x=false) (h2:s=m∨e=m∨∃x y,l[s]?=some x∧l[e-1]?=some y∧lt y x=true)
  (h3:(s<m∧m<e->l2=rotT l s m e)∧(¬ (s<m∧m<e)->l2=l)):SMr lt a m b s e l l2:=by
 obtain⟨P,A,B,Q,rfl,g1,g2,g3,g4,g5⟩:=h
 obtain⟨A1,A2,rfl,k1⟩:=cut2 A (a:=s-a) om9
 obtain⟨B1,B2,rfl,k2⟩:=cut2 B (a:=e-m) om9
 have hAl:(A1++A2).length=A1.length+A2.length:=List.length_append
 have hBl:(B1++B2).length=B1.length+B2.length:=List.length_append
 have hA:∀k,k<(A1++A2).length->(P++((A1++A2)++((B1++B2)++Q)))[a+k]?=(A1++A2)[k]?:=by
  intro k hk
  rw[List.getElem?_append_right om9,show a+k-P.length=k by omega,List.getElem?_append_left hk]
 have hB:∀k,k<(B1++B2).length->(P++((A1++A2)++((B1++B2)++Q)))[m+k]?=(B1++B2)[k]?:=by
  intro k hk
  rw[List.getElem?_append_right om9,List.getElem?_append_right om9,show m+k-P.length-(A1++A2).length=k by omega,List.getElem?_append_left hk]
 have hall:=parts_le O g4 g5 (s:=s-a) (t:=e-m) om9 om9 (by
  rcases h1 with h|h|⟨x,y,q1,q2,q3⟩
  ·left;omega
  ·right;left;omega
  ·rcases Nat.eq_or_lt_of_le hs1 with h9|h9
   ·left;omega
   rcases Nat.eq_or_lt_of_le he2 with h8|h8
   ·right;left;omega
   have r1:=hA (s-a-1) om9
   have r2:=hB (e-m) om9
   rw[show a+(s-a-1)=s-1 by omega,q1]at r1
   rw[show m+(e-m)=e by omega,q2]at r2
   exact .inr (.inr ⟨x,y,r1.symm,r2.symm,q3⟩)) (by
  rcases h2 with h|h|⟨x,y,q1,q2,q3⟩
  ·left;omega
  ·right;left;omega
  ·rcases Nat.eq_or_lt_of_le hs2 with h9|h9
   ·left;omega
   rcases Nat.eq_or_lt_of_le he1 with h8|h8
   ·right;left;omega
   have r1:=hA (s-a) om9
   have r2:=hB (e-m-1) om9
   rw[show a+(s-a)=s by omega,q1]at r1
   rw[show m+(e-m-1)=e-1 by omega,q2]at r2
   exact .inr (.inr ⟨x,y,r1.symm,r2.symm,q3⟩))
 rw[List.take_left' k1,List.take_left' k2,List.drop_left' k1,List.drop_left' k2]at hall
 refine⟨P,A1,A2,B1,B2,Q,rfl,g1,by omega,by omega,by omega,by omega,g4,g5,?_,hall⟩
 by_cases hc:s<m∧m<e
 ·rw[h3.1 hc]
  rw[show P++((A1++A2)++((B1++B2)++Q))=(P++A1)++(A2++(B1++(B2++Q))) by simp,Xwa (by simp;omega) om9 om9]
  simp
 ·rw[h3.2 hc]
  rcases Nat.lt_or_ge s m with h9|h9
  ·have:B1=[]:=List.eq_nil_of_length_eq_zero om9
   subst this;simp
  ·have:A2=[]:=List.eq_nil_of_length_eq_zero om9
   subst this;simp
theorem Xre {lt:α->α->Bool}{a m b s e mid:Nat}{l l2:List α}(h:SMr lt a m b s e l l2)(hm:s+e=mid+m):SM lt a s mid l2:=by
 obtain⟨P,A1,A2,B1,B2,Q,rfl,h1,h2,h3,h4,h5,h6,h7,rfl,h8⟩:=h
 exact⟨P,A1,B1,(A2++B2)++Q,by simp,h1,h2,by omega,h6.left,h7.left⟩
theorem Xek {lt:α->α->Bool}{a m b s e mid:Nat}{l l2:List α}(h:SMr lt a m b s e l l2)(hm:s+e=mid+m)(hn:¬ (a<s∧s<mid)):Srt lt a mid l2 l2:=by
 obtain⟨P,A1,A2,B1,B2,Q,rfl,h1,h2,h3,h4,h5,h6,h7,rfl,h8⟩:=h
 refine⟨P,A1++B1,A1++B1,(A2++B2)++Q,by simp,by simp,h1,by simp;omega,.refl _,?_⟩
 rcases Nat.lt_or_ge a s with h9|h9
 ·have:B1=[]:=List.eq_nil_of_length_eq_zero om9
  subst this;rw[List.append_nil];exact h6.left
 ·have:A1=[]:=List.eq_nil_of_length_eq_zero om9
  subst this;exact h7.left
theorem Xpa {lt:α->α->Bool}{a m b s e mid:Nat}{l l2 l3:List α}(h:SMr lt a m b s e l l2)(hm:s+e=mid+m)(h3:Srt lt a mid l2 l3):∃P A1 A2 B1 B2 X Q:List α,l=P++((A1++A2)++((B1++B2)++Q))∧P.length=a∧a+(A1.length+B1.length)=mid∧mid+A2.length=e∧e+B2.length=b∧Up lt A2∧Up lt B2∧l3=P++(X++(A2++(B2++Q)))∧X.Perm (A1++B1)∧Up lt X∧∀x∈X,∀y∈A2++B2,lt y x=false:=by
 obtain⟨P,A1,A2,B1,B2,Q,rfl,h1,h2,h4,h5,h6,h7,h8,rfl,h9⟩:=h
 obtain⟨P',M,M',Q',e1,rfl,f1,f2,f3,f4⟩:=h3
 obtain⟨r1,r2⟩:=Xeo e1 om9
 obtain⟨r3,r4⟩:=Xeo r2 (by simp;omega)
 subst r1;subst r3;subst r4
 exact⟨P,A1,A2,B1,B2,M',Q,rfl,h1,by omega,by omega,by omega,h7.right,h8.right,by simp,f3,f4,λx hx=>h9 x (f3.mem_iff.1 hx)⟩
theorem Xng {lt:α->α->Bool}{a m b s e mid:Nat}{l l2 l3:List α}(h:SMr lt a m b s e l l2)(hm:s+e=mid+m)(h3:Srt lt a mid l2 l3):SM lt mid e b l3:=by
 obtain⟨P,A1,A2,B1,B2,X,Q,rfl,h1,h2,h4,h5,h6,h7,rfl,h8,h9,h10⟩:=Xpa h hm h3
 have:=h8.length_eq
 rw[List.length_append]at this
 exact⟨P++X,A2,B2,Q,by simp,by simp;omega,by omega,by omega,h6,h7⟩
theorem Xdv {lt:α->α->Bool}{a m b s e mid:Nat}{l l2 l3:List α}(h:SMr lt a m b s e l l2)(hm:s+e=mid+m)(h3:Srt lt a mid l2 l3)(hn:¬ (mid<e∧e<b)):Srt lt mid b l3 l3:=by
 obtain⟨P,A1,A2,B1,B2,X,Q,rfl,h1,h2,h4,h5,h6,h7,rfl,h8,h9,h10⟩:=Xpa h hm h3
 have:=h8.length_eq
 rw[List.length_append]at this
 refine⟨P++X,A2++B2,A2++B2,Q,by simp,by simp,by simp;omega,by simp;omega,.refl _,?_⟩
 rcases Nat.lt_or_ge mid e with h11|h11
 ·have:B2=[]:=List.eq_nil_of_length_eq_zero om9
  subst this;rw[List.append_nil];exact h6
 ·have:A2=[]:=List.eq_nil_of_length_eq_zero om9
  subst this;exact h7
theorem Xhn {lt:α->α->Bool}{a m b s e mid:Nat}{l l2 l3 l4:List α}(h:SMr lt a m b s e l l2)(hm:s+e=mid+m)(h3:Srt lt a mid l2 l3)(h4:Srt lt mid b l3 l4):Srt lt a b l l4:=by
 obtain⟨P,A1,A2,B1,B2,X,Q,rfl,h1,h2,h5,h6,h7,h8,rfl,h9,h10,h11⟩:=Xpa h hm h3
 have hXl:=h9.length_eq
 rw[List.length_append]at hXl
 obtain⟨P',M,M',Q',e1,rfl,f1,f2,f3,f4⟩:=h4
 rw[show P++(X++(A2++(B2++Q)))=(P++X)++((A2++B2)++Q) by simp]at e1
 obtain⟨r1,r2⟩:=Xeo e1 (by simp;omega)
 obtain⟨r3,r4⟩:=Xeo r2 (by simp;omega)
 subst r1;subst r3;subst r4
 refine⟨P,(A1++A2)++(B1++B2),X++M',Q,by simp,by simp,h1,by simp;omega,?_,?_⟩
 ·refine(List.Perm.append h9 f3).trans ?_
  have:(B1++A2).Perm (A2++B1):=List.perm_append_comm
  rw[List.append_assoc A1,List.append_assoc A1]
  refine List.Perm.append_left A1 ?_
  rw[←List.append_assoc,←List.append_assoc]
  exact this.append_right B2
 ·exact Up.app h10 f4 λx hx y hy=>h11 x hx y (f3.mem_iff.1 hy)
def M2 (lt:α->α->Bool)(s j:Nat)(cur:List α):Prop:=(∀k,k<j->UpOn lt cur (k*(2*s)) ((k+1)*(2*s)))∧∀k,2*j≤k->UpOn lt cur (k*s) ((k+1)*s)
theorem Xln {lt:α->α->Bool}{l:List α}{a b c:Nat}(h:UpOn lt l a b)(hb:l.length≤b)(hc:l.length≤c):UpOn lt l a c:=by
 unfold UpOn at *
 rw[List.take_of_length_le hb]at h;rw[List.take_of_length_le hc];exact h
theorem Xrf {lt:α->α->Bool}{l:List α}{a b:Nat}(h:l.length≤a):UpOn lt l a b:=by
 unfold UpOn
 rw[List.drop_eq_nil_of_le (by rw[List.length_take];omega)]
 exact List.Pairwise.nil
theorem Xz0 {lt:α->α->Bool}{l:List α}{b:Nat}(h:UpOn lt l 0 b)(hb:l.length≤b):Up lt l:=by
 unfold UpOn at h
 rw[List.take_of_length_le hb]at h;exact h
theorem Xwd {lt:α->α->Bool}{s j:Nat}{cur cur':List α}(h:M2 lt s j cur)(hs:Srt lt (j*(2*s)) ((j+1)*(2*s)) cur cur'):M2 lt s (j+1) cur':=by
 refine⟨λk hk=>?_,λk hk=>?_⟩
 ·rcases Nat.lt_or_ge k j with h9|h9
  ·exact hs.keep (.inl (Nat.mul_le_mul_right _ h9)) (h.1 k h9)
  ·have:k=j:=by omega
   subst this;exact hs.up
 ·refine hs.keep (.inr ?_) (h.2 k om9)
  rw[←Nat.mul_assoc,Nat.mul_comm (j+1) 2];exact Nat.mul_le_mul_right _ hk
theorem X8j {lt:α->α->Bool}{s j:Nat}{cur:List α}(h:M2 lt s j cur)(hl:(j+1)*(2*s)≤cur.length):SM lt (j*(2*s)) (j*(2*s)+s) ((j+1)*(2*s)) cur:=by
 have e1:j*(2*s)=(2*j)*s:=by rw[←Nat.mul_assoc,Nat.mul_comm j 2]
 have e2:j*(2*s)+s=(2*j+1)*s:=by rw[e1];exact(Nat.succ_mul _ _).symm
 have e3:(j+1)*(2*s)=(2*j+1+1)*s:=by rw[←Nat.mul_assoc,Nat.mul_comm (j+1) 2];rfl
 have g1:=h.2 (2*j) (Nat.le_refl _)
 have g2:=h.2 (2*j+1) om9
 rw[←e1,←e2]at g1
 rw[←e2,←e3]at g2
 refine X8g om9 ?_ hl g1 g2
 rw[e2,e3];exact Nat.mul_le_mul_right _ om9
theorem X2d {lt:α->α->Bool}{s j:Nat}{cur:List α}(h:M2 lt s j cur)(hl:cur.length<(j+1)*(2*s))(hm:j*(2*s)+s<cur.length):SM lt (j*(2*s)) (j*(2*s)+s) cur.length cur:=by
 have e1:j*(2*s)=(2*j)*s:=by rw[←Nat.mul_assoc,Nat.mul_comm j 2]
 have e2:j*(2*s)+s=(2*j+1)*s:=by rw[e1];exact(Nat.succ_mul _ _).symm
 have e3:(j+1)*(2*s)=(2*j+1+1)*s:=by rw[←Nat.mul_assoc,Nat.mul_comm (j+1) 2];rfl
 have g1:=h.2 (2*j) (Nat.le_refl _)
 have g2:=h.2 (2*j+1) om9
 rw[←e1,←e2]at g1
 rw[←e2,←e3]at g2
 exact X8g om9 om9 (Nat.le_refl _) g1 (Xln g2 om9 (Nat.le_refl _))
theorem Xhx {lt:α->α->Bool}{s j:Nat}{cur cur':List α}(h:M2 lt s j cur)(hl:cur.length<(j+1)*(2*s))(hj:j*(2*s)≤cur.length)(hs:(j*(2*s)+s<cur.length->Srt lt (j*(2*s)) cur.length cur cur')∧(cur.length≤j*(2*s)+s->cur'=cur)):M2 lt (2*s) 0 cur':=by
 refine⟨λk hk=>absurd hk (Nat.not_lt_zero k),λk _=>?_⟩
 have e1:j*(2*s)=(2*j)*s:=by rw[←Nat.mul_assoc,Nat.mul_comm j 2]
 have e2:j*(2*s)+s=(2*j+1)*s:=by rw[e1];exact(Nat.succ_mul _ _).symm
 have hlen:cur'.length=cur.length:=by
  rcases Nat.lt_or_ge (j*(2*s)+s) cur.length with h9|h9
  ·exact(hs.1 h9).len.1
  ·rw[hs.2 h9]
 rcases Nat.lt_trichotomy k j with h9|rfl|h9
 ·rcases Nat.lt_or_ge (j*(2*s)+s) cur.length with h8|h8
  ·exact(hs.1 h8).keep (.inl (Nat.mul_le_mul_right _ h9)) (h.1 k h9)
  ·rw[hs.2 h8];exact h.1 k h9
 ·rcases Nat.lt_or_ge (k*(2*s)+s) cur.length with h8|h8
  ·exact Xln (hs.1 h8).up om9 om9
  ·rw[hs.2 h8]
   have g1:=h.2 (2*k) (Nat.le_refl _)
   rw[←e1,←e2]at g1
   exact Xln g1 h8 om9
 ·refine Xrf ?_
  have:(j+1)*(2*s)≤k*(2*s):=Nat.mul_le_mul_right _ h9
  omega
def I2 (lt:α->α->Bool)(s j:Nat)(cur:List α):Prop:=∀k,k<j->UpOn lt cur (k*s) ((k+1)*s)
theorem Xwe {lt:α->α->Bool}{s j:Nat}{cur cur':List α}(h:I2 lt s j cur)(hs:Srt lt (j*s) ((j+1)*s) cur cur'):I2 lt s (j+1) cur':=by
 intro k hk
 rcases Nat.lt_or_ge k j with h9|h9
 ·exact hs.keep (.inl (Nat.mul_le_mul_right _ h9)) (h k h9)
 ·have:k=j:=by omega
  subst this;exact hs.up
theorem X2e {lt:α->α->Bool}{s j:Nat}{cur cur':List α}(h:I2 lt s j cur)(hl:cur.length<(j+1)*s)(hj:j*s≤cur.length)(hs:Srt lt (j*s) cur.length cur cur'):M2 lt s 0 cur':=by
 refine⟨λk hk=>absurd hk (Nat.not_lt_zero k),λk _=>?_⟩
 have hlen:=hs.len.1
 rcases Nat.lt_trichotomy k j with h9|rfl|h9
 ·exact hs.keep (.inl (Nat.mul_le_mul_right _ h9)) (h k h9)
 ·exact Xln hs.up om9 om9
 ·refine Xrf ?_
  have:(j+1)*s≤k*s:=Nat.mul_le_mul_right _ h9
  omega
theorem X2f {lt:α->α->Bool}{s:Nat}{cur:List α}(h:M2 lt s 0 cur)(hl:cur.length≤s):Up lt cur:=by
 have:=h.2 0 om9
 rw[Nat.zero_mul]at this
 exact Xz0 this om9
section
variable {α:Type}
def Xfa (eq:α->α->Bool):α->List α->List α
 | _,[]=>[]
 | p,x :: r=>if eq x p=true then Xfa eq x r else x :: Xfa eq x r
def Xfp (eq:α->α->Bool):List α->List α
 | []=>[]
 | x :: r=>x :: Xfa eq x r
theorem Xko (eq:α->α->Bool)(x:α):∀(l:List α) (p:α),Xfa eq p (l++[x])=Xfa eq p l++(if eq x (l.getLast?.getD p)=true then[]else[x])
 | [],p=>by simp only [List.nil_append,Xfa,List.getLast?_nil,Option.getD_none];by_cases h:eq x p=true<;>simp [h]
 | y :: r,p=>by
  have e:(y :: r).getLast?.getD p=r.getLast?.getD y:=by
   cases r with
   | nil=>rfl
   | cons z r=>simp [List.getLast?_cons]
  rw[List.cons_append,Xfa,Xfa,Xko eq x r y,e]
  split<;>simp
theorem Xfm {eq:α->α->Bool}{l:List α}{k:Nat}{x y:α}(hk:0<k)(hx:l[k]?=some x)(hy:l[k-1]?=some y):Xfp eq (l.take (k+1))=if eq x y=true then Xfp eq (l.take k)else Xfp eq (l.take k)++[x]:=by
 rw[List.take_add_one,hx]
 simp only [Option.toList_some]
 rcases l with _|⟨a,r⟩
 ·simp at hx
 obtain⟨k,rfl⟩:∃m,k=m+1:=⟨k-1,by omega⟩
 simp only [List.take_succ_cons,List.cons_append,Xfp]
 rw[Xko]
 have e:(r.take k).getLast?.getD a=y:=by
  have hl:=(List.getElem?_eq_some_iff.1 hx).1
  simp only [List.length_cons]at hl
  simp only [Nat.add_sub_cancel]at hy
  rcases Nat.eq_zero_or_pos k with rfl|hk2
  ·simp at hy ⊢;exact hy
  ·obtain⟨k,rfl⟩:∃m,k=m+1:=⟨k-1,by omega⟩
   simp only [List.getElem?_cons_succ]at hy
   rw[List.getLast?_eq_getElem?,List.length_take,show min (k+1) r.length-1=k by omega,List.getElem?_take,if_pos om9,hy];rfl
 rw[e]
 split<;>simp
theorem Xnh (eq:α->α->Bool)(l:List α):Xfp eq (l.take 1)=l.take 1:=by
 cases l with
 | nil=>rfl
 | cons x r=>rfl
theorem Xpb {eq:α->α->Bool}{l:List α}(h:l.length<2):Xfp eq l=l:=by
 have:=Xnh eq l
 rwa [List.take_of_length_le om9]at this
def CmpR (eq:α->α->Bool)(l:List α)(n k:Nat)(cur:List α):Prop:=cur.length=l.length∧k<n∧n≤l.length∧cur.take k=Xfp eq (l.take n)∧∀i,n≤i+1->cur[i]?=l[i]?
theorem X8k {eq:α->α->Bool}{l:List α}{k:Nat}{x y:α}(hk:0<k)(hc:Xfp eq (l.take k)=l.take k)(hx:l[k]?=some x)(hy:l[k-1]?=some y)(he:eq x y=true):CmpR eq l (k+1) k l:=
 ⟨rfl,by omega,(List.getElem?_eq_some_iff.1 hx).1,by rw[Xfm hk hx hy,if_pos he,hc],λ_ _=>rfl⟩
theorem Xwf {eq:α->α->Bool}{l:List α}{n k:Nat}{cur:List α}{x y:α}(h:CmpR eq l n k cur)(hx:l[n]?=some x)(hy:l[n-1]?=some y)(he:eq x y=true):CmpR eq l (n+1) k cur:=by
 obtain⟨h1,h2,h3,h4,h5⟩:=h
 exact⟨h1,by omega,(List.getElem?_eq_some_iff.1 hx).1,by rw[Xfm om9 hx hy,if_pos he,h4],λi hi=>h5 i om9⟩
theorem Xrg {eq:α->α->Bool}{l:List α}{n k:Nat}{cur:List α}{x y:α}(h:CmpR eq l n k cur)(hx:l[n]?=some x)(hy:l[n-1]?=some y)(he:¬ eq x y=true):CmpR eq l (n+1) (k+1) (cur.set k x):=by
 obtain⟨h1,h2,h3,h4,h5⟩:=h
 refine⟨by rw[List.length_set,h1],by omega,(List.getElem?_eq_some_iff.1 hx).1,?_,λi hi=>by rw[List.getElem?_set_ne om9,h5 i om9]⟩
 rw[Xfm om9 hx hy,if_neg he,←h4,List.take_add_one,List.take_set_of_le (Nat.le_refl k),List.getElem?_set_self om9];rfl
def DelR (p:α->Bool)(l:List α)(n k:Nat)(cur:List α):Prop:=cur.length=l.length∧k<n∧n≤l.length∧cur.take k=(l.take n).filter (λx=>!p x)∧∀i,n≤i->cur[i]?=l[i]?
theorem Xgb {p:α->Bool}{l:List α}{n:Nat}{x:α}(hx:l[n]?=some x):(l.take (n+1)).filter p=if p x=true then(l.take n).filter p++[x]else(l.take n).filter p:=by
 rw[List.take_add_one,hx,List.filter_append]
 split<;>simp [*]
theorem X8l {p:α->Bool}{l:List α}{k:Nat}{x:α}(hx:l[k]?=some x)(hp:p x=true)(hn:∀i y,i<k->l[i]?=some y->p y=false):DelR p l (k+1) k l:=by
 refine⟨rfl,by omega,(List.getElem?_eq_some_iff.1 hx).1,?_,λ_ _=>rfl⟩
 rw[Xgb hx,if_neg (by simp [hp])]
 refine(List.filter_eq_self.2 λy hy=>?_).symm
 obtain⟨i,hi⟩:=List.getElem?_of_mem hy
 rw[List.getElem?_take]at hi
 split at hi
 ·rename_i h9;simp [hn i y h9 hi]
 ·cases hi
theorem Xwg {p:α->Bool}{l:List α}{n k:Nat}{cur:List α}{x:α}(h:DelR p l n k cur)(hx:l[n]?=some x)(hp:p x=true):DelR p l (n+1) k cur:=by
 obtain⟨h1,h2,h3,h4,h5⟩:=h
 exact⟨h1,by omega,(List.getElem?_eq_some_iff.1 hx).1,by rw[Xgb hx,if_neg (by simp [hp]),h4],λi hi=>h5 i om9⟩
theorem Xrh {p:α->Bool}{l:List α}{n k:Nat}{cur:List α}{x:α}(h:DelR p l n k cur)(hx:l[n]?=some x)(hp:p x=false):DelR p l (n+1) (k+1) (cur.set k x):=by
 obtain⟨h1,h2,h3,h4,h5⟩:=h
 refine⟨by rw[List.length_set,h1],by omega,(List.getElem?_eq_some_iff.1 hx).1,?_,λi hi=>by rw[List.getElem?_set_ne om9,h5 i om9]⟩
 rw[Xgb hx,if_pos (by simp [hp]),←h4,List.take_add_one,List.take_set_of_le (Nat.le_refl k),List.getElem?_set_self om9];rfl
end
end Go.Sp
namespace Go.Vc
open Go.RowKit
section
variable {α:Type}{enc:α->List Value}{sz T B:Nat}{w w':World}{v:Value}{l:List α}
theorem Xji (henc:∀x,(enc x).length=sz):∀(l:List α) (k:Nat),(l.flatMap enc).take (k*sz)=(l.take k).flatMap enc
 | [],k=>by simp
 | x :: r,0=>by simp
 | x :: r,k+1=>by
  rw[List.take_succ_cons,List.flatMap_cons,List.flatMap_cons,Nat.succ_mul,Nat.add_comm,List.take_append,henc,List.take_of_length_le (by rw[henc];omega),Nat.add_sub_cancel_left,Xji henc r k]
theorem Own.cut (henc:∀x,(enc x).length=sz)(h:Own enc sz T B w v l){k:Nat}(hk:k≤l.length):Own enc sz T B w (slV sz v 0 k) (l.take k):=by
 obtain⟨h1,h2⟩:=h.row
 refine⟨by rw[flat_len henc],?_⟩
 rcases h2 with⟨rfl,h0⟩|⟨g,cap,cur,rfl,hB,hc,hn,hm,hs,ht⟩
 ·have:l=[]:=List.eq_nil_of_length_eq_zero h0
  subst this
  exact .inl ⟨rfl,by simp⟩
 ·refine .inr ⟨g,cap,cur,?_,hB,hc,by rw[List.length_take];omega,hm,hs,?_⟩
  ·simp only [slV,Nat.zero_mul,Nat.sub_zero,Addr.add,Nat.add_zero,ite_self,List.length_take,Nat.min_eq_left hk]
  ·rw[List.length_take,Nat.min_eq_left hk,←Xji henc,←ht,List.take_take,Nat.min_eq_left (Nat.mul_le_mul_right _ hk)]
theorem Xni {v:Value}{k sz n:Nat}(hv:isSl v n):(slV sz v 0 k).ownBlock=v.ownBlock:=by
 rcases hv with⟨rfl,_⟩|⟨b,o,c,rfl,_⟩|⟨_,a,c,rfl⟩
 ·rfl
 ·simp [slV,Value.ownBlock,Addr.add]
 ·simp [slV,Value.ownBlock,Addr.add]
variable {P:Program}{n:Nat}{E:Env}{ds:List (Option Tmp)}{R:World->World->Prop}{rs:List (Oper×Fl×Bool)}{K:Env->World->Prop}{pos:String}{af:Array Edge}{g:Option (Nat×Bool)}{anc:Bool}{ty:TypeId}
theorem Xwh {dd:Option Tmp}{x:Operand}{t e k:Nat}{zs:List Value}(henc:∀x,(enc x).length=sz)(hg:Xao ds E g=true)(ht:Xco P t=some (e,sz))(hz:Xil P e=some zs)(hzs:zs.length=sz)(hsz:0<sz)(hz1:∀z∈zs,z.oneCell'=true)
  (hown:Own enc sz T B w v l) (hx:ev E x=slV sz v k l.length) (hk:k≤l.length) (hR:anc=true∨∀w',Mod (λk=>v.ownBlock=some k) w w'->R w w')
  (h:∀w1,Mod (λk=>v.ownBlock=some k) w w1->w1.heap.size=w.heap.size->Own enc sz T B w1 (slV sz v 0 k) (l.take k)->Dw P n ds R rs K (updO E dd (.tuple #[])) w1) :
  Dw P n ds R ((⟨dd,.call { callee:=.builtin .clear,args:=#[x],argTypes:=#[t] },ty,pos,af,g⟩,.x,anc) :: rs) K E w:=by
 obtain⟨hu,i,hi,hs⟩:=Xbb ht
 obtain⟨z,hz2,hz3⟩:=Xex (w:=w) hz
 have hfin:∃w1,(Builtin.clear_ #[t] ty #[slV sz v k l.length]).run P w=.ok (.tuple #[]) w1∧Mod (λk=>v.ownBlock=some k) w w1∧w1.heap.size=w.heap.size∧Own enc sz T B w1 (slV sz v 0 k) (l.take k):=by
  rcases Nat.eq_or_lt_of_le hk with hk2|hk2
  ·refine⟨w,?_,Mod.refl _ _,rfl,hown.cut henc hk⟩
   rcases hown.sl with⟨rfl,_⟩|⟨b,o,c,rfl,_⟩|⟨_,a,c,rfl⟩<;>simp [Builtin.clear_,slV,hk2,underlying,hu]
  ·have hl:l≠[]:=by rintro rfl;simp at hk2
   have hob:v.ownBlock=some (base v).1:=hown.base_block hl
   obtain⟨r1,r2⟩:=hown.row
   rcases r2 with⟨_,h0⟩|⟨b,cap,cur,rfl,hB,hc,hn,hm,hcs,htk⟩
   ·exact absurd (List.eq_nil_of_length_eq_zero h0) hl
   have hb:Blk w b cur.toList T:=by show w.heap[b]?=_;rw[hc]
   have hcl:cur.toList.length=cap*sz:=by simp [hcs]
   have hlen:l.length*sz≤cur.toList.length:=by rw[hcl];exact Nat.mul_le_mul_right _ hn
   subst hzs
   have hzl:(Builtin.zeroCells z.cells (l.length-k)).toList=(List.replicate (l.length-k) zs).flatten:=by
    rw[hz3];unfold Builtin.zeroCells
    exact congrArg Array.toList (Xio zs zs.length (l.length-k) rfl hsz)
   have hvl:((List.replicate (l.length-k) zs).flatten).length=(l.length-k)*zs.length:=by simp [List.length_flatten,List.map_replicate,List.sum_replicate_nat]
   have hkl:k*zs.length+(l.length-k)*zs.length=l.length*zs.length:=by rw[←Nat.add_mul];congr 1;omega
   obtain⟨w1,e1,e2,e3,e4⟩:=Xfs (P:=P) (b:=b) (o:=k*zs.length) (T:=T) ((List.replicate (l.length-k) zs).flatten) 0 cur.toList w hb om9 (λu hu=>by
    obtain⟨q,hq,hu2⟩:=List.mem_flatten.1 hu
    rw[List.eq_of_mem_replicate hq]at hu2
    exact hz1 u hu2)
   obtain⟨m,hm2⟩:∃m,l.length-k=m+1:=⟨l.length-k-1,by omega⟩
   have hx2:slV zs.length (.slice (some ⟨b,0,none⟩) l.length cap) k l.length=.slice (some ⟨b,k*zs.length,none⟩) (m+1) (cap-k):=by
    simp only [slV,Addr.add,Nat.zero_add,hm2]
    rw[if_neg om9]
    by_cases hk0:k*zs.length=0
    ·rw[if_pos hk0,hk0]
    ·rw[if_neg hk0]
   refine⟨w1,?_,e3.mono (λi hi _=>by have:i=b:=hi;rw[this];rfl),e4,?_⟩
   ·have e1':(storeCells ⟨b,k*zs.length,none⟩ (Builtin.zeroCells z.cells (m+1)).toList).run P w=.ok () w1:=by rw[←hm2,hzl];exact e1
    rw[hx2]
    simp [Builtin.clear_,underlying,hu,hz2,e1']
   ·refine⟨by rw[flat_len henc],.inr ⟨b,cap,⟨Xal cur.toList (k*zs.length+0) ((List.replicate (l.length-k) zs).flatten)⟩,?_,hB,e2,by rw[List.length_take];omega,hm,by simp only [List.size_toArray];rw[Xey,hcl],?_⟩⟩
    ·simp only [slV,Nat.zero_mul,Nat.sub_zero,Addr.add,Nat.add_zero,ite_self,List.length_take,Nat.min_eq_left hk]
    ·rw[List.length_take,Nat.min_eq_left hk,←Xji henc,←htk,List.take_take,Nat.min_eq_left (Nat.mul_le_mul_right _ hk)]
     apply List.ext_getElem?
     intro i
     simp only [List.getElem?_take]
     split
     ·rw[Xdf _ _ _ _ om9,if_neg om9]
     ·rfl
 obtain⟨w1,hr,h1,h2,h3⟩:=hfin
 refine Xhz (v:=.tuple #[]) (w':=w1) hg ?_ (λe=>hR.elim (λh=>by rw[h]at e;cases e) (λh=>h _ h1)) (h _ h1 h2 h3)
 simp [execOp,resolve,invoke,builtin,hx,hr]
end
end Go.Vc
namespace Go.Proofs.YtiooodckiddpmaaGreatDoor
open Go.Vc Go.Sp
attribute [local irreducible] W XW Dw DwT
theorem Xdw {P:Program}{E:Env}{dd:Option Tmp}{ty:TypeId}{pos:String}{af:Array Edge}{g:Option (Nat×Bool)}{x y:Operand}{T U:TypeId}{u:Nat}{ky:IntKind}(hx:ev E x=.int .u64 u)(hy:ev E y=.int ky 1):PV P ⟨dd,.binOp .shr T x y U,ty,pos,af,g⟩ E (.int .u64 (u / 2:Nat)):=by
 have:=Xj5 (P:=P) (dd:=dd) (ty:=ty) (pos:=pos) (af:=af) (g:=g) (T:=T) (U:=U) hx hy dc9
 rwa [show((u:Int)).fdiv (2 ^ min (1:Int).toNat IntKind.u64.bits)=((u / 2:Nat):Int) by
  rw[show(2:Int) ^ min (1:Int).toNat IntKind.u64.bits=2 by decide,Int.fdiv_eq_ediv_of_nonneg _ om9];omega]at this
def ltC {α:Type}(c:α->α->Int)(x y:α):Bool:=decide (c x y<0)
theorem Xcv {α:Type}{enc:α->List Value}{sz T B:Nat}{w:World}{v:Value}{l:List α}(h:Vc.Own enc sz T B w v l)(hl:l≠[]):(base v).2=0:=by
 obtain⟨cs,cap,e,_⟩:=h.cells hl
 rw[e];rfl
theorem X2g (l:List Cell)(v:Value)(Bo f:Nat)(c:Cell->Cell->Int)(w:World)(ho:Vc.Own Cell.cs 4 79 Bo w v l)(hl:l.length≤10000000)(hcb:Xbw Tryz.prog f=true)(hc:∀w2 x y,Calls Tryz.prog f [Cell.v x,Cell.v y].toArray w2 (Pure w2 (I (c x y))))(O:Ord (ltC c))(a b:Nat)(hab:a≤b)(hb:b≤l.length) :
  Calls Tryz.prog 252 [v,I ↑a,I ↑b,fnV f].toArray w (Does (λk=>v.ownBlock=some k) w (λu w'=>u=.tuple #[]∧∃l',Vc.Own Cell.cs 4 79 Bo w' v l'∧Srt (ltC c) a b l l')):=by
 refine cw Tryz.func252 ?_
 have hx:=Vc.Mod.refl (λk=>v.ownBlock=some k) w
 refine ws λ_ Z1=>wr (dm ?_)
 refine pa rfl rfl (da (de Z1 (Xab ?_)))
 refine Xaj (G:=Nat×List Cell) (λ(i,cur)=>[(0,v),(1,I ↑a),(2,I ↑b),(3,fnV f),(8,I ↑i)]) (λ(i,cur) w'=>Mod (λk=>v.ownBlock=some k) w w'∧a+1≤i∧Srt (ltC c) a (min i b) l cur∧Vc.Own Cell.cs 4 79 Bo w' v cur) (λ(i,cur)=>b-i) (a+1,l) ?_ ?_ ?_
 ·exact zz5
 ·exact⟨hx,Nat.le_refl _,Srt.one l om9 om9 om9,ho⟩
 intro X1 g1 w1 hF1
 obtain⟨i,cur⟩:=g1
 clear hx ho
 obtain⟨hx,hi1,hs,ho⟩:=hF1
 refine ws λ_ Z2=>ws λ_ Z3=>wr (dm (dm ?_))
 refine dp (Xaf rfl rfl) (de Z3 (wi (λc1=>?_) λc1=>?_))
 ·have hs2:Srt (ltC c) a i l cur:=by rw[Nat.min_eq_left om9]at hs;exact hs
  refine Xaa (Z2 _ _ (ws λ_ Z4=>Xab (ws λ_ Z5=>wr (dm (da (de Z5 (Xab ?_)))))))
  refine Xaj (G:=Nat×List Cell) (λ(j,cur2)=>[(0,v),(1,I ↑a),(2,I ↑b),(3,fnV f),(8,I ↑i),(9,I ↑j)]) (λ(j,cur2) w'=>Mod (λk=>v.ownBlock=some k) w w'∧InsJ (ltC c) a i j l cur2∧Vc.Own Cell.cs 4 79 Bo w' v cur2) (λ(j,cur2)=>j) (i,cur) ?_ ?_ ?_
  ·exact zz6
  ·exact⟨hx,X1z hs2 om9,ho⟩
  intro X2 g2 w2 hF2
  obtain⟨j,cur2⟩:=g2
  clear hx ho
  obtain⟨hx,hj,ho⟩:=hF2
  refine ws λ_ Z6=>ws λ_ Z7=>Xaq (R:=Ext) Ext.refl (λ_ _ _=>Ext.trans) kr9 [8,13] [(0,.p,false),(1,.p,false),(2,.p,false),(3,.p,false),(4,.p,false),(5,.p,false),(6,.p,false),(7,.p,false),(8,.l,false),(9,.p,false),(10,.p,false),(11,.p,false),(12,.p,false),(13,.l,false),(14,.x,true),(15,.p,false),(16,.p,false)] rfl kr9 kr9 (λw3 ew3=>?_)
  have x3:=drewx ew3
  clear ew3
  replace ho:=ho.ext x3
  replace hx:=hx.ext x3
  iterate 2 refine dm ?_
  refine dp (Xaw rfl rfl) (dm ?_)
  refine Xag 21 rfl (λc2=>?_) (λc2=>?_)
  ·have hjl:=hj.len
   obtain⟨x,hxj⟩:∃x,cur2[j]?=some x:=gtE
   obtain⟨z,hzj⟩:∃x,cur2[j-1]?=some x:=gtE
   have hb0:=Xcv ho (λe=>by rw[e]at hxj;simp at hxj)
   iterate 3 refine dm ?_
   refine di 79 4 (ho.arr ir9).sl rfl ((ho.arr ir9).lt hxj) (D_l rfl (λw' hR=>Xac kr9 rfl rfl (((ho.arr ir9).ext hR).row hxj)) (dm (dm ?_)))
   refine Xa2 (v:=I ↑(j-1)) rfl (Xay rfl rfl (by unfold Xai;omega)) (by show I _=I _;first|rfl|(congr 1;omega)) (di 79 4 (ho.arr ir9).sl rfl ((ho.arr ir9).lt hzj) (D_l rfl (λw' hR=>Xac kr9 rfl rfl (((ho.arr ir9).ext hR).row hzj)) (Xcz (vs:=[x.v,z.v]) rfl rfl hcb (hc _ x z) rfl RX.all (λw4 x4=>?_))))
   replace ho:=ho.ext x4
   replace hx:=hx.ext x4
   refine dp (Xaf rfl rfl) (dk' (de Z7 ?_))
   refine wi (λc3=>?_) λc3=>?_
   ·have hlt:ltC c x z=true:=by simpa [ltC]using c3
    refine Xaa (Z6 _ _ (ws λ_ Z8=>Xab (Xaq (R:=Ext) Ext.refl (λ_ _ _=>Ext.trans) kr9 [9,13] [(0,.p,false),(1,.p,false),(2,.p,false),(3,.p,false),(4,.p,false),(5,.p,false),(6,.p,false),(7,.p,false),(8,.p,false),(9,.l,false),(10,.p,false),(11,.p,false),(12,.p,false),(13,.l,false),(14,.p,false),(15,.x,true),(16,.p,false),(17,.x,true)] rfl kr9 kr9 (λw5 ew5=>?_))))
    have x5:=drewx ew5
    clear ew5
    replace ho:=ho.ext x5
    replace hx:=hx.ext x5
    iterate 4 refine dm ?_
    refine Xa2 (v:=I ↑(j-1)) rfl (Xay rfl rfl (by unfold Xai;omega)) (by show I _=I _;first|rfl|(congr 1;omega)) (dm (dm ?_))
    refine Xa2 (v:=I ↑(j-1)) rfl (Xay rfl rfl (by unfold Xai;omega)) (by show I _=I _;first|rfl|(congr 1;omega)) (di 79 4 (ho.arr ir9).sl rfl ((ho.arr ir9).lt hzj) (D_l rfl (λw' hR=>Xac kr9 rfl rfl (((ho.arr ir9).ext hR).row hzj)) (dm (dm ?_))))
    refine di 79 4 (ho.arr ir9).sl rfl ((ho.arr ir9).lt hxj) (D_l rfl (λw' hR=>Xac kr9 rfl rfl (((ho.arr ir9).ext hR).row hxj)) (Xa2 (v:=ptr (base v).1 (j*4+0)) rfl (Xba (i:=j) (e:=79) (k:=4) kr9 ho.sl rfl rfl (by first|omega|(rw[List.length_set];omega))) (by rw[hb0];show ptr _ (0+_)=_;rw[Nat.zero_add];rfl) ?_))
    refine Xa3 (enc:=Cell.cs) (sz:=4) (l:=cur2) (i:=j) (j:=0) (x:=z) (vs:=z.cs) ir9 rfl ho rfl rfl rfl kr9 (by first|omega|(rw[List.length_set];omega)) rfl (Nat.le_refl 4) (by intro v hv;simp at hv;rcases hv with rfl|rfl|rfl|rfl<;>rfl) (.inl rfl) (λw6 x6 xs6 ho_n=>?_)
    replace hx:=hx.own x6 (λi hi hlt=>hi)
    replace ho:=ho_n
    refine Xa2 (v:=ptr (base v).1 ((j-1)*4+0)) rfl (Xba (i:=(j-1)) (e:=79) (k:=4) kr9 ho.sl rfl rfl (by first|omega|(rw[List.length_set];omega))) (by rw[hb0];show ptr _ (0+_)=_;rw[Nat.zero_add];rfl) ?_
    refine Xa3 (enc:=Cell.cs) (sz:=4) (l:=(cur2.set j z)) (i:=(j-1)) (j:=0) (x:=x) (vs:=x.cs) ir9 rfl ho rfl rfl rfl kr9 (by first|omega|(rw[List.length_set];omega)) rfl (Nat.le_refl 4) (by intro v hv;simp at hv;rcases hv with rfl|rfl|rfl|rfl<;>rfl) (.inl rfl) (λw7 x7 xs7 ho_n=>?_)
    replace hx:=hx.own x7 (λi hi hlt=>hi)
    replace ho:=ho_n
    refine de Z8 (wr (dm ?_))
    refine Xa2 (v:=I ↑(j-1)) rfl (Xay rfl rfl (by unfold Xai;omega)) (by show I _=I _;first|rfl|(congr 1;omega)) (da (Xae (?_)))
    exact⟨(j-1,_),zz6,⟨hx,Xnf hj om9 hxj hzj hlt,ho⟩,by simp only [];omega⟩
   have hst:Srt (ltC c) a (i+1) l cur2:=Xg0 O hj (.inr ⟨x,z,hxj,hzj,by simpa [ltC]using c3⟩)
   refine Xah (Z4 _ _ (wr (dm ?_)))
   refine pa rfl rfl (da (Xae (?_)))
   exact⟨(i+1,cur2),zz5,⟨hx,by omega,by rw[Nat.min_eq_left om9];exact hst,ho⟩,by simp only [];omega⟩
  have hjl:=hj.len
  have hst:Srt (ltC c) a (i+1) l cur2:=Xg0 O hj (.inl om9)
  iterate 12 refine dk ?_
  refine dk' (de Z7 ?_)
  refine W_f rfl (Xah (Z4 _ _ (wr (dm ?_))))
  refine pa rfl rfl (da (Xae (?_)))
  exact⟨(i+1,cur2),zz5,⟨hx,by omega,by rw[Nat.min_eq_left om9];exact hst,ho⟩,by simp only [];omega⟩
 refine Xah (Xa5 (Xav rfl ?_))
 rw[Nat.min_eq_right om9]at hs
 exact⟨_,rfl,hx,rfl,cur,ho,hs⟩
theorem Xwi (l:List Cell)(v:Value)(Bo f:Nat)(w:World)(ho:Vc.Own Cell.cs 4 79 Bo w v l)(hl:l.length≤10000000)(a b n:Nat)(h1:a+n≤b)(h2:b+n≤l.length) :
  Calls Tryz.prog 328 [v,I ↑a,I ↑b,I ↑n,fnV f].toArray w (Does (λk=>v.ownBlock=some k) w (λu w'=>u=.tuple #[]∧∃l',Vc.Own Cell.cs 4 79 Bo w' v l'∧Swp a b n l l')):=by
 refine cw Tryz.func328 ?_
 have hx:=Vc.Mod.refl (λk=>v.ownBlock=some k) w
 refine ws λ_ Z1=>wr (da (de Z1 (Xab ?_)))
 refine Xaj (G:=Nat×List Cell) (λ(i,cur)=>[(0,v),(1,I ↑a),(2,I ↑b),(3,I ↑n),(10,I ↑i)]) (λ(i,cur) w'=>Mod (λk=>v.ownBlock=some k) w w'∧SwR a b n i l cur∧Vc.Own Cell.cs 4 79 Bo w' v cur) (λ(i,cur)=>n-i) (0,l) ?_ ?_ ?_
 ·exact zz5
 ·exact⟨hx,X8f h1 h2,ho⟩
 intro X1 g1 w1 hF1
 obtain⟨i,cur⟩:=g1
 clear hx ho
 obtain⟨hx,hr,ho⟩:=hF1
 refine ws λ_ Z2=>ws λ_ Z3=>wr (dm (dm ?_))
 refine dp (Xaf rfl rfl) (de Z3 (wi (λc1=>?_) λc1=>?_))
 ·have hln:=hr.len
  obtain⟨x,hxi⟩:∃x,cur[a+i]?=some x:=gtE
  obtain⟨y,hyi⟩:∃x,cur[b+i]?=some x:=gtE
  have hb0:=Xcv ho (λe=>by rw[e]at hxi;simp at hxi)
  refine Xaa (Z2 _ _ (ws λ_ Z4=>Xab (Xaq (R:=Ext) Ext.refl (λ_ _ _=>Ext.trans) kr9 [13,19] [(0,.p,false),(1,.p,false),(2,.p,false),(3,.p,false),(4,.p,false),(5,.p,false),(6,.p,false),(7,.p,false),(8,.p,false),(9,.p,false),(10,.p,false),(11,.p,false),(12,.p,false),(13,.l,false),(14,.p,false),(15,.p,false),(16,.p,false),(17,.p,false),(18,.p,false),(19,.l,false),(20,.p,false),(21,.x,true),(22,.p,false),(23,.x,true)] rfl kr9 kr9 (λw2 ew2=>?_))))
  have x2:=drewx ew2
  clear ew2
  replace ho:=ho.ext x2
  replace hx:=hx.ext x2
  iterate 3 refine dm ?_
  refine Xa2 (v:=I ↑(a+i)) rfl (Xa7 rfl rfl (by unfold Xai;omega)) rfl (dm (dm (dm ?_)))
  refine Xa2 (v:=I ↑(b+i)) rfl (Xa7 rfl rfl (by unfold Xai;omega)) rfl (dm (dm (dm ?_)))
  refine Xa2 (v:=I ↑(b+i)) rfl (Xa7 rfl rfl (by unfold Xai;omega)) rfl (di 79 4 (ho.arr ir9).sl rfl ((ho.arr ir9).lt hyi) (D_l rfl (λw' hR=>Xac kr9 rfl rfl (((ho.arr ir9).ext hR).row hyi)) (dm (dm (dm ?_)))))
  refine Xa2 (v:=I ↑(a+i)) rfl (Xa7 rfl rfl (by unfold Xai;omega)) rfl (di 79 4 (ho.arr ir9).sl rfl ((ho.arr ir9).lt hxi) (D_l rfl (λw' hR=>Xac kr9 rfl rfl (((ho.arr ir9).ext hR).row hxi)) (Xa2 (v:=ptr (base v).1 ((a+i)*4+0)) rfl (Xba (i:=(a+i)) (e:=79) (k:=4) kr9 ho.sl rfl rfl (by first|omega|(rw[List.length_set];omega))) (by rw[hb0];show ptr _ (0+_)=_;rw[Nat.zero_add];rfl) ?_)))
  refine Xa3 (enc:=Cell.cs) (sz:=4) (l:=cur) (i:=(a+i)) (j:=0) (x:=y) (vs:=y.cs) ir9 rfl ho rfl rfl rfl kr9 (by first|omega|(rw[List.length_set];omega)) rfl (Nat.le_refl 4) (by intro v hv;simp at hv;rcases hv with rfl|rfl|rfl|rfl<;>rfl) (.inl rfl) (λw3 x3 xs3 ho_n=>?_)
  replace hx:=hx.own x3 (λi hi hlt=>hi)
  replace ho:=ho_n
  refine Xa2 (v:=ptr (base v).1 ((b+i)*4+0)) rfl (Xba (i:=(b+i)) (e:=79) (k:=4) kr9 ho.sl rfl rfl (by first|omega|(rw[List.length_set];omega))) (by rw[hb0];show ptr _ (0+_)=_;rw[Nat.zero_add];rfl) ?_
  refine Xa3 (enc:=Cell.cs) (sz:=4) (l:=(cur.set (a+i) y)) (i:=(b+i)) (j:=0) (x:=x) (vs:=x.cs) ir9 rfl ho rfl rfl rfl kr9 (by first|omega|(rw[List.length_set];omega)) rfl (Nat.le_refl 4) (by intro v hv;simp at hv;rcases hv with rfl|rfl|rfl|rfl<;>rfl) (.inl rfl) (λw4 x4 xs4 ho_n=>?_)
  replace hx:=hx.own x4 (λi hi hlt=>hi)
  replace ho:=ho_n
  refine de Z4 (wr (dm ?_))
  refine pa rfl rfl (da (Xae (?_)))
  exact⟨(i+1,_),zz5,⟨hx,Xrb hr om9 hxi hyi,ho⟩,by simp only [];omega⟩
 refine Xah (Xa5 (Xav rfl ?_))
 have hln:=hr.len
 rw[show i=n by omega]at hr
 exact⟨_,rfl,hx,rfl,cur,ho,Xv9 hr⟩
theorem X8m (l:List Cell)(v:Value)(Bo f:Nat)(w:World)(ho:Vc.Own Cell.cs 4 79 Bo w v l)(hl:l.length≤10000000)(a m b:Nat)(h1:a<m)(h2:m<b)(h3:b≤l.length) :
  Calls Tryz.prog 306 [v,I ↑a,I ↑m,I ↑b,fnV f].toArray w (Does (λk=>v.ownBlock=some k) w (λu w'=>u=.tuple #[]∧∃l',Vc.Own Cell.cs 4 79 Bo w' v l'∧l'=rotT l a m b)):=by
 refine cw Tryz.func306 ?_
 have hx:=Vc.Mod.refl (λk=>v.ownBlock=some k) w
 refine ws λ_ Z1=>wr (dm (dm ?_))
 refine Xa2 (v:=I ↑(m-a)) rfl (Xay rfl rfl (by unfold Xai;omega)) (by show I _=I _;first|rfl|(congr 1;omega)) (da (de Z1 (ws λ_ Z2=>wr (dm (dm ?_)))))
 refine Xa2 (v:=I ↑(b-m)) rfl (Xay rfl rfl (by unfold Xai;omega)) (by show I _=I _;first|rfl|(congr 1;omega)) (da (de Z2 (ws λ_ Z3=>Xab ?_)))
 refine Xaj (G:=Nat×Nat×List Cell) (λ(i,j,cur)=>[(0,v),(2,I ↑m),(4,fnV f),(10,I ↑i),(11,I ↑j)]) (λ(i,j,cur) w'=>Mod (λk=>v.ownBlock=some k) w w'∧0<i∧0<j∧cur.length=l.length∧RotI m i j (rotT l a m b) cur∧Vc.Own Cell.cs 4 79 Bo w' v cur) (λ(i,j,cur)=>i+j) (m-a,b-m,l) ?_ ?_ ?_
 ·exact zz5
 ·exact⟨hx,by omega,by omega,rfl,Xzz om9 om9 h3,ho⟩
 intro X1 g1 w1 hF1
 obtain⟨i,j,cur⟩:=g1
 clear hx ho
 obtain⟨hx,hi0,hj0,hcl,hr,ho⟩:=hF1
 refine ws λ_ Z4=>ws λ_ Z5=>wr (dm (dm ?_))
 refine dp (Xas rfl rfl) (de Z5 (wi (λc1=>?_) λc1=>?_))
 ·have hln:=hr.len
  refine Xaa (Z4 _ _ (Xab (ws λ_ Z6=>wr (dm (dm ?_)))))
  refine dp (Xaw rfl rfl) (de Z6 (wi (λc2=>?_) λc2=>?_))
  ·refine ws λ_ Z7=>wr (dm (dm (dm ?_)))
   refine Xa2 (v:=I ↑(m-i)) rfl (Xay rfl rfl (by unfold Xai;omega)) (by show I _=I _;first|rfl|(congr 1;omega)) (dm (dm (dm ?_)))
   refine cD (Xwi cur v Bo f _ ho om9 (m-i) m j om9 om9) (.inl rfl) λu2 w2 x2 hf2=>?_
   have hsz2:=hx.size
   replace hx:=hx.own x2 (λi hi hlt=>hi)
   obtain⟨rfl,cur1,ho,hsw⟩:=hf2
   refine de Z7 (wr (dm (dm ?_)))
   refine Xa2 (v:=I ↑(i-j)) rfl (Xay rfl rfl (by unfold Xai;omega)) (by show I _=I _;first|rfl|(congr 1;omega)) (da (Xae (?_)))
   have hr2:=X13 hr om9 hsw
   exact⟨(i-j,j,cur1),zz5,⟨hx,by omega,hj0,(hr2.len.1.trans (hr.len.1.symm.trans hcl)),hr2,ho⟩,by simp only [];omega⟩
  refine ws λ_ Z8=>wr (dm (dm (dm ?_)))
  refine Xa2 (v:=I ↑(m-i)) rfl (Xay rfl rfl (by unfold Xai;omega)) (by show I _=I _;first|rfl|(congr 1;omega)) (dm (dm ?_))
  refine Xa2 (v:=I ↑(m+j)) rfl (Xa7 rfl rfl (by unfold Xai;omega)) rfl (dm ?_)
  refine Xa2 (v:=I ↑(m+j-i)) rfl (Xay rfl rfl (by unfold Xai;omega)) (by show I _=I _;first|rfl|(congr 1;omega)) (dm (dm ?_))
  refine cD (Xwi cur v Bo f _ ho om9 (m-i) (m+j-i) i om9 om9) (.inl rfl) λu3 w3 x3 hf3=>?_
  have hsz3:=hx.size
  replace hx:=hx.own x3 (λi hi hlt=>hi)
  obtain⟨rfl,cur1,ho,hsw⟩:=hf3
  refine de Z8 (wr (dm (dm ?_)))
  refine Xa2 (v:=I ↑(j-i)) rfl (Xay rfl rfl (by unfold Xai;omega)) (by show I _=I _;first|rfl|(congr 1;omega)) (da (Xae (?_)))
  have hr2:=X2a hr om9 hsw
  exact⟨(i,j-i,cur1),zz5,⟨hx,hi0,by omega,(hr2.len.1.trans (hr.len.1.symm.trans hcl)),hr2,ho⟩,by simp only [];omega⟩
 have hln:=hr.len
 have hij:i=j:=by omega
 subst hij
 refine Xah (Z3 _ _ (wr (dm (dm (dm ?_)))))
 refine Xa2 (v:=I ↑(m-i)) rfl (Xay rfl rfl (by unfold Xai;omega)) (by show I _=I _;first|rfl|(congr 1;omega)) (dm (dm (dm ?_)))
 refine cD (Xwi cur v Bo f _ ho om9 (m-i) m i om9 om9) (.inl rfl) λu4 w4 x4 hf4=>?_
 have hsz4:=hx.size
 replace hx:=hx.own x4 (λi hi hlt=>hi)
 obtain⟨rfl,cur1,ho,hsw⟩:=hf4
 refine Xae ((Xa5 (Xav rfl ?_)))
 exact⟨_,rfl,hx,rfl,cur1,ho,X2b hr hsw⟩
def X2h (v:Value)(Bo f:Nat)(c:Cell->Cell->Int)(N:Nat):Prop:=∀(l:List Cell) (w:World) (a m b:Nat),b-a<N->Vc.Own Cell.cs 4 79 Bo w v l->l.length≤10000000->a<m->m<b->b≤l.length->SM (ltC c) a m b l->Calls Tryz.prog 253 [v,I ↑a,I ↑m,I ↑b,fnV f].toArray w (Does (λk=>v.ownBlock=some k) w (λu w'=>u=.tuple #[]∧∃l',Vc.Own Cell.cs 4 79 Bo w' v l'∧Srt (ltC c) a b l l'))
theorem X8n (l:List Cell)(v:Value)(Bo f:Nat)(c:Cell->Cell->Int)(w:World)(ho:Vc.Own Cell.cs 4 79 Bo w v l)(hl:l.length≤10000000)(hcb:Xbw Tryz.prog f=true)(hc:∀w2 x y,Calls Tryz.prog f [Cell.v x,Cell.v y].toArray w2 (Pure w2 (I (c x y))))(O:Ord (ltC c))(a m b:Nat)(ham:a<m)(hmb:m<b)(hb:b≤l.length)(hsm:SM (ltC c) a m b l)(ih:X2h v Bo f c (b-a)) :
  Calls Tryz.prog 253 [v,I ↑a,I ↑m,I ↑b,fnV f].toArray w (Does (λk=>v.ownBlock=some k) w (λu w'=>u=.tuple #[]∧∃l',Vc.Own Cell.cs 4 79 Bo w' v l'∧Srt (ltC c) a b l l')):=by
 refine cw Tryz.func253 ?_
 have hx:=Vc.Mod.refl (λk=>v.ownBlock=some k) w
 refine ws λ_ Z1=>ws λ_ Z2=>wr (dm (dm ?_))
 refine ps rfl rfl (dp (Xa9 rfl rfl) (de Z2 (wi (λc1=>?_) λc1=>?_)))
 ·have hm1:m=a+1:=by omega
  refine ws λ_ Z3=>wr (dm (da (de Z3 (ws λ_ Z4=>wr (dm (da (de Z4 (ws λ_ Z5=>Xab ?_))))))))
  refine Xaj (G:=Nat×Nat) (λ(i,j)=>[(0,v),(1,I ↑a),(2,I ↑m),(3,I ↑b),(4,fnV f),(10,I ↑i),(11,I ↑j)]) (λ(i,j) w'=>Mod (λk=>v.ownBlock=some k) w w'∧m≤i∧i≤j∧j≤b∧(j=b∨∃x y,l[a]?=some x∧l[j]?=some y∧ltC c y x=false)∧(i=m∨∃x y,l[a]?=some x∧l[i-1]?=some y∧ltC c y x=true)∧Vc.Own Cell.cs 4 79 Bo w' v l) (λ(i,j)=>j-i) (m,b) ?_ ?_ ?_
  ·exact zz7
  ·exact⟨hx,Nat.le_refl _,by omega,Nat.le_refl _,.inl rfl,.inl rfl,ho⟩
  intro X1 g1 w1 hF1
  obtain⟨i,j⟩:=g1
  clear hx ho
  obtain⟨hx,hi,hij,hjb,hup,hlo,ho⟩:=hF1
  refine ws λ_ Z6=>ws λ_ Z7=>wr (dm (dm ?_))
  refine dp (Xaf rfl rfl) (de Z7 (wi (λc2=>?_) λc2=>?_))
  ·obtain⟨x,hxa⟩:∃x,l[a]?=some x:=gtE
   obtain⟨y,hyh⟩:∃x,l[(i+j) / 2]?=some x:=gtE
   refine Xaa (Z6 _ _ (Xab (ws λ_ Z8=>wr (dm (dm ?_)))))
   refine Xa2 (v:=I ↑(i+j)) rfl (Xa7 rfl rfl (by unfold Xai;omega)) rfl (Xa2 (v:=.int .u64 ↑(i+j)) rfl (Xdl (n:=i+j) (k:=.i64) om9 rfl kr9 kr9) rfl (dp (Xdw (u:=i+j) rfl rfl) (dp (Xdy (n:=(i+j) / 2) om9 rfl kr9 kr9) (da (de Z8 (ws λ_ Z9=>?_))))))
   refine Xaq (R:=Ext) Ext.refl (λ_ _ _=>Ext.trans) kr9 [4,8] [(0,.p,false),(1,.p,false),(2,.p,false),(3,.p,false),(4,.l,false),(5,.p,false),(6,.p,false),(7,.p,false),(8,.l,false),(9,.x,true),(10,.p,false)] rfl kr9 kr9 (λw2 ew2=>?_)
   have x2:=drewx ew2
   clear ew2
   replace ho:=ho.ext x2
   replace hx:=hx.ext x2
   iterate 3 refine dm ?_
   refine di 79 4 (ho.arr ir9).sl rfl ((ho.arr ir9).lt hyh) (D_l rfl (λw' hR=>Xac kr9 rfl rfl (((ho.arr ir9).ext hR).row hyh)) (dm (dm ?_)))
   refine di 79 4 (ho.arr ir9).sl rfl ((ho.arr ir9).lt hxa) (D_l rfl (λw' hR=>Xac kr9 rfl rfl (((ho.arr ir9).ext hR).row hxa)) (Xcz (vs:=[y.v,x.v]) rfl rfl hcb (hc _ y x) rfl RX.all (λw3 x3=>?_)))
   replace ho:=ho.ext x3
   replace hx:=hx.ext x3
   refine dp (Xaf rfl rfl) (de Z9 (wi (λc3=>?_) λc3=>?_))
   ·have hlt:ltC c y x=true:=by simpa [ltC]using c3
    refine wr (dm ?_)
    refine pa rfl rfl (da (Xae (?_)))
    first|exact⟨((i+j) / 2+1,j),zz7,⟨hx,by omega,by omega,hjb,hup,.inr ⟨x,y,hxa,by rw[Nat.add_sub_cancel];exact hyh,hlt⟩,ho⟩,by simp only [];omega⟩|exact⟨(i,(i+j) / 2),zz7,⟨hx,hi,by omega,by omega,.inr ⟨x,y,hxa,hyh,hlt⟩,hlo,ho⟩,by simp only [];omega⟩
   have hlt:ltC c y x=false:=by simpa [ltC]using c3
   refine wr (dm (da (Xae (?_))))
   first|exact⟨((i+j) / 2+1,j),zz7,⟨hx,by omega,by omega,hjb,hup,.inr ⟨x,y,hxa,by rw[Nat.add_sub_cancel];exact hyh,hlt⟩,ho⟩,by simp only [];omega⟩|exact⟨(i,(i+j) / 2),zz7,⟨hx,hi,by omega,by omega,.inr ⟨x,y,hxa,hyh,hlt⟩,hlo,ho⟩,by simp only [];omega⟩
  refine Xah (Z5 _ _ (ws λ_ Z10=>ws λ_ Z11=>wr (dm (da (de Z11 (Xab ?_))))))
  refine Xaj (G:=Nat×List Cell) (λ(k,cur)=>[(0,v),(1,I ↑a),(2,I ↑m),(3,I ↑b),(4,fnV f),(10,I ↑i),(13,I ↑k)]) (λ(k,cur) w'=>Mod (λk=>v.ownBlock=some k) w w'∧ShU a k l cur∧k≤i-1∧Vc.Own Cell.cs 4 79 Bo w' v cur) (λ(k,cur)=>i-k) (a,l) ?_ ?_ ?_
  ·exact zz7
  ·exact⟨hx,X8h om9,by omega,ho⟩
  intro X4 g4 w4 hF4
  obtain⟨k,cur⟩:=g4
  clear hx ho
  obtain⟨hx,hk,hki,ho⟩:=hF4
  refine ws λ_ Z12=>ws λ_ Z13=>wr (dm (dm ?_))
  refine ps rfl rfl (dp (Xaf rfl rfl) (de Z13 (wi (λc4=>?_) λc4=>?_)))
  ·have hkl:=hk.len
   obtain⟨x,hxk⟩:∃x,cur[k]?=some x:=gtE
   obtain⟨y,hyk⟩:∃x,cur[k+1]?=some x:=gtE
   have hb0:=Xcv ho (λe=>by rw[e]at hxk;simp at hxk)
   refine Xaa (Z12 _ _ (ws λ_ Z14=>Xab (Xaq (R:=Ext) Ext.refl (λ_ _ _=>Ext.trans) kr9 [9,13] [(0,.p,false),(1,.p,false),(2,.p,false),(3,.p,false),(4,.p,false),(5,.p,false),(6,.p,false),(7,.p,false),(8,.p,false),(9,.l,false),(10,.p,false),(11,.p,false),(12,.p,false),(13,.l,false),(14,.p,false),(15,.x,true),(16,.p,false),(17,.x,true)] rfl kr9 kr9 (λw5 ew5=>?_))))
   have x5:=drewx ew5
   clear ew5
   replace ho:=ho.ext x5
   replace hx:=hx.ext x5
   iterate 4 refine dm ?_
   refine Xa2 (v:=I ↑(k+1)) rfl (Xa7 rfl rfl (by unfold Xai;omega)) rfl (dm (dm ?_))
   refine Xa2 (v:=I ↑(k+1)) rfl (Xa7 rfl rfl (by unfold Xai;omega)) rfl (di 79 4 (ho.arr ir9).sl rfl ((ho.arr ir9).lt hyk) (D_l rfl (λw' hR=>Xac kr9 rfl rfl (((ho.arr ir9).ext hR).row hyk)) (dm (dm ?_))))
   refine di 79 4 (ho.arr ir9).sl rfl ((ho.arr ir9).lt hxk) (D_l rfl (λw' hR=>Xac kr9 rfl rfl (((ho.arr ir9).ext hR).row hxk)) (Xa2 (v:=ptr (base v).1 (k*4+0)) rfl (Xba (i:=k) (e:=79) (k:=4) kr9 ho.sl rfl rfl (by first|omega|(rw[List.length_set];omega))) (by rw[hb0];show ptr _ (0+_)=_;rw[Nat.zero_add];rfl) ?_))
   refine Xa3 (enc:=Cell.cs) (sz:=4) (l:=cur) (i:=k) (j:=0) (x:=y) (vs:=y.cs) ir9 rfl ho rfl rfl rfl kr9 (by first|omega|(rw[List.length_set];omega)) rfl (Nat.le_refl 4) (by intro v hv;simp at hv;rcases hv with rfl|rfl|rfl|rfl<;>rfl) (.inl rfl) (λw6 x6 xs6 ho_n=>?_)
   replace hx:=hx.own x6 (λi hi hlt=>hi)
   replace ho:=ho_n
   refine Xa2 (v:=ptr (base v).1 ((k+1)*4+0)) rfl (Xba (i:=(k+1)) (e:=79) (k:=4) kr9 ho.sl rfl rfl (by first|omega|(rw[List.length_set];omega))) (by rw[hb0];show ptr _ (0+_)=_;rw[Nat.zero_add];rfl) ?_
   refine Xa3 (enc:=Cell.cs) (sz:=4) (l:=(cur.set k y)) (i:=(k+1)) (j:=0) (x:=x) (vs:=x.cs) ir9 rfl ho rfl rfl rfl kr9 (by first|omega|(rw[List.length_set];omega)) rfl (Nat.le_refl 4) (by intro v hv;simp at hv;rcases hv with rfl|rfl|rfl|rfl<;>rfl) (.inl rfl) (λw7 x7 xs7 ho_n=>?_)
   replace hx:=hx.own x7 (λi hi hlt=>hi)
   replace ho:=ho_n
   refine de Z14 (wr (dm ?_))
   refine pa rfl rfl (da (Xae (?_)))
   exact⟨(k+1,_),zz7,⟨hx,Xrc hk hxk hyk,by omega,ho⟩,by simp only [];omega⟩
  refine Xah (Z10 _ _ (Xad (Xav rfl ?_)))
  have hkl:=hk.len
  have:k=i-1:=by omega
  subst this
  have hij2:i=j:=by omega
  subst hij2
  exact⟨_,rfl,hx,rfl,cur,ho,Xwb O hsm hm1 hi hjb hk hup hlo⟩
 refine Xaa (Z1 _ _ (ws λ_ Z15=>ws λ_ Z16=>wr (dm (dm ?_))))
 refine ps rfl rfl (dp (Xa9 rfl rfl) (de Z16 (wi (λc5=>?_) λc5=>?_)))
 ·have hm1:b=m+1:=by omega
  refine ws λ_ Z17=>wr (dm (da (de Z17 (ws λ_ Z18=>wr (dm (da (de Z18 (ws λ_ Z19=>Xab ?_))))))))
  refine Xaj (G:=Nat×Nat) (λ(i,j)=>[(0,v),(1,I ↑a),(2,I ↑m),(3,I ↑b),(4,fnV f),(14,I ↑i),(15,I ↑j)]) (λ(i,j) w'=>Mod (λk=>v.ownBlock=some k) w w'∧a≤i∧i≤j∧j≤m∧(j=m∨∃x y,l[m]?=some x∧l[j]?=some y∧ltC c x y=true)∧(i=a∨∃x y,l[m]?=some x∧l[i-1]?=some y∧ltC c x y=false)∧Vc.Own Cell.cs 4 79 Bo w' v l) (λ(i,j)=>j-i) (a,m) ?_ ?_ ?_
  ·exact zz7
  ·exact⟨hx,Nat.le_refl _,by omega,Nat.le_refl _,.inl rfl,.inl rfl,ho⟩
  intro X8 g8 w8 hF8
  obtain⟨i,j⟩:=g8
  clear hx ho
  obtain⟨hx,hi,hij,hjb,hup,hlo,ho⟩:=hF8
  refine ws λ_ Z20=>ws λ_ Z21=>wr (dm (dm ?_))
  refine dp (Xaf rfl rfl) (de Z21 (wi (λc6=>?_) λc6=>?_))
  ·obtain⟨x,hxm⟩:∃x,l[m]?=some x:=gtE
   obtain⟨y,hyh⟩:∃x,l[(i+j) / 2]?=some x:=gtE
   refine Xaa (Z20 _ _ (Xab (ws λ_ Z22=>wr (dm (dm ?_)))))
   refine Xa2 (v:=I ↑(i+j)) rfl (Xa7 rfl rfl (by unfold Xai;omega)) rfl (Xa2 (v:=.int .u64 ↑(i+j)) rfl (Xdl (n:=i+j) (k:=.i64) om9 rfl kr9 kr9) rfl (dp (Xdw (u:=i+j) rfl rfl) (dp (Xdy (n:=(i+j) / 2) om9 rfl kr9 kr9) (da (de Z22 (ws λ_ Z23=>?_))))))
   refine Xaq (R:=Ext) Ext.refl (λ_ _ _=>Ext.trans) kr9 [4,8] [(0,.p,false),(1,.p,false),(2,.p,false),(3,.p,false),(4,.l,false),(5,.p,false),(6,.p,false),(7,.p,false),(8,.l,false),(9,.x,true),(10,.p,false),(11,.p,false)] rfl kr9 kr9 (λw9 ew9=>?_)
   have x9:=drewx ew9
   clear ew9
   replace ho:=ho.ext x9
   replace hx:=hx.ext x9
   iterate 3 refine dm ?_
   refine di 79 4 (ho.arr ir9).sl rfl ((ho.arr ir9).lt hxm) (D_l rfl (λw' hR=>Xac kr9 rfl rfl (((ho.arr ir9).ext hR).row hxm)) (dm (dm ?_)))
   refine di 79 4 (ho.arr ir9).sl rfl ((ho.arr ir9).lt hyh) (D_l rfl (λw' hR=>Xac kr9 rfl rfl (((ho.arr ir9).ext hR).row hyh)) (Xcz (vs:=[x.v,y.v]) rfl rfl hcb (hc _ x y) rfl RX.all (λw10 x10=>?_)))
   replace ho:=ho.ext x10
   replace hx:=hx.ext x10
   refine dp (Xaf rfl rfl) (dn (de Z23 ?_))
   refine wc (λc7=>?_) λc7=>?_
   ·have hlt:ltC c x y=false:=by simpa [ltC]using c7
    refine wr (dm ?_)
    refine pa rfl rfl (da (Xae (?_)))
    first|exact⟨((i+j) / 2+1,j),zz7,⟨hx,by omega,by omega,hjb,hup,.inr ⟨x,y,hxm,by rw[Nat.add_sub_cancel];exact hyh,hlt⟩,ho⟩,by simp only [];omega⟩|exact⟨(i,(i+j) / 2),zz7,⟨hx,hi,by omega,by omega,.inr ⟨x,y,hxm,hyh,hlt⟩,hlo,ho⟩,by simp only [];omega⟩
   have hlt:ltC c x y=true:=by simpa [ltC]using c7
   refine wr (dm (da (Xae (?_))))
   first|exact⟨((i+j) / 2+1,j),zz7,⟨hx,by omega,by omega,hjb,hup,.inr ⟨x,y,hxm,by rw[Nat.add_sub_cancel];exact hyh,hlt⟩,ho⟩,by simp only [];omega⟩|exact⟨(i,(i+j) / 2),zz7,⟨hx,hi,by omega,by omega,.inr ⟨x,y,hxm,hyh,hlt⟩,hlo,ho⟩,by simp only [];omega⟩
  refine Xah (Z19 _ _ (ws λ_ Z24=>ws λ_ Z25=>wr (dm (da (de Z25 (Xab ?_))))))
  refine Xaj (G:=Nat×List Cell) (λ(k,cur)=>[(0,v),(1,I ↑a),(2,I ↑m),(3,I ↑b),(4,fnV f),(14,I ↑i),(17,I ↑k)]) (λ(k,cur) w'=>Mod (λk=>v.ownBlock=some k) w w'∧ShD m k l cur∧i≤k∧Vc.Own Cell.cs 4 79 Bo w' v cur) (λ(k,cur)=>k) (m,l) ?_ ?_ ?_
  ·exact zz7
  ·exact⟨hx,X8i om9,by omega,ho⟩
  intro X11 g11 w11 hF11
  obtain⟨k,cur⟩:=g11
  clear hx ho
  obtain⟨hx,hk,hki,ho⟩:=hF11
  refine ws λ_ Z26=>ws λ_ Z27=>wr (dm (dm ?_))
  refine dp (Xaw rfl rfl) (de Z27 (wi (λc8=>?_) λc8=>?_))
  ·have hkl:=hk.len
   obtain⟨x,hxk⟩:∃x,cur[k]?=some x:=gtE
   obtain⟨y,hyk⟩:∃x,cur[k-1]?=some x:=gtE
   have hb0:=Xcv ho (λe=>by rw[e]at hxk;simp at hxk)
   refine Xaa (Z26 _ _ (ws λ_ Z28=>Xab (Xaq (R:=Ext) Ext.refl (λ_ _ _=>Ext.trans) kr9 [9,13] [(0,.p,false),(1,.p,false),(2,.p,false),(3,.p,false),(4,.p,false),(5,.p,false),(6,.p,false),(7,.p,false),(8,.p,false),(9,.l,false),(10,.p,false),(11,.p,false),(12,.p,false),(13,.l,false),(14,.p,false),(15,.x,true),(16,.p,false),(17,.x,true)] rfl kr9 kr9 (λw12 ew12=>?_))))
   have x12:=drewx ew12
   clear ew12
   replace ho:=ho.ext x12
   replace hx:=hx.ext x12
   iterate 4 refine dm ?_
   refine Xa2 (v:=I ↑(k-1)) rfl (Xay rfl rfl (by unfold Xai;omega)) (by show I _=I _;first|rfl|(congr 1;omega)) (dm (dm ?_))
   refine Xa2 (v:=I ↑(k-1)) rfl (Xay rfl rfl (by unfold Xai;omega)) (by show I _=I _;first|rfl|(congr 1;omega)) (di 79 4 (ho.arr ir9).sl rfl ((ho.arr ir9).lt hyk) (D_l rfl (λw' hR=>Xac kr9 rfl rfl (((ho.arr ir9).ext hR).row hyk)) (dm (dm ?_))))
   refine di 79 4 (ho.arr ir9).sl rfl ((ho.arr ir9).lt hxk) (D_l rfl (λw' hR=>Xac kr9 rfl rfl (((ho.arr ir9).ext hR).row hxk)) (Xa2 (v:=ptr (base v).1 (k*4+0)) rfl (Xba (i:=k) (e:=79) (k:=4) kr9 ho.sl rfl rfl (by first|omega|(rw[List.length_set];omega))) (by rw[hb0];show ptr _ (0+_)=_;rw[Nat.zero_add];rfl) ?_))
   refine Xa3 (enc:=Cell.cs) (sz:=4) (l:=cur) (i:=k) (j:=0) (x:=y) (vs:=y.cs) ir9 rfl ho rfl rfl rfl kr9 (by first|omega|(rw[List.length_set];omega)) rfl (Nat.le_refl 4) (by intro v hv;simp at hv;rcases hv with rfl|rfl|rfl|rfl<;>rfl) (.inl rfl) (λw13 x13 xs13 ho_n=>?_)
   replace hx:=hx.own x13 (λi hi hlt=>hi)
   replace ho:=ho_n
   refine Xa2 (v:=ptr (base v).1 ((k-1)*4+0)) rfl (Xba (i:=(k-1)) (e:=79) (k:=4) kr9 ho.sl rfl rfl (by first|omega|(rw[List.length_set];omega))) (by rw[hb0];show ptr _ (0+_)=_;rw[Nat.zero_add];rfl) ?_
   refine Xa3 (enc:=Cell.cs) (sz:=4) (l:=(cur.set k y)) (i:=(k-1)) (j:=0) (x:=x) (vs:=x.cs) ir9 rfl ho rfl rfl rfl kr9 (by first|omega|(rw[List.length_set];omega)) rfl (Nat.le_refl 4) (by intro v hv;simp at hv;rcases hv with rfl|rfl|rfl|rfl<;>rfl) (.inl rfl) (λw14 x14 xs14 ho_n=>?_)
   replace hx:=hx.own x14 (λi hi hlt=>hi)
   replace ho:=ho_n
   refine de Z28 (wr (dm ?_))
   refine Xa2 (v:=I ↑(k-1)) rfl (Xay rfl rfl (by unfold Xai;omega)) (by show I _=I _;first|rfl|(congr 1;omega)) (da (Xae (?_)))
   exact⟨(k-1,_),zz7,⟨hx,Xrd hk om9 hxk hyk,by omega,ho⟩,by simp only [];omega⟩
  refine Xah (Z24 _ _ (Xad (Xav rfl ?_)))
  have hkl:=hk.len
  have:k=i:=by omega
  subst this
  have hij2:k=j:=by omega
  subst hij2
  exact⟨_,rfl,hx,rfl,cur,ho,Xwc O hsm hm1 hi hjb hk hup hlo⟩
 have ham2:a+2≤m:=by omega
 have hmb2:m+2≤b:=by omega
 refine Xaa (Z15 _ _ (ws λ_ Z29=>wr (dm (dm ?_))))
 refine Xa2 (v:=I ↑(a+b)) rfl (Xa7 rfl rfl (by unfold Xai;omega)) rfl (Xa2 (v:=.int .u64 ↑(a+b)) rfl (Xdl (n:=a+b) (k:=.i64) om9 rfl kr9 kr9) rfl (dp (Xdw (u:=a+b) rfl rfl) (dp (Xdy (n:=(a+b) / 2) om9 rfl kr9 kr9) (da (de Z29 (ws λ_ Z30=>wr (dm (dm ?_))))))))
 refine Xa2 (v:=I ↑((a+b) / 2+m)) rfl (Xa7 rfl rfl (by unfold Xai;omega)) rfl (da (de Z30 (ws λ_ Z31=>wr (da (da (de Z31 ?_))))))
 refine Xdi (G:=Nat×Nat) (λ(s0,r0)=>[(0,v),(1,I ↑a),(2,I ↑m),(3,I ↑b),(4,fnV f),(18,I ↑((a+b) / 2)),(19,I ↑((a+b) / 2+m)),(20,I ↑s0),(21,I ↑r0)]) (λ(s0,r0) w'=>Mod (λk=>v.ownBlock=some k) w w'∧a≤s0∧s0≤r0∧r0≤m∧(s0=a∨(a+b) / 2+m-s0=b)∧(r0=m∨(a+b) / 2+m-r0=m)∧(a+b) / 2+m-s0≤b∧m≤(a+b) / 2+m-r0∧Vc.Own Cell.cs 4 79 Bo w' v l) ?_ ?_
 ·refine ws λ_ Z32=>wr (dm (dm ?_))
  refine dp (Xaw rfl rfl) (de Z32 (wi (λc9=>?_) λc9=>?_))
  ·have hgm:(a+b) / 2<m:=by omega
   refine ws λ_ Z33=>wr (dm (dm ?_))
   refine Xa2 (v:=I ↑((a+b) / 2+m-b)) rfl (Xay rfl rfl (by unfold Xai;omega)) (by show I _=I _;first|rfl|(congr 1;omega)) (da (de Z33 (wr (dm (da (Xae (?_)))))))
   first|exact⟨((a+b) / 2+m-b,(a+b) / 2),zz9,hx,by omega,by omega,by omega,.inr om9,.inr om9,by omega,by omega,ho⟩|exact⟨(a,m),zz9,hx,by omega,by omega,by omega,.inl rfl,.inl rfl,by omega,by omega,ho⟩
  have hgm:m≤(a+b) / 2:=by omega
  refine ws λ_ Z34=>wr (dm (da (de Z34 (wr (dm (da (Xae (?_))))))))
  first|exact⟨((a+b) / 2+m-b,(a+b) / 2),zz9,hx,by omega,by omega,by omega,.inr om9,.inr om9,by omega,by omega,ho⟩|exact⟨(a,m),zz9,hx,by omega,by omega,by omega,.inl rfl,.inl rfl,by omega,by omega,ho⟩
 intro X15 g15 w15 hF15
 obtain⟨s0,r0⟩:=g15
 clear hx ho
 obtain⟨hx,q0,q1,q2,q3,q4,q5,q6,ho⟩:=hF15
 refine ws λ_ Z35=>wr (dm ?_)
 refine Xa2 (v:=I ↑((a+b) / 2+m-1)) rfl (Xay rfl rfl (by unfold Xai;omega)) (by show I _=I _;first|rfl|(congr 1;omega)) (da (de Z35 (ws λ_ Z36=>Xab ?_)))
 refine Xaj (G:=Nat×Nat) (λ(s,r)=>[(0,v),(1,I ↑a),(2,I ↑m),(3,I ↑b),(4,fnV f),(18,I ↑((a+b) / 2)),(19,I ↑((a+b) / 2+m)),(20,I ↑s),(21,I ↑r),(22,I ↑((a+b) / 2+m-1))]) (λ(s,r) w'=>Mod (λk=>v.ownBlock=some k) w w'∧s0≤s∧s≤r∧r≤r0∧(s=s0∨∃x y,l[s-1]?=some x∧l[(a+b) / 2+m-s]?=some y∧ltC c y x=false)∧(r=r0∨∃x y,l[r]?=some x∧l[(a+b) / 2+m-1-r]?=some y∧ltC c y x=true)∧Vc.Own Cell.cs 4 79 Bo w' v l) (λ(s,r)=>r-s) (s0,r0) ?_ ?_ ?_
 ·exact zz10
 ·exact⟨hx,Nat.le_refl _,q1,Nat.le_refl _,.inl rfl,.inl rfl,ho⟩
 intro X16 g16 w16 hF16
 obtain⟨s,r⟩:=g16
 clear hx ho
 obtain⟨hx,hs0,hsr1,hr0,hlo,hhi,ho⟩:=hF16
 refine ws λ_ Z37=>ws λ_ Z38=>wr (dm (dm ?_))
 refine dp (Xaf rfl rfl) (de Z38 (wi (λc10=>?_) λc10=>?_))
 ·obtain⟨y,hyh⟩:∃x,l[(a+b) / 2+m-1-(s+r) / 2]?=some x:=gtE
  obtain⟨x,hxc⟩:∃x,l[(s+r) / 2]?=some x:=gtE
  refine Xaa (Z37 _ _ (Xab (ws λ_ Z39=>wr (dm (dm ?_)))))
  refine Xa2 (v:=I ↑(s+r)) rfl (Xa7 rfl rfl (by unfold Xai;omega)) rfl (Xa2 (v:=.int .u64 ↑(s+r)) rfl (Xdl (n:=s+r) (k:=.i64) om9 rfl kr9 kr9) rfl (dp (Xdw (u:=s+r) rfl rfl) (dp (Xdy (n:=(s+r) / 2) om9 rfl kr9 kr9) (da (de Z39 (ws λ_ Z40=>?_))))))
  refine Xaq (R:=Ext) Ext.refl (λ_ _ _=>Ext.trans) kr9 [6,10] [(0,.p,false),(1,.p,false),(2,.p,false),(3,.p,false),(4,.p,false),(5,.p,false),(6,.l,false),(7,.p,false),(8,.p,false),(9,.p,false),(10,.l,false),(11,.x,true),(12,.p,false),(13,.p,false)] rfl kr9 kr9 (λw17 ew17=>?_)
  have x17:=drewx ew17
  clear ew17
  replace ho:=ho.ext x17
  replace hx:=hx.ext x17
  iterate 4 refine dm ?_
  refine Xa2 (v:=I ↑((a+b) / 2+m-1-(s+r) / 2)) rfl (Xay rfl rfl (by unfold Xai;omega)) (by show I _=I _;first|rfl|(congr 1;omega)) (di 79 4 (ho.arr ir9).sl rfl ((ho.arr ir9).lt hyh) (D_l rfl (λw' hR=>Xac kr9 rfl rfl (((ho.arr ir9).ext hR).row hyh)) (dm (dm ?_))))
  refine di 79 4 (ho.arr ir9).sl rfl ((ho.arr ir9).lt hxc) (D_l rfl (λw' hR=>Xac kr9 rfl rfl (((ho.arr ir9).ext hR).row hxc)) (Xcz (vs:=[y.v,x.v]) rfl rfl hcb (hc _ y x) rfl RX.all (λw18 x18=>?_)))
  replace ho:=ho.ext x18
  replace hx:=hx.ext x18
  refine dp (Xaf rfl rfl) (dn (de Z40 ?_))
  refine wc (λc11=>?_) λc11=>?_
  ·have hlt:ltC c y x=false:=by simpa [ltC]using c11
   refine wr (dm ?_)
   refine pa rfl rfl (da (Xae (?_)))
   first|exact⟨((s+r) / 2+1,r),zz10,⟨hx,by omega,by omega,hr0,.inr ⟨x,y,by rw[Nat.add_sub_cancel];exact hxc,by rw[←hyh];congr 1;omega,hlt⟩,hhi,ho⟩,by simp only [];omega⟩|exact⟨(s,(s+r) / 2),zz10,⟨hx,hs0,by omega,by omega,hlo,.inr ⟨x,y,hxc,hyh,hlt⟩,ho⟩,by simp only [];omega⟩
  have hlt:ltC c y x=true:=by simpa [ltC]using c11
  refine wr (dm (da (Xae (?_))))
  first|exact⟨((s+r) / 2+1,r),zz10,⟨hx,by omega,by omega,hr0,.inr ⟨x,y,by rw[Nat.add_sub_cancel];exact hxc,by rw[←hyh];congr 1;omega,hlt⟩,hhi,ho⟩,by simp only [];omega⟩|exact⟨(s,(s+r) / 2),zz10,⟨hx,hs0,by omega,by omega,hlo,.inr ⟨x,y,hxc,hyh,hlt⟩,ho⟩,by simp only [];omega⟩
 have hsr:s=r:=by omega
 subst hsr
 have hm8:∀l2,((s<m∧m<(a+b) / 2+m-s->l2=rotT l s m ((a+b) / 2+m-s))∧(¬ (s<m∧m<(a+b) / 2+m-s)->l2=l))->SMr (ltC c) a m b s ((a+b) / 2+m-s) l l2:=λl2 h2=>X2c O hsm om9 om9 om9 om9 (by
  rcases hlo with e|e
  ·rcases q3 with e3|e3
   ·exact .inl om9
   ·exact .inr (.inl (by rw[e];exact e3))
  ·exact .inr (.inr e)) (by
  rcases hhi with e|e
  ·rcases q4 with e4|e4
   ·exact .inl om9
   ·exact .inr (.inl (by rw[e];exact e4))
  ·obtain⟨x,y,e1,e2,e3⟩:=e
   exact .inr (.inr ⟨x,y,e1,by rw[←e2];congr 1;omega,e3⟩)) h2
 have hmid:s+((a+b) / 2+m-s)=(a+b) / 2+m:=by omega
 refine Xah (Z36 _ _ (ws λ_ Z41=>wr (dm (dm ?_))))
 refine Xa2 (v:=I ↑((a+b) / 2+m-s)) rfl (Xay rfl rfl (by unfold Xai;omega)) (by show I _=I _;first|rfl|(congr 1;omega)) (da (de Z41 ?_))
 refine Xdi (G:=List Cell) (λl2=>[(0,v),(1,I ↑a),(3,I ↑b),(4,fnV f),(18,I ↑((a+b) / 2)),(20,I ↑s),(24,I ↑((a+b) / 2+m-s))]) (λl2 w'=>Mod (λk=>v.ownBlock=some k) w w'∧SMr (ltC c) a m b s ((a+b) / 2+m-s) l l2∧l2.length=l.length∧Vc.Own Cell.cs 4 79 Bo w' v l2) ?_ ?_
 ·refine ws λ_ Z42=>wr (dm (dm ?_))
  refine dp (Xaf rfl rfl) (dm ?_)
  refine Xag 181 rfl (λc12=>?_) (λc12=>?_)
  ·iterate 2 refine dm ?_
   refine dp (Xaf rfl rfl) (dk' (de Z42 ?_))
   refine wi (λc13=>?_) λc13=>?_
   ·refine wr (dm (dm (dm (dm (dm ?_)))))
    refine cD (X8m l v Bo f _ ho hl s m ((a+b) / 2+m-s) om9 om9 om9) (.inl rfl) λu19 w19 x19 hf19=>?_
    have hsz19:=hx.size
    replace hx:=hx.own x19 (λi hi hlt=>hi)
    obtain⟨rfl,cur1,ho,hrt⟩:=hf19
    have hm9:=hm8 cur1 ⟨λ_=>hrt,λh=>absurd ⟨by omega,by omega⟩ h⟩
    have hl9:cur1.length=l.length:=by rw[hrt];have:=(Xzz (l:=l) (a:=s) (m:=m) (b:=(a+b) / 2+m-s) om9 om9 om9).len.1;omega
    refine Xae (?_)
    exact⟨_,zz7,hx,hm9,hl9,ho⟩
   have hm9:=hm8 l ⟨λh=>absurd h.2 om9,λ_=>rfl⟩
   have hl9:l.length=l.length:=rfl
   refine Xaa ?_
   exact⟨_,zz7,hx,hm9,hl9,ho⟩
  have hm9:=hm8 l ⟨λh=>absurd h.1 om9,λ_=>rfl⟩
  have hl9:l.length=l.length:=rfl
  refine dk (dk (dk (dk' (de Z42 ?_))))
  refine W_f rfl (Xaa ?_)
  exact⟨_,zz7,hx,hm9,hl9,ho⟩
 intro X20 g20 w20 hF20
 revert hF20;revert g20;intro l2 hF20
 clear hx ho
 obtain⟨hx,hm9,hl9,ho⟩:=hF20
 refine Xdi (G:=List Cell) (λl3=>[(0,v),(3,I ↑b),(4,fnV f),(18,I ↑((a+b) / 2)),(24,I ↑((a+b) / 2+m-s))]) (λl3 w'=>Mod (λk=>v.ownBlock=some k) w w'∧Srt (ltC c) a ((a+b) / 2) l2 l3∧Vc.Own Cell.cs 4 79 Bo w' v l3) ?_ ?_
 ·refine ws λ_ Z43=>wr (dm (dm ?_))
  refine dp (Xaf rfl rfl) (dm ?_)
  refine Xag 195 rfl (λc14=>?_) (λc14=>?_)
  ·iterate 2 refine dm ?_
   refine dp (Xaf rfl rfl) (dk' (de Z43 ?_))
   refine wi (λc15=>?_) λc15=>?_
   ·refine wr (dm (dm (dm (dm (dm ?_)))))
    refine cD (ih l2 _ a s ((a+b) / 2) om9 ho om9 om9 om9 om9 (Xre hm9 hmid)) (.inl rfl) λu21 w21 x21 hf21=>?_
    have hsz21:=hx.size
    replace hx:=hx.own x21 (λi hi hlt=>hi)
    obtain⟨rfl,cur1,ho,hs9⟩:=hf21
    refine Xae (?_)
    exact⟨_,zz5,hx,hs9,ho⟩
   have hs9:=Xek hm9 hmid (λh=>absurd h.2 om9)
   refine Xaa ?_
   exact⟨_,zz5,hx,hs9,ho⟩
  have hs9:=Xek hm9 hmid (λh=>absurd h.1 om9)
  refine dk (dk (dk (dk' (de Z43 ?_))))
  refine W_f rfl (Xaa ?_)
  exact⟨_,zz5,hx,hs9,ho⟩
 intro X22 g22 w22 hF22
 revert hF22;revert g22;intro l3 hF22
 clear hx ho
 obtain⟨hx,hs9,ho⟩:=hF22
 refine ws λ_ Z44=>wr (dm (dm ?_))
 refine dp (Xaf rfl rfl) (dm ?_)
 refine Xag 209 rfl (λc16=>?_) (λc16=>?_)
 ·iterate 2 refine dm ?_
  refine dp (Xaf rfl rfl) (dk' (de Z44 ?_))
  refine wi (λc17=>?_) λc17=>?_
  ·refine wr (dm (dm (dm (dm (dm ?_)))))
   refine cD (ih l3 _ ((a+b) / 2) ((a+b) / 2+m-s) b om9 ho (by have:=hs9.len.1;omega) om9 om9 (by have:=hs9.len.1;omega) (Xng hm9 hmid hs9)) (.inl rfl) λu23 w23 x23 hf23=>?_
   have hsz23:=hx.size
   replace hx:=hx.own x23 (λi hi hlt=>hi)
   obtain⟨rfl,cur1,ho,hr9⟩:=hf23
   have hf9:=Xhn hm9 hmid hs9 hr9
   refine Xae ((Xa5 (Xav rfl ?_)))
   exact⟨_,rfl,hx,rfl,_,ho,hf9⟩
  have hf9:=Xhn hm9 hmid hs9 (Xdv hm9 hmid hs9 (λh=>absurd h.2 om9))
  refine Xaa (Xa5 (Xav rfl ?_))
  exact⟨_,rfl,hx,rfl,_,ho,hf9⟩
 have hf9:=Xhn hm9 hmid hs9 (Xdv hm9 hmid hs9 (λh=>absurd h.1 om9))
 refine dk (dk (dk (dk' (de Z44 ?_))))
 refine W_f rfl (Xaa (Xa5 (Xav rfl ?_)))
 exact⟨_,rfl,hx,rfl,_,ho,hf9⟩
theorem Xpc (v:Value)(Bo f:Nat)(c:Cell->Cell->Int)(hcb:Xbw Tryz.prog f=true)(hc:∀w2 x y,Calls Tryz.prog f [Cell.v x,Cell.v y].toArray w2 (Pure w2 (I (c x y))))(O:Ord (ltC c)):∀N,X2h v Bo f c N
 | 0=>λ_ _ _ _ _ h=>absurd h (Nat.not_lt_zero _)
 | N+1=>λl w a m b hN ho hl ham hmb hb hsm=>X8n l v Bo f c w ho hl hcb hc O a m b ham hmb hb hsm (λl2 w2 a2 m2 b2 hN2=>Xpc v Bo f c hcb hc O N l2 w2 a2 m2 b2 om9)
theorem X8o (l:List Cell)(v:Value)(Bo f:Nat)(c:Cell->Cell->Int)(w:World)(ho:Vc.Own Cell.cs 4 79 Bo w v l)(hl:l.length≤10000000)(hcb:Xbw Tryz.prog f=true)(hc:∀w2 x y,Calls Tryz.prog f [Cell.v x,Cell.v y].toArray w2 (Pure w2 (I (c x y))))(O:Ord (ltC c)) :
  Calls Tryz.prog 180 [v,I ↑l.length,fnV f].toArray w (Does (λk=>v.ownBlock=some k) w (λu w'=>u=.tuple #[]∧∃l',Vc.Own Cell.cs 4 79 Bo w' v l'∧l'.Perm l∧Up (ltC c) l')):=by
 refine cw Tryz.func180 ?_
 have hx:=Vc.Mod.refl (λk=>v.ownBlock=some k) w
 refine ws λ_ Z1=>wr (da (de Z1 (ws λ_ Z2=>wr (dm (da (da (de Z2 (ws λ_ Z3=>Xab ?_))))))))
 refine Xaj (G:=Nat×List Cell) (λ(j,cur)=>[(0,v),(1,I ↑l.length),(2,fnV f),(6,I 20),(7,I ↑(j*20)),(8,I ↑(j*20+20))]) (λ(j,cur) w'=>Mod (λk=>v.ownBlock=some k) w w'∧j*20≤l.length∧I2 (ltC c) 20 j cur∧cur.Perm l∧Vc.Own Cell.cs 4 79 Bo w' v cur) (λ(j,cur)=>l.length-j*20) (0,l) ?_ ?_ ?_
 ·exact zz6
 ·exact⟨hx,Nat.zero_le _,λk hk=>absurd hk (Nat.not_lt_zero k),.refl _,ho⟩
 intro X1 g1 w1 hF1
 obtain⟨j,cur⟩:=g1
 clear hx ho
 obtain⟨hx,hj,hI,hp,ho⟩:=hF1
 refine ws λ_ Z4=>ws λ_ Z5=>wr (dm (dm ?_))
 refine dp (Xci rfl rfl) (de Z5 (wi (λc1=>?_) λc1=>?_))
 ·have hpl:=hp.length_eq
  refine Xaa (Z4 _ _ (Xab (ws λ_ Z6=>wr (dm (dm (dm (dm ?_)))))))
  refine cD (X2g cur v Bo f c _ ho om9 hcb hc O (j*20) (j*20+20) om9 om9) (.inl rfl) λu2 w2 x2 hf2=>?_
  have hsz2:=hx.size
  replace hx:=hx.own x2 (λi hi hlt=>hi)
  obtain⟨rfl,cur1,ho,hsw⟩:=hf2
  refine de Z6 (ws λ_ Z7=>wr (Xa2 (v:=I ↑((j+1)*20)) rfl (Xfz rfl) (by show I _=I _;first|rfl|(congr 1;omega)) (da (de Z7 (wr (dm (dm ?_)))))))
  refine Xa2 (v:=I ↑((j+1)*20+20)) rfl (Xa7 rfl rfl (by unfold Xai;omega)) (by show I _=I _;first|rfl|(congr 1;omega)) (da (Xae (?_)))
  exact⟨(j+1,_),zz6,⟨hx,by omega,Xwe hI (by rw[Nat.succ_mul];exact hsw),hsw.perm.trans hp,ho⟩,by simp only [];omega⟩
 have hpl:=hp.length_eq
 refine Xah (Z3 _ _ (ws λ_ Z8=>wr (dm (dm (dm (dm ?_))))))
 refine cD (X2g cur v Bo f c _ ho om9 hcb hc O (j*20) l.length om9 om9) (.inl rfl) λu3 w3 x3 hf3=>?_
 have hsz3:=hx.size
 replace hx:=hx.own x3 (λi hi hlt=>hi)
 obtain⟨rfl,cur1,ho,hsw⟩:=hf3
 refine de Z8 (Xab ?_)
 refine Xaj (G:=Nat×List Cell) (λ(s,cur)=>[(0,v),(1,I ↑l.length),(2,fnV f),(6,I ↑s)]) (λ(s,cur) w'=>Mod (λk=>v.ownBlock=some k) w w'∧20≤s∧s≤40+2*l.length∧M2 (ltC c) s 0 cur∧cur.Perm l∧Vc.Own Cell.cs 4 79 Bo w' v cur) (λ(s,cur)=>l.length-s) (20,cur1) ?_ ?_ ?_
 ·exact zz4
 ·exact⟨hx,Nat.le_refl _,by omega,X2e hI om9 om9 (by rw[hpl];exact hsw),hsw.perm.trans hp,ho⟩
 intro X4 g4 w4 hF4
 obtain⟨s,cur⟩:=g4
 clear hx ho
 obtain⟨hx,hs,hs2,hM,hp,ho⟩:=hF4
 refine ws λ_ Z9=>ws λ_ Z10=>wr (dm (dm ?_))
 refine dp (Xaf rfl rfl) (de Z10 (wi (λc2=>?_) λc2=>?_))
 ·have hpl:=hp.length_eq
  refine Xaa (Z9 _ _ (Xab (ws λ_ Z11=>wr (dm ?_))))
  refine Xa2 (v:=I ↑(0+2*s)) rfl (Xen rfl rfl (by unfold Xai;omega)) (by show I _=I _;first|rfl|(congr 1;omega)) (da (da (de Z11 (ws λ_ Z12=>Xab ?_))))
  refine Xaj (G:=Nat×Nat×List Cell) (λ(j,q,cur2)=>[(0,v),(1,I ↑l.length),(2,fnV f),(6,I ↑s),(7,I ↑q),(8,I ↑(q+2*s))]) (λ(j,q,cur2) w'=>Mod (λk=>v.ownBlock=some k) w w'∧q=j*(2*s)∧q≤l.length∧M2 (ltC c) s j cur2∧cur2.Perm l∧Vc.Own Cell.cs 4 79 Bo w' v cur2) (λ(j,q,cur2)=>l.length-q) (0,0,cur) ?_ ?_ ?_
  ·exact zz6
  ·exact⟨hx,by omega,Nat.zero_le _,hM,hp,ho⟩
  intro X5 g5 w5 hF5
  obtain⟨j,q,cur2⟩:=g5
  clear hx ho
  obtain⟨hx,hq,hql,hM2,hp2,ho⟩:=hF5
  refine ws λ_ Z13=>ws λ_ Z14=>wr (dm (dm ?_))
  refine dp (Xci rfl rfl) (de Z14 (wi (λc3=>?_) λc3=>?_))
  ·have hpl2:=hp2.length_eq
   have hq1:(j+1)*(2*s)=q+2*s:=by rw[hq];exact Nat.succ_mul _ _
   refine Xaa (Z13 _ _ (Xab (ws λ_ Z15=>wr (dm (dm (dm (dm ?_)))))))
   refine Xa2 (v:=I ↑(q+s)) rfl (Xa7 rfl rfl (by unfold Xai;omega)) rfl (dm (dm ?_))
   refine cD (Xpc v Bo f c hcb hc O ((q+2*s)-q+1) cur2 _ q (q+s) (q+2*s) om9 ho om9 om9 om9 om9 (by have h9:=X8j hM2 (by rw[hq1];omega);rw[hq1,←hq]at h9;exact h9)) (.inl rfl) λu6 w6 x6 hf6=>?_
   have hsz6:=hx.size
   replace hx:=hx.own x6 (λi hi hlt=>hi)
   obtain⟨rfl,cur1,ho,hsw⟩:=hf6
   refine de Z15 (ws λ_ Z16=>wr (Xa2 (v:=I ↑(q+2*s)) rfl (Xfz rfl) (by show I _=I _;first|rfl|(congr 1;omega)) (da (de Z16 (wr (dm (dm ?_)))))))
   refine Xa2 (v:=I ↑(2*s)) rfl (Xen rfl rfl (by unfold Xai;omega)) (by show I _=I _;first|rfl|(congr 1;omega)) (Xa2 (v:=I ↑(q+2*s+2*s)) rfl (Xa7 rfl rfl (by unfold Xai;omega)) rfl (da (Xae (?_))))
   exact⟨(j+1,q+2*s,_),zz6,⟨hx,hq1.symm,by omega,Xwd hM2 (by rw[hq1,←hq];exact hsw),hsw.perm.trans hp2,ho⟩,by simp only [];omega⟩
  have hpl2:=hp2.length_eq
  have hq1:(j+1)*(2*s)=q+2*s:=by rw[hq];exact Nat.succ_mul _ _
  refine Xah (Z12 _ _ (ws λ_ Z17=>ws λ_ Z18=>wr (dm (dm ?_))))
  refine Xa2 (v:=I ↑(q+s)) rfl (Xa7 rfl rfl (by unfold Xai;omega)) rfl (da (de Z18 (ws λ_ Z19=>wr (dm (dm ?_)))))
  refine dp (Xaf rfl rfl) (de Z19 (wi (λc4=>?_) λc4=>?_))
  ·refine wr (dm (dm (dm (dm (dm ?_)))))
   refine cD (Xpc v Bo f c hcb hc O (l.length-q+1) cur2 _ q (q+s) l.length om9 ho om9 om9 om9 om9 (by have h9:=X2d hM2 (by rw[hq1];omega) (by rw[←hq];omega);rw[←hq,hpl2]at h9;exact h9)) (.inl rfl) λu7 w7 x7 hf7=>?_
   have hsz7:=hx.size
   replace hx:=hx.own x7 (λi hi hlt=>hi)
   obtain⟨rfl,cur1,ho,hsw⟩:=hf7
   refine de Z17 (wr (dm ?_))
   refine Xa2 (v:=I ↑(2*s)) rfl (Xen rfl rfl (by unfold Xai;omega)) (by show I _=I _;first|rfl|(congr 1;omega)) (da (Xae (?_)))
   first|exact⟨(2*s,_),zz4,⟨hx,by omega,by omega,Xhx hM2 (by rw[hq1];omega) (by rw[←hq];omega) ⟨λ_=>by rw[←hq,hpl2];exact hsw,λh=>absurd h (by rw[←hq];omega)⟩,hsw.perm.trans hp2,ho⟩,by simp only [];omega⟩|exact⟨(2*s,_),zz4,⟨hx,by omega,by omega,Xhx hM2 (by rw[hq1];omega) (by rw[←hq];omega) ⟨λh=>absurd h (by rw[←hq];omega),λ_=>rfl⟩,hp2,ho⟩,by simp only [];omega⟩
  refine Xaa (Z17 _ _ (wr (dm ?_)))
  refine Xa2 (v:=I ↑(2*s)) rfl (Xen rfl rfl (by unfold Xai;omega)) (by show I _=I _;first|rfl|(congr 1;omega)) (da (Xae (?_)))
  first|exact⟨(2*s,_),zz4,⟨hx,by omega,by omega,Xhx hM2 (by rw[hq1];omega) (by rw[←hq];omega) ⟨λ_=>by rw[←hq,hpl2];exact hsw,λh=>absurd h (by rw[←hq];omega)⟩,hsw.perm.trans hp2,ho⟩,by simp only [];omega⟩|exact⟨(2*s,_),zz4,⟨hx,by omega,by omega,Xhx hM2 (by rw[hq1];omega) (by rw[←hq];omega) ⟨λh=>absurd h (by rw[←hq];omega),λ_=>rfl⟩,hp2,ho⟩,by simp only [];omega⟩
 have hpl:=hp.length_eq
 refine Xah (Xa5 (Xav rfl ?_))
 have hpl:=hp.length_eq
 exact⟨_,rfl,hx,rfl,cur,ho,hp,X2f hM om9⟩
theorem X8p (l:List Cell)(v:Value)(Bo f:Nat)(c:Cell->Cell->Int)(w:World)(ho:Vc.Own Cell.cs 4 79 Bo w v l)(hl:l.length≤10000000)(hcb:Xbw Tryz.prog f=true)(hc:∀w2 x y,Calls Tryz.prog f [Cell.v x,Cell.v y].toArray w2 (Pure w2 (I (c x y))))(O:Ord (ltC c)) :
  Calls Tryz.prog 97 [v,fnV f].toArray w (Does (λk=>v.ownBlock=some k) w (λu w'=>u=.tuple #[]∧∃l',Vc.Own Cell.cs 4 79 Bo w' v l'∧l'.Perm l∧Up (ltC c) l')):=by
 refine cw Tryz.func97 ?_
 have hx:=Vc.Mod.refl (λk=>v.ownBlock=some k) w
 refine wr (dm (dm ?_))
 refine dv 79 4 (ho.arr ir9).sl (dm ?_)
 refine cD (X8o l v Bo f c _ ho hl hcb hc O) (.inl rfl) λu1 w1 x1 hf1=>?_
 have hsz1:=hx.size
 replace hx:=hx.own x1 (λi hi hlt=>hi)
 obtain⟨rfl,cur1,ho,hp,hu⟩:=hf1
 refine Xae ((Xa5 (Xav rfl ?_)))
 exact⟨_,rfl,hx,rfl,cur1,ho,hp,hu⟩
end Go.Proofs.YtiooodckiddpmaaGreatDoor
