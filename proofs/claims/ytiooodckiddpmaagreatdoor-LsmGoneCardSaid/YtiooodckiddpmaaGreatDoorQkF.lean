/-
  A part of the proof.
-/
import Derived.Test.YtiooodckiddpmaaGreatDoorQkA
import Derived.Test.YtiooodckiddpmaaGreatDoorChecked
import Derived.KernelRfl
import Derived.Test.YtiooodckiddpmaaGreatDoorQkE
import Derived.Test.YtiooodckiddpmaaGreatDoorRows
import Derived.Lib.LaidTab
open Nat renaming le_refl->Aa,zero_le->Ab,le_trans->Ae,lt_of_lt_of_le->Ay,not_lt->AR,le_add_right->B8,le_succ->BS,add_assoc->BV,le_of_eq->Cb
open List renaming length_append->Ad,mem_singleton->Af,mem_of_getElem?->Ag,mem_cons->Ah,mem_cons_self->Ai,mem_cons_of_mem->Aj,map_cons->Ak,mem_append->Al,mem_map->Ao,getElem?_eq_getElem->Aq,length_map->Au,mem_filter->Ax,length_cons->Az,map_append->A3,sum_cons->A4,length->A9,flatMap_cons->AA,length_take->AE,nil_append->AG,getElem?_of_mem->AK,take_length->AT,nodup_cons->Ba,mem_append_right->Bb,map_nil->Bg,length_nil->Bj,length_filter_le->Bk,mem_append_left->Bl,map_map->Bq,filter_append->Bs,sum_append->Bt,filter_eq_self->Bz,mem_map_of_mem->BC,foldl_cons->BE,nodup_nil->BR,cons->Cd,getElem_mem->CL,mem_reverse->Dz,perm_singleton->EW,foldl_nil->EX
open Option renaming some->Am
open Bool renaming and_eq_true->Aw
open Decidable renaming of_not_not->AF,byContradiction->AO
open Prod renaming mk->B4
open Int renaming le_refl->Cg
open List.Sublist renaming map->C0
set_option maxRecDepth 100000
set_option maxHeartbeats 4000000
set_option linter.unusedVariables false
set_option linter.defProp false
set_option linter.unusedSimpArgs false
namespace Go.Proofs.YtiooodckiddpmaaGreatDoor
open Go.Vc Go.Sp
attribute [local irreducible] W XW Dw GC
def Uz (κ:Nat->Nat)(bs bd bl bo bm:Nat)(vf:Value)(L:Led)(D:Dsk)(V:Vs)(ts:List Tb)(mem:List Cell)(dead:Bool)(n:Int)(w:World)(h:StE κ bs bd bl bo bm vf L D V ts mem dead w)(hSt:Sto n V ts mem)(hn:n<=1099511627776)(hal:(FR mem ts).length<=60000)(hgv:GV w)(hgvs:∀k,Mv k->κ k=0) :
  G4 16 [Fh bs 0] w (λk=>κ k≠0) λu w'=>∃did e κ' bm' vf' L' D' V' ts' mem' dead',u=.tuple #[B did,I e]/\(∀k,k<w.heap.size->κ' k=κ k)/\StE κ' bs bd bl bo bm' vf' L' D' V' ts' mem' dead' w'/\NS L D V ts mem dead did e L' D' V' ts' mem' dead':=by
 refine cM Tryz.func16 (λk=>κ k≠0) λhx=>?_;have Y:=h;have yo:∀k,w.heap.size<=k->κ k=0:=λk hk=>AO λh9=>by have:=h.lt k h9;omega
 have hV:=hSt.isv;obtain⟨_,_,zk,_⟩:=Jc hV;have hvl2:V.fs.length<=1024:=zk;have zd:mem.length<=60000:=by unfold FR at hal;rw[Ad]at hal;omega
 have zh:=λc (hc:c∈mem)=>hSt.cellsB hn c (Hu.2 (.inl hc));have htl:=hSt.tlen;refine go ?_;refine G1 rfl rfl rfl RX.all (λb1 w1 e1 x1 m1=>?_);have g1:=hx.ge e1;have a1_hS:=Y.lt;refine Fy x1 Y hx λY hx=>Gs (Ug bs bd bl V.next vf bo bm dead _ Y.m) λw2 x2=>FC x2 Y m1 hx λY m1 hx=>?_;refine Fk (λc1=>?_) λc1=>?_
 ·refine go ?_;have xg:dead=true:=by cases dead with|true=>rfl|false=>exact absurd rfl c1
  subst xg;exact⟨_,rfl,hx,false,9,κ,bm,vf,L,D,V,ts,mem,true,rfl,λ_ _=>rfl,Y,.inl ⟨rfl,rfl,rfl,rfl,rfl,rfl,rfl,rfl,rfl⟩⟩
 have y7:dead=false:=by cases dead with|false=>rfl|true=>exact absurd Fo c1
 subst y7;refine go ?_;refine dq (Fx Ff rfl rfl (Y.m.part 2 2)) (cG (X52 V.next V.fs vf _ Y.vs Fe hV) RX.all λu3 w3 x3 y8=>?_);have hsz3:=hx.size;refine FC x3 Y m1 hx λY m1 hx=>?_;obtain⟨vp0,rfl,_⟩:=y8;refine Gb (λc2=>?_) λc2=>?_
 ·refine go ?_;exact⟨_,rfl,hx,false,0,κ,bm,vf,L,D,V,ts,mem,false,rfl,λ_ _=>rfl,Y,.inr (.inl ⟨rfl,by simpa using c2,rfl,rfl,rfl,rfl,rfl,rfl,rfl,rfl⟩)⟩
 have hz:(J8 V.fs).isSome=true:=by simpa using c2
 refine go ?_;have y6:=hx.size;have y0:=m1.lt;refine cD (Rs κ bs bd bl bo bm vf L D V ts mem false _ Y zd zh hV (hgv.mod hx (λk hk e=>e (hgvs k hk))) hgvs Fe) (.inl rfl) λu4 w4 x4 zl=>?_;have hsz4:=hx.size;have m1:=m1.mod x4 (λe=>e (yo b1 Fe));have hx:=hx.own x4 F5;obtain⟨ok,e1,κ1,bm,vf,L1,D1,V,ts1,mem1,dead,rfl,yn,xy,xf⟩:=zl;have Y:=xy;have xa:∀k,k<w.heap.size->κ1 k=κ k:=λk hk=>yn k (Ay hk y6);have xm:κ1 b1=0:=(yn b1 y0).trans (yo b1 Fe);obtain⟨N0,hN0⟩:∃z,z=w4.heap.size:=⟨_,rfl⟩;have ha:=Y.lt;rw[<-hN0]at ha;have y5:w.heap.size<=N0:=by rw[hN0];exact hx.size
 have O:Sz N0 w4:=⟨Cb hN0⟩;have hb1N:b1<N0:=by rw[hN0];exact m1.lt
 have xb:∀k,N0<=k->κ1 k=0:=λk hk=>AO λh9=>by have:=ha k h9;omega
 refine Fk (λc3=>?_) λc3=>?_
 ·refine go ?_;exact⟨_,rfl,hx,false,e1,κ1,bm,vf,L1,D1,V,ts1,mem1,dead,rfl,xa,Y,.inr (.inr ⟨rfl,hz,ok,e1,L1,D1,V,ts1,mem1,dead,xf,.inl ⟨c3,rfl,rfl,rfl,rfl,rfl,rfl,rfl,rfl⟩⟩)⟩
 have za:e1=0:=AF c3;subst za;obtain⟨xg,rfl,hj,yz,hln,ze,_⟩:=Tk hSt xf;obtain⟨p,hp⟩:=Option.isSome_iff_exists.1 (ze hz);obtain⟨lv,hP⟩:=Yco hj.isv hp;obtain⟨f0,yi,zi⟩:=hP.hd;have hlo:=hP.lo;have Z:=Y.mp.at;obtain⟨_,_,yh,yc,_⟩:=Jc hj.isv;have hvl3:V.fs.length<=1024:=yh;have hpl:=hP.len;have htl1:=hj.tlen;have ym:∀f∈V.fs,0<=f.lev/\f.lev<=4:=λf hf=>by have:=KQ (yc f hf);exact⟨this.2.2.1,this.2.2.2.1⟩
 refine go ?_;refine dq (Fx Ff rfl rfl (Y.m.part 2 2)) ?_;have xe:=O.le;refine cG (X52 V.next V.fs vf _ Y.vs Fe hj.isv) RX.all λu5 w5 x5 zg=>?_;have hsz5:=hx.size;refine Ga x5 m1 Y Z O hx λm1 Y Z O hx=>?_;obtain⟨vp,rfl,xr⟩:=zg;have J:Vc.Own Fi.cs 5 62 N0 w5 vp p:=by rw[hp]at xr;exact xr.mono xe
 refine go ?_;refine di 62 5 (J.arr Fg).sl rfl ((J.arr Fg).lt yi) (go ?_);refine dl rfl (((J.arr Fg).row yi).at rfl) (F3 (v:=I ↑lv) rfl (GK rfl rfl FH) (by show I _=I _;rw[<-zi]) (aL [.int .i64 0] λb2 w6 e2 x6 m2=>?_));have g2:=hx.ge e2;have n2_1:=m1.ltb e2;have n2_mp9:=Z.lt;have a2_hS:=Y.lt;have a2_hSz:=O.le;have o2_hoP:=J.ltb e2;refine HB x6 m1 Y Z O J hx λm1 Y Z O J hx=>HL m2 (λw7 x7 xs7 m2=>?_) (hv:=by first|rfl|exact Gq.one m1.sl|exact Gq.one Y.sl|exact Gq.one Z.sl|exact Gq.one O.sl|exact Gq.one J.sl|exact Gq.one (J.arr Fg).sl)
 try have m1:=m1.mo x7
 have Y:=Y.mod x7 (λk9 h9 e9=>by have h2:k9=b2:=e9;first|(have h8:=ha k9 h9;have h7:=O.le;omega)|(have h8:=h.lt k9 h9;omega));have Z:=Z.mod x7 Fw;have O:=O.mod x7 trivial;have J:=J.mod x7 Fw;have hx:=hx.o1 x7;refine go ?_;refine dv 62 5 (J.arr Fg).sl ?_;refine F8 (G:=Nat×List (Value×List Cell)×Value×Value) (λ(k,qs,vr,vn)=>[(1,Fh b1 0),(2,.bool false),(3,I 0),(9,vp),(11,Fh b2 0),(12,vr),(13,vn),(55,vp),(56,I ↑p.length),(57,I ↑k)]) (λ(k,qs,vr,vn) w'=>Mod (λk=>κ k≠0) w w'/\Fp w' b1 [Fh bs 0] 28/\StE κ1 bs bd bl bo bm vf L1 D1 V ts1 [] dead w'/\Vc.Xbd Tryz.prog 104 GM pO w' bo (ts1.map Tb.kv).length (lk (ts1.map Tb.kv))/\Sz N0 w'/\Vc.Own Fi.cs 5 62 N0 w' vp p/\Fp w' b2 [I ↑lv] 3/\k<=p.length/\qs.map (·.2)=(p.take k).map (MK ts1)/\Vc.Own Lh 1 95 N0 w' vr qs/\QsE N0 qs w'/\Vc.Own GF 1 9 N0 w' vn ((p.take k).map λf=>GJ f.id)) (λ(k,qs,vr,vn)=>p.length-k) (0,[],.slice none 0 0,.slice none 0 0) ⟨hx,m1,Y,Z,O,J,m2,Ab _,rfl,Vc.Own.nil,⟨λq hq=>(by cases hq)⟩,Vc.Own.nil⟩ ?_;rintro _ ⟨k,qs,vr,vn⟩ w8 ⟨hx,m1,Y,Z,O,J,m2,hk1,hqs,H,hQ,r⟩;refine Fk (λc4=>?_) λc4=>?_
 ·obtain⟨f,hk⟩:∃f,p[k]?=some f:=F7;have yk:=hP.sub f (Ag hk);obtain⟨t,yt,y9⟩:=hj.fwd f yk.1;have ht:HO ts1 (f.lev,f.id)=some t:=by rw[<-y9.h];exact OE hj.nod yt
  have xk:=Nw hj.isv f yk.1;have xw:=congrArg A9 hqs;rw[Au,Au,AE]at xw;refine go ?_;refine di 62 5 (J.arr Fg).sl rfl ((J.arr Fg).lt hk) (dq (Fx Ff rfl rfl ((J.arr Fg).row hk)) (aL [.int .i64 0,.int .i64 0,.int .i64 0,S [],S []] λb3 w9 e3 x9 m3=>?_));have g3:=hx.ge e3;have n3_1:=m1.ltb e3;have n3_2:=m2.ltb e3;have n3_mp9:=Z.lt;have a3_hS:=Y.lt;have a3_hSz:=O.le;have o3_hoP:=J.ltb e3;have o3_hoQ:=H.ltb e3;have xt:=hQ.lt;have o3_hoN:=r.ltb e3;refine Jj x9 m1 Y Z O J m2 H hQ λm1 Y Z O J m2 H hQ=>Fy x9 r hx λr hx=>Gg m3 (λw10 hw xs10 m3=>?_)
  try have m1:=m1.mo hw
  have Y:=Y.mod hw (λk9 h9 e9=>by have h2:k9=b3:=e9;first|(have h8:=ha k9 h9;have h7:=O.le;omega)|(have h8:=h.lt k9 h9;omega));have Z:=Z.mod hw Fw;have O:=O.mod hw trivial;have J:=J.mod hw Fw
  try have m2:=m2.mo hw
  have H:=H.mod hw Fw;have hQ:=hQ.mod hw (λq hq k hk e9=>by have h2:k=b3:=e9;have h8:=xt q hq k hk;omega);have r:=r.mod hw Fw;have hx:=hx.o1 hw;refine go ?_;refine HP (R:=Mod (λk=>vr.ownBlock=some k)) Ij I0 Ff [1,4,6,8,10] [(0,.p,false),(1,.l,false),(2,.p,false),(3,.p,false),(4,.l,false),(5,.p,false),(6,.l,false),(7,.p,false),(8,.l,false),(9,.p,false),(10,.l,false),(11,.x,false),(12,.x,false),(13,.x,false),(14,.p,false)] rfl Ff Ff (λw11 xo=>?_);have ye:=FE xo;clear xo;refine Jj ye m1 Y Z O J m2 H hQ λm1 Y Z O J m2 H hQ=>FC ye r m3 hx λr m3 hx=>go ?_;refine dL rfl (λ_ hR=>((m1.mod hR (λe=>by have h8:=(H.lt _ e).1;omega)).at rfl)) (go ?_);refine df 4 (rfl) (dL rfl (λ_ hR=>((Y.m.mod hR (λe=>by have h8:=(H.lt _ e).1;have h7:=ha bs (by rw[Y.k0];decide);omega)).at rfl)) (go ?_));refine dL rfl (λ_ hR=>((m3.mod hR (λe=>H.ne_blk m3 rfl e)).at rfl)) (go ?_);refine dL rfl (λ_ hR=>((m3.mod hR (λe=>H.ne_blk m3 rfl e)).at rfl)) (db (zs:=[.int .i64 0,.int .i64 0]) (pl:=[(0,1),(1,1)]) (pv:=[(0,_),(1,_)]) (cs:=[_,_]) ?_);refine Gh (v:=Fh t.bt 0) rfl (λw' hR=>LV.to (M9 Og (kx:=(f.lev,f.id)) (z0:=none) rfl rfl Ff (Z.mod hR (Z.ne_own H)) ⟨xk.2,xk.1⟩) (by rw[P5];exact Wn ht)) ?_;have xe:=O.le;refine cG (UB t.bt t.vl t.vb t.cs [] [] _ (Y.tb t yt)) RX.mod λvt w12 yx xq=>?_;have hsz12:=hx.size;refine Jj yx m1 Y Z O J m2 H hQ λm1 Y Z O J m2 H hQ=>FC yx r m3 hx λr m3 hx=>?_;rw[T6]at xq;have hg:=xq.mono xe;refine It (e:=95) (sz:=1) (zs:=[.slice none 0 0]) (pv:=[(0,?a37_0)]) (cs:=[?a37_0]) rfl Ff ⟨rfl,rfl⟩ Ff rfl ?h37 ?f37 RX.mod (λb4 w13 e4 yq m4=>?k37)
  case h37=>refine⟨rfl,?_,trivial⟩<;>(conv=>lhs;whnf)
  case f37=>simp [Hs,Gw,List.replicate,hg.sl.cells]
  have g4:=hx.ge e4;have n4_1:=m1.ltb e4;have n4_2:=m2.ltb e4;have n4_3:=m3.ltb e4;have n4_mp9:=Z.lt;have a4_hS:=Y.lt;have a4_hSz:=O.le;have o4_hoP:=J.ltb e4;have o4_hoQ:=H.ltb e4;have a4_hQ:=hQ.lt;have o4_hoN:=r.ltb e4;refine Jj yq m1 Y Z O J m2 H hQ λm1 Y Z O J m2 H hQ=>FQ yq r m3 hg hx λr m3 hg hx=>G8 (vt,t.cs) H m4 (λvq w14 xx hr=>?_) (h1:=(by intro x yd u hu;rw[Af.1 yd]at hu;simp at hu;rw[hu];exact hg.sl.one)) (hB:=O.le) (hR:=(.inr λ_ h=>h));have m1:=m1.mod hr Fw
  try have Y:=Y.mod hr (by first|exact(λk hk e=>absurd (ha k hk) (AR.2 (H.lt k e).1))|exact hQ.ne H rfl|exact(λk hk=>r.ne H rfl hk)|exact(λk hk=>J.ne H rfl hk)|exact(λk hk=>hg.ne H rfl hk)|exact(λk hk=>H.ne H rfl hk)|trivial)
  have Z:=Z.mod hr (Z.ne_own H);have O:=O.mod hr Fw
  try have J:=J.mod hr (by first|exact(λk hk e=>absurd (ha k hk) (AR.2 (H.lt k e).1))|exact hQ.ne H rfl|exact(λk hk=>r.ne H rfl hk)|exact(λk hk=>J.ne H rfl hk)|exact(λk hk=>hg.ne H rfl hk)|exact(λk hk=>H.ne H rfl hk)|trivial)
  have m2:=m2.mod hr Fw
  try have hQ:=hQ.mod hr (by first|exact(λk hk e=>absurd (ha k hk) (AR.2 (H.lt k e).1))|exact hQ.ne H rfl|exact(λk hk=>r.ne H rfl hk)|exact(λk hk=>J.ne H rfl hk)|exact(λk hk=>hg.ne H rfl hk)|exact(λk hk=>H.ne H rfl hk)|trivial)
  try have r:=r.mod hr (by first|exact(λk hk e=>absurd (ha k hk) (AR.2 (H.lt k e).1))|exact hQ.ne H rfl|exact(λk hk=>r.ne H rfl hk)|exact(λk hk=>J.ne H rfl hk)|exact(λk hk=>hg.ne H rfl hk)|exact(λk hk=>H.ne H rfl hk)|trivial)
  have m3:=m3.mod hr Fw
  try have hg:=hg.mod hr (by first|exact(λk hk e=>absurd (ha k hk) (AR.2 (H.lt k e).1))|exact hQ.ne H rfl|exact(λk hk=>r.ne H rfl hk)|exact(λk hk=>J.ne H rfl hk)|exact(λk hk=>hg.ne H rfl hk)|exact(λk hk=>H.ne H rfl hk)|trivial)
  have hx:=hx.own hr (λi hi h5=>(by have:=(H.lt i hi).1;omega));have H:=xx;clear m4;refine Gs (Tz f.id _ (hgv.mod hx (λk hk e=>e (hgvs k hk))) xk.1 (by have:=TA xk.1;omega)) λw15 yf=>Jj yf m1 Y Z O J m2 H hQ λm1 Y Z O J m2 H hQ=>?_;refine FC yf r hg hx λr hg hx=>li (e:=9) (sz:=1) (zs:=[S []]) (pv:=[(0,_)]) (cs:=[_]) RX.all (λb5 w16 e5 y4 m5=>?_);have g5:=hx.ge e5;have n5_1:=m1.ltb e5;have n5_2:=m2.ltb e5;have n5_mp9:=Z.lt;have a5_hS:=Y.lt;have a5_hSz:=O.le;have o5_hoP:=J.ltb e5;have o5_hoQ:=H.ltb e5;have a5_hQ:=hQ.lt;have o5_hoN:=r.ltb e5;refine Jj y4 m1 Y Z O J m2 H hQ λm1 Y Z O J m2 H hQ=>FC y4 r hg hx λr hg hx=>G8 (GJ f.id) r m5 (λzj w17 ya hy=>?_) (hB:=O.le);have m1:=m1.mod hy Fw
  try have Y:=Y.mod hy (by first|exact(λk hk e=>absurd (ha k hk) (AR.2 (r.lt k e).1))|exact hQ.ne r rfl|exact(λk hk=>r.ne r rfl hk)|exact(λk hk=>J.ne r rfl hk)|exact(λk hk=>hg.ne r rfl hk)|exact(λk hk=>H.ne r rfl hk)|trivial)
  have Z:=Z.mod hy (Z.ne_own r);have O:=O.mod hy Fw
  try have J:=J.mod hy (by first|exact(λk hk e=>absurd (ha k hk) (AR.2 (r.lt k e).1))|exact hQ.ne r rfl|exact(λk hk=>r.ne r rfl hk)|exact(λk hk=>J.ne r rfl hk)|exact(λk hk=>hg.ne r rfl hk)|exact(λk hk=>H.ne r rfl hk)|trivial)
  have m2:=m2.mod hy Fw
  try have H:=H.mod hy (by first|exact(λk hk e=>absurd (ha k hk) (AR.2 (r.lt k e).1))|exact hQ.ne r rfl|exact(λk hk=>r.ne r rfl hk)|exact(λk hk=>J.ne r rfl hk)|exact(λk hk=>hg.ne r rfl hk)|exact(λk hk=>H.ne r rfl hk)|trivial)
  try have hQ:=hQ.mod hy (by first|exact(λk hk e=>absurd (ha k hk) (AR.2 (r.lt k e).1))|exact hQ.ne r rfl|exact(λk hk=>r.ne r rfl hk)|exact(λk hk=>J.ne r rfl hk)|exact(λk hk=>hg.ne r rfl hk)|exact(λk hk=>H.ne r rfl hk)|trivial)
  try have hg:=hg.mod hy (by first|exact(λk hk e=>absurd (ha k hk) (AR.2 (r.lt k e).1))|exact hQ.ne r rfl|exact(λk hk=>r.ne r rfl hk)|exact(λk hk=>J.ne r rfl hk)|exact(λk hk=>hg.ne r rfl hk)|exact(λk hk=>H.ne r rfl hk)|trivial)
  have hx:=hx.own hy (λi hi h5=>(by have:=(r.lt i hi).1;omega));have r:=ya;clear m5;refine go ?_;rw[show((p.take k).map λf=>GJ f.id)++[GJ f.id]=(p.take (k+1)).map λf=>GJ f.id by rw[GW hk,A3];rfl]at r;exact FL (k+1,qs++[(vt,t.cs)],vq,zj) ⟨hx,m1,Y,Z,O,J,m2,by omega,by rw[A3,hqs,GW hk,A3];show _++[t.cs]=_++[MK ts1 f];rw[Wl ht],H,hQ.snoc hg,r⟩
 rw[List.take_of_length_le Fe]at hqs r;have xw:=congrArg A9 hqs;rw[Au,Au]at xw;have yj:qs.flatMap (·.2)=Js ts1 p:=by rw[Se hqs,Sm]
 have hcl:(Js ts1 p).length<=(FR [] ts1).length:=by have h9:=R0 p ts1 hj.nod (Xpo hP.nod);unfold FR;rw[AG];exact h9
 refine go ?_;have xe:=O.le;refine cG (TC qs vr _ (H.arr Fg) (λq hq=>(hQ.row q hq).arr Fg) Fe (by rw[yj];omega)) RX.all λvm w18 zm y2=>?_;have hsz18:=hx.size;refine Lv zm m1 Y O J m2 r hx λm1 Y O J m2 r hx=>?_;obtain⟨m,xh,yg⟩:=y2;rw[yj]at xh;have hh:=yg.mono xe;have yw:=NT xh;refine dp (Pm rfl) (cD (Ycq m vm N0 52 [Fh b1 0,Fh b2 0] (λc=>!I7 V.fs ↑lv c) _ hh Fe Ff (λw2 m9 x yd=>Ycp bs bd bl V.next vf bo bm dead V.fs x lv b1 b2 w2 (Y.m.mod m9 (λe=>by have h8:=(hh.lt _ e).1;have h7:=ha bs (by rw[Y.k0];decide);omega)) (Y.vs.mod m9 (λhl e=>by have h8:=(hh.lt _ e).1;have h7:=ha (base vf).1 (by rw[Y.k4 hl];decide);omega)) Fe ym Fe (m1.mod m9 (λe=>by have h8:=(hh.lt _ e).1;omega)) (m2.mod m9 (λe=>hh.ne_blk m2 rfl e)))) (.inl rfl) λvd y3 h6 yu=>?_);have hsz19:=hx.size;have m1:=m1.mod h6 Fw;have Y:=Y.mod h6 (by first|exact(λk hk e=>absurd (ha k hk) (AR.2 (hh.lt k e).1))|exact(λk hk=>r.ne hh rfl hk)|exact(λk hk=>J.ne hh rfl hk)|trivial|exact(λe=>by have h8:=(hh.lt _ e).1;omega)|exact(λe=>hh.ne_blk Y rfl e));have O:=O.mod h6 Fw;have J:=J.mod h6 (by first|exact(λk hk e=>absurd (ha k hk) (AR.2 (hh.lt k e).1))|exact(λk hk=>r.ne hh rfl hk)|exact(λk hk=>J.ne hh rfl hk)|trivial|exact(λe=>by have h8:=(hh.lt _ e).1;omega)|exact(λe=>hh.ne_blk J rfl e));have m2:=m2.mod h6 Fw;have r:=r.mod h6 (by first|exact(λk hk e=>absurd (ha k hk) (AR.2 (hh.lt k e).1))|exact(λk hk=>r.ne hh rfl hk)|exact(λk hk=>J.ne hh rfl hk)|trivial|exact(λe=>by have h8:=(hh.lt _ e).1;omega)|exact(λe=>hh.ne_blk r rfl e));have hx:=hx.own h6 (λi hi h5=>absurd h5 (AR.2 ((Ae y5 (hh.lt i hi).1))));have e9:m.filter (λx=>!(!I7 V.fs ↑lv x))=m.filter (I7 V.fs ↑lv):=by congr 1;funext x;rw[Bool.not_not]
 have yy:Vc.Own Cell.cs 4 79 N0 y3 vd (m.filter (I7 V.fs ↑lv)):=by rw[<-e9];exact yu
 have hfm:=Bk (I7 V.fs ↑lv) m;refine go ?_;have zc:∀c∈m.filter (I7 V.fs ↑lv),c.key.length<=4096/\c.val.length<=16384:=λc hc=>by
  obtain⟨t,ht,_,zf⟩:=(Ry hj (λf hf=>(hP.sub f hf).1)).1 (yw.2 c (Ax.1 hc).1);have h8:=hSt.cellsB hn c (yz c (Hu.2 (.inr ⟨t,ht,zf⟩)));exact⟨h8.1,h8.2.1⟩
 have hszx:=hx.size;have xe:=O.le;obtain⟨NK,hNK⟩:∃z,z=y3.heap.size:=⟨_,rfl⟩;have xn:(p.map λf=>GJ f.id)≠[]->(base vn).1<NK/\N0<=(base vn).1:=λhl=>by rw[hNK];exact⟨(r.base_ge hl).2,(r.base_ge hl).1⟩
 refine cD (Xo5 κ1 bs bd bl bo bm vf L1 D1 V ts1 [] dead (m.filter (I7 V.fs ↑lv)) vd ↑lv p vp _ Y (yy.arr Fg) Fe zc Fe (J.arr Fg) Fe (λhl=>xb _ (J.base_ge hl).1) (λf hf=>Nw hj.isv f (hP.sub f hf).1) hj.isv (hgv.mod hx (λk hk e=>e (hgvs k hk))) (λk hk=>(xa k (hgv.lt k hk)).trans (hgvs k hk)) Fe (λhl=>xb _ (yy.base_ge hl).1)) (.inl rfl) λu20 w20 x8 yr=>?_;have hsz20:=hx.size;have m1:=m1.mod x8 Fw;have r:=r.mod x8 (by first|trivial|exact(λe=>e xm)|exact(λk hk e=>e (xb k (r.lt k hk).1)));have hx:=hx.own x8 (λi hi h5=>(by have e1:κ1 i≠0:=hi;rw[xa i h5]at e1;exact e1));obtain⟨e2,κ2,vf2,L2,D2,V2,xz,dead2,rfl,xc,xy,xd⟩:=yr;have Y:=xy;rw[<-hNK]at xc;have xi:∀k,k<w.heap.size->κ2 k=κ k:=λk hk=>(xc k Fe).trans (xa k hk);refine Fk (λc5=>?_) λc5=>?_
 ·refine go ?_;rw[xg]at xd;exact⟨_,rfl,hx,false,e2,κ2,bm,vf2,L2,D2,V2,xz,[],dead2,rfl,xi,Y,.inr (.inr ⟨rfl,hz,ok,0,L1,D1,V,ts1,[],dead,xf,.inr ⟨rfl,p,lv,m,e2,D2,dead2,hp,hP,xh,xd,rfl,.inl ⟨c5,rfl,rfl,rfl,rfl⟩⟩⟩)⟩
 refine go ?_;refine dl rfl (Y.m.at rfl) (go ?_);have y1:=hx.size;obtain⟨F,hD,xj,yb⟩:=Y.ld.disk;refine cD (S5 F bd D2 (p.map λf=>GJ f.id) vn _ hD (r.arr Fg) (by rw[Au];omega) (λhl e=>by have e1:κ2 (base vn).1=1:=xj _ e;rw[xc _ (xn hl).1,xb _ (xn hl).2]at e1;cases e1)) (.inl rfl) λu21 zb xl yp=>?_;have hsz21:=hx.size;have m1:=m1.mod xl (by first|trivial|exact(λe=>by have e1:κ2 b1=1:=xj _ e;rw[xc b1 Fe,xm]at e1;cases e1));have hx:=hx.own xl (λi hi h5=>(by have e1:κ2 i=1:=xj i hi;rw[xi i h5]at e1;show κ i≠0;rw[e1];decide));obtain⟨rfl,x0⟩:=yp;have xu:=Y.ledger (xl.mono (λi hi _=>xj i hi)) (yb _ _ xl x0);have xp:∀k,k<w.heap.size->IT κ2 1 _ _ k=κ k:=λk hk=>(Nj (κ:=κ2) (i:=1) (w':=zb) (Ay hk y1)).trans (xi k hk);have Y:=xu;refine Fk (λc6=>?_) λc6=>?_
 ·refine Gz (Qa bs bd bl V2.next vf2 bo bm dead2 (D2.rem (p.map λf=>GJ f.id)).1 _ Y.m) λu22 w22 yl yv=>?_;have hsz22:=hx.size;have hx:=hx.own yl (λi hi h5=>(by have e1:i=bs:=hi;rw[e1,h.k0];decide));obtain⟨rfl,x0⟩:=yv;have xu:=Y.head yl x0;have Y:=xu;refine go ?_;have xv:e2=0:=AF c5;subst xv;rw[xg]at xd;exact⟨_,rfl,hx,false,_,_,bm,vf2,L2,_,V2,xz,[],_,rfl,xp,Y,.inr (.inr ⟨rfl,hz,ok,0,L1,D1,V,ts1,[],dead,xf,.inr ⟨rfl,p,lv,m,0,D2,dead2,hp,hP,xh,xd,rfl,.inr ⟨rfl,rfl,.inl ⟨c6,rfl,rfl,by simp [c6]⟩⟩⟩⟩)⟩
 refine go ?_;have xv:e2=0:=AF c5;subst xv;rw[xg]at xd;exact⟨_,rfl,hx,true,0,_,bm,vf2,L2,_,V2,xz,[],_,rfl,xp,Y,.inr (.inr ⟨rfl,hz,ok,0,L1,D1,V,ts1,[],dead,xf,.inr ⟨rfl,p,lv,m,0,D2,dead2,hp,hP,xh,xd,rfl,.inr ⟨rfl,rfl,.inr ⟨AF c6,rfl,rfl,rfl⟩⟩⟩⟩)⟩
structure OkD (D:Dsk)(u n:Nat):Prop where
 fu:D.fused=false
 us:JD D.fs<=u
 cn:D.fs.length<=n
 nd:(D.fs.map (·.1)).Nodup
 tl:∀p∈D.fs,p.1.getLast?≠some 126
variable {D:Dsk}{u:Nat}
def OkD.mono {n u' n':Nat}(h:OkD D u n)(h1:u<=u')(h2:n<=n'):OkD D u' n':=⟨h.fu,Ae h.us h1,Ae h.cn h2,h.nd,h.tl⟩
def Pe (h:D.fused=false){l:List Fj}(hl:∀s∈l,1<=s.length/\s.length<=64):D.may l=0:=VG (λe=>by rw[h]at e;cases e.1) hl
def OG (h:D.fused=false):D.tick=D:=by unfold Dsk.tick;rw[h];rfl
variable {p:Fj}
def T5 {n:Nat}{name:Fj}(h:OkD D u n)(hn:1<=name.length/\name.length<=64)(hr:((u+p.length:Nat):Int)<=D.room)(hc:n<4096):D.app name p=(0,{ D with fs:=FB D.fs name ⟨(D.old name).data++p,(D.old name).lasts⟩ }):=by
 unfold Dsk.app;rw[if_neg (by rw[Pe h.fu (by simpa using hn)];decide),if_neg,OG (by exact h.fu)];unfold Dsk.full;have h1:=h.us;have h2:=h.cn;rw[<-N2]at h1;simp only [Bool.or_eq_true,Aw,decide_eq_true_eq,not_or,not_and];exact⟨by omega,λ_=>by omega⟩
variable {n:Fj}{α:Type}
def X0s {l:List (Fj×α)}{a:α}(h:lk l n=none):FB l n a=l++[(n,a)]:=by unfold FB;rw[h];rfl
def X0t {l:List (Fj×α)}{a:α}(h:lk l n=none):G3 (FB l n a) n=l:=by
 rw[X0s h];have h2:=Xwl h;unfold G3 at *;rw[Bs,h2];simp
def X0u (h:lk D.fs n=none):D.old n=⟨[],0⟩:=by unfold Dsk.old;rw[h];rfl
def Ui {f:Fil}(hf:D.fused=false)(hn:1<=n.length/\n.length<=64)(h:lk D.fs n=some f):D.sync [n]=(0,{ D with fs:=FB D.fs n ⟨f.data,f.data.length⟩ }):=by
 unfold Dsk.sync Dsk.each;rw[if_neg (by rw[Pe hf (by simpa using hn)];decide),if_neg (by rw[h];exact Bool.false_ne_true)];unfold Dsk.each Dsk.lastsA Dsk.old;rw[h,OG (by exact hf)];rfl
def Ycr (n:Fj):(Dsk.sh n).length=n.length+1:=by unfold Dsk.sh;simp
variable {k:Nat}
def Ydz (h:OkD D u k)(n:Fj):lk D.fs (Dsk.sh n)=none:=by
 rw[Nc];intro hm;obtain⟨p,r,e⟩:=Ao.1 hm;exact h.tl p r (by rw[e];unfold Dsk.sh;simp)
def XP (h:OkD D u k)(hn:1<=n.length/\n.length<=60)(hp:p.length<=1048576)(hr:((u+(Fz p).length:Nat):Int)<=D.room)(hc:k<4096):D.save n p=(0,{ D with fs:=FB D.fs n ⟨Fz p,(Fz p).length⟩ }):=by
 have hs:=Ydz h n;have hl:=Ycr n;unfold Dsk.save;rw[if_neg Fe,if_neg Fe,if_neg (by unfold Dsk.has;rw[hs];decide)];unfold Dsk.save2;have H:=T5 (p:=Fz p) h (name:=Dsk.sh n) Fe hr hc;rw[X0u hs]at H;simp only [AG]at H;rw[H];have z:=Ui (D:={ D with fs:=FB D.fs (Dsk.sh n) ⟨Fz p,0⟩ }) (n:=Dsk.sh n) (f:=⟨Fz p,0⟩) h.fu Fe (by show lk (FB _ _ _) _=_;rw[Np,if_pos rfl]);dsimp only at z;rw[OK]at z;simp only [ne_eq,not_true_eq_false,if_false,z];unfold Dsk.ren;rw[if_neg (by rw[Pe (by exact h.fu) (by intro s r;simp at r;rcases r with rfl|rfl<;>omega)];decide)];dsimp only;rw[Np,if_pos rfl];dsimp only;rw[OG (by exact h.fu),X0t hs]
def OkD.put {f:Fil}(h:OkD D u k)(ht:n.getLast?≠some 126){x:Nat}(hx:f.data.length<=(D.old n).data.length+x):OkD { D with fs:=FB D.fs n f } (u+x) (k+1):=by
 have h1:=Xoe h.nd n f;have h2:=h.us;have h3:(Ku D.fs n)=D.old n:=rfl;have h4:=Sl D.fs n f;have h5:=h.cn;refine⟨h.fu,?_,?_,PD _ _ h.nd,λp r=>?_⟩
 ·show JD (FB D.fs n f)<=_;rw[h3]at h1;omega
 ·show(FB D.fs n f).length<=_;rw[h4];split<;>omega
 ·rcases OP r with rfl|r
  ·exact ht
  ·exact h.tl p r
def OkD.del (h:OkD D u k)(n:Fj):OkD { D with fs:=G3 D.fs n } u k:=
 ⟨h.fu,Ae (Xof D.fs n) h.us,Ae (Bk _ _) h.cn,PP n h.nd,λp r=>h.tl p (Ax.1 r).1⟩
def X0w (h:OkD D u k)(hn:1<=n.length/\n.length<=60)(ht:n.getLast?≠some 126)(hp:p.length<=1048576)(hr:((u+p.length+12:Nat):Int)<=D.room)(hc:k<4096):(D.save n p).1=0/\OkD (D.save n p).2 (u+p.length+12) (k+1)/\(D.save n p).2.room=D.room:=by
 have r:=J9 p;rw[XP h hn hp (by rw[r,<-BV];exact hr) hc];have:=h.put ht (f:=⟨Fz p,(Fz p).length⟩) (x:=p.length+12) (by simp only [];omega);exact⟨rfl,by rw[BV];exact this,rfl⟩
def YQ (h:OkD D u k)(hn:1<=n.length/\n.length<=64):(Dsk.rems [n] D).1=0/\OkD (Dsk.rems [n] D).2 u k/\(Dsk.rems [n] D).2.room=D.room:=by
 unfold Dsk.rems
 by_cases hh:D.has n=true
 ·rw[if_pos hh];have h2:(lk D.fs n).isNone=false:=by unfold Dsk.has at hh;cases e:lk D.fs n with
   | none=>rw[e]at hh;cases hh
   | some a=>rfl
  have r:D.rem [n]=(0,{ D with fs:=G3 D.fs n }):=by
   unfold Dsk.rem Dsk.each;rw[if_neg (by rw[Pe h.fu (by simpa using hn)];decide),if_neg (by rw[h2];decide)];unfold Dsk.each Dsk.gone;rw[OG (by exact h.fu)]
  rw[r,if_neg F0];unfold Dsk.rems;exact⟨rfl,h.del n,rfl⟩
 ·rw[if_neg hh];unfold Dsk.rems;exact⟨rfl,h,rfl⟩
variable {L:Led}
def WA (h:OkD D u k)(hd:L.dead=false)(hp:p.length<=65536)(hl:L.last<1099511627776)(hr:((u+p.length+32:Nat):Int)<=D.room)(hc:k<4096):(L.append D p).1=L.last+1/\(L.append D p).2.1=0/\(L.append D p).2.2.1={ L with ents:=L.ents++[p] }/\OkD (L.append D p).2.2.2 (u+p.length+32) (k+1)/\(L.append D p).2.2.2.room=D.room:=by
 have he:=N7 (L.last+1) p;have hrl:=J9 (Led.ent (L.last+1) p);have r:=T5 (p:=Fz (Led.ent (L.last+1) p)) h (name:=Led.logn) Fo Fe hc;have z:=Ui (D:=(D.app Led.logn (Fz (Led.ent (L.last+1) p))).2) (n:=Led.logn) (f:=⟨(D.old Led.logn).data++Fz (Led.ent (L.last+1) p),(D.old Led.logn).lasts⟩) (by rw[r];exact h.fu) Fo (by rw[r];show lk (FB _ _ _) _=_;rw[Np,if_pos rfl]);have hR:IH L D p=(0,{ D with fs:=FB D.fs Led.logn ⟨(D.old Led.logn).data++Fz (Led.ent (L.last+1) p),((D.old Led.logn).data++Fz (Led.ent (L.last+1) p)).length⟩ }):=by
  unfold IH;rw[if_pos (by rw[r]),z,r];dsimp only;rw[OK]
 rw[QR hd Fe (by rw[hR];simp),hR];have:=h.put (n:=Led.logn) (f:=⟨(D.old Led.logn).data++Fz (Led.ent (L.last+1) p),((D.old Led.logn).data++Fz (Led.ent (L.last+1) p)).length⟩) Fo (x:=p.length+32) (by simp only [Ad];omega);exact⟨rfl,rfl,rfl,by rw[BV];exact this,rfl⟩
def Xd {i:Int}(h:OkD D u k)(hd:L.dead=false)(hi:L.last<=i/\i<=1099511627776)(hp:p.length<=524288)(hr:((u+p.length+32:Nat):Int)<=D.room)(hc:k<4096):(L.write D i p).1=0/\(L.write D i p).2.1=⟨i,p,[],false⟩/\OkD (L.write D i p).2.2 (u+p.length+32) (k+1)/\(L.write D i p).2.2.room=D.room:=by
 have he:=N7 i p;obtain⟨H,J,r⟩:=X0w (p:=Led.ent i p) (n:=Led.img) h Fo Fo Fe Fe hc;obtain⟨r1,r2,z⟩:=YQ (n:=Led.logn) J Fo;unfold Led.write;rw[if_neg (by rw[hd];decide),if_neg Fe,if_neg Fe];dsimp only;rw[if_pos H,if_neg (by rw[r1];decide)];exact⟨rfl,rfl,r2.mono Fe (Aa _),z.trans r⟩
variable {mem':List Cell}
def U8 {L':Led}{D':Dsk}{mem:List Cell}{l:List Rw}{e:Int}{dead':Bool}(h:Rp L D mem false l e L' D' mem' dead')(hc:I4 l=0)(hL:L.dead=false)(hl:L.last<1099511627776)(hO:OkD D u k)(hb:(G2 l).length<=65536)(hr:((u+(G2 l).length+32:Nat):Int)<=D.room)(hk:k<4096){nn:Int}{mm:List Cell}(hn:L.last+1=nn)(hm:JJ mem (Gp l nn)=mm):
  e=0/\dead'=false/\mem'=mm/\L'={ L with ents:=L.ents++[G2 l] }/\OkD D' (u+(G2 l).length+32) (k+1)/\D'.room=D.room:=by
 obtain⟨r,J,H,z,O⟩:=WA hO hL hb hl hr hk;rcases h with⟨h1,_⟩|⟨_,h1,_⟩|⟨_,_,h2,h3,⟨h4,_⟩|⟨_,h5,h6,h7⟩⟩
 ·cases h1
 ·exact absurd hc h1
 ·exact absurd J h4
 ·exact⟨h5,h7,by rw[h6,r,hn,hm],h2.trans H,h3▸z,by rw[h3];exact O⟩
variable {κ κ1:Nat->Nat}
def Pv {n m:Nat}(h:∀k,κ k≠0->n<=k)(hm:∀k,k<m->κ1 k=κ k)(hn:n<=m):∀k,κ1 k≠0->n<=k:=λk hk=>by
 rcases Nat.lt_or_ge k m with h1|h1
 ·rw[hm k h1]at hk;exact h k hk
 ·omega
def LH : Rw:=⟨[97],[120],false⟩
def LF : Rw:=⟨[97],[],true⟩
def I8 : Cell:=⟨[97],[120],false,1⟩
def QS : Cell:=⟨[97],[],true,2⟩
def X30 : (G2 [LH]).length<=100:=by
 have h1:=OD [LH];have h2:=Gk (0+1);have h3:IX [LH]=2:=rfl;unfold G2;rw[Ad];simp only [Az,Bj]at *;omega
def X31 : (G2 [LF]).length<=100:=by
 have h1:=OD [LF];have h2:=Gk (0+1);have h3:IX [LF]=1:=rfl;unfold G2;rw[Ad];simp only [Az,Bj]at *;omega
def Rx : (FT [I8]).length<=31000:=by
 have:=Ur (l:=[I8]) (by intro c r;rw[Af.1 r];decide) Fo;simpa using this
def Yct : IV [I8]=0:=by
 rw[Vb Fo Fo];unfold HQ;rw[if_neg (by have:=Rx;omega)]
def fX : Fi:=Ll 0 1 0 [I8]
def X9q : fX.size=↑((FT [I8]).length+12):=by
 show((Fz (FT [I8])).length:Int)=_;rw[J9]
def Yd0 : H2 ⟨2,[fX]⟩=true:=by
 have h1:=Rx;have h2:=X9q;refine UA Fo Fo F0 ?_ F0 rfl;simp only [List.all_cons,List.all_nil,Bool.and_true];unfold IL;rw[h2];have e1:fX.id=1:=rfl;have e2:fX.lev=0:=rfl;have r:fX.fst=[97]:=rfl;have z:fX.lst=[97]:=rfl;rw[e1,e2,r,z];simp only [Aw,decide_eq_true_eq];refine⟨⟨⟨⟨⟨⟨⟨⟨by decide,by decide⟩,by decide⟩,by decide⟩,by omega⟩,by omega⟩,by decide⟩,by decide⟩,by decide⟩
def X32 : (Ii ⟨2,[fX]⟩).length<=200:=by
 unfold Ii;have a1:=Gk (2:Int).toNat;have a2:=Gk (0+1);have e:([fX].flatMap II)=II fX:=by simp
 have b1:=Gk fX.id.toNat;have b2:=Gk fX.lev.toNat;have b3:=Gk fX.size.toNat;have r:fX.fst=[97]:=rfl;have z:fX.lst=[97]:=rfl;simp only [e];unfold II FA;rw[r,z];simp only [Ad,Az,Bj]at *;omega
def Xx : GJ 1=[116,49]:=by
 have:Lib.itoa 1=[49]:=by
  unfold Lib.itoa;rw[if_neg Fo];unfold Lib.decDigits;simp
 unfold GJ;rw[this]
def mgX {m:List Cell}(h:Mg [I8] m):m=[I8]:=by
 obtain⟨l',r,_,rfl⟩:=h;rw[EW.1 r];rfl
def M3 : Gc [I8]=[[I8]]:=by decide
def Ycv {L':Led}{D':Dsk}{V':Vs}{ts':List Tb}{ok dead':Bool}{e:Int}(h:KS L D ⟨1,[]⟩ [] [I8] false ok e L' D' V' ts' mem' dead')(hL:L.dead=false)(hl:0<=L.last/\L.last<1099511627776)(hO:OkD D u k)(hr:((u+32000:Nat):Int)<=D.room)(hk:k<4000):
  ok=true/\e=0/\mem'=[]/\dead'=false/\(∃p,L'=⟨L.last,p,[],false⟩)/\V'=⟨2,[fX]⟩/\(∃bt vl vb,ts'=[⟨(0,1),bt,vl,vb,[I8]⟩])/\OkD D' (u+32000) (k+2)/\D'.room=D.room:=by
 rcases h with⟨h1,_⟩|⟨_,h1,_⟩|⟨_,_,m,hm,hC,hE⟩
 ·cases h1
 ·cases h1
 ·have:=mgX hm;subst this;have hA:Gf 0 1 (Gc [I8])=[fX]:=by rw[M3];rfl
  have hF:Il 1 (Gc [I8])=[(1,Fz (FT [I8]))]:=by rw[M3];rfl
  have hT:Mi 0 1 (Gc [I8])=[((0,1),[I8])]:=by rw[M3];rfl
  have hN:HV 1 [fX]=2:=rfl;have O:∀fs':List Fi,fs'.Perm (Je [] []++[fX])->fs'=[fX]:=λfs' z=>EW.1 z;have J:Lr ⟨1,[]⟩ [] [fX]=true:=Ub rfl rfl (by intro f Z;rw[Af.1 Z];decide);have ht:=Rx;have hrl:=J9 (FT [I8]);obtain⟨s1,s2,Y⟩:=X0w (n:=GJ 1) (p:=Fz (FT [I8])) hO (by rw[Xx];decide) (by rw[Xx];decide) Fe Fe Fe;have hv:=X32;obtain⟨w1,w2,w3,w4⟩:=Xd (i:=L.last) (p:=Ii ⟨2,[fX]⟩) s2 hL ⟨Cg _,by omega⟩ Fe (by rw[Y];omega) Fe;have H:Iy [(1,Fz (FT [I8]))] D=(0,(D.save (GJ 1) (Fz (FT [I8]))).2):=by
   unfold Iy;rw[if_neg (by rw[s1];decide)];rfl
  unfold Lf at hC;simp only [hA,hF,hT,hN,Bg]at hC;rcases hC with⟨he,_,_,_,_,_,hx⟩|⟨_,_,fs',z,_,_,_,hx⟩
  ·exfalso;rcases hx with⟨sg,hs,hb⟩|hx|⟨fs',z,_,hx⟩
   ·rw[M3]at hs;rw[Af.1 hs]at hb;exact hb Yct
   ·rw[J]at hx;cases hx
   ·rw[O fs' z]at hx;rcases hx with hx|hx
    ·rw[Yd0]at hx;cases hx
    ·omega
  ·have e1:=O fs' z;subst e1;rw[H]at hx;dsimp only at hx;rcases hx with⟨hx,_⟩|⟨_,hL',hD',hx⟩
   ·exact absurd rfl hx
   ·rcases hx with⟨hx,_⟩|⟨_,he,hV,hd,tbs,htb,hts⟩
    ·exact absurd w1 hx
    ·rcases hE with⟨h9,_⟩|⟨_,h8,h7⟩
     ·exact absurd he h9
     ·rcases tbs with _|⟨t,_|⟨t2,r⟩⟩
      ·cases htb
      ·obtain⟨th,bt,vl,vb,tc⟩:=t;simp only [Ak,Bg,Cd.injEq,B4.injEq,and_true]at htb;obtain⟨rfl,rfl⟩:=htb;refine⟨h8,he,h7,hd,⟨_,hL'.trans w2⟩,hV,⟨bt,vl,vb,hts⟩,hD'▸w3.mono Fe Fe,?_⟩;rw[hD',w4,Y]
      ·simp at htb
variable {V:Vs}{bd bo bs:Nat}{dead:Bool}{ts:List Tb}{vf:Value}{w:World}
def RD {bl bm:Nat}{mem:List Cell}(h:StE κ bs bd bl bo bm vf L D V ts mem dead w)(key:Fj)(hml:mem.length<=900000)(hfl:V.fs.length<=100000)(hfs:∀f∈V.fs,(∃t,HO ts (f.lev,f.id)=some t)/\Ge f.lev/\Ge f.id)(hkl:key.length<=1000000000):
  Calls Tryz.prog 22 [Fh bs 0,S key].toArray w (Pure w (.tuple #[S (Kp (Lz mem V.fs ts key)).1,B (Kp (Lz mem V.fs ts key)).2])):=by
 have r:=h.mp.at;rw[show lk (ts.map Tb.kv)=Jp ts from funext (P5 ts)]at r;exact Ybl bs bd bl V.next vf bo bm _ dead _ mem V.fs ts key w h.m h.mr hml h.vs hfl r h.tb hfs hkl
def X9r {bl bm:Nat}{mem:List Cell}(h:StE κ bs bd bl bo bm vf L D V ts mem dead w):
  Calls Tryz.prog 17 [Fh bs 0].toArray w (Pure w (I L.last)):=by
 obtain⟨F,G,vd,ve,vs,h1,h2,_⟩:=h.ld;exact Ybk bs bd bl V.next vf bo bm dead G vd ve vs L w h.m h2
def Yei : (IQ 65536).Wf:=⟨by decide,by decide,by decide,by decide,by decide,λp r=>(by cases r),λp r=>(by cases r),BR,by decide⟩
def Yd1 : OkD (IQ 65536) 0 0:=⟨rfl,Aa _,Aa _,BR,λp r=>(by cases r)⟩
def getX {bt:Nat}{vl vb:Value} : Lz [] [fX] [⟨(0,1),bt,vl,vb,[I8]⟩] [97]=some I8:=by
 have e:fX=⟨1,0,fX.size,[97],[97]⟩:=rfl;rw[e];rfl
def Yd2 {fs:List Fi}: Lz [QS] fs ts [97]=some QS:=rfl
def X9s (w:World)(hgv:GV w) :
  FX 18 [] w (B true):=by
 refine cE Tryz.func18 λr=>Gj (Em.diskNew_w 65536 _ Fo Fo) λu1 w1 x1 xe=>?_;have hsz1:=r.size;have r:=r.trans x1;obtain⟨bd,mf,rfl,hd,hm,hgd,hgm⟩:=xe;refine go ?_;have hmfl:=hm.lt;have hsz0:=r.size;refine cG (Em.lsmOpen_w bd mf 65536 _ hd hm) RX.all λu2 w2 x2 xa=>?_;have hsz2:=r.size;have r:=r.trans x2;obtain⟨bs,bl,mo,bm,ba,bn,rfl,hE,k1,k2,k3,k4,k5,k6⟩:=xa;have z:=YE hE Fe Yei;have hκ:∀k,(HD bs bd bl mo bm ba bn mf) k≠0->w.heap.size<=k:=λk hk=>by
  unfold HD at hk
  repeat' split at hk
  all_goals first|omega|exact absurd rfl hk
 refine FJ 22 (λc1=>?_) λc1=>?_
 ·exact absurd rfl c1
 refine go ?_;refine dp (GY Ff rfl rfl) ?_;refine Fk (λc2=>?_) λc2=>?_
 ·exact absurd c2 F0
 refine go ?_;refine db (zs:=[S [],S [],B false]) (pl:=[(0,1),(1,1),(2,1)]) (pv:=[(0,_),(1,_)]) (cs:=[_,_,B false]) ?_;refine lA 48 rfl λb1 w3 e1 x3 m1=>?_;have g1:=r.ge e1;have Y:=z.lt;refine Fy x3 z r λz r=>?_;have hw:=r.size;refine cD (Rr (HD bs bd bl mo bm ba bn mf) bs bd bl mo bm (.slice none 0 0) JQ (IQ 65536) ⟨1,[]⟩ [] [] false [LH] _ _ z (m1.arr (enc:=Rw.cs) (sz:=3) (l:=[LH]) rfl Fg rfl F0) Fo (λ_=>AO λJ=>by have h8:=Y _ J;have h7:=e1;dsimp only [base]at h8;omega) Fo Fo Fo) (.inl rfl) λu4 w4 x4 h5=>?_;have hsz4:=r.size;have r:=r.own x4 (λi hi=>(hκ i hi));obtain⟨e1,κ1,L1,D1,mem1,dead1,rfl,xb,H,hW⟩:=h5;have hbl:=X30;obtain⟨he1,rfl,rfl,rfl,hg,O⟩:=U8 hW Fo rfl Fo Yd1 Fe (by show _<=(65536:Int);omega) Fo (nn:=1) (mm:=[I8]) rfl Fo;have z:=H;have ha:=Pv hκ xb hw;refine go ?_;have ht:=r.size;have z:StE κ1 bs bd bl mo bm (.slice none 0 0) _ D1 ⟨1,[]⟩ [] [I8] false _:=z;refine cD (Rs κ1 bs bd bl mo bm (.slice none 0 0) _ D1 ⟨1,[]⟩ [] [I8] false _ z Fo (by intro c hc;rw[Af.1 hc];decide) rfl (hgv.ext r) (λk hk=>AO λJ=>by have h8:=ha k J;have h7:=hgv.lt k hk;omega) Fo) (.inl rfl) λu5 w5 x5 hy=>?_;have hsz5:=r.size;have r:=r.own x5 (λi hi=>(ha i hi));obtain⟨ok,e2,κ2,bm2,vf2,L2,D2,V2,ts2,mem2,dead2,rfl,hp,H,h6⟩:=hy;obtain⟨rfl,rfl,rfl,rfl,⟨p2,rfl⟩,rfl,⟨bt,vl,vb,rfl⟩,hl,hq⟩:=Ycv h6 rfl Fo hg (by rw[O];show _<=(65536:Int);omega) Fo;have z:=H;have hz:=Pv ha hp ht;refine Gs ((show Calls Tryz.prog 22 [Fh bs 0,S [97]].toArray w5 (Pure w5 (.tuple #[S [120],B true])) from by have J:=RD z [97] Fo F0 (by intro f hf;rw[Af.1 hf];exact⟨⟨_,rfl⟩,by unfold Ge;decide,by unfold Ge;decide⟩) Fo;rw[getX]at J;exact J)) λw6 x6=>Fy x6 z r λz r=>?_;refine go ?_;refine db (zs:=[S [],S [],B false]) (pl:=[(0,1),(1,1),(2,1)]) (pv:=[(0,_),(2,_)]) (cs:=[_,S [],_]) ?_;refine lA 48 rfl λb2 w7 e2 x7 m2=>?_;have g2:=r.ge e2;have Z:=z.lt;refine Fy x7 z r λz r=>?_;have hsze:=r.size;refine cD (Rr κ2 bs bd bl mo bm2 vf2 _ D2 ⟨2,[fX]⟩ [⟨(0,1),bt,vl,vb,[I8]⟩] [] false [LF] _ _ z (m2.arr (enc:=Rw.cs) (sz:=3) (l:=[LF]) rfl Fg rfl F0) Fo (λ_=>AO λJ=>by have h8:=Z _ J;have h7:=e2;dsimp only [base]at h8;omega) Fo (by show 0<=900000;decide) Fo) (.inl rfl) λu8 w8 x8 xf=>?_;have hsz8:=r.size;have r:=r.own x8 (λi hi=>(hz i hi));obtain⟨e3,κ3,L3,D3,mem3,dead3,rfl,hmv3,H,xc⟩:=xf;have hbl3:=X31;obtain⟨he3,hj,hh,hr,hOk3,hro3⟩:=U8 xc Fo rfl (by show(1:Int)<1099511627776;decide) hl Fe (by rw[hq,O];show _<=(65536:Int);omega) Fo (nn:=2) (mm:=[QS]) rfl Fo;rw[hj,hh,hr]at H;have z:StE κ3 bs bd bl mo bm2 vf2 _ D3 ⟨2,[fX]⟩ [⟨(0,1),bt,vl,vb,[I8]⟩] [QS] false _:=H;refine Gs ((show Calls Tryz.prog 22 [Fh bs 0,S [97]].toArray w8 (Pure w8 (.tuple #[S [],B false])) from by have J:=RD z [97] Fo F0 (by intro f hf;rw[Af.1 hf];exact⟨⟨_,rfl⟩,by unfold Ge;decide,by unfold Ge;decide⟩) Fo;rw[Yd2]at J;exact J)) λw9 x9=>Fy x9 z r λz r=>?_;refine FJ 51 (λc3=>?_) λc3=>?_
 ·refine go ?_;refine dp (KI rfl rfl) ?_;refine FJ 61 (λc4=>?_) λc4=>?_
  ·refine Gs (X9r z) λw10 xd=>?_;have r:=r.trans xd;refine go ?_;exact⟨rfl,r⟩
  exact absurd rfl c4
 exact absurd rfl c3
def X0x {P:Program}{W:World}{name:String}{k:IntKind}{zs:List Int}{a b:String×DataW Unit}{g:Nat}{t e:TypeId}{n:Nat}
  (hg:P.globalNamed name=some g) (hty:(P.globals[g]?).map (·.type)=some t) (ht:P.underlying t=some (.array n e)) (he:P.underlying e=some (.int k)) (hce:P.cellsOf e=1) (hct:P.cellsOf t=n)
  (h:laidMet P [a,b,(name,Lib.tabData k zs)] W):Lib.TabIs P W name k zs:=by
 obtain⟨ps,hv,_⟩:=h;obtain⟨_,_,_,_,_,q1,_,_,_,_,hv,_⟩:=hv;obtain⟨_,_,_,_,_,q2,_,_,_,_,hv,_⟩:=hv;obtain⟨g',t',cs,fuel,p,q,z,H,r,hd,_,_⟩:=hv;obtain rfl:=Am.inj (hg.symm.trans z);obtain rfl:=Am.inj (hty.symm.trans H);unfold Lib.TabIs;rw[r,<-Lib.cells_of_tab ht he hce hct hd]
def X33 : (Rows.laid_internal_strconv_uint64pow10:DataW Unit)=Lib.tabData .u64 Lib.pow10Tab:=by rfl
def GV.of_row {a b : String × DataW Unit}(_ : w.ShapedOpen Tryz.prog)(h : laidMet Tryz.prog [a, b, ("internal/strconv.uint64pow10", Rows.laid_internal_strconv_uint64pow10)] w): GV w := by
 rw[X33]at h;exact⟨X0x (g:=1) (t:=366) (e:=236) (n:=20) Ff Ff Ff Ff Ff Ff h⟩
def Yej : (IQ 4194304).Wf:=⟨by decide,by decide,by decide,by decide,by decide,λp r=>(by cases r),λp r=>(by cases r),BR,by decide⟩
variable {M:List Rw}{i:Nat}
def Oy {S:Nat}{mem:List Cell}(h:TI S i L V ts mem M)(hS:S<=120000)(hi:i<=40000):L.last<=40000/\(FR mem ts).length<=60000/\mem.length<=60000/\ts.length<=60000/\V.fs.length<=1024/\HK mem<=100000000000/\(∀c∈mem,c.key.length<=4096/\c.val.length<=16384/\c.seq<=4611686018427387904):=by
 have h1:=h.len;have h2:=h.l0;have h3:=h.sto.tlen;have h4:(FR mem ts).length=mem.length+(ts.flatMap (·.cs)).length:=by unfold FR;rw[Ad]
 obtain⟨_,_,z,_⟩:=Jc h.sto.isv;have z:V.fs.length<=1024:=z;have H:=λc (r:c∈mem)=>h.sto.cellsB Fe c (Hu.2 (.inl r));refine⟨by omega,by omega,by omega,by omega,z,?_,H⟩;have h7:=V4 (l:=mem) (λc r=>by have:=H c r;unfold GB;omega);omega
def Yd3 {S:Nat}{mem:List Cell}(h:TI S i L V ts mem M):∀f∈V.fs,(∃t,HO ts (f.lev,f.id)=some t)/\Ge f.lev/\Ge f.id:=λf r=>by
 obtain⟨t,z,hv⟩:=h.sto.fwd f r;have h1:=Nw h.sto.isv f r;exact⟨⟨t,by rw[<-hv.h];exact OE h.sto.nod z⟩,h1.2,h1.1⟩
def Oo (h:u<128):(F4 u).length=1:=by
 unfold F4 Hm;rw[if_pos h];rfl
def Xg (u:Nat):(F4 u).length<=1+u:=by
 by_cases h:u<128
 ·rw[Oo h];omega
 ·have:=Gk u;omega
def P6 (p:Fj):(FA p).length<=1+2*p.length:=by
 have:=Xg p.length;unfold FA;rw[Ad];omega
def bW (c:Cell):Nat:=5+3*c.key.length+2*c.val.length
def X34 {n:Nat}{c:Cell}(hn:n<=c.key.length)(hs:c.seq<=127):(JX n c).length<=bW c:=by
 have h1:=Xg n;have h2:=P6 (c.key.drop n);have h3:(F4 c.seq.toNat).length=1:=Oo Fe;have h4:(F4 (LA c.del)).length=1:=Oo (by unfold LA;split<;>decide);have h5:=P6 c.val;rw[List.length_drop]at h2;unfold JX bW;split<;>simp only [Ad,Bj]<;>omega
def UL {l:List Cell}(hs:∀c∈l,c.seq<=127):∀k,k<=l.length->((List.range k).flatMap (JI l)).length<=F9 bW (l.take k)
 | 0,_=>Ab _
 | k+1,hk=>by
  have ih:=UL hs k Fe;have r:l[k]?=some l[k]:=Aq Fe;have e:JI l k=JX (H8 l k) l[k]:=by unfold JI;rw[r];rfl
  have h1:=X34 (S8 r) (hs l[k] (CL _));have h2:F9 bW (l.take (k+1))=F9 bW (l.take k)+bW l[k]:=by rw[List.take_add_one,r,Kk];simp [F9]
  rw[Qy Fe,Ad,e,h2];omega
variable {l:List Cell}
def X9t (hs:∀c∈l,c.seq<=127):(H0 l).length<=F9 bW l:=by
 have:=UL hs l.length (Aa _);rwa [AT]at this
def X9u {g:Cell->Nat}{c:Cell}(h:c∈l):g c<=F9 g l:=by
 unfold F9
 induction l with
 | nil=>cases h
 | cons a r ih=>
  rw[Ak,A4];rcases Ah.1 h with rfl|h
  ·omega
  ·have:=ih h;omega
def Yl (f g:Cell->Nat):∀l:List Cell,F9 (λc=>f c+g c) l=F9 f l+F9 g l
 | []=>rfl
 | a :: r=>by
  have ih:=Yl f g r;unfold F9 at *;simp only [Ak,A4]at *;omega
def eW (c:Cell):Nat:=12+2*c.key.length
def X35 (hs:∀c∈l,c.seq<=127){p:Nat×Nat}(h1:p.1<p.2)(h2:p.2<=l.length):(Jn l p).length<=F9 (λc=>bW c+eW c) (HT l p):=by
 have r:l[p.2-1]?=some l[p.2-1]:=Aq Fe;have e:GH l (p.2-1)=l[p.2-1]:=Sp.cAt_at r;have hm:l[p.2-1]∈HT l p:=by
  unfold HT;refine Ag (i:=p.2-1-p.1) ?_;rw[List.getElem?_drop,List.getElem?_take,if_pos Fe,show p.1+(p.2-1-p.1)=p.2-1 by omega,r]
 have g1:=X9u (g:=eW) hm;have g2:=X9t (l:=HT l p) (λc r=>hs c (OQ r));have g3:=Gk (H0 (HT l p)).length;have g4:=P6 l[p.2-1].key;have g5:(F4 l[p.2-1].seq.toNat).length=1:=Oo (by have:=hs _ (CL (l:=l) (n:=p.2-1) Fe);omega);have g6:eW l[p.2-1]=12+2*l[p.2-1].key.length:=rfl;rw[Yl];unfold Jn;rw[e];unfold FA at *;simp only [Ad]at *;omega
def Iz {l:List Cell}(hs:∀c∈l,c.seq<=127):∀ps:List (Nat×Nat),(∀p∈ps,p.1<p.2/\p.2<=l.length)->(ps.flatMap (Jn l)).length<=F9 (λc=>bW c+eW c) (ps.flatMap (HT l))
 | [],_=>Ab _
 | p :: r,h=>by
  have ih:=Iz hs r (λq z=>h q (Aj _ z));have h1:=h p Ai;have h2:=X35 hs h1.1 h1.2;rw[AA,AA,Ad,Kk];omega
def X00 (hs:∀c∈l,c.seq<=127):(FT l).length<=50+20*F9 cW l:=by
 have z:=MW l l.length;have h1:=Iz hs (GO l) (λp O=>by have:=z.mem O;omega);have h2:(GO l).flatMap (HT l)=l:=by
  unfold GO;rw[Tj z,AT,List.drop_zero]
 rw[h2]at h1;have h3:=Gk (GO l).length;have h4:=Gk l.length;have H:=Gk (Jg (HN l)).length;have J:(Jg (HN l)).length<=9+2*l.length:=by rw[MI];have:=M1 l l.length;unfold I9 HN;omega
 have h7:F9 (λc=>bW c+eW c) l+2*l.length<=20*F9 cW l:=by
  clear hs z h1 h2 h3 h4 H J
  induction l with
  | nil=>exact Aa _
  | cons a r ih=>
   unfold F9 at *;simp only [Ak,A4,Az]at *;unfold bW eW cW at *;omega
 unfold FT FA;simp only [Ad]at *;omega
def X9v (l:List Rw):(G2 l).length<=10+3*(l.map G5).sum:=by
 have h1:=Gk l.length;have h2:(l.flatMap Hi).length<=3*(l.map G5).sum:=by
  clear h1
  induction l with
  | nil=>exact Aa _
  | cons r t ih=>
   have g1:=P6 r.key;have g2:=P6 r.val;have g3:(F4 1).length=1:=Oo Fo;have g4:(F4 0).length=1:=Oo Fo;have g5:(Hi r).length<=3*G5 r:=by
    unfold Hi G5;split<;>simp only [Ad]<;>omega
   rw[AA,Ad,Ak,A4];omega
 unfold G2;rw[Ad];omega
def ME (l:Fj):Nat:=l.foldl (λa c=>10*a+(c.toNat-48)) 0
def US (u:Nat):ME (Lib.decDigits u)=u:=by
 induction u using Nat.strongRecOn with
 | _ u ih=>
  rw[Lib.decDigits];split
  ·rename_i h;unfold ME;rw[BE,EX,Ox _ Fe];omega
  ·rename_i h;have h1:=ih (u / 10) Fe;unfold ME at *;rw[List.foldl_append,h1,BE,EX,Ox _ Fe];omega
def X36 (u:Nat):∃c:UInt8,c.toNat<58/\∃r,Lib.decDigits u=r++[c]:=by
 rw[Lib.decDigits];split
 ·exact⟨_,by rw[Ox _ Fe];omega,[],rfl⟩
 ·exact⟨_,by rw[Ox _ Fe];omega,_,rfl⟩
def TK {n:Int}(h:0<=n):GJ n=116 :: Lib.decDigits n.toNat:=by
 unfold GJ Lib.itoa;rw[if_neg Fe]
def SZ {n m:Int}(hn:0<=n)(hm:0<=m)(h:GJ n=GJ m):n=m:=by
 rw[TK hn,TK hm]at h;have:=congrArg ME (Cd.inj h).2;rw[US,US]at this;omega
def XU {n:Int}(h:0<=n):(GJ n).getLast?≠some 126:=by
 obtain⟨c,z,r,e⟩:=X36 n.toNat;rw[TK h,e,<-List.cons_append,List.getLast?_append];intro e2;simp at e2;rw[e2]at z;exact absurd z Fo
def Xt3 {n:Int}(h:0<=n)(h2:n<=1099511627776):1<=(GJ n).length/\(GJ n).length<=60:=by
 have:=Xo4 (n:=n) ⟨by omega,by omega⟩;refine⟨?_,by omega⟩;unfold GJ;simp
def Hl (N:List (Fj×Nat)):Nat:=(N.map (·.2)).sum
def M8 (N:List (Fj×Nat))(p:Fj×Fil):Prop:=∃q∈N,p.1=q.1/\p.2.data.length<=q.2
def Sk : ∀(N:List (Fj×Nat)) (fs:List (Fj×Fil)),(fs.map (·.1)).Nodup->(∀p∈fs,M8 N p)->fs.length<=N.length/\JD fs<=Hl N
 | [],fs,_,h=>by
  cases fs with
  | nil=>exact⟨Aa _,Aa _⟩
  | cons p r=>obtain⟨q,hq,_⟩:=h p Ai;cases hq
 | q :: N,fs,hn,h=>by
  have hs:Hl (q :: N)=q.2+Hl N:=by unfold Hl;rw[Ak,A4]
  by_cases hp:∃p∈fs,p.1=q.1/\p.2.data.length<=q.2
  ·obtain⟨p,hp,e1,e2⟩:=hp;obtain⟨X,Y,rfl⟩:=List.append_of_mem hp;have hc:((X++Y).map (·.1)).Nodup:=by
    refine List.Nodup.sublist (C0 _ ?_) hn;exact List.Sublist.append_left (List.sublist_cons_self _ _) _
   have ha:∀x∈X++Y,x.1≠p.1:=λx H e=>by
    rw[A3,Ak,List.nodup_append]at hn;rcases Al.1 H with H|H
    ·exact hn.2.2 x.1 (BC H) p.1 Ai e
    ·exact(Ba.1 hn.2.1).1 (by rw[<-e];exact BC H)
   have ih:=Sk N (X++Y) hc (λx H=>by
    obtain⟨z,J,O,Z⟩:=h x (by
     rcases Al.1 H with H|H
     ·exact Bl _ H
     ·exact Bb _ (Aj _ H))
    rcases Ah.1 J with rfl|J
    ·exact absurd (O.trans e1.symm) (ha x H)
    ·exact⟨z,J,O,Z⟩)
   unfold JD at *;simp only [Ad,Az,A3,Ak,Bt,A4]at *;omega
  ·have ih:=Sk N fs hn (λx H=>by
    obtain⟨z,J,O,Z⟩:=h x H;rcases Ah.1 J with rfl|J
    ·exact absurd ⟨x,H,O,Z⟩ hp
    ·exact⟨z,J,O,Z⟩)
   rw[Az];omega
structure DJ (D:Dsk)(N:List (Fj×Nat))(H:List Fj):Prop where
 fu:D.fused=false
 rm:D.room=4194304
 nd:(D.fs.map (·.1)).Nodup
 js:∀p∈D.fs,M8 N p
 tl:∀q∈N,q.1.getLast?≠some 126
 hs:∀n∈H,D.has n=true
section
variable {D:Dsk}{N:List (Fj×Nat)}{H:List Fj}
def DJ.ok (h:DJ D N H):OkD D (Hl N) N.length:=by
 obtain⟨h1,h2⟩:=Sk N D.fs h.nd h.js;exact⟨h.fu,h2,h1,h.nd,λp z e=>by
  obtain⟨q,r,e1,_⟩:=h.js p z;exact h.tl q r (by rw[<-e1];exact e)⟩
def Vy {fs:List (Fj×Fil)}{n m:Fj}{f:Fil}{r l:Int}{b:Bool}(h:Dsk.has ⟨r,b,l,fs⟩ m=true):Dsk.has ⟨r,b,l,FB fs n f⟩ m=true:=by
 unfold Dsk.has at *;show(lk (FB fs n f) m).isSome=true;rw[Np];split
 ·rfl
 ·exact h
def DJ.save {n p:Fj}(h:DJ D N H)(hn:1<=n.length/\n.length<=60)(ht:n.getLast?≠some 126)(hp:p.length<=1048576)(hr:Hl N+p.length+12<=4194304)(hc:N.length<4096) :
  (D.save n p).1=0/\DJ (D.save n p).2 ((n,p.length+12) :: N) (n :: H)/\∀q∈(D.save n p).2.fs,(q.1=n/\q.2.data.length<=p.length+12)\/q∈D.fs:=by
 have O:=h.rm;have Y:=J9 p;rw[XP h.ok hn hp (by rw[Y,O];omega) hc];have J:∀q∈FB D.fs n ⟨Fz p,(Fz p).length⟩,(q.1=n/\q.2.data.length<=p.length+12)\/q∈D.fs:=λq J=>by
  rcases OP J with rfl|J
  ·exact .inl ⟨rfl,Cb Y⟩
  ·exact .inr J
 refine⟨rfl,⟨h.fu,h.rm,PD _ _ h.nd,λq r=>?_,λq r=>?_,λm hm=>?_⟩,J⟩
 ·rcases J q r with⟨e,e2⟩|r
  ·exact⟨_,Ai,e,e2⟩
  ·obtain⟨z,Z,z1⟩:=h.js q r;exact⟨z,Aj _ Z,z1⟩
 ·rcases Ah.1 r with rfl|r
  ·exact ht
  ·exact h.tl q r
 ·rcases Ah.1 hm with rfl|hm
  ·unfold Dsk.has;show(lk (FB D.fs m _) m).isSome=true;rw[Np,if_pos rfl];rfl
  ·exact Vy (h.hs m hm)
def DJ.to {N':List (Fj×Nat)}{H':List Fj}(h:DJ D N H)(hN:∀p∈D.fs,M8 N p->M8 N' p)(ht:∀q∈N',q.1.getLast?≠some 126)(hH:∀n∈H',n∈H):DJ D N' H':=
 ⟨h.fu,h.rm,h.nd,λp r=>hN p r (h.js p r),ht,λn hn=>h.hs n (hH n hn)⟩
def DJ.del (h:DJ D N H)(n:Fj)(hH:n∉H):DJ (D.gone n) N H:=
 ⟨h.fu,h.rm,PP n h.nd,λp r=>h.js p (Ax.1 r).1,h.tl,λm hm=>by
  unfold Dsk.has Dsk.gone;show(lk (G3 D.fs n) m).isSome=true;rw[Rv,if_neg (λe=>hH (by rw[<-e];exact hm))];exact h.hs m hm⟩
def Ue : ∀(ns:List Fj) (D:Dsk),D.fused=false->(∀n∈ns,(1<=n.length/\n.length<=64)/\D.has n=true)->ns.Nodup->D.rem ns=(0,ns.foldl (λD n=>D.gone n) D)
 | [],D,_,_,_=>rfl
 | n :: r,D,hf,h,hn=>by
  rw[Ba]at hn;have h1:=h n Ai;have h2:(lk D.fs n).isNone=false:=by
   have:=h1.2;unfold Dsk.has at this
   cases e:lk D.fs n with
   | none=>rw[e]at this;cases this
   | some a=>rfl
  have z:=Ue r (D.gone n) hf (λm hm=>⟨(h m (Aj _ hm)).1,by
   unfold Dsk.has Dsk.gone;show(lk (G3 D.fs n) m).isSome=true;rw[Rv,if_neg (λe=>hn.1 (by rw[<-e];exact hm))];exact(h m (Aj _ hm)).2⟩) hn.2
  unfold Dsk.rem at *;unfold Dsk.each;rw[if_neg (by rw[Pe hf (by intro s hs;rw[Af.1 hs];exact h1.1)];decide),if_neg (by rw[h2];decide),OG (by exact hf),z];rfl
def DJ.dels : ∀(ns:List Fj) (D:Dsk),DJ D N H->(∀n∈ns,n∉H)->DJ (ns.foldl (λD n=>D.gone n) D) N H/\∀p∈(ns.foldl (λD n=>D.gone n) D).fs,p∈D.fs/\p.1∉ns
 | [],D,h,_=>⟨h,λp J=>⟨J,by simp⟩⟩
 | n :: r,D,h,hn=>by
  obtain⟨h1,h2⟩:=DJ.dels r (D.gone n) (h.del n (hn n Ai)) (λm hm=>hn m (Aj _ hm));refine⟨h1,λp J=>?_⟩;obtain⟨h3,h4⟩:=h2 p J;have O:=Ax.1 (show p∈D.fs.filter (λp=>decide (p.1≠n)) from h3);exact⟨O.1,λz=>by
   rcases Ah.1 z with z|z
   ·exact absurd z (by simpa using O.2)
   ·exact h4 z⟩
def DJ.saves : ∀(qs:List (Int×Fj)) (D:Dsk) (N:List (Fj×Nat)) (H:List Fj),DJ D N H->(∀q∈qs,0<=q.1/\q.1<=1099511627776/\q.2.length<=1048576)->Hl N+(qs.map λq=>q.2.length+12).sum<=4194304->N.length+qs.length<4096->
  (Iy qs D).1=0/\DJ (Iy qs D).2 ((qs.map λq=>(GJ q.1,q.2.length+12)).reverse++N) ((qs.map λq=>GJ q.1).reverse++H)
 | [],D,N,H,h,_,_,_=>⟨rfl,h⟩
 | q :: r,D,N,H,h,hq,hs,hc=>by
  obtain⟨q1,q2,q3⟩:=hq q Ai;rw[Ak,A4]at hs;rw[Az]at hc;obtain⟨Y,O,_⟩:=h.save (Xt3 q1 q2) (XU q1) q3 Fe Fe;have e:Hl ((GJ q.1,q.2.length+12) :: N)=q.2.length+12+Hl N:=by unfold Hl;rw[Ak,A4]
  obtain⟨r1,r2⟩:=DJ.saves r _ _ _ O (λz J=>hq z (Aj _ J)) (by rw[e];omega) (by rw[Az];omega);have e2:Iy (q :: r) D=Iy r (D.save (GJ q.1) q.2).2:=by rw[Iy.eq_2,if_neg (by rw[Y];decide)]
  rw[e2];refine⟨r1,?_⟩;simpa using r2
def DJ.write {L:Led}{i:Int}{p:Fj}{b:Nat}(h:DJ D N H)(hi:L.last<=i/\i<=1099511627776)(hL:L.dead=false)(z:p.length<=262144)(hb:(Led.img,b)∈N)(hb2:262180<=b)(hr:Hl N+262180<=4194304)(hc:N.length<4096)(hg:Led.logn∉H) :
  (L.write D i p).1=0/\(L.write D i p).2.1=⟨i,p,[],false⟩/\DJ (L.write D i p).2.2 N H:=by
 have he:=N7 i p;have J:=h.rm;obtain⟨a1,a2,_⟩:=Xd (i:=i) (p:=p) h.ok hL hi Fe (by rw[J];omega) hc;obtain⟨Z,s2,s3⟩:=h.save (n:=Led.img) (p:=Led.ent i p) Fo Fo Fe Fe hc;have r:DJ (D.save Led.img (Led.ent i p)).2 N H:=s2.to (λp z hj=>by
  rcases s3 p z with⟨e1,e2⟩|z
  ·exact⟨_,hb,e1,by show _<=b;omega⟩
  ·exact h.js p z) h.tl (λn hn=>Aj _ hn)
 refine⟨a1,a2,?_⟩;have e:(L.write D i p).2.2=(Dsk.rems [Led.logn] (D.save Led.img (Led.ent i p)).2).2:=by
  obtain⟨r1,_⟩:=YQ (n:=Led.logn) r.ok Fo;unfold Led.write;rw[if_neg (by rw[hL];decide),if_neg Fe,if_neg Fe];dsimp only;rw[if_pos Z,if_neg (by rw[r1];decide)]
 rw[e];unfold Dsk.rems;split
 ·rename_i Y;have O:=Ue [Led.logn] _ r.fu (λn hn=>by rw[Af.1 hn];exact⟨by decide,Y⟩) F0;rw[O];rw[if_neg F0];exact r.del _ hg
 ·exact r
end
def NL (t:Tb):Fj×Nat:=(GJ t.h.2,100+20*F9 cW t.cs)
def JK (ts:List Tb)(E:Nat):List (Fj×Nat):=(Led.img,262180) :: (Led.logn,E) :: ts.map NL
def UM (ts:List Tb)(E:Nat):Hl (JK ts E)=262180+E+100*ts.length+20*F9 cW (ts.flatMap (·.cs)):=by
 have:∀ts:List Tb,Hl (ts.map NL)=100*ts.length+20*F9 cW (ts.flatMap (·.cs)):=by
  intro ts
  induction ts with
  | nil=>rfl
  | cons t r ih=>
   have e:Hl ((t :: r).map NL)=(100+20*F9 cW t.cs)+Hl (r.map NL):=by unfold Hl;rw[Ak,Ak,A4];rfl
   rw[e,ih,AA,Kk,Az];omega
 have e:Hl (JK ts E)=262180+(E+Hl (ts.map NL)):=by unfold Hl JK;rw[Ak,Ak,A4,A4]
 rw[e,this];omega
def DI (D:Dsk)(ts:List Tb)(E:Nat):Prop:=DJ D (JK ts E) (ts.map λt=>GJ t.h.2)
def S4 {E:Nat}(h:∀t∈ts,0<=t.h.2):∀q∈JK ts E,q.1.getLast?≠some 126:=λq r=>by
 unfold JK at r;rcases Ah.1 r with rfl|r
 ·decide
 ·rcases Ah.1 r with rfl|r
  ·exact(by decide:Led.logn.getLast?≠some 126)
  ·obtain⟨t,z,rfl⟩:=Ao.1 r;exact XU (h t z)
def X9w {s:Fj}(h:s.head?≠some 116):s∉ts.map λt=>GJ t.h.2:=λhm=>by
 obtain⟨t,_,rfl⟩:=Ao.1 hm;exact h rfl
def Xr [DecidableEq α]:∀(z l2:List α),z.Nodup->(∀x∈z,x∈l2)->z.length<=l2.length:=λz l2 hn hs=>by
 have:=PW (λ_=>1) z l2 hn hs;have e:∀l:List α,(l.map λ_=>1).sum=l.length:=λl=>by
  induction l with
  | nil=>rfl
  | cons a r ih=>rw[Ak,A4,ih,Az];omega
 rw[e,e]at this;exact this
section
variable {n lv:Int}{V V':Vs}{ts ts':List Tb}{mem mem' l:List Cell}{gone:List Fi}{L L':Led}{D D':Dsk}{dead dead' ok:Bool}{e:Int}{S i E:Nat}{M:List Rw}
def Sto.cnt (h:Sto n V ts mem):ts.length<=1024:=by
 have h1:=Xr (ts.map (·.h)) (V.fs.map λf=>(f.lev,f.id)) h.nod (λx z=>by
  obtain⟨t,J,rfl⟩:=Ao.1 z;obtain⟨f,r,hv⟩:=h.bwd t J;rw[hv.h];exact BC (f:=λf:Fi=>(f.lev,f.id)) r)
 have h2:=(Jc h.isv).2.2.1;rw[Au,Au]at h1;omega
def ChS.tabs (h:Sto n V ts mem)(c:ChS V ts l lv gone V' ts')(hg:∀f∈gone,f∈V.fs):∃tbs:List Tb,tbs.map (λt=>(t.h,t.cs))=Mi lv V.next (Gc l)/\ts'=ts.filter (kp gone)++tbs:=by
 obtain⟨hok,⟨fs',hp,hv,rfl⟩,tbs,z,ha⟩:=c;obtain⟨htl,r,hta⟩:=PT z;have O:∀t∈tbs,V.next<=t.h.2:=λt J=>by
  obtain⟨i,hi⟩:=AK J;rw[(r i t hi).1];show V.next<=V.next+↑i;omega
 have Y:∀t∈tbs,∀u∈ts,u.h≠t.h:=λt J u hu e=>by
  have h1:=O t J;have h2:=(h.lev hu).2.2.2;rw[e]at h2;omega
 have Z:(tbs.map (·.h)).Nodup:=by
  rw[List.Nodup,List.pairwise_iff_getElem];intro i j hi hj hij e;simp only [Au]at hi hj;simp only [List.getElem_map]at e;rw[(r i _ (Aq hi)).1,(r j _ (Aq hj)).1]at e;have:=(B4.inj e).2;omega
 have hc:∀t∈tbs,kp gone t=true:=λt J=>Ml.2 λf hf e=>by
  have h1:=O t J;have h2:=(KQ ((Jc h.isv).2.2.2.1 f (hg f hf))).2.1;rw[e]at h1;have h3:V.next<=f.id:=h1;omega
 exact⟨tbs,z,by rw[ha,Sd tbs ts Y Z,R3,Bs,Bz.2 hc]⟩
def VM (f:List Cell->Nat)(next:Int):∀(ss:List (List Cell)) (k:Nat),((ss.zipIdx k).map λp=>f p.1).sum=(ss.map f).sum
 | [],k=>rfl
 | s :: r,k=>by rw[List.zipIdx_cons,Ak,Ak,A4,A4,VM f next r (k+1)]
def X03 (next:Int){ss:List (List Cell)}(hs:∀sg∈ss,∀c∈sg,c.seq<=127):((Il next ss).map λq=>q.2.length+12).sum<=100*ss.length+20*F9 cW ss.flatten:=by
 have e:(Il next ss).map (λq=>q.2.length+12)=ss.zipIdx.map λp=>(Fz (FT p.1)).length+12:=by unfold Il;rw[Bq];rfl
 rw[e,VM (λsg=>(Fz (FT sg)).length+12) next ss 0];clear e
 induction ss with
 | nil=>exact Aa _
 | cons s r ih=>
  have h1:=ih (λsg h=>hs sg (Aj _ h));have h2:=X00 (hs s Ai);have h3:=J9 (FT s);rw[Ak,A4,List.flatten_cons,Kk,Az];omega
def X4 (hC:Lf L D V ts dead l lv gone e L' D' V' ts' dead')(h:Sto n V ts mem)(hg:∀f∈gone,f∈V.fs)(hD:DI D ts E)(hL:L.dead=false)(hl:0<=L.last/\L.last<=60)(hE:E<=190000)(hw:F9 cW (ts.flatMap (·.cs))<=60000)(hw2:F9 cW l<=60000)(hs:∀c∈l,c.seq<=127) :
  dead'=dead/\L'.dead=false/\((e≠0/\DI D' ts E)\/(e=0/\∃tbs:List Tb,ts'=ts.filter (kp gone)++tbs/\DI D' (ts++tbs) E/\∀t∈tbs,V.next<=t.h.2)):=by
 have xc:=(O0 hC).2;rcases hC with⟨h1,rfl,rfl,_,_,h2,_⟩|⟨_,_,fs',hp,_,hv,hv2,hr⟩
 ·exact⟨h2,hL,.inl ⟨h1,hD⟩⟩
 ·have hcnt:=h.cnt;have hh:=Jc hv;have xb:(Gf lv V.next (Gc l)).length=(Gc l).length:=by unfold Gf;simp
  have hsl:(Gc l).length<=1024:=by
   have h1:=hh.2.2.1;have h2:fs'.length<=1024:=h1;rw[hp.length_eq,Ad,xb]at h2;omega
  have xd:∀q∈Il V.next (Gc l),0<=q.1/\q.1<=1099511627776/\q.2.length<=1048576:=λq r=>by
   unfold Il at r;obtain⟨p,ha,rfl⟩:=Ao.1 r;have hf:Ll lv V.next p.2 p.1∈fs':=hp.mem_iff.2 (Bb _ (by unfold Gf;exact Ao.2 ⟨p,ha,rfl⟩));have h1:=KQ (hh.2.2.2.1 _ hf);have h2:HV V.next (Gf lv V.next (Gc l))<=1099511627776:=hh.2.1;have g1:1<=V.next+↑p.2:=h1.1;have g2:V.next+↑p.2<HV V.next (Gf lv V.next (Gc l)):=h1.2.1;have g3:(((Fz (FT p.1)).length:Nat):Int)<=1048576:=h1.2.2.2.2.2.1;refine⟨by show 0<=V.next+↑p.2;omega,by show V.next+↑p.2<=_;omega,by show(Fz (FT p.1)).length<=_;omega⟩
  have Y:∀sg∈Gc l,∀c∈sg,c.seq<=127:=λsg hy c hc=>hs c (by rw[<-PN l];exact List.mem_flatten.2 ⟨sg,hy,hc⟩);have h6:=X03 V.next Y;rw[PN]at h6;have xe:=UM ts E;have hfl:(Il V.next (Gc l)).length=(Gc l).length:=by unfold Il;simp
  obtain⟨s1,s2⟩:=DJ.saves (Il V.next (Gc l)) D _ _ hD xd (by rw[xe];omega) (by unfold JK;simp only [Az,Au];omega);have hsN:Hl (((Il V.next (Gc l)).map λq=>(GJ q.1,q.2.length+12)).reverse++JK ts E)<=3600000:=by
   unfold Hl at *;rw[A3,Bt,List.map_reverse,List.sum_reverse,Bq];have e9:((Il V.next (Gc l)).map ((λx:Fj×Nat=>x.2) ∘ λq=>(GJ q.1,q.2.length+12)))=(Il V.next (Gc l)).map λq=>q.2.length+12:=rfl;rw[e9];omega
  obtain⟨w1,w2,w3⟩:=s2.write (L:=L) (i:=L.last) (p:=Ii ⟨HV V.next (Gf lv V.next (Gc l)),fs'⟩) (b:=262180) ⟨Cg _,by omega⟩ hL hv2 (Bb _ Ai) (Aa _) Fe (by
   simp only [Ad,List.length_reverse,Au];unfold JK;simp only [Az,Au];omega) (λhm=>by
   rcases Al.1 hm with hm|hm
   ·obtain⟨q,_,e9⟩:=Ao.1 (Dz.1 hm);exact absurd (congrArg List.head? e9) (by show¬ some (116:UInt8)=some 115;decide)
   ·exact X9w Fo hm)
  rcases hr with⟨h1,_⟩|⟨_,rfl,rfl,⟨h1,_⟩|⟨_,rfl,rfl,rfl,tbs,htb,hts⟩⟩
  ·exact absurd s1 h1
  ·exact absurd w1 h1
  ·refine⟨rfl,by rw[w2],.inr ⟨rfl,?_⟩⟩;rcases xc with⟨h9,_⟩|⟨_,_,hS⟩
   ·exact absurd rfl h9
   obtain⟨O,k1,k2⟩:=hS.tabs h hg;obtain⟨ktl,Z,xa⟩:=PT k1;have h8:∀t∈O,V.next<=t.h.2:=λt J=>by
    obtain⟨i,hi⟩:=AK J;rw[(Z i t hi).1];show V.next<=V.next+↑i;omega
   have hvn:1<=V.next:=(Jc h.isv).1;have hx:∀q∈Il V.next (Gc l),∃t∈O,q.1=t.h.2/\q.2=Fz (FT t.cs):=λq r=>by
    unfold Il at r;obtain⟨p,ha,rfl⟩:=Ao.1 r;obtain⟨i,hi⟩:=AK ha;rw[Mz]at hi;obtain⟨sg,hy,rfl⟩:=Option.map_eq_some_iff.1 hi;obtain⟨t,J,h1,h2⟩:=xa i sg hy;exact⟨t,Ag J,by rw[h1],by rw[h2]⟩
   have h7:∀t∈O,∃q∈Il V.next (Gc l),q.1=t.h.2/\q.2=Fz (FT t.cs):=λt J=>by
    obtain⟨i,hi⟩:=AK J;obtain⟨h1,h2⟩:=Z i t hi;refine⟨(V.next+↑i,Fz (FT t.cs)),?_,by rw[h1],rfl⟩;unfold Il;refine Ao.2 ⟨(t.cs,i),Ag (i:=i) ?_,rfl⟩;rw[Mz,h2];rfl
   refine⟨O,k2,w3.to (λp _ hj=>?_) (S4 (λt J=>?_)) (λs h5=>?_),h8⟩
   ·obtain⟨q,r,e1,e2⟩:=hj;rcases Al.1 r with r|r
    ·obtain⟨z,hz,rfl⟩:=Ao.1 (Dz.1 r);obtain⟨t,J,z1,z2⟩:=hx z hz;refine⟨NL t,?_,?_,?_⟩
     ·unfold JK;rw[A3];exact Aj _ (Aj _ (Bb _ (BC J)))
     ·rw[e1];show GJ z.1=GJ t.h.2;rw[z1]
     ·show _<=100+20*F9 cW t.cs;have h1:p.2.data.length<=z.2.length+12:=e2;rw[z2,J9]at h1;obtain⟨i,hi⟩:=AK J;have h2:=X00 (Y t.cs (Ag (Z i t hi).2));omega
    ·refine⟨q,?_,e1,e2⟩;unfold JK at *;rw[A3];rcases Ah.1 r with rfl|r
     ·exact Ai
     ·rcases Ah.1 r with rfl|r
      ·exact Aj _ Ai
      ·exact Aj _ (Aj _ (Bl _ r))
   ·rcases Al.1 J with J|J
    ·have:=(h.lev J).2.2.1;omega
    ·have:=h8 t J;omega
   ·rw[A3]at h5;rcases Al.1 h5 with h9|h9
    ·exact Bb _ h9
    ·obtain⟨t,J,rfl⟩:=Ao.1 h9;obtain⟨q,r,q1,_⟩:=h7 t J;refine Bl _ (Dz.2 (Ao.2 ⟨q,r,?_⟩));show GJ q.1=_;rw[q1]
end
section
variable {n lv:Int}{V V':Vs}{ts ts':List Tb}{mem mem' l:List Cell}{gone:List Fi}{L L':Led}{D D':Dsk}{dead dead' ok:Bool}{e:Int}{S i E:Nat}{M:List Rw}
def DI.mono {E':Nat}(h:DI D ts E)(hE:E<=E'):DI D ts E':=h.to (λp _ z=>by
 obtain⟨q,r,e1,e2⟩:=z;unfold JK at *;rcases Ah.1 r with rfl|r
 ·exact⟨_,Ai,e1,e2⟩
 ·rcases Ah.1 r with rfl|r
  ·exact⟨(Led.logn,E'),Aj _ Ai,e1,Ae e2 hE⟩
  ·exact⟨q,Aj _ (Aj _ r),e1,e2⟩) (λq r=>by
 unfold JK at r;rcases Ah.1 r with rfl|r
 ·decide
 ·rcases Ah.1 r with rfl|r
  ·exact(by decide:Led.logn.getLast?≠some 126)
  ·exact h.tl q (Aj _ (Aj _ r))) (λn hn=>hn)
def DI.log (h:DI D ts E):(D.old Led.logn).data.length<=E:=by
 unfold Dsk.old
 cases e:lk D.fs Led.logn with
 | none=>exact Ab _
 | some f=>
  obtain⟨q,r,e1,e2⟩:=h.js _ (Ro e);have e1:Led.logn=q.1:=e1;unfold JK at r;rcases Ah.1 r with rfl|r
  ·exact absurd e1 Fo
  ·rcases Ah.1 r with rfl|r
   ·exact e2
   ·obtain⟨t,_,rfl⟩:=Ao.1 r;exact absurd (congrArg List.head? e1) (by show¬ some (115:UInt8)=some 116;decide)
def X04 {u k:Nat}{p:Fj}(h:OkD D u k)(hd:L.dead=false)(hp:p.length<=65536)(hl:L.last<1099511627776)(hr:((u+p.length+32:Nat):Int)<=D.room)(hc:k<4096):(L.append D p).2.2.2={ D with fs:=FB D.fs Led.logn ⟨(D.old Led.logn).data++Fz (Led.ent (L.last+1) p),((D.old Led.logn).data++Fz (Led.ent (L.last+1) p)).length⟩ }:=by
 have he:=N7 (L.last+1) p;have hrl:=J9 (Led.ent (L.last+1) p);have r:=T5 (p:=Fz (Led.ent (L.last+1) p)) h (name:=Led.logn) Fo Fe hc;have z:=Ui (D:=(D.app Led.logn (Fz (Led.ent (L.last+1) p))).2) (n:=Led.logn) (f:=⟨(D.old Led.logn).data++Fz (Led.ent (L.last+1) p),(D.old Led.logn).lasts⟩) (by rw[r];exact h.fu) Fo (by rw[r];show lk (FB _ _ _) _=_;rw[Np,if_pos rfl]);have hR:IH L D p=(0,{ D with fs:=FB D.fs Led.logn ⟨(D.old Led.logn).data++Fz (Led.ent (L.last+1) p),((D.old Led.logn).data++Fz (Led.ent (L.last+1) p)).length⟩ }):=by
  unfold IH;rw[if_pos (by rw[r]),z,r];dsimp only;rw[OK]
 rw[QR hd Fe (by rw[hR];simp),hR]
structure CE (E:Nat)(L:Led)(D:Dsk)(ts:List Tb)(dead:Bool):Prop where
 al:dead=false
 ld:L.dead=false
 di:DI D ts E
def CE.nil : CE 0 JQ (IQ 4194304) [] false:=⟨rfl,rfl,⟨rfl,rfl,BR,λp z=>(by cases z),S4 (λt r=>(by cases r)),λs hs=>(by cases hs)⟩⟩
def CE.mono {E':Nat}(h:CE E L D ts dead)(hE:E<=E'):CE E' L D ts dead:=⟨h.al,h.ld,h.di.mono hE⟩
def TI.wts (h:TI S i L V ts mem M)(hS:S<=60000):F9 cW (ts.flatMap (·.cs))<=60000/\F9 cW mem<=60000:=by
 have:=h.wt;unfold FR at this;rw[Kk]at this;omega
def CE.write {b:List Rw}(h:CE E L D ts dead)(hT:TI S i L V ts mem M)(hi:i<=100000)(hws:F9 cW (ts.flatMap (·.cs))<=60000)(hw:Rp L D mem dead b e L' D' mem' dead')(hE:E<=2500000) :
  e=I4 b/\CE (E+3*(b.map G5).sum+42) L' D' ts dead'/\L'.last=L.last+(if I4 b=0 then 1 else 0):=by
 obtain⟨rfl,hL,r⟩:=h;rcases hw with⟨h1,_⟩|⟨_,h1,rfl,rfl,rfl,_,rfl⟩|⟨_,hc,hL',hD',hr⟩
 ·cases h1
 ·exact⟨rfl,⟨rfl,hL,r.mono Fe⟩,by rw[if_neg h1];omega⟩
 ·obtain⟨c1,c2,c3,_⟩:=O7 hc;have hbl:=OD b;have hnl:=Gk b.length;have O:(G2 b).length<=65536:=by unfold G2;rw[Ad];omega
  have hb3:=X9v b;have hcn:=hT.sto.cnt;have Z:=UM ts E;have Y:=r.rm;have hl0:=hT.l0;have z:(JK ts E).length<4096:=by unfold JK;simp only [Az,Au];omega
  obtain⟨a1,a2,a3,_⟩:=WA (p:=G2 b) r.ok hL O Fe (by rw[Y,Z];omega) z;have a5:=X04 (p:=G2 b) r.ok hL O Fe (by rw[Y,Z];omega) z;rcases hr with⟨h4,_⟩|⟨_,rfl,_,rfl⟩
  ·exact absurd a2 h4
  ·refine⟨hc.symm,⟨rfl,by rw[hL',a3];exact hL,?_⟩,by rw[if_pos hc,hL',a3];unfold Led.last;simp;omega⟩;have J:DI D ts (E+3*(b.map G5).sum+42):=r.mono Fe;have hlog:=r.log;have he:=N7 (L.last+1) (G2 b);have hrl:=J9 (Led.ent (L.last+1) (G2 b));rw[hD',a5];refine⟨r.fu,r.rm,PD _ _ r.nd,λp hp=>?_,J.tl,λs hs=>Vy (J.hs s hs)⟩;rcases OP hp with rfl|hp
   ·refine⟨(Led.logn,E+3*(b.map G5).sum+42),Aj _ Ai,rfl,?_⟩;show((D.old Led.logn).data++Fz (Led.ent (L.last+1) (G2 b))).length<=_;rw[Ad];omega
   ·exact J.js p hp
def UV (h:Sto n V ts mem)(hn:n<=60){m:List Cell}(hm:∀c∈m,c∈FR mem ts):∀c∈m,c.seq<=127:=λc r=>by
 have:=(h.okc c (hm c r)).2;omega
def CE.flush (h:CE E L D ts dead)(hT:TI S i L V ts mem M)(J:KS L D V ts mem dead ok e L' D' V' ts' mem' dead')(hS:S<=60000)(hi:i<=60)(hE:E<=190000):CE E L' D' ts' dead':=by
 have hl0:=hT.l0;have O:=hT.wts hS;obtain⟨rfl,Y,Z⟩:=h;rcases J with⟨h1,_⟩|⟨_,_,_,_,rfl,rfl,_,rfl,_,rfl⟩|⟨_,_,m,hm,hC,_⟩
 ·cases h1
 ·exact⟨rfl,Y,Z⟩
 ·have r:=NT hm;have hmw:=OZ (g:=cW) hm;obtain⟨k1,k2,z⟩:=X4 hC hT.sto (λf J=>(by cases J)) Z Y Fe Fe O.1 Fe (UV hT.sto Fe λc hc=>Hu.2 (.inl (r.2 c hc)));refine⟨k1,k2,?_⟩;rcases z with⟨z,k4⟩|⟨z,tbs,k4,k5,_⟩
  ·rcases(O0 hC).2 with⟨_,_,rfl⟩|⟨h9,_⟩
   ·exact k4
   ·exact absurd h9 z
  ·have k0:ts.filter (kp [])=ts:=Bz.2 λt _=>rfl;rw[k0]at k4;rw[k4];exact k5
def Xl3 {α β:Type}{f:α->β} : ∀ {l:List α},l.Nodup->(∀x∈l,∀y∈l,f x=f y->x=y)->(l.map f).Nodup
 | [],_,_=>BR
 | a :: r,h,hi=>by
  rw[Ba]at h;rw[Ak,Ba];refine⟨λhm=>?_,Xl3 h.2 (λx z y J=>hi x (Aj _ z) y (Aj _ J))⟩;obtain⟨x,z,e⟩:=Ao.1 hm;exact h.1 (by rw[<-hi x (Aj _ z) a Ai e];exact z)
def CE.comp {did:Bool}(h:CE E L D ts dead)(hT:TI S i L V ts mem M)(Z:NS L D V ts mem dead did e L' D' V' ts' mem' dead')(hS:S<=60000)(hi:i<=60)(hE:E<=190000):CE E L' D' ts' dead':=by
 have hl0:=hT.l0;rcases Z with⟨h1,_,_,rfl,rfl,rfl,rfl,rfl,rfl⟩|⟨_,_,_,_,rfl,rfl,_,rfl,_,rfl⟩|⟨rfl,_,ok,e1,L1,D1,V1,ts1,mem1,dead1,hF,hr⟩
 ·exact h
 ·exact h
 ·have h1:=h.flush hT hF hS hi hE;have hh:=hT.flush hF;rcases hr with⟨_,_,_,rfl,rfl,_,rfl,_,rfl⟩|⟨rfl,p,lv,m,e2,D2,dead2,_,hP,hm,hC,rfl,hr⟩
  ·exact h1
  ·obtain⟨_,rfl,J,_⟩:=Tk hT.sto hF;obtain⟨rfl,h7,hw⟩:=h1;have hl1:=hh.l0;have J:=hh.sto;have h8:=hh.wts hS;have O:∀f∈p,f∈V1.fs:=λf Z=>(hP.sub f Z).1;have xc:∀c∈Js ts1 p,c∈FR [] ts1:=λc hc=>by
    obtain⟨t,r,_,h2⟩:=(Ry J O).1 hc;exact Hu.2 (.inr ⟨t,r,h2⟩)
   have hl:=NT hm;have hmw:=OZ (g:=cW) hm;have hcw:=Xk (g:=cW) (ts:=ts1) hP.nod;have hpt:=TB (λt:Tb=>F9 cW t.cs) (kp p) ts1;have hfw:F9 cW (m.filter (I7 V1.fs ↑lv))<=F9 cW m:=TP List.filter_sublist;have hw9:=QZ (g:=cW) ts1;obtain⟨k1,k2,k3⟩:=X4 hC J O hw h7 Fe Fe h8.1 Fe (UV J Fe λc hc=>xc c (hl.2 c (Ax.1 hc).1));have ha:=(Jc J.isv).2.2.2.2.1;have Y:=(Jc J.isv).2.2.2.1;have hnx9:=(Jc J.isv).2.1;rcases k3 with⟨k3,k4⟩|⟨k3,tbs,k4,k5,k6⟩
   ·rcases(O0 hC).2 with⟨_,_,rfl⟩|⟨h9,_⟩
    ·rcases hr with⟨_,_,_,rfl,rfl⟩|⟨h9,_⟩
     ·exact⟨k1,k2,k4⟩
     ·exact absurd h9 k3
    ·exact absurd h9 k3
   ·subst k3;have hp:∀s∈p.map (λf=>GJ f.id),s∉ts'.map λt=>GJ t.h.2:=λs hs h6=>by
     obtain⟨f,Z,rfl⟩:=Ao.1 hs;obtain⟨t,r,e9⟩:=Ao.1 h6;have xa:=KQ (Y f (O f Z));rw[k4]at r;rcases Al.1 r with r|r
     ·obtain⟨xe,h5⟩:=Ax.1 r;obtain⟨g,hg,hv⟩:=J.bwd t xe;have hg1:=KQ (Y g hg);rw[hv.h]at e9;have e8:=SZ (by show 0<=g.id;omega) Fe e9;have e7:g=f:=M0 ha hg (O f Z) e8;exact Ml.1 h5 f Z (by rw[hv.h,e7])
     ·have h9:=k6 t r;have e8:=SZ Fe Fe e9;omega
    have xf:DJ D2 (JK (ts1++tbs) E) (ts'.map λt=>GJ t.h.2):=k5.to (λ_ _ hj=>hj) k5.tl (λs hs=>by
     obtain⟨t,r,rfl⟩:=Ao.1 hs;rw[k4]at r;refine Ao.2 ⟨t,?_,rfl⟩;rcases Al.1 r with r|r
     ·exact Bl _ (Ax.1 r).1
     ·exact Bb _ r)
    obtain⟨d1,d2⟩:=DJ.dels (p.map λf=>GJ f.id) D2 xf hp;have xb:=Ue (p.map λf=>GJ f.id) D2 k5.fu (λs hs=>by
     obtain⟨f,Z,rfl⟩:=Ao.1 hs;have xa:=KQ (Y f (O f Z));have xd:=Xt3 (n:=f.id) Fe Fe;obtain⟨t,r,hv⟩:=J.fwd f (O f Z);refine⟨⟨xd.1,by omega⟩,k5.hs _ (Ao.2 ⟨t,Bl _ r,?_⟩)⟩;rw[hv.h]) (Xl3 (Sg _ hP.nod) (λx hx y hy e9=>by
     have hx1:=KQ (Y x (O x hx));have hy1:=KQ (Y y (O y hy));exact M0 ha (O x hx) (O y hy) (SZ Fe Fe e9)))
    rcases hr with⟨h9,_⟩|⟨_,rfl,hr⟩
    ·exact absurd rfl h9
    ·rw[xb]at hr ⊢;rcases hr with⟨h9,_⟩|⟨_,_,_,rfl⟩
     ·exact absurd rfl h9
     ·refine⟨k1,k2,d1.to (λq hq hj=>?_) (S4 (λt r=>?_)) (λs hs=>hs)⟩
      ·obtain⟨z,hz,e1,e2⟩:=hj;unfold JK at *;rcases Ah.1 hz with rfl|hz
       ·exact⟨_,Ai,e1,e2⟩
       ·rcases Ah.1 hz with rfl|hz
        ·exact⟨_,Aj _ Ai,e1,e2⟩
        ·obtain⟨t,r,rfl⟩:=Ao.1 hz;refine⟨NL t,Aj _ (Aj _ (BC ?_)),e1,e2⟩;rw[k4];rcases Al.1 r with r|r
         ·refine Bl _ (Ax.2 ⟨r,?_⟩);refine Ml.2 λf Z e9=>(d2 q hq).2 ?_;rw[e1];exact Ao.2 ⟨f,Z,by show GJ f.id=GJ t.h.2;rw[e9]⟩
         ·exact Bb _ r
      ·rw[k4]at r;rcases Al.1 r with r|r
       ·have:=(J.lev (Ax.1 r).1).2.2.1;omega
       ·have:=k6 t r;have:=(Jc J.isv).1;omega
end
def X37 {l:List Rw}{r:Rw}(h:r∈l):G5 r<=(l.map G5).sum:=by
 induction l with
 | nil=>cases h
 | cons c t ih=>
  rw[Ak,A4];rcases Ah.1 h with rfl|h
  ·omega
  ·have:=ih h;omega
def J3 (H:Nat->Prop)(bd bs bl bo sb bx rbl S i:Nat)(w:World):Prop:=(∀k,H k->k<w.heap.size)/\∃κ bm vf L D V ts mem dead M G bm2 n2 vf2 vT2 d2 fs2 T2,StE κ bs bd bl bo bm vf L D V ts mem dead w/\TI S i L V ts mem M/\CE (3*S+42*i) L D ts dead/\(∀k,κ k≠0->H k)/\RG G sb bx rbl bm2 n2 vf2 vT2 d2 fs2 T2 (60000*i) (2048*i) w/\(∀k,G k->H k)/\∀k,G k->κ k=0
def J3.next {H:Nat->Prop}{bl sb bx rbl S' a2 b2:Nat}{w1 w2:World}{bm bm2:Nat}{vf2 vT2:Value}{mem:List Cell}{d2:Bool}{G:Nat->Prop}{n2:Int}{fs2:List Fi}{T2:List Tr}(hHl:∀k,H k->k<w.heap.size)(hκH:∀k,κ k≠0->H k)(hGH:∀k,G k->H k)(hGκ:∀k,G k->κ k=0)(hz1:w.heap.size<=w1.heap.size)(hz2:w1.heap.size<=w2.heap.size)(hmv:∀k,k<w.heap.size->κ1 k=κ k)(hκ1:∀k,κ1 k≠0->k<w1.heap.size)(hS:StE κ1 bs bd bl bo bm vf L D V ts mem dead w2)(hT:TI S' (i+1) L V ts mem M)(hC:CE (3*S'+42*(i+1)) L D ts dead)(hR:RE G w1 sb bx rbl bm2 n2 vf2 vT2 d2 fs2 T2 a2 b2 w2)(ha:a2<=60000*(i+1))(hb:b2<=2048*(i+1)):J3 (FV H w w2) bd bs bl bo sb bx rbl S' (i+1) w2:=by
 refine⟨λk hk=>hk.elim (λh=>Ay (hHl k h) (Ae hz1 hz2)) (λh=>h.2),κ1,bm,vf,L,D,V,ts,mem,dead,M,FV G w1 w2,bm2,n2,vf2,vT2,d2,fs2,T2,hS,hT,hC,λk hk=>?_,⟨(hR.up ha hb).roll⟩,λk hk=>?_,λk hk=>?_⟩
 ·by_cases r:k<w.heap.size
  ·exact .inl (hκH k (by rw[<-hmv k r];exact hk))
  ·exact .inr ⟨by omega,by have:=hκ1 k hk;omega⟩
 ·exact hk.elim (λh=>.inl (hGH k h)) (λh=>.inr ⟨Ae hz1 h.1,h.2⟩)
 ·rcases hk with h|h
  ·rw[hmv k (hHl k (hGH k h))];exact hGκ k h
  ·exact AO λr=>by have:=hκ1 k r;omega
section
variable {H Z:Nat->Prop}{bd bs bl bo sb bx rbl S i S' i':Nat}{w w':World}
def J3.nothing {κ:Nat->Nat}{bm pb rbm n0:Nat}(hS:StE κ bs bd bl bo bm (.slice none 0 0) JQ (IQ 4194304) ⟨1,[]⟩ [] [] false w)(hE:RG (λk=>k=sb\/k=rbl\/k=rbm\/k=bx) sb bx rbl rbm 1 (.slice none 0 0) (.slice none 0 0) false [] [] 0 0 w)(hG:∀k,(k=sb\/k=rbl\/k=rbm\/k=bx)->n0<=k/\κ k=0/\k≠pb):J3 (λk=>κ k≠0\/(k=sb\/k=rbl\/k=rbm\/k=bx)) bd bs bl bo sb bx rbl 0 0 w:=
 ⟨λk hk=>hk.elim (hS.lt k) (hE.lt k),κ,bm,_,JQ,_,_,[],[],false,[],_,rbm,1,_,_,false,[],[],hS,TI.nil,CE.nil,λk hk=>.inl hk,hE,λk hk=>.inr hk,λk hk=>(hG k hk).2.1⟩
def J3.up (h:J3 H bd bs bl bo sb bx rbl S i w)(hS9:S<=S')(hi:i<=i'):J3 H bd bs bl bo sb bx rbl S' i' w:=by
 obtain⟨J,κ,bm,vf,L,D,V,ts,mem,dead,M,G,bm2,n2,vf2,vT2,d2,fs2,T2,hS,hT,Y,O,hG,r,z⟩:=h;exact⟨J,κ,bm,vf,L,D,V,ts,mem,dead,M,G,bm2,n2,vf2,vT2,d2,fs2,T2,hS,hT.mono hS9 hi,Y.mono Fe,O,⟨hG.e.up Fe Fe⟩,r,z⟩
end
def X38 (most:Int)(l:List Rw):(LY most l).length<=l.length:=by
 unfold LY;split
 ·exact Aa _
 ·rw[AE];exact Nat.min_le_right ..
def Xu5 (m:List Cell):(IE m).length<=m.length:=by
 have:=Yr m m.length;rwa [AT]at this
def Yd4 (H:Nat->Prop)(pb bd bs bl bo sb bx rbl S i:Nat)(a:Ac)(w:World)(h:J3 H bd bs bl bo sb bx rbl S i w)(hp0:Fp w pb [Fh bd 0,Fh bx 0,Fh bs 0,Fh sb 0] 31)(hpH:¬ H pb)(hok:AcOk w a)(haH:a.l≠[]->¬ H (base a.v).1)(hk6:a.k<6)(hSw:S+HE a<=60000)(hi:i<=60)(hgv:GV w)(hgH:∀k,Mv k->¬ H k) :
  G4 30 [Fh pb 0,.agg ⟨a.cs⟩] w H λu w'=>(∃b,u=B b)/\J3 (FV H w w') bd bs bl bo sb bx rbl (S+HE a) (i+1) w':=by
 refine cM Tryz.func30 H λz=>?_;obtain⟨Y,κ,bm,vf,L,D,V,ts,mem,dead,M,G,bm2,n2,vf2,vT2,d2,fs2,T2,J,hT,hC,ha,hG,O,hf⟩:=h;have hp:=hp0;have hpl:=hp0.lt;have hv:=hok.v;have hy:κ pb=0:=AO λh9=>hpH (ha _ h9);have xc:¬ G pb:=λh9=>hpH (O _ h9);have xf:a.l≠[]->κ (base a.v).1=0:=λhl=>AO λh9=>haH hl (ha _ h9);have ye:a.l≠[]->¬ G (base a.v).1:=λhl h9=>haH hl (O _ h9);have yc:a.l≠[]->(base a.v).1<w.heap.size:=λhl=>Fu.base_lt hv Fo hl;have xk:∀k,Mv k->κ k=0:=λk hk=>AO λh9=>hgH k hk (ha _ h9);obtain⟨q1,q2,q3,q4,q5,q6,q7⟩:=Oy hT Fe Fe;have haw:HE a=a.key.length+a.to.length+(a.l.map G5).sum:=rfl;have hrs:=SF a.l;have yb:∀r∈a.l,r.key.length<=1000000/\r.val.length<=1000000:=λr hr=>by have h1:=X37 hr;have h2:G5 r=1+r.key.length+r.val.length:=rfl;omega
 have hml9:=hT.ml;have hen9:=hT.en;refine go ?_;refine G1 rfl rfl rfl RX.all (λb1 w1 e1 x1 m1=>?_);have g1:=z.ge e1;have a1_hp:=hp.lt;have a1_hS:=J.lt;have a1_hv:=Fu.base_lt hv Fo;refine Ga x1 hp J hG hv z λhp J hG hv z=>?_;refine Fk (λc1=>?_) λc1=>?_
 ·refine go ?_;refine HP (R:=Mod (λk=>k≠pb/\k≠b1)) Ij I0 Ff [3,5,10,12] [(0,.p,false),(1,.p,false),(2,.p,false),(3,.l,false),(4,.p,false),(5,.l,false),(7,.p,false),(8,.p,false),(9,.p,false),(10,.l,false),(11,.p,false),(12,.l,false),(6,.x,false),(13,.x,false),(14,.p,false),(15,.p,false)] rfl Ff Ff (λw2 xi=>?_);have x2:=FE xi;clear xi;refine HB x2 hp J hG hv m1 z λhp J hG hv m1 z=>go ?_;refine dL rfl (λ_ hR=>((hp.mod hR (λh=>h.1 rfl)).at rfl)) (go ?_);refine dL rfl (λ_ hR=>((m1.mod hR (λh=>h.2 rfl)).at rfl)) (go ?_);refine dL rfl (λ_ hR=>((hp.mod hR (λh=>h.1 rfl)).at rfl)) (go ?_);refine dL rfl (λ_ hR=>((m1.mod hR (λh=>h.2 rfl)).at rfl)) ?_;have h5:=z.size;have hz:κ b1=0:=AO λh9=>by have:=Y _ (ha _ h9);omega
  have hw:¬ G b1:=λh9=>by have:=Y _ (O _ h9);omega
  refine Jz rfl Ff (Rr κ bs bd bl bo bm vf L D V ts mem dead a.l a.v _ J hv Fe xf Fe Fe q6) rfl (.inr λw9 h9=>h9.mono (λk hk _=>⟨λe=>hk (by rw[e];exact hy),λe=>hk (by rw[e];exact hz)⟩)) (λu3 w3 x3 xt=>?_);have hsz3:=z.size;have hp:=hp.mod x3 (λe=>e hy);have hG:=hG.mod x3 (λk hk e=>e (hf k hk));have hv:=hv.mod x3 (λhl e=>e (xf hl));have m1:=m1.mod x3 (λe=>e hz);have z:=z.own x3 (λi hi ht=>(ha i hi));obtain⟨e,κ1,L1,D1,mem1,dead1,rfl,hh,J,hW⟩:=xt;have hq:=J.lt;have hg:=z.size;have hj:∀k,G k->κ1 k=0:=λk hk=>(hh k (by have:=Y k (O k hk);omega)).trans (hf k hk);refine Jz rfl Ff (Xuw G _ sb bx rbl bm2 n2 vf2 vT2 d2 fs2 T2 (60000*i) (2048*i) a.l a.v _ hG.e hv (λhl=>⟨ye hl,by have:=yc hl;omega⟩) Fe yb Fe) rfl (.inr λw9 h9=>h9.mono (λk hk _=>⟨λe=>xc (by rw[<-e];exact I3 _ hk.1),λe=>hw (by rw[<-e];exact I3 _ hk.1)⟩)) (λu4 w4 x4 yd=>?_);have hsz4:=z.size;have hp:=hp.mod x4 (λe=>xc (I3 _ e.1));have m1:=m1.mod x4 (λe=>hw (I3 _ e.1));have J:=J.mod x4 (λk hk e=>hk (hj k (I3 _ e.1)));have z:=z.own x4 (λi hi ht=>(O i (I3 _ hi.1)));obtain⟨e2,d3,rfl,hE⟩:=yd;refine go ?_;exact⟨_,rfl,z,⟨_,rfl⟩,J3.next Y ha O hf hg hE.x.1 (λk hk=>hh k Fe) hq J ((hT.write hW).mono Fe (Aa _)) ((hC.write hT Fe (hT.wts Fe).1 hW Fe).2.1.mono Fe) hE Fe Fe⟩
 refine Fk (λc2=>?_) λc2=>?_
 ·refine Gt 1000005101000 λw5 x5=>Ga x5 hp J hG m1 z λhp J hG m1 z=>?_;refine Gs (RD J a.key Fe Fe (Yd3 hT) Fe) λw6 x6=>Ga x6 hp J hG m1 z λhp J hG m1 z=>?_;refine Gt 1000005101000 λw7 x7=>Ga x7 hp J hG m1 z λhp J hG m1 z=>?_;refine go ?_;obtain⟨vM,Mc,xb⟩:=hG.e.rv Fe Fe;refine cG (X3i sb bx rbl bm2 n2 vf2 vT2 vM d2 Mc fs2 T2 a.key _ xb) RX.all λu8 w8 x8 xy=>?_;have hsz8:=z.size;refine Ga x8 hp J hG m1 z λhp J hG m1 z=>?_;obtain⟨s9,b9,rfl⟩:=xy;refine go ?_;refine dp (KI rfl rfl) ?_;refine FJ 61 (λc3=>?_) λc3=>?_
  ·refine go ?_;refine dp (QV Ff rfl rfl) (go ?_);exact⟨_,rfl,z,⟨_,rfl⟩,J3.next Y ha O hf z.size (Aa _) (λ_ _=>rfl) J.lt J (hT.mono (B8 _ _) (BS _)) (hC.mono Fe) hG.e Fe Fe⟩
  refine go ?_;exact⟨_,rfl,z,⟨_,rfl⟩,J3.next Y ha O hf z.size (Aa _) (λ_ _=>rfl) J.lt J (hT.mono (B8 _ _) (BS _)) (hC.mono Fe) hG.e Fe Fe⟩
 refine Fk (λc4=>?_) λc4=>?_
 ·refine go ?_;refine HP (R:=Fq) Fq.refl (λ_ _ _=>Fq.trans) Ff [3,5,7,9,14,16,18,20] [(0,.p,false),(1,.p,false),(2,.p,false),(3,.l,false),(4,.p,false),(5,.l,false),(6,.p,false),(7,.l,false),(8,.p,false),(9,.l,false),(11,.p,false),(12,.p,false),(13,.p,false),(14,.l,false),(15,.p,false),(16,.l,false),(17,.p,false),(18,.l,false),(19,.p,false),(20,.l,false),(10,.x,false),(21,.x,false),(22,.x,false),(23,.p,false)] rfl Ff Ff (λw9 xl=>?_);have x9:=FE xl;clear xl;refine Ga x9 hp J hG m1 z λhp J hG m1 z=>go ?_;refine cG (R7 κ bs bd bl bo bm vf L D V ts mem dead a.key a.to a.n _ J hT.sto.nod hT.sto.okh Fe (λc hc=>(q7 c hc).2.2) Fe Fe) RX.ext λvs w10 yf xm=>?_;have hsz10:=z.size;refine FQ yf hp J hG z λhp J hG z=>?_;obtain⟨Lc,m9,hLm,hLl,xx,h8⟩:=xm;obtain⟨vM,Mc,xb⟩:=hG.e.rv Fe Fe;refine cG (Xz3 sb bx rbl bm2 n2 vf2 vT2 vM d2 Mc fs2 T2 a.key a.to a.n _ xb) RX.ext λvr w11 xr xn=>?_;have hsz11:=z.size;refine Ga xr hp J hG h8 z λhp J hG h8 z=>?_;obtain⟨lr,xu,hlr⟩:=xn;refine cP (Ycg _ lr vs vr _ (h8.arr Fg) (xu.arr Fg) (by have:=X38 a.n (IE m9);have:=Xu5 m9;have:=(NT xx).1;omega) Fe) RX.ext λw12 x0=>FQ x0 hp J hG z λhp J hG z=>go ?_;exact⟨_,rfl,z,⟨_,rfl⟩,J3.next Y ha O hf z.size (Aa _) (λ_ _=>rfl) J.lt J (hT.mono (B8 _ _) (BS _)) (hC.mono Fe) hG.e Fe Fe⟩
 refine Fk (λc5=>?_) λc5=>?_
 ·refine go ?_;have h5:=z.size;have hz:κ b1=0:=AO λh9=>by have:=Y _ (ha _ h9);omega
  have hw:¬ G b1:=λh9=>by have:=Y _ (O _ h9);omega
  refine cD (Rs κ bs bd bl bo bm vf L D V ts mem dead _ J q3 q7 hT.sto.isv (hgv.mod z (λk hk=>hgH k hk)) xk Fe) (.inl rfl) λu13 w13 h7 xe=>?_;have hsz13:=z.size;have hp:=hp.mod h7 (λe=>e hy);have hG:=hG.mod h7 (λk hk e=>e (hf k hk));have z:=z.own h7 (λi hi ht=>(ha i hi));obtain⟨ok1,e1,κ1,xv,ya,L1,D1,V1,ts1,mem1,dead1,rfl,hh,J,hF⟩:=xe;have hq:=J.lt;have hg:=z.size;have hj:∀k,G k->κ1 k=0:=λk hk=>(hh k (by have:=Y k (O k hk);omega)).trans (hf k hk);refine Gz (Xly G _ sb bx rbl bm2 n2 vf2 vT2 d2 fs2 T2 (60000*i) (2048*i) _ hG.e Fe Fe) λu14 w14 xa xg=>?_;have hsz14:=z.size;have hp:=hp.mod xa (λe=>xc (I3 _ e.1));have J:=J.mod xa (λk hk e=>hk (hj k (I3 _ e.1)));have z:=z.own xa (λi hi ht=>(O i (I3 _ hi.1)));obtain⟨xw,e2,xq,d3,n3,xp,xz,yg,T3,rfl,hE,_⟩:=xg;refine go ?_;refine dp (QV Ff rfl rfl) ?_;refine FJ 112 (λc6=>?_) λc6=>?_
  ·refine go ?_;exact⟨_,rfl,z,⟨_,rfl⟩,J3.next Y ha O hf hg hE.x.1 (λk hk=>hh k Fe) hq J ((hT.flush hF).mono (B8 _ _) (BS _)) ((hC.flush hT hF Fe Fe Fe).mono Fe) hE Fe Fe⟩
  refine go ?_;exact⟨_,rfl,z,⟨_,rfl⟩,J3.next Y ha O hf hg hE.x.1 (λk hk=>hh k Fe) hq J ((hT.flush hF).mono (B8 _ _) (BS _)) ((hC.flush hT hF Fe Fe Fe).mono Fe) hE Fe Fe⟩
 refine Fk (λc7=>?_) λc7=>?_
 ·refine go ?_;have h5:=z.size;have hz:κ b1=0:=AO λh9=>by have:=Y _ (ha _ h9);omega
  have hw:¬ G b1:=λh9=>by have:=Y _ (O _ h9);omega
  refine cD (Uz κ bs bd bl bo bm vf L D V ts mem dead L.last _ J hT.sto Fe q2 (hgv.mod z (λk hk=>hgH k hk)) xk) (.inl rfl) λu15 w15 h6 xj=>?_;have hsz15:=z.size;have hp:=hp.mod h6 (λe=>e hy);have hG:=hG.mod h6 (λk hk e=>e (hf k hk));have z:=z.own h6 (λi hi ht=>(ha i hi));obtain⟨did1,e1,κ1,xv,ya,L1,D1,V1,ts1,mem1,dead1,rfl,hh,J,hF⟩:=xj;have hq:=J.lt;have hg:=z.size;have hj:∀k,G k->κ1 k=0:=λk hk=>(hh k (by have:=Y k (O k hk);omega)).trans (hf k hk);refine Gz (Xpd G _ sb bx rbl bm2 n2 vf2 vT2 d2 fs2 T2 (60000*i) (2048*i) _ hG.e Fe Fe) λu16 w16 xo xd=>?_;have hsz16:=z.size;have J:=J.mod xo (λk hk e=>hk (hj k (I3 _ e.1)));have z:=z.own xo (λi hi ht=>(O i (I3 _ hi.1)));obtain⟨xw,e2,xq,d3,n3,xp,xz,yg,T3,rfl,hE⟩:=xd;refine go ?_;refine dp (QV Ff rfl rfl) ?_;refine FJ 138 (λc8=>?_) λc8=>?_
  ·refine go ?_;exact⟨_,rfl,z,⟨_,rfl⟩,J3.next Y ha O hf hg hE.x.1 (λk hk=>hh k Fe) hq J ((hT.comp hF).mono (B8 _ _) (BS _)) ((hC.comp hT hF Fe Fe Fe).mono Fe) hE Fe Fe⟩
  refine go ?_;exact⟨_,rfl,z,⟨_,rfl⟩,J3.next Y ha O hf hg hE.x.1 (λk hk=>hh k Fe) hq J ((hT.comp hF).mono (B8 _ _) (BS _)) ((hC.comp hT hF Fe Fe Fe).mono Fe) hE Fe Fe⟩
 refine Fk (λc9=>?_) λc9=>?_
 ·(first|omega|(simp at c9;omega))
 refine Fk (λxh=>?_) λxh=>?_
 ·(first|omega|(simp at xh;omega))
 refine go ?_;exact⟨_,rfl,z,⟨_,rfl⟩,J3.next Y ha O hf z.size (Aa _) (λ_ _=>rfl) J.lt J (hT.mono (B8 _ _) (BS _)) (hC.mono Fe) hG.e Fe Fe⟩
def LW (r:Rw):Rw:=⟨r.key,[],true⟩
def Mq (r:Rw):Nat:=G5 (LW r)
def Ycw {r:Rw}(h:1<=r.key.length/\r.key.length<=4096):I4 [LW r]=0:=by
 have h1:Gl ((LW r).cell 1)=true:=by
  unfold Gl;simp only [Aw,decide_eq_true_eq];exact⟨⟨⟨⟨⟨h.1,h.2⟩,by show 0<=16384;decide⟩,rfl⟩,by show(1:Int)<=1;decide⟩,by show(1:Int)<=1099511627776;decide⟩
 have h2:IX [LW r]=r.key.length:=rfl;unfold I4;rw[if_neg F0,if_pos (by simp [h1]),if_neg (by rw[h2,List.length_singleton];omega)]
def Ycx {r:Rw}{t:List Rw}(h:Mx (r :: t)):MJ (r :: t) [LW r]=t:=by
 obtain⟨h1,_⟩:=List.pairwise_cons.1 h;show Ia (r :: t) ((LW r).cell 1)=t;have e1:(r :: t).filter (λx=>F6 x.key r.key)=[]:=List.filter_eq_nil_iff.2 λx z=>by
  rcases Ah.1 z with rfl|z
  ·rw[IN];simp
  ·rw[KM (h1 x z)];simp
 have e2:(r :: t).filter (λx=>F6 r.key x.key)=t:=by
  rw[List.filter_cons_of_neg (by rw[IN];simp)];exact Bz.2 λx z=>h1 x z
 show(r :: t).filter (λx=>F6 x.key r.key)++([]++(r :: t).filter (λx=>F6 r.key x.key))=t;rw[e1,e2];rfl
def Tq : ∀(M:List Rw) (k:Nat),((M.take k).map Mq).sum<=(M.map G5).sum
 | [],k=>by rw[List.take_nil];exact Ab _
 | r :: t,0=>Ab _
 | r :: t,k+1=>by
  have ih:=Tq t k;have h1:Mq r<=G5 r:=by unfold Mq LW G5;exact Nat.add_le_add_left (Ab _) _
  rw[List.take_succ_cons,Ak,Ak,A4,A4];omega
section
variable {S i:Nat}{L:Led}{V:Vs}{ts:List Tb}{mem:List Cell}{M:List Rw}
def TI.rows (h:TI S i L V ts mem M):(M.map G5).sum<=S/\2*M.length<=S:=by
 have hn:M.Nodup:=h.up.imp λz e=>by rw[e,IN]at z;cases z
 have hs:∀r∈M,r∈(FR mem ts).map λc=>(⟨c.key,c.val,false⟩:Rw):=λr O=>by
  obtain⟨c,J,_,e⟩:=(h.told.2 r).1 O;exact Ao.2 ⟨c,J.1,e.symm⟩
 have h1:=PW G5 _ _ hn hs;have h2:=Xr _ _ hn hs;have h3:=h.len;have h4:=h.wt;rw[Au]at h2;rw[Bq]at h1;exact⟨Ae h1 h4,by omega⟩
def TI.rkey (h:TI S i L V ts mem M){r:Rw}(hr:r∈M):1<=r.key.length/\r.key.length<=4096:=by
 obtain⟨c,z,_,e⟩:=(h.told.2 r).1 hr;have h1:=(h.sto.okc c z.1).1;unfold Gl at h1;simp only [Aw,decide_eq_true_eq]at h1;rw[e];exact⟨h1.1.1.1.1.1,h1.1.1.1.1.2⟩
end
def X39 (l:List Ac)(v:Value)(w:World)(hv:Fu Ac.cs 5 w v l)(hl:l.length<=140737488355328)(hok:∀a∈l,AcOk w a)(hgv:GV w) :
  FX 9 [v] w (B true):=by
 refine cE Tryz.func9 λz=>Gs (X9d l v _ (hv.ext z) hl (λa ha=>(hok a ha).ext z)) λw1 x1=>?_;have z:=z.trans x1;refine Gb (λc1=>?_) λc1=>?_
 ·refine go ?_;exact⟨rfl,z⟩
 have yp:Mw l<=60000:=by simpa using c1
 unfold Mw at yp;refine go ?_;have x3:=z.size;refine cG (X3w 4194304 _ Fo Fo Yej) RX.all λu2 w2 x2 yo=>?_;have hsz2:=z.size;have z:=z.trans x2;obtain⟨κ,pb,bd,bx,bs,bl,bo,bm,sb,rbl,yk,rfl,J,Y,yn,hf,hpge,hE,hG⟩:=yo;have hg:=J3.nothing Y hE hG;refine go ?_;refine dp (GY Ff rfl rfl) ?_;refine FJ 13 (λc2=>?_) λc2=>?_
 ·cases c2
 refine go ?_;refine dp (GY Ff rfl rfl) ?_;refine Fk (λc3=>?_) λc3=>?_
 ·cases c3
 refine g0 ?_;refine GP (G:=(Nat->Nat)×Nat×Value×Led×Dsk×Vs×List Tb×List Cell×Bool×List Rw) (λ(κ,bm,vf,L,D,V,ts,mem,dead,M)=>[(2,.bool false),(3,Fh pb 0)]) (λ(κ,bm,vf,L,D,V,ts,mem,dead,M) w'=>Fq w w'/\Fp w' pb [Fh bd 0,Fh bx 0,Fh bs 0,Fh sb 0] 31/\TI 60000 60 L V ts mem M/\CE 190000 L D ts dead/\(∀k,κ k≠0->w.heap.size<=k)/\κ pb=0/\StE κ bs bd bl bo bm vf L D V ts mem dead w') ?_ ?_
 ·refine F8 (G:=Nat×(Nat->Prop)) (λ(i,H)=>[(0,v),(2,.bool false),(3,Fh pb 0),(4,I ↑i)]) (λ(i,H) w'=>Fq w w'/\Fp w' pb [Fh bd 0,Fh bx 0,Fh bs 0,Fh sb 0] 31/\i<=l.length/\i<=60/\(∀k,H k->w.heap.size<=k)/\¬ H pb/\J3 H bd bs bl bo sb bx rbl ((l.take i).map HE).sum i w') (λ(i,H)=>l.length-i) (0,λk=>κ k≠0\/(k=sb\/k=rbl\/k=yk\/k=bx)) ⟨z,J,Ab _,Ab _,λk hk=>Ae x3 (hk.elim (yn k) (λh=>(hG k h).1)),λhk=>hk.elim (λh=>h hf) (λh=>(hG pb h).2.2 rfl),hg⟩ ?_;rintro _ ⟨i,H⟩ w3 ⟨z,J,hi1,hi2,hHg,hHp,hg⟩;refine FM 34 5 (hv.ext z).sl ?_;refine FJ 24 (λc4=>?_) λc4=>?_
  ·refine Fk (λc5=>?_) λc5=>?_
   ·obtain⟨a,hk⟩:∃a,l[i]?=some a:=F7;have yc:=hok a (Ag hk);have hr:=PC HE hk;have hsle:=Pn HE l (show i+1<=60 by omega);have yu:a.l≠[]->¬ H (base a.v).1:=λxc h9=>by have h8:=hHg _ h9;have h7:=Fu.base_lt yc.v Fo xc;omega
    refine FN 34 5 hv.sl (hv.lt hk) ?_;refine go ?_;refine dl rfl (((hv.ext z).row hk).at rfl) ?_;refine Fk (λc6=>?_) λc6=>?_
    ·refine FN 34 5 hv.sl (hv.lt hk) ?_;refine dq (Fx Ff rfl rfl ((hv.ext z).row hk)) ?_;have xv:=z.size;have x0:=J.lt;refine cD (Yd4 H pb bd bs bl bo sb bx rbl ((l.take i).map HE).sum i a _ hg J hHp (yc.ext z) (λxc=>yu xc) Fe Fe Fe (hgv.ext z) (λk hk h9=>by have h8:=hHg k h9;have h7:=hgv.lt k hk;omega)) (.inl rfl) λu4 w4 x4 yy=>?_;have hsz4:=z.size;have J:=J.mod x4 hHp;have z:=z.own x4 (λi hi=>(hHg i hi));obtain⟨⟨b9,rfl⟩,hg⟩:=yy;have xy:∀k,FV H _ w4 k->w.heap.size<=k:=λk hk=>hk.elim (hHg k) (λe=>Ae xv e.1);have yf:¬ FV H _ w4 pb:=λhk=>hk.elim hHp (λe=>absurd x0 (AR.2 e.1));refine go ?_
     first|exact⟨(i+1,FV H _ _),Hn,⟨z,J,by omega,by omega,xy,yf,by rw[hr];exact hg⟩,by simp only [];omega⟩|exact⟨(i+1,H),Hn,⟨z,J,by omega,by omega,hHg,hHp,hg.up (by rw[hr];exact B8 _ _) (BS _)⟩,by simp only [];omega⟩
    refine go ?_
    first|exact⟨(i+1,FV H _ _),Hn,⟨z,J,by omega,by omega,xy,yf,by rw[hr];exact hg⟩,by simp only [];omega⟩|exact⟨(i+1,H),Hn,⟨z,J,by omega,by omega,hHg,hHp,hg.up (by rw[hr];exact B8 _ _) (BS _)⟩,by simp only [];omega⟩
   refine go ?_;obtain⟨ym,κ,bm,vf,L,D,V,ts,mem,dead,M,G,bm2,n2,vf2,vT2,d2,fs2,T2,Y,O,hC,hw,hG,y2,yz⟩:=hg;have yd:=Pn HE l (show i<=60 by omega);exact⟨(κ,bm,vf,L,D,V,ts,mem,dead,M),L9,z,J,O.mono Fe Fe,hC.mono Fe,λk hk=>hHg k (hw k hk),AO λh9=>hHp (hw _ h9),Y⟩
  refine go ?_;refine GS rfl (go ?_);obtain⟨ym,κ,bm,vf,L,D,V,ts,mem,dead,M,G,bm2,n2,vf2,vT2,d2,fs2,T2,Y,O,hC,hw,hG,y2,yz⟩:=hg;have yd:=Pn HE l (show i<=60 by omega);exact⟨(κ,bm,vf,L,D,V,ts,mem,dead,M),L9,z,J,O.mono Fe Fe,hC.mono Fe,λk hk=>hHg k (hw k hk),AO λh9=>hHp (hw _ h9),Y⟩
 rintro _ ⟨κ,bm,vf,L,D,V,ts,mem,dead,M⟩ w5 ⟨z,J,O,hC,hκ,hf,Y⟩;obtain⟨hMs,hMl⟩:=O.rows;have yr:=(O.wts (Aa _)).1;refine go ?_;obtain⟨q1,q2,q3,q4,q5,q6,q7⟩:=Oy O Fe Fe;have yb:=O.ml;have xa:=Y.lt;refine cG (R7 κ bs bd bl bo bm vf L D V ts mem dead [] [] 0 _ Y O.sto.nod O.sto.okh Fe (λc hc=>(q7 c hc).2.2) Fe Fe) RX.all λvr w6 x6 yi=>?_;have hsz6:=z.size;refine FC x6 J Y z λJ Y z=>?_;obtain⟨Lc,m9,xj,_,xi,xf⟩:=yi;rw[O.scan xj xi]at xf;have hz:M≠[]->κ (base vr).1=0:=λh9=>AO λh8=>by have h7:=xa _ h8;have h6:=(xf.base_ge h9).1;omega
 refine F8 (G:=Nat×(Nat->Nat)×Led×Dsk×List Cell×Bool) (λ(k,κ,L,D,mem,dead)=>[(3,Fh pb 0),(5,vr),(6,I ↑k)]) (λ(k,κ,L,D,mem,dead) w'=>Fq w w'/\Fp w' pb [Fh bd 0,Fh bx 0,Fh bs 0,Fh sb 0] 31/\k<=M.length/\TI (60000+((M.take k).map Mq).sum) (60+k) L V ts mem (M.drop k)/\CE (190000+3*((M.take k).map Mq).sum+42*k) L D ts dead/\(∀k,κ k≠0->w.heap.size<=k)/\κ pb=0/\(M≠[]->κ (base vr).1=0)/\StE κ bs bd bl bo bm vf L D V ts mem dead w'/\Fu Rw.cs 3 w' vr M) (λ(k,κ,L,D,mem,dead)=>M.length-k) (0,κ,L,D,mem,dead) ⟨z,J,Ab _,O,hC,hκ,hf,hz,Y,xf.arr Fg⟩ ?_;rintro _ ⟨k,κ,L,D,mem,dead⟩ w7 ⟨z,J,hk1,O,hC,hκ,hf,hz,Y,hA⟩;refine FM 48 3 hA.sl ?_;refine Fk (λc7=>?_) λc7=>?_
 ·obtain⟨r,hk⟩:∃r,M[k]?=some r:=F7;have hr:=PC Mq hk;have y0:=Tq M (k+1);have xh:M.drop k=r :: M.drop (k+1):=by
   obtain⟨h9,rfl⟩:=List.getElem?_eq_some_iff.1 hk;exact List.drop_eq_getElem_cons h9
  refine go ?_;refine HP (R:=Mod (λk=>κ k≠0)) Ij I0 Ff [3,8] [(0,.p,false),(1,.p,false),(2,.p,false),(3,.l,false),(4,.p,false),(5,.p,false),(6,.p,false),(7,.p,false),(8,.l,false),(9,.p,false),(10,.x,false),(11,.x,false),(12,.p,false)] rfl Ff Ff (λw8 xw=>?_);have x8:=FE xw;clear xw;refine FQ x8 J Y hA z λJ Y hA z=>go ?_;refine dL rfl (λ_ hR=>((J.mod hR (λe=>e hf)).at rfl)) (FN 48 3 hA.sl (hA.lt hk) ?_);refine go ?_;refine dL rfl (λ_ hR=>(((hA.mod hR (λhl e=>e (hz hl))).row hk).at rfl)) (db (zs:=[S [],S [],B false]) (pl:=[(0,1),(1,1),(2,1)]) (pv:=[(0,_),(2,_)]) (cs:=[_,S [],_]) ?_);refine lA 48 rfl (λb1 w9 e1 x9 m1=>?_) (hR:=RX.mod);have g1:=z.ge e1;have a1_hp:=J.lt;have xe:=Y.lt;have a1_hA:=Fu.base_lt hA Fo;refine FQ x9 J Y hA z λJ Y hA z=>?_;have h5:=z.size;have xg:=J.lt;obtain⟨q1,q2,q3,q4,q5,q6,q7⟩:=Oy O Fe Fe;have xt:∀k,k<w.heap.size->κ k=0:=λk hk=>AO λh9=>by have:=hκ k h9;omega
  have y1:M≠[]->(base vr).1<w9.heap.size:=λh9=>Fu.base_lt hA Fo h9;refine Jz rfl Ff (Rr κ bs bd bl bo bm vf L D V ts mem dead [LW r] (.slice (some ⟨b1,0,none⟩) 1 1) _ Y (m1.arr (enc:=Rw.cs) (sz:=3) (l:=[LW r]) rfl Fg rfl F0) F0 (λ_=>AO λh9=>by have h8:b1<_:=xe _ h9;omega) Fe (by have:=O.en;omega) q6) rfl (.inr λ_ h=>h) (λu10 w10 xk ya=>?_);have hsz10:=z.size;have J:=J.mod xk (λe=>e hf);have hA:=hA.mod xk (λhl e=>e (hz hl));have z:=z.own xk (λi hi=>(hκ i hi));obtain⟨e,κ1,L1,D1,mem1,dead1,rfl,hq,hy,hW⟩:=ya;have Y:=hy;have ht:=Pv hκ hq h5;have hj:κ1 pb=0:=(hq _ xg).trans hf;have x7:M≠[]->κ1 (base vr).1=0:=λh9=>(hq _ (y1 h9)).trans (hz h9);obtain⟨yg,xz,_⟩:=hC.write O Fe yr hW Fe;rw[Ycw (O.rkey (by rw[xh];exact Ai))]at yg;subst yg;have hh:=O.write hW;rw[if_pos rfl,xh,Ycx (xh▸O.up)]at hh;have yq:([LW r].map G5).sum=Mq r:=by show Mq r+0=Mq r;rfl
  rw[yq]at hh xz;refine Fk (λc8=>?_) λc8=>?_
  ·exact absurd c8 F0
  refine go ?_;exact FL (k+1,κ1,L1,D1,mem1,dead1) ⟨z,J,by omega,hh.mono Fe Fe,xz.mono Fe,ht,hj,x7,Y,hA⟩
 rw[List.drop_eq_nil_of_le Fe]at O;have y0:=Tq M k;refine F8 (G:=Nat×(Nat->Nat)×Nat×Value×Led×Dsk×Vs×List Tb×List Cell×Bool) (λ(n,κ,bm,vf,L,D,V,ts,mem,dead)=>[(3,Fh pb 0),(7,I ↑n)]) (λ(n,κ,bm,vf,L,D,V,ts,mem,dead) w'=>Fq w w'/\Fp w' pb [Fh bd 0,Fh bx 0,Fh bs 0,Fh sb 0] 31/\n<=10/\TI 120000 40000 L V ts mem []/\(∀k,κ k≠0->w.heap.size<=k)/\κ pb=0/\StE κ bs bd bl bo bm vf L D V ts mem dead w') (λ(n,κ,bm,vf,L,D,V,ts,mem,dead)=>10-n) (0,κ,bm,vf,L,D,V,ts,mem,dead) ⟨z,J,Ab _,O.mono Fe Fe,hκ,hf,Y⟩ ?_;rintro _ ⟨n,κ,bm,vf,L,D,V,ts,mem,dead⟩ w11 ⟨z,J,hn1,O,hκ,hf,Y⟩;refine Fk (λc9=>?_) λc9=>?_
 ·refine go ?_;have h5:=z.size;have xg:=J.lt;obtain⟨q1,q2,q3,q4,q5,q6,q7⟩:=Oy O Fe Fe;have xt:∀k,k<w.heap.size->κ k=0:=λk hk=>AO λh9=>by have:=hκ k h9;omega
  refine cD (Rs κ bs bd bl bo bm vf L D V ts mem dead _ Y q3 q7 O.sto.isv (hgv.ext z) (λk hk=>xt k (hgv.lt k hk)) Fe) (.inl rfl) λu12 w12 xx xo=>?_;have hsz12:=z.size;have J:=J.mod xx (λe=>e hf);have z:=z.own xx (λi hi=>(hκ i hi));obtain⟨ok1,e1,κ1,yl,yv,L1,D1,V1,ts1,mem1,dead1,rfl,hq,hy,hF⟩:=xo;have Y:=hy;have ht:=Pv hκ hq h5;have hj:κ1 pb=0:=(hq _ xg).trans hf;have hh:=O.flush hF;refine go ?_;have xd:=z.size;have xr:=J.lt;obtain⟨q1,q2,q3,q4,q5,q6,q7⟩:=Oy hh Fe Fe;have xn:∀k,k<w.heap.size->κ1 k=0:=λk hk=>AO λh9=>by have:=ht k h9;omega
  refine cD (Uz κ1 bs bd bl bo yl yv L1 D1 V1 ts1 mem1 dead1 L1.last _ Y hh.sto Fe q2 (hgv.ext z) (λk hk=>xn k (hgv.lt k hk))) (.inl rfl) λu13 w13 xu xl=>?_;have hsz13:=z.size;have J:=J.mod xu (λe=>e hj);have z:=z.own xu (λi hi=>(ht i hi));obtain⟨did1,e2,κ2,bm2,vf2,L2,D2,V2,yx,x5,dead2,rfl,xb,hy,yh⟩:=xl;have Y:=hy;have yw:=Pv ht xb xd;have xq:κ2 pb=0:=(xb _ xr).trans hj;refine go ?_;exact FL (n+1,κ2,bm2,vf2,L2,D2,V2,yx,x5,dead2) ⟨z,J,by omega,hh.comp yh,yw,xq,Y⟩
 refine go ?_;obtain⟨q1,q2,q3,q4,q5,q6,q7⟩:=Oy O Fe Fe;have yb:=O.ml;have xa:=Y.lt;refine cG (R7 κ bs bd bl bo bm vf L D V ts mem dead [] [] 0 _ Y O.sto.nod O.sto.okh Fe (λc hc=>(q7 c hc).2.2) Fe Fe) RX.all λv9 w14 yt xm=>?_;have hsz14:=z.size;have z:=z.trans yt;obtain⟨Lc,m9,xj,_,xi,ye⟩:=xm;rw[O.scan xj xi]at ye;refine dv 48 3 (ye.arr Fg).sl ?_;refine FJ 87 (λxp=>?_) λxp=>?_
 ·refine cP (X9s _ (hgv.ext z)) RX.all λw15 yj=>?_;have z:=z.trans yj;refine go ?_;exact⟨rfl,z⟩
 exact absurd xp F0
end Go.Proofs.YtiooodckiddpmaaGreatDoor
