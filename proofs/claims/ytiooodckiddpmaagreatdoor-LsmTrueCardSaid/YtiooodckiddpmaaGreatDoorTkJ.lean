/-
 A part of the proof: TrR CmA EmR BgA OkA KnA LwN GvR LwT.
-/
import Derived.Test.YtiooodckiddpmaaGreatDoorTkA
import Derived.Test.YtiooodckiddpmaaGreatDoorChecked
import Derived.KernelRfl
import Derived.Test.YtiooodckiddpmaaGreatDoorTkI
import Derived.Test.YtiooodckiddpmaaGreatDoorRows
import Derived.Lib.LaidTab
set_option maxRecDepth 100000
set_option maxHeartbeats 4000000
set_option linter.unusedVariables false
set_option linter.unusedSimpArgs false
namespace Go.Proofs.YtiooodckiddpmaaGreatDoor
open Go.Vc Go.Sp
attribute [local irreducible] W XW Dw DwT
theorem X0m (L:Led)(D:Dsk)(p:Str):((L.append D p).2.1≠0∧(L.append D p).2.2.1.last=L.last∧(L.append D p).2.2.1.ents.length≤L.ents.length)∨
  ((L.append D p).2.1=0∧(L.append D p).1=L.last+1∧(L.append D p).2.2.1.last=L.last+1∧(L.append D p).2.2.1.ents.length=L.ents.length+1∧L.last<1099511627776):=by
 cases hd:L.dead with
 | true=>rw[Xqg hd];exact .inl ⟨(by decide:(9:Int)≠0),rfl,Nat.le_refl _⟩
 | false=>
  by_cases h2:65536<p.length∨1099511627776≤L.last
  ·rw[Xk2 hd h2];exact .inl ⟨(by decide:(5:Int)≠0),rfl,Nat.le_refl _⟩
  ·by_cases h3:(appR L D p).1≠0
   ·rw[Xu4 hd h2 h3];exact .inl ⟨h3,rfl,Nat.le_refl _⟩
   ·rw[Xk3 hd h2 h3]
    exact .inr ⟨rfl,rfl,by unfold Led.last;simp;omega,by simp,by omega⟩
def cW (c:Cell):Nat:=1+c.key.length+c.val.length
theorem Xxr {g:Cell->Nat}(out:List Cell)(c:Cell):wsum g (insK out c)≤wsum g out+g c:=by
 unfold insK
 split
 ·omega
 ·have h:=List.takeWhile_append_dropWhile (p:=λx:Cell=>sLt x.key c.key) (l:=out)
  have h2:wsum g out=wsum g (out.takeWhile λx=>sLt x.key c.key)+wsum g (out.dropWhile λx=>sLt x.key c.key):=by
   rw[←Xco,h]
  rw[Xco]
  have h3:wsum g (c :: out.dropWhile λx=>sLt x.key c.key)=g c+wsum g (out.dropWhile λx=>sLt x.key c.key):=by unfold wsum;rw[List.map_cons,List.sum_cons]
  omega
theorem Xjl (s:Int):∀l:List Rw,wsum cW (Xam l s)≤(l.map rowW).sum
 | []=>Nat.zero_le _
 | r :: l=>by
  have h1:=Xjl s l
  have h2:=Xxr (g:=cW) (Xam l s) (r.cell s)
  have h3:cW (r.cell s)=rowW r:=rfl
  have h4:Xam (r :: l) s=insK (Xam l s) (r.cell s):=rfl
  rw[h4,List.map_cons,List.sum_cons];omega
theorem Xlv : ∀l:List Rw,l.length≤(l.map rowW).sum
 | []=>Nat.zero_le _
 | r :: l=>by
  have h1:=Xlv l
  have h2:1≤rowW r:=by unfold rowW;omega
  rw[List.map_cons,List.sum_cons,List.length_cons];omega
structure TI (S i:Nat)(L:Led)(V:Vs)(ts:List Tb)(mem:List Cell)(M:List Rw):Prop where
 sto:Sto L.last V ts mem
 told:Sp.Told (allC mem ts) M
 l0:0≤L.last∧L.last≤i
 en:L.ents.length≤i
 wt:wsum cW (allC mem ts)≤S
 ml:M.length≤S
section
variable {S i:Nat}{L L':Led}{D D':Dsk}{V V':Vs}{ts ts':List Tb}{mem mem':List Cell}{M:List Rw}{dead dead' ok:Bool}{e:Int}
theorem TI.nil : TI 0 0 led0 ⟨1,[]⟩ [] [] []:=by
 refine⟨⟨by decide,λf hf=>(by cases hf),λt ht=>(by cases ht),List.nodup_nil,λt ht=>(by cases ht),λc hc=>(by cases hc),List.Pairwise.nil,λc hc=>(by cases hc),λt ht=>(by cases ht)⟩,⟨List.Pairwise.nil,λr=>⟨λh=>(by cases h),λ⟨c,hc,_⟩=>(by cases hc.1)⟩⟩,by decide,by decide,by decide,by decide⟩
theorem TI.mono {S' i':Nat}(h:TI S i L V ts mem M)(hS:S≤S')(hi:i≤i'):TI S' i' L V ts mem M:=
 ⟨h.sto,h.told,⟨h.l0.1,by have:=h.l0.2;omega⟩,Nat.le_trans h.en hi,Nat.le_trans h.wt hS,Nat.le_trans h.ml hS⟩
theorem TI.len (h:TI S i L V ts mem M):2*(allC mem ts).length≤S:=by
 refine Nat.le_trans ?_ h.wt
 have:∀l:List Cell,(∀c∈l,isC c=true)->2*l.length≤wsum cW l:=by
  intro l hl
  induction l with
  | nil=>exact Nat.zero_le _
  | cons c r ih=>
   have h1:=ih (λx hx=>hl x (List.mem_cons_of_mem _ hx))
   have h2:=hl c List.mem_cons_self
   unfold isC at h2
   simp only [Bool.and_eq_true,decide_eq_true_eq]at h2
   unfold wsum at *
   rw[List.map_cons,List.sum_cons,List.length_cons]
   have h3:cW c=1+c.key.length+c.val.length:=rfl
   omega
 exact this _ (λc hc=>(h.sto.okc c hc).1)
theorem TI.up (h:TI S i L V ts mem M):RUp M:=h.told.1
theorem TI.write {l:List Rw}(h:TI S i L V ts mem M)(hw:WrP L D mem dead l e L' D' mem' dead'):TI (S+(l.map rowW).sum) (i+1) L' V ts mem' (if e=0 then layN M l else M):=by
 have h0:=h.mono (Nat.le_add_right S (l.map rowW).sum) (Nat.le_succ i)
 rcases hw with⟨_,rfl,rfl,_,rfl,_⟩|⟨_,h1,rfl,rfl,_,rfl,_⟩|⟨_,hc,rfl,_,hr⟩
 ·exact h0
 ·rw[if_neg h1];exact h0
 ·rcases X0m L D (batS l)with⟨a1,a2,a3⟩|⟨a1,a2,a3,a4,a5⟩
  ·rcases hr with⟨b1,rfl,rfl,_⟩|⟨b1,_⟩
   ·rw[if_neg b1]
    exact⟨by rw[a2];exact h0.sto,h0.told,by rw[a2];exact h0.l0,Nat.le_trans a3 h0.en,h0.wt,h0.ml⟩
   ·exact absurd b1 a1
  ·rcases hr with⟨b1,_⟩|⟨_,rfl,rfl,_⟩
   ·exact absurd a1 b1
   ·obtain⟨s1,s2⟩:=h.sto.write h.told hc ⟨h.l0.1,a5⟩
    rw[if_pos rfl,a2]
    have hl1:=h.l0
    have hen:=h.en
    have hwt:=h.wt
    have hml:=h.ml
    have hcw:=Xjl (L.last+1) l
    refine⟨by rw[a3];exact s1,s2,by rw[a3];omega,by omega,?_,?_⟩
    ·have hpw:=Xnp (g:=cW) (Xam l (L.last+1)) mem
     unfold allC at *
     rw[Xco]at *;omega
    ·have h5:=Xlu (Xam l 1) h.up
     have h6:=Xd6 l 1
     have h7:=Xlv l
     have h8:layN M l=layR M (Xam l 1):=rfl
     rw[h8];omega
theorem TI.flush (h:TI S i L V ts mem M)(hf:FluP L D V ts mem dead ok e L' D' V' ts' mem' dead'):TI S i L' V' ts' mem' M:=by
 rcases hf with⟨_,_,_,rfl,_,rfl,rfl,rfl,_⟩|⟨_,_,_,_,rfl,_,rfl,rfl,rfl,_⟩|⟨hd,_,m,hm,hc,h2⟩
 ·exact h
 ·exact h
 ·obtain⟨⟨h3,h4⟩,h5⟩:=Xje hc
  rcases h5 with⟨h5,rfl,rfl⟩|⟨rfl,_,hs⟩
  ·rcases h2 with⟨_,_,rfl⟩|⟨h6,_⟩
   ·exact⟨by rw[h3];exact h.sto,h.told,by rw[h3];exact h.l0,Nat.le_trans h4 h.en,h.wt,h.ml⟩
   ·exact absurd h6 h5
  ·rcases h2 with⟨h6,_⟩|⟨_,_,rfl⟩
   ·exact absurd rfl h6
   ·obtain⟨k1,k2,k3⟩:=hs.flush h.sto hm h.told
    exact⟨by rw[h3];exact k1,k2,by rw[h3];exact h.l0,Nat.le_trans h4 h.en,Nat.le_trans (Xsj hm k3) h.wt,h.ml⟩
theorem TI.comp {did:Bool}(h:TI S i L V ts mem M)(hf:CmpP L D V ts mem dead did e L' D' V' ts' mem' dead'):TI S i L' V' ts' mem' M:=by
 rcases hf with⟨_,_,_,rfl,_,rfl,rfl,rfl,_⟩|⟨_,_,_,_,rfl,_,rfl,rfl,rfl,_⟩|⟨_,_,ok,e1,L1,D1,V1,ts1,mem1,dead1,hF,hr⟩
 ·exact h
 ·exact h
 ·have h1:=h.flush hF
  rcases hr with⟨_,_,_,rfl,_,rfl,rfl,rfl,_⟩|⟨rfl,p,lv,m,e2,D2,dead2,_,hP,hm,hc,rfl,_⟩
  ·exact h1
  ·obtain⟨_,rfl,_⟩:=Xxh h.sto hF
   obtain⟨⟨h3,h4⟩,h5⟩:=Xje hc
   rcases h5 with⟨_,rfl,rfl⟩|⟨_,_,hs⟩
   ·exact⟨by rw[h3];exact h1.sto,h1.told,by rw[h3];exact h1.l0,Nat.le_trans h4 h1.en,h1.wt,h1.ml⟩
   ·obtain⟨k1,k2,k3⟩:=hs.merge h1.sto hP hm h1.told
    exact⟨by rw[h3];exact k1,k2,by rw[h3];exact h1.l0,Nat.le_trans h4 h1.en,Nat.le_trans (Xsk hm hP.nod k3) h1.wt,h1.ml⟩
theorem TI.scan {l m:List Cell}(h:TI S i L V ts mem M)(hl:∀c,c∈l↔c∈scan (allC mem ts) [] [])(hm:Mg l m):Xnq 0 (Xbw m)=M:=by
 rw[Xlf]at hl
 have e:Xnq 0 (Xbw m)=Xbw m:=by unfold Xnq;rw[if_pos dc9]
 rw[e]
 have hq:Uniq l:=λc hc d hd=>h.sto.uniq c ((hl c).1 hc) d ((hl d).1 hd)
 exact X5m (X5n hq hm) (Xib h.told (λc hc=>(hl c).1 hc) (λc hc=>.inl ((hl c).2 hc.1)))
end
theorem X0n {v:Value}{n m:Nat}(h:isSl v n)(h2:isSl v m):n=m:=by
 rcases h with⟨rfl,rfl⟩|⟨b,o,c,rfl,_⟩|⟨rfl,a,c,rfl⟩
 ·rcases h2 with⟨_,rfl⟩|⟨_,_,_,e,_⟩|⟨rfl,_⟩
  ·rfl
  ·cases e
  ·rfl
 ·rcases h2 with⟨e,_⟩|⟨_,_,_,e,_⟩|⟨rfl,_,_,e⟩
  ·cases e
  ·injection e
  ·injection e
 ·rcases h2 with⟨e,_⟩|⟨_,_,_,e,_⟩|⟨rfl,_⟩
  ·cases e
  ·injection e
  ·rfl
theorem Xxs (κ:Nat->Nat)(bs bd bl bo bm:Nat)(vf:Value)(L:Led)(D:Dsk)(V:Vs)(ts:List Tb)(mem:List Cell)(dead:Bool)(n:Int)(w:World)(h:StE κ bs bd bl bo bm vf L D V ts mem dead w)(hSt:Sto n V ts mem)(hn:n≤1099511627776)(hal:(allC mem ts).length≤30000)(hgv:GV w)(hgvs:∀k,gvS k->κ k=0) :
  Calls Tryz.prog 16 [ptr bs 0].toArray w (Does (λk=>κ k≠0) w (λu w'=>∃did e κ' bm' vf' L' D' V' ts' mem' dead',u=.tuple #[B did,I e]∧(∀k,k<w.heap.size->κ' k=κ k)∧StE κ' bs bd bl bo bm' vf' L' D' V' ts' mem' dead' w'∧CmpP L D V ts mem dead did e L' D' V' ts' mem' dead')):=by
 refine cw Tryz.func16 ?_
 have hx:=Vc.Mod.refl (λk=>κ k≠0) w
 have hS:=h
 have hκ0:∀k,w.heap.size≤k->κ k=0:=λk hk=>Decidable.byContradiction λh9=>by have:=h.lt k h9;omega
 have hV:=hSt.isv
 obtain⟨_,_,hvl,_⟩:=Xb5 hV
 have hvl2:V.fs.length≤1024:=hvl
 have hml:mem.length≤30000:=by unfold allC at hal;rw[List.length_append]at hal;omega
 have hmc:=λc (hc:c∈mem)=>hSt.cellsB hn c (Xat.2 (.inl hc))
 have htl:=hSt.tlen
 refine ws λ_ Z1=>wr (Xbf rfl rfl rfl RX.all (λb1 w1 e1 x1 m1=>?_))
 have g1:=hx.ge e1
 have a1_hS:=hS.lt
 replace hS:=hS.ext x1
 replace hx:=hx.ext x1
 refine da (da (de Z1 (ws λ_ Z2=>ws λ_ Z3=>wr ?_)))
 refine dl rfl (m1.at rfl) (cP (Xoq bs bd bl V.next vf bo bm dead _ hS.m) RX.all λw2 x2=>?_)
 replace hS:=hS.ext x2
 replace m1:=m1.ext x2
 replace hx:=hx.ext x2
 refine da (de Z3 (ws λ_ Z4=>wr (dm ?_)))
 refine dp (Xav rfl rfl) (de Z4 (wi (λc1=>?_) λc1=>?_))
 ·refine ws λ_ Z5=>wr (dm (da (da (de Z5 (Xae ?_)))))
  refine rt ?_
  have hd1:dead=true:=by cases dead with|true=>rfl|false=>exact absurd rfl c1
  subst hd1
  exact⟨_,rfl,hx,false,9,κ,bm,vf,L,D,V,ts,mem,true,rfl,λ_ _=>rfl,hS,.inl ⟨rfl,rfl,rfl,rfl,rfl,rfl,rfl,rfl,rfl⟩⟩
 have hd0:dead=false:=by cases dead with|false=>rfl|true=>exact absurd dc9 c1
 subst hd0
 refine Xaa (Z2 _ _ (ws λ_ Z6=>ws λ_ Z7=>wr (dl rfl (m1.at rfl) (dz rfl (df 2 rfl (dq (Xac kr9 rfl rfl (hS.m.part 2 2)) (cG (X2t V.next V.fs vf _ hS.vs om9 hV) RX.all λu3 w3 x3 hf3=>?_)))))))
 have hsz3:=hx.size
 replace hS:=hS.ext x3
 replace m1:=m1.ext x3
 replace hx:=hx.ext x3
 obtain⟨vp0,rfl,_⟩:=hf3
 refine dm ?_
 refine dx rfl rfl (dx rfl rfl (da (da (de Z7 (ws λ_ Z8=>wr (dm ?_))))))
 refine dn (de Z8 ?_)
 refine wc (λc2=>?_) λc2=>?_
 ·refine ws λ_ Z9=>wr (da (da (de Z9 (Xae ?_))))
  refine rt ?_
  exact⟨_,rfl,hx,false,0,κ,bm,vf,L,D,V,ts,mem,false,rfl,λ_ _=>rfl,hS,.inr (.inl ⟨rfl,by simpa using c2,rfl,rfl,rfl,rfl,rfl,rfl,rfl,rfl⟩)⟩
 have hdue:(Xel V.fs).isSome=true:=by simpa using c2
 refine Xaa (Z6 _ _ (ws λ_ Z10=>ws λ_ Z11=>wr (dl rfl (m1.at rfl) ?_)))
 have hszc:=hx.size
 have hm1l:=m1.lt
 refine cD (Xlq κ bs bd bl bo bm vf L D V ts mem false _ hS hml hmc hV (hgv.mod hx (λk hk e=>e (hgvs k hk))) hgvs om9) (.inl rfl) λu4 w4 x4 hf4=>?_
 have hsz4:=hx.size
 replace m1:=m1.mod x4 (λe=>e (hκ0 b1 om9))
 replace hx:=hx.own x4 (λi hi hlt=>hi)
 obtain⟨ok,e1,κ1,bm,vf,L1,D1,V,ts1,mem1,dead,rfl,hmv,hS9,hFl⟩:=hf4
 have hS:=hS9
 have hmv1:∀k,k<w.heap.size->κ1 k=κ k:=λk hk=>hmv k (Nat.lt_of_lt_of_le hk hszc)
 have hb1z:κ1 b1=0:=(hmv b1 hm1l).trans (hκ0 b1 om9)
 obtain⟨N0,hN0⟩:∃z,z=w4.heap.size:=⟨_,rfl⟩
 have hlt1:=hS.lt
 rw[←hN0]at hlt1
 have hszN:w.heap.size≤N0:=by rw[hN0];exact hx.size
 have hSz:Sz N0 w4:=⟨Nat.le_of_eq hN0⟩
 have hb1N:b1<N0:=by rw[hN0];exact m1.lt
 have hk1z:∀k,N0≤k->κ1 k=0:=λk hk=>Decidable.byContradiction λh9=>by have:=hlt1 k h9;omega
 refine dm ?_
 refine dx rfl rfl (dx rfl rfl (da (da (de Z11 (ws λ_ Z12=>wr (dm ?_))))))
 refine dp (Xav rfl rfl) (de Z12 (wi (λc3=>?_) λc3=>?_))
 ·refine ws λ_ Z13=>wr (dm (da (da (de Z13 (Xae ?_)))))
  refine rt ?_
  exact⟨_,rfl,hx,false,e1,κ1,bm,vf,L1,D1,V,ts1,mem1,dead,rfl,hmv1,hS,.inr (.inr ⟨rfl,hdue,ok,e1,L1,D1,V,ts1,mem1,dead,hFl,.inl ⟨c3,rfl,rfl,rfl,rfl,rfl,rfl,rfl,rfl⟩⟩)⟩
 have he1:e1=0:=Decidable.of_not_not c3
 subst he1
 obtain⟨hd1,rfl,hS1,hsub,hln,hpk,_⟩:=Xxh hSt hFl
 obtain⟨p,hp⟩:=Option.isSome_iff_exists.1 (hpk hdue)
 obtain⟨lv,hP⟩:=X81 hS1.isv hp
 obtain⟨f0,hp0,hf0⟩:=hP.hd
 have hlo:=hP.lo
 have mp9:=hS.mp.at
 obtain⟨_,_,hvl1,hvo1,_⟩:=Xb5 hS1.isv
 have hvl3:V.fs.length≤1024:=hvl1
 have hpl:=hP.len
 have htl1:=hS1.tlen
 have hlv1:∀f∈V.fs,0≤f.lev∧f.lev≤4:=λf hf=>by have:=Xc5 (hvo1 f hf);exact⟨this.2.2.1,this.2.2.2.1⟩
 refine Xaa (Z10 _ _ (ws λ_ Z14=>wr (dl rfl (m1.at rfl) (dz rfl (df 2 rfl (dq (Xac kr9 rfl rfl (hS.m.part 2 2)) ?_))))))
 have hNb:=hSz.le
 refine cG (X2t V.next V.fs vf _ hS.vs om9 hS1.isv) RX.all λu5 w5 x5 hf5=>?_
 have hsz5:=hx.size
 replace m1:=m1.ext x5
 replace hS:=hS.ext x5
 replace mp9:=mp9.ext x5
 replace hSz:=hSz.ext x5
 replace hx:=hx.ext x5
 obtain⟨vp,rfl,hoP0⟩:=hf5
 have hoP:Vc.Own Fi.cs 5 62 N0 w5 vp p:=by rw[hp]at hoP0;exact hoP0.mono hNb
 refine dm ?_
 refine dx rfl rfl (dx rfl rfl (da (da (de Z14 (ws λ_ Z15=>wr (dm ?_))))))
 refine di 62 5 (hoP.arr ir9).sl rfl ((hoP.arr ir9).lt hp0) (df 1 rfl (dl rfl (((hoP.arr ir9).row hp0).at rfl) (Xa3 (v:=I ↑lv) rfl (Xa8 rfl rfl (by unfold Xai;omega)) (by show I _=I _;rw[←hf0]) (Xan (cs:=[.int .i64 0]) rfl kr9 RX.all (λb2 w6 e2 x6 m2=>?_)))))
 have g2:=hx.ge e2
 have n2_1:=m1.ltb e2
 have n2_mp9:=mp9.lt
 have a2_hS:=hS.lt
 have a2_hSz:=hSz.le
 have o2_hoP:=hoP.ltb e2
 replace m1:=m1.ext x6
 replace hS:=hS.ext x6
 replace mp9:=mp9.ext x6
 replace hSz:=hSz.ext x6
 replace hoP:=hoP.ext x6
 replace hx:=hx.ext x6
 refine st1 m2 (λw7 x7 xs7 m2=>?_) (hv:=by first|rfl|exact isSl.one m1.sl|exact isSl.one hS.sl|exact isSl.one mp9.sl|exact isSl.one hSz.sl|exact isSl.one hoP.sl|exact isSl.one (hoP.arr ir9).sl)
 try dsimp only [Xal,List.set,List.take,List.drop]at m2
 try replace m1:=m1.mo x7
 replace hS:=hS.mod x7 (λk9 h9 e9=>by have h2:k9=b2:=e9;first|(have h8:=hlt1 k9 h9;have h7:=hSz.le;omega)|(have h8:=h.lt k9 h9;omega))
 replace mp9:=mp9.mod x7 (by intro h;have h2:_=b2:=h;omega)
 replace hSz:=hSz.mod x7 trivial
 try replace hoP:=hoP.mod x7 (by first|assumption|(intro k hk h;have h1:=(hoP.lt k hk).1;have h2:k=b2:=h;omega)|(intro k hk h;have h1:=o2_hoP k hk;have h2:k=b2:=h;omega)|(intro h;have h2:_=b2:=h;omega)|(intro hl h;have h1:=a2_hoP hl;have h2:_=b2:=h;omega))
 replace hx:=hx.o1 x7
 refine de Z15 (ws λ_ Z16=>wr (da (de Z16 (ws λ_ Z17=>wr (da (de Z17 (ws λ_ Z18=>ws λ_ Z19=>wr (dm ?_))))))))
 refine dv 62 5 (hoP.arr ir9).sl (dm (de Z19 (Xab ?_)))
 refine Xaj (G:=Nat×List (Value×List Cell)×Value×Value) (λ(k,qs,vr,vn)=>[(1,ptr b1 0),(2,.bool false),(3,I 0),(9,vp),(11,ptr b2 0),(12,vr),(13,vn),(55,vp),(56,I ↑p.length),(57,I ↑k)]) (λ(k,qs,vr,vn) w'=>Mod (λk=>κ k≠0) w w'∧Blk w' b1 [ptr bs 0] 28∧StE κ1 bs bd bl bo bm vf L1 D1 V ts1 [] dead w'∧Vc.Xbj Tryz.prog 104 kvII pO w' bo (ts1.map Tb.kv).length (lk (ts1.map Tb.kv))∧Sz N0 w'∧Vc.Own Fi.cs 5 62 N0 w' vp p∧Blk w' b2 [I ↑lv] 3∧k≤p.length∧qs.map (·.2)=(p.take k).map (cOf ts1)∧Vc.Own encQ 1 95 N0 w' vr qs∧QsE N0 qs w'∧Vc.Own sEnc 1 9 N0 w' vn ((p.take k).map λf=>Xcl f.id)) (λ(k,qs,vr,vn)=>p.length-k) (0,[],.slice none 0 0,.slice none 0 0) ?_ ?_ ?_
 ·exact zz10
 ·exact⟨hx,m1,hS,mp9,hSz,hoP,m2,Nat.zero_le _,rfl,Vc.Own.nil,⟨λq hq=>(by cases hq)⟩,Vc.Own.nil⟩
 intro X8 g8 w8 hF8
 obtain⟨k,qs,vr,vn⟩:=g8
 clear hx m1 hS mp9 hSz hoP m2
 obtain⟨hx,m1,hS,mp9,hSz,hoP,m2,hk1,hqs,hoQ,hQ,hoN⟩:=hF8
 refine ws λ_ Z20=>wr (dp (Xaf rfl rfl) (de Z20 (ws λ_ Z21=>wi (λc4=>?_) λc4=>?_)))
 ·obtain⟨f,hk⟩:∃f,p[k]?=some f:=gtE
  have hfp:=hP.sub f (List.mem_of_getElem? hk)
  obtain⟨t,htm,hTV⟩:=hS1.fwd f hfp.1
  have ht:Xb8 ts1 (f.lev,f.id)=some t:=by rw[←hTV.h];exact Xfo hS1.nod htm
  have hff:=Xf9 hS1.isv f hfp.1
  have hql:=congrArg List.length hqs
  rw[List.length_map,List.length_map,List.length_take]at hql
  refine Xaa (Z21 _ _ (ws λ_ Z22=>Xab (ws λ_ Z23=>wr (di 62 5 (hoP.arr ir9).sl rfl ((hoP.arr ir9).lt hk) (dq (Xac kr9 rfl rfl ((hoP.arr ir9).row hk)) (Xan (cs:=[.int .i64 0,.int .i64 0,.int .i64 0,S [],S []]) rfl kr9 RX.all (λb3 w9 e3 x9 m3=>?_)))))))
  have g3:=hx.ge e3
  have n3_1:=m1.ltb e3
  have n3_2:=m2.ltb e3
  have n3_mp9:=mp9.lt
  have a3_hS:=hS.lt
  have a3_hSz:=hSz.le
  have o3_hoP:=hoP.ltb e3
  have o3_hoQ:=hoQ.ltb e3
  have a3_hQ:=hQ.lt
  have o3_hoN:=hoN.ltb e3
  replace m1:=m1.ext x9
  replace hS:=hS.ext x9
  replace mp9:=mp9.ext x9
  replace hSz:=hSz.ext x9
  replace hoP:=hoP.ext x9
  replace m2:=m2.ext x9
  replace hoQ:=hoQ.ext x9
  replace hQ:=hQ.ext x9
  replace hoN:=hoN.ext x9
  replace hx:=hx.ext x9
  refine stA m3 (λw10 x10 xs10 m3=>?_)
  try dsimp only [Xal,List.set,List.take,List.drop]at m3
  try replace m1:=m1.mo x10
  replace hS:=hS.mod x10 (λk9 h9 e9=>by have h2:k9=b3:=e9;first|(have h8:=hlt1 k9 h9;have h7:=hSz.le;omega)|(have h8:=h.lt k9 h9;omega))
  replace mp9:=mp9.mod x10 (by intro h;have h2:_=b3:=h;omega)
  replace hSz:=hSz.mod x10 trivial
  try replace hoP:=hoP.mod x10 (by first|assumption|(intro k hk h;have h1:=(hoP.lt k hk).1;have h2:k=b3:=h;omega)|(intro k hk h;have h1:=o3_hoP k hk;have h2:k=b3:=h;omega)|(intro h;have h2:_=b3:=h;omega)|(intro hl h;have h1:=a3_hoP hl;have h2:_=b3:=h;omega))
  try replace m2:=m2.mo x10
  try replace hoQ:=hoQ.mod x10 (by first|assumption|(intro k hk h;have h1:=(hoQ.lt k hk).1;have h2:k=b3:=h;omega)|(intro k hk h;have h1:=o3_hoQ k hk;have h2:k=b3:=h;omega)|(intro h;have h2:_=b3:=h;omega)|(intro hl h;have h1:=a3_hoQ hl;have h2:_=b3:=h;omega))
  replace hQ:=hQ.mod x10 (λq hq k hk e9=>by have h2:k=b3:=e9;have h8:=a3_hQ q hq k hk;omega)
  try replace hoN:=hoN.mod x10 (by first|assumption|(intro k hk h;have h1:=(hoN.lt k hk).1;have h2:k=b3:=h;omega)|(intro k hk h;have h1:=o3_hoN k hk;have h2:k=b3:=h;omega)|(intro h;have h2:_=b3:=h;omega)|(intro hl h;have h1:=a3_hoN hl;have h2:_=b3:=h;omega))
  replace hx:=hx.o1 x10
  refine de Z23 (ws λ_ Z24=>Xaq (R:=Mod (λk=>vr.ownBlock=some k)) Xc7 Xcy kr9 [1,4,6,8,10] [(0,.p,false),(1,.l,false),(2,.p,false),(3,.p,false),(4,.l,false),(5,.p,false),(6,.l,false),(7,.p,false),(8,.l,false),(9,.p,false),(10,.l,false),(11,.x,false),(12,.x,false),(13,.x,false),(14,.p,false)] rfl kr9 kr9 (λw11 ew11=>?_))
  have x11:=drewx ew11
  clear ew11
  replace m1:=m1.ext x11
  replace hS:=hS.ext x11
  replace mp9:=mp9.ext x11
  replace hSz:=hSz.ext x11
  replace hoP:=hoP.ext x11
  replace m2:=m2.ext x11
  replace hoQ:=hoQ.ext x11
  replace hQ:=hQ.ext x11
  replace hoN:=hoN.ext x11
  replace m3:=m3.ext x11
  replace hx:=hx.ext x11
  refine dm ?_
  refine dL rfl (λ_ hR=>((m1.mod hR (λe=>by have h8:=(hoQ.lt _ e).1;omega)).at rfl)) (dz rfl (df 4 rfl (dL rfl (λ_ hR=>((hS.m.mod hR (λe=>by have h8:=(hoQ.lt _ e).1;have h7:=hlt1 bs (by rw[hS.k0];decide);omega)).at rfl)) (df 1 rfl (dL rfl (λ_ hR=>((m3.mod hR (λe=>hoQ.ne_blk m3 rfl e)).at rfl)) (df 0 rfl (dL rfl (λ_ hR=>((m3.mod hR (λe=>hoQ.ne_blk m3 rfl e)).at rfl)) (db (zs:=[.int .i64 0,.int .i64 0]) (pl:=[(0,1),(1,1)]) (pv:=[(0,_),(1,_)]) (cs:=[_,_]) ?_))))))))
  refine D_l (v:=ptr t.bt 0) rfl (λw' hR=>LV.to (Xef Xsc (kx:=(f.lev,f.id)) (z0:=none) rfl rfl kr9 (mp9.mod hR (mp9.ne_own hoQ)) ⟨hff.2,hff.1⟩) (by rw[Xm6];exact Xv5 ht)) ?_
  have hNb:=hSz.le
  refine cG (Xvj t.bt t.vl t.vb t.cs [] [] _ (hS.tb t htm)) RX.mod λvt w12 x12 hoT0=>?_
  have hsz12:=hx.size
  replace m1:=m1.ext x12
  replace hS:=hS.ext x12
  replace mp9:=mp9.ext x12
  replace hSz:=hSz.ext x12
  replace hoP:=hoP.ext x12
  replace m2:=m2.ext x12
  replace hoQ:=hoQ.ext x12
  replace hQ:=hQ.ext x12
  replace hoN:=hoN.ext x12
  replace m3:=m3.ext x12
  replace hx:=hx.ext x12
  rw[Xlf]at hoT0
  have hoT:=hoT0.mono hNb
  refine Xds (e:=95) (sz:=1) (zs:=[.slice none 0 0]) (pv:=[(0,?a37_0)]) (cs:=[?a37_0]) rfl kr9 ⟨rfl,rfl⟩ kr9 rfl ?h37 ?f37 RX.mod (λb4 w13 e4 x13 m4=>?k37)
  case h37=>refine⟨rfl,?_,trivial⟩<;>(conv=>lhs;whnf)
  case f37=>simp [Xck,Xal,List.replicate,hoT.sl.cells]
  have g4:=hx.ge e4
  have n4_1:=m1.ltb e4
  have n4_2:=m2.ltb e4
  have n4_3:=m3.ltb e4
  have n4_mp9:=mp9.lt
  have a4_hS:=hS.lt
  have a4_hSz:=hSz.le
  have o4_hoP:=hoP.ltb e4
  have o4_hoQ:=hoQ.ltb e4
  have a4_hQ:=hQ.lt
  have o4_hoN:=hoN.ltb e4
  replace m1:=m1.ext x13
  replace hS:=hS.ext x13
  replace mp9:=mp9.ext x13
  replace hSz:=hSz.ext x13
  replace hoP:=hoP.ext x13
  replace m2:=m2.ext x13
  replace hoQ:=hoQ.ext x13
  replace hQ:=hQ.ext x13
  replace hoN:=hoN.ext x13
  replace m3:=m3.ext x13
  replace hoT:=hoT.ext x13
  replace hx:=hx.ext x13
  refine Xar (lx:=[(vt,t.cs)]) (e:=95) (sz:=1) (by':=24) rfl kr9 kr9 ir9 hoQ (m4.arr (enc:=encQ) (sz:=1) (l:=[(vt,t.cs)]) rfl ir9 rfl (Nat.le_of_ble_eq_true rfl)) rfl rfl (by intro x hx9 u hu;rw[List.mem_singleton.1 hx9]at hu;simp at hu;rw[hu];exact hoT.sl.one) (by simp;omega) dc9 hSz.le (.inr λ_ h=>h) (λvq w14 hoQ_n x14=>?_)
  try replace m1:=m1.mod x14 (by first|(intro h;have h2:b1=b1:=Option.some.inj h;omega)|(intro h;have h1:=(hoQ.lt _ h).1;omega)|(intro h;have h1:=o1_hoQ _ h;omega)|(intro h;exact hoQ.ne_blk m1 rfl h))
  try replace hS:=hS.mod x14 (by first|exact(λk hk e=>absurd (hlt1 k hk) (Nat.not_lt.2 (hoQ.lt k e).1))|exact hQ.ne hoQ rfl|exact(λk hk=>hoN.ne hoQ rfl hk)|exact(λk hk=>hoP.ne hoQ rfl hk)|exact(λk hk=>hoT.ne hoQ rfl hk)|exact(λk hk=>hoQ.ne hoQ rfl hk)|trivial)
  replace mp9:=mp9.mod x14 (mp9.ne_own hoQ)
  try replace hSz:=hSz.mod x14 (by first|exact(λk hk e=>absurd (hlt1 k hk) (Nat.not_lt.2 (hoQ.lt k e).1))|exact hQ.ne hoQ rfl|exact(λk hk=>hoN.ne hoQ rfl hk)|exact(λk hk=>hoP.ne hoQ rfl hk)|exact(λk hk=>hoT.ne hoQ rfl hk)|exact(λk hk=>hoQ.ne hoQ rfl hk)|trivial)
  try replace hoP:=hoP.mod x14 (by first|exact(λk hk e=>absurd (hlt1 k hk) (Nat.not_lt.2 (hoQ.lt k e).1))|exact hQ.ne hoQ rfl|exact(λk hk=>hoN.ne hoQ rfl hk)|exact(λk hk=>hoP.ne hoQ rfl hk)|exact(λk hk=>hoT.ne hoQ rfl hk)|exact(λk hk=>hoQ.ne hoQ rfl hk)|trivial)
  try replace m2:=m2.mod x14 (by first|(intro h;have h2:b2=b2:=Option.some.inj h;omega)|(intro h;have h1:=(hoQ.lt _ h).1;omega)|(intro h;have h1:=o2_hoQ _ h;omega)|(intro h;exact hoQ.ne_blk m2 rfl h))
  try replace hQ:=hQ.mod x14 (by first|exact(λk hk e=>absurd (hlt1 k hk) (Nat.not_lt.2 (hoQ.lt k e).1))|exact hQ.ne hoQ rfl|exact(λk hk=>hoN.ne hoQ rfl hk)|exact(λk hk=>hoP.ne hoQ rfl hk)|exact(λk hk=>hoT.ne hoQ rfl hk)|exact(λk hk=>hoQ.ne hoQ rfl hk)|trivial)
  try replace hoN:=hoN.mod x14 (by first|exact(λk hk e=>absurd (hlt1 k hk) (Nat.not_lt.2 (hoQ.lt k e).1))|exact hQ.ne hoQ rfl|exact(λk hk=>hoN.ne hoQ rfl hk)|exact(λk hk=>hoP.ne hoQ rfl hk)|exact(λk hk=>hoT.ne hoQ rfl hk)|exact(λk hk=>hoQ.ne hoQ rfl hk)|trivial)
  try replace m3:=m3.mod x14 (by first|(intro h;have h2:b3=b3:=Option.some.inj h;omega)|(intro h;have h1:=(hoQ.lt _ h).1;omega)|(intro h;have h1:=o3_hoQ _ h;omega)|(intro h;exact hoQ.ne_blk m3 rfl h))
  try replace hoT:=hoT.mod x14 (by first|exact(λk hk e=>absurd (hlt1 k hk) (Nat.not_lt.2 (hoQ.lt k e).1))|exact hQ.ne hoQ rfl|exact(λk hk=>hoN.ne hoQ rfl hk)|exact(λk hk=>hoP.ne hoQ rfl hk)|exact(λk hk=>hoT.ne hoQ rfl hk)|exact(λk hk=>hoQ.ne hoQ rfl hk)|trivial)
  replace hx:=hx.own x14 (λi hi hlt=>(by have:=(hoQ.lt i hi).1;omega))
  replace hoQ:=hoQ_n
  clear m4
  refine da (de Z24 (wr (dm ?_)))
  refine df 0 rfl (dl rfl (m3.at rfl) (cP (Xvu f.id _ (hgv.mod hx (λk hk e=>e (hgvs k hk))) hff.1 (by have:=Xln hff.1;omega)) RX.all λw15 x15=>?_))
  replace m1:=m1.ext x15
  replace hS:=hS.ext x15
  replace mp9:=mp9.ext x15
  replace hSz:=hSz.ext x15
  replace hoP:=hoP.ext x15
  replace m2:=m2.ext x15
  replace hoQ:=hoQ.ext x15
  replace hQ:=hQ.ext x15
  replace hoN:=hoN.ext x15
  replace hoT:=hoT.ext x15
  replace hx:=hx.ext x15
  refine li (e:=9) (sz:=1) (zs:=[S []]) (pv:=[(0,_)]) (cs:=[_]) RX.all (λb5 w16 e5 x16 m5=>?_)
  have g5:=hx.ge e5
  have n5_1:=m1.ltb e5
  have n5_2:=m2.ltb e5
  have n5_mp9:=mp9.lt
  have a5_hS:=hS.lt
  have a5_hSz:=hSz.le
  have o5_hoP:=hoP.ltb e5
  have o5_hoQ:=hoQ.ltb e5
  have a5_hQ:=hQ.lt
  have o5_hoN:=hoN.ltb e5
  replace m1:=m1.ext x16
  replace hS:=hS.ext x16
  replace mp9:=mp9.ext x16
  replace hSz:=hSz.ext x16
  replace hoP:=hoP.ext x16
  replace m2:=m2.ext x16
  replace hoQ:=hoQ.ext x16
  replace hQ:=hQ.ext x16
  replace hoN:=hoN.ext x16
  replace hoT:=hoT.ext x16
  replace hx:=hx.ext x16
  refine Xar (lx:=[Xcl f.id]) (e:=9) (sz:=1) (by':=16) rfl kr9 kr9 ir9 hoN (m5.arr (enc:=sEnc) (sz:=1) (l:=[Xcl f.id]) rfl ir9 rfl (Nat.le_of_ble_eq_true rfl)) rfl rfl (by intro x _ u hu;simp at hu;rcases hu with rfl<;>rfl) (by simp;omega) dc9 hSz.le (.inl rfl) (λvn2 w17 hoN_n x17=>?_)
  try replace m1:=m1.mod x17 (by first|(intro h;have h2:b1=b1:=Option.some.inj h;omega)|(intro h;have h1:=(hoN.lt _ h).1;omega)|(intro h;have h1:=o1_hoN _ h;omega)|(intro h;exact hoN.ne_blk m1 rfl h))
  try replace hS:=hS.mod x17 (by first|exact(λk hk e=>absurd (hlt1 k hk) (Nat.not_lt.2 (hoN.lt k e).1))|exact hQ.ne hoN rfl|exact(λk hk=>hoN.ne hoN rfl hk)|exact(λk hk=>hoP.ne hoN rfl hk)|exact(λk hk=>hoT.ne hoN rfl hk)|exact(λk hk=>hoQ.ne hoN rfl hk)|trivial)
  replace mp9:=mp9.mod x17 (mp9.ne_own hoN)
  try replace hSz:=hSz.mod x17 (by first|exact(λk hk e=>absurd (hlt1 k hk) (Nat.not_lt.2 (hoN.lt k e).1))|exact hQ.ne hoN rfl|exact(λk hk=>hoN.ne hoN rfl hk)|exact(λk hk=>hoP.ne hoN rfl hk)|exact(λk hk=>hoT.ne hoN rfl hk)|exact(λk hk=>hoQ.ne hoN rfl hk)|trivial)
  try replace hoP:=hoP.mod x17 (by first|exact(λk hk e=>absurd (hlt1 k hk) (Nat.not_lt.2 (hoN.lt k e).1))|exact hQ.ne hoN rfl|exact(λk hk=>hoN.ne hoN rfl hk)|exact(λk hk=>hoP.ne hoN rfl hk)|exact(λk hk=>hoT.ne hoN rfl hk)|exact(λk hk=>hoQ.ne hoN rfl hk)|trivial)
  try replace m2:=m2.mod x17 (by first|(intro h;have h2:b2=b2:=Option.some.inj h;omega)|(intro h;have h1:=(hoN.lt _ h).1;omega)|(intro h;have h1:=o2_hoN _ h;omega)|(intro h;exact hoN.ne_blk m2 rfl h))
  try replace hoQ:=hoQ.mod x17 (by first|exact(λk hk e=>absurd (hlt1 k hk) (Nat.not_lt.2 (hoN.lt k e).1))|exact hQ.ne hoN rfl|exact(λk hk=>hoN.ne hoN rfl hk)|exact(λk hk=>hoP.ne hoN rfl hk)|exact(λk hk=>hoT.ne hoN rfl hk)|exact(λk hk=>hoQ.ne hoN rfl hk)|trivial)
  try replace hQ:=hQ.mod x17 (by first|exact(λk hk e=>absurd (hlt1 k hk) (Nat.not_lt.2 (hoN.lt k e).1))|exact hQ.ne hoN rfl|exact(λk hk=>hoN.ne hoN rfl hk)|exact(λk hk=>hoP.ne hoN rfl hk)|exact(λk hk=>hoT.ne hoN rfl hk)|exact(λk hk=>hoQ.ne hoN rfl hk)|trivial)
  try replace hoT:=hoT.mod x17 (by first|exact(λk hk e=>absurd (hlt1 k hk) (Nat.not_lt.2 (hoN.lt k e).1))|exact hQ.ne hoN rfl|exact(λk hk=>hoN.ne hoN rfl hk)|exact(λk hk=>hoP.ne hoN rfl hk)|exact(λk hk=>hoT.ne hoN rfl hk)|exact(λk hk=>hoQ.ne hoN rfl hk)|trivial)
  replace hx:=hx.own x17 (λi hi hlt=>(by have:=(hoN.lt i hi).1;omega))
  replace hoN:=hoN_n
  clear m5
  refine da (de Z22 (wr ?_))
  refine pa rfl rfl (dm (Xad (?_)))
  rw[show((p.take k).map λf=>Xcl f.id)++[Xcl f.id]=(p.take (k+1)).map λf=>Xcl f.id by rw[Xaw hk,List.map_append];rfl]at hoN
  exact⟨(k+1,qs++[(vt,t.cs)],vq,vn2),zz10,⟨hx,m1,hS,mp9,hSz,hoP,m2,by omega,by rw[List.map_append,hqs,Xaw hk,List.map_append];show _++[t.cs]=_++[cOf ts1 f];rw[Xxe ht],hoQ,hQ.snoc hoT,hoN⟩,by simp only [];omega⟩
 rw[List.take_of_length_le om9]at hqs hoN
 have hql:=congrArg List.length hqs
 rw[List.length_map,List.length_map]at hql
 have hfl:qs.flatMap (·.2)=Xcg ts1 p:=by rw[Xls hqs,Xhl]
 have hcl:(Xcg ts1 p).length≤(allC [] ts1).length:=by have h9:=Xhm p ts1 hS1.nod (Xns hP.nod);unfold allC;rw[List.nil_append];exact h9
 refine Xah (Z18 _ _ (ws λ_ Z25=>wr (dm ?_)))
 have hNb:=hSz.le
 refine cG (Xlm qs vr _ (hoQ.arr ir9) (λq hq=>(hQ.row q hq).arr ir9) om9 (by rw[hfl];omega)) RX.all λvm w18 x18 hf18=>?_
 have hsz18:=hx.size
 replace m1:=m1.ext x18
 replace hS:=hS.ext x18
 replace hSz:=hSz.ext x18
 replace hoP:=hoP.ext x18
 replace m2:=m2.ext x18
 replace hoN:=hoN.ext x18
 replace hx:=hx.ext x18
 obtain⟨m,hMg,hoM0⟩:=hf18
 rw[hfl]at hMg
 have hoM:=hoM0.mono hNb
 have hms9:=Xrc hMg
 refine dp (Xdn rfl) (cD (X83 m vm N0 52 [ptr b1 0,ptr b2 0] (λc=>!Xb0 V.fs ↑lv c) _ hoM om9 kr9 (λw2 m9 x hx9=>X82 bs bd bl V.next vf bo bm dead V.fs x lv b1 b2 w2 (hS.m.mod m9 (λe=>by have h8:=(hoM.lt _ e).1;have h7:=hlt1 bs (by rw[hS.k0];decide);omega)) (hS.vs.mod m9 (λhl e=>by have h8:=(hoM.lt _ e).1;have h7:=hlt1 (base vf).1 (by rw[hS.k4 hl];decide);omega)) om9 hlv1 om9 (m1.mod m9 (λe=>by have h8:=(hoM.lt _ e).1;omega)) (m2.mod m9 (λe=>hoM.ne_blk m2 rfl e)))) (.inl rfl) λvd w19 x19 hoD0=>?_)
 have hsz19:=hx.size
 replace m1:=m1.mod x19 (by first|exact(λk hk e=>absurd (hlt1 k hk) (Nat.not_lt.2 (hoM.lt k e).1))|exact(λk hk=>hoN.ne hoM rfl hk)|exact(λk hk=>hoP.ne hoM rfl hk)|trivial|exact(λe=>by have h8:=(hoM.lt _ e).1;omega)|exact(λe=>hoM.ne_blk m1 rfl e))
 replace hS:=hS.mod x19 (by first|exact(λk hk e=>absurd (hlt1 k hk) (Nat.not_lt.2 (hoM.lt k e).1))|exact(λk hk=>hoN.ne hoM rfl hk)|exact(λk hk=>hoP.ne hoM rfl hk)|trivial|exact(λe=>by have h8:=(hoM.lt _ e).1;omega)|exact(λe=>hoM.ne_blk hS rfl e))
 replace hSz:=hSz.mod x19 (by first|exact(λk hk e=>absurd (hlt1 k hk) (Nat.not_lt.2 (hoM.lt k e).1))|exact(λk hk=>hoN.ne hoM rfl hk)|exact(λk hk=>hoP.ne hoM rfl hk)|trivial|exact(λe=>by have h8:=(hoM.lt _ e).1;omega)|exact(λe=>hoM.ne_blk hSz rfl e))
 replace hoP:=hoP.mod x19 (by first|exact(λk hk e=>absurd (hlt1 k hk) (Nat.not_lt.2 (hoM.lt k e).1))|exact(λk hk=>hoN.ne hoM rfl hk)|exact(λk hk=>hoP.ne hoM rfl hk)|trivial|exact(λe=>by have h8:=(hoM.lt _ e).1;omega)|exact(λe=>hoM.ne_blk hoP rfl e))
 replace m2:=m2.mod x19 (by first|exact(λk hk e=>absurd (hlt1 k hk) (Nat.not_lt.2 (hoM.lt k e).1))|exact(λk hk=>hoN.ne hoM rfl hk)|exact(λk hk=>hoP.ne hoM rfl hk)|trivial|exact(λe=>by have h8:=(hoM.lt _ e).1;omega)|exact(λe=>hoM.ne_blk m2 rfl e))
 replace hoN:=hoN.mod x19 (by first|exact(λk hk e=>absurd (hlt1 k hk) (Nat.not_lt.2 (hoM.lt k e).1))|exact(λk hk=>hoN.ne hoM rfl hk)|exact(λk hk=>hoP.ne hoM rfl hk)|trivial|exact(λe=>by have h8:=(hoM.lt _ e).1;omega)|exact(λe=>hoM.ne_blk hoN rfl e))
 replace hx:=hx.own x19 (λi hi hlt=>absurd hlt (Nat.not_lt.2 ((Nat.le_trans hszN (hoM.lt i hi).1))))
 have e9:m.filter (λx=>!(!Xb0 V.fs ↑lv x))=m.filter (Xb0 V.fs ↑lv):=by congr 1;funext x;rw[Bool.not_not]
 have hoD:Vc.Own Cell.cs 4 79 N0 w19 vd (m.filter (Xb0 V.fs ↑lv)):=by rw[←e9];exact hoD0
 have hfm:=List.length_filter_le (Xb0 V.fs ↑lv) m
 refine da (de Z25 (ws λ_ Z26=>ws λ_ Z27=>wr ?_))
 refine dl rfl (m1.at rfl) (dm ?_)
 refine dl rfl (m2.at rfl) (dm ?_)
 have hc9:∀c∈m.filter (Xb0 V.fs ↑lv),c.key.length≤4096∧c.val.length≤16384:=λc hc=>by
  obtain⟨t,ht,_,hct⟩:=(Xkk hS1 (λf hf=>(hP.sub f hf).1)).1 (hms9.2 c (List.mem_filter.1 hc).1)
  have h8:=hSt.cellsB hn c (hsub c (Xat.2 (.inr ⟨t,ht,hct⟩)))
  exact⟨h8.1,h8.2.1⟩
 have hszx:=hx.size
 have hNb:=hSz.le
 obtain⟨NK,hNK⟩:∃z,z=w19.heap.size:=⟨_,rfl⟩
 have hvn9:(p.map λf=>Xcl f.id)≠[]->(base vn).1<NK∧N0≤(base vn).1:=λhl=>by rw[hNK];exact⟨(hoN.base_ge hl).2,(hoN.base_ge hl).1⟩
 refine cD (Xng κ1 bs bd bl bo bm vf L1 D1 V ts1 [] dead (m.filter (Xb0 V.fs ↑lv)) vd ↑lv p vp _ hS (hoD.arr ir9) om9 hc9 om9 (hoP.arr ir9) om9 (λhl=>hk1z _ (hoP.base_ge hl).1) (λf hf=>Xf9 hS1.isv f (hP.sub f hf).1) hS1.isv (hgv.mod hx (λk hk e=>e (hgvs k hk))) (λk hk=>(hmv1 k (hgv.lt k hk)).trans (hgvs k hk)) om9 (λhl=>hk1z _ (hoD.base_ge hl).1)) (.inl rfl) λu20 w20 x20 hf20=>?_
 have hsz20:=hx.size
 replace m1:=m1.mod x20 (by first|trivial|exact(λe=>e hb1z)|exact(λk hk e=>e (hk1z k (hoN.lt k hk).1)))
 replace hoN:=hoN.mod x20 (by first|trivial|exact(λe=>e hb1z)|exact(λk hk e=>e (hk1z k (hoN.lt k hk).1)))
 replace hx:=hx.own x20 (λi hi hlt=>(by have e1:κ1 i≠0:=hi;rw[hmv1 i hlt]at e1;exact e1))
 obtain⟨e2,κ2,vf2,L2,D2,V2,ts2,dead2,rfl,hmv2,hS9,hCh⟩:=hf20
 have hS:=hS9
 rw[←hNK]at hmv2
 have hmv3:∀k,k<w.heap.size->κ2 k=κ k:=λk hk=>(hmv2 k om9).trans (hmv1 k hk)
 refine da (de Z27 (ws λ_ Z28=>wr (dm ?_)))
 refine dp (Xav rfl rfl) (de Z28 (wi (λc5=>?_) λc5=>?_))
 ·refine ws λ_ Z29=>wr (dm (da (da (de Z29 (Xae ?_)))))
  refine rt ?_
  rw[hd1]at hCh
  exact⟨_,rfl,hx,false,e2,κ2,bm,vf2,L2,D2,V2,ts2,[],dead2,rfl,hmv3,hS,.inr (.inr ⟨rfl,hdue,ok,0,L1,D1,V,ts1,[],dead,hFl,.inr ⟨rfl,p,lv,m,e2,D2,dead2,hp,hP,hMg,hCh,rfl,.inl ⟨c5,rfl,rfl,rfl,rfl⟩⟩⟩)⟩
 refine Xaa (Z26 _ _ (ws λ_ Z30=>ws λ_ Z31=>wr (dl rfl (m1.at rfl) (dz rfl (df 0 rfl (dl rfl (hS.m.at rfl) (dm ?_)))))))
 have hszr:=hx.size
 obtain⟨F,hD,hFH,hback⟩:=hS.ld.disk
 refine cD (X4c F bd D2 (p.map λf=>Xcl f.id) vn _ hD (hoN.arr ir9) (by rw[List.length_map];omega) (λhl e=>by have e1:κ2 (base vn).1=1:=hFH _ e;rw[hmv2 _ (hvn9 hl).1,hk1z _ (hvn9 hl).2]at e1;cases e1)) (.inl rfl) λu21 w21 x21 hf21=>?_
 have hsz21:=hx.size
 replace m1:=m1.mod x21 (by first|trivial|exact(λe=>by have e1:κ2 b1=1:=hFH _ e;rw[hmv2 b1 om9,hb1z]at e1;cases e1))
 replace hx:=hx.own x21 (λi hi hlt=>(by have e1:κ2 i=1:=hFH i hi;rw[hmv3 i hlt]at e1;show κ i≠0;rw[e1];decide))
 obtain⟨rfl,hd9⟩:=hf21
 have hS2:=hS.ledger (x21.mono (λi hi _=>hFH i hi)) (hback _ _ x21 hd9)
 have hmv4:∀k,k<w.heap.size->updK κ2 1 _ _ k=κ k:=λk hk=>(Xdw (κ:=κ2) (i:=1) (w':=w21) (Nat.lt_of_lt_of_le hk hszr)).trans (hmv3 k hk)
 replace hS:=hS2
 refine da (de Z31 (ws λ_ Z32=>wr (dm ?_)))
 refine dp (Xav rfl rfl) (de Z32 (wi (λc6=>?_) λc6=>?_))
 ·refine ws λ_ Z33=>wr (dl rfl (m1.at rfl) (dm ?_))
  refine cD (Xle bs bd bl V2.next vf2 bo bm dead2 (D2.rem (p.map λf=>Xcl f.id)).1 _ hS.m) (.inl rfl) λu22 w22 x22 hf22=>?_
  have hsz22:=hx.size
  replace hx:=hx.own x22 (λi hi hlt=>(by have e1:i=bs:=hi;rw[e1,h.k0];decide))
  obtain⟨rfl,hd9⟩:=hf22
  have hS2:=hS.head x22 hd9
  replace hS:=hS2
  refine da (da (de Z33 (Xae ?_)))
  refine rt ?_
  have he2:e2=0:=Decidable.of_not_not c5
  subst he2
  rw[hd1]at hCh
  exact⟨_,rfl,hx,false,_,_,bm,vf2,L2,_,V2,ts2,[],_,rfl,hmv4,hS,.inr (.inr ⟨rfl,hdue,ok,0,L1,D1,V,ts1,[],dead,hFl,.inr ⟨rfl,p,lv,m,0,D2,dead2,hp,hP,hMg,hCh,rfl,.inr ⟨rfl,rfl,.inl ⟨c6,rfl,rfl,by simp [c6]⟩⟩⟩⟩)⟩
 refine Xaa (Z30 _ _ (ws λ_ Z34=>wr (da (da (de Z34 (Xae ?_))))))
 refine rt ?_
 have he2:e2=0:=Decidable.of_not_not c5
 subst he2
 rw[hd1]at hCh
 exact⟨_,rfl,hx,true,0,_,bm,vf2,L2,_,V2,ts2,[],_,rfl,hmv4,hS,.inr (.inr ⟨rfl,hdue,ok,0,L1,D1,V,ts1,[],dead,hFl,.inr ⟨rfl,p,lv,m,0,D2,dead2,hp,hP,hMg,hCh,rfl,.inr ⟨rfl,rfl,.inr ⟨Decidable.of_not_not c6,rfl,rfl,rfl⟩⟩⟩⟩)⟩
end Go.Proofs.YtiooodckiddpmaaGreatDoor
namespace Go.Proofs.YtiooodckiddpmaaGreatDoor.Em
open Go.Vc Go.Sp
attribute [local irreducible] W XW Dw DwT
structure RStE (w:World)(bs bd bl bm:Nat)(room:Int):Prop where
 s:Blk w bs [ptr bd 0,ptr bl 0,I 1,.slice none 0 0,.slice none 0 0,ptr bm 0,B false] 69
 l:Blk w bl [ptr bd 0,S [115],I 0,.slice none 0 0,.slice none 0 0,B false] 135
 d:Blk w bd [I room,.slice none 0 0,I (-1)] 138
theorem rdiskNew_w (room:Int)(w:World)(h0:0≤room)(h1:room≤1073741824) :
  Calls Tryz.prog 34 [I room].toArray w (Gives w (λu w'=>∃bd,u=.tuple #[ptr bd 0,I 0]∧Blk w' bd [I room,.slice none 0 0,I (-1)] 138)):=by
 refine cw Tryz.func34 ?_
 have hx:=Ext.refl w
 refine ws λ_ Z1=>wr (da (da (de Z1 (ws λ_ Z2=>ws λ_ Z3=>wr (dm ?_)))))
 refine dp (Xaf rfl rfl) (dm ?_)
 refine Xag 6 rfl (λc1=>?_) (λc1=>?_)
 ·omega
 refine dm ?_
 refine dp (Xa1 rfl rfl) (dk' (de Z3 ?_))
 refine wi (λc2=>?_) λc2=>?_
 ·omega
 refine Xaa (Z2 _ _ (ws λ_ Z4=>wr (dm ?_)))
 refine db (zs:=[.int .i64 0,.slice none 0 0,.int .i64 0]) (pl:=[(0,1),(1,1),(2,1)]) (pv:=[(0,_),(2,_)]) (cs:=[_,.slice none 0 0,_]) ?_
 refine Xbf rfl rfl rfl RX.all (λb1 w1 e1 x1 m1=>?_)
 have g1:=hx.ge e1
 replace hx:=hx.trans x1
 refine da (da (de Z4 (Xae ?_)))
 refine rt ?_
 exact⟨_,rfl,hx,b1,rfl,m1⟩
theorem X6i (bd:Nat)(room:Int)(s:Str)(w:World)(hd:Blk w bd [I room,.slice none 0 0,I (-1)] 138) :
  Calls Tryz.prog 227 [ptr bd 0,S s].toArray w (Pure w (.tuple #[I 0,B false])):=by
 refine cw Tryz.func227 ?_
 have hx:=Ext.refl w
 refine ws λ_ Z1=>wr (da (da (de Z1 (ws λ_ Z2=>wr (da (de Z2 (ws λ_ Z3=>Xab ?_)))))))
 refine Xaj (G:=Unit) (λuu=>[(0,ptr bd 0),(1,S s),(4,I 0),(5,.bool false),(6,I 0)]) (λuu w'=>Ext w w'∧True) (λuu=>0) () ?_ ?_ ?_
 ·exact zz5
 ·exact⟨hx,trivial⟩
 intro X1 g1 w1 hF1
 revert hF1;revert g1;intro uu hF1
 clear hx
 obtain⟨hx,htr⟩:=hF1
 refine ws λ_ Z4=>ws λ_ Z5=>wr (dm (dm ?_))
 refine dz rfl (df 1 rfl (dl rfl ((hd.ext hx).at rfl) (dv 226 3 (Arr.nil (enc:=λx:List Value=>x) (sz:=3) (w:=w)).sl (dp (Xaf rfl rfl) (dm ?_)))))
 refine Xag 14 rfl (λc1=>?_) (λc1=>?_)
 ·exact absurd c1 dc9
 iterate 10 refine dk ?_
 refine dk' (de Z5 ?_)
 refine W_f rfl (Xah (Z3 _ _ (ws λ_ Z6=>Xaq (R:=Ext) Ext.refl (λ_ _ _=>Ext.trans) kr9 [5,12,16] [(0,.p,false),(1,.p,false),(2,.p,false),(3,.p,false),(4,.p,false),(5,.l,false),(6,.p,false),(7,.p,false),(8,.p,false),(9,.p,false),(10,.p,false),(11,.p,false),(12,.l,false),(13,.p,false),(14,.p,false),(15,.p,false),(16,.l,false),(17,.p,false),(18,.p,false),(19,.p,false),(20,.p,false),(21,.p,false)] rfl kr9 kr9 (λw2 ew2=>?_))))
 have x2:=drewx ew2
 clear ew2
 replace hx:=hx.trans x2
 iterate 3 refine dm ?_
 refine dz rfl (df 1 rfl (dL rfl (λ_ hR=>((hd.ext (hx.trans hR)).at rfl)) (dv 226 3 (Arr.nil (enc:=λx:List Value=>x) (sz:=3) (w:=w)).sl (dp (Xaf rfl rfl) (dm ?_)))))
 refine Xag 36 rfl (λc2=>?_) (λc2=>?_)
 ·exact absurd c2 dc9
 iterate 10 refine dk ?_
 refine dk' ?_
 refine da (da (de Z6 (Xae ?_)))
 refine rt ?_
 exact⟨rfl,hx⟩
theorem Xxt (bd:Nat)(room:Int)(s:Str)(w:World)(hd:Blk w bd [I room,.slice none 0 0,I (-1)] 138) :
  Calls Tryz.prog 232 [ptr bd 0,S s].toArray w (Pure w (.tuple #[.slice none 0 0,I 7])):=by
 refine cw Tryz.func232 ?_
 have hx:=Ext.refl w
 refine ws λ_ Z1=>wr (da (da (de Z1 (ws λ_ Z2=>wr (dm (dm ?_))))))
 refine cP (X6i bd room s _ (hd.ext hx)) RX.all λw1 x1=>?_
 replace hx:=hx.trans x1
 refine dm ?_
 refine dx rfl rfl (dx rfl rfl (da (da (de Z2 (ws λ_ Z3=>ws λ_ Z4=>wr (dm ?_))))))
 refine dn (de Z4 ?_)
 refine W_t rfl (ws λ_ Z5=>wr (da (da (de Z5 (Xae ?_)))))
 refine rt ?_
 exact⟨rfl,hx⟩
theorem X24 (bl bd:Nat)(room:Int)(s:Str)(w:World)(hl:Blk w bl [ptr bd 0,S [115],I 0,.slice none 0 0,.slice none 0 0,B false] 135)(hd:Blk w bd [I room,.slice none 0 0,I (-1)] 138) :
  Calls Tryz.prog 230 [ptr bl 0,S s].toArray w (Pure w (B false)):=by
 refine cw Tryz.func230 ?_
 have hx:=Ext.refl w
 refine ws λ_ Z1=>wr (da (de Z1 (ws λ_ Z2=>wr (dm ?_))))
 refine dz rfl (df 0 rfl (dl rfl ((hl.ext hx).at rfl) (dm ?_)))
 refine cP (Xxt bd room s _ (hd.ext hx)) RX.all λw1 x1=>?_
 replace hx:=hx.trans x1
 refine dm ?_
 refine dx rfl rfl (dx rfl rfl (da (da (de Z2 (ws λ_ Z3=>wr (dm ?_))))))
 refine dp (Xa9 rfl rfl) (da (de Z3 (Xae ?_)))
 refine ro ?_
 exact⟨rfl,hx⟩
theorem X0o (bl bd:Nat)(room:Int)(w:World)(hl:Blk w bl [ptr bd 0,S [115],I 0,.slice none 0 0,.slice none 0 0,B false] 135)(hd:Blk w bd [I room,.slice none 0 0,I (-1)] 138) :
  Calls Tryz.prog 231 [ptr bl 0].toArray w (Pure w (I 0)):=by
 refine cw Tryz.func231 ?_
 have hx:=Ext.refl w
 refine ws λ_ Z1=>wr (da (de Z1 (ws λ_ Z2=>ws λ_ Z3=>wr (dm (dm ?_)))))
 refine dz rfl (df 1 rfl (dl rfl ((hl.ext hx).at rfl) (dp (Xcc rfl rfl (by first|(simp;done)|(simp;omega)|omega)) (cP (X24 bl bd room _ _ (hl.ext hx) (hd.ext hx)) RX.all λw1 x1=>?_))))
 replace hx:=hx.trans x1
 refine dn (de Z3 ?_)
 refine W_t rfl (ws λ_ Z4=>wr (da (de Z4 (Xae ?_))))
 refine ro ?_
 exact⟨rfl,hx⟩
theorem X6j (bl bd:Nat)(w:World)(hl:Blk w bl [ptr bd 0,S [115],I 0,.slice none 0 0,.slice none 0 0,B false] 135) :
  Calls Tryz.prog 31 [ptr bl 0].toArray w (Pure w (I 0)):=by
 refine cw Tryz.func31 ?_
 have hx:=Ext.refl w
 refine ws λ_ Z1=>wr (da (de Z1 (ws λ_ Z2=>?_)))
 refine Xaq (R:=Ext) Ext.refl (λ_ _ _=>Ext.trans) kr9 [3,7] [(0,.p,false),(1,.p,false),(2,.p,false),(3,.l,false),(4,.p,false),(5,.p,false),(6,.p,false),(7,.l,false),(8,.p,false),(9,.p,false),(10,.p,false)] rfl kr9 kr9 (λw1 ew1=>?_)
 have x1:=drewx ew1
 clear ew1
 replace hx:=hx.trans x1
 refine dm ?_
 refine dz rfl (df 2 rfl (dL rfl (λ_ hR=>((hl.ext (hx.trans hR)).at rfl)) (dm ?_)))
 refine dz rfl (df 4 rfl (dL rfl (λ_ hR=>((hl.ext (hx.trans hR)).at rfl)) (dv 82 1 (Arr.nil (enc:=λx:List Value=>x) (sz:=3) (w:=w)).sl (dp (Xa8 (a:=0) (b:=0) rfl rfl (by simp [Xai])) (da (de Z2 (Xae ?_)))))))
 refine ro ?_
 exact⟨rfl,hx⟩
theorem Xlw (bd:Nat)(room:Int)(w:World)(hd:Blk w bd [I room,.slice none 0 0,I (-1)] 138) :
  Calls Tryz.prog 147 [ptr bd 0,S [115]].toArray w (Gives w (λu w'=>∃bl,u=.tuple #[ptr bl 0,I 0]∧Blk w' bl [ptr bd 0,S [115],I 0,.slice none 0 0,.slice none 0 0,B false] 135)):=by
 refine cw Tryz.func147 ?_
 have hx:=Ext.refl w
 refine ws λ_ Z1=>wr (da (da (de Z1 (ws λ_ Z2=>ws λ_ Z3=>wr (dm ?_)))))
 refine dp (Xa6 kr9 rfl rfl) (dm ?_)
 refine Xag 13 rfl (λc1=>?_) (λc1=>?_)
 ·exact absurd c1 sp9
 refine dm ?_
 refine dt rfl (dp (Xaf rfl rfl) (dk' ?_))
 refine dm ?_
 refine Xag 18 rfl (λc2=>?_) (λc2=>?_)
 ·exact absurd c2 dc9
 refine dm ?_
 refine dt rfl (dp (Xa1 rfl rfl) (dk' (de Z3 ?_)))
 refine wi (λc3=>?_) λc3=>?_
 ·exact absurd c3 dc9
 refine Xaa (Z2 _ _ (ws λ_ Z4=>wr (dm (dm ?_))))
 refine db (zs:=[.pointer none,S [],.int .i64 0,.slice none 0 0,.slice none 0 0,B false]) (pl:=[(0,1),(1,1),(2,1),(3,1),(4,1),(5,1)]) (pv:=[(0,_),(1,_)]) (cs:=[_,_,.int .i64 0,.slice none 0 0,.slice none 0 0,B false]) ?_
 refine Xbf rfl rfl rfl RX.all (λb1 w1 e1 x1 m1=>?_)
 have g1:=hx.ge e1
 replace hx:=hx.trans x1
 refine da (de Z4 (ws λ_ Z5=>wr (da (de Z5 (ws λ_ Z6=>ws λ_ Z7=>wr (dm (dm ?_)))))))
 refine dp (Xcc rfl rfl (by first|(simp;done)|(simp;omega)|omega)) (cP (X24 b1 bd room _ _ m1 (hd.ext hx)) RX.all λw2 x2=>?_)
 replace m1:=m1.ext x2
 replace hx:=hx.trans x2
 refine de Z7 (W_f rfl (Xaa (Z6 _ _ (ws λ_ Z8=>ws λ_ Z9=>wr (dm ?_)))))
 refine dp (Xa9 rfl rfl) (de Z9 (wi (λc4=>?_) λc4=>?_))
 ·refine wr (dm ?_)
  refine cP (X0o b1 bd room _ m1 (hd.ext hx)) RX.all λw3 x3=>?_
  replace m1:=m1.ext x3
  replace hx:=hx.trans x3
  refine da (de Z8 (ws λ_ Z10=>ws λ_ Z11=>wr (dm ?_)))
  refine dp (Xav rfl rfl) (de Z11 (wi (λc5=>?_) λc5=>?_))
  ·exact absurd rfl c5
  refine Xaa (Z10 _ _ (ws λ_ Z12=>wr (dm (dm ?_))))
  refine dp (Xcc rfl rfl (by first|(simp;done)|(simp;omega)|omega)) (cP (Xxt bd room _ _ (hd.ext hx)) RX.all λw4 x4=>?_)
  replace m1:=m1.ext x4
  replace hx:=hx.trans x4
  refine dm ?_
  refine dx rfl rfl (dx rfl rfl (da (da (de Z12 (ws λ_ Z13=>ws λ_ Z14=>wr (dm ?_))))))
  refine dp (Xav rfl rfl) (de Z14 (wi (λc6=>?_) λc6=>?_))
  ·refine ws λ_ Z15=>wr (dm (da (da (de Z15 (Xae ?_)))))
   refine rt ?_
   exact⟨_,rfl,hx,b1,rfl,m1⟩
  exact absurd dc9 c6
 exact absurd rfl c4
theorem X6k (bs bd bl bm:Nat)(w:World)(hs:Blk w bs [ptr bd 0,ptr bl 0,I 1,.slice none 0 0,.slice none 0 0,ptr bm 0,B false] 69) :
  Calls Tryz.prog 149 [ptr bs 0].toArray w (Pure w (I 0)):=by
 refine cw Tryz.func149 ?_
 have hx:=Ext.refl w
 refine ws λ_ Z1=>wr (da (de Z1 (ws λ_ Z2=>ws λ_ Z3=>wr (da (de Z3 (Xab ?_))))))
 refine Xaj (G:=Unit) (λuu=>[(0,ptr bs 0),(3,I 0)]) (λuu w'=>Ext w w'∧True) (λuu=>0) () ?_ ?_ ?_
 ·exact zz2
 ·exact⟨hx,trivial⟩
 intro X1 g1 w1 hF1
 revert hF1;revert g1;intro uu hF1
 clear hx
 obtain⟨hx,htr⟩:=hF1
 refine ws λ_ Z4=>ws λ_ Z5=>wr (dm (dm ?_))
 refine dz rfl (df 2 rfl (df 1 rfl (dl rfl ((hs.ext hx).at rfl) (dv 62 5 (Arr.nil (enc:=λv:Value=>[v]) (sz:=5) (w:=w)).sl (dp (Xaf rfl rfl) (de Z5 (wi (λc1=>?_) λc1=>?_)))))))
 ·exact absurd c1 dc9
 refine Xah (Z2 _ _ (ws λ_ Z6=>wr (da (de Z6 (Xae ?_)))))
 refine ro ?_
 exact⟨rfl,hx⟩
theorem X6l (bd:Nat)(room:Int)(w:World)(hd:Blk w bd [I room,.slice none 0 0,I (-1)] 138) :
  Calls Tryz.prog 239 [ptr bd 0].toArray w (Pure w (.slice none 0 0)):=by
 refine cw Tryz.func239 ?_
 have hx:=Ext.refl w
 refine ws λ_ Z1=>wr (da (de Z1 (ws λ_ Z2=>wr (da (de Z2 (ws λ_ Z3=>ws λ_ Z4=>wr (da (de Z4 (Xab ?_)))))))))
 refine Xaj (G:=Unit) (λuu=>[(0,ptr bd 0),(2,.slice none 0 0),(3,.slice none 0 0),(4,I 0)]) (λuu w'=>Ext w w'∧True) (λuu=>0) () ?_ ?_ ?_
 ·exact zz4
 ·exact⟨hx,trivial⟩
 intro X1 g1 w1 hF1
 revert hF1;revert g1;intro uu hF1
 clear hx
 obtain⟨hx,htr⟩:=hF1
 refine ws λ_ Z5=>ws λ_ Z6=>wr (dm (dm ?_))
 refine dz rfl (df 1 rfl (dl rfl ((hd.ext hx).at rfl) (dv 226 3 (Arr.nil (enc:=λx:List Value=>x) (sz:=3) (w:=w)).sl (dp (Xaf rfl rfl) (de Z6 (wi (λc1=>?_) λc1=>?_))))))
 ·exact absurd c1 dc9
 refine Xah (Z3 _ _ (ws λ_ Z7=>wr (dm (da (de Z7 (Xae ?_))))))
 refine ro ?_
 exact⟨rfl,hx⟩
theorem X0p (bd:Nat)(room:Int)(s:Str)(w:World)(hd:Blk w bd [I room,.slice none 0 0,I (-1)] 138) :
  Calls Tryz.prog 152 [ptr bd 0,S s,.slice none 0 0].toArray w (Pure w (I 0)):=by
 refine cw Tryz.func152 ?_
 have hx:=Ext.refl w
 refine ws λ_ Z1=>wr (da (de Z1 (ws λ_ Z2=>ws λ_ Z3=>wr (dm ?_))))
 refine dp (Xa6 kr9 rfl rfl) (de Z3 (wi (λc1=>?_) λc1=>?_))
 ·exact absurd c1 sp9
 refine Xaa (Z2 _ _ (ws λ_ Z4=>wr (dm ?_)))
 refine cP (X6l bd room _ (hd.ext hx)) RX.all λw1 x1=>?_
 replace hx:=hx.trans x1
 refine da (de Z4 (ws λ_ Z5=>ws λ_ Z6=>wr (da (de Z6 (Xab ?_)))))
 refine Xaj (G:=Unit) (λuu=>[(0,ptr bd 0),(1,S s),(2,.slice none 0 0),(7,.slice none 0 0),(8,I 0)]) (λuu w'=>Ext w w'∧True) (λuu=>0) () ?_ ?_ ?_
 ·exact zz5
 ·exact⟨hx,trivial⟩
 intro X2 g2 w2 hF2
 revert hF2;revert g2;intro uu hF2
 clear hx
 obtain⟨hx,htr⟩:=hF2
 refine ws λ_ Z7=>ws λ_ Z8=>wr (dm (dm ?_))
 refine dv 9 1 (Arr.nil (enc:=sEnc) (sz:=1) (w:=w)).sl (dp (Xaf rfl rfl) (de Z8 (wi (λc2=>?_) λc2=>?_)))
 ·exact absurd c2 dc9
 refine Xah (Z5 _ _ (ws λ_ Z9=>wr (da (de Z9 (Xae ?_)))))
 refine ro ?_
 exact⟨rfl,hx⟩
theorem rlsmOpen_w (bd:Nat)(room:Int)(w:World)(hd:Blk w bd [I room,.slice none 0 0,I (-1)] 138) :
  Calls Tryz.prog 77 [ptr bd 0].toArray w (Gives w (λu w'=>∃bs bl bm,u=.tuple #[ptr bs 0,I 0]∧RStE w' bs bd bl bm room)):=by
 refine cw Tryz.func77 ?_
 have hx:=Ext.refl w
 refine ws λ_ Z1=>wr (da (da (de Z1 (ws λ_ Z2=>ws λ_ Z3=>wr (dm ?_)))))
 refine dp (Xa6 kr9 rfl rfl) (de Z3 (wi (λc1=>?_) λc1=>?_))
 ·exact absurd c1 sp9
 refine Xaa (Z2 _ _ (ws λ_ Z4=>wr (dm ?_)))
 refine cG (Xlw bd room _ (hd.ext hx)) RX.all λu1 w1 x1 hf1=>?_
 have hsz1:=hx.size
 replace hx:=hx.trans x1
 obtain⟨bl,rfl,hl⟩:=hf1
 refine dm ?_
 refine dx rfl rfl (dx rfl rfl (da (da (de Z4 (ws λ_ Z5=>ws λ_ Z6=>wr (dm ?_))))))
 refine dp (Xav rfl rfl) (de Z6 (wi (λc2=>?_) λc2=>?_))
 ·exact absurd rfl c2
 refine Xaa (Z5 _ _ (ws λ_ Z7=>wr (dm (dm ?_))))
 refine db (zs:=[.int .i64 0,.slice none 0 0]) (pl:=[(0,1),(1,1)]) (pv:=[(0,_)]) (cs:=[_,.slice none 0 0]) ?_
 refine db (zs:=[.slice none 0 0]) (pl:=[(0,1)]) (pv:=[]) (cs:=[.slice none 0 0]) ?_
 refine Xbf rfl rfl rfl RX.all (λb1 w2 e1 x2 m1=>?_)
 have g1:=hx.ge e1
 have a1_hl:=hl.lt
 replace hl:=hl.ext x2
 replace hx:=hx.trans x2
 refine db (zs:=[.pointer none,.pointer none,.int .i64 0,.slice none 0 0,.slice none 0 0,.pointer none,B false]) (pl:=[(0,1),(1,1),(2,2),(4,1),(5,1),(6,1)]) (pv:=[(0,_),(1,_),(2,.agg ⟨[_,_]⟩),(4,_)]) (cs:=[_,_,_,_,.slice none 0 0,_,B false]) ?_
 refine Xbf rfl rfl rfl RX.all (λb2 w3 e2 x3 m2=>?_)
 have g2:=hx.ge e2
 have n2_1:=m1.ltb e2
 have a2_hl:=hl.lt
 replace hl:=hl.ext x3
 replace m1:=m1.ext x3
 replace hx:=hx.trans x3
 refine da (de Z7 (ws λ_ Z8=>ws λ_ Z9=>wr (dm ?_)))
 refine dz rfl (df 3 rfl (dl rfl (hl.at rfl) (dv 5 1 (Arr.nil (enc:=encB) (sz:=1) (w:=w)).sl (dp (Xa1 rfl rfl) (dm ?_)))))
 refine Xag 37 rfl (λc3=>?_) (λc3=>?_)
 ·exact absurd c3 dc9
 refine dm ?_
 refine dz rfl (df 2 rfl (dl rfl (hl.at rfl) (dp (Xa1 rfl rfl) (dk' (de Z9 ?_)))))
 refine wi (λc4=>?_) λc4=>?_
 ·exact absurd c4 dc9
 refine Xaa (Z8 _ _ (ws λ_ Z10=>wr (dm ?_)))
 refine cP (X6k b2 bd bl b1 _ m2) RX.all λw4 x4=>?_
 replace hl:=hl.ext x4
 replace m1:=m1.ext x4
 replace m2:=m2.ext x4
 replace hx:=hx.trans x4
 refine da (de Z10 (ws λ_ Z11=>ws λ_ Z12=>wr (dm ?_)))
 refine dp (Xav rfl rfl) (de Z12 (wi (λc5=>?_) λc5=>?_))
 ·exact absurd rfl c5
 refine Xaa (Z11 _ _ (ws λ_ Z13=>ws λ_ Z14=>wr (dm ?_)))
 refine dz rfl (df 2 rfl (dl rfl (hl.at rfl) (pa rfl rfl (da (de Z14 (Xab ?_))))))
 refine Xaj (G:=Unit) (λuu=>[(0,ptr bd 0),(4,ptr bl 0),(5,I 0),(6,ptr b2 0),(7,I 1)]) (λuu w'=>Ext w w'∧Blk w' bl [ptr bd 0,S [115],I 0,.slice none 0 0,.slice none 0 0,B false] 135∧Blk w' b1 [.slice none 0 0] 215∧Blk w' b2 [ptr bd 0,ptr bl 0,I 1,.slice none 0 0,.slice none 0 0,ptr b1 0,B false] 69∧True) (λuu=>0) () ?_ ?_ ?_
 ·exact zz5
 ·exact⟨hx,hl,m1,m2,trivial⟩
 intro X5 g5 w5 hF5
 revert hF5;revert g5;intro uu hF5
 clear hx hl m1 m2
 obtain⟨hx,hl,m1,m2,htr⟩:=hF5
 refine ws λ_ Z15=>ws λ_ Z16=>wr (dm (dm ?_))
 refine cP (X6j bl bd _ hl) RX.all λw6 x6=>?_
 replace hl:=hl.ext x6
 replace m1:=m1.ext x6
 replace m2:=m2.ext x6
 replace hx:=hx.trans x6
 refine dp (Xdi rfl rfl) (de Z16 (wi (λc6=>?_) λc6=>?_))
 ·exact absurd c6 dc9
 refine Xah (Z13 _ _ (ws λ_ Z17=>wr (da (de Z17 (ws λ_ Z18=>ws λ_ Z19=>wr (da (de Z19 (Xab ?_))))))))
 refine Xaj (G:=Unit) (λuu=>[(0,ptr bd 0),(5,I 0),(6,ptr b2 0),(12,.slice none 0 0),(13,I 0)]) (λuu w'=>Ext w w'∧Blk w' bl [ptr bd 0,S [115],I 0,.slice none 0 0,.slice none 0 0,B false] 135∧Blk w' b1 [.slice none 0 0] 215∧Blk w' b2 [ptr bd 0,ptr bl 0,I 1,.slice none 0 0,.slice none 0 0,ptr b1 0,B false] 69∧True) (λuu=>0) () ?_ ?_ ?_
 ·exact zz5
 ·exact⟨hx,hl,m1,m2,trivial⟩
 intro X7 g7 w7 hF7
 revert hF7;revert g7;intro uu hF7
 clear hx hl m1 m2
 obtain⟨hx,hl,m1,m2,htr⟩:=hF7
 refine ws λ_ Z20=>ws λ_ Z21=>wr (dm (dm ?_))
 refine dz rfl (df 2 rfl (df 1 rfl (dl rfl (m2.at rfl) (dv 62 5 (Arr.nil (enc:=λv:Value=>[v]) (sz:=5) (w:=w)).sl (dp (Xaf rfl rfl) (de Z21 (wi (λc7=>?_) λc7=>?_)))))))
 ·exact absurd c7 dc9
 refine Xah (Z18 _ _ (ws λ_ Z22=>wr (dm (dm ?_))))
 refine cP (X0p bd room [116] _ (hd.ext hx)) RX.all λw8 x8=>?_
 replace hl:=hl.ext x8
 replace m2:=m2.ext x8
 replace hx:=hx.trans x8
 refine da (de Z22 (ws λ_ Z23=>ws λ_ Z24=>wr (dm ?_)))
 refine dp (Xav rfl rfl) (de Z24 (wi (λc8=>?_) λc8=>?_))
 ·exact absurd rfl c8
 refine Xaa (Z23 _ _ (ws λ_ Z25=>wr (dm (da (da (de Z25 (Xae ?_)))))))
 refine rt ?_
 exact⟨_,rfl,hx,b2,bl,b1,rfl,⟨m2,hl,hd.ext hx⟩⟩
end Go.Proofs.YtiooodckiddpmaaGreatDoor.Em
namespace Go.Proofs.YtiooodckiddpmaaGreatDoor
open Go.Vc Go.Sp
attribute [local irreducible] W XW Dw DwT
theorem X6m {bs bd bl mo bm ba bn mf n:Nat}(h1:n≤bs)(h2:n≤bl)(h3:n≤mo)(h4:n≤bm)(h5:n≤ba)(h6:n≤bn):∀k,kap0 bs bd bl mo bm ba bn mf k≠0->k=bd∨k=mf∨n≤k:=λk hk=>by
 unfold kap0 at hk
 repeat' split at hk
 all_goals first|omega|exact absurd rfl hk
theorem X6n (pb bd bx mf:Nat)(room:Int)(w:World)(hp0:Blk w pb [ptr bd 0,ptr bx 0,.pointer none,.pointer none] 31)(hd:Blk w bd [I room,.map (some mf),B false,I 0] 122)(hm:EmpM w mf)(hr:Blk w bx [I room,.slice none 0 0,I (-1)] 138)(hw:(dsk0 room).Wf) :
  Calls Tryz.prog 35 [ptr pb 0].toArray w (Does (oneB pb) w (λu w'=>u=B true∧∃κ bs bl bo bm sb,Blk w' pb [ptr bd 0,ptr bx 0,ptr bs 0,ptr sb 0] 31∧StE κ bs bd bl bo bm (.slice none 0 0) led0 (dsk0 room) ⟨1,[]⟩ [] [] false w'∧(∀k,κ k≠0->k=bd∨k=mf∨w.heap.size≤k))):=by
 refine cw Tryz.func35 ?_
 have hx:=Vc.Mod.refl (oneB pb) w
 have hp:=hp0
 have hmfl:=hm.lt
 have hne1:=hp0.ne hd rfl
 have hne2:=Xd9 hm hp0
 have hpl:=hp0.lt
 refine ws λ_ Z1=>wr (da (de Z1 (ws λ_ Z2=>wr (dm ?_))))
 refine dz rfl (df 0 rfl (dl rfl (hp.at rfl) ?_))
 have hszc:=hx.size
 refine cG (Em.lsmOpen_w bd mf room _ hd hm) RX.all λu1 w1 x1 hf1=>?_
 have hsz1:=hx.size
 replace hp:=hp.ext x1
 replace hd:=hd.ext x1
 replace hm:=hm.ext x1
 replace hr:=hr.ext x1
 replace hx:=hx.ext x1
 obtain⟨bs,bl,mo,bm,ba,bn,rfl,hE,k1,k2,k3,k4,k5,k6⟩:=hf1
 have hS:=X9b hE om9 hw
 have hκ:=X6m (bd:=bd) (mf:=mf) (Nat.le_trans hszc k1) (Nat.le_trans hszc k2) (Nat.le_trans hszc k3) (Nat.le_trans hszc k4) (Nat.le_trans hszc k5) (Nat.le_trans hszc k6)
 refine dm ?_
 refine dx rfl rfl (dx rfl rfl (da (da (de Z2 (ws λ_ Z3=>wr (dm ?_))))))
 refine dz rfl (df 1 rfl (dl rfl (hp.at rfl) (cG (Em.rlsmOpen_w bx room _ hr) RX.all λu2 w2 x2 hf2=>?_)))
 have hsz2:=hx.size
 replace hp:=hp.ext x2
 replace hd:=hd.ext x2
 replace hm:=hm.ext x2
 replace hr:=hr.ext x2
 replace hS:=hS.ext x2
 replace hx:=hx.ext x2
 obtain⟨sb,rbl,rbm,rfl,hRS⟩:=hf2
 refine dm ?_
 refine dx rfl rfl (dx rfl rfl (da (da (de Z3 (ws λ_ Z4=>wr (dm (dm (dm (dm ?_)))))))))
 refine dz rfl (df 2 rfl (st1 hp (λw3 x3 xs3 hp=>?_) (hv:=by first|rfl|exact isSl.one hd.sl|exact isSl.one hm.sl|exact isSl.one hr.sl|exact isSl.one hS.sl)))
 try dsimp only [Xal,List.set,List.take,List.drop]at hp
 try replace hd:=hd.mod x3 (by first|assumption|(intro k hk h;have h1:=(hd.lt k hk).1;have h2:k=pb:=h;omega)|(intro k hk h;have h1:=opb_hd k hk;have h2:k=pb:=h;omega)|(intro h;have h2:_=pb:=h;omega)|(intro hl h;have h1:=apb_hd hl;have h2:_=pb:=h;omega))
 try replace hm:=hm.mod x3 (by first|assumption|(intro k hk h;have h1:=(hm.lt k hk).1;have h2:k=pb:=h;omega)|(intro k hk h;have h1:=opb_hm k hk;have h2:k=pb:=h;omega)|(intro h;have h2:_=pb:=h;omega)|(intro hl h;have h1:=apb_hm hl;have h2:_=pb:=h;omega))
 try replace hr:=hr.mod x3 (by first|assumption|(intro k hk h;have h1:=(hr.lt k hk).1;have h2:k=pb:=h;omega)|(intro k hk h;have h1:=opb_hr k hk;have h2:k=pb:=h;omega)|(intro h;have h2:_=pb:=h;omega)|(intro hl h;have h1:=apb_hr hl;have h2:_=pb:=h;omega))
 replace hS:=hS.mod x3 (λk9 h9 e9=>by have h2:k9=pb:=e9;have h8:=hκ k9 h9;omega)
 replace hx:=hx.own x3 (λi hi _=>hi)
 refine dz rfl (df 3 rfl (st1 hp (λw4 x4 xs4 hp=>?_) (hv:=by first|rfl|exact isSl.one hd.sl|exact isSl.one hm.sl|exact isSl.one hr.sl|exact isSl.one hS.sl)))
 try dsimp only [Xal,List.set,List.take,List.drop]at hp
 replace hS:=hS.mod x4 (λk9 h9 e9=>by have h2:k9=pb:=e9;have h8:=hκ k9 h9;omega)
 replace hx:=hx.own x4 (λi hi _=>hi)
 refine de Z4 (ws λ_ Z5=>wr (dm (dm ?_)))
 refine dp (Xa9 rfl rfl) (dm ?_)
 refine Xag 34 rfl (λc1=>?_) (λc1=>?_)
 ·refine dm ?_
  refine dp (Xa6 kr9 rfl rfl) (dm ?_)
  refine dp (Xav rfl rfl) (dp (X6v kr9 rfl rfl) (dk' ?_))
  refine da (de Z5 (Xae ?_))
  refine ro ?_
  exact⟨_,rfl,hx,by simp,_,bs,bl,mo,bm,sb,hp,hS,hκ⟩
 exact absurd rfl c1
theorem X6o (room:Int)(w:World)(h0:0≤room)(h1:room≤1073741824)(hw:(dsk0 room).Wf) :
  Calls Tryz.prog 12 [I room].toArray w (Gives w (λu w'=>∃κ pb bd bx bs bl bo bm sb,u=ptr pb 0∧Blk w' pb [ptr bd 0,ptr bx 0,ptr bs 0,ptr sb 0] 31∧StE κ bs bd bl bo bm (.slice none 0 0) led0 (dsk0 room) ⟨1,[]⟩ [] [] false w'∧(∀k,κ k≠0->w.heap.size≤k)∧κ pb=0∧w.heap.size≤pb)):=by
 refine cw Tryz.func12 ?_
 have hx:=Ext.refl w
 refine ws λ_ Z1=>wr (da (de Z1 (ws λ_ Z2=>wr (dm ?_))))
 have hsza:=hx.size
 refine cG (Em.diskNew_w room _ h0 h1) RX.all λu1 w1 x1 hf1=>?_
 have hsz1:=hx.size
 replace hx:=hx.trans x1
 obtain⟨bd,mf,rfl,hd,hm,hgd,hgm⟩:=hf1
 refine dm ?_
 refine dx rfl rfl (dx rfl rfl (da (da (de Z2 (ws λ_ Z3=>wr (dm ?_))))))
 refine cG (Em.rdiskNew_w room _ h0 h1) RX.all λu2 w2 x2 hf2=>?_
 have hsz2:=hx.size
 replace hd:=hd.ext x2
 replace hm:=hm.ext x2
 replace hx:=hx.trans x2
 obtain⟨bx,rfl,hr⟩:=hf2
 refine dm ?_
 refine dx rfl rfl (dx rfl rfl (da (da (de Z3 (ws λ_ Z4=>wr (dm (dm ?_)))))))
 refine db (zs:=[.pointer none,.pointer none,.pointer none,.pointer none]) (pl:=[(0,1),(1,1),(2,1),(3,1)]) (pv:=[(0,_),(1,_)]) (cs:=[_,_,.pointer none,.pointer none]) ?_
 refine Xbf rfl rfl rfl RX.all (λb1 w3 e1 x3 m1=>?_)
 have g1:=hx.ge e1
 have a1_hd:=hd.lt
 have a1_hr:=hr.lt
 replace hd:=hd.ext x3
 replace hm:=hm.ext x3
 replace hr:=hr.ext x3
 replace hx:=hx.trans x3
 refine da (de Z4 (ws λ_ Z5=>ws λ_ Z6=>wr (dm ?_)))
 refine dp (Xa6 kr9 rfl rfl) (dm ?_)
 refine Xag 24 rfl (λc1=>?_) (λc1=>?_)
 ·exact absurd c1 sp9
 refine dm ?_
 refine dp (Xa6 kr9 rfl rfl) (dk' ?_)
 refine dm ?_
 refine Xag 28 rfl (λc2=>?_) (λc2=>?_)
 ·exact absurd c2 sp9
 refine dm ?_
 have hpl9:=m1.lt
 have hne1:=m1.ne hd rfl
 have hne2:=Xd9 hm m1
 have hszd:=hx.size
 refine cD (X6n b1 bd bx mf room _ m1 hd hm hr hw) (.inl rfl) λu4 w4 x4 hf4=>?_
 have hsz4:=hx.size
 replace hx:=hx.own x4 (λi hi=>(by have e9:i=b1:=hi;omega))
 obtain⟨rfl,κ,bs,bl,bo,bm,sb,hp,hS,hκ⟩:=hf4
 refine dn ?_
 refine dk' (de Z6 ?_)
 refine W_f rfl (Xaa (Z5 _ _ (ws λ_ Z7=>wr (dm (da (de Z7 (Xae ?_)))))))
 refine ro ?_
 exact⟨_,rfl,hx,κ,b1,bd,bx,bs,bl,bo,bm,sb,rfl,hp,hS,λk hk=>(by have h9:=hκ k hk;omega),Decidable.byContradiction λh9=>(by have h8:=hκ _ h9;omega),om9⟩
structure OkD (D:Dsk)(u n:Nat):Prop where
 fu:D.fused=false
 us:Xe6 D.fs≤u
 cn:D.fs.length≤n
 nd:(D.fs.map (·.1)).Nodup
 tl:∀p∈D.fs,p.1.getLast?≠some 126
theorem OkD.mono {D:Dsk}{u n u' n':Nat}(h:OkD D u n)(h1:u≤u')(h2:n≤n'):OkD D u' n':=⟨h.fu,Nat.le_trans h.us h1,Nat.le_trans h.cn h2,h.nd,h.tl⟩
theorem Xrs {D:Dsk}(h:D.fused=false){l:List Str}(hl:∀s∈l,1≤s.length∧s.length≤64):D.may l=0:=X7h (λe=>by rw[h]at e;cases e.1) hl
theorem Xlx {D:Dsk}(h:D.fused=false):D.tick=D:=by unfold Dsk.tick;rw[h];rfl
theorem X25 {D:Dsk}{u n:Nat}{name p:Str}(h:OkD D u n)(hn:1≤name.length∧name.length≤64)(hr:((u+p.length:Nat):Int)≤D.room)(hc:n<4096):D.app name p=(0,{ D with fs:=setL D.fs name ⟨(D.old name).data++p,(D.old name).lasts⟩ }):=by
 unfold Dsk.app
 rw[if_neg (by rw[Xrs h.fu (by simpa using hn)];decide),if_neg,Xlx (by exact h.fu)]
 unfold Dsk.full
 have h1:=h.us
 have h2:=h.cn
 rw[←Xf2]at h1
 simp only [Bool.or_eq_true,Bool.and_eq_true,decide_eq_true_eq,not_or,not_and]
 exact⟨by omega,λ_=>by omega⟩
theorem Xxu {α:Type}{l:List (Str×α)}{n:Str}{a:α}(h:lk l n=none):setL l n a=l++[(n,a)]:=by unfold setL;rw[h];rfl
theorem Xxv {α:Type}{l:List (Str×α)}{n:Str}{a:α}(h:lk l n=none):delL (setL l n a) n=l:=by
 rw[Xxu h]
 have h2:=Xt6 h
 unfold delL at *
 rw[List.filter_append,h2];simp
theorem Xxw {D:Dsk}{n:Str}(h:lk D.fs n=none):D.old n=⟨[],0⟩:=by unfold Dsk.old;rw[h];rfl
theorem Xxx {D:Dsk}{n:Str}{f:Fil}(hf:D.fused=false)(hn:1≤n.length∧n.length≤64)(h:lk D.fs n=some f):D.sync [n]=(0,{ D with fs:=setL D.fs n ⟨f.data,f.data.length⟩ }):=by
 unfold Dsk.sync Dsk.each
 rw[if_neg (by rw[Xrs hf (by simpa using hn)];decide),if_neg (by rw[h];exact Bool.false_ne_true)]
 unfold Dsk.each Dsk.lastsA Dsk.old
 rw[h,Xlx (by exact hf)];rfl
theorem X9c (n:Str):(Dsk.sh n).length=n.length+1:=by unfold Dsk.sh;simp
theorem Yag {D:Dsk}{u k:Nat}(h:OkD D u k)(n:Str):lk D.fs (Dsk.sh n)=none:=by
 rw[Xe5]
 intro hm
 obtain⟨p,hp,e⟩:=List.mem_map.1 hm
 exact h.tl p hp (by rw[e];unfold Dsk.sh;simp)
theorem X6p {D:Dsk}{u k:Nat}{n p:Str}(h:OkD D u k)(hn:1≤n.length∧n.length≤60)(hp:p.length≤1048576)(hr:((u+(recS p).length:Nat):Int)≤D.room)(hc:k<4096):D.save n p=(0,{ D with fs:=setL D.fs n ⟨recS p,(recS p).length⟩ }):=by
 have hs:=Yag h n
 have hl:=X9c n
 unfold Dsk.save
 rw[if_neg om9,if_neg om9,if_neg (by unfold Dsk.has;rw[hs];decide)]
 unfold Dsk.save2
 have ha:=X25 (p:=recS p) h (name:=Dsk.sh n) om9 hr hc
 rw[Xxw hs]at ha
 simp only [List.nil_append]at ha
 rw[ha]
 have hy:=Xxx (D:={ D with fs:=setL D.fs (Dsk.sh n) ⟨recS p,0⟩ }) (n:=Dsk.sh n) (f:=⟨recS p,0⟩) h.fu om9 (by show lk (setL _ _ _) _=_;rw[Xiu,if_pos rfl])
 dsimp only at hy
 rw[Xgn]at hy
 simp only [ne_eq,not_true_eq_false,if_false,hy]
 unfold Dsk.ren
 rw[if_neg (by rw[Xrs (by exact h.fu) (by intro s hs2;simp at hs2;rcases hs2 with rfl|rfl<;>omega)];decide)]
 dsimp only
 rw[Xiu,if_pos rfl]
 dsimp only
 rw[Xlx (by exact h.fu),Xxv hs]
theorem OkD.put {D:Dsk}{u k:Nat}{n:Str}{f:Fil}(h:OkD D u k)(ht:n.getLast?≠some 126){x:Nat}(hx:f.data.length≤(D.old n).data.length+x):OkD { D with fs:=setL D.fs n f } (u+x) (k+1):=by
 have h1:=Xmq h.nd n f
 have h2:=h.us
 have h3:(oldL D.fs n)=D.old n:=rfl
 have h4:=Xf1 D.fs n f
 have h5:=h.cn
 refine⟨h.fu,?_,?_,Xhb _ _ h.nd,λp hp=>?_⟩
 ·show Xe6 (setL D.fs n f)≤_
  rw[h3]at h1;omega
 ·show(setL D.fs n f).length≤_
  rw[h4];split<;>omega
 ·rcases Xkz hp with rfl|hp
  ·exact ht
  ·exact h.tl p hp
theorem OkD.del {D:Dsk}{u k:Nat}(h:OkD D u k)(n:Str):OkD { D with fs:=delL D.fs n } u k:=
 ⟨h.fu,Nat.le_trans (Xmr D.fs n) h.us,Nat.le_trans (List.length_filter_le _ _) h.cn,Xhc n h.nd,λp hp=>h.tl p (List.mem_filter.1 hp).1⟩
theorem Xxy {D:Dsk}{u k:Nat}{n p:Str}(h:OkD D u k)(hn:1≤n.length∧n.length≤60)(ht:n.getLast?≠some 126)(hp:p.length≤1048576)(hr:((u+p.length+12:Nat):Int)≤D.room)(hc:k<4096):(D.save n p).1=0∧OkD (D.save n p).2 (u+p.length+12) (k+1)∧(D.save n p).2.room=D.room:=by
 have hl:=Xby p
 rw[X6p h hn hp (by rw[hl,←Nat.add_assoc];exact hr) hc]
 have:=h.put ht (f:=⟨recS p,(recS p).length⟩) (x:=p.length+12) (by simp only [];omega)
 exact⟨rfl,by rw[Nat.add_assoc];exact this,rfl⟩
theorem X0q {D:Dsk}{u k:Nat}{n:Str}(h:OkD D u k)(hn:1≤n.length∧n.length≤64):(Dsk.rems [n] D).1=0∧OkD (Dsk.rems [n] D).2 u k∧(Dsk.rems [n] D).2.room=D.room:=by
 unfold Dsk.rems
 by_cases hh:D.has n=true
 ·rw[if_pos hh]
  have h2:(lk D.fs n).isNone=false:=by unfold Dsk.has at hh;cases e:lk D.fs n with
   | none=>rw[e]at hh;cases hh
   | some a=>rfl
  have hr:D.rem [n]=(0,{ D with fs:=delL D.fs n }):=by
   unfold Dsk.rem Dsk.each
   rw[if_neg (by rw[Xrs h.fu (by simpa using hn)];decide),if_neg (by rw[h2];decide)]
   unfold Dsk.each Dsk.gone
   rw[Xlx (by exact h.fu)]
  rw[hr,if_neg sp9]
  unfold Dsk.rems
  exact⟨rfl,h.del n,rfl⟩
 ·rw[if_neg hh]
  unfold Dsk.rems
  exact⟨rfl,h,rfl⟩
theorem Xxz {L:Led}{D:Dsk}{u k:Nat}{p:Str}(h:OkD D u k)(hd:L.dead=false)(hp:p.length≤65536)(hl:L.last<1099511627776)(hr:((u+p.length+32:Nat):Int)≤D.room)(hc:k<4096):(L.append D p).1=L.last+1∧(L.append D p).2.1=0∧(L.append D p).2.2.1={ L with ents:=L.ents++[p] }∧OkD (L.append D p).2.2.2 (u+p.length+32) (k+1)∧(L.append D p).2.2.2.room=D.room:=by
 have he:=Xk4 (L.last+1) p
 have hrl:=Xby (Led.ent (L.last+1) p)
 have ha:=X25 (p:=recS (Led.ent (L.last+1) p)) h (name:=Led.logn) dc9 om9 hc
 have hy:=Xxx (D:=(D.app Led.logn (recS (Led.ent (L.last+1) p))).2) (n:=Led.logn) (f:=⟨(D.old Led.logn).data++recS (Led.ent (L.last+1) p),(D.old Led.logn).lasts⟩) (by rw[ha];exact h.fu) dc9 (by rw[ha];show lk (setL _ _ _) _=_;rw[Xiu,if_pos rfl])
 have hR:appR L D p=(0,{ D with fs:=setL D.fs Led.logn ⟨(D.old Led.logn).data++recS (Led.ent (L.last+1) p),((D.old Led.logn).data++recS (Led.ent (L.last+1) p)).length⟩ }):=by
  unfold appR
  rw[if_pos (by rw[ha]),hy,ha]
  dsimp only
  rw[Xgn]
 rw[Xk3 hd om9 (by rw[hR];simp),hR]
 have:=h.put (n:=Led.logn) (f:=⟨(D.old Led.logn).data++recS (Led.ent (L.last+1) p),((D.old Led.logn).data++recS (Led.ent (L.last+1) p)).length⟩) dc9 (x:=p.length+32) (by simp only [List.length_append];omega)
 exact⟨rfl,rfl,rfl,by rw[Nat.add_assoc];exact this,rfl⟩
theorem X0r {L:Led}{D:Dsk}{u k:Nat}{i:Int}{p:Str}(h:OkD D u k)(hd:L.dead=false)(hi:L.last≤i∧i≤1099511627776)(hp:p.length≤524288)(hr:((u+p.length+32:Nat):Int)≤D.room)(hc:k<4096):(L.write D i p).1=0∧(L.write D i p).2.1=⟨i,p,[],false⟩∧OkD (L.write D i p).2.2 (u+p.length+32) (k+1)∧(L.write D i p).2.2.room=D.room:=by
 have he:=Xk4 i p
 obtain⟨s1,s2,s3⟩:=Xxy (p:=Led.ent i p) (n:=Led.img) h dc9 dc9 om9 om9 hc
 obtain⟨r1,r2,r3⟩:=X0q (n:=Led.logn) s2 dc9
 unfold Led.write
 rw[if_neg (by rw[hd];decide),if_neg om9,if_neg om9]
 dsimp only
 rw[if_pos s1,if_neg (by rw[r1];decide)]
 exact⟨rfl,rfl,r2.mono om9 (Nat.le_refl _),r3.trans s3⟩
theorem X9d {L L':Led}{D D':Dsk}{mem mem':List Cell}{l:List Rw}{e:Int}{dead':Bool}{u k:Nat}(h:WrP L D mem false l e L' D' mem' dead')(hc:Xce l=0)(hL:L.dead=false)(hl:L.last<1099511627776)(hO:OkD D u k)(hb:(batS l).length≤65536)(hr:((u+(batS l).length+32:Nat):Int)≤D.room)(hk:k<4096){nn:Int}{mm:List Cell}(hn:L.last+1=nn)(hm:Xet mem (Xam l nn)=mm) :
  e=0∧dead'=false∧mem'=mm∧L'={ L with ents:=L.ents++[batS l] }∧OkD D' (u+(batS l).length+32) (k+1)∧D'.room=D.room:=by
 obtain⟨a1,a2,a3,a4,a5⟩:=Xxz hO hL hb hl hr hk
 rcases h with⟨h1,_⟩|⟨_,h1,_⟩|⟨_,_,h2,h3,⟨h4,_⟩|⟨_,h5,h6,h7⟩⟩
 ·cases h1
 ·exact absurd hc h1
 ·exact absurd a2 h4
 ·exact⟨h5,h7,by rw[h6,a1,hn,hm],h2.trans a3,h3▸a4,by rw[h3];exact a5⟩
theorem geK {κ κ1:Nat->Nat}{n m:Nat}(h:∀k,κ k≠0->n≤k)(hm:∀k,k<m->κ1 k=κ k)(hn:n≤m):∀k,κ1 k≠0->n≤k:=λk hk=>by
 rcases Nat.lt_or_ge k m with h1|h1
 ·rw[hm k h1]at hk;exact h k hk
 ·omega
def rowX : Rw:=⟨[97],[120],false⟩
def rowD : Rw:=⟨[97],[],true⟩
def ca1 : Cell:=⟨[97],[120],false,1⟩
def ca2 : Cell:=⟨[97],[],true,2⟩
theorem X0s : (batS [rowX]).length≤100:=by
 have h1:=Xla [rowX]
 have h2:=Xao (0+1)
 have h3:rsz [rowX]=2:=rfl
 unfold batS
 rw[List.length_append]
 simp only [List.length_cons,List.length_nil]at *;omega
theorem X0t : (batS [rowD]).length≤100:=by
 have h1:=Xla [rowD]
 have h2:=Xao (0+1)
 have h3:rsz [rowD]=1:=rfl
 unfold batS
 rw[List.length_append]
 simp only [List.length_cons,List.length_nil]at *;omega
theorem Xly : (tblS [ca1]).length≤31000:=by
 have:=Xql (l:=[ca1]) (by intro c hc;rw[List.mem_singleton.1 hc];decide) dc9
 simpa using this
theorem X9e : Xbv [ca1]=0:=by
 rw[Xvb dc9 dc9]
 unfold encE
 rw[if_neg (by have:=Xly;omega)]
def fX : Fi:=Xfc 0 1 0 [ca1]
theorem X6q : fX.size=↑((tblS [ca1]).length+12):=by
 show((recS (tblS [ca1])).length:Int)=_
 rw[Xby]
theorem Yah : isV ⟨2,[fX]⟩=true:=by
 have h1:=Xly
 have h2:=X6q
 refine X1s dc9 dc9 sp9 ?_ sp9 rfl
 simp only [List.all_cons,List.all_nil,Bool.and_true]
 unfold okF
 rw[h2]
 have e1:fX.id=1:=rfl
 have e2:fX.lev=0:=rfl
 have e3:fX.fst=[97]:=rfl
 have e4:fX.lst=[97]:=rfl
 rw[e1,e2,e3,e4]
 simp only [Bool.and_eq_true,decide_eq_true_eq]
 refine⟨⟨⟨⟨⟨⟨⟨⟨by decide,by decide⟩,by decide⟩,by decide⟩,by omega⟩,by omega⟩,by decide⟩,by decide⟩,by decide⟩
theorem X0u : (verS ⟨2,[fX]⟩).length≤200:=by
 unfold verS
 have a1:=Xao (2:Int).toNat
 have a2:=Xao (0+1)
 have e:([fX].flatMap filS)=filS fX:=by simp
 have b1:=Xao fX.id.toNat
 have b2:=Xao fX.lev.toNat
 have b3:=Xao fX.size.toNat
 have e3:fX.fst=[97]:=rfl
 have e4:fX.lst=[97]:=rfl
 simp only [e]
 unfold filS rowS
 rw[e3,e4]
 simp only [List.length_append,List.length_cons,List.length_nil]at *
 omega
theorem X9f : Xcl 1=[116,49]:=by
 have:Lib.itoa 1=[49]:=by
  unfold Lib.itoa
  rw[if_neg dc9]
  unfold Lib.decDigits
  simp
 unfold Xcl;rw[this]
theorem mgX {m:List Cell}(h:Mg [ca1] m):m=[ca1]:=by
 obtain⟨l',hp,_,rfl⟩:=h
 rw[List.perm_singleton.1 hp];rfl
theorem segX : Xas [ca1]=[[ca1]]:=by decide
theorem X9g {L L':Led}{D D':Dsk}{V':Vs}{ts':List Tb}{mem':List Cell}{ok dead':Bool}{e:Int}{u k:Nat}(h:FluP L D ⟨1,[]⟩ [] [ca1] false ok e L' D' V' ts' mem' dead')(hL:L.dead=false)(hl:0≤L.last∧L.last<1099511627776)(hO:OkD D u k)(hr:((u+32000:Nat):Int)≤D.room)(hk:k<4000) :
  ok=true∧e=0∧mem'=[]∧dead'=false∧(∃p,L'=⟨L.last,p,[],false⟩)∧V'=⟨2,[fX]⟩∧(∃bt vl vb,ts'=[⟨(0,1),bt,vl,vb,[ca1]⟩])∧OkD D' (u+32000) (k+2)∧D'.room=D.room:=by
 rcases h with⟨h1,_⟩|⟨_,h1,_⟩|⟨_,_,m,hm,hC,hE⟩
 ·cases h1
 ·cases h1
 ·have:=mgX hm
  subst this
  have hA:addF 0 1 (Xas [ca1])=[fX]:=by rw[segX];rfl
  have hF:Xdq 1 (Xas [ca1])=[(1,recS (tblS [ca1]))]:=by rw[segX];rfl
  have hT:Xlo 0 1 (Xas [ca1])=[((0,1),[ca1])]:=by rw[segX];rfl
  have hN:Xcn 1 [fX]=2:=rfl
  have hP:∀fs':List Fi,fs'.Perm (Xcv [] []++[fX])->fs'=[fX]:=λfs' hp=>List.perm_singleton.1 hp
  have hok:Xhw ⟨1,[]⟩ [] [fX]=true:=Xll rfl rfl (by intro f hf;rw[List.mem_singleton.1 hf];decide)
  have ht:=Xly
  have hrl:=Xby (tblS [ca1])
  obtain⟨s1,s2,s3⟩:=Xxy (n:=Xcl 1) (p:=recS (tblS [ca1])) hO (by rw[X9f];decide) (by rw[X9f];decide) om9 om9 om9
  have hv:=X0u
  obtain⟨w1,w2,w3,w4⟩:=X0r (i:=L.last) (p:=verS ⟨2,[fX]⟩) s2 hL ⟨Int.le_refl _,by omega⟩ om9 (by rw[s3];omega) om9
  have hsv:Xbz [(1,recS (tblS [ca1]))] D=(0,(D.save (Xcl 1) (recS (tblS [ca1]))).2):=by
   unfold Xbz
   rw[if_neg (by rw[s1];decide)];rfl
  unfold ChgP at hC
  simp only [hA,hF,hT,hN,List.map_nil]at hC
  rcases hC with⟨he,_,_,_,_,_,hx⟩|⟨_,_,fs',hp,_,_,_,hx⟩
  ·exfalso
   rcases hx with⟨sg,hs,hb⟩|hx|⟨fs',hp,_,hx⟩
   ·rw[segX]at hs
    rw[List.mem_singleton.1 hs]at hb
    exact hb X9e
   ·rw[hok]at hx;cases hx
   ·rw[hP fs' hp]at hx
    rcases hx with hx|hx
    ·rw[Yah]at hx;cases hx
    ·omega
  ·have e1:=hP fs' hp
   subst e1
   rw[hsv]at hx
   dsimp only at hx
   rcases hx with⟨hx,_⟩|⟨_,hL',hD',hx⟩
   ·exact absurd rfl hx
   ·rcases hx with⟨hx,_⟩|⟨_,he,hV,hd,tbs,htb,hts⟩
    ·exact absurd w1 hx
    ·rcases hE with⟨h9,_⟩|⟨_,h8,h7⟩
     ·exact absurd he h9
     ·rcases tbs with _|⟨t,_|⟨t2,r⟩⟩
      ·cases htb
      ·obtain⟨th,bt,vl,vb,tc⟩:=t
       simp only [List.map_cons,List.map_nil,List.cons.injEq,Prod.mk.injEq,and_true]at htb
       obtain⟨rfl,rfl⟩:=htb
       refine⟨h8,he,h7,hd,⟨_,hL'.trans w2⟩,hV,⟨bt,vl,vb,hts⟩,hD'▸w3.mono om9 om9,?_⟩
       rw[hD',w4,s3]
      ·simp at htb
theorem Xpg {κ:Nat->Nat}{bs bd bl bo bm:Nat}{vf:Value}{L:Led}{D:Dsk}{V:Vs}{ts:List Tb}{mem:List Cell}{dead:Bool}{w:World}(h:StE κ bs bd bl bo bm vf L D V ts mem dead w)(key:Str)(hml:mem.length≤900000)(hfl:V.fs.length≤100000)(hfs:∀f∈V.fs,(∃t,Xb8 ts (f.lev,f.id)=some t)∧Xai f.lev∧Xai f.id)(hkl:key.length≤1000000000) :
  Calls Tryz.prog 22 [ptr bs 0,S key].toArray w (Pure w (.tuple #[S (getR (Xeu mem V.fs ts key)).1,B (getR (Xeu mem V.fs ts key)).2])):=by
 have hmo:=h.mp.at
 rw[show lk (ts.map Tb.kv)=tabP ts from funext (Xm6 ts)]at hmo
 exact X8g bs bd bl V.next vf bo bm _ dead _ mem V.fs ts key w h.m h.mr hml h.vs hfl hmo h.tb hfs hkl
theorem X6r {κ:Nat->Nat}{bs bd bl bo bm:Nat}{vf:Value}{L:Led}{D:Dsk}{V:Vs}{ts:List Tb}{mem:List Cell}{dead:Bool}{w:World}(h:StE κ bs bd bl bo bm vf L D V ts mem dead w) :
  Calls Tryz.prog 17 [ptr bs 0].toArray w (Pure w (I L.last)):=by
 obtain⟨F,G,vd,ve,vs,h1,h2,_⟩:=h.ld
 exact X8f bs bd bl V.next vf bo bm dead G vd ve vs L w h.m h2
theorem Yav : (dsk0 65536).Wf:=⟨by decide,by decide,by decide,by decide,by decide,λp hp=>(by cases hp),λp hp=>(by cases hp),List.nodup_nil,by decide⟩
theorem Yai : OkD (dsk0 65536) 0 0:=⟨rfl,Nat.le_refl _,Nat.le_refl _,List.nodup_nil,λp hp=>(by cases hp)⟩
theorem getX {bt:Nat}{vl vb:Value} : Xeu [] [fX] [⟨(0,1),bt,vl,vb,[ca1]⟩] [97]=some ca1:=by
 have e:fX=⟨1,0,fX.size,[97],[97]⟩:=rfl
 rw[e];rfl
theorem Yaj {fs:List Fi}{ts:List Tb} : Xeu [ca2] fs ts [97]=some ca2:=rfl
theorem Xx0 (w:World)(hgv:GV w) :
  Calls Tryz.prog 18 [].toArray w (Pure w (B true)):=by
 refine cw Tryz.func18 ?_
 have hx:=Ext.refl w
 refine ws λ_ Z1=>wr (da (de Z1 (ws λ_ Z2=>wr ?_)))
 refine cG (Em.diskNew_w 65536 _ dc9 dc9) RX.all λu1 w1 x1 hf1=>?_
 have hsz1:=hx.size
 replace hx:=hx.trans x1
 obtain⟨bd,mf,rfl,hd,hm,hgd,hgm⟩:=hf1
 refine dm ?_
 refine dx rfl rfl (dx rfl rfl (da (da (de Z2 (ws λ_ Z3=>wr (dm ?_))))))
 have hmfl:=hm.lt
 have hsz0:=hx.size
 refine cG (Em.lsmOpen_w bd mf 65536 _ hd hm) RX.all λu2 w2 x2 hf2=>?_
 have hsz2:=hx.size
 replace hx:=hx.trans x2
 obtain⟨bs,bl,mo,bm,ba,bn,rfl,hE,k1,k2,k3,k4,k5,k6⟩:=hf2
 have hS:=X9b hE om9 Yav
 have hκ:∀k,(kap0 bs bd bl mo bm ba bn mf) k≠0->w.heap.size≤k:=λk hk=>by
  unfold kap0 at hk
  repeat' split at hk
  all_goals first|omega|exact absurd rfl hk
 refine dm ?_
 refine dx rfl rfl (dx rfl rfl (da (da (de Z3 (ws λ_ Z4=>ws λ_ Z5=>wr (dm ?_))))))
 refine dp (Xav rfl rfl) (dm ?_)
 refine Xag 22 rfl (λc1=>?_) (λc1=>?_)
 ·exact absurd rfl c1
 refine dm ?_
 refine dp (Xa6 kr9 rfl rfl) (dk' (de Z5 ?_))
 refine wi (λc2=>?_) λc2=>?_
 ·exact absurd c2 sp9
 refine Xaa (Z4 _ _ (ws λ_ Z6=>wr (dm ?_)))
 refine db (zs:=[S [],S [],B false]) (pl:=[(0,1),(1,1),(2,1)]) (pv:=[(0,_),(1,_)]) (cs:=[_,_,B false]) ?_
 refine li (e:=48) (sz:=3) (zs:=[S [],S [],B false]) (pv:=[(0,.agg ⟨[_,_,_]⟩)]) (cs:=[_,_,_]) RX.all (λb1 w3 e1 x3 m1=>?_)
 have g1:=hx.ge e1
 have a1_hS:=hS.lt
 replace hS:=hS.ext x3
 replace hx:=hx.trans x3
 have hszc:=hx.size
 refine cD (Xlp (kap0 bs bd bl mo bm ba bn mf) bs bd bl mo bm (.slice none 0 0) led0 (dsk0 65536) ⟨1,[]⟩ [] [] false [rowX] _ _ hS (m1.arr (enc:=Rw.cs) (sz:=3) (l:=[rowX]) rfl ir9 rfl sp9) dc9 (λ_=>Decidable.byContradiction λh9=>by have h8:=a1_hS _ h9;have h7:=e1;dsimp only [base]at h8;omega) dc9 dc9 dc9) (.inl rfl) λu4 w4 x4 hf4=>?_
 have hsz4:=hx.size
 replace hx:=hx.own x4 (λi hi=>(hκ i hi))
 obtain⟨e1,κ1,L1,D1,mem1,dead1,rfl,hmv,hS9,hW⟩:=hf4
 have hbl:=X0s
 obtain⟨he1,rfl,rfl,rfl,hOk1,hro1⟩:=X9d hW dc9 rfl dc9 Yai om9 (by show _≤(65536:Int);omega) dc9 (nn:=1) (mm:=[ca1]) rfl dc9
 have hS:=hS9
 have hκ1:=geK hκ hmv hszc
 refine de Z6 (ws λ_ Z7=>wr (dm ?_))
 have hszd:=hx.size
 have hS:StE κ1 bs bd bl mo bm (.slice none 0 0) _ D1 ⟨1,[]⟩ [] [ca1] false _:=hS
 refine cD (Xlq κ1 bs bd bl mo bm (.slice none 0 0) _ D1 ⟨1,[]⟩ [] [ca1] false _ hS dc9 (by intro c hc;rw[List.mem_singleton.1 hc];decide) rfl (hgv.ext hx) (λk hk=>Decidable.byContradiction λh9=>by have h8:=hκ1 k h9;have h7:=hgv.lt k hk;omega) dc9) (.inl rfl) λu5 w5 x5 hf5=>?_
 have hsz5:=hx.size
 replace hx:=hx.own x5 (λi hi=>(hκ1 i hi))
 obtain⟨ok,e2,κ2,bm2,vf2,L2,D2,V2,ts2,mem2,dead2,rfl,hmv2,hS9,hFl⟩:=hf5
 obtain⟨rfl,rfl,rfl,rfl,⟨p2,rfl⟩,rfl,⟨bt,vl,vb,rfl⟩,hOk2,hro2⟩:=X9g hFl rfl dc9 hOk1 (by rw[hro1];show _≤(65536:Int);omega) dc9
 have hS:=hS9
 have hκ2:=geK hκ1 hmv2 hszd
 refine dm ?_
 refine dx rfl rfl (dx rfl rfl (da (da (de Z7 (ws λ_ Z8=>wr (dm ?_))))))
 refine cP ((show Calls Tryz.prog 22 [ptr bs 0,S [97]].toArray w5 (Pure w5 (.tuple #[S [120],B true])) from by have h9:=Xpg hS [97] dc9 sp9 (by intro f hf;rw[List.mem_singleton.1 hf];exact⟨⟨_,rfl⟩,by unfold Xai;decide,by unfold Xai;decide⟩) dc9;rw[getX]at h9;exact h9)) RX.all λw6 x6=>?_
 replace hS:=hS.ext x6
 replace hx:=hx.trans x6
 refine dm ?_
 refine dx rfl rfl (dx rfl rfl (da (da (de Z8 (ws λ_ Z9=>wr (dm ?_))))))
 refine db (zs:=[S [],S [],B false]) (pl:=[(0,1),(1,1),(2,1)]) (pv:=[(0,_),(2,_)]) (cs:=[_,S [],_]) ?_
 refine li (e:=48) (sz:=3) (zs:=[S [],S [],B false]) (pv:=[(0,.agg ⟨[_,_,_]⟩)]) (cs:=[_,_,_]) RX.all (λb2 w7 e2 x7 m2=>?_)
 have g2:=hx.ge e2
 have a2_hS:=hS.lt
 replace hS:=hS.ext x7
 replace hx:=hx.trans x7
 have hsze:=hx.size
 refine cD (Xlp κ2 bs bd bl mo bm2 vf2 _ D2 ⟨2,[fX]⟩ [⟨(0,1),bt,vl,vb,[ca1]⟩] [] false [rowD] _ _ hS (m2.arr (enc:=Rw.cs) (sz:=3) (l:=[rowD]) rfl ir9 rfl sp9) dc9 (λ_=>Decidable.byContradiction λh9=>by have h8:=a2_hS _ h9;have h7:=e2;dsimp only [base]at h8;omega) dc9 (by show 0≤900000;decide) dc9) (.inl rfl) λu8 w8 x8 hf8=>?_
 have hsz8:=hx.size
 replace hx:=hx.own x8 (λi hi=>(hκ2 i hi))
 obtain⟨e3,κ3,L3,D3,mem3,dead3,rfl,hmv3,hS9,hW3⟩:=hf8
 have hbl3:=X0t
 obtain⟨he3,hde3,hme3,hLe3,hOk3,hro3⟩:=X9d hW3 dc9 rfl (by show(1:Int)<1099511627776;decide) hOk2 om9 (by rw[hro2,hro1];show _≤(65536:Int);omega) dc9 (nn:=2) (mm:=[ca2]) rfl dc9
 rw[hde3,hme3,hLe3]at hS9
 have hS:StE κ3 bs bd bl mo bm2 vf2 _ D3 ⟨2,[fX]⟩ [⟨(0,1),bt,vl,vb,[ca1]⟩] [ca2] false _:=hS9
 refine de Z9 (ws λ_ Z10=>wr (dm ?_))
 refine cP ((show Calls Tryz.prog 22 [ptr bs 0,S [97]].toArray w8 (Pure w8 (.tuple #[S [],B false])) from by have h9:=Xpg hS [97] dc9 sp9 (by intro f hf;rw[List.mem_singleton.1 hf];exact⟨⟨_,rfl⟩,by unfold Xai;decide,by unfold Xai;decide⟩) dc9;rw[Yaj]at h9;exact h9)) RX.all λw9 x9=>?_
 replace hS:=hS.ext x9
 replace hx:=hx.trans x9
 refine dm ?_
 refine dx rfl rfl (dx rfl rfl (da (da (de Z10 (ws λ_ Z11=>wr (dm ?_))))))
 refine dp (Xa9 rfl rfl) (dm ?_)
 refine Xag 51 rfl (λc3=>?_) (λc3=>?_)
 ·refine dm ?_
  refine dk' ?_
  refine dm ?_
  refine dm ?_
  refine dk' ?_
  refine dm ?_
  refine dm ?_
  refine dp (Xfr rfl rfl) (dk' ?_)
  refine dm ?_
  refine Xag 61 rfl (λc4=>?_) (λc4=>?_)
  ·refine dm ?_
   refine dn ?_
   refine dk' ?_
   refine dm ?_
   refine dm ?_
   refine cP (X6r hS) RX.all λw10 x10=>?_
   replace hx:=hx.trans x10
   refine dp (Xa9 rfl rfl) (dk' ?_)
   refine da (de Z11 (Xae ?_))
   refine ro ?_
   exact⟨rfl,hx⟩
  exact absurd rfl c4
 exact absurd rfl c3
theorem Xx1 {P:Program}{W:World}{name:String}{k:IntKind}{zs:List Int}{a b:String×DataW Unit}{g:Nat}{t e:TypeId}{n:Nat}
  (hg:P.globalNamed name=some g) (hty:(P.globals[g]?).map (·.type)=some t) (ht:P.underlying t=some (.array n e)) (he:P.underlying e=some (.int k)) (hce:P.cellsOf e=1) (hct:P.cellsOf t=n)
  (h:laidMet P [a,b,(name,Lib.tabData k zs)] W):Lib.TabIs P W name k zs:=by
 obtain⟨ps,hv,_⟩:=h
 obtain⟨_,_,_,_,_,q1,_,_,_,_,hv,_⟩:=hv
 obtain⟨_,_,_,_,_,q2,_,_,_,_,hv,_⟩:=hv
 obtain⟨g',t',cs,fuel,p,q,hg',ht',hvar,hd,_,_⟩:=hv
 obtain rfl:=Option.some.inj (hg.symm.trans hg')
 obtain rfl:=Option.some.inj (hty.symm.trans ht')
 unfold Lib.TabIs
 rw[hvar,←Lib.cells_of_tab ht he hce hct hd]
theorem X0v : (Rows.laid_internal_strconv_uint64pow10:DataW Unit)=Lib.tabData .u64 Lib.pow10Tab:=by rfl
theorem GV.of_row {a b : String × DataW Unit} {w : World} (_ : w.ShapedOpen Tryz.prog) (h : laidMet Tryz.prog [a, b, ("internal/strconv.uint64pow10", Rows.laid_internal_strconv_uint64pow10)] w) : GV w := by
 rw[X0v]at h
 exact⟨Xx1 (g:=1) (t:=366) (e:=236) (n:=20) kr9 kr9 kr9 kr9 kr9 kr9 h⟩
theorem Yaw : (dsk0 4194304).Wf:=⟨by decide,by decide,by decide,by decide,by decide,λp hp=>(by cases hp),λp hp=>(by cases hp),List.nodup_nil,by decide⟩
theorem Xnz {S i:Nat}{L:Led}{V:Vs}{ts:List Tb}{mem:List Cell}{M:List Rw}(h:TI S i L V ts mem M)(hS:S≤60000)(hi:i≤60):L.last≤60∧(allC mem ts).length≤30000∧mem.length≤30000∧ts.length≤30000∧V.fs.length≤1024∧Xb6 mem≤100000000000∧(∀c∈mem,c.key.length≤4096∧c.val.length≤16384∧c.seq≤4611686018427387904):=by
 have h1:=h.len
 have h2:=h.l0
 have h3:=h.sto.tlen
 have h4:(allC mem ts).length=mem.length+(ts.flatMap (·.cs)).length:=by unfold allC;rw[List.length_append]
 obtain⟨_,_,h5,_⟩:=Xb5 h.sto.isv
 have h5:V.fs.length≤1024:=h5
 have h6:=λc (hc:c∈mem)=>h.sto.cellsB om9 c (Xat.2 (.inl hc))
 refine⟨by omega,by omega,by omega,by omega,h5,?_,h6⟩
 have h7:=Xnh (l:=mem) (λc hc=>by have:=h6 c hc;unfold Xbh;omega)
 omega
theorem Yak {S i:Nat}{L:Led}{V:Vs}{ts:List Tb}{mem:List Cell}{M:List Rw}(h:TI S i L V ts mem M):∀f∈V.fs,(∃t,Xb8 ts (f.lev,f.id)=some t)∧Xai f.lev∧Xai f.id:=λf hf=>by
 obtain⟨t,ht,hv⟩:=h.sto.fwd f hf
 have h1:=Xf9 h.sto.isv f hf
 exact⟨⟨t,by rw[←hv.h];exact Xfo h.sto.nod ht⟩,h1.2,h1.1⟩
theorem X0w {M:List Rw}{key:Str}{r:Rw}{k:Nat}(hM:RUp M)(hk:M[k]?=some r)(e:r.key=key):M.find? (λr=>decide (r.key=key))=some r:=by
 cases h:M.find? (λr=>decide (r.key=key))with
 | none=>exact absurd (List.find?_eq_none.1 h r (List.mem_of_getElem? hk)) (by simp [e])
 | some d=>
  have h1:=List.mem_of_find?_eq_some h
  have h2:d.key=key:=by simpa using List.find?_some h
  rcases Xrd hM h1 (List.mem_of_getElem? hk)with e2|e2|e2
  ·rw[e2]
  ·rw[h2,←e,Xau]at e2;cases e2
  ·rw[h2,←e,Xau]at e2;cases e2
theorem Xx2 {M:List Rw}{key:Str}(h:∀(j:Nat) (r:Rw),j<M.length->M[j]?=some r->r.key≠key):M.find? (λr=>decide (r.key=key))=none:=by
 rw[List.find?_eq_none]
 intro r hr
 obtain⟨j,hj⟩:=List.getElem?_of_mem hr
 have:=h j r (List.getElem?_eq_some_iff.1 hj).1 hj
 simpa using this
theorem X0x (l:List Ac)(v:Value)(key:Str)(w:World)(hv:Arr Ac.cs 5 w v l)(hl:l.length≤140737488355328)(hok:∀a∈l,AcOk w a)(hgv:GV w) :
  Calls Tryz.prog 4 [v,S key].toArray w (Pure w (B true)):=by
 refine cw Tryz.func4 ?_
 have hx:=Ext.refl w
 refine ws λ_ Z1=>wr (da (de Z1 (ws λ_ Z2=>ws λ_ Z3=>wr (dm ?_))))
 refine cP (X6c l v _ (hv.ext hx) hl (λa ha=>(hok a ha).ext hx)) RX.all λw1 x1=>?_
 replace hx:=hx.trans x1
 refine dm ?_
 refine Xbx 13 rfl (λc1=>?_) (λc1=>?_)
 ·refine dk (dk (dk (dk' (de Z3 ?_))))
  refine W_t rfl (ws λ_ Z4=>wr (da (de Z4 (Xae ?_))))
  refine ro ?_
  exact⟨rfl,hx⟩
 refine dm ?_
 refine dt rfl (dp (Xa1 rfl rfl) (dk' (de Z3 ?_)))
 refine wi (λc2=>?_) λc2=>?_
 ·refine ws λ_ Z5=>wr (da (de Z5 (Xae ?_)))
  refine ro ?_
  exact⟨rfl,hx⟩
 have hhv:hvS l≤60000:=by simpa using c1
 refine Xaa (Z2 _ _ (ws λ_ Z6=>wr ?_))
 have hszb:=hx.size
 refine cG (X6o 4194304 _ dc9 dc9 Yaw) RX.all λu2 w2 x2 hf2=>?_
 have hsz2:=hx.size
 replace hx:=hx.trans x2
 obtain⟨κ,pb,bd,bx,bs,bl,bo,bm,sb,rfl,hp,hS,hκ9,hκp,hpge⟩:=hf2
 have hκ:∀k,κ k≠0->w.heap.size≤k:=λk hk=>Nat.le_trans hszb (hκ9 k hk)
 refine da (de Z6 (ws λ_ Z7=>ws λ_ Z8=>wr (dm ?_)))
 refine dp (Xa6 kr9 rfl rfl) (dm ?_)
 refine Xag 21 rfl (λc3=>?_) (λc3=>?_)
 ·cases c3
 refine dm ?_
 refine dz rfl (df 2 rfl (dl rfl (hp.at rfl) (dp (Xa6 kr9 rfl rfl) (dk' (de Z8 ?_)))))
 refine wi (λc4=>?_) λc4=>?_
 ·cases c4
 refine Xaa (Z7 _ _ (ws λ_ Z9=>wr (da (de Z9 ?_))))
 refine Xc1 (G:=(Nat->Nat)×Nat×Value×Led×Dsk×Vs×List Tb×List Cell×Bool×Value×List Rw) (λ(κ,bm,vf,L,D,V,ts,mem,dead,vm,M)=>[(1,S key),(5,ptr pb 0),(6,vm)]) (λ(κ,bm,vf,L,D,V,ts,mem,dead,vm,M) w'=>Ext w w'∧Blk w' pb [ptr bd 0,ptr bx 0,ptr bs 0,ptr sb 0] 31∧TI 60000 60 L V ts mem M∧(∀k,κ k≠0->w.heap.size≤k)∧κ pb=0∧(M≠[]->κ (base vm).1=0)∧StE κ bs bd bl bo bm vf L D V ts mem dead w'∧Arr Rw.cs 3 w' vm M) ?_ ?_
 ·refine ws λ_ Z10=>wr (da (de Z10 (Xab ?_)))
  refine Xaj (G:=Nat×(Nat->Nat)×Nat×Value×Led×Dsk×Vs×List Tb×List Cell×Bool×Value×List Rw) (λ(i,κ,bm,vf,L,D,V,ts,mem,dead,vm,M)=>[(0,v),(1,S key),(5,ptr pb 0),(6,vm),(7,I ↑i)]) (λ(i,κ,bm,vf,L,D,V,ts,mem,dead,vm,M) w'=>Ext w w'∧Blk w' pb [ptr bd 0,ptr bx 0,ptr bs 0,ptr sb 0] 31∧i≤l.length∧i≤60∧TI ((l.take i).map actW).sum i L V ts mem M∧(∀k,κ k≠0->w.heap.size≤k)∧κ pb=0∧(M≠[]->κ (base vm).1=0)∧StE κ bs bd bl bo bm vf L D V ts mem dead w'∧Arr Rw.cs 3 w' vm M) (λ(i,κ,bm,vf,L,D,V,ts,mem,dead,vm,M)=>l.length-i) (0,κ,bm,.slice none 0 0,led0,dsk0 4194304,⟨1,[]⟩,[],[],false,.slice none 0 0,[]) ?_ ?_ ?_
  ·exact zz5
  ·exact⟨hx,hp,Nat.zero_le _,Nat.zero_le _,TI.nil,hκ,hκp,λh9=>absurd rfl h9,hS,Arr.nil⟩
  intro X3 g3 w3 hF3
  obtain⟨i,κ,bm,vf,L,D,V,ts,mem,dead,vm,M⟩:=g3
  clear hx hp hS
  obtain⟨hx,hp,hi1,hi2,hT,hκ,hκp,hκm,hS,hA⟩:=hF3
  refine ws λ_ Z11=>ws λ_ Z12=>wr (dm (dm ?_))
  refine dv 34 5 (hv.ext hx).sl (dp (Xaf rfl rfl) (dm ?_))
  refine Xag 32 rfl (λc5=>?_) (λc5=>?_)
  ·refine dm ?_
   refine dp (Xaf rfl rfl) (dk' (de Z12 ?_))
   refine wi (λc6=>?_) λc6=>?_
   ·obtain⟨a,hk⟩:∃a,l[i]?=some a:=gtE
    have hok9:=hok a (List.mem_of_getElem? hk)
    have hav:=hok9.v
    have hge:=X2z (k:=a.l.length) om9 hk (Nat.le_refl _)
    rw[List.take_length]at hge
    have hst:=Xg7 actW hk
    have haw:actW a=a.key.length+a.to.length+(a.l.map rowW).sum:=rfl
    have hrs:=Xlv a.l
    have hml9:=hT.ml
    refine Xaa (Z11 _ _ (ws λ_ Z13=>Xab ?_))
    refine Xc1 (G:=(Nat->Nat)×Nat×Value×Led×Dsk×Vs×List Tb×List Cell×Bool×Value×List Rw) (λ(κ,bm,vf,L,D,V,ts,mem,dead,vm,M)=>[(0,v),(1,S key),(5,ptr pb 0),(6,vm),(7,I ↑i)]) (λ(κ,bm,vf,L,D,V,ts,mem,dead,vm,M) w'=>Ext w w'∧Blk w' pb [ptr bd 0,ptr bx 0,ptr bs 0,ptr sb 0] 31∧TI ((l.take (i+1)).map actW).sum (i+1) L V ts mem M∧(∀k,κ k≠0->w.heap.size≤k)∧κ pb=0∧(M≠[]->κ (base vm).1=0)∧StE κ bs bd bl bo bm vf L D V ts mem dead w'∧Arr Rw.cs 3 w' vm M) ?_ ?_
    ·refine ws λ_ Z14=>wr (dm (dm ?_))
     refine di 34 5 hv.sl rfl (hv.lt hk) (df 0 rfl (dl rfl (((hv.ext hx).row hk).at rfl) (de Z14 (Xab (ws λ_ Z15=>wr (dp (Xa9 rfl rfl) (da (de Z15 ?_))))))))
     refine wi (λc7=>?_) λc7=>?_
     ·refine ws λ_ Z16=>Xaq (R:=Ext) Ext.refl (λ_ _ _=>Ext.trans) kr9 [3,8] [(0,.p,false),(1,.p,false),(2,.p,false),(3,.l,false),(4,.p,false),(5,.p,false),(6,.p,false),(7,.p,false),(8,.l,false),(9,.x,true),(10,.p,false)] rfl kr9 kr9 (λw4 ew4=>?_)
      have x4:=drewx ew4
      clear ew4
      replace hp:=hp.ext x4
      replace hS:=hS.ext x4
      replace hA:=hA.ext x4
      replace hx:=hx.trans x4
      refine dm ?_
      refine dz rfl (df 2 rfl (dL rfl (λ_ hR=>((hp.ext hR).at rfl)) (dm (dm ?_))))
      refine di 34 5 hv.sl rfl (hv.lt hk) (df 4 rfl (dL rfl (λ_ hR=>(((hv.ext (hx.trans hR)).row hk).at rfl)) ?_))
      have hszc:=hx.size
      have hpl:=hp.lt
      have hbA:M≠[]->(base vm).1<w4.heap.size:=λh9=>Arr.base_lt hA dc9 h9
      obtain⟨q1,q2,q3,q4,q5,q6,q7⟩:=Xnz hT om9 om9
      have hκ0:∀k,k<w.heap.size->κ k=0:=λk hk=>Decidable.byContradiction λh9=>by have:=hκ k h9;omega
      refine cD (Xlp κ bs bd bl bo bm vf L D V ts mem dead a.l a.v _ hS (hav.ext hx) om9 (λh9=>hκ0 _ (hav.base_lt dc9 h9)) om9 (by have:=hT.en;omega) q6) (.inl rfl) λu5 w5 x5 hf5=>?_
      have hsz5:=hx.size
      replace hp:=hp.mod x5 (λe=>e hκp)
      replace hA:=hA.mod x5 (λhl e=>e (hκm hl))
      replace hx:=hx.own x5 (λi hi=>(hκ i hi))
      obtain⟨e,κ1,L1,D1,mem1,dead1,rfl,hmv,hS9,hW⟩:=hf5
      have hS:=hS9
      have hκ1:=geK hκ hmv hszc
      have hκp1:κ1 pb=0:=(hmv _ hpl).trans hκp
      have hκm1:M≠[]->κ1 (base vm).1=0:=λh9=>(hmv _ (hbA h9)).trans (hκm h9)
      refine dp (Xa9 rfl rfl) (de Z16 (wi (λc8=>?_) λc8=>?_))
      ·have hT1:=hT.write hW
       rw[if_pos c8]at hT1
       refine wr (dm (dm (dm ?_)))
       refine di 34 5 hv.sl rfl (hv.lt hk) (df 4 rfl (dl rfl (((hv.ext hx).row hk).at rfl) ?_))
       have hltS:=hS.lt
       refine cG (Yae M vm a.l a.v _ hA (hav.ext hx) om9 om9 hT.up) RX.all λvm2 w6 x6 hf6=>?_
       have hsz6:=hx.size
       replace hp:=hp.ext x6
       replace hA:=hA.ext x6
       replace hS:=hS.ext x6
       replace hx:=hx.trans x6
       obtain⟨hA2,hg9⟩:=hf6
       have hκm2:layN M a.l≠[]->κ1 (base vm2).1=0:=λh9=>by
        rcases hg9 with e9|h8
        ·rw[e9]
         refine hκm1 (λe8=>h9 ?_)
         have h7:=X0n (e9▸hA2.sl) hA.sl
         rw[e8]at h7
         exact List.eq_nil_of_length_eq_zero (by rw[←e8]at h7;rw[h7,e8];rfl)
        ·exact Decidable.byContradiction λh7=>by have:=hltS _ h7;have:=h8 h9;omega
       refine da (Xad (?_))
       exact⟨(κ1,bm,vf,L1,D1,V,ts,mem1,dead1,vm2,layN M a.l),zz5,hx,hp,hT1.mono om9 (Nat.le_refl _),hκ1,hκp1,hκm2,hS,hA2⟩
      have hT1:=hT.write hW
      rw[if_neg c8]at hT1
      refine Xaa ?_
      exact⟨(κ1,bm,vf,L1,D1,V,ts,mem1,dead1,vm,M),zz5,hx,hp,hT1.mono om9 (Nat.le_refl _),hκ1,hκp1,hκm1,hS,hA⟩
     refine ws λ_ Z17=>wr (dp (Xa9 rfl rfl) (da (de Z17 ?_)))
     refine wi (λc9=>?_) λc9=>?_
     ·refine wr (dm ?_)
      refine dz rfl (df 2 rfl (dl rfl (hp.at rfl) ?_))
      have hszc:=hx.size
      have hpl:=hp.lt
      have hbA:M≠[]->(base vm).1<w3.heap.size:=λh9=>Arr.base_lt hA dc9 h9
      obtain⟨q1,q2,q3,q4,q5,q6,q7⟩:=Xnz hT om9 om9
      have hκ0:∀k,k<w.heap.size->κ k=0:=λk hk=>Decidable.byContradiction λh9=>by have:=hκ k h9;omega
      refine cD (Xlq κ bs bd bl bo bm vf L D V ts mem dead _ hS q3 q7 hT.sto.isv (hgv.ext hx) (λk hk=>hκ0 k (hgv.lt k hk)) om9) (.inl rfl) λu7 w7 x7 hf7=>?_
      have hsz7:=hx.size
      replace hp:=hp.mod x7 (λe=>e hκp)
      replace hA:=hA.mod x7 (λhl e=>e (hκm hl))
      replace hx:=hx.own x7 (λi hi=>(hκ i hi))
      obtain⟨ok1,e1,κ1,bm1,vf1,L1,D1,V1,ts1,mem1,dead1,rfl,hmv,hS9,hF⟩:=hf7
      have hS:=hS9
      have hκ1:=geK hκ hmv hszc
      have hκp1:κ1 pb=0:=(hmv _ hpl).trans hκp
      have hκm1:M≠[]->κ1 (base vm).1=0:=λh9=>(hmv _ (hbA h9)).trans (hκm h9)
      refine Xad (?_)
      exact⟨(κ1,bm1,vf1,L1,D1,V1,ts1,mem1,dead1,vm,M),zz5,hx,hp,(hT.flush hF).mono om9 (Nat.le_succ _),hκ1,hκp1,hκm1,hS,hA⟩
     refine ws λ_ Z18=>wr (dp (Xa9 rfl rfl) (da (de Z18 ?_)))
     refine wi (λc10=>?_) λc10=>?_
     ·refine wr (dm ?_)
      refine dz rfl (df 2 rfl (dl rfl (hp.at rfl) ?_))
      have hszc:=hx.size
      have hpl:=hp.lt
      have hbA:M≠[]->(base vm).1<w3.heap.size:=λh9=>Arr.base_lt hA dc9 h9
      obtain⟨q1,q2,q3,q4,q5,q6,q7⟩:=Xnz hT om9 om9
      have hκ0:∀k,k<w.heap.size->κ k=0:=λk hk=>Decidable.byContradiction λh9=>by have:=hκ k h9;omega
      refine cD (Xxs κ bs bd bl bo bm vf L D V ts mem dead L.last _ hS hT.sto om9 q2 (hgv.ext hx) (λk hk=>hκ0 k (hgv.lt k hk))) (.inl rfl) λu8 w8 x8 hf8=>?_
      have hsz8:=hx.size
      replace hp:=hp.mod x8 (λe=>e hκp)
      replace hA:=hA.mod x8 (λhl e=>e (hκm hl))
      replace hx:=hx.own x8 (λi hi=>(hκ i hi))
      obtain⟨did1,e1,κ1,bm1,vf1,L1,D1,V1,ts1,mem1,dead1,rfl,hmv,hS9,hF⟩:=hf8
      have hS:=hS9
      have hκ1:=geK hκ hmv hszc
      have hκp1:κ1 pb=0:=(hmv _ hpl).trans hκp
      have hκm1:M≠[]->κ1 (base vm).1=0:=λh9=>(hmv _ (hbA h9)).trans (hκm h9)
      refine Xad (?_)
      exact⟨(κ1,bm1,vf1,L1,D1,V1,ts1,mem1,dead1,vm,M),zz5,hx,hp,(hT.comp hF).mono om9 (Nat.le_succ _),hκ1,hκp1,hκm1,hS,hA⟩
     refine Xaa ?_
     exact⟨(κ,bm,vf,L,D,V,ts,mem,dead,vm,M),zz5,hx,hp,hT.mono om9 (Nat.le_succ _),hκ,hκp,hκm,hS,hA⟩
    intro X9 g9 w9 hF9
    obtain⟨κ,bm,vf,L,D,V,ts,mem,dead,vm,M⟩:=g9
    clear hx hp hS hA
    obtain⟨hx,hp,hT,hκ,hκp,hκm,hS,hA⟩:=hF9
    refine ws λ_ Z19=>wr (dm ?_)
    refine dz rfl (df 2 rfl (dl rfl (hp.at rfl) ?_))
    obtain⟨q1,q2,q3,q4,q5,q6,q7⟩:=Xnz hT om9 om9
    have hml8:=hT.ml
    refine cG (X59 κ bs bd bl bo bm vf L D V ts mem dead [] [] 0 _ hS hT.sto.nod hT.sto.okh om9 (λc hc=>(q7 c hc).2.2) om9 om9) RX.all λvs w10 x10 hf10=>?_
    have hsz10:=hx.size
    replace hp:=hp.ext x10
    replace hS:=hS.ext x10
    replace hA:=hA.ext x10
    replace hx:=hx.trans x10
    obtain⟨Lc,m9,hLm,_,hMg,hoS⟩:=hf10
    rw[hT.scan hLm hMg]at hoS
    refine dm ?_
    refine cP (X85 M M vs vm _ (hoS.arr ir9) hA om9 om9) RX.all λw11 x11=>?_
    replace hp:=hp.ext x11
    replace hS:=hS.ext x11
    replace hA:=hA.ext x11
    replace hx:=hx.trans x11
    refine dn (de Z19 ?_)
    refine wc (λc11=>?_) λc11=>?_
    ·exact absurd c11 sp9
    refine Xaa (Z13 _ _ (wr (dm ?_)))
    refine pa rfl rfl (da (Xad (?_)))
    exact⟨(i+1,κ,bm,vf,L,D,V,ts,mem,dead,vm,M),zz5,⟨hx,hp,by omega,by omega,hT,hκ,hκp,hκm,hS,hA⟩,by simp only [];omega⟩
   refine Xah ?_
   exact⟨(κ,bm,vf,L,D,V,ts,mem,dead,vm,M),zz3,hx,hp,hT.mono (by have h9:=Xlt actW l (show i≤60 by omega);unfold hvS at hhv;omega) om9,hκ,hκp,hκm,hS,hA⟩
  refine dk (dk (dk' (de Z12 ?_)))
  refine W_f rfl (Xah ?_)
  exact⟨(κ,bm,vf,L,D,V,ts,mem,dead,vm,M),zz3,hx,hp,hT.mono (by have h9:=Xlt actW l (show i≤60 by omega);unfold hvS at hhv;omega) om9,hκ,hκp,hκm,hS,hA⟩
 intro X12 g12 w12 hF12
 obtain⟨κ,bm,vf,L,D,V,ts,mem,dead,vm,M⟩:=g12
 clear hx hp hS
 obtain⟨hx,hp,hT,hκ,hκp,hκm,hS,hA⟩:=hF12
 refine ws λ_ Z20=>wr (dm ?_)
 refine dz rfl (df 2 rfl (dl rfl (hp.at rfl) (dm ?_)))
 obtain⟨q1,q2,q3,q4,q5,q6,q7⟩:=Xnz hT om9 om9
 have hml8:=hT.ml
 have hget:=hT.sto.getR om9 hT.told key
 refine cP (Xpg hS key om9 om9 (Yak hT) om9) RX.all λw13 x13=>?_
 replace hp:=hp.ext x13
 replace hS:=hS.ext x13
 replace hA:=hA.ext x13
 replace hx:=hx.trans x13
 refine dm ?_
 refine dx rfl rfl (dx rfl rfl (da (da (de Z20 (ws λ_ Z21=>ws λ_ Z22=>wr (da (de Z22 (Xab ?_))))))))
 refine Xaj (G:=Nat) (λk=>[(1,S key),(6,vm),(8,S (getR (Xeu mem V.fs ts key)).1),(9,B (getR (Xeu mem V.fs ts key)).2),(10,I ↑k)]) (λk w'=>Ext w w'∧Blk w' pb [ptr bd 0,ptr bx 0,ptr bs 0,ptr sb 0] 31∧StE κ bs bd bl bo bm vf L D V ts mem dead w'∧Arr Rw.cs 3 w' vm M∧k≤M.length∧(∀(j:Nat) (r:Rw),j<k->M[j]?=some r->r.key≠key)) (λk=>M.length-k) 0 ?_ ?_ ?_
 ·exact zz5
 ·exact⟨hx,hp,hS,hA,Nat.zero_le _,λj r h9=>absurd h9 (Nat.not_lt_zero _)⟩
 intro X14 g14 w14 hF14
 revert hF14;revert g14;intro k hF14
 clear hx hp hS hA
 obtain⟨hx,hp,hS,hA,hk1,hno⟩:=hF14
 refine ws λ_ Z23=>ws λ_ Z24=>wr (dm (dm ?_))
 refine dv 48 3 hA.sl (dp (Xaf rfl rfl) (de Z24 (wi (λc12=>?_) λc12=>?_)))
 ·obtain⟨r,hr⟩:∃r,M[k]?=some r:=gtE
  refine Xaa (Z23 _ _ (ws λ_ Z25=>Xab (ws λ_ Z26=>wr (dm (dm ?_)))))
  refine di 48 3 hA.sl rfl (hA.lt hr) (df 0 rfl (dl rfl ((hA.row hr).at rfl) (dm ?_)))
  refine dp (Xfr rfl rfl) (de Z26 (wi (λc13=>?_) λc13=>?_))
  ·rw[X0w hT.up hr c13]at hget
   refine ws λ_ Z27=>wr (dm (dm ?_))
   refine Xbx 108 rfl (λc14=>?_) (λc14=>?_)
   ·iterate 3 refine dm ?_
    refine di 48 3 hA.sl rfl (hA.lt hr) (df 1 rfl (dl rfl ((hA.row hr).at rfl) (dp (Xfr rfl rfl) (dk' ?_))))
    refine dm ?_
    refine Xag 117 rfl (λc15=>?_) (λc15=>?_)
    ·refine cP (Xx0 _ (hgv.ext hx)) RX.all λw15 x15=>?_
     replace hp:=hp.ext x15
     replace hS:=hS.ext x15
     replace hA:=hA.ext x15
     replace hx:=hx.trans x15
     refine dk' ?_
     refine da (de Z27 (Xae ?_))
     refine ro ?_
     exact⟨rfl,hx⟩
    rw[hget]at c15;exact absurd rfl c15
   rw[hget]at c14;cases c14
  refine Xaa (Z25 _ _ (wr (dm ?_)))
  refine pa rfl rfl (da (Xad (?_)))
  refine⟨k+1,zz5,⟨hx,hp,hS,hA,by omega,λj r9 hj hr9=>?_⟩,by omega⟩
  by_cases e9:j=k
  ·subst e9;rw[hr]at hr9;cases hr9;exact c13
  ·exact hno j r9 om9 hr9
 rw[Xx2 (λj r hj hr=>hno j r om9 hr)]at hget
 refine Xah (Z21 _ _ (ws λ_ Z28=>wr (dm ?_)))
 refine dn (dm ?_)
 refine Xbx 122 rfl (λc16=>?_) (λc16=>?_)
 ·refine dm ?_
  refine dp (Xfr rfl rfl) (dk' ?_)
  refine dm ?_
  refine Xag 126 rfl (λc17=>?_) (λc17=>?_)
  ·refine cP (Xx0 _ (hgv.ext hx)) RX.all λw16 x16=>?_
   replace hx:=hx.trans x16
   refine dk' ?_
   refine da (de Z28 (Xae ?_))
   refine ro ?_
   exact⟨rfl,hx⟩
  rw[hget]at c17;exact absurd rfl c17
 rw[hget]at c16;cases c16
end Go.Proofs.YtiooodckiddpmaaGreatDoor
