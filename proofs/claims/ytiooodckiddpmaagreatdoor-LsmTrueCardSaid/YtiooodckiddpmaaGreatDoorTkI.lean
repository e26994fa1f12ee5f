/-
 A part of the proof: SnA DlA CmP BtC VcZ VcY VcX EntA LyA LyB EmA EmB NiA.
-/
import Derived.Test.YtiooodckiddpmaaGreatDoorTkA
import Derived.Test.YtiooodckiddpmaaGreatDoorChecked
import Derived.KernelRfl
import Derived.Test.YtiooodckiddpmaaGreatDoorTkH
import Derived.Test.YtiooodckiddpmaaGreatDoorTkD
import Derived.Test.YtiooodckiddpmaaGreatDoorTkG
import Derived.Test.YtiooodckiddpmaaGreatDoorTkE
import Derived.Test.YtiooodckiddpmaaGreatDoorTkF
import Derived.ProofKit
import Derived.Deep.Slices
import Derived.Lib.SmallJoins
import Derived.HandedShaped
import Derived.SizedLaws
import Derived.Shelf.Vars
import Derived.Test.YtiooodckiddpmaaGreatDoorTkB
set_option maxRecDepth 100000
set_option maxHeartbeats 4000000
set_option linter.unusedVariables false
set_option linter.unusedSimpArgs false
namespace Go.Proofs.YtiooodckiddpmaaGreatDoor
open Go.Vc Go.Sp
attribute [local irreducible] W XW Dw DwT
structure QsE (B:Nat)(qs:List (Value×List Cell))(w:World):Prop where
 row:∀q∈qs,Vc.Own Cell.cs 4 79 B w q.1 q.2
section
variable {B B':Nat}{qs:List (Value×List Cell)}{w w':World}{S:Nat->Prop}
theorem QsE.ext (h:QsE B qs w)(x:Ext w w'):QsE B qs w':=⟨λq hq=>(h.row q hq).ext x⟩
theorem QsE.mod (h:QsE B qs w)(m:Vc.Mod S w w')(hS:∀q∈qs,∀k,q.1.ownBlock=some k->¬ S k):QsE B qs w':=⟨λq hq=>(h.row q hq).mod m (hS q hq)⟩
theorem QsE.ne {α:Type}{enc:α->List Value}{sz T:Nat}{v:Value}{l:List α}(h:QsE B qs w)(ho:Vc.Own enc sz T B' w v l)(hT:Nat.beq 79 T=false):∀q∈qs,∀k,q.1.ownBlock=some k->¬ v.ownBlock=some k:=λq hq k hk=>(h.row q hq).ne ho hT hk
theorem QsE.snoc {v:Value}{l:List Cell}(h:QsE B qs w)(ho:Vc.Own Cell.cs 4 79 B w v l):QsE B (qs++[(v,l)]) w:=⟨λq hq=>(List.mem_append.1 hq).elim (h.row q) (λe=>by rw[List.mem_singleton.1 e];exact ho)⟩
theorem QsE.lt (h:QsE B qs w):∀q∈qs,∀k,q.1.ownBlock=some k->k<w.heap.size:=λq hq k hk=>((h.row q hq).lt k hk).2
end
theorem Xrm {rem:List Tb}{t:Tb}(ht:t∈rem)(hnd:(rem.map (·.h)).Nodup):rem.Perm (t :: rem.filter λq=>decide (q.h≠t.h))∧((rem.filter λq=>decide (q.h≠t.h)).map (·.h)).Nodup∧∀y,(y∈rem.map (·.h)∧y≠t.h)↔y∈(rem.filter λq=>decide (q.h≠t.h)).map (·.h):=by
 refine⟨?_,List.Nodup.sublist (List.Sublist.map _ List.filter_sublist) hnd,λy=>?_⟩
 ·induction rem with
  | nil=>cases ht
  | cons a r ih=>
   rw[List.map_cons,List.nodup_cons]at hnd
   rw[List.filter_cons]
   by_cases e:a.h=t.h
   ·have ea:a=t:=by
     rcases List.mem_cons.1 ht with e2|h2
     ·exact e2.symm
     ·exact absurd (by rw[e];exact List.mem_map_of_mem h2) hnd.1
    rw[if_neg (by simp [e])]
    have:r.filter (λq=>decide (q.h≠t.h))=r:=List.filter_eq_self.2 λq hq=>by
     have:q.h≠t.h:=λe2=>hnd.1 (by rw[e,←e2];exact List.mem_map_of_mem hq)
     simpa using this
    rw[this,ea]
   ·rw[if_pos (by simpa using e)]
    have ht2:t∈r:=(List.mem_cons.1 ht).resolve_left (λe2=>e (by rw[e2]))
    exact((ih ht2 hnd.2).cons a).trans (List.Perm.swap t a _)
 ·simp only [List.mem_map,List.mem_filter,decide_eq_true_eq]
  constructor
  ·rintro ⟨⟨q,hq,rfl⟩,hn⟩;exact⟨q,⟨hq,hn⟩,rfl⟩
  ·rintro ⟨q,⟨hq,hn⟩,rfl⟩;exact⟨⟨q,hq,rfl⟩,hn⟩
def Xnq (most:Int)(l:List Rw):List Rw:=if most<1 then l else l.take most.toNat
theorem Xpd {m:List Cell}{k:Nat}{c:Cell}(h:m[k]?=some c):Xbw (m.take (k+1))=if c.del=true then Xbw (m.take k)else Xbw (m.take k)++[⟨c.key,c.val,false⟩]:=by
 unfold Xbw
 rw[Xaw h,List.filter_append,List.map_append]
 cases hd:c.del<;>simp [hd]
theorem Xxb (m:List Cell)(k:Nat):(Xbw (m.take k)).length≤m.length:=by
 unfold Xbw
 rw[List.length_map]
 have h1:=List.length_filter_le (λc:Cell=>!c.del) (m.take k)
 have h2:(m.take k).length≤m.length:=List.length_take_le' ..
 omega
theorem Xsm {m:List Cell}{k:Nat}{most:Int}(h:((Xbw (m.take k)).length:Int)=most)(h1:1≤most):Xnq most (Xbw m)=Xbw (m.take k):=by
 have e:Xbw m=Xbw (m.take k)++Xbw (m.drop k):=by
  conv=>lhs;rw[←List.take_append_drop k m]
  unfold Xbw
  rw[List.filter_append,List.map_append]
 unfold Xnq
 rw[if_neg om9,e,←h,Int.toNat_natCast,List.take_left]
theorem Xxc {m:List Cell}{most:Int}(h:most<1∨((Xbw m).length:Int)<most):Xnq most (Xbw m)=Xbw m:=by
 unfold Xnq
 split
 ·rfl
 ·exact List.take_of_length_le om9
theorem Xls {qs:List (Value×List Cell)}{L:List (List Cell)}(h:qs.map (·.2)=L):qs.flatMap (·.2)=L.flatten:=by rw[←h,List.flatMap_def]
theorem Xrn {frm to:Str}{dn ts:List Tb}(h:dn.Perm ts)(mem:List Cell):((scan mem frm to :: dn.map λt=>scan t.cs frm to).flatten).length≤(allC mem ts).length:=by
 have h1:∀dn:List Tb,((dn.map λt=>scan t.cs frm to).flatten).length≤(dn.flatMap (·.cs)).length:=by
  intro dn
  induction dn with
  | nil=>exact Nat.le_refl _
  | cons t r ih=>
   have:(scan t.cs frm to).length≤t.cs.length:=List.length_filter_le _ _
   simp only [List.map_cons,List.flatten_cons,List.flatMap_cons,List.length_append];omega
 have h2:=h1 dn
 have h3:(dn.flatMap (·.cs)).length=(ts.flatMap (·.cs)).length:=(List.Perm.flatMap_right _ h).length_eq
 have h4:(scan mem frm to).length≤mem.length:=List.length_filter_le _ _
 unfold allC
 simp only [List.flatten_cons,List.length_append];omega
theorem Xro {frm to:Str}{dn ts:List Tb}(h:dn.Perm ts)(mem:List Cell)(c:Cell):c∈(scan mem frm to :: dn.map λt=>scan t.cs frm to).flatten↔c∈scan (allC mem ts) frm to:=by
 unfold scan
 rw[List.flatten_cons,List.mem_append,List.mem_flatten,List.mem_filter,List.mem_filter,Xat]
 constructor
 ·rintro (⟨h1,h2⟩|⟨x,hx,hc⟩)
  ·exact⟨.inl h1,h2⟩
  ·obtain⟨t,ht,rfl⟩:=List.mem_map.1 hx
   have:=List.mem_filter.1 hc
   exact⟨.inr ⟨t,h.mem_iff.1 ht,this.1⟩,this.2⟩
 ·rintro ⟨h1|⟨t,ht,h1⟩,h2⟩
  ·exact .inl ⟨h1,h2⟩
  ·exact .inr ⟨_,List.mem_map.2 ⟨t,h.mem_iff.2 ht,rfl⟩,List.mem_filter.2 ⟨h1,h2⟩⟩
theorem X59 (κ:Nat->Nat)(bs bd bl bo bm:Nat)(vf:Value)(L:Led)(D:Dsk)(V:Vs)(ts:List Tb)(mem:List Cell)(dead:Bool)(frm to:Str)(most:Int)(w:World)(h:StE κ bs bd bl bo bm vf L D V ts mem dead w)(hnd:(ts.map (·.h)).Nodup)(hokh:∀t∈ts,okII t.h)(hml:mem.length≤900000)(hms:∀c∈mem,c.seq≤4611686018427387904)(htl:ts.length≤900000)(hcl:(allC mem ts).length≤9000000) :
  Calls Tryz.prog 21 [ptr bs 0,S frm,S to,I most].toArray w (Gives w (λu w'=>∃L m,(∀c,c∈L↔c∈scan (allC mem ts) frm to)∧L.length≤(allC mem ts).length∧Mg L m∧Vc.Own Rw.cs 3 48 w.heap.size w' u (Xnq most (Xbw m)))):=by
 refine cw Tryz.func21 ?_
 have hx:=Ext.refl w
 have hm:=h.m
 have mp9:=h.mp.at
 have hmr:=h.mr
 have htb:=h.tb
 refine ws λ_ Z1=>wr (da (de Z1 (ws λ_ Z2=>ws λ_ Z3=>wr (dm ?_))))
 refine dp (Xa6 kr9 rfl rfl) (de Z3 (wi (λc1=>?_) λc1=>?_))
 ·exact absurd c1 sp9
 refine Xaa (Z2 _ _ (ws λ_ Z4=>wr (dm ?_)))
 refine dz rfl (df 5 rfl (dl rfl ((hm.ext hx).at rfl) (dm (dm ?_))))
 refine cG (hmr.calls_scan frm to _ om9 hms) RX.all λv0 w1 x1 hoS=>?_
 have hsz1:=hx.size
 replace mp9:=mp9.ext x1
 replace hx:=hx.trans x1
 refine Xds (e:=95) (sz:=1) (zs:=[.slice none 0 0]) (pv:=[(0,?a6_0)]) (cs:=[?a6_0]) rfl kr9 ⟨rfl,rfl⟩ kr9 rfl ?h6 ?f6 RX.all (λb1 w2 e1 x2 m1=>?k6)
 case h6=>refine⟨rfl,?_,trivial⟩<;>(conv=>lhs;whnf)
 case f6=>simp [Xck,Xal,List.replicate,hoS.sl.cells]
 have g1:=hx.ge e1
 have n1_mp9:=mp9.lt
 have o1_hoS:=hoS.ltb e1
 replace mp9:=mp9.ext x2
 replace hoS:=hoS.ext x2
 replace hx:=hx.trans x2
 refine da (de Z4 (ws λ_ Z5=>ws λ_ Z6=>wr (dm ?_)))
 refine dz rfl (df 4 rfl (dl rfl ((hm.ext hx).at rfl) (Xs8 Xsc rfl rfl mp9 RX.all (λb2 w3 cnt2 e2 x3 hcn2 rg2=>?_))))
 have g2:=hx.ge e2
 have n2_1:=m1.ltb e2
 have n2_mp9:=mp9.lt
 have o2_hoS:=hoS.ltb e2
 replace mp9:=mp9.ext x3
 replace hoS:=hoS.ext x3
 replace m1:=m1.ext x3
 replace hx:=hx.trans x3
 refine de Z6 (Xab ?_)
 refine Xaj (G:=List Tb×List Tb×List (Value×List Cell)×Value×Nat) (λ(rem,dn,qs,vr,cnt)=>[(1,S frm),(2,S to),(3,I most),(8,.slice none 0 0),(9,vr),(29,ptr b2 0)]) (λ(rem,dn,qs,vr,cnt) w'=>Ext w w'∧Vc.Xbj Tryz.prog 104 kvII pO w' bo (ts.map Tb.kv).length (lk (ts.map Tb.kv))∧(dn++rem).Perm ts∧(rem.map (·.h)).Nodup∧qs.map (·.2)=(scan mem frm to :: dn.map λt=>scan t.cs frm to)∧Vc.Own encQ 1 95 w.heap.size w' vr qs∧QsE w.heap.size qs w'∧Vc.Xbb Tryz.prog 104 kvII pO w' bo b2 (ts.map Tb.kv).length (lk (ts.map Tb.kv)) (λx=>x∈rem.map (·.h)) cnt) (λ(rem,dn,qs,vr,cnt)=>cnt) (ts,[],[(v0,scan mem frm to)],.slice (some ⟨b1,0,none⟩) 1 1,cnt2) ?_ ?_ ?_
 ·exact zz6
 ·exact⟨hx,mp9,List.Perm.refl _,hnd,rfl,m1.own (enc:=encQ) (B:=w.heap.size) (l:=[(v0,scan mem frm to)]) (sz:=1) (m:=1) g1 rfl ir9 rfl (Nat.le_of_ble_eq_true rfl),⟨λq hq=>by rw[List.mem_singleton.1 hq];exact hoS⟩,rg2.congr (λx=>by rw[Xm6,tabP,Option.isSome_map];unfold Xb8;rw[List.find?_isSome];simp)⟩
 intro X4 g4 w4 hF4
 obtain⟨rem,dn,qs,vr,cnt⟩:=g4
 clear hx mp9 hoS m1 rg2
 obtain⟨hx,mp9,hpr,hndr,hqs,hoQ,hQ,rg2⟩:=hF4
 refine ws λ_ Z7=>wr ?_
 refine X03 Xsc rfl rfl rg2 (.inl rfl) (λhno=>?_) (λx a w5 cnt2 hok hlx hfx xm5 xs5 hlt rg2_n hen5=>?_)
 ·have he0:rem=[]:=by
   cases rem with
   | nil=>rfl
   | cons q r=>exact absurd (List.mem_map.2 ⟨q,List.mem_cons_self,rfl⟩) (hno q.h (hokh q (hpr.mem_iff.1 sp9)))
  subst he0
  rw[List.append_nil]at hpr
  have hql:=congrArg List.length hqs
  have hpl:=hpr.length_eq
  simp only [List.length_map,List.length_cons]at hql
  refine dx rfl rfl (de Z7 (ws λ_ Z8=>W_f rfl (Xah (Z5 _ _ (ws λ_ Z9=>wr (da (de Z9 (ws λ_ Z10=>ws λ_ Z11=>wr (dm ?_)))))))))
  refine cG (Xlm qs vr _ (hoQ.arr ir9) (λq hq=>(hQ.row q hq).arr ir9) om9 (by rw[Xls hqs];have:=Xrn (frm:=frm) (to:=to) hpr mem;omega)) RX.all λvm w6 x6 hf6=>?_
  have hsz6:=hx.size
  replace mp9:=mp9.ext x6
  replace hoQ:=hoQ.ext x6
  replace hQ:=hQ.ext x6
  replace rg2:=rg2.ext x6
  replace hx:=hx.trans x6
  obtain⟨m,hMg,hoM0⟩:=hf6
  have hoM:=hoM0.mono hsz6
  have hms9:=(Xrc hMg).1
  rw[Xls hqs]at hms9 hMg
  have hst9:=Xrn (frm:=frm) (to:=to) hpr mem
  refine dv 79 4 (hoM.arr ir9).sl (dm (de Z11 (Xab ?_)))
  refine Xaj (G:=Nat×Value) (λ(k,vl)=>[(3,I most),(8,.slice none 0 0),(12,vl),(42,vm),(43,I ↑m.length),(44,I ↑k)]) (λ(k,vl) w'=>Ext w w'∧k≤m.length∧(most<1∨((Xbw (m.take k)).length:Int)<most)∧Vc.Own Rw.cs 3 48 w.heap.size w' vl (Xbw (m.take k))∧Vc.Own Cell.cs 4 79 w.heap.size w' vm m) (λ(k,vl)=>m.length-k) (0,.slice none 0 0) ?_ ?_ ?_
  ·exact zz6
  ·exact⟨hx,Nat.zero_le _,(by show most<1∨((0:Nat):Int)<most;omega),Vc.Own.nil,hoM⟩
  intro X7 g7 w7 hF7
  obtain⟨k,vl⟩:=g7
  clear hx mp9 hoQ hQ rg2 hoM
  obtain⟨hx,hk1,hmo,hoR,hoM⟩:=hF7
  refine ws λ_ Z12=>wr (dp (Xaf rfl rfl) (de Z12 (ws λ_ Z13=>wi (λc2=>?_) λc2=>?_)))
  ·obtain⟨c,hk⟩:∃c,m[k]?=some c:=gtE
   have hro:=Xpd hk
   have hrl:=Xxb m k
   refine Xaa (Z13 _ _ (ws λ_ Z14=>Xab (ws λ_ Z15=>wr (di 79 4 (hoM.arr ir9).sl rfl ((hoM.arr ir9).lt hk) (dq (Xac kr9 rfl rfl ((hoM.arr ir9).row hk)) (Xan (cs:=[S [],S [],B false,.int .i64 0]) rfl kr9 RX.all (λb3 w8 e3 x8 m3=>?_)))))))
   have g3:=hx.ge e3
   have o3_hoR:=hoR.ltb e3
   have o3_hoM:=hoM.ltb e3
   replace hoR:=hoR.ext x8
   replace hoM:=hoM.ext x8
   replace hx:=hx.trans x8
   refine stA m3 (λw9 x9 xs9 m3=>?_)
   try dsimp only [Xal,List.set,List.take,List.drop]at m3
   try replace hoR:=hoR.mod x9 (by first|assumption|(intro k hk h;have h1:=(hoR.lt k hk).1;have h2:k=b3:=h;omega)|(intro k hk h;have h1:=o3_hoR k hk;have h2:k=b3:=h;omega)|(intro h;have h2:_=b3:=h;omega)|(intro hl h;have h1:=a3_hoR hl;have h2:_=b3:=h;omega))
   try replace hoM:=hoM.mod x9 (by first|assumption|(intro k hk h;have h1:=(hoM.lt k hk).1;have h2:k=b3:=h;omega)|(intro k hk h;have h1:=o3_hoM k hk;have h2:k=b3:=h;omega)|(intro h;have h2:_=b3:=h;omega)|(intro hl h;have h1:=a3_hoM hl;have h2:_=b3:=h;omega))
   replace hx:=hx.o1 x9
   refine de Z15 (ws λ_ Z16=>ws λ_ Z17=>wr (df 2 rfl (dl rfl (m3.at rfl) (de Z17 (wc (λc3=>?_) λc3=>?_)))))
   ·refine Xah (Z14 _ _ (wr (pa rfl rfl (dm (Xad (?_))))))
    rw[if_pos c3]at hro
    exact⟨(k+1,vl),zz6,⟨hx,by omega,by rw[hro];exact hmo,by rw[hro];exact hoR,hoM⟩,by simp only [];omega⟩
   refine Xaa (Z16 _ _ (ws λ_ Z18=>wr (dm ?_)))
   refine df 0 rfl (dl rfl (m3.at rfl) (df 1 rfl (dl rfl (m3.at rfl) (db (zs:=[S [],S [],B false]) (pl:=[(0,1),(1,1),(2,1)]) (pv:=[(0,_),(1,_)]) (cs:=[_,_,B false]) ?_))))
   refine li (e:=48) (sz:=3) (zs:=[S [],S [],B false]) (pv:=[(0,.agg ⟨[_,_,_]⟩)]) (cs:=[_,_,_]) RX.all (λb4 w10 e4 x10 m4=>?_)
   have g4:=hx.ge e4
   have o4_hoR:=hoR.ltb e4
   have o4_hoM:=hoM.ltb e4
   replace hoR:=hoR.ext x10
   replace hoM:=hoM.ext x10
   replace hx:=hx.trans x10
   refine Xar (lx:=[⟨c.key,c.val,false⟩]) (e:=48) (sz:=3) (by':=40) rfl kr9 kr9 ir9 hoR (m4.arr (enc:=Rw.cs) (sz:=3) (l:=[⟨c.key,c.val,false⟩]) rfl ir9 rfl (Nat.le_of_ble_eq_true rfl)) rfl rfl (by intro x _ u hu;simp at hu;rcases hu with rfl|rfl|rfl<;>rfl) (by simp;omega) dc9 hx.size (.inl rfl) (λvq2 w11 hoR_n x11=>?_)
   try replace hoM:=hoM.mod x11 (by first|exact(λk hk=>hoM.ne hoR rfl hk)|assumption)
   replace hx:=hx.own x11 (λi hi=>(hoR.lt i hi).1)
   replace hoR:=hoR_n
   clear m4
   refine da (de Z18 (ws λ_ Z19=>wr (dm ?_)))
   refine dv 48 3 (hoR.arr ir9).sl (dm ?_)
   refine dp (Xa9 rfl rfl) (de Z19 (wi (λc4=>?_) λc4=>?_))
   ·refine Xah (Z10 _ _ (ws λ_ Z20=>wr (dm (da (de Z20 (Xae ?_))))))
    refine ro ?_
    rw[if_neg (by rw[c3];decide)]at hro
    rw[←hro]at hoR
    have hrl2:=congrArg List.length hro
    simp only [List.length_append,List.length_cons,List.length_nil]at hrl2 c4
    rw[←Xsm (k:=k+1) (m:=m) (most:=most) om9 om9]at hoR
    exact⟨_,rfl,hx,_,m,Xro hpr mem,hst9,hMg,hoR⟩
   refine Xaa (Z14 _ _ (wr (pa rfl rfl (dm (Xad (?_))))))
   rw[if_neg (by rw[c3];decide)]at hro
   rw[←hro]at hoR
   have hrl2:=congrArg List.length hro
   simp only [List.length_append,List.length_cons,List.length_nil]at hrl2 c4
   exact⟨(k+1,vq2),zz6,⟨hx,by omega,by omega,hoR,hoM⟩,by simp only [];omega⟩
  refine Xah (Z10 _ _ (ws λ_ Z21=>wr (dm (da (de Z21 (Xae ?_))))))
  refine ro ?_
  rw[List.take_of_length_le om9]at hoR hmo
  rw[←Xxc hmo]at hoR
  exact⟨_,rfl,hx,_,m,Xro hpr mem,hst9,hMg,hoR⟩
 replace mp9:=mp9.mod xm5 (by first|exact(λk hk e=>rg2.ne_own mp9 (hk.trans (congrArg some e)))|exact λe=>rg2.ne_map mp9 e|exact λe=>rg2.ne_blk mp9 e|omega)
 replace hoQ:=hoQ.mod xm5 (by first|exact(λk hk e=>rg2.ne_own hoQ (hk.trans (congrArg some e)))|exact λe=>rg2.ne_map hoQ e|exact λe=>rg2.ne_blk hoQ e|omega)
 replace hQ:=hQ.mod xm5 (λq hq k hk e=>rg2.ne_own (hQ.row q hq) (hk.trans (congrArg some e)))
 replace hx:=hx.own xm5 (λi hi=>by have hi2:i=b2:=hi;subst hi2;omega)
 replace rg2:=rg2_n
 obtain⟨t,ht,rfl⟩:=List.mem_map.1 hlx
 have htt:t∈ts:=hpr.mem_iff.1 (List.mem_append_right _ ht)
 rw[Xm6,tabP,Xfo hnd htt]at hfx
 cases hfx
 have hT:=htb t htt
 obtain⟨hperm,hnd2,hmem2⟩:=Xrm ht hndr
 have hql:=congrArg List.length hqs
 have hpl:=hpr.length_eq
 simp only [List.length_map,List.length_cons,List.length_append]at hql hpl
 refine dx rfl rfl (de Z7 (ws λ_ Z22=>W_t rfl (Xaa (Z22 _ _ (Xab (ws λ_ Z23=>wr (dq (Xpo rfl hen5) (Xa3 (v:=ptr t.bt 0) rfl (X01 rfl rfl) rfl (da (de Z23 (wr ?_)))))))))))
 iterate 4 refine dm ?_
 refine cG (Xvj t.bt t.vl t.vb t.cs frm to _ (hT.ext hx)) RX.all λvt w12 x12 hoT0=>?_
 have hsz12:=hx.size
 replace mp9:=mp9.ext x12
 replace hoQ:=hoQ.ext x12
 replace hQ:=hQ.ext x12
 replace rg2:=rg2.ext x12
 replace hx:=hx.trans x12
 have hoT:=hoT0.mono hsz12
 refine Xds (e:=95) (sz:=1) (zs:=[.slice none 0 0]) (pv:=[(0,?a32_0)]) (cs:=[?a32_0]) rfl kr9 ⟨rfl,rfl⟩ kr9 rfl ?h32 ?f32 RX.all (λb5 w13 e5 x13 m5=>?k32)
 case h32=>refine⟨rfl,?_,trivial⟩<;>(conv=>lhs;whnf)
 case f32=>simp [Xck,Xal,List.replicate,hoT.sl.cells]
 have g5:=hx.ge e5
 have n5_mp9:=mp9.lt
 have n5_rg2:=rg2.lt
 have n5_rg2m:=rg2.map.lt
 have o5_hoQ:=hoQ.ltb e5
 have a5_hQ:=hQ.lt
 replace mp9:=mp9.ext x13
 replace hoQ:=hoQ.ext x13
 replace hQ:=hQ.ext x13
 replace rg2:=rg2.ext x13
 replace hoT:=hoT.ext x13
 replace hx:=hx.trans x13
 refine Xar (lx:=[(vt,scan t.cs frm to)]) (e:=95) (sz:=1) (by':=24) rfl kr9 kr9 ir9 hoQ (m5.arr (enc:=encQ) (sz:=1) (l:=[(vt,scan t.cs frm to)]) rfl ir9 rfl (Nat.le_of_ble_eq_true rfl)) rfl rfl (by intro x hx9 u hu;rw[List.mem_singleton.1 hx9]at hu;simp at hu;rw[hu];exact hoT.sl.one) (by simp;omega) dc9 hx.size (.inl rfl) (λvq w14 hoQ_n x14=>?_)
 replace mp9:=mp9.mod x14 (mp9.ne_own hoQ)
 try replace hQ:=hQ.mod x14 (by first|exact hQ.ne hoQ rfl|exact(λk hk=>hoT.ne hoQ rfl hk))
 replace rg2:=rg2.mod x14 (rg2.map.ne_own hoQ) (rg2.ne_own hoQ)
 try replace hoT:=hoT.mod x14 (by first|exact hQ.ne hoQ rfl|exact(λk hk=>hoT.ne hoQ rfl hk))
 replace hx:=hx.own x14 (λi hi=>(hoQ.lt i hi).1)
 replace hoQ:=hoQ_n
 clear m5
 refine da (Xad (?_))
 exact⟨(rem.filter (λq=>decide (q.h≠t.h)),dn++[t],qs++[(vt,scan t.cs frm to)],vq,cnt2),zz6,⟨hx,mp9,by rw[List.append_assoc];exact(List.Perm.append_left dn hperm.symm).trans hpr,hnd2,by rw[List.map_append,hqs,List.map_append];rfl,hoQ,hQ.snoc hoT,rg2.congr (λy=>hmem2 y)⟩,hlt⟩
theorem Xxd {fs:List Fi}{lv i:Nat}{c:Cell}(h1:lv<i)(h:0<(Xb4 fs ↑i c.key c.key).length):Xb0 fs ↑lv c=true:=by
 obtain⟨f,hf⟩:=List.exists_mem_of_length_pos h
 obtain⟨hf1,hf2⟩:=List.mem_filter.1 hf
 unfold Xb3 at hf2
 simp only [Bool.and_eq_true,decide_eq_true_eq]at hf2
 unfold Xb0
 rw[Bool.or_eq_true]
 refine .inr (List.any_eq_true.2 ⟨f,hf1,?_⟩)
 rw[decide_eq_true (show(↑lv:Int)<f.lev by omega),hf2.1.2,hf2.2];rfl
theorem X0e {fs:List Fi}{lv:Nat}{c:Cell}(hd:c.del=true)(hlv:∀f∈fs,0≤f.lev∧f.lev≤4)(h:∀i:Nat,lv<i->i<5->¬ 0<(Xb4 fs ↑i c.key c.key).length):Xb0 fs ↑lv c=false:=by
 unfold Xb0
 rw[hd]
 rw[Bool.not_true,Bool.false_or,List.any_eq_false]
 intro f hf hx
 rw[Bool.and_eq_true,Bool.and_eq_true,decide_eq_true_eq]at hx
 have hr:=hlv f hf
 refine h f.lev.toNat om9 om9 (List.length_pos_of_mem (a:=f) (List.mem_filter.2 ⟨hf,?_⟩))
 unfold Xb3
 rw[decide_eq_true (show f.lev=↑f.lev.toNat by omega),hx.2.1,hx.2.2];rfl
theorem Xsn {fs:List Fi}{lv:Int}{c:Cell}(hd:c.del=false):Xb0 fs lv c=true:=by unfold Xb0;rw[hd];rfl
theorem X6a (bs bd bl:Nat)(n:Int)(vf:Value)(bo bm:Nat)(dead:Bool)(fs:List Fi)(c:Cell)(lv:Nat)(w:World)(hs:Blk w bs (stoC bd bl n vf bo bm dead) 90)(hv:Arr Fi.cs 5 w vf fs)(hl:fs.length≤100000)(hlv:∀f∈fs,0≤f.lev∧f.lev≤4)(hl4:lv≤4) :
  Calls Tryz.prog 53 [ptr bs 0,c.v,I ↑lv].toArray w (Pure w (B (Xb0 fs ↑lv c))):=by
 refine cw Tryz.func53 ?_
 have hx:=Ext.refl w
 refine ws λ_ Z1=>wr (Xbf rfl rfl rfl RX.all (λb1 w1 e1 x1 m1=>?_))
 have g1:=hx.ge e1
 replace hx:=hx.trans x1
 refine da (de Z1 (ws λ_ Z2=>ws λ_ Z3=>wr ?_))
 refine df 2 rfl (dl rfl (m1.at rfl) (dn (de Z3 ?_)))
 refine wc (λc1=>?_) λc1=>?_
 ·refine ws λ_ Z4=>wr (da (de Z4 (Xae ?_)))
  refine ro ?_
  exact⟨by rw[Xsn (by simpa using c1)],hx⟩
 refine Xaa (Z2 _ _ (ws λ_ Z5=>ws λ_ Z6=>wr (dm ?_)))
 refine pa rfl rfl (da (de Z6 (Xab ?_)))
 refine Xaj (G:=Nat) (λi=>[(0,ptr bs 0),(4,ptr b1 0),(7,I ↑i)]) (λi w'=>Ext w w'∧lv<i∧i≤5∧(∀j:Nat,lv<j->j<i->¬ 0<(Xb4 fs ↑j c.key c.key).length)∧Blk w' b1 c.cs 79) (λi=>5-i) (lv+1) ?_ ?_ ?_
 ·exact zz3
 ·exact⟨hx,by omega,by omega,λj h1 h2=>by omega,m1⟩
 intro X2 g2 w2 hF2
 revert hF2;revert g2;intro i hF2
 clear hx m1
 obtain⟨hx,hi1,hi2,hA,m1⟩:=hF2
 refine ws λ_ Z7=>ws λ_ Z8=>wr (dm ?_)
 refine dp (Xdi rfl rfl) (de Z8 (wi (λc2=>?_) λc2=>?_))
 ·refine Xaa (Z7 _ _ (ws λ_ Z9=>Xab (ws λ_ Z10=>Xaq (R:=Ext) Ext.refl (λ_ _ _=>Ext.trans) kr9 [3,6,8] [(0,.p,false),(1,.p,false),(2,.p,false),(3,.l,false),(4,.p,false),(5,.p,false),(6,.l,false),(7,.p,false),(8,.l,false),(9,.x,true),(10,.p,false),(11,.p,false)] rfl kr9 kr9 (λw3 ew3=>?_))))
  have x3:=drewx ew3
  clear ew3
  replace m1:=m1.ext x3
  replace hx:=hx.trans x3
  refine dm ?_
  refine dz rfl (df 2 rfl (D_l rfl (λw' hR=>Xac kr9 rfl rfl ((hs.ext (hx.trans hR)).part 2 2)) (dm ?_)))
  refine df 0 rfl (dL rfl (λ_ hR=>((m1.ext hR).at rfl)) (df 0 rfl (dL rfl (λ_ hR=>((m1.ext hR).at rfl)) (cG (Xqp n fs vf ↑i c.key c.key _ (hv.ext hx) hl) RX.all λvo w4 x4 hO=>?_))))
  have hsz4:=hx.size
  replace m1:=m1.ext x4
  replace hx:=hx.trans x4
  refine dv 62 5 (hO.arr ir9).sl (dp (Xa1 rfl rfl) (de Z10 (wi (λc3=>?_) λc3=>?_)))
  ·refine ws λ_ Z11=>wr (da (de Z11 (Xae ?_)))
   refine ro ?_
   exact⟨by rw[Xxd hi1 om9],hx⟩
  refine Xaa (Z9 _ _ (wr (dm ?_)))
  refine pa rfl rfl (da (Xad (?_)))
  refine⟨i+1,zz3,⟨hx,by omega,by omega,λj h1 h2=>?_,m1⟩,by omega⟩
  by_cases e9:j=i
  ·subst e9;omega
  ·exact hA j h1 om9
 refine Xah (Z5 _ _ (ws λ_ Z12=>wr (da (de Z12 (Xae ?_)))))
 refine ro ?_
 exact⟨by rw[X0e (by simpa using c1) hlv (λj h1 h2=>hA j h1 om9)],hx⟩
theorem X82 (bs bd bl:Nat)(n:Int)(vf:Value)(bo bm:Nat)(dead:Bool)(fs:List Fi)(c:Cell)(lv:Nat)(b1 b2:Nat)(w:World)(hs:Blk w bs (stoC bd bl n vf bo bm dead) 90)(hv:Arr Fi.cs 5 w vf fs)(hl:fs.length≤100000)(hlv:∀f∈fs,0≤f.lev∧f.lev≤4)(hl4:lv≤4)(hb1:Blk w b1 [ptr bs 0] 28)(hb2:Blk w b2 [I ↑lv] 3) :
  Calls Tryz.prog 52 [c.v,ptr b1 0,ptr b2 0].toArray w (Pure w (B (!Xb0 fs ↑lv c))):=by
 refine cw Tryz.func52 ?_
 have hx:=Ext.refl w
 refine ws λ_ Z1=>wr (Xbf rfl rfl rfl RX.all (λb1 w1 e1 x1 m1=>?_))
 have g1:=hx.ge e1
 replace hx:=hx.trans x1
 refine da (de Z1 (ws λ_ Z2=>wr ?_))
 refine dl rfl ((hb1.ext hx).at rfl) (dq (Xac (k:=4) kr9 rfl rfl m1.row) (dl rfl ((hb2.ext hx).at rfl) (cP (X6a bs bd bl n vf bo bm dead fs c lv _ (hs.ext hx) (hv.ext hx) hl hlv hl4) RX.all λw2 x2=>?_)))
 replace hx:=hx.trans x2
 refine dn (da (de Z2 (Xae ?_)))
 refine ro ?_
 exact⟨rfl,hx⟩
theorem X83 (l:List Cell)(v:Value)(Bo f:Nat)(cs:List Value)(p:Cell->Bool)(w:World)(ho:Vc.Own Cell.cs 4 79 Bo w v l)(hl:l.length≤1000000)(hcb:Xbt Tryz.prog f=true)(hc:∀w2,Vc.Mod (λk=>v.ownBlock=some k) w w2->∀x∈l,Calls Tryz.prog f ([x.v]++cs).toArray w2 (Pure w2 (B (p x)))) :
  Calls Tryz.prog 51 [v,fnC f cs].toArray w (Does (λk=>v.ownBlock=some k) w (λu w'=>Vc.Own Cell.cs 4 79 Bo w' u (l.filter λx=>!p x))):=by
 refine cw Tryz.func51 ?_
 have hx:=Vc.Mod.refl (λk=>v.ownBlock=some k) w
 have hvsl:=ho.sl
 refine ws λ_ Z1=>wr (da (de Z1 (ws λ_ Z2=>wr (dm (dm ?_)))))
 have ho2:=ho.mod hx
 refine cG (X5a l v f cs p _ (ho.arr ir9) om9 hcb (λw2 x2=>hc w2 (hx.ext x2))) RX.all λu1 w1 x1 hf1=>?_
 have hsz1:=hx.size
 replace ho:=ho.ext x1
 replace hx:=hx.ext x1
 obtain⟨i0,rfl,hfd⟩:=hf1
 refine da (de Z2 (ws λ_ Z3=>ws λ_ Z4=>wr (dm ?_)))
 refine dp (Xa9 rfl rfl) (de Z4 (wi (λc1=>?_) λc1=>?_))
 ·refine ws λ_ Z5=>wr (dm (da (de Z5 (Xae ?_))))
  refine ro ?_
  have e9:l.filter (λx=>!p x)=l:=List.filter_eq_self.2 λx hx9=>by
   rcases hfd with⟨_,h9⟩|⟨k9,e8,_⟩
   ·simpa using List.any_eq_false.1 h9 x hx9
   ·omega
  exact⟨_,rfl,hx,by rw[e9];exact ho⟩
 obtain⟨k0,rfl,hk1,x0,hx0,hp0⟩:∃k:Nat,i0=↑k∧(l.take k).any p=false∧∃x,l[k]?=some x∧p x=true:=hfd.elim (λh9=>absurd h9.1 (by simpa using c1)) (λh9=>h9)
 have hkl0:=(List.getElem?_eq_some_iff.1 hx0).1
 refine Xaa (Z3 _ _ (ws λ_ Z6=>ws λ_ Z7=>wr (dm ?_)))
 refine pa rfl rfl (da (de Z7 (Xab ?_)))
 refine Xaj (G:=Nat×Nat×List Cell) (λ(n,k,cur)=>[(0,v),(1,fnC f cs),(4,.slice none 0 0),(5,I ↑k),(6,I ↑n)]) (λ(n,k,cur) w'=>Mod (λk=>v.ownBlock=some k) w w'∧DelR p l n k cur∧Vc.Own Cell.cs 4 79 Bo w' v cur) (λ(n,k,cur)=>l.length-n) (k0+1,k0,l) ?_ ?_ ?_
 ·exact zz5
 ·exact⟨hx,X8o hx0 hp0 (λi y hi hy=>by cases e:p y with
  | false=>rfl
  | true=>exact absurd e (by have:=List.any_eq_false.1 hk1 y (List.mem_of_getElem? (i:=i) (by rw[List.getElem?_take,if_pos hi];exact hy));exact this)),ho⟩
 intro X2 g2 w2 hF2
 obtain⟨n,k,cur⟩:=g2
 clear hx ho
 obtain⟨hx,hr,ho⟩:=hF2
 have hcl:=hr.1
 have hr2:=hr.2.1
 have hr3:=hr.2.2.1
 have hb0:=Xcu ho (λe=>by rw[e]at hcl;simp at hcl;omega)
 refine ws λ_ Z8=>ws λ_ Z9=>wr (dm (dm ?_))
 refine dv 79 4 (ho.arr ir9).sl (dp (Xaf rfl rfl) (de Z9 (wi (λc2=>?_) λc2=>?_)))
 ·obtain⟨x,hk2⟩:∃x,l[n]?=some x:=gtE
  have hk:cur[n]?=some x:=(hr.2.2.2.2 n (Nat.le_refl n)).trans hk2
  refine Xaa (Z8 _ _ (ws λ_ Z10=>Xab (ws λ_ Z11=>wr (dm (dm ?_)))))
  refine di 79 4 (ho.arr ir9).sl rfl ((ho.arr ir9).lt hk) (dq (Xac kr9 rfl rfl ((ho.arr ir9).row hk)) (Xan (cs:=[S [],S [],B false,.int .i64 0]) rfl kr9 RX.all (λb1 w3 e1 x3 m1=>?_)))
  have g1:=hx.ge e1
  have o1_ho:=ho.ltb e1
  replace ho:=ho.ext x3
  replace hx:=hx.ext x3
  refine stA m1 (λw4 x4 xs4 m1=>?_)
  try dsimp only [Xal,List.set,List.take,List.drop]at m1
  try replace ho:=ho.mod x4 (by first|assumption|(intro k hk h;have h1:=(ho.lt k hk).1;have h2:k=b1:=h;omega)|(intro k hk h;have h1:=o1_ho k hk;have h2:k=b1:=h;omega)|(intro h;have h2:_=b1:=h;omega)|(intro hl h;have h1:=a1_ho hl;have h2:_=b1:=h;omega))
  replace hx:=hx.o1 x4
  refine de Z11 (ws λ_ Z12=>wr (dm ?_))
  refine dq (Xac (k:=4) kr9 rfl rfl m1.row) (Xh0 (vs:=[x.v]) (cs:=cs) rfl rfl hcb (hc _ hx x (List.mem_of_getElem? hk2)) rfl RX.all (λw5 x5=>?_))
  replace ho:=ho.ext x5
  replace m1:=m1.ext x5
  replace hx:=hx.ext x5
  refine dn (de Z12 ?_)
  refine wc (λc3=>?_) λc3=>?_
  ·refine ws λ_ Z13=>wr (dm (dm ?_))
   refine dq (Xac (k:=4) kr9 rfl rfl m1.row) (Xa3 (v:=ptr (base v).1 (k*4+0)) rfl (Xbe (i:=k) (e:=79) (k:=4) kr9 ho.sl rfl rfl om9) (by rw[hb0];show ptr _ (0+_)=_;rw[Nat.zero_add];rfl) ?_)
   refine Xa5 (enc:=Cell.cs) (sz:=4) (l:=cur) (i:=k) (j:=0) (x:=x) (vs:=x.cs) ir9 rfl ho rfl rfl rfl kr9 om9 rfl (Nat.le_refl 4) (by intro v hv;simp at hv;rcases hv with rfl|rfl|rfl|rfl<;>rfl) (.inl rfl) (λw6 x6 xs6 ho_n=>?_)
   replace hx:=hx.own x6 (λi hi hlt=>hi)
   replace ho:=ho_n
   refine de Z13 (wr (dm ?_))
   refine pa rfl rfl (da (de Z10 (wr (dm ?_))))
   refine pa rfl rfl (da (Xad (?_)))
   first|exact⟨(n+1,k+1,_),zz5,⟨hx,Xq6 hr hk2 (by simpa using c3),ho⟩,by simp only [];omega⟩|exact⟨(n+1,k,cur),zz5,⟨hx,Xwe hr hk2 (by simpa using c3),ho⟩,by simp only [];omega⟩
  refine Xaa (Z10 _ _ (wr (dm ?_)))
  refine pa rfl rfl (da (Xad (?_)))
  first|exact⟨(n+1,k+1,_),zz5,⟨hx,Xq6 hr hk2 (by simpa using c3),ho⟩,by simp only [];omega⟩|exact⟨(n+1,k,cur),zz5,⟨hx,Xwe hr hk2 (by simpa using c3),ho⟩,by simp only [];omega⟩
 refine Xah (Z6 _ _ (ws λ_ Z14=>wr (dm (dm ?_))))
 refine dp (Xbq (e:=79) (k:=4) (m:=cur.length) (a:=k) (b:=cur.length) kr9 ho.sl rfl rfl rfl om9 om9) ?_
 refine Xwf (enc:=Cell.cs) (sz:=4) (e:=79) (l:=cur) (k:=k) (zs:=[S [],S [],B false,.int .i64 0]) ir9 rfl kr9 kr9 rfl dc9 (by intro z hz;simp at hz;rcases hz with rfl|rfl|rfl|rfl<;>rfl) ho rfl om9 (.inl rfl) (λw7 x7 xs7 ho_n=>?_)
 replace hx:=hx.own x7 (λi hi hlt=>hi)
 replace ho:=ho_n
 refine de Z14 (ws λ_ Z15=>wr (dm (dm ?_)))
 refine dp (Xbq (e:=79) (k:=4) (m:=l.length) (a:=0) (b:=k) kr9 hvsl rfl rfl rfl om9 om9) (da (de Z15 (Xae ?_)))
 refine ro ?_
 rw[hr.2.2.2.1,List.take_of_length_le om9]at ho
 exact⟨_,rfl,hx,ho⟩
def cOf (ts:List Tb)(f:Fi):List Cell:=match Xb8 ts (f.lev,f.id)with
 | some t=>t.cs
 | none=>[]
theorem Xhl (ts:List Tb)(p:List Fi):Xcg ts p=(p.map (cOf ts)).flatten:=by rw[←List.flatMap_def];rfl
theorem Xxe {ts:List Tb}{f:Fi}{t:Tb}(h:Xb8 ts (f.lev,f.id)=some t):cOf ts f=t.cs:=by unfold cOf;rw[h]
theorem Xnr {ts:List Tb}{h k:Int×Int}(hk:k≠h):Xb8 (ts.filter λq=>decide (q.h≠h)) k=Xb8 ts k:=by
 unfold Xb8
 rw[List.find?_filter]
 congr 1
 funext q
 by_cases e:q.h=k
 ·have:q.h≠h:=λe2=>hk (e.symm.trans e2)
  simp [e,hk]
 ·simp [e]
theorem Xhm : ∀(p:List Fi) (ts:List Tb),(ts.map (·.h)).Nodup->(p.map λf=>(f.lev,f.id)).Nodup->(Xcg ts p).length≤(ts.flatMap (·.cs)).length
 | [],ts,_,_=>Nat.zero_le _
 | f :: r,ts,hn,hp=>by
  rw[List.map_cons,List.nodup_cons]at hp
  have e:Xcg ts (f :: r)=cOf ts f++Xcg ts r:=rfl
  rw[e,List.length_append]
  cases ht:Xb8 ts (f.lev,f.id)with
  | none=>
   have e2:cOf ts f=[]:=by unfold cOf;rw[ht]
   rw[e2]
   have:=Xhm r ts hn hp.2
   simpa using this
  | some t=>
   have htm:=Xgy ht
   have hth:t.h=(f.lev,f.id):=by unfold Xb8 at ht;simpa using List.find?_some ht
   obtain⟨h1,h2,_⟩:=Xrm htm hn
   have h3:=Xhm r _ h2 hp.2
   have h4:Xcg (ts.filter λq=>decide (q.h≠t.h)) r=Xcg ts r:=by
    rw[Xhl,Xhl]
    congr 1
    apply List.map_congr_left
    intro g hg
    unfold cOf
    rw[Xnr (λe9=>hp.1 (by rw[←hth,←e9];exact List.mem_map.2 ⟨g,hg,rfl⟩))]
   rw[h4]at h3
   have h5:=(List.Perm.flatMap_right (·.cs) h1).length_eq
   rw[List.flatMap_cons,List.length_append]at h5
   rw[Xxe ht];omega
theorem Xxf (fs:List Fi):Xcv fs []=fs:=by unfold Xcv;exact List.filter_eq_self.2 λf _=>by simp
section
variable {n:Int}{V V':Vs}{ts ts':List Tb}{mem mem':List Cell}{L L':Led}{D D':Dsk}{dead dead' ok:Bool}{e:Int}
theorem Sto.tlen (h:Sto n V ts mem):ts.length≤(allC mem ts).length:=by
 have:∀l:List Tb,(∀t∈l,t.cs≠[])->l.length≤(l.flatMap (·.cs)).length:=by
  intro l hl
  induction l with
  | nil=>exact Nat.zero_le _
  | cons t r ih=>
   have h1:=ih (λt ht=>hl t (List.mem_cons_of_mem _ ht))
   have h2:=List.length_pos_iff.2 (hl t List.mem_cons_self)
   rw[List.flatMap_cons,List.length_append,List.length_cons];omega
 have h1:=this ts (λt ht=>by obtain⟨f,_,hv⟩:=h.bwd t ht;exact hv.ne)
 unfold allC
 rw[List.length_append];omega
theorem Sto.okh (h:Sto n V ts mem):∀t∈ts,okII t.h:=λt ht=>by
 have h1:=h.lev ht
 obtain⟨f,hf,hv⟩:=h.bwd t ht
 have h2:=Xf9 h.isv f hf
 rw[hv.h];exact⟨h2.2,h2.1⟩
theorem Sto.cellsB (h:Sto n V ts mem)(hn:n≤1099511627776):∀c∈allC mem ts,c.key.length≤4096∧c.val.length≤16384∧c.seq≤4611686018427387904:=λc hc=>by
 have h1:=(h.okc c hc).1
 have h2:=(h.okc c hc).2
 unfold isC at h1
 simp only [Bool.and_eq_true,decide_eq_true_eq]at h1
 omega
theorem Xxg {α β:Type}(f:α->β):∀ {l:List α},(l.map f).Nodup->l.Nodup
 | [],_=>List.nodup_nil
 | a :: r,h=>by
  rw[List.map_cons,List.nodup_cons]at h
  exact List.nodup_cons.2 ⟨λh2=>h.1 (List.mem_map_of_mem h2),Xxg f h.2⟩
theorem Xns {p:List Fi}(h:(p.map (·.id)).Nodup):(p.map λf=>(f.lev,f.id)).Nodup:=by
 have e:(p.map λf=>(f.lev,f.id)).map Prod.snd=p.map (·.id):=by rw[List.map_map];rfl
 rw[←e]at h
 exact Xxg _ h
theorem Xxh (h:Sto n V ts mem)(hf:FluP L D V ts mem false ok 0 L' D' V' ts' mem' dead') :
  dead'=false∧mem'=[]∧Sto n V' ts' []∧(∀c∈allC [] ts',c∈allC mem ts)∧(allC [] ts').length≤(allC mem ts).length∧((Xel V.fs).isSome=true->(Xel V'.fs).isSome=true)∧L'.last=L.last∧L'.ents.length≤L.ents.length∧(∀M,Sp.Told (allC mem ts) M->Sp.Told (allC [] ts') M)∧(∀g:Cell->Nat,wsum g (allC [] ts')≤wsum g (allC mem ts)):=by
 rcases hf with⟨h1,_⟩|⟨_,rfl,_,_,rfl,rfl,rfl,rfl,rfl,rfl⟩|⟨_,_,m,hm,hc,h2⟩
 ·cases h1
 ·exact⟨rfl,rfl,h,λc hc=>hc,Nat.le_refl _,λh=>h,rfl,Nat.le_refl _,λM h=>h,λg=>Nat.le_refl _⟩
 ·obtain⟨⟨h3,h4⟩,h5⟩:=Xje hc
  rcases h5 with⟨h5,_⟩|⟨_,rfl,hs⟩
  ·exact absurd rfl h5
  ·rcases h2 with⟨h2,_⟩|⟨_,_,rfl⟩
   ·exact absurd rfl h2
   ·obtain⟨hmu,hmt⟩:=Xq9 (Xga h.ms) hm
    obtain⟨k1,tbs,k2,k3⟩:=hs.sto h (λf hf=>(by cases hf)) hmu (λc hc=>Xat.2 (.inl ((hmt c).1 hc).1)) (λu hu _ _ c hc d hd hk=>h.n1 c ((hmt c).1 hc).1 u hu d hd hk) (λt ht _ hl=>by have:=(h.lev ht).1;omega)
    have k0:ts.filter (kp [])=ts:=List.filter_eq_self.2 λt _=>rfl
    rw[k0]at k2
    have hsub:=Xrc hm
    refine⟨rfl,rfl,k1,λc hc=>?_,?_,λhp=>?_,h3,h4,λM hT=>(hs.flush h hm hT).2.1,λg=>?_⟩
    ·rw[k2]at hc
     rcases Xat.1 hc with hc|⟨t,ht,hc⟩
     ·cases hc
     ·rcases List.mem_append.1 ht with ht|ht
      ·exact Xat.2 (.inr ⟨t,ht,hc⟩)
      ·exact Xat.2 (.inl (hsub.2 c (by rw[←k3];exact List.mem_flatMap.2 ⟨t,ht,hc⟩)))
    ·rw[k2]
     unfold allC
     rw[List.nil_append,List.flatMap_append,k3,List.length_append,List.length_append]
     have:=hsub.1;omega
    ·obtain⟨fs',hp9,_,rfl⟩:=hs.vs
     rw[List.map_nil,Xxf]at hp9
     exact Xw6 hp9 hp
    ·rw[k2]
     unfold allC
     rw[List.nil_append,List.flatMap_append,k3,Xco,Xco]
     have:=Xpb (g:=g) hm;omega
end
def CmpP (L:Led)(D:Dsk)(V:Vs)(ts:List Tb)(mem:List Cell)(dead did:Bool)(e:Int)(L':Led)(D':Dsk)(V':Vs)(ts':List Tb)(mem':List Cell)(dead':Bool):Prop:=
 (dead=true∧did=false∧e=9∧L'=L∧D'=D∧V'=V∧ts'=ts∧mem'=mem∧dead'=dead)∨
 (dead=false∧Xel V.fs=none∧did=false∧e=0∧L'=L∧D'=D∧V'=V∧ts'=ts∧mem'=mem∧dead'=dead)∨
 (dead=false∧(Xel V.fs).isSome=true∧∃ok e1 L1 D1 V1 ts1 mem1 dead1,FluP L D V ts mem false ok e1 L1 D1 V1 ts1 mem1 dead1∧
  ((e1≠0∧did=false∧e=e1∧L'=L1∧D'=D1∧V'=V1∧ts'=ts1∧mem'=mem1∧dead'=dead1)∨
   (e1=0∧∃(p:List Fi) (lv:Nat) (m:List Cell) (e2:Int) (D2:Dsk) (dead2:Bool),Xel V1.fs=some p∧PickP V1 p ↑lv∧Mg (Xcg ts1 p) m∧ChgP L1 D1 V1 ts1 false (m.filter (Xb0 V1.fs ↑lv)) ↑lv p e2 L' D2 V' ts' dead2∧mem'=[]∧
    ((e2≠0∧did=false∧e=e2∧D'=D2∧dead'=dead2)∨
     (e2=0∧D'=(D2.rem (p.map λf=>Xcl f.id)).2∧(((D2.rem (p.map λf=>Xcl f.id)).1≠0∧did=false∧e=(D2.rem (p.map λf=>Xcl f.id)).1∧dead'=true)∨((D2.rem (p.map λf=>Xcl f.id)).1=0∧did=true∧e=0∧dead'=dead2)))))))
section
variable {out:List Cell}{r:Rw}{seq:Int}{j:Nat}{d:Cell}
theorem Xxi (h:out[j]?=some d)(hl:sLt d.key r.key=true):(out.drop j).takeWhile (λx=>sLt x.key r.key)=d :: (out.drop (j+1)).takeWhile (λx=>sLt x.key r.key)∧(out.drop j).dropWhile (λx=>sLt x.key r.key)=(out.drop (j+1)).dropWhile (λx=>sLt x.key r.key):=by
 rw[Xbr h,List.takeWhile_cons,List.dropWhile_cons];simp [hl]
theorem Xxj (h:out[j]?=some d)(hl:sLt d.key r.key=false):(out.drop j).takeWhile (λx=>sLt x.key r.key)=[]∧(out.drop j).dropWhile (λx=>sLt x.key r.key)=out.drop j:=by
 rw[Xbr h,List.takeWhile_cons,List.dropWhile_cons];simp [hl]
theorem X2w (h:out.length≤j):(out.drop j).takeWhile (λx=>sLt x.key r.key)=[]∧(out.drop j).dropWhile (λx=>sLt x.key r.key)=out.drop j:=by
 rw[List.drop_eq_nil_of_le h];exact⟨rfl,rfl⟩
theorem Xrp (h:out[j]?=some d)(e:d.key=r.key):insK out (r.cell seq)=out:=by
 unfold insK;rw[if_pos (List.any_eq_true.2 ⟨d,List.mem_of_getElem? h,by simp [e,Rw.cell]⟩)]
theorem Xrq (hu:KUp out)(h1:out.takeWhile (λx=>sLt x.key r.key)=out.take j)(h2:out.dropWhile (λx=>sLt x.key r.key)=out.drop j)(h3:out.length≤j∨∃d,out[j]?=some d∧d.key≠r.key):insK out (r.cell seq)=out.take j++r.cell seq :: out.drop j:=by
 have hn:¬ (out.any λx=>decide (x.key=(r.cell seq).key))=true:=by
  intro h
  obtain⟨x,hx,e⟩:=List.any_eq_true.1 h
  have e:x.key=r.key:=of_decide_eq_true e
  rw[←List.take_append_drop j out]at hx
  rcases List.mem_append.1 hx with hx|hx
  ·rw[←h1]at hx
   have:=List.all_eq_true.1 (List.all_takeWhile (p:=λx:Cell=>sLt x.key r.key) (l:=out)) x hx
   rw[e,Xau]at this;cases this
  ·rcases h3 with h3|⟨d,hd,h3⟩
   ·rw[List.drop_eq_nil_of_le h3]at hx;cases hx
   ·have hds:sLt d.key r.key=false:=by
     have:=List.head?_dropWhile_not (λx:Cell=>sLt x.key r.key) out
     rw[h2,Xbr hd]at this
     simpa using this
    rw[Xbr hd]at hx
    rcases List.mem_cons.1 hx with rfl|hx
    ·exact h3 e
    ·have hp:KUp (out.drop j):=List.Pairwise.sublist (List.drop_sublist _ _) hu
     rw[Xbr hd]at hp
     have:=(List.pairwise_cons.1 hp).1 x hx
     rw[e,hds]at this;cases this
 unfold insK
 rw[if_neg hn]
 show out.takeWhile (λx=>sLt x.key r.key)++_ :: out.dropWhile (λx=>sLt x.key r.key)=_
 rw[h1,h2]
theorem Xpe {l:List Rw}{k:Nat}(h:l[k]?=some r):Xam (l.drop k) seq=insK (Xam (l.drop (k+1)) seq) (r.cell seq):=by rw[Xbr h];rfl
end
theorem X0f (l:List Rw)(v:Value)(seq:Int)(w:World)(hv:Arr Rw.cs 3 w v l)(hl:l.length≤100000) :
  Calls Tryz.prog 56 [v,I seq].toArray w (Gives w (λu w'=>Vc.Own Cell.cs 4 79 w.heap.size w' u (Xam l seq))):=by
 refine cw Tryz.func56 ?_
 have hx:=Ext.refl w
 refine ws λ_ Z1=>wr (da (de Z1 (ws λ_ Z2=>wr (da (de Z2 (ws λ_ Z3=>ws λ_ Z4=>wr (dm ?_)))))))
 refine dv 48 3 (hv.ext hx).sl (Xa3 (v:=I (↑l.length-1-↑(0:Nat))) rfl (Xax rfl rfl (by unfold Xai;omega)) (by show I _=I _;congr 1;omega) (da (de Z4 (Xab ?_))))
 refine Xaj (G:=Nat×Value) (λ(k,vo)=>[(0,v),(1,I seq),(4,.slice none 0 0),(5,vo),(6,I (↑l.length-1-↑k))]) (λ(k,vo) w'=>Ext w w'∧k≤l.length∧Vc.Own Cell.cs 4 79 w.heap.size w' vo (Xam (l.drop (l.length-k)) seq)∧Arr Cell.cs 4 w' vo (Xam (l.drop (l.length-k)) seq)) (λ(k,vo)=>l.length-k) (0,.slice none 0 0) ?_ ?_ ?_
 ·exact zz5
 ·exact⟨hx,Nat.zero_le _,by rw[Nat.sub_zero,List.drop_of_length_le (Nat.le_refl _)];exact Vc.Own.nil,by rw[Nat.sub_zero,List.drop_of_length_le (Nat.le_refl _)];exact Arr.nil⟩
 intro X1 g1 w1 hF1
 obtain⟨k,vo⟩:=g1
 clear hx
 obtain⟨hx,hk1,hO,hA⟩:=hF1
 refine ws λ_ Z5=>ws λ_ Z6=>wr (dm ?_)
 refine dp (Xcq rfl rfl) (de Z6 (wi (λc1=>?_) λc1=>?_))
 ·obtain⟨r,hk⟩:∃r,l[l.length-1-k]?=some r:=gtE
  have hst:=Xpe (seq:=seq) hk
  rw[show l.length-1-k+1=l.length-k by omega,show l.length-1-k=l.length-(k+1) by omega]at hst
  have hcl:=Xd6 (l.drop (l.length-k)) seq
  have hup:=Xgt (l.drop (l.length-k)) seq
  rw[List.length_drop]at hcl
  refine Xaa (Z5 _ _ (ws λ_ Z7=>Xab (ws λ_ Z8=>wr (da (de Z8 ?_)))))
  refine Xc1 (G:=Nat) (λj=>[(0,v),(1,I seq),(4,.slice none 0 0),(5,vo),(6,I (↑l.length-1-↑k)),(7,I ↑j)]) (λj w'=>Ext w w'∧Vc.Own Cell.cs 4 79 w.heap.size w' vo (Xam (l.drop (l.length-k)) seq)∧Arr Cell.cs 4 w' vo (Xam (l.drop (l.length-k)) seq)∧j≤(Xam (l.drop (l.length-k)) seq).length∧(Xam (l.drop (l.length-k)) seq).takeWhile (λx:Cell=>sLt x.key r.key)=(Xam (l.drop (l.length-k)) seq).take j∧(Xam (l.drop (l.length-k)) seq).dropWhile (λx:Cell=>sLt x.key r.key)=(Xam (l.drop (l.length-k)) seq).drop j) ?_ ?_
  ·refine Xab ?_
   refine Xaj (G:=Nat) (λj=>[(0,v),(1,I seq),(4,.slice none 0 0),(5,vo),(6,I (↑l.length-1-↑k)),(7,I ↑j)]) (λj w'=>Ext w w'∧Vc.Own Cell.cs 4 79 w.heap.size w' vo (Xam (l.drop (l.length-k)) seq)∧Arr Cell.cs 4 w' vo (Xam (l.drop (l.length-k)) seq)∧j≤(Xam (l.drop (l.length-k)) seq).length∧(Xam (l.drop (l.length-k)) seq).takeWhile (λx:Cell=>sLt x.key r.key)=(Xam (l.drop (l.length-k)) seq).take j++((Xam (l.drop (l.length-k)) seq).drop j).takeWhile (λx:Cell=>sLt x.key r.key)∧(Xam (l.drop (l.length-k)) seq).dropWhile (λx:Cell=>sLt x.key r.key)=((Xam (l.drop (l.length-k)) seq).drop j).dropWhile (λx:Cell=>sLt x.key r.key)) (λj=>(Xam (l.drop (l.length-k)) seq).length-j) 0 ?_ ?_ ?_
   ·exact zz6
   ·exact⟨hx,hO,hA,Nat.zero_le _,rfl,rfl⟩
   intro X2 g2 w2 hF2
   revert hF2;revert g2;intro j hF2
   clear hx hO hA
   obtain⟨hx,hO,hA,hj1,ht,hdw⟩:=hF2
   refine ws λ_ Z9=>ws λ_ Z10=>Xaq (R:=Ext) Ext.refl (λ_ _ _=>Ext.trans) kr9 [9,14] [(0,.p,false),(1,.p,false),(2,.p,false),(3,.p,false),(4,.p,false),(5,.p,false),(6,.p,false),(7,.p,false),(8,.p,false),(9,.l,false),(10,.p,false),(11,.p,false),(12,.p,false),(13,.p,false),(14,.l,false),(15,.p,false),(16,.p,false)] rfl kr9 kr9 (λw3 ew3=>?_)
   have x3:=drewx ew3
   clear ew3
   replace hO:=hO.ext x3
   replace hA:=hA.ext x3
   replace hx:=hx.trans x3
   iterate 2 refine dm ?_
   refine dv 79 4 hA.sl (dp (Xaf rfl rfl) (dm ?_))
   refine Xag 20 rfl (λc2=>?_) (λc2=>?_)
   ·obtain⟨d,hd⟩:∃d,(Xam (l.drop (l.length-k)) seq)[j]?=some d:=gtE
    iterate 2 refine dm ?_
    refine di 79 4 hA.sl rfl (hA.lt hd) (df 0 rfl (dL rfl (λ_ hR=>(((hA.ext hR).row hd).at rfl)) (dm ?_)))
    refine Xa3 (v:=I ↑(l.length-1-k)) rfl (Xdh rfl) (by show I _=I _;congr 1;omega) (di 48 3 hv.sl rfl (hv.lt hk) (df 0 rfl (dL rfl (λ_ hR=>(((hv.ext (hx.trans hR)).row hk).at rfl)) (dp (Xjt rfl rfl) (dk' (de Z10 ?_))))))
    refine wc (λc3=>?_) λc3=>?_
    ·refine Xaa (Z9 _ _ (Xab (wr (dm ?_))))
     refine pa rfl rfl (da (Xad (?_)))
     refine⟨j+1,zz6,⟨hx,hO,hA,by omega,?_,?_⟩,by omega⟩
     ·rw[ht,(Xxi hd c3).1,Xaw hd];simp
     ·rw[hdw,(Xxi hd c3).2]
    refine Xah ?_
    exact⟨j,zz6,hx,hO,hA,hj1,by rw[ht,(Xxj hd c3).1,List.append_nil],by rw[hdw,(Xxj hd c3).2]⟩
   iterate 11 refine dk ?_
   refine dk' (de Z10 ?_)
   refine W_f rfl (Xah ?_)
   exact⟨j,zz6,hx,hO,hA,hj1,by rw[ht,(X2w om9).1,List.append_nil],by rw[hdw,(X2w om9).2]⟩
  intro X4 g4 w4 hF4
  revert hF4;revert g4;intro j hF4
  clear hx hO hA
  obtain⟨hx,hO,hA,hj1,ht,hdw⟩:=hF4
  refine ws λ_ Z11=>ws λ_ Z12=>Xaq (R:=Ext) Ext.refl (λ_ _ _=>Ext.trans) kr9 [9,14] [(0,.p,false),(1,.p,false),(2,.p,false),(3,.p,false),(4,.p,false),(5,.p,false),(6,.p,false),(7,.p,false),(8,.p,false),(9,.l,false),(10,.p,false),(11,.p,false),(12,.p,false),(13,.p,false),(14,.l,false),(15,.p,false),(16,.p,false)] rfl kr9 kr9 (λw5 ew5=>?_)
  have x5:=drewx ew5
  clear ew5
  replace hO:=hO.ext x5
  replace hA:=hA.ext x5
  replace hx:=hx.trans x5
  iterate 2 refine dm ?_
  refine dv 79 4 hA.sl (dp (Xaf rfl rfl) (dm ?_))
  refine Xag 39 rfl (λc4=>?_) (λc4=>?_)
  ·obtain⟨d,hd⟩:∃d,(Xam (l.drop (l.length-k)) seq)[j]?=some d:=gtE
   iterate 2 refine dm ?_
   refine di 79 4 hA.sl rfl (hA.lt hd) (df 0 rfl (dL rfl (λ_ hR=>(((hA.ext hR).row hd).at rfl)) (dm ?_)))
   refine Xa3 (v:=I ↑(l.length-1-k)) rfl (Xdh rfl) (by show I _=I _;congr 1;omega) (di 48 3 hv.sl rfl (hv.lt hk) (df 0 rfl (dL rfl (λ_ hR=>(((hv.ext (hx.trans hR)).row hk).at rfl)) (dp (Xfr rfl rfl) (dk' (de Z12 ?_))))))
   refine wi (λc5=>?_) λc5=>?_
   ·refine Xah (Z7 _ _ (wr (dm ?_)))
    refine Xa3 (v:=I (↑l.length-1-↑(k+1))) rfl (Xax rfl rfl (by unfold Xai;omega)) (by show I _=I _;congr 1;omega) (da (Xad (?_)))
    refine⟨(k+1,vo),zz5,⟨hx,by omega,?_,?_⟩,by simp only [];omega⟩
    ·rw[hst,Xrp hd c5];exact hO
    ·rw[hst,Xrp hd c5];exact hA
   refine Xaa (Z11 _ _ (ws λ_ Z13=>?_))
   have hxs:=hx
   have hD:w.heap.size≤w5.heap.size:=hx.size
   have hA_s:=hA
   have hO_s:=hO
   have hv_s:=(hv.ext hx)
   refine Xaq (R:=Mod (geB w5.heap.size)) (Far.refl _) Far.trans kr9 [8] [(1,.p,false),(2,.p,false),(3,.p,false),(5,.p,false),(6,.p,false),(7,.p,false),(8,.l,false),(9,.p,false),(0,.x,false),(4,.x,false),(10,.x,true),(11,.x,false),(12,.x,false),(13,.p,false)] rfl kr9 kr9 (λw6 ew6=>?_)
   have x6:=drewx ew6
   clear ew6
   replace hO:=hO.ext x6
   replace hA:=hA.ext x6
   replace hx:=hx.trans x6
   have hs:Mod (geB w5.heap.size) w5 w6:=Far.of_ext x6
   iterate 2 refine dm ?_
   refine dp (Xbq (e:=79) (k:=4) kr9 hA.sl rfl rfl rfl om9 om9) (dm ?_)
   refine Xa3 (v:=I ↑(l.length-1-k)) rfl (Xdh rfl) (by show I _=I _;congr 1;omega) (di 48 3 hv.sl rfl (hv.lt hk) (D_l rfl (λw' hR=>Xac kr9 rfl rfl ((hv_s.far dc9 (hs.own hR (λ_ h _=>h))).row hk)) (dm ?_)))
   refine Xik (e:=79) (sz:=4) rfl kr9 RX.far (λb1 w7 e1 x7 m1=>?_)
   have g1:=hx.ge e1
   have o1_hO:=hO.ltb e1
   have a1_hA:=Arr.base_lt hA dc9
   have gs1:w5.heap.size≤b1:=by have:=hs.size;omega
   replace hO:=hO.ext x7
   replace hA:=hA.ext x7
   replace hx:=hx.trans x7
   replace hs:=hs.ext x7
   have ho:=m1.own (enc:=Cell.cs) (B:=w5.heap.size) (l:=[]) (sz:=4) (m:=0) gs1 rfl ir9 rfl (Nat.le_of_ble_eq_true rfl)
   refine Xar (e:=79) (sz:=4) (by':=48) rfl kr9 kr9 ir9 ho ((hA).slice (Nat.zero_le _) hj1) rfl rfl (by intro x _ u hu;simp at hu;rcases hu with rfl|rfl|rfl|rfl<;>rfl) (by simp;omega) dc9 hs.size (.inr (Far.own ho (Nat.le_refl _))) (λvp w8 ho_n x8=>?_)
   replace hs:=hs.own x8 (λi hi _=>by have:=(ho.lt i hi).1;unfold geB;omega)
   try replace hO:=hO.mod x8 (by first|(intro k9 h9 e9;have h8:=(hO_s.lt k9 h9).2;have h7:=(ho.lt k9 e9).1;omega)|(intro hl9 e9;have h8:=(hO_s.lt _ (hO_s.base_block hl9)).2;have h7:=(ho.lt _ e9).1;omega))
   try replace hA:=hA.mod x8 (by first|(intro k9 h9 e9;have h8:=(hO_s.lt k9 h9).2;have h7:=(ho.lt k9 e9).1;omega)|(intro hl9 e9;have h8:=(hO_s.lt _ (hO_s.base_block hl9)).2;have h7:=(ho.lt _ e9).1;omega))
   replace hx:=hx.own x8 (λi hi=>(by have h1:=(ho.lt i hi).1;first|exact h1|(have:=hxs.size;omega)))
   replace ho:=ho_n
   refine cP (Xqn r seq _) RX.all λw9 x9=>?_
   replace hO:=hO.ext x9
   replace hA:=hA.ext x9
   replace ho:=ho.ext x9
   replace hx:=hx.trans x9
   replace hs:=hs.ext x9
   refine li (e:=79) (sz:=4) (zs:=[S [],S [],B false,.int .i64 0]) (pv:=[(0,.agg ⟨[_,_,_,_]⟩)]) (cs:=[_,_,_,_]) RX.far (λb2 w10 e2 x10 m2=>?_)
   have g2:=hx.ge e2
   have o2_hO:=hO.ltb e2
   have a2_hA:=Arr.base_lt hA dc9
   have gs2:w5.heap.size≤b2:=by have:=hs.size;omega
   replace hO:=hO.ext x10
   replace hA:=hA.ext x10
   replace ho:=ho.ext x10
   replace hx:=hx.trans x10
   replace hs:=hs.ext x10
   refine Xar (lx:=[r.cell seq]) (e:=79) (sz:=4) (by':=48) rfl kr9 kr9 ir9 ho (m2.arr (enc:=Cell.cs) (sz:=4) (l:=[r.cell seq]) rfl ir9 rfl (Nat.le_of_ble_eq_true rfl)) rfl rfl (by intro x _ u hu;simp at hu;rcases hu with rfl|rfl|rfl|rfl<;>rfl) (by simp;omega) dc9 hs.size (.inr (Far.own ho (Nat.le_refl _))) (λvq w11 ho_n x11=>?_)
   replace hs:=hs.own x11 (λi hi _=>by have:=(ho.lt i hi).1;unfold geB;omega)
   try replace hO:=hO.mod x11 (by first|(intro k9 h9 e9;have h8:=(hO_s.lt k9 h9).2;have h7:=(ho.lt k9 e9).1;omega)|(intro hl9 e9;have h8:=(hO_s.lt _ (hO_s.base_block hl9)).2;have h7:=(ho.lt _ e9).1;omega))
   try replace hA:=hA.mod x11 (by first|(intro k9 h9 e9;have h8:=(hO_s.lt k9 h9).2;have h7:=(ho.lt k9 e9).1;omega)|(intro hl9 e9;have h8:=(hO_s.lt _ (hO_s.base_block hl9)).2;have h7:=(ho.lt _ e9).1;omega))
   replace hx:=hx.own x11 (λi hi=>(by have h1:=(ho.lt i hi).1;first|exact h1|(have:=hxs.size;omega)))
   replace ho:=ho_n
   clear m2
   refine da ?_
   clear hs hxs hA_s hO_s hv_s
   refine de Z13 (wr (dm (dm (dm ?_))))
   refine dp (Xbq (e:=79) (k:=4) kr9 hA.sl rfl rfl rfl om9 om9) ?_
   replace ho:=ho.mono hD
   refine Xar (e:=79) (sz:=4) (by':=48) rfl kr9 kr9 ir9 ho ((hA).slice hj1 (Nat.le_refl _)) rfl rfl (by intro x _ u hu;simp at hu;rcases hu with rfl|rfl|rfl|rfl<;>rfl) (by simp;omega) dc9 hx.size (.inl rfl) (λvr w12 ho_n x12=>?_)
   try replace hO:=hO.mod x12 (by first|assumption|(intro h;have h1:=(ho.lt _ h).1;omega))
   try replace hA:=hA.mod x12 (by first|assumption|(intro h;have h1:=(ho.lt _ h).1;omega))
   replace hx:=hx.own x12 (λi hi=>(ho.lt i hi).1)
   replace ho:=ho_n
   refine da (de Z7 (wr (dm ?_)))
   refine Xa3 (v:=I (↑l.length-1-↑(k+1))) rfl (Xax rfl rfl (by unfold Xai;omega)) (by show I _=I _;congr 1;omega) (da (Xad (?_)))
   have e99:Xam (l.drop (l.length-(k+1))) seq=(Xam (l.drop (l.length-k)) seq).take j++[r.cell seq]++(Xam (l.drop (l.length-k)) seq).drop j:=by rw[hst,Xrq hup ht hdw (.inr ⟨d,hd,c5⟩)];simp
   have ho9:Vc.Own Cell.cs 4 79 w.heap.size w12 vr ((Xam (l.drop (l.length-k)) seq).take j++[r.cell seq]++(Xam (l.drop (l.length-k)) seq).drop j):=by
    have:=ho
    simpa using this
   rw[←e99]at ho9
   exact⟨(k+1,vr),zz5,⟨hx,by omega,ho9,ho9.arr ir9⟩,by simp only [];omega⟩
  iterate 11 refine dk ?_
  refine dk' (de Z12 ?_)
  refine W_f rfl (Xaa (Z11 _ _ (ws λ_ Z14=>?_)))
  have hxs:=hx
  have hD:w.heap.size≤w5.heap.size:=hx.size
  have hA_s:=hA
  have hO_s:=hO
  have hv_s:=(hv.ext hx)
  refine Xaq (R:=Mod (geB w5.heap.size)) (Far.refl _) Far.trans kr9 [8] [(1,.p,false),(2,.p,false),(3,.p,false),(5,.p,false),(6,.p,false),(7,.p,false),(8,.l,false),(9,.p,false),(0,.x,false),(4,.x,false),(10,.x,true),(11,.x,false),(12,.x,false),(13,.p,false)] rfl kr9 kr9 (λw13 ew13=>?_)
  have x13:=drewx ew13
  clear ew13
  replace hO:=hO.ext x13
  replace hA:=hA.ext x13
  replace hx:=hx.trans x13
  have hs:Mod (geB w5.heap.size) w5 w13:=Far.of_ext x13
  iterate 2 refine dm ?_
  refine dp (Xbq (e:=79) (k:=4) kr9 hA.sl rfl rfl rfl om9 om9) (dm ?_)
  refine Xa3 (v:=I ↑(l.length-1-k)) rfl (Xdh rfl) (by show I _=I _;congr 1;omega) (di 48 3 hv.sl rfl (hv.lt hk) (D_l rfl (λw' hR=>Xac kr9 rfl rfl ((hv_s.far dc9 (hs.own hR (λ_ h _=>h))).row hk)) (dm ?_)))
  refine Xik (e:=79) (sz:=4) rfl kr9 RX.far (λb3 w14 e3 x14 m3=>?_)
  have g3:=hx.ge e3
  have o3_hO:=hO.ltb e3
  have a3_hA:=Arr.base_lt hA dc9
  have gs3:w5.heap.size≤b3:=by have:=hs.size;omega
  replace hO:=hO.ext x14
  replace hA:=hA.ext x14
  replace hx:=hx.trans x14
  replace hs:=hs.ext x14
  have ho:=m3.own (enc:=Cell.cs) (B:=w5.heap.size) (l:=[]) (sz:=4) (m:=0) gs3 rfl ir9 rfl (Nat.le_of_ble_eq_true rfl)
  refine Xar (e:=79) (sz:=4) (by':=48) rfl kr9 kr9 ir9 ho ((hA).slice (Nat.zero_le _) hj1) rfl rfl (by intro x _ u hu;simp at hu;rcases hu with rfl|rfl|rfl|rfl<;>rfl) (by simp;omega) dc9 hs.size (.inr (Far.own ho (Nat.le_refl _))) (λvp w15 ho_n x15=>?_)
  replace hs:=hs.own x15 (λi hi _=>by have:=(ho.lt i hi).1;unfold geB;omega)
  try replace hO:=hO.mod x15 (by first|(intro k9 h9 e9;have h8:=(hO_s.lt k9 h9).2;have h7:=(ho.lt k9 e9).1;omega)|(intro hl9 e9;have h8:=(hO_s.lt _ (hO_s.base_block hl9)).2;have h7:=(ho.lt _ e9).1;omega))
  try replace hA:=hA.mod x15 (by first|(intro k9 h9 e9;have h8:=(hO_s.lt k9 h9).2;have h7:=(ho.lt k9 e9).1;omega)|(intro hl9 e9;have h8:=(hO_s.lt _ (hO_s.base_block hl9)).2;have h7:=(ho.lt _ e9).1;omega))
  replace hx:=hx.own x15 (λi hi=>(by have h1:=(ho.lt i hi).1;first|exact h1|(have:=hxs.size;omega)))
  replace ho:=ho_n
  refine cP (Xqn r seq _) RX.all λw16 x16=>?_
  replace hO:=hO.ext x16
  replace hA:=hA.ext x16
  replace ho:=ho.ext x16
  replace hx:=hx.trans x16
  replace hs:=hs.ext x16
  refine li (e:=79) (sz:=4) (zs:=[S [],S [],B false,.int .i64 0]) (pv:=[(0,.agg ⟨[_,_,_,_]⟩)]) (cs:=[_,_,_,_]) RX.far (λb4 w17 e4 x17 m4=>?_)
  have g4:=hx.ge e4
  have o4_hO:=hO.ltb e4
  have a4_hA:=Arr.base_lt hA dc9
  have gs4:w5.heap.size≤b4:=by have:=hs.size;omega
  replace hO:=hO.ext x17
  replace hA:=hA.ext x17
  replace ho:=ho.ext x17
  replace hx:=hx.trans x17
  replace hs:=hs.ext x17
  refine Xar (lx:=[r.cell seq]) (e:=79) (sz:=4) (by':=48) rfl kr9 kr9 ir9 ho (m4.arr (enc:=Cell.cs) (sz:=4) (l:=[r.cell seq]) rfl ir9 rfl (Nat.le_of_ble_eq_true rfl)) rfl rfl (by intro x _ u hu;simp at hu;rcases hu with rfl|rfl|rfl|rfl<;>rfl) (by simp;omega) dc9 hs.size (.inr (Far.own ho (Nat.le_refl _))) (λvq w18 ho_n x18=>?_)
  try replace hO:=hO.mod x18 (by first|(intro k9 h9 e9;have h8:=(hO_s.lt k9 h9).2;have h7:=(ho.lt k9 e9).1;omega)|(intro hl9 e9;have h8:=(hO_s.lt _ (hO_s.base_block hl9)).2;have h7:=(ho.lt _ e9).1;omega))
  try replace hA:=hA.mod x18 (by first|(intro k9 h9 e9;have h8:=(hO_s.lt k9 h9).2;have h7:=(ho.lt k9 e9).1;omega)|(intro hl9 e9;have h8:=(hO_s.lt _ (hO_s.base_block hl9)).2;have h7:=(ho.lt _ e9).1;omega))
  replace hx:=hx.own x18 (λi hi=>(by have h1:=(ho.lt i hi).1;first|exact h1|(have:=hxs.size;omega)))
  replace ho:=ho_n
  clear m4
  refine da ?_
  clear hs hxs hA_s hO_s hv_s
  refine de Z14 (wr (dm (dm (dm ?_))))
  refine dp (Xbq (e:=79) (k:=4) kr9 hA.sl rfl rfl rfl om9 om9) ?_
  replace ho:=ho.mono hD
  refine Xar (e:=79) (sz:=4) (by':=48) rfl kr9 kr9 ir9 ho ((hA).slice hj1 (Nat.le_refl _)) rfl rfl (by intro x _ u hu;simp at hu;rcases hu with rfl|rfl|rfl|rfl<;>rfl) (by simp;omega) dc9 hx.size (.inl rfl) (λvr w19 ho_n x19=>?_)
  try replace hO:=hO.mod x19 (by first|assumption|(intro h;have h1:=(ho.lt _ h).1;omega))
  replace hx:=hx.own x19 (λi hi=>(ho.lt i hi).1)
  replace ho:=ho_n
  refine da (de Z7 (wr (dm ?_)))
  refine Xa3 (v:=I (↑l.length-1-↑(k+1))) rfl (Xax rfl rfl (by unfold Xai;omega)) (by show I _=I _;congr 1;omega) (da (Xad (?_)))
  have e99:Xam (l.drop (l.length-(k+1))) seq=(Xam (l.drop (l.length-k)) seq).take j++[r.cell seq]++(Xam (l.drop (l.length-k)) seq).drop j:=by rw[hst,Xrq hup ht hdw (.inl om9)];simp
  have ho9:Vc.Own Cell.cs 4 79 w.heap.size w19 vr ((Xam (l.drop (l.length-k)) seq).take j++[r.cell seq]++(Xam (l.drop (l.length-k)) seq).drop j):=by
   have:=ho
   simpa using this
  rw[←e99]at ho9
  exact⟨(k+1,vr),zz5,⟨hx,by omega,ho9,ho9.arr ir9⟩,by simp only [];omega⟩
 refine Xah (Z3 _ _ (ws λ_ Z15=>wr (dm (da (de Z15 (Xae ?_))))))
 refine ro ?_
 rw[show k=l.length by omega,Nat.sub_self,List.drop_zero]at hO
 exact⟨_,rfl,hx,hO⟩
end Go.Proofs.YtiooodckiddpmaaGreatDoor
namespace Go.Vc
open Go.ChangeShapes Go.WideShapes Go.ChangeAt Go.RowKit
section
variable {H:Type}{enc:TypeId×Value->H}{P:Program}{W W':World}{base:Nat}
def readB (P:Program)(t:TypeId):Bool:=P.readableRec t && decide (t<P.types.size)
theorem Xjj (hl:laidOutB P=true)(hx:Ext W W'):∀ {ts:List TypeId} {vs:List Value} {ds:List (DataW H)} {ps:List MemPlace},ts.all (readB P)=true->DataW.TrodAll enc P W 0 (λ_=>true) true ts vs ds ps->
  (∀p∈ps,p.block<W.heap.size)->DataW.TrodAll enc P W' 0 (λb=>decide (b<W.heap.size)) true ts vs ds ps
 | [],[],[],_,_,h,_=>h
 | t :: ts,v :: vs,d :: ds,ps,hr,h,hlt=>by
  obtain⟨p,q,h1,h2,rfl⟩:=h
  simp only [List.all_cons,Bool.and_eq_true]at hr
  have hr1:P.readableRec t=true∧t<P.types.size:=by simpa [readB]using hr.1
  exact⟨p,q,Below.trod hl hr1.1 hr1.2 h1 hx.below (λx hx=>hlt x (by simp [hx])),Xjj hl hx hr.2 h2 (λx hx=>hlt x (by simp [hx])),rfl⟩
 | [],[],_ :: _,_,_,h,_=>h.elim
 | [],_ :: _,_,_,_,h,_=>h.elim
 | _ :: _,[],_,_,_,h,_=>h.elim
 | _ :: _,_ :: _,[],_,_,h,_=>h.elim
theorem Ext.kept (hx:Ext W W')(may:MemPlace->Prop):W.keptBut W' may:=hx.below.frame may
theorem Xxk {f:Func}{s:ChangeSpec}{fresh handsOn:Bool}{args:Array Value}{ds gs:List (DataW H)}{before:List MemPlace}{tb:TypeId}(hl:laidOutB P=true)(hts:f.params.toList.all (readB P)=true)
  (hrt:f.resultTypes=#[tb]) (hb:P.underlying tb=some .bool) (hv:s.vars=[]) (hs:s.fn H ds={ results:=[.lit (.bool true)],args:=ds })
  (hW:DataW.Whole enc P f.params.toList s.vars false W args.toList ds gs before) (hx:Ext W W'):s.post enc P f false fresh handsOn false W args (.bool true) W':=by
 have hW':=hW
 obtain⟨p,q,hA,hV,rfl,hfz,hnd⟩:=hW
 rw[hv]at hV
 obtain⟨rfl,rfl⟩:=trodVars_none hV
 have hlt:∀x∈p,x.block<W.heap.size:=λx hx=>by have:=hW'.lt x (by simp [hx]);simpa using this
 have e:s.fn H (ds++[])={ results:=[.lit (.bool true)],args:=ds }:=by rw[List.append_nil,hs]
 refine⟨ds,[],p++[],[],p,[],hW',?_,?_,?_,hx.kept _,λh=>by cases h⟩
 ·rw[e,hrt]
  exact trodAll_mk1 (shut_bool hb true)
 ·rw[e];exact Xjj hl hx hts hA hlt
 ·rw[e,hv];rfl
theorem X2x {n:Int}(h:(Lit.int .i64 n).wf=true):Xai n:=by
 have:IntKind.i64.min≤n∧n≤IntKind.i64.max:=by simpa [Lit.wf]using h
 simpa [Xai,IntKind.min,IntKind.max,IntKind.signed,IntKind.bits]using this
inductive Kd where
 | s
 | b
 | i (k:IntKind)
def kdOf (P:Program)(t:TypeId):Option Kd:=match P.underlying t with
 | some .string=>some .s
 | some .bool=>some .b
 | some (.int k)=>some (.i k)
 | _=>none
def X84 (P:Program):List Field->Nat->Option (List Kd)
 | [],_=>some []
 | f :: r,o=>if f.offset == o && P.cellsOf f.type == 1 then(match kdOf P f.type,X84 P r (o+1)with
  | some k,some ks=>some (k :: ks)
  | _,_=>none)else none
def Yam (P:Program)(t:TypeId):Option (List Kd):=match P.underlying t with
 | some (.struct fs)=>X84 P fs.toList 0
 | _=>none
def X6b : List Kd->List Value->Prop
 | [],[]=>True
 | .s :: r,v :: c=>(∃x:Str,v=S x∧x.length≤maxLen)∧X6b r c
 | .b :: r,v :: c=>(∃x:Bool,v=.bool x)∧X6b r c
 | .i k :: r,v :: c=>(∃x:Int,v=.int k x∧(Lit.int k x).wf=true)∧X6b r c
 | _,_=>False
end
variable {H:Type}{enc:TypeId×Value->H}
theorem Xhn {a:Assume}{C:Checked}{os:Os}{f:FuncId}{fn:Func}{s:ChangeSpec}{conds:List PathCond}{apart fresh handsOn again:Bool}{X:World->Array Value->Prop}
  (hX:∀(w w':World) (args:Array Value),w.heap=w'.heap->X w args->X w' args)
  (own:ownKnob C.prog.godebug=none) (started:os.Started) (noInit:C.prog.inits.idxOf? f=none) (hfn:C.prog.funcs[f]?=some fn)
  (witness:∃(w:World) (tape:Tape) (i:Input),w.os=os∧(w.forCall tape i).Shaped C.prog∧i.vars=[]∧Input.okWide C.prog (w.forCall tape i) .any w.heap.size f i∧
   ((s.pre enc C.prog fn conds apart (w.forCall tape i).memory i.args∧X (w.forCall tape i).memory i.args)∧sizedMet enc C.prog fn (OpenSpec.ofChange s) apart (w.forCall tape i).memory i.args)∧a.holds C.prog (lone (Frame.enter C.prog f i.args .normal) [] (w.forCall tape i)))
  (contract:∀(W:World) (base:Nat) (args:Array Value) (ds gs:List (DataW H)) (before:List MemPlace),
   (∀(j:Nat) t v,fn.params[j]?=some t->args[j]?=some v->Value.okWide C.prog W .any base t v)->
   DataW.Whole enc C.prog fn.params.toList s.vars apart W args.toList ds gs before->
   (DataW.weightsEach C.prog (fn.params.toList++s.plain.varTypes C.prog) (ds++gs)).all (·≤reachBytes)=true->X W args->W.ShapedOpen C.prog->
   Calls C.prog f args W λe W'=>∃v,e=.returned v∧s.post enc C.prog fn apart fresh handsOn again W args v W') :
  ReturnsInHanded a C os f .any (λw args=>(s.pre enc C.prog fn conds apart w args∧X w args)∧sizedMet enc C.prog fn (OpenSpec.ofChange s) apart w args) (s.post enc C.prog fn apart fresh handsOn again):=by
 refine returnsInHanded_of_calls own started noInit witness ?_
 intro w tape i _ hsh _ hok hpre _
 obtain⟨_,_,_,fn',hfn',_,_,_,_,hval⟩:=hok
 have e:fn'=fn:=Option.some.inj (hfn'.symm.trans hfn)
 subst e
 obtain⟨⟨⟨ds,gs,before,hw,_⟩,hx⟩,hz⟩:=hpre
 have hw':=DataW.Whole.of_heap (w':=w.forCall tape i) (by rfl) hw
 refine(contract (w.forCall tape i) w.heap.size i.args ds gs before hval hw' (hz.weights hw) (hX _ _ _ (by rfl) hx) hsh).mono λe W' ⟨v,he,hp⟩=>?_
 subst he
 exact ChangeSpec.post_blind hp
theorem Xso {P:Program}{W:World}{base:Nat}{r:Reach}{b0:Nat}{t:TypeId}{v:Value}{d:DataW H}{ps:List MemPlace}{sp:Nat->Bool}{hd:Bool}(ht:P.underlying t=some .string)(hval:Value.okWide P W r b0 t v)(h:DataW.Trod enc P W base sp hd t v d ps) :
  ∃s:Str,v=S s∧d=.lit (.string s):=by
 obtain⟨s,rfl⟩:=okWide_string ht hval
 obtain⟨n,h⟩:=h
 obtain⟨s',h1,h2,_⟩:=DataW.trod_string ht h
 have e:s=s':=by simpa [Value.cells]using h1
 subst e
 refine⟨s.data.toList,rfl,?_⟩
 have:=congrArg Prod.fst h2
 simpa using this
theorem Xsp {P:Program}{ts:List TypeId}{ds:List (DataW H)}(h:(DataW.weightsEach P ts ds).all (·≤reachBytes)=true){j:Nat}{t:TypeId}{s:Str}(ht:ts[j]?=some t)(hd:ds[j]?=some (.lit (.string s))):s.length≤140737488355328:=by
 have h1:=sized_string h ht hd
 have h2:=reachBytes_lt
 omega
section
variable {H:Type}{enc:TypeId×Value->H}{P:Program}{W W':World}{base:Nat}
theorem Xnt {α:Type}{Q:DataW H->α->Prop}{cenc:α->List Value}{good:α->Prop}{r:Reach}{b0:Nat}{t e sz:Nat}{v:Value}{d:DataW H}{ps:List MemPlace}{sp:Nat->Bool}{hd:Bool}(ht:P.underlying t=some (.slice e))(hc:P.cellsOf e=sz)
  (hdec:∀(n:Nat) (cs:List Value) (y:DataW H×List MemPlace),DataW.trod enc P W base sp hd n e cs=some y->cs.length=sz->∃x,cs=cenc x∧good x∧Q y.1 x)
  (hval:Value.okWide P W r b0 t v) (h:DataW.Trod enc P W base sp hd t v d ps):∃l:List α,Arr cenc sz W v l∧(∀x∈l,good x)∧l.length≤maxLen∧(l.length=0∨∃el sp',d=.slice el sp'∧el.length=l.length∧∀(i:Nat) (x:α),l[i]?=some x->∃y,el[i]?=some y∧Q y x):=by
 obtain⟨oa,len,cap,rfl⟩:=okWide_slice ht hval
 obtain⟨fuel,h⟩:=h
 rcases Deep.open_slice ht h with⟨h1,_⟩|⟨a,len',cap',m,n,D,Pl,h1,_,hlc,hcm,hm,hdx,hel⟩
 ·have h1':[Value.slice oa len cap]=[.slice none 0 0]:=by simpa [Value.cells]using h1
  simp only [List.cons.injEq,and_true]at h1'
  rw[h1']
  exact⟨[],Arr.nil,λx hx=>(by cases hx),Nat.zero_le _,.inl rfl⟩
 ·have h1':[Value.slice oa len cap]=[.slice (some a) len' cap']:=by simpa [Value.cells]using h1
  simp only [List.cons.injEq,Value.slice.injEq,and_true]at h1'
  obtain⟨rfl,rfl,rfl⟩:=h1'
  have hspot:a.spot=none:=by
   simp only [Value.okWide,ht,Cell.okWide,Cell.ok]at hval
   exact hval.2.2.2.1
  obtain⟨b,o,spot⟩:=a
  simp only at hspot
  subst hspot
  have hlm:len≤m:=by rw[hm];split<;>omega
  obtain⟨X,hX⟩:=Deep.choose_lt (α:=Option α) (n:=len) (p:=λi ox=>∃x,ox=some x∧W.cells? base ((⟨b,o,none⟩:Addr).add (i*P.cellsOf e)) (P.cellsOf e)=some (cenc x)∧good x∧Q (D i) x) (λi hi=>by
   obtain⟨cs',h2,h3⟩:=hel i om9
   obtain⟨_,hlen,_⟩:=World.cells?_some h2
   obtain⟨x,rfl,hg⟩:=hdec n cs' _ h3 (by rw[hlen,hc])
   exact⟨some x,x,rfl,h2,hg⟩)
  have hx:∀i,i<len->∃x,X i=some x∧W.cells? base ((⟨b,o,none⟩:Addr).add (i*P.cellsOf e)) (P.cellsOf e)=some (cenc x)∧good x∧Q (D i) x:=hX
  have hlist:∀k,k≤len->∃l:List α,l.length=k∧∀i,i<k->∃x,l[i]?=some x∧X i=some x:=by
   intro k
   induction k with
   | zero=>intro _;exact⟨[],rfl,λi hi=>absurd hi (Nat.not_lt_zero _)⟩
   | succ k ih=>
    intro hk
    obtain⟨l,hl,hl2⟩:=ih om9
    obtain⟨x,hx1,_⟩:=hx k om9
    refine⟨l++[x],by simp [hl],λi hi=>?_⟩
    by_cases hik:i<k
    ·obtain⟨y,h2,h3⟩:=hl2 i hik
     exact⟨y,by rw[List.getElem?_append_left om9];exact h2,h3⟩
    ·have:i=k:=by omega
     subst this
     exact⟨x,by rw[←hl];simp,hx1⟩
  obtain⟨l,hl,hl2⟩:=hlist len (Nat.le_refl _)
  refine⟨l,⟨.inr (.inl ⟨b,o,cap,by rw[List.length_map,hl],by rw[List.length_map,hl];exact hlc⟩),λi cs hi=>?_⟩,λx hx'=>?_,by omega,.inr ⟨_,_,(Prod.mk.inj hdx).1,by simp [hl],λi x hi=>?_⟩⟩
  ·rw[List.getElem?_map]at hi
   obtain⟨x,hx1,rfl⟩:=Option.map_eq_some_iff.1 hi
   have hlt:=(List.getElem?_eq_some_iff.1 hx1).1
   obtain⟨y,h2,h3⟩:=hl2 i om9
   obtain⟨z,h4,h5,_⟩:=hx i om9
   rw[h2]at hx1
   rw[h3]at h4
   cases hx1;cases h4
   obtain⟨_,hlen,hat⟩:=World.cells?_some h5
   refine⟨by rw[hlen,hc],λj u hj=>?_⟩
   have hjl:=(List.getElem?_eq_some_iff.1 hj).1
   have:=hat j om9
   rw[hj,Deep.add_add]at this
   have ha:(⟨b,o,none⟩:Addr).add (i*P.cellsOf e+j)=⟨b,o+i*sz+j,none⟩:=by
    unfold Addr.add
    split
    ·rename_i e0
     have h0:i*sz=0∧j=0:=by rw[hc]at e0;omega
     rw[h0.1,h0.2];rfl
    ·rw[hc];simp [Nat.add_assoc]
   rw[ha]at this
   exact this
  ·obtain⟨i,hi⟩:=List.mem_iff_getElem?.1 hx'
   have hlt:=(List.getElem?_eq_some_iff.1 hi).1
   obtain⟨y,h2,h3⟩:=hl2 i om9
   obtain⟨z,h4,_,h5⟩:=hx i om9
   rw[h2]at hi
   rw[h3]at h4
   cases hi;cases h4
   exact h5.1
  ·have hlt:=(List.getElem?_eq_some_iff.1 hi).1
   obtain⟨y,h2,h3⟩:=hl2 i om9
   obtain⟨z,h4,_,_,h5⟩:=hx i om9
   rw[h2]at hi
   rw[h3]at h4
   cases hi;cases h4
   exact⟨D i,by rw[List.getElem?_map,List.getElem?_range om9];rfl,h5⟩
theorem Xfw {e:TypeId} : ∀ {l:List (DataW H)} {d:DataW H},d∈l->∀n∈d.weights P e,n∈DataW.weightsAll P e l
 | [],_,h,_,_=>by cases h
 | a :: l,d,h,n,hn=>by
  rw[DataW.weightsAll,List.mem_append]
  rcases List.mem_cons.1 h with rfl|h
  ·exact .inl hn
  ·exact .inr (Xfw h n hn)
end
end Go.Vc
namespace Go.Proofs.YtiooodckiddpmaaGreatDoor
open Go.Vc Go.Sp Go.ChangeShapes Go.WideShapes Go.ChangeAt Go.RowKit
open Go.Deep (oneCellFields hone_of)
structure Ac where
 k:Int
 n:Int
 key:Str
 to:Str
 l:List Rw
 v:Value
@[reducible] def Ac.cs (a:Ac):List Value:=[I a.k,I a.n,S a.key,S a.to,a.v]
structure AcOk (W:World)(a:Ac):Prop where
 v:Arr Rw.cs 3 W a.v a.l
 hk:Xai a.k
 hn:Xai a.n
 key:a.key.length≤140737488355328
 to:a.to.length≤140737488355328
 len:a.l.length≤140737488355328
 row:∀r∈a.l,r.key.length≤140737488355328∧r.val.length≤140737488355328
theorem AcOk.ext {W W':World}{a:Ac}(h:AcOk W a)(x:Ext W W'):AcOk W' a:=⟨h.v.ext x,h.hk,h.hn,h.key,h.to,h.len,h.row⟩
section
variable {H:Type}{enc:TypeId×Value->H}{P:Program}{W:World}{base:Nat}
theorem Xxl {a:Addr}{v:Value}(h:W.cell? a=some v):a.spot=none:=by
 unfold World.cell? at h
 split at h
 ·split at h
  ·cases h
  ·rename_i hs;simpa using hs
 ·cases h
theorem Xnu {α:Type}{Q:DataW H->α->Prop}{cenc:α->List Value}{t e sz:Nat}{v:Value}{y:DataW H×List MemPlace}{sp:Nat->Bool}{hd:Bool}{n0:Nat}(ht:P.underlying t=some (.slice e))(hc:P.cellsOf e=sz)(hsz:0<sz)
  (hdec:∀(n:Nat) (cs:List Value) (y:DataW H×List MemPlace),DataW.trod enc P W base sp hd n e cs=some y->cs.length=sz->∃x,cs=cenc x∧Q y.1 x)
  (h:DataW.trod enc P W base sp hd n0 t [v]=some y):∃l:List α,Arr cenc sz W v l∧(l=[]∨∃el sp',y.1=.slice el sp'∧el.length=l.length∧∀(i:Nat) (x:α),l[i]?=some x->∃d,el[i]?=some d∧Q d x):=by
 rcases Deep.open_slice ht h with⟨h1,_⟩|⟨a,len,cap,m,n,D,Pl,h1,_,hlc,hcm,hm,hdx,hel⟩
 ·simp only [List.cons.injEq,and_true]at h1
  rw[h1]
  exact⟨[],Arr.nil,.inl rfl⟩
 ·simp only [List.cons.injEq,and_true]at h1
  subst h1
  have hlm:len≤m:=by rw[hm];split<;>omega
  by_cases hl0:len=0
  ·subst hl0
   exact⟨[],⟨.inr (.inr ⟨rfl,_,_,rfl⟩),λi cs hi=>by simp at hi⟩,.inl rfl⟩
  have hspot:a.spot=none:=by
   obtain⟨cs',h2,h3⟩:=hel 0 om9
   obtain⟨_,hlen,hat⟩:=World.cells?_some h2
   have h4:=hat 0 om9
   have h5:cs'[0]?=some cs'[0]:=List.getElem?_eq_getElem om9
   rw[h5]at h4
   have h6:(a.add (0*P.cellsOf e)).add 0=a:=by simp [Addr.add]
   rw[h6]at h4
   exact Xxl h4
  obtain⟨b,o,spot⟩:=a
  simp only at hspot
  subst hspot
  obtain⟨X,hX⟩:=Deep.choose_lt (α:=Option α) (n:=len) (p:=λi ox=>∃x,ox=some x∧W.cells? base ((⟨b,o,none⟩:Addr).add (i*P.cellsOf e)) (P.cellsOf e)=some (cenc x)∧Q (D i) x) (λi hi=>by
   obtain⟨cs',h2,h3⟩:=hel i om9
   obtain⟨_,hlen,_⟩:=World.cells?_some h2
   obtain⟨x,rfl,hg⟩:=hdec n cs' _ h3 (by rw[hlen,hc])
   exact⟨some x,x,rfl,h2,hg⟩)
  have hx:∀i,i<len->∃x,X i=some x∧W.cells? base ((⟨b,o,none⟩:Addr).add (i*P.cellsOf e)) (P.cellsOf e)=some (cenc x)∧Q (D i) x:=hX
  have hlist:∀k,k≤len->∃l:List α,l.length=k∧∀i,i<k->∃x,l[i]?=some x∧X i=some x:=by
   intro k
   induction k with
   | zero=>intro _;exact⟨[],rfl,λi hi=>absurd hi (Nat.not_lt_zero _)⟩
   | succ k ih=>
    intro hk
    obtain⟨l,hl,hl2⟩:=ih om9
    obtain⟨x,hx1,_⟩:=hx k om9
    refine⟨l++[x],by simp [hl],λi hi=>?_⟩
    by_cases hik:i<k
    ·obtain⟨y,h2,h3⟩:=hl2 i hik
     exact⟨y,by rw[List.getElem?_append_left om9];exact h2,h3⟩
    ·have:i=k:=by omega
     subst this
     exact⟨x,by rw[←hl];simp,hx1⟩
  obtain⟨l,hl,hl2⟩:=hlist len (Nat.le_refl _)
  refine⟨l,⟨.inr (.inl ⟨b,o,cap,by rw[List.length_map,hl],by rw[List.length_map,hl];exact hlc⟩),λi cs hi=>?_⟩,.inr ⟨_,_,congrArg Prod.fst hdx,by simp [hl],λi x hi=>?_⟩⟩
  ·rw[List.getElem?_map]at hi
   obtain⟨x,hx1,rfl⟩:=Option.map_eq_some_iff.1 hi
   have hlt:=(List.getElem?_eq_some_iff.1 hx1).1
   obtain⟨y,h2,h3⟩:=hl2 i om9
   obtain⟨z,h4,h5,_⟩:=hx i om9
   rw[h2]at hx1
   rw[h3]at h4
   cases hx1;cases h4
   obtain⟨_,hlen,hat⟩:=World.cells?_some h5
   refine⟨by rw[hlen,hc],λj u hj=>?_⟩
   have hjl:=(List.getElem?_eq_some_iff.1 hj).1
   have:=hat j om9
   rw[hj,Deep.add_add]at this
   have ha:(⟨b,o,none⟩:Addr).add (i*P.cellsOf e+j)=⟨b,o+i*sz+j,none⟩:=by
    unfold Addr.add
    split
    ·rename_i e0
     have h0:i*sz=0∧j=0:=by rw[hc]at e0;omega
     rw[h0.1,h0.2];rfl
    ·rw[hc];simp [Nat.add_assoc]
   rw[ha]at this
   exact this
  ·have hlt:=(List.getElem?_eq_some_iff.1 hi).1
   obtain⟨y,h2,h3⟩:=hl2 i om9
   obtain⟨z,h4,_,h5⟩:=hx i om9
   rw[h2]at hi
   rw[h3]at h4
   cases hi;cases h4
   exact⟨D i,by rw[List.getElem?_map,List.getElem?_range om9];rfl,h5⟩
theorem Xnv {t:TypeId}{f0 f1 f2 f3 f4:Field}{fuel:Nat}{sp:Nat->Bool}{hd:Bool}{cs:List Value}{x:DataW H×List MemPlace}(ht:P.underlying t=some (.struct #[f0,f1,f2,f3,f4]))(h:DataW.trod enc P W base sp hd fuel t cs=some x) :
  ∃y0 y1 y2 y3 y4 n,x.1=.agg [y0.1,y1.1,y2.1,y3.1,y4.1]∧cs.length=P.cellsOf t∧DataW.trod enc P W base sp hd n f0.type ((cs.drop f0.offset).take (P.cellsOf f0.type))=some y0∧
   DataW.trod enc P W base sp hd n f1.type ((cs.drop f1.offset).take (P.cellsOf f1.type))=some y1∧DataW.trod enc P W base sp hd n f2.type ((cs.drop f2.offset).take (P.cellsOf f2.type))=some y2∧
   DataW.trod enc P W base sp hd n f3.type ((cs.drop f3.offset).take (P.cellsOf f3.type))=some y3∧DataW.trod enc P W base sp hd n f4.type ((cs.drop f4.offset).take (P.cellsOf f4.type))=some y4:=by
 obtain⟨xs,n,_,rfl,hl,hlen,hf⟩:=DataW.trod_struct ht h
 match xs,hlen with
 | [y0,y1,y2,y3,y4],_=>exact⟨y0,y1,y2,y3,y4,n,by simp,hl,by simpa using hf 0 f0 rfl,by simpa using hf 1 f1 rfl,by simpa using hf 2 f2 rfl,by simpa using hf 3 f3 rfl,by simpa using hf 4 f4 rfl⟩
theorem Xnw {t:TypeId}{f0 f1 f2:Field}{fuel:Nat}{sp:Nat->Bool}{hd:Bool}{cs:List Value}{x:DataW H×List MemPlace}(ht:P.underlying t=some (.struct #[f0,f1,f2]))(h:DataW.trod enc P W base sp hd fuel t cs=some x) :
  ∃y0 y1 y2 n,x.1=.agg [y0.1,y1.1,y2.1]∧cs.length=P.cellsOf t∧DataW.trod enc P W base sp hd n f0.type ((cs.drop f0.offset).take (P.cellsOf f0.type))=some y0∧
   DataW.trod enc P W base sp hd n f1.type ((cs.drop f1.offset).take (P.cellsOf f1.type))=some y1∧DataW.trod enc P W base sp hd n f2.type ((cs.drop f2.offset).take (P.cellsOf f2.type))=some y2:=by
 obtain⟨xs,n,_,rfl,hl,hlen,hf⟩:=DataW.trod_struct ht h
 match xs,hlen with
 | [y0,y1,y2],_=>exact⟨y0,y1,y2,n,by simp,hl,by simpa using hf 0 f0 rfl,by simpa using hf 1 f1 rfl,by simpa using hf 2 f2 rfl⟩
theorem Xht {t e:TypeId}{el sp':List (DataW H)}(ht:P.underlying t=some (.slice e))(hb:1≤P.bytesOf e)(h:∀x∈DataW.weights P t (.slice el sp'),x≤reachBytes):el.length≤reachBytes∧∀d∈el,∀x∈DataW.weights P e d,x≤reachBytes:=by
 rw[DataW.weights,ht]at h
 simp only [List.mem_cons,List.mem_append]at h
 have h1:=h _ (.inl rfl)
 have h2:el.length*1≤(el.length+sp'.length)*P.bytesOf e:=Nat.mul_le_mul om9 hb
 exact⟨by omega,λd hd x hx=>h x (.inr (.inl (Xfw hd x hx)))⟩
theorem Yac {e:TypeId}{f0 f1 f2:Field}{sp:Nat->Bool}{hd:Bool}(he:P.underlying e=some (.struct #[f0,f1,f2]))(hone:oneCellFields P #[f0,f1,f2]=true)(h0:P.underlying f0.type=some .string)(h1:P.underlying f1.type=some .string)(h2:P.underlying f2.type=some .bool) :
  ∀(n:Nat) (cs:List Value) (y:DataW H×List MemPlace),DataW.trod enc P W base sp hd n e cs=some y->cs.length=3->∃x:Rw,cs=x.cs∧((∀z∈y.1.weights P e,z≤reachBytes)->x.key.length≤140737488355328∧x.val.length≤140737488355328):=λn cs y h hl=>by
 obtain⟨y0,y1,y2,m,hy,_,t0,t1,t2⟩:=Xnw he h
 obtain⟨o0,k0⟩:=hone_of hone 0 f0 rfl
 obtain⟨o1,k1⟩:=hone_of hone 1 f1 rfl
 obtain⟨o2,k2⟩:=hone_of hone 2 f2 rfl
 match cs,hl with
 | [c0,c1,c2],_=>
  rw[o0,k0]at t0
  rw[o1,k1]at t1
  rw[o2,k2]at t2
  simp only [List.drop,List.take]at t0 t1 t2
  obtain⟨s0,e0,hy0,_⟩:=DataW.trod_string h0 t0
  obtain⟨s1,e1,hy1,_⟩:=DataW.trod_string h1 t1
  obtain⟨b,e2,_⟩:=DataW.trod_bool h2 t2
  simp only [List.cons.injEq,and_true]at e0 e1 e2
  subst e0;subst e1;subst e2
  have hrb:reachBytes=140737488351232:=rfl
  refine⟨⟨s0.data.toList,s1.data.toList,b⟩,rfl,λhw=>?_⟩
  have hwE:∀(j:Nat) (u:TypeId) (d:DataW H),[f0.type,f1.type,f2.type][j]?=some u->[y0.1,y1.1,y2.1][j]?=some d->∀x∈d.weights P u,x≤reachBytes:=λj u d hj hdj x hx=>by
   refine hw x ?_
   rw[hy,DataW.weights,he]
   exact DataW.weights_mem_each hj hdj x hx
  have b0:=hwE 0 _ _ rfl rfl s0.data.toList.length (by rw[hy0,DataW.weights];simp)
  have b1:=hwE 1 _ _ rfl rfl s1.data.toList.length (by rw[hy1,DataW.weights];simp)
  exact⟨by show s0.data.toList.length≤_;omega,by show s1.data.toList.length≤_;omega⟩
section
variable {e u:TypeId}{f0 f1 f2 f3 f4 g0 g1 g2:Field}{sp:Nat->Bool}{hd:Bool}(he:P.underlying e=some (.struct #[f0,f1,f2,f3,f4]))(hone:oneCellFields P #[f0,f1,f2,f3,f4]=true)(h0:P.underlying f0.type=some (.int .i64))(h1:P.underlying f1.type=some (.int .i64))(h2:P.underlying f2.type=some .string)(h3:P.underlying f3.type=some .string)
 (h4:P.underlying f4.type=some (.slice u)) (hu:P.underlying u=some (.struct #[g0,g1,g2])) (hone2:oneCellFields P #[g0,g1,g2]=true) (hcu:P.cellsOf u=3) (hbu:1≤P.bytesOf u) (k0:P.underlying g0.type=some .string) (k1:P.underlying g1.type=some .string) (k2:P.underlying g2.type=some .bool)
include he hone h0 h1 h2 h3 h4 hu hone2 hcu hbu k0 k1 k2
theorem Yad : ∀(n:Nat) (cs:List Value) (y:DataW H×List MemPlace),DataW.trod enc P W base sp hd n e cs=some y->cs.length=5->∃x:Ac,cs=x.cs∧((∀z∈y.1.weights P e,z≤reachBytes)->AcOk W x):=λn cs y h hl=>by
 obtain⟨y0,y1,y2,y3,y4,m,hy,_,t0,t1,t2,t3,t4⟩:=Xnv he h
 obtain⟨o0,q0⟩:=hone_of hone 0 f0 rfl
 obtain⟨o1,q1⟩:=hone_of hone 1 f1 rfl
 obtain⟨o2,q2⟩:=hone_of hone 2 f2 rfl
 obtain⟨o3,q3⟩:=hone_of hone 3 f3 rfl
 obtain⟨o4,q4⟩:=hone_of hone 4 f4 rfl
 match cs,hl with
 | [c0,c1,c2,c3,c4],_=>
  rw[o0,q0]at t0
  rw[o1,q1]at t1
  rw[o2,q2]at t2
  rw[o3,q3]at t3
  rw[o4,q4]at t4
  simp only [List.drop,List.take]at t0 t1 t2 t3 t4
  obtain⟨a,e0,_,w0⟩:=DataW.trod_int h0 t0
  obtain⟨b,e1,_,w1⟩:=DataW.trod_int h1 t1
  obtain⟨s2,e2,hy2,_⟩:=DataW.trod_string h2 t2
  obtain⟨s3,e3,hy3,_⟩:=DataW.trod_string h3 t3
  simp only [List.cons.injEq,and_true]at e0 e1 e2 e3
  subst e0;subst e1;subst e2;subst e3
  have hrb:reachBytes=140737488351232:=rfl
  obtain⟨l,hl,hb⟩:=Xnu (Q:=λd (x:Rw)=>(∀z∈d.weights P u,z≤reachBytes)->x.key.length≤140737488355328∧x.val.length≤140737488355328) (cenc:=Rw.cs) h4 hcu dc9 (Yac hu hone2 k0 k1 k2) t4
  refine⟨⟨a,b,s2.data.toList,s3.data.toList,l,c4⟩,rfl,λhw=>?_⟩
  have hwE:∀(j:Nat) (u:TypeId) (d:DataW H),[f0.type,f1.type,f2.type,f3.type,f4.type][j]?=some u->[y0.1,y1.1,y2.1,y3.1,y4.1][j]?=some d->∀x∈d.weights P u,x≤reachBytes:=λj u d hj hdj x hx=>by
   refine hw x ?_
   rw[hy,DataW.weights,he]
   exact DataW.weights_mem_each hj hdj x hx
  have b2:=hwE 2 _ _ rfl rfl s2.data.toList.length (by rw[hy2,DataW.weights];simp)
  have b3:=hwE 3 _ _ rfl rfl s3.data.toList.length (by rw[hy3,DataW.weights];simp)
  have b4:l.length≤140737488355328∧∀r∈l,r.key.length≤140737488355328∧r.val.length≤140737488355328:=by
   rcases hb with rfl|⟨el,sp',e4,hel,hq⟩
   ·exact⟨by simp,λp hp=>by cases hp⟩
   ·obtain⟨z1,z2⟩:=Xht h4 hbu (λx hx=>hwE 4 _ _ rfl rfl x (by rw[e4];exact hx))
    refine⟨by omega,λr hr=>?_⟩
    obtain⟨i,hi⟩:=List.mem_iff_getElem?.1 hr
    obtain⟨d,hd1,hd2⟩:=hq i r hi
    exact hd2 (z2 d (List.mem_of_getElem? hd1))
  exact⟨hl,X2x w0,X2x w1,by show s2.data.toList.length≤_;omega,by show s3.data.toList.length≤_;omega,b4.1,b4.2⟩
theorem Xsq {r:Reach}{b0:Nat}{t:TypeId}{v:Value}{d:DataW H}{ps:List MemPlace}{ts:List TypeId}{ds:List (DataW H)}{j:Nat}(ht:P.underlying t=some (.slice e))(hce:P.cellsOf e=5)(hbe:1≤P.bytesOf e)
  (hval:Value.okWide P W r b0 t v) (h:DataW.Trod enc P W base sp hd t v d ps) (hz:(DataW.weightsEach P ts ds).all (·≤reachBytes)=true) (hj:ts[j]?=some t) (hdj:ds[j]?=some d) :
  ∃l:List Ac,Arr Ac.cs 5 W v l∧l.length≤140737488355328∧∀a∈l,AcOk W a:=by
 obtain⟨l,hl,_,_,hb⟩:=Xnt (Q:=λ(d:DataW H) (x:Ac)=>(∀z∈d.weights P e,z≤reachBytes)->AcOk W x) (good:=λ_=>True) (cenc:=Ac.cs) ht hce (λn cs y h9 hl9=>by
  obtain⟨x,q1,q2⟩:=Yad he hone h0 h1 h2 h3 h4 hu hone2 hcu hbu k0 k1 k2 n cs y h9 hl9
  exact⟨x,q1,trivial,q2⟩) hval h
 have hw:∀x∈d.weights P t,x≤reachBytes:=λx hx=>by have:=List.all_eq_true.1 hz _ (DataW.weights_mem_each hj hdj x hx);simpa using this
 have hrb:reachBytes=140737488351232:=rfl
 refine⟨l,hl,?_⟩
 rcases hb with hb|⟨el,sp',e4,hel,hq⟩
 ·have:=List.eq_nil_of_length_eq_zero hb
  subst this
  exact⟨by simp,λp hp=>by cases hp⟩
 ·obtain⟨z1,z2⟩:=Xht ht hbe (λx hx=>hw x (by rw[show d=_ from e4];exact hx))
  refine⟨by omega,λa ha=>?_⟩
  obtain⟨i,hi⟩:=List.mem_iff_getElem?.1 ha
  obtain⟨d',hd1,hd2⟩:=hq i a hi
  exact hd2 (z2 d' (List.mem_of_getElem? hd1))
end
end
end Go.Proofs.YtiooodckiddpmaaGreatDoor
namespace Go.Proofs.YtiooodckiddpmaaGreatDoor
open Go.Vc Go.Sp
attribute [local irreducible] W XW Dw DwT
theorem X2y (c d:Rw):eqL c.cs d.cs=decide (c=d):=by
 obtain⟨k,v,b⟩:=c
 obtain⟨k',v',b'⟩:=d
 simp [eqL,Rw.cs]
 by_cases h:k=k'<;>by_cases h2:v=v'<;>by_cases h3:b=b'<;>simp [h,h2,h3]
def rowW (r:Rw):Nat:=1+r.key.length+r.val.length
def actW (a:Ac):Nat:=a.key.length+a.to.length+(a.l.map rowW).sum
def hvS (l:List Ac):Nat:=((l.take 60).map actW).sum
theorem Xg7 {α:Type}(f:α->Nat){l:List α}{k:Nat}{x:α}(h:l[k]?=some x):((l.take (k+1)).map f).sum=((l.take k).map f).sum+f x:=by
 rw[Xaw h,List.map_append,List.sum_append];simp
theorem Xlt {α:Type}(f:α->Nat)(l:List α){i j:Nat}(h:i≤j):((l.take i).map f).sum≤((l.take j).map f).sum:=by
 have e:l.take i=(l.take j).take i:=by rw[List.take_take,Nat.min_eq_left h]
 have:=congrArg (λm=>(m.map f).sum) (List.take_append_drop i (l.take j))
 simp only [List.map_append,List.sum_append]at this
 rw[e];omega
theorem X2z {l:List Ac}{i k:Nat}{a:Ac}(hi:i<60)(ha:l[i]?=some a)(hk:k≤a.l.length):((l.take i).map actW).sum+a.key.length+a.to.length+((a.l.take k).map rowW).sum≤hvS l:=by
 have h1:=Xlt actW l (show i+1≤60 by omega)
 rw[Xg7 actW ha]at h1
 have h2:=Xlt rowW a.l hk
 rw[List.take_length]at h2
 unfold hvS
 have h3:actW a=a.key.length+a.to.length+(a.l.map rowW).sum:=rfl
 omega
def RUp (M:List Rw):Prop:=M.Pairwise λa b=>sLt a.key b.key=true
section
variable {M:List Rw}{c:Cell}{j:Nat}{d:Rw}
theorem Xcw (hM:RUp M)(hj:j≤M.length)(h1:∀i d,i<j->M[i]?=some d->sLt d.key c.key=true)(h2:j=M.length∨∃d,M[j]?=some d∧sLt d.key c.key=false) :
  M.filter (λr=>sLt r.key c.key)=M.take j∧((∀d,M[j]?=some d->d.key≠c.key)->M.filter (λr=>sLt c.key r.key)=M.drop j)∧(∀d,M[j]?=some d->d.key=c.key->M.filter (λr=>sLt c.key r.key)=M.drop (j+1)):=by
 have hp:=List.pairwise_iff_getElem.1 hM
 have hA:∀r∈M.take j,sLt r.key c.key=true:=λr hr=>by
  obtain⟨i,hi⟩:=List.getElem?_of_mem hr
  rw[List.getElem?_take]at hi
  split at hi
  ·rename_i h;exact h1 i r h hi
  ·cases hi
 have hB:∀r∈M.drop j,sLt r.key c.key=false:=λr hr=>by
  obtain⟨i,hi⟩:=List.getElem?_of_mem hr
  rw[List.getElem?_drop]at hi
  obtain⟨hi2,hi3⟩:=List.getElem?_eq_some_iff.1 hi
  rcases h2 with h2|⟨d,hd,h2⟩
  ·omega
  ·obtain⟨hj2,hj3⟩:=List.getElem?_eq_some_iff.1 hd
   rcases Nat.eq_zero_or_pos i with h0|h0
   ·subst h0
    simp only [Nat.add_zero]at hi3
    rw[←hi3,hj3];exact h2
   ·have h3:=hp j (j+i) hj2 hi2 om9
    rw[hi3,hj3]at h3
    cases e:sLt r.key c.key with
    | false=>rfl
    | true=>rw[Xbg _ _ _ h3 e]at h2;cases h2
 have hMs:M=M.take j++M.drop j:=(List.take_append_drop j M).symm
 refine⟨?_,λh3=>?_,λd hd h3=>?_⟩
 ·conv=>lhs;rw[hMs]
  rw[List.filter_append,List.filter_eq_self.2 hA,List.filter_eq_nil_iff.2 (λr hr=>by rw[hB r hr];decide),List.append_nil]
 ·conv=>lhs;rw[hMs]
  rw[List.filter_append,List.filter_eq_nil_iff.2 (λr hr=>by rw[Xbm (hA r hr)];decide),List.nil_append]
  refine List.filter_eq_self.2 λr hr=>?_
  rcases Xbl r.key c.key with e|e|e
  ·exfalso
   obtain⟨i,hi⟩:=List.getElem?_of_mem hr
   rw[List.getElem?_drop]at hi
   obtain⟨hi2,hi3⟩:=List.getElem?_eq_some_iff.1 hi
   rcases Nat.eq_zero_or_pos i with h0|h0
   ·subst h0;exact h3 r hi e
   ·have hjd:M[j]?=some (M[j]'om9):=List.getElem?_eq_getElem _
    have h4:=hp j (j+i) om9 hi2 om9
    rw[hi3,e]at h4
    have h5:=hB _ (List.mem_of_getElem? (i:=0) (by rw[List.getElem?_drop];exact hjd))
    rw[h4]at h5;cases h5
  ·rw[hB r hr]at e;cases e
  ·exact e
 ·obtain⟨hj2,hj3⟩:=List.getElem?_eq_some_iff.1 hd
  conv=>lhs;rw[hMs]
  rw[List.filter_append,List.filter_eq_nil_iff.2 (λr hr=>by rw[Xbm (hA r hr)];decide),List.nil_append,Xbr hd,List.filter_cons,if_neg (by rw[h3,Xau];decide)]
  refine List.filter_eq_self.2 λr hr=>?_
  obtain⟨i,hi⟩:=List.getElem?_of_mem hr
  rw[List.getElem?_drop]at hi
  obtain⟨hi2,hi3⟩:=List.getElem?_eq_some_iff.1 hi
  have h4:=hp j (j+1+i) hj2 hi2 om9
  rw[hi3,hj3,h3]at h4
  exact h4
theorem Xxm (hM:RUp M)(c:Cell):RUp (layC M c):=by
 unfold layC RUp
 refine List.pairwise_append.2 ⟨List.Pairwise.filter _ hM,List.pairwise_append.2 ⟨?_,List.Pairwise.filter _ hM,λx hx y hy=>?_⟩,λx hx y hy=>?_⟩
 ·split
  ·exact List.Pairwise.nil
  ·exact List.pairwise_singleton _ _
 ·split at hx
  ·cases hx
  ·rw[List.mem_singleton.1 hx];exact(List.mem_filter.1 hy).2
 ·have hxk:=(List.mem_filter.1 hx).2
  rcases List.mem_append.1 hy with hy|hy
  ·split at hy
   ·cases hy
   ·rw[List.mem_singleton.1 hy];exact hxk
  ·exact Xbg _ _ _ hxk (List.mem_filter.1 hy).2
theorem X0g (hM:RUp M)(c:Cell):(layC M c).length≤M.length+1:=by
 have h1:∀M:List Rw,(M.filter λr=>sLt r.key c.key).length+(M.filter λr=>sLt c.key r.key).length≤M.length:=by
  intro M
  induction M with
  | nil=>exact Nat.le_refl _
  | cons r q ih=>
   simp only [List.filter_cons,List.length_cons]
   cases h:sLt r.key c.key with
   | true=>rw[Xbm h];simp;omega
   | false=>cases h2:sLt c.key r.key<;>simp<;>omega
 have:=h1 M
 unfold layC
 simp only [List.length_append]
 split<;>simp<;>omega
def layR (M:List Rw)(cs:List Cell):List Rw:=cs.foldl layC M
theorem Xxn {cs:List Cell}{i:Nat}(h:cs[i]?=some c):layR M (cs.take (i+1))=layC (layR M (cs.take i)) c:=by
 unfold layR;rw[Xaw h,List.foldl_append];rfl
theorem Xxo : ∀(cs:List Cell) {M:List Rw},RUp M->RUp (layR M cs)
 | [],_,h=>h
 | c :: r,_,h=>Xxo r (Xxm h c)
theorem Xlu : ∀(cs:List Cell) {M:List Rw},RUp M->(layR M cs).length≤M.length+cs.length
 | [],_,h=>Nat.le_refl _
 | c :: r,M,h=>by
  have h1:=Xlu r (Xxm h c)
  have h2:=X0g h c
  show(layR (layC M c) r).length≤_
  simp only [List.length_cons];omega
end
theorem X6c (l:List Ac)(v:Value)(w:World)(hv:Arr Ac.cs 5 w v l)(hl:l.length≤140737488355328)(hok:∀a∈l,AcOk w a) :
  Calls Tryz.prog 11 [v].toArray w (Pure w (B (decide (60000<hvS l)))):=by
 refine cw Tryz.func11 ?_
 have hx:=Ext.refl w
 refine ws λ_ Z1=>wr (da (de Z1 (ws λ_ Z2=>wr (da (de Z2 (ws λ_ Z3=>ws λ_ Z4=>wr (da (de Z4 (Xab ?_)))))))))
 refine Xaj (G:=Nat×Nat) (λ(i,n)=>[(0,v),(3,I ↑n),(4,I ↑i)]) (λ(i,n) w'=>Ext w w'∧i≤l.length∧i≤60∧n=((l.take i).map actW).sum∧n≤60000+i*281474976710656) (λ(i,n)=>l.length-i) (0,0) ?_ ?_ ?_
 ·exact zz3
 ·exact⟨hx,Nat.zero_le _,Nat.zero_le _,rfl,Nat.zero_le _⟩
 intro X1 g1 w1 hF1
 obtain⟨i,n⟩:=g1
 clear hx
 obtain⟨hx,hi1,hi2,hn,hnb⟩:=hF1
 refine ws λ_ Z5=>ws λ_ Z6=>wr (dm (dm ?_))
 refine dv 34 5 (hv.ext hx).sl (dp (Xaf rfl rfl) (dm ?_))
 refine Xag 10 rfl (λc1=>?_) (λc1=>?_)
 ·refine dm ?_
  refine dp (Xaf rfl rfl) (dk' (de Z6 ?_))
  refine wi (λc2=>?_) λc2=>?_
  ·obtain⟨a,hk⟩:∃a,l[i]?=some a:=gtE
   have hok9:=hok a (List.mem_of_getElem? hk)
   have hav:=hok9.v
   have q1:=hok9.key
   have q2:=hok9.to
   have q3:=hok9.len
   refine Xaa (Z5 _ _ (ws λ_ Z7=>Xab (ws λ_ Z8=>Xaq (R:=Ext) Ext.refl (λ_ _ _=>Ext.trans) kr9 [5,12] [(0,.p,false),(1,.p,false),(2,.p,false),(3,.p,false),(4,.p,false),(5,.l,false),(6,.p,false),(7,.p,false),(8,.p,false),(9,.p,false),(10,.p,false),(11,.p,false),(12,.l,false),(13,.p,false),(14,.p,false),(15,.p,false)] rfl kr9 kr9 (λw2 ew2=>?_))))
   have x2:=drewx ew2
   clear ew2
   replace hx:=hx.trans x2
   iterate 3 refine dm ?_
   refine di 34 5 hv.sl rfl (hv.lt hk) (df 2 rfl (dL rfl (λ_ hR=>(((hv.ext (hx.trans hR)).row hk).at rfl)) (dt rfl (pa rfl rfl (dm (dm ?_))))))
   refine di 34 5 hv.sl rfl (hv.lt hk) (df 3 rfl (dL rfl (λ_ hR=>(((hv.ext (hx.trans hR)).row hk).at rfl)) (dt rfl (pa rfl rfl (da (de Z8 (ws λ_ Z9=>wr (da (de Z9 (Xab ?_))))))))))
   refine Xaj (G:=Nat×Nat) (λ(k,m)=>[(0,v),(3,I ↑m),(4,I ↑i),(5,I ↑k)]) (λ(k,m) w'=>Ext w w'∧k≤a.l.length∧m=n+a.key.length+a.to.length+((a.l.take k).map rowW).sum∧m≤60000+(i+1)*281474976710656) (λ(k,m)=>a.l.length-k) (0,n+a.key.length+a.to.length) ?_ ?_ ?_
   ·exact zz4
   ·exact⟨hx,Nat.zero_le _,by simp,by omega⟩
   intro X3 g3 w3 hF3
   obtain⟨k,m⟩:=g3
   clear hx
   obtain⟨hx,hk1,hm,hmb⟩:=hF3
   refine ws λ_ Z10=>ws λ_ Z11=>wr (dm (dm (dm ?_)))
   refine di 34 5 hv.sl rfl (hv.lt hk) (df 4 rfl (dl rfl (((hv.ext hx).row hk).at rfl) (dv 48 3 (hav.ext hx).sl (dp (Xaf rfl rfl) (de Z11 (wi (λc3=>?_) λc3=>?_))))))
   ·obtain⟨r,hr⟩:∃r,a.l[k]?=some r:=gtE
    have q4:=hok9.row r (List.mem_of_getElem? hr)
    have hrs:=Xg7 rowW hr
    have hrw:rowW r=1+r.key.length+r.val.length:=rfl
    have hge:=X2z (k:=k+1) om9 hk om9
    refine Xaa (Z10 _ _ (ws λ_ Z12=>Xab (ws λ_ Z13=>Xaq (R:=Ext) Ext.refl (λ_ _ _=>Ext.trans) kr9 [6,10,17,21] [(0,.p,false),(1,.p,false),(2,.p,false),(3,.p,false),(4,.p,false),(5,.p,false),(6,.l,false),(7,.p,false),(8,.p,false),(9,.p,false),(10,.l,false),(11,.p,false),(12,.p,false),(13,.p,false),(14,.p,false),(15,.p,false),(16,.p,false),(17,.l,false),(18,.p,false),(19,.p,false),(20,.p,false),(21,.l,false),(22,.p,false),(23,.p,false),(24,.p,false)] rfl kr9 kr9 (λw4 ew4=>?_))))
    have x4:=drewx ew4
    clear ew4
    replace hx:=hx.trans x4
    refine dm ?_
    refine pa rfl rfl (dm (dm ?_))
    refine di 34 5 hv.sl rfl (hv.lt hk) (df 4 rfl (dL rfl (λ_ hR=>(((hv.ext (hx.trans hR)).row hk).at rfl)) (dm ?_)))
    refine di 48 3 hav.sl rfl (hav.lt hr) (df 0 rfl (dL rfl (λ_ hR=>(((hav.ext (hx.trans hR)).row hr).at rfl)) (dt rfl (pa rfl rfl (dm (dm ?_))))))
    refine di 34 5 hv.sl rfl (hv.lt hk) (df 4 rfl (dL rfl (λ_ hR=>(((hv.ext (hx.trans hR)).row hk).at rfl)) (dm ?_)))
    refine di 48 3 hav.sl rfl (hav.lt hr) (df 1 rfl (dL rfl (λ_ hR=>(((hav.ext (hx.trans hR)).row hr).at rfl)) (dt rfl (pa rfl rfl (da (de Z13 (ws λ_ Z14=>wr (dm ?_))))))))
    refine dp (Xa1 rfl rfl) (de Z14 (wi (λc4=>?_) λc4=>?_))
    ·refine ws λ_ Z15=>wr (da (de Z15 (Xae ?_)))
     refine ro ?_
     refine⟨?_,hx⟩
     rw[decide_eq_true (show 60000<hvS l by omega)]
    refine Xaa (Z12 _ _ (wr (dm ?_)))
    refine pa rfl rfl (da (Xad (?_)))
    exact⟨(k+1,m+1+r.key.length+r.val.length),zz4,⟨hx,by omega,by omega,by omega⟩,by simp only [];omega⟩
   refine Xah (Z7 _ _ (wr (dm ?_)))
   refine pa rfl rfl (da (Xad (?_)))
   have hkk:k=a.l.length:=by omega
   subst hkk
   rw[List.take_length]at hm
   have hst:=Xg7 actW hk
   have haw:actW a=a.key.length+a.to.length+(a.l.map rowW).sum:=rfl
   exact⟨(i+1,m),zz3,⟨hx,by omega,by omega,by omega,by omega⟩,by simp only [];omega⟩
  refine Xah (Z3 _ _ (ws λ_ Z16=>wr (dm ?_)))
  refine dp (Xa1 rfl rfl) (da (de Z16 (Xae ?_)))
  refine ro ?_
  have hi6:i=60:=by omega
  subst hi6
  refine⟨?_,hx⟩
  congr 2
  unfold hvS
  rw[←hn]
  exact decide_eq_decide.2 om9
 refine dk (dk (dk' (de Z6 ?_)))
 refine W_f rfl (Xah (Z3 _ _ (ws λ_ Z17=>wr (dm ?_))))
 refine dp (Xa1 rfl rfl) (da (de Z17 (Xae ?_)))
 refine ro ?_
 have e:hvS l=n:=by unfold hvS;rw[hn,List.take_of_length_le (show l.length≤60 by omega),List.take_of_length_le (show l.length≤i by omega)]
 refine⟨?_,hx⟩
 congr 2
 rw[e]
 exact decide_eq_decide.2 om9
theorem X85 (l m:List Rw)(v u:Value)(w:World)(hv:Arr Rw.cs 3 w v l)(hu:Arr Rw.cs 3 w u m)(hl:l.length≤1000000000)(hm:m.length≤1000000000) :
  Calls Tryz.prog 20 [v,u].toArray w (Pure w (B (decide (l=m)))):=by
 refine cw Tryz.func20 ?_
 have hx:=Ext.refl w
 refine ws λ_ Z1=>wr (da (de Z1 (ws λ_ Z2=>ws λ_ Z3=>wr (dm ?_))))
 refine dv 48 3 (hv.ext hx).sl (dm ?_)
 refine dv 48 3 (hu.ext hx).sl (dp (Xav rfl rfl) (de Z3 (wi (λc1=>?_) λc1=>?_)))
 ·refine ws λ_ Z4=>wr (da (de Z4 (Xae ?_)))
  refine ro ?_
  refine⟨?_,hx⟩
  rw[decide_eq_false (λe=>by rw[e]at c1;exact absurd rfl c1)]
 refine Xaa (Z2 _ _ (ws λ_ Z5=>ws λ_ Z6=>wr (da (de Z6 (Xab ?_)))))
 refine Xaj (G:=Nat) (λk=>[(0,v),(1,u),(5,I ↑k)]) (λk w'=>Ext w w'∧k≤l.length∧l.length=m.length∧l.take k=m.take k) (λk=>l.length-k) 0 ?_ ?_ ?_
 ·exact zz3
 ·exact⟨hx,Nat.zero_le _,by omega,rfl⟩
 intro X1 g1 w1 hF1
 revert hF1;revert g1;intro k hF1
 clear hx
 obtain⟨hx,hk1,hle,he⟩:=hF1
 refine ws λ_ Z7=>ws λ_ Z8=>wr (dm (dm ?_))
 refine dv 48 3 (hv.ext hx).sl (dp (Xaf rfl rfl) (de Z8 (wi (λc2=>?_) λc2=>?_)))
 ·obtain⟨c,hk⟩:∃c,l[k]?=some c:=gtE
  obtain⟨d,hk2⟩:∃d,m[k]?=some d:=gtE
  refine Xaa (Z7 _ _ (ws λ_ Z9=>Xab (ws λ_ Z10=>Xaq (R:=Ext) Ext.refl (λ_ _ _=>Ext.trans) kr9 [3,7] [(0,.p,false),(1,.p,false),(2,.p,false),(3,.l,false),(4,.p,false),(5,.p,false),(6,.p,false),(7,.l,false),(8,.p,false)] rfl kr9 kr9 (λw2 ew2=>?_))))
  have x2:=drewx ew2
  clear ew2
  replace hx:=hx.trans x2
  iterate 2 refine dm ?_
  refine di 48 3 hv.sl rfl (hv.lt hk) (D_l rfl (λw' hR=>Xac kr9 rfl rfl ((hv.ext (hx.trans hR)).row hk)) (dm (dm ?_)))
  refine di 48 3 hu.sl rfl (hu.lt hk2) (D_l rfl (λw' hR=>Xac kr9 rfl rfl ((hu.ext (hx.trans hR)).row hk2)) (dp (X6y (ts:=[9,9,4]) kr9 rfl rfl ⟨by kernel_rfl,by kernel_rfl,by kernel_rfl,trivial⟩ ⟨by kernel_rfl,by kernel_rfl,by kernel_rfl,trivial⟩) (de Z10 (wc (λc3=>?_) λc3=>?_))))
  ·refine ws λ_ Z11=>wr (da (de Z11 (Xae ?_)))
   refine ro ?_
   refine⟨?_,hx⟩
   rw[X2y]at c3
   simp at c3
   rw[decide_eq_false (λe=>by rw[e,hk2]at hk;cases hk;exact c3 rfl)]
  refine Xaa (Z9 _ _ (wr (dm ?_)))
  refine pa rfl rfl (da (Xad (?_)))
  rw[X2y]at c3
  refine⟨k+1,zz3,⟨hx,by omega,hle,?_⟩,by omega⟩
  rw[Xaw hk,Xaw hk2,he]
  simp at c3
  rw[c3]
 refine Xah (Z5 _ _ (ws λ_ Z12=>wr (da (de Z12 (Xae ?_)))))
 refine ro ?_
 refine⟨?_,hx⟩
 rw[List.take_of_length_le om9,List.take_of_length_le om9]at he
 rw[decide_eq_true he]
theorem Yae (M0:List Rw)(vm0:Value)(l:List Rw)(v:Value)(w:World)(hm0:Arr Rw.cs 3 w vm0 M0)(hv:Arr Rw.cs 3 w v l)(hl:l.length≤100000)(hml:M0.length≤1000000)(hup:RUp M0) :
  Calls Tryz.prog 19 [vm0,v].toArray w (Gives w (λu w'=>Arr Rw.cs 3 w' u (layN M0 l)∧(u=vm0∨(layN M0 l≠[]->w.heap.size≤(base u).1)))):=by
 refine cw Tryz.func19 ?_
 have hx:=Ext.refl w
 have hA:=hm0
 refine ws λ_ Z1=>wr (da (de Z1 (ws λ_ Z2=>wr (dm ?_))))
 refine cG (X0f l v 1 _ (hv.ext hx) hl) RX.all λvc w1 x1 hC0=>?_
 have hsz1:=hx.size
 replace hA:=hA.ext x1
 replace hx:=hx.trans x1
 have hC:=hC0.arr ir9
 refine da (de Z2 (ws λ_ Z3=>ws λ_ Z4=>wr (da (de Z4 (Xab ?_)))))
 refine Xaj (G:=Nat×Value×List Rw) (λ(i,vm,M)=>[(0,vm),(1,v),(4,.slice none 0 0),(5,vc),(6,I ↑i)]) (λ(i,vm,M) w'=>Ext w w'∧i≤(Xam l 1).length∧M=(layR M0 ((Xam l 1).take i))∧(vm=vm0∨(M≠[]->w.heap.size≤(base vm).1))∧Arr Rw.cs 3 w' vm M∧Arr Cell.cs 4 w' vc (Xam l 1)) (λ(i,vm,M)=>(Xam l 1).length-i) (0,vm0,M0) ?_ ?_ ?_
 ·exact zz5
 ·exact⟨hx,Nat.zero_le _,rfl,.inl rfl,hA,hC⟩
 intro X2 g2 w2 hF2
 obtain⟨i,vm,M⟩:=g2
 clear hx hA hC
 obtain⟨hx,hi1,hM,hg,hA,hC⟩:=hF2
 refine ws λ_ Z5=>ws λ_ Z6=>wr (dm (dm ?_))
 refine dv 79 4 hC.sl (dp (Xaf rfl rfl) (de Z6 (wi (λc1=>?_) λc1=>?_)))
 ·obtain⟨c,hc⟩:∃c,(Xam l 1)[i]?=some c:=gtE
  have hMl:=Xlu ((Xam l 1).take i) hup
  have hMu:=Xxo ((Xam l 1).take i) hup
  rw[←hM]at hMl hMu
  have hcl:=Xd6 l 1
  have htl:((Xam l 1).take i).length≤(Xam l 1).length:=by rw[List.length_take];omega
  have hst:=Xxn (M:=M0) hc
  rw[←hM]at hst
  refine Xaa (Z5 _ _ (ws λ_ Z7=>Xab (ws λ_ Z8=>wr (da (de Z8 ?_)))))
  refine Xc1 (G:=Nat) (λj=>[(0,vm),(1,v),(4,.slice none 0 0),(5,vc),(6,I ↑i),(7,I ↑j)]) (λj w'=>Ext w w'∧Arr Rw.cs 3 w' vm M∧Arr Cell.cs 4 w' vc (Xam l 1)∧j≤M.length∧(∀i d,i<j->M[i]?=some d->sLt d.key c.key=true)∧(j=M.length∨∃d,M[j]?=some d∧sLt d.key c.key=false)) ?_ ?_
  ·refine Xab ?_
   refine Xaj (G:=Nat) (λj=>[(0,vm),(1,v),(4,.slice none 0 0),(5,vc),(6,I ↑i),(7,I ↑j)]) (λj w'=>Ext w w'∧Arr Rw.cs 3 w' vm M∧Arr Cell.cs 4 w' vc (Xam l 1)∧j≤M.length∧(∀i d,i<j->M[i]?=some d->sLt d.key c.key=true)) (λj=>M.length-j) 0 ?_ ?_ ?_
   ·exact zz6
   ·exact⟨hx,hA,hC,Nat.zero_le _,λi d h=>absurd h (Nat.not_lt_zero _)⟩
   intro X3 g3 w3 hF3
   revert hF3;revert g3;intro j hF3
   clear hx hA hC
   obtain⟨hx,hA,hC,hj1,hjA⟩:=hF3
   refine ws λ_ Z9=>ws λ_ Z10=>Xaq (R:=Ext) Ext.refl (λ_ _ _=>Ext.trans) kr9 [9,14] [(0,.p,false),(1,.p,false),(2,.p,false),(3,.p,false),(4,.p,false),(5,.p,false),(6,.p,false),(7,.p,false),(8,.p,false),(9,.l,false),(10,.p,false),(11,.p,false),(12,.p,false),(13,.p,false),(14,.l,false),(15,.p,false),(16,.p,false)] rfl kr9 kr9 (λw4 ew4=>?_)
   have x4:=drewx ew4
   clear ew4
   replace hA:=hA.ext x4
   replace hC:=hC.ext x4
   replace hx:=hx.trans x4
   iterate 2 refine dm ?_
   refine dv 48 3 hA.sl (dp (Xaf rfl rfl) (dm ?_))
   refine Xag 21 rfl (λc2=>?_) (λc2=>?_)
   ·obtain⟨d,hd⟩:∃d,M[j]?=some d:=gtE
    iterate 2 refine dm ?_
    refine di 48 3 hA.sl rfl (hA.lt hd) (df 0 rfl (dL rfl (λ_ hR=>(((hA.ext hR).row hd).at rfl)) (dm (dm ?_))))
    refine di 79 4 hC.sl rfl (hC.lt hc) (df 0 rfl (dL rfl (λ_ hR=>(((hC.ext hR).row hc).at rfl)) (dp (Xjt rfl rfl) (dk' (de Z10 ?_)))))
    refine wc (λc3=>?_) λc3=>?_
    ·refine Xaa (Z9 _ _ (Xab (wr (dm ?_))))
     refine pa rfl rfl (da (Xad (?_)))
     refine⟨j+1,zz6,⟨hx,hA,hC,by omega,λi9 d9 hi9 hd9=>?_⟩,by omega⟩
     by_cases e9:i9=j
     ·subst e9;rw[hd]at hd9;cases hd9;exact c3
     ·exact hjA i9 d9 om9 hd9
    refine Xah ?_
    exact⟨j,zz6,hx,hA,hC,hj1,hjA,.inr ⟨d,hd,c3⟩⟩
   iterate 11 refine dk ?_
   refine dk' (de Z10 ?_)
   refine W_f rfl (Xah ?_)
   exact⟨j,zz6,hx,hA,hC,hj1,hjA,.inl om9⟩
  intro X5 g5 w5 hF5
  revert hF5;revert g5;intro j hF5
  clear hx hA hC
  obtain⟨hx,hA,hC,hj1,hjA,hjs⟩:=hF5
  refine Xc1 (G:=Value×List Rw) (λ(vn,M1)=>[(0,vn),(1,v),(4,.slice none 0 0),(5,vc),(6,I ↑i),(7,I ↑j)]) (λ(vn,M1) w'=>Ext w w'∧Arr Cell.cs 4 w' vc (Xam l 1)∧M1=M.take j++M.filter (λr=>sLt c.key r.key)∧(vn=vm0∨(M1≠[]->w.heap.size≤(base vn).1))∧Arr Rw.cs 3 w' vn M1) ?_ ?_
  ·refine ws λ_ Z11=>Xaq (R:=Ext) Ext.refl (λ_ _ _=>Ext.trans) kr9 [9,14] [(0,.p,false),(1,.p,false),(2,.p,false),(3,.p,false),(4,.p,false),(5,.p,false),(6,.p,false),(7,.p,false),(8,.p,false),(9,.l,false),(10,.p,false),(11,.p,false),(12,.p,false),(13,.p,false),(14,.l,false),(15,.p,false),(16,.p,false)] rfl kr9 kr9 (λw6 ew6=>?_)
   have x6:=drewx ew6
   clear ew6
   replace hA:=hA.ext x6
   replace hC:=hC.ext x6
   replace hx:=hx.trans x6
   iterate 2 refine dm ?_
   refine dv 48 3 hA.sl (dp (Xaf rfl rfl) (dm ?_))
   refine Xag 40 rfl (λc4=>?_) (λc4=>?_)
   ·obtain⟨d,hd⟩:∃d,M[j]?=some d:=gtE
    iterate 2 refine dm ?_
    refine di 48 3 hA.sl rfl (hA.lt hd) (df 0 rfl (dL rfl (λ_ hR=>(((hA.ext hR).row hd).at rfl)) (dm (dm ?_))))
    refine di 79 4 hC.sl rfl (hC.lt hc) (df 0 rfl (dL rfl (λ_ hR=>(((hC.ext hR).row hc).at rfl)) (dp (Xfr rfl rfl) (dk' (de Z11 ?_)))))
    refine wi (λc5=>?_) λc5=>?_
    ·have hjl:=(List.getElem?_eq_some_iff.1 hd).1
     have hxs:=hx
     have hD:w.heap.size≤w6.heap.size:=hx.size
     have hA_s:=hA
     have hC_s:=hC
     have hv_s:=(hv.ext hx)
     refine Xaq (R:=Mod (geB w6.heap.size)) (Far.refl _) Far.trans kr9 [] [(1,.p,false),(2,.p,false),(3,.p,false),(5,.p,false),(6,.p,false),(7,.p,false),(8,.p,false),(0,.x,true),(4,.x,true),(9,.x,true),(10,.p,false)] rfl kr9 kr9 (λw7 ew7=>?_)
     have x7:=drewx ew7
     clear ew7
     replace hA:=hA.ext x7
     replace hC:=hC.ext x7
     replace hx:=hx.trans x7
     have hs:Mod (geB w6.heap.size) w6 w7:=Far.of_ext x7
     iterate 2 refine dm ?_
     refine dp (Xbq (e:=48) (k:=3) kr9 hA.sl rfl rfl rfl om9 om9) (dm (dm ?_))
     refine pa rfl rfl (dp (Xbq (e:=48) (k:=3) (m:=M.length) (a:=j+1) (b:=M.length) kr9 hA.sl rfl rfl rfl om9 (Nat.le_refl _)) (Xik (e:=48) (sz:=3) rfl kr9 RX.all (λb1 w8 e1 x8 m1=>?_)))
     have g1:=hx.ge e1
     have a1_hA:=Arr.base_lt hA dc9
     have a1_hC:=Arr.base_lt hC dc9
     have gs1:w6.heap.size≤b1:=by have:=hs.size;omega
     replace hA:=hA.ext x8
     replace hC:=hC.ext x8
     replace hx:=hx.trans x8
     replace hs:=hs.ext x8
     have ho:=m1.own (enc:=Rw.cs) (B:=w6.heap.size) (l:=[]) (sz:=3) (m:=0) gs1 rfl ir9 rfl (Nat.le_of_ble_eq_true rfl)
     refine Xar (e:=48) (sz:=3) (by':=40) rfl kr9 kr9 ir9 ho ((hA).slice (Nat.zero_le _) hj1) rfl rfl (by intro x _ u hu;simp at hu;rcases hu with rfl|rfl|rfl<;>rfl) (by simp;omega) dc9 hs.size (.inl rfl) (λvp w9 ho_n x9=>?_)
     replace hs:=hs.own x9 (λi hi _=>by have:=(ho.lt i hi).1;unfold geB;omega)
     try replace hA:=hA.mod x9 (by first|(intro hl9 e9;have h8:=Arr.base_lt hA_s dc9 hl9;have h7:=(ho.lt _ e9).1;omega)|(intro hl9 e9;have h8:=Arr.base_lt hC_s dc9 hl9;have h7:=(ho.lt _ e9).1;omega))
     try replace hC:=hC.mod x9 (by first|(intro hl9 e9;have h8:=Arr.base_lt hA_s dc9 hl9;have h7:=(ho.lt _ e9).1;omega)|(intro hl9 e9;have h8:=Arr.base_lt hC_s dc9 hl9;have h7:=(ho.lt _ e9).1;omega))
     replace hx:=hx.own x9 (λi hi=>(by have h1:=(ho.lt i hi).1;first|exact h1|(have:=hxs.size;omega)))
     replace ho:=ho_n
     refine Xar (e:=48) (sz:=3) (by':=40) rfl kr9 kr9 ir9 ho ((hA).slice (lo:=j+1) (hi:=M.length) om9 (Nat.le_refl _)) rfl rfl (by intro x _ u hu;simp at hu;rcases hu with rfl|rfl|rfl<;>rfl) (by simp;omega) dc9 hs.size (.inl rfl) (λvq w10 ho_n x10=>?_)
     replace hs:=hs.own x10 (λi hi _=>by have:=(ho.lt i hi).1;unfold geB;omega)
     try replace hA:=hA.mod x10 (by first|(intro hl9 e9;have h8:=Arr.base_lt hA_s dc9 hl9;have h7:=(ho.lt _ e9).1;omega)|(intro hl9 e9;have h8:=Arr.base_lt hC_s dc9 hl9;have h7:=(ho.lt _ e9).1;omega))
     try replace hC:=hC.mod x10 (by first|(intro hl9 e9;have h8:=Arr.base_lt hA_s dc9 hl9;have h7:=(ho.lt _ e9).1;omega)|(intro hl9 e9;have h8:=Arr.base_lt hC_s dc9 hl9;have h7:=(ho.lt _ e9).1;omega))
     replace hx:=hx.own x10 (λi hi=>(by have h1:=(ho.lt i hi).1;first|exact h1|(have:=hxs.size;omega)))
     replace ho:=ho_n
     refine da ?_
     clear hs hxs hA_s hC_s hv_s
     refine Xad (?_)
     obtain⟨B9,hB9,ho9⟩:∃B9,w.heap.size≤B9∧Vc.Own Rw.cs 3 48 B9 w10 vq (M.take j++M.drop (j+1)):=⟨_,hD,by
      have:=ho
      simpa using this⟩
     rw[←(Xcw hMu hj1 hjA hjs).2.2 d hd c5]at ho9
     exact⟨(vq,_),zz6,hx,hC,rfl,.inr (λhl9=>Nat.le_trans hB9 (ho9.base_ge hl9).1),ho9.arr ir9⟩
    refine Xaa ?_
    exact⟨(vm,M),zz6,hx,hC,by rw[(Xcw hMu hj1 hjA hjs).2.1 (λd9 h9=>by rw[hd]at h9;cases h9;exact c5),List.take_append_drop],hg,hA⟩
   iterate 11 refine dk ?_
   refine dk' (de Z11 ?_)
   refine W_f rfl (Xaa ?_)
   exact⟨(vm,M),zz6,hx,hC,by rw[(Xcw hMu hj1 hjA hjs).2.1 (λd9 h9=>by have:=(List.getElem?_eq_some_iff.1 h9).1;omega),List.take_append_drop],hg,hA⟩
  intro X11 g11 w11 hF11
  obtain⟨vn,M1⟩:=g11
  clear hx hA hC
  obtain⟨hx,hC,hM1,hg1,hA⟩:=hF11
  have hj9:j≤M1.length:=by rw[hM1,List.length_append,List.length_take];omega
  have hM1l:M1.length≤2*M.length:=by rw[hM1,List.length_append,List.length_take];have:=List.length_filter_le (λr:Rw=>sLt c.key r.key) M;omega
  refine ws λ_ Z12=>wr (dm (dm ?_))
  refine di 79 4 hC.sl rfl (hC.lt hc) (df 2 rfl (dl rfl ((hC.row hc).at rfl) (dn (de Z12 ?_))))
  refine wc (λc6=>?_) λc6=>?_
  ·have hdel:c.del=false:=by simpa using c6
   refine ws λ_ Z13=>?_
   have hxs:=hx
   have hD:w.heap.size≤w11.heap.size:=hx.size
   have hA_s:=hA
   have hC_s:=hC
   have hv_s:=(hv.ext hx)
   refine Xey (R:=Mod (geB w11.heap.size)) (Far.refl _) Far.trans kr9 [9,14] (.one 1 .p false (.one 2 .p false (.one 3 .p false (.one 5 .p false (.one 6 .p false (.one 7 .p false (.one 8 .p false (.one 9 .l false (.one 10 .p false (.one 11 .p false (.one 12 .p false (.one 13 .p false (.one 14 .l false (.one 15 .p false (.fork (.alt 0 false (.fork (.alt 4 false (.one 16 .x false (.one 17 .x false (.one 18 .p false .nil))) (.alt 16 false (.one 4 .x false (.one 17 .x false (.one 18 .p false .nil))) .stop))) (.alt 16 false (.one 0 .x false (.one 4 .x false (.one 17 .x false (.one 18 .p false .nil)))) .stop))))))))))))))))) kr9 kr9 (λw12 ew12=>?_)
   have x12:=drewx ew12
   clear ew12
   replace hC:=hC.ext x12
   replace hA:=hA.ext x12
   replace hx:=hx.trans x12
   have hs:Mod (geB w11.heap.size) w11 w12:=Far.of_ext x12
   refine Xak (dm (Xad ?_))
   refine Xak (dm (Xad ?_))
   refine Xak (dp (Xbq (e:=48) (k:=3) kr9 hA.sl rfl rfl rfl om9 om9) (Xad (Xak (dm (Xad ?_)))))
   refine Xak (dm (Xad ?_))
   refine Xak (di 79 4 hC.sl rfl (hC.lt hc) (Xad (Xak (df 0 rfl (Xad (Xak (dL rfl (λ_ hR=>(((hC_s.far dc9 (hs.own hR (λ_ h _=>h))).row hc).at rfl)) (Xad (Xak (dm (Xad ?_)))))))))))
   refine Xak (dm (Xad ?_))
   refine Xak (di 79 4 hC.sl rfl (hC.lt hc) (Xad (Xak (df 1 rfl (Xad (Xak (dL rfl (λ_ hR=>(((hC_s.far dc9 (hs.own hR (λ_ h _=>h))).row hc).at rfl)) (Xad (Xak (db (zs:=[S [],S [],B false]) (pl:=[(0,1),(1,1),(2,1)]) (pv:=[(0,_),(1,_)]) (cs:=[_,_,B false]) (Xad ?_)))))))))))
   refine Xem ?_
   refine Xdc ?_ ?_
   ·refine Xik (e:=48) (sz:=3) rfl kr9 RX.far (λb2 w13 e2 x13 m2=>?_)
    have g2:=hx.ge e2
    have a2_hC:=Arr.base_lt hC dc9
    have a2_hA:=Arr.base_lt hA dc9
    have gs2:w11.heap.size≤b2:=by have:=hs.size;omega
    replace hC:=hC.ext x13
    replace hA:=hA.ext x13
    replace hx:=hx.trans x13
    replace hs:=hs.ext x13
    refine Xad (Xem ?_)
    refine Xdc ?_ ?_
    ·have ho:=m2.own (enc:=Rw.cs) (B:=w11.heap.size) (l:=[]) (sz:=3) (m:=0) gs2 rfl ir9 rfl (Nat.le_of_ble_eq_true rfl)
     refine Xar (e:=48) (sz:=3) (by':=40) rfl kr9 kr9 ir9 ho ((hA).slice (Nat.zero_le _) hj9) rfl rfl (by intro x _ u hu;simp at hu;rcases hu with rfl|rfl|rfl<;>rfl) (by simp;omega) dc9 hs.size (.inr (Far.own ho (Nat.le_refl _))) (λvp w14 ho_n x14=>?_)
     replace hs:=hs.own x14 (λi hi _=>by have:=(ho.lt i hi).1;unfold geB;omega)
     try replace hC:=hC.mod x14 (by first|(intro hl9 e9;have h8:=Arr.base_lt hA_s dc9 hl9;have h7:=(ho.lt _ e9).1;omega)|(intro hl9 e9;have h8:=Arr.base_lt hC_s dc9 hl9;have h7:=(ho.lt _ e9).1;omega))
     try replace hA:=hA.mod x14 (by first|(intro hl9 e9;have h8:=Arr.base_lt hA_s dc9 hl9;have h7:=(ho.lt _ e9).1;omega)|(intro hl9 e9;have h8:=Arr.base_lt hC_s dc9 hl9;have h7:=(ho.lt _ e9).1;omega))
     replace hx:=hx.own x14 (λi hi=>(by have h1:=(ho.lt i hi).1;first|exact h1|(have:=hxs.size;omega)))
     replace ho:=ho_n
     refine Xad (Xak (li (e:=48) (sz:=3) (zs:=[S [],S [],B false]) (pv:=[(0,.agg ⟨[_,_,_]⟩)]) (cs:=[_,_,_]) RX.far (λb3 w15 e3 x15 m3=>?_)))
     have g3:=hx.ge e3
     have a3_hC:=Arr.base_lt hC dc9
     have a3_hA:=Arr.base_lt hA dc9
     have o3_ho:=ho.ltb e3
     have gs3:w11.heap.size≤b3:=by have:=hs.size;omega
     replace hC:=hC.ext x15
     replace hA:=hA.ext x15
     replace ho:=ho.ext x15
     replace hx:=hx.trans x15
     replace hs:=hs.ext x15
     refine Xad (Xak ?_)
     refine Xar (lx:=[⟨c.key,c.val,false⟩]) (e:=48) (sz:=3) (by':=40) rfl kr9 kr9 ir9 ho (m3.arr (enc:=Rw.cs) (sz:=3) (l:=[⟨c.key,c.val,false⟩]) rfl ir9 rfl (Nat.le_of_ble_eq_true rfl)) rfl rfl (by intro x _ u hu;simp at hu;rcases hu with rfl|rfl|rfl<;>rfl) (by simp;omega) dc9 hs.size (.inr (Far.own ho (Nat.le_refl _))) (λvq w16 ho_n x16=>?_)
     replace hs:=hs.own x16 (λi hi _=>by have:=(ho.lt i hi).1;unfold geB;omega)
     try replace hC:=hC.mod x16 (by first|(intro hl9 e9;have h8:=Arr.base_lt hA_s dc9 hl9;have h7:=(ho.lt _ e9).1;omega)|(intro hl9 e9;have h8:=Arr.base_lt hC_s dc9 hl9;have h7:=(ho.lt _ e9).1;omega))
     try replace hA:=hA.mod x16 (by first|(intro hl9 e9;have h8:=Arr.base_lt hA_s dc9 hl9;have h7:=(ho.lt _ e9).1;omega)|(intro hl9 e9;have h8:=Arr.base_lt hC_s dc9 hl9;have h7:=(ho.lt _ e9).1;omega))
     replace hx:=hx.own x16 (λi hi=>(by have h1:=(ho.lt i hi).1;first|exact h1|(have:=hxs.size;omega)))
     replace ho:=ho_n
     have hcb9:(Xam l 1)≠[]->(base vc).1<w11.heap.size:=λhl9=>Arr.base_lt hC_s dc9 hl9
     have hab9:M1≠[]->(base vn).1<w11.heap.size:=λhl9=>Arr.base_lt hA_s dc9 hl9
     have hDs9:=hs.size
     clear m3
     refine Xad (Xak (da (Xad ?_)))
     clear hs hxs hA_s hC_s hv_s
     refine Xd3 (Z13 _ _ (wr (dm (dm (dm ?_)))))
     refine dp (Xbq (e:=48) (k:=3) kr9 hA.sl rfl rfl rfl om9 om9) ?_
     refine Xar (e:=48) (sz:=3) (by':=40) rfl kr9 kr9 ir9 ho ((hA).slice hj9 (Nat.le_refl _)) rfl rfl (by intro x _ u hu;simp at hu;rcases hu with rfl|rfl|rfl<;>rfl) (by simp;omega) dc9 hDs9 (.inl rfl) (λvr w17 ho_n x17=>?_)
     try replace hC:=hC.mod x17 (by first|(intro hl9 e9;have h8:=hab9 hl9;have h7:=(ho.lt _ e9).1;omega)|(intro hl9 e9;have h8:=hcb9 hl9;have h7:=(ho.lt _ e9).1;omega))
     try replace hA:=hA.mod x17 (by first|(intro hl9 e9;have h8:=hab9 hl9;have h7:=(ho.lt _ e9).1;omega)|(intro hl9 e9;have h8:=hcb9 hl9;have h7:=(ho.lt _ e9).1;omega))
     replace hx:=hx.own x17 (λi hi=>(Nat.le_trans hD (ho.lt i hi).1))
     replace ho:=ho_n
     refine da (de Z7 (wr (dm ?_)))
     refine pa rfl rfl (da (Xad (?_)))
     obtain⟨B9,hB9,ho9⟩:∃B9,w.heap.size≤B9∧Vc.Own Rw.cs 3 48 B9 w17 vr (M1.take j++([⟨c.key,c.val,false⟩]++M1.drop j)):=⟨_,hD,by
      have:=ho
      simpa using this⟩
     rw[hM1,List.take_left' (by rw[List.length_take];omega),List.drop_left' (by rw[List.length_take];omega),show M.take j++([⟨c.key,c.val,false⟩]++M.filter λr=>sLt c.key r.key)=layC M c by unfold layC;rw[(Xcw hMu hj1 hjA hjs).1,if_neg (by rw[hdel];decide)]]at ho9
     exact⟨(i+1,vr,layC M c),zz5,⟨hx,by omega,hst.symm,.inr (λhl9=>Nat.le_trans hB9 (ho9.base_ge hl9).1),ho9.arr ir9,hC⟩,by simp only [];omega⟩
    refine Xdc ?_ ?_
    ·refine li (e:=48) (sz:=3) (zs:=[S [],S [],B false]) (pv:=[(0,.agg ⟨[_,_,_]⟩)]) (cs:=[_,_,_]) RX.far (λb4 w18 e4 x18 m4=>?_)
     have g4:=hx.ge e4
     have n4_2:=m2.ltb e4
     have a4_hC:=Arr.base_lt hC dc9
     have a4_hA:=Arr.base_lt hA dc9
     have gs4:w11.heap.size≤b4:=by have:=hs.size;omega
     replace hC:=hC.ext x18
     replace hA:=hA.ext x18
     replace m2:=m2.ext x18
     replace hx:=hx.trans x18
     replace hs:=hs.ext x18
     refine Xad (Xak ?_)
     have ho:=m2.own (enc:=Rw.cs) (B:=w11.heap.size) (l:=[]) (sz:=3) (m:=0) gs2 rfl ir9 rfl (Nat.le_of_ble_eq_true rfl)
     refine Xar (e:=48) (sz:=3) (by':=40) rfl kr9 kr9 ir9 ho ((hA).slice (Nat.zero_le _) hj9) rfl rfl (by intro x _ u hu;simp at hu;rcases hu with rfl|rfl|rfl<;>rfl) (by simp;omega) dc9 hs.size (.inr (Far.own ho (Nat.le_refl _))) (λvp w19 ho_n x19=>?_)
     replace hs:=hs.own x19 (λi hi _=>by have:=(ho.lt i hi).1;unfold geB;omega)
     try replace hC:=hC.mod x19 (by first|(intro hl9 e9;have h8:=Arr.base_lt hA_s dc9 hl9;have h7:=(ho.lt _ e9).1;omega)|(intro hl9 e9;have h8:=Arr.base_lt hC_s dc9 hl9;have h7:=(ho.lt _ e9).1;omega))
     try replace hA:=hA.mod x19 (by first|(intro hl9 e9;have h8:=Arr.base_lt hA_s dc9 hl9;have h7:=(ho.lt _ e9).1;omega)|(intro hl9 e9;have h8:=Arr.base_lt hC_s dc9 hl9;have h7:=(ho.lt _ e9).1;omega))
     try replace m4:=m4.mod x19 (by first|(intro h;have h2:b2=b4:=Option.some.inj h;omega)|(intro h;have h1:=(ho.lt _ h).1;omega)|(intro h;have h1:=o4_ho _ h;omega))
     replace hx:=hx.own x19 (λi hi=>(by have h1:=(ho.lt i hi).1;first|exact h1|(have:=hxs.size;omega)))
     replace ho:=ho_n
     refine Xad (Xak ?_)
     refine Xar (lx:=[⟨c.key,c.val,false⟩]) (e:=48) (sz:=3) (by':=40) rfl kr9 kr9 ir9 ho (m4.arr (enc:=Rw.cs) (sz:=3) (l:=[⟨c.key,c.val,false⟩]) rfl ir9 rfl (Nat.le_of_ble_eq_true rfl)) rfl rfl (by intro x _ u hu;simp at hu;rcases hu with rfl|rfl|rfl<;>rfl) (by simp;omega) dc9 hs.size (.inr (Far.own ho (Nat.le_refl _))) (λvq w20 ho_n x20=>?_)
     replace hs:=hs.own x20 (λi hi _=>by have:=(ho.lt i hi).1;unfold geB;omega)
     try replace hC:=hC.mod x20 (by first|(intro hl9 e9;have h8:=Arr.base_lt hA_s dc9 hl9;have h7:=(ho.lt _ e9).1;omega)|(intro hl9 e9;have h8:=Arr.base_lt hC_s dc9 hl9;have h7:=(ho.lt _ e9).1;omega))
     try replace hA:=hA.mod x20 (by first|(intro hl9 e9;have h8:=Arr.base_lt hA_s dc9 hl9;have h7:=(ho.lt _ e9).1;omega)|(intro hl9 e9;have h8:=Arr.base_lt hC_s dc9 hl9;have h7:=(ho.lt _ e9).1;omega))
     replace hx:=hx.own x20 (λi hi=>(by have h1:=(ho.lt i hi).1;first|exact h1|(have:=hxs.size;omega)))
     replace ho:=ho_n
     have hcb9:(Xam l 1)≠[]->(base vc).1<w11.heap.size:=λhl9=>Arr.base_lt hC_s dc9 hl9
     have hab9:M1≠[]->(base vn).1<w11.heap.size:=λhl9=>Arr.base_lt hA_s dc9 hl9
     have hDs9:=hs.size
     clear m4
     refine Xad (Xak (da (Xad ?_)))
     clear hs hxs hA_s hC_s hv_s
     refine Xd3 (Z13 _ _ (wr (dm (dm (dm ?_)))))
     refine dp (Xbq (e:=48) (k:=3) kr9 hA.sl rfl rfl rfl om9 om9) ?_
     refine Xar (e:=48) (sz:=3) (by':=40) rfl kr9 kr9 ir9 ho ((hA).slice hj9 (Nat.le_refl _)) rfl rfl (by intro x _ u hu;simp at hu;rcases hu with rfl|rfl|rfl<;>rfl) (by simp;omega) dc9 hDs9 (.inl rfl) (λvr w21 ho_n x21=>?_)
     try replace hC:=hC.mod x21 (by first|(intro hl9 e9;have h8:=hab9 hl9;have h7:=(ho.lt _ e9).1;omega)|(intro hl9 e9;have h8:=hcb9 hl9;have h7:=(ho.lt _ e9).1;omega))
     try replace hA:=hA.mod x21 (by first|(intro hl9 e9;have h8:=hab9 hl9;have h7:=(ho.lt _ e9).1;omega)|(intro hl9 e9;have h8:=hcb9 hl9;have h7:=(ho.lt _ e9).1;omega))
     replace hx:=hx.own x21 (λi hi=>(Nat.le_trans hD (ho.lt i hi).1))
     replace ho:=ho_n
     refine da (de Z7 (wr (dm ?_)))
     refine pa rfl rfl (da (Xad (?_)))
     obtain⟨B9,hB9,ho9⟩:∃B9,w.heap.size≤B9∧Vc.Own Rw.cs 3 48 B9 w21 vr (M1.take j++([⟨c.key,c.val,false⟩]++M1.drop j)):=⟨_,hD,by
      have:=ho
      simpa using this⟩
     rw[hM1,List.take_left' (by rw[List.length_take];omega),List.drop_left' (by rw[List.length_take];omega),show M.take j++([⟨c.key,c.val,false⟩]++M.filter λr=>sLt c.key r.key)=layC M c by unfold layC;rw[(Xcw hMu hj1 hjA hjs).1,if_neg (by rw[hdel];decide)]]at ho9
     exact⟨(i+1,vr,layC M c),zz5,⟨hx,by omega,hst.symm,.inr (λhl9=>Nat.le_trans hB9 (ho9.base_ge hl9).1),ho9.arr ir9,hC⟩,by simp only [];omega⟩
    exact Xen
   refine Xdc ?_ ?_
   ·refine li (e:=48) (sz:=3) (zs:=[S [],S [],B false]) (pv:=[(0,.agg ⟨[_,_,_]⟩)]) (cs:=[_,_,_]) RX.far (λb5 w22 e5 x22 m5=>?_)
    have g5:=hx.ge e5
    have a5_hC:=Arr.base_lt hC dc9
    have a5_hA:=Arr.base_lt hA dc9
    have gs5:w11.heap.size≤b5:=by have:=hs.size;omega
    replace hC:=hC.ext x22
    replace hA:=hA.ext x22
    replace hx:=hx.trans x22
    replace hs:=hs.ext x22
    refine Xad (Xak (Xik (e:=48) (sz:=3) rfl kr9 RX.far (λb6 w23 e6 x23 m6=>?_)))
    have g6:=hx.ge e6
    have n6_5:=m5.ltb e6
    have a6_hC:=Arr.base_lt hC dc9
    have a6_hA:=Arr.base_lt hA dc9
    have gs6:w11.heap.size≤b6:=by have:=hs.size;omega
    replace hC:=hC.ext x23
    replace hA:=hA.ext x23
    replace m5:=m5.ext x23
    replace hx:=hx.trans x23
    replace hs:=hs.ext x23
    refine Xad (Xak ?_)
    have ho:=m6.own (enc:=Rw.cs) (B:=w11.heap.size) (l:=[]) (sz:=3) (m:=0) gs6 rfl ir9 rfl (Nat.le_of_ble_eq_true rfl)
    refine Xar (e:=48) (sz:=3) (by':=40) rfl kr9 kr9 ir9 ho ((hA).slice (Nat.zero_le _) hj9) rfl rfl (by intro x _ u hu;simp at hu;rcases hu with rfl|rfl|rfl<;>rfl) (by simp;omega) dc9 hs.size (.inr (Far.own ho (Nat.le_refl _))) (λvp w24 ho_n x24=>?_)
    replace hs:=hs.own x24 (λi hi _=>by have:=(ho.lt i hi).1;unfold geB;omega)
    try replace hC:=hC.mod x24 (by first|(intro hl9 e9;have h8:=Arr.base_lt hA_s dc9 hl9;have h7:=(ho.lt _ e9).1;omega)|(intro hl9 e9;have h8:=Arr.base_lt hC_s dc9 hl9;have h7:=(ho.lt _ e9).1;omega))
    try replace hA:=hA.mod x24 (by first|(intro hl9 e9;have h8:=Arr.base_lt hA_s dc9 hl9;have h7:=(ho.lt _ e9).1;omega)|(intro hl9 e9;have h8:=Arr.base_lt hC_s dc9 hl9;have h7:=(ho.lt _ e9).1;omega))
    try replace m5:=m5.mod x24 (by first|(intro h;have h2:b6=b5:=Option.some.inj h;omega)|(intro h;have h1:=(ho.lt _ h).1;omega)|(intro h;have h1:=o5_ho _ h;omega))
    replace hx:=hx.own x24 (λi hi=>(by have h1:=(ho.lt i hi).1;first|exact h1|(have:=hxs.size;omega)))
    replace ho:=ho_n
    refine Xad (Xak ?_)
    refine Xar (lx:=[⟨c.key,c.val,false⟩]) (e:=48) (sz:=3) (by':=40) rfl kr9 kr9 ir9 ho (m5.arr (enc:=Rw.cs) (sz:=3) (l:=[⟨c.key,c.val,false⟩]) rfl ir9 rfl (Nat.le_of_ble_eq_true rfl)) rfl rfl (by intro x _ u hu;simp at hu;rcases hu with rfl|rfl|rfl<;>rfl) (by simp;omega) dc9 hs.size (.inr (Far.own ho (Nat.le_refl _))) (λvq w25 ho_n x25=>?_)
    replace hs:=hs.own x25 (λi hi _=>by have:=(ho.lt i hi).1;unfold geB;omega)
    try replace hC:=hC.mod x25 (by first|(intro hl9 e9;have h8:=Arr.base_lt hA_s dc9 hl9;have h7:=(ho.lt _ e9).1;omega)|(intro hl9 e9;have h8:=Arr.base_lt hC_s dc9 hl9;have h7:=(ho.lt _ e9).1;omega))
    try replace hA:=hA.mod x25 (by first|(intro hl9 e9;have h8:=Arr.base_lt hA_s dc9 hl9;have h7:=(ho.lt _ e9).1;omega)|(intro hl9 e9;have h8:=Arr.base_lt hC_s dc9 hl9;have h7:=(ho.lt _ e9).1;omega))
    replace hx:=hx.own x25 (λi hi=>(by have h1:=(ho.lt i hi).1;first|exact h1|(have:=hxs.size;omega)))
    replace ho:=ho_n
    have hcb9:(Xam l 1)≠[]->(base vc).1<w11.heap.size:=λhl9=>Arr.base_lt hC_s dc9 hl9
    have hab9:M1≠[]->(base vn).1<w11.heap.size:=λhl9=>Arr.base_lt hA_s dc9 hl9
    have hDs9:=hs.size
    clear m5
    refine Xad (Xak (da (Xad ?_)))
    clear hs hxs hA_s hC_s hv_s
    refine Xd3 (Z13 _ _ (wr (dm (dm (dm ?_)))))
    refine dp (Xbq (e:=48) (k:=3) kr9 hA.sl rfl rfl rfl om9 om9) ?_
    refine Xar (e:=48) (sz:=3) (by':=40) rfl kr9 kr9 ir9 ho ((hA).slice hj9 (Nat.le_refl _)) rfl rfl (by intro x _ u hu;simp at hu;rcases hu with rfl|rfl|rfl<;>rfl) (by simp;omega) dc9 hDs9 (.inl rfl) (λvr w26 ho_n x26=>?_)
    try replace hC:=hC.mod x26 (by first|(intro hl9 e9;have h8:=hab9 hl9;have h7:=(ho.lt _ e9).1;omega)|(intro hl9 e9;have h8:=hcb9 hl9;have h7:=(ho.lt _ e9).1;omega))
    try replace hA:=hA.mod x26 (by first|(intro hl9 e9;have h8:=hab9 hl9;have h7:=(ho.lt _ e9).1;omega)|(intro hl9 e9;have h8:=hcb9 hl9;have h7:=(ho.lt _ e9).1;omega))
    replace hx:=hx.own x26 (λi hi=>(Nat.le_trans hD (ho.lt i hi).1))
    replace ho:=ho_n
    refine da (de Z7 (wr (dm ?_)))
    refine pa rfl rfl (da (Xad (?_)))
    obtain⟨B9,hB9,ho9⟩:∃B9,w.heap.size≤B9∧Vc.Own Rw.cs 3 48 B9 w26 vr (M1.take j++([⟨c.key,c.val,false⟩]++M1.drop j)):=⟨_,hD,by
     have:=ho
     simpa using this⟩
    rw[hM1,List.take_left' (by rw[List.length_take];omega),List.drop_left' (by rw[List.length_take];omega),show M.take j++([⟨c.key,c.val,false⟩]++M.filter λr=>sLt c.key r.key)=layC M c by unfold layC;rw[(Xcw hMu hj1 hjA hjs).1,if_neg (by rw[hdel];decide)]]at ho9
    exact⟨(i+1,vr,layC M c),zz5,⟨hx,by omega,hst.symm,.inr (λhl9=>Nat.le_trans hB9 (ho9.base_ge hl9).1),ho9.arr ir9,hC⟩,by simp only [];omega⟩
   exact Xen
  have hdel:c.del=true:=by simpa using c6
  refine Xaa (Z7 _ _ (wr (dm ?_)))
  refine pa rfl rfl (da (Xad (?_)))
  have e9:M1=layC M c:=by
   rw[hM1];unfold layC;rw[(Xcw hMu hj1 hjA hjs).1,if_pos hdel];rfl
  subst e9
  exact⟨(i+1,vn,layC M c),zz5,⟨hx,by omega,hst.symm,hg1,hA,hC⟩,by simp only [];omega⟩
 refine Xah (Z3 _ _ (ws λ_ Z14=>wr (dm (da (de Z14 (Xae ?_))))))
 refine ro ?_
 rw[List.take_of_length_le om9]at hM
 rw[hM]at hA hg
 exact⟨_,rfl,hx,hA,hg⟩
end Go.Proofs.YtiooodckiddpmaaGreatDoor
namespace Go.Proofs.YtiooodckiddpmaaGreatDoor.Em
open Go.Vc Go.Sp
attribute [local irreducible] W XW Dw DwT
theorem diskM : MapK Tryz.prog 120 9 123 S pO (λs=>s.length≤maxLen):=mapS kr9 kr9 Xtz
theorem X86 (w:World) :
  Calls Tryz.prog 262 [.slice none 0 0,I 0,I 0].toArray w (Pure w (.tuple #[])):=by
 refine cw Tryz.func262 ?_
 have hx:=Ext.refl w
 refine ws λ_ Z1=>wr (dm ?_)
 refine pa rfl rfl (da (de Z1 (Xab ?_)))
 refine Xaj (G:=Unit) (λuu=>[(0,.slice none 0 0),(1,I 0),(2,I 0),(6,I (0+1))]) (λuu w'=>Ext w w'∧True) (λuu=>0) () ?_ ?_ ?_
 ·exact zz4
 ·exact⟨hx,trivial⟩
 intro X1 g1 w1 hF1
 revert hF1;revert g1;intro uu hF1
 clear hx
 obtain⟨hx,htr⟩:=hF1
 refine ws λ_ Z2=>ws λ_ Z3=>wr (dm (dm ?_))
 refine dp (Xaf rfl rfl) (de Z3 (wi (λc1=>?_) λc1=>?_))
 ·exact absurd c1 dc9
 refine Xah (Xa7 (Xa0 rfl ?_))
 exact⟨rfl,hx⟩
theorem X6d (w:World) :
  Calls Tryz.prog 272 [.int .u64 0].toArray w (Pure w (I 0)):=by
 refine cw Tryz.func272 ?_
 have hx:=Ext.refl w
 refine ws λ_ Z1=>wr (da (de Z1 (ws λ_ Z2=>ws λ_ Z3=>wr (dm ?_))))
 refine dp (Xcq rfl rfl) (de Z3 (wi (λc1=>?_) λc1=>?_))
 ·exact absurd c1 dc9
 refine Xaa (Z2 _ _ (ws λ_ Z4=>ws λ_ Z5=>wr (dm ?_)))
 refine dp (Xcq rfl rfl) (de Z5 (wi (λc2=>?_) λc2=>?_))
 ·exact absurd c2 dc9
 refine Xaa (Z4 _ _ (ws λ_ Z6=>ws λ_ Z7=>wr (dm ?_)))
 refine dp (Xcq rfl rfl) (de Z7 (wi (λc3=>?_) λc3=>?_))
 ·exact absurd c3 dc9
 refine Xaa (Z6 _ _ (ws λ_ Z8=>wr (dm (dm ?_))))
 refine dp (Xtd rfl kr9 kr9) (dp (Xyl (c:=0) kr9 rfl rfl rfl) (dp (Xx7 rfl kr9 kr9) (dp (Xa8 (a:=0) (b:=0) rfl rfl (by simp [Xai])) (da (de Z8 (Xae ?_))))))
 refine ro ?_
 exact⟨rfl,hx⟩
theorem X87 (w:World) :
  Calls Tryz.prog 204 [.int .u64 0].toArray w (Pure w (I 0)):=by
 refine cw Tryz.func204 ?_
 have hx:=Ext.refl w
 refine ws λ_ Z1=>wr (da (de Z1 (ws λ_ Z2=>?_)))
 refine W_f rfl (Xaa (Z2 _ _ (ws λ_ Z3=>wr (dm ?_))))
 refine cP (X6d _) RX.all λw1 x1=>?_
 replace hx:=hx.trans x1
 refine da (de Z3 (Xae ?_))
 refine ro ?_
 exact⟨rfl,hx⟩
theorem X88 (w:World) :
  Calls Tryz.prog 203 [.slice none 0 0,I 0,I 0,I 0].toArray w (Pure w (.tuple #[])):=by
 refine cw Tryz.func203 ?_
 have hx:=Ext.refl w
 refine ws λ_ Z1=>wr (da (de Z1 (ws λ_ Z2=>wr (da (de Z2 (Xab ?_))))))
 refine Xaj (G:=Unit) (λuu=>[(0,.slice none 0 0),(1,I 0),(2,I 0)]) (λuu w'=>Ext w w'∧True) (λuu=>0) () ?_ ?_ ?_
 ·exact zz3
 ·exact⟨hx,trivial⟩
 intro X1 g1 w1 hF1
 revert hF1;revert g1;intro uu hF1
 clear hx
 obtain⟨hx,htr⟩:=hF1
 refine Xab (ws λ_ Z3=>wr (dm (dm ?_)))
 refine ps rfl rfl (da (de Z3 (ws λ_ Z4=>ws λ_ Z5=>wr (dm ?_))))
 refine dp (Xdi rfl rfl) (de Z5 (wi (λc1=>?_) λc1=>?_))
 ·refine ws λ_ Z6=>wr (dm (dm (dm ?_)))
  refine cP (X86 _) RX.all λw2 x2=>?_
  replace hx:=hx.trans x2
  refine de Z6 (Xae (Xa0 rfl ?_))
  exact⟨rfl,hx⟩
 exact absurd c1 dc9
theorem X6e (w:World) :
  Calls Tryz.prog 132 [.slice none 0 0].toArray w (Pure w (.tuple #[])):=by
 refine cw Tryz.func132 ?_
 have hx:=Ext.refl w
 refine ws λ_ Z1=>wr (dm ?_)
 refine dv 9 1 (Arr.nil (enc:=sEnc) (sz:=1) (w:=w)).sl (da (de Z1 (wr (dm (dm (dm ?_))))))
 refine dp (Xcj (k:=.u64) rfl kr9 kr9) (cP (X87 _) RX.all λw1 x1=>?_)
 replace hx:=hx.trans x1
 refine cP (X88 _) RX.all λw2 x2=>?_
 replace hx:=hx.trans x2
 refine Xad ((Xa7 (Xa0 rfl ?_)))
 exact⟨rfl,hx⟩
theorem X0h (b ly:Nat)(mv:Value)(J:Nat->World->Prop)(w:World)(hJ:∀k W,J k W->Blk W b [mv] 120∧EmpV W mv)(hE:∀k W W',J k W->Ext W W'->J k W')(hj:J 0 w) :
  Calls Tryz.prog 133 [.func (.yield ly) #[] #[],ptr b 0].toArray w (λe W'=>(∃v,e=.returned v)∧J 0 W'):=by
 refine Xp4 Tryz.func133 rfl rfl rfl kr9 ?_
 have hx:=Ext.refl w
 obtain⟨hb,hv⟩:=hJ _ _ hj
 refine Xis λK1 Z1=>Xmj [.l,.x] rfl (dl rfl ((hb.ext hx).at rfl) (Xyn kr9 rfl rfl (hv.ext hx) RX.all (λb1 w1 e1 x1 it1=>?_)))
 have g1:=hx.ge e1
 replace hx:=hx.trans x1
 refine Xad (Z1 _ _ _ (Xp3 ?_))
 refine X3s (G:=Unit) (λuu=>[(0,.func (.yield ly) #[] #[]),(5,ptr b1 0)]) (λuu w'=>Ext w w'∧Xyk w' b1∧True) (λuu=>0) () ?_ ?_ ?_
 ·exact zz2
 ·exact⟨hx,it1,trivial⟩
 intro X2 g2 w2 hF2
 revert hF2;revert g2;intro uu hF2
 clear hx it1
 obtain⟨hx,it1,htr⟩:=hF2
 refine Xis λK2 Z2=>Xmj [.x,.p] rfl (X3v rfl rfl it1 RX.all (dx rfl rfl (Xad (Z2 _ _ _ (Xis λK3 Z3=>Yar rfl (X3q ?_))))))
 try dsimp only [Xyg,Xmg]
 refine Xtw (Xa0 rfl ?_)
 exact⟨⟨_,rfl⟩,hE _ _ _ hj hx⟩
theorem X6f (mv:Value)(w:World)(hv:EmpV w mv) :
  Calls Tryz.prog 67 [mv].toArray w (Gives w (λu w'=>∃b,u=fnC 133 [ptr b 0]∧Blk w' b [mv] 120)):=by
 refine cw Tryz.func67 ?_
 have hx:=Ext.refl w
 refine ws λ_ Z1=>wr (Xbf rfl rfl (Xt0 hv) RX.all (λb1 w1 e1 x1 m1=>?_))
 have g1:=hx.ge e1
 replace hx:=hx.trans x1
 refine da (de Z1 (ws λ_ Z2=>wr ?_))
 refine dp (Xdn rfl) (da (de Z2 (Xae ?_)))
 refine ro ?_
 exact⟨_,rfl,hx,b1,rfl,m1⟩
theorem Xnx (bk:Nat)(mv:Value)(w:World)(hk:Blk w bk [mv] 120)(hv:EmpV w mv) :
  Calls Tryz.prog 202 [.slice none 0 0,fnC 133 [ptr bk 0]].toArray w (Pure w (.slice none 0 0)):=by
 refine Xp4 Tryz.func202 rfl rfl rfl kr9 ?_
 have hx:=Ext.refl w
 refine Xis λK1 Z1=>Xmj [.x,.p] rfl (Xbf rfl rfl rfl RX.all (λb1 w1 e1 x1 m1=>?_))
 have g1:=hx.ge e1
 replace hx:=hx.trans x1
 refine da ?_
 refine Xad (Z1 _ _ _ (Xis λK2 Z2=>Xis λK3 Z3=>Xmj [.p] rfl (dm ?_)))
 refine Xad (Z3 _ _ _ (Xp3 ?_))
 have hI0:(Ext w w1∧Blk w1 b1 [.slice none 0 0] 58∧Blk w1 bk [mv] 120∧EmpV w1 mv):=⟨hx,m1,hk.ext hx,hv.ext hx⟩
 have hx3:=hx.size
 have hbk:=hk.lt
 have hb1:=m1.lt
 refine Xyh (gf:=133) (N:=0) (lb:=#[ptr bk 0]) (args:=λk=>[S []]) rfl kr9 (λ_=>rfl) (λk W=>(Ext w W∧Blk W b1 [.slice none 0 0] 58∧Blk W bk [mv] 120∧EmpV W mv)) (λk E1 W=>False) hI0 ?hX ?hL ?hAL ?hit ?assign ?body ?h
 case hX=>
  rintro k W W' ⟨h1,h2,h3,h4⟩ x
  exact⟨h1.trans x,h2.ext x,h3.ext x,h4.ext x⟩
 case hL=>
  rintro k W l' o o' ⟨h1,h2,h3,h4⟩ hle hl ho
  have:=hx.size
  exact⟨h1.own (Mod.putObj W l' o') (λi hi=>by have hi2:i=l':=hi;omega),h2.put o' hl ho,h3.put o' hl ho,h4.imp id λ⟨b,e,hb⟩=>⟨b,e,hb.mod (Mod.putObj W l' o') (λe2=>by have e3:b=l':=e2;have h9:=hv.lt e;omega)⟩⟩
 case hAL=>exact λk E1 W l' o o' h=>h.elim
 case hit=>
  intro ly J hJI hJE hY W hj
  exact X0h bk ly mv J W (λk W h=>⟨(hJI k W h).2.2.1,(hJI k W h).2.2.2⟩) hJE hj
 case assign=>exact λk l W hk=>absurd hk (Nat.not_lt_zero k)
 case body=>exact λk l E1 W keep hk=>absurd hk (Nat.not_lt_zero k)
 case h=>
  intro D w8 hD hI hdl
  clear hx m1 hI0
  obtain⟨hx,m1,-,-⟩:=hI
  refine Z2 _ _ _ (Xis λK4 Z4=>Xmj [.l,.p] rfl (dl rfl (m1.at rfl) (da ?_)))
  refine Xad (Z4 _ _ _ (X64 ?_))
  try dsimp only [Xyg,Xmg]
  refine Xtx hdl (ro ?_)
  have hxs:=hx.size
  exact⟨rfl,hx.own (Mod.putObj _ D _) (λi hi=>by have hi2:i=D:=hi;omega)⟩
theorem Xsr (bk:Nat)(mv:Value)(w:World)(hk:Blk w bk [mv] 120)(hv:EmpV w mv) :
  Calls Tryz.prog 131 [fnC 133 [ptr bk 0]].toArray w (Pure w (.slice none 0 0)):=by
 refine cw Tryz.func131 ?_
 have hx:=Ext.refl w
 refine ws λ_ Z1=>wr (da (de Z1 (ws λ_ Z2=>wr (dm ?_))))
 refine cP (Xnx bk mv _ (hk.ext hx) (hv.ext hx)) RX.all λw1 x1=>?_
 replace hx:=hx.trans x1
 refine da (de Z2 (Xae ?_))
 refine ro ?_
 exact⟨rfl,hx⟩
theorem Xxp (bk:Nat)(mv:Value)(w:World)(hk:Blk w bk [mv] 120)(hv:EmpV w mv) :
  Calls Tryz.prog 66 [fnC 133 [ptr bk 0]].toArray w (Pure w (.slice none 0 0)):=by
 refine cw Tryz.func66 ?_
 have hx:=Ext.refl w
 refine ws λ_ Z1=>wr (da (de Z1 (ws λ_ Z2=>wr (dm ?_))))
 refine cP (Xsr bk mv _ (hk.ext hx) (hv.ext hx)) RX.all λw1 x1=>?_
 replace hx:=hx.trans x1
 refine da (de Z2 (ws λ_ Z3=>wr (dm ?_)))
 refine cP (X6e _) RX.all λw2 x2=>?_
 replace hx:=hx.trans x2
 refine de Z3 (ws λ_ Z4=>wr (dm (da (de Z4 (Xae ?_)))))
 refine ro ?_
 exact⟨rfl,hx⟩
theorem list_w (bd mf:Nat)(room:Int)(w:World)(hd:Blk w bd [I room,.map (some mf),B false,I 0] 122)(hm:EmpM w mf) :
  Calls Tryz.prog 28 [ptr bd 0].toArray w (Pure w (.slice none 0 0)):=by
 refine cw Tryz.func28 ?_
 have hx:=Ext.refl w
 refine ws λ_ Z1=>wr (da (de Z1 (ws λ_ Z2=>ws λ_ Z3=>wr (dm ?_))))
 refine dp (Xa6 kr9 rfl rfl) (de Z3 (wi (λc1=>?_) λc1=>?_))
 ·exact absurd c1 sp9
 refine Xaa (Z2 _ _ (ws λ_ Z4=>wr (dm ?_)))
 refine dz rfl (df 1 rfl (dl rfl ((hd.ext hx).at rfl) (cG (X6f (.map (some mf)) _ (hm.ext hx).val) RX.all λu1 w1 x1 hf1=>?_)))
 have hsz1:=hx.size
 replace hx:=hx.trans x1
 obtain⟨bk,rfl,hk⟩:=hf1
 refine cP (Xxp bk _ _ hk (hm.ext hx).val) RX.all λw2 x2=>?_
 replace hx:=hx.trans x2
 refine da (de Z4 (Xae ?_))
 refine ro ?_
 exact⟨rfl,hx⟩
theorem X0i (s:Str)(w:World) :
  Calls Tryz.prog 201 [.slice none 0 0,S s].toArray w (Pure w (I (-1))):=by
 refine cw Tryz.func201 ?_
 have hx:=Ext.refl w
 refine ws λ_ Z1=>wr (da (de Z1 (ws λ_ Z2=>ws λ_ Z3=>wr (dm ?_))))
 refine dv 9 1 (Arr.nil (enc:=sEnc) (sz:=1) (w:=w)).sl (dm (de Z3 (Xab ?_)))
 refine Xaj (G:=Unit) (λuu=>[(0,.slice none 0 0),(1,S s),(7,I 0),(8,I 0)]) (λuu w'=>Ext w w'∧True) (λuu=>0) () ?_ ?_ ?_
 ·exact zz4
 ·exact⟨hx,trivial⟩
 intro X1 g1 w1 hF1
 revert hF1;revert g1;intro uu hF1
 clear hx
 obtain⟨hx,htr⟩:=hF1
 refine ws λ_ Z4=>wr (dp (Xaf rfl rfl) (de Z4 (ws λ_ Z5=>wi (λc1=>?_) λc1=>?_)))
 ·exact absurd c1 dc9
 refine Xah (Z2 _ _ (ws λ_ Z6=>wr (da (de Z6 (Xae ?_)))))
 refine ro ?_
 exact⟨rfl,hx⟩
theorem Xpf (s:Str)(w:World) :
  Calls Tryz.prog 130 [.slice none 0 0,S s].toArray w (Pure w (B false)):=by
 refine cw Tryz.func130 ?_
 have hx:=Ext.refl w
 refine ws λ_ Z1=>wr (da (de Z1 (ws λ_ Z2=>wr (dm (dm ?_)))))
 refine cP (X0i s _) RX.all λw1 x1=>?_
 replace hx:=hx.trans x1
 refine dp (Xcq rfl rfl) (da (de Z2 (Xae ?_)))
 refine ro ?_
 exact⟨rfl,hx⟩
theorem has_w (bd mf:Nat)(room:Int)(s:Str)(w:World)(hd:Blk w bd [I room,.map (some mf),B false,I 0] 122)(hm:EmpM w mf) :
  Calls Tryz.prog 189 [ptr bd 0,S s].toArray w (Pure w (B false)):=by
 refine cw Tryz.func189 ?_
 have hx:=Ext.refl w
 refine ws λ_ Z1=>wr (da (de Z1 (ws λ_ Z2=>wr (dm ?_))))
 refine cP (list_w bd mf room _ (hd.ext hx) (hm.ext hx)) RX.all λw1 x1=>?_
 replace hx:=hx.trans x1
 refine dm ?_
 refine cP (Xpf s _) RX.all λw2 x2=>?_
 replace hx:=hx.trans x2
 refine da (de Z2 (Xae ?_))
 refine ro ?_
 exact⟨rfl,hx⟩
theorem removes_w (bd mf:Nat)(room:Int)(l:List Str)(v:Value)(w:World)(hd:Blk w bd [I room,.map (some mf),B false,I 0] 122)(hm:EmpM w mf)(hv:Arr sEnc 1 w v l)(hl:l.length≤1000) :
  Calls Tryz.prog 178 [ptr bd 0,v].toArray w (Pure w (I 0)):=by
 refine cw Tryz.func178 ?_
 have hx:=Ext.refl w
 refine ws λ_ Z1=>wr (da (de Z1 (ws λ_ Z2=>ws λ_ Z3=>wr (dm ?_))))
 refine dv 9 1 hv.sl (dm (de Z3 (Xab ?_)))
 refine Xaj (G:=Nat) (λk=>[(0,ptr bd 0),(8,v),(9,I ↑l.length),(10,I ↑k)]) (λk w'=>Ext w w'∧k≤l.length) (λk=>l.length-k) 0 ?_ ?_ ?_
 ·exact zz4
 ·exact⟨hx,Nat.zero_le _⟩
 intro X1 g1 w1 hF1
 revert hF1;revert g1;intro k hF1
 clear hx
 obtain⟨hx,hk1⟩:=hF1
 refine ws λ_ Z4=>wr (dp (Xaf rfl rfl) (de Z4 (ws λ_ Z5=>wi (λc1=>?_) λc1=>?_)))
 ·obtain⟨s,hk⟩:∃s,l[k]?=some s:=gtE
  refine Xaa (Z5 _ _ (ws λ_ Z6=>Xab (ws λ_ Z7=>wr (di 9 1 hv.sl rfl (hv.lt hk) (dl rfl (((hv.ext hx).row hk).at0 rfl) (da (de Z7 (ws λ_ Z8=>ws λ_ Z9=>wr (dm (dm ?_))))))))))
  refine cP (has_w bd mf room s _ (hd.ext hx) (hm.ext hx)) RX.all λw2 x2=>?_
  replace hx:=hx.trans x2
  refine dn (de Z9 ?_)
  refine W_t rfl (Xah (Z6 _ _ (wr (pa rfl rfl (dm (Xad (?_)))))))
  refine⟨k+1,zz4,⟨hx,by omega⟩,by omega⟩
 refine Xah (Z2 _ _ (ws λ_ Z10=>wr (da (de Z10 (Xae ?_)))))
 refine ro ?_
 exact⟨rfl,hx⟩
theorem read_w (bd mf:Nat)(room:Int)(s:Str)(w:World)(hd:Blk w bd [I room,.map (some mf),B false,I 0] 122)(hm:EmpM w mf)(hs:s.length≤maxLen) :
  Calls Tryz.prog 190 [ptr bd 0,S s].toArray w (Pure w (.tuple #[.slice none 0 0,I 7])):=by
 refine cw Tryz.func190 ?_
 have hx:=Ext.refl w
 have hma:Vc.Xbj Tryz.prog 9 S pO w mf 0 (λ_=>none):=hm.at
 refine ws λ_ Z1=>wr (da (da (de Z1 (ws λ_ Z2=>ws λ_ Z3=>wr (dm ?_)))))
 refine dp (Xa6 kr9 rfl rfl) (dm ?_)
 refine Xag 8 rfl (λc1=>?_) (λc1=>?_)
 ·exact absurd c1 sp9
 refine dm ?_
 refine dz rfl (df 1 rfl (dl rfl ((hd.ext hx).at rfl) (dm ?_)))
 refine dq (Xef diskM (kx:=s) (z0:=none) rfl rfl kr9 (hma.ext hx) hs) (dp (Xa6 kr9 rfl rfl) (dk' (de Z3 ?_)))
 refine wi (λc2=>?_) λc2=>?_
 ·refine ws λ_ Z4=>wr (da (da (de Z4 (Xae ?_))))
  refine rt ?_
  exact⟨rfl,hx⟩
 exact absurd rfl c2
theorem X89 (bd mf:Nat)(room:Int)(s:Str)(w:World)(hd:Blk w bd [I room,.map (some mf),B false,I 0] 122)(hm:EmpM w mf)(hs:s.length≤maxLen) :
  Calls Tryz.prog 123 [ptr bd 0,S s].toArray w (Pure w (.tuple #[.slice none 0 0,I 7])):=by
 refine cw Tryz.func123 ?_
 have hx:=Ext.refl w
 refine ws λ_ Z1=>wr (da (da (de Z1 (ws λ_ Z2=>ws λ_ Z3=>wr (dm ?_)))))
 refine dp (Xa6 kr9 rfl rfl) (de Z3 (wi (λc1=>?_) λc1=>?_))
 ·exact absurd c1 sp9
 refine Xaa (Z2 _ _ (ws λ_ Z4=>wr (dm (dm ?_))))
 refine cP (read_w bd mf room s _ (hd.ext hx) (hm.ext hx) hs) RX.all λw1 x1=>?_
 replace hx:=hx.trans x1
 refine dm ?_
 refine dx rfl rfl (dx rfl rfl (da (da (de Z4 (ws λ_ Z5=>ws λ_ Z6=>wr (dm ?_))))))
 refine dp (Xav rfl rfl) (de Z6 (wi (λc2=>?_) λc2=>?_))
 ·refine ws λ_ Z7=>wr (dm (da (da (de Z7 (Xae ?_)))))
  refine rt ?_
  exact⟨rfl,hx⟩
 exact absurd c2 dc9
theorem imgName_w (bl bd:Nat)(w:World)(hl:Blk w bl [ptr bd 0,S [115],I 0,.slice none 0 0,.slice none 0 0,B false] 147) :
  Calls Tryz.prog 177 [ptr bl 0].toArray w (Pure w (S [115,45,105,109,103])):=by
 refine cw Tryz.func177 ?_
 have hx:=Ext.refl w
 refine ws λ_ Z1=>wr (da (de Z1 (ws λ_ Z2=>wr (dm ?_))))
 refine dz rfl (df 1 rfl (dl rfl ((hl.ext hx).at rfl) (dp (Xcc rfl rfl (by first|(simp;done)|(simp;omega)|omega)) (da (de Z2 (Xae ?_))))))
 refine ro ?_
 exact⟨rfl,hx⟩
theorem logName_w (bl bd:Nat)(w:World)(hl:Blk w bl [ptr bd 0,S [115],I 0,.slice none 0 0,.slice none 0 0,B false] 147) :
  Calls Tryz.prog 84 [ptr bl 0].toArray w (Pure w (S [115,45,108,111,103])):=by
 refine cw Tryz.func84 ?_
 have hx:=Ext.refl w
 refine ws λ_ Z1=>wr (da (de Z1 (ws λ_ Z2=>wr (dm ?_))))
 refine dz rfl (df 1 rfl (dl rfl ((hl.ext hx).at rfl) (dp (Xcc rfl rfl (by first|(simp;done)|(simp;omega)|omega)) (da (de Z2 (Xae ?_))))))
 refine ro ?_
 exact⟨rfl,hx⟩
theorem X0j (bl bd mf:Nat)(room:Int)(w:World)(hl:Blk w bl [ptr bd 0,S [115],I 0,.slice none 0 0,.slice none 0 0,B false] 147)(hd:Blk w bd [I room,.map (some mf),B false,I 0] 122)(hm:EmpM w mf) :
  Calls Tryz.prog 115 [ptr bl 0].toArray w (Pure w (I 0)):=by
 refine cw Tryz.func115 ?_
 have hx:=Ext.refl w
 refine ws λ_ Z1=>wr (da (de Z1 (ws λ_ Z2=>?_)))
 refine Xaq (R:=Ext) Ext.refl (λ_ _ _=>Ext.trans) kr9 [3] [(0,.p,false),(1,.p,false),(2,.p,false),(3,.l,false),(4,.p,false),(5,.x,false),(6,.p,false),(7,.x,false),(8,.x,true),(9,.p,false)] rfl kr9 kr9 (λw1 ew1=>?_)
 have x1:=drewx ew1
 clear ew1
 replace hx:=hx.trans x1
 refine dm ?_
 refine dz rfl (df 0 rfl (dL rfl (λ_ hR=>((hl.ext (hx.trans hR)).at rfl)) (dm ?_)))
 refine cP (imgName_w bl bd _ (hl.ext hx)) RX.ext λw2 x2=>?_
 replace hx:=hx.trans x2
 refine dp (Xcc rfl rfl (by first|(simp;done)|(simp;omega)|omega)) (li (e:=9) (sz:=1) (zs:=[S []]) (pv:=[(0,_)]) (cs:=[_]) RX.ext (λb1 w3 e1 x3 m1=>?_))
 have g1:=hx.ge e1
 replace hx:=hx.trans x3
 refine cP (removes_w bd mf room [[115,45,105,109,103]++[126]] _ _ (hd.ext hx) (hm.ext hx) (m1.arr (enc:=sEnc) (sz:=1) rfl ir9 rfl sp9) sp9) RX.all λw4 x4=>?_
 replace hx:=hx.trans x4
 refine da (de Z2 (Xae ?_))
 refine ro ?_
 exact⟨rfl,hx⟩
theorem X6g (bl bd mf:Nat)(room:Int)(w:World)(hl:Blk w bl [ptr bd 0,S [115],I 0,.slice none 0 0,.slice none 0 0,B false] 147)(hd:Blk w bd [I room,.map (some mf),B false,I 0] 122)(hm:EmpM w mf) :
  Calls Tryz.prog 116 [ptr bl 0].toArray w (Pure w (I 0)):=by
 refine cw Tryz.func116 ?_
 have hx:=Ext.refl w
 refine ws λ_ Z1=>wr (da (de Z1 (ws λ_ Z2=>?_)))
 refine Xaq (R:=Ext) Ext.refl (λ_ _ _=>Ext.trans) kr9 [3] [(0,.p,false),(1,.p,false),(2,.p,false),(3,.l,false),(4,.p,false),(5,.x,false),(6,.x,true),(7,.p,false),(8,.p,false),(9,.p,false),(10,.p,false),(11,.p,false)] rfl kr9 kr9 (λw1 ew1=>?_)
 have x1:=drewx ew1
 clear ew1
 replace hx:=hx.trans x1
 refine dm ?_
 refine dz rfl (df 0 rfl (dL rfl (λ_ hR=>((hl.ext (hx.trans hR)).at rfl)) (dm ?_)))
 refine cP (imgName_w bl bd _ (hl.ext hx)) RX.ext λw2 x2=>?_
 replace hx:=hx.trans x2
 refine cP (X89 bd mf room [115,45,105,109,103] _ (hd.ext hx) (hm.ext hx) dc9) RX.all λw3 x3=>?_
 replace hx:=hx.trans x3
 refine dm ?_
 refine dx rfl rfl (dx rfl rfl (da (da (de Z2 (ws λ_ Z3=>ws λ_ Z4=>wr (dm ?_))))))
 refine dp (Xa9 rfl rfl) (de Z4 (wi (λc1=>?_) λc1=>?_))
 ·refine ws λ_ Z5=>wr (da (de Z5 (Xae ?_)))
  refine ro ?_
  exact⟨rfl,hx⟩
 exact absurd rfl c1
theorem Yaf (bl bd mf:Nat)(room:Int)(w:World)(hl:Blk w bl [ptr bd 0,S [115],I 0,.slice none 0 0,.slice none 0 0,B false] 147)(hd:Blk w bd [I room,.map (some mf),B false,I 0] 122)(hm:EmpM w mf) :
  Calls Tryz.prog 117 [ptr bl 0].toArray w (Pure w (I 0)):=by
 refine cw Tryz.func117 ?_
 have hx:=Ext.refl w
 refine ws λ_ Z1=>wr (da (de Z1 (ws λ_ Z2=>ws λ_ Z3=>?_)))
 refine Xaq (R:=Ext) Ext.refl (λ_ _ _=>Ext.trans) kr9 [3] [(0,.p,false),(1,.p,false),(2,.p,false),(3,.l,false),(4,.p,false),(5,.x,false),(6,.x,true),(7,.p,false)] rfl kr9 kr9 (λw1 ew1=>?_)
 have x1:=drewx ew1
 clear ew1
 replace hx:=hx.trans x1
 refine dm ?_
 refine dz rfl (df 0 rfl (dL rfl (λ_ hR=>((hl.ext (hx.trans hR)).at rfl)) (dm ?_)))
 refine cP (logName_w bl bd _ (hl.ext hx)) RX.ext λw2 x2=>?_
 replace hx:=hx.trans x2
 refine cP (has_w bd mf room [115,45,108,111,103] _ (hd.ext hx) (hm.ext hx)) RX.all λw3 x3=>?_
 replace hx:=hx.trans x3
 refine dn (de Z3 ?_)
 refine W_t rfl (ws λ_ Z4=>wr (da (de Z4 (Xae ?_))))
 refine ro ?_
 exact⟨rfl,hx⟩
theorem X0k (w:World) :
  Calls Tryz.prog 87 [.slice none 0 0].toArray w (Pure w (.slice none 0 0)):=by
 refine cw Tryz.func87 ?_
 have hx:=Ext.refl w
 refine ws λ_ Z1=>wr (da (de Z1 (ws λ_ Z2=>ws λ_ Z3=>wr (dm ?_))))
 refine dp (Xkt (e:=5) (k:=1) kr9 (Arr.nil (enc:=encB) (sz:=1) (w:=w)).sl rfl rfl) (de Z3 (wc (λc1=>?_) λc1=>?_))
 ·refine ws λ_ Z4=>wr (da (de Z4 (Xae ?_)))
  refine ro ?_
  exact⟨rfl,hx⟩
 exact absurd c1 dc9
theorem X21 (bl bd:Nat)(w:World)(hl:Blk w bl [ptr bd 0,S [115],I 0,.slice none 0 0,.slice none 0 0,B false] 147) :
  Calls Tryz.prog 60 [ptr bl 0].toArray w (Pure w (.tuple #[I 0,.slice none 0 0])):=by
 refine cw Tryz.func60 ?_
 have hx:=Ext.refl w
 refine ws λ_ Z1=>wr (da (da (de Z1 (ws λ_ Z2=>ws λ_ Z3=>wr (dm ?_)))))
 refine dp (Xa6 kr9 rfl rfl) (de Z3 (wi (λc1=>?_) λc1=>?_))
 ·exact absurd c1 sp9
 refine Xaa (Z2 _ _ (ws λ_ Z4=>Xaq (R:=Ext) Ext.refl (λ_ _ _=>Ext.trans) kr9 [3,7] [(0,.p,false),(1,.p,false),(2,.p,false),(3,.l,false),(4,.p,false),(5,.p,false),(6,.p,false),(7,.l,false),(8,.x,false),(9,.p,false),(10,.p,false)] rfl kr9 kr9 (λw1 ew1=>?_)))
 have x1:=drewx ew1
 clear ew1
 replace hx:=hx.trans x1
 refine dm ?_
 refine dz rfl (df 2 rfl (dL rfl (λ_ hR=>((hl.ext (hx.trans hR)).at rfl)) (dm ?_)))
 refine dz rfl (df 3 rfl (dL rfl (λ_ hR=>((hl.ext (hx.trans hR)).at rfl)) (cP (X0k _) RX.ext λw2 x2=>?_)))
 replace hx:=hx.trans x2
 refine da (da (de Z4 (Xae ?_)))
 refine rt ?_
 exact⟨rfl,hx⟩
theorem last_w (bl bd:Nat)(w:World)(hl:Blk w bl [ptr bd 0,S [115],I 0,.slice none 0 0,.slice none 0 0,B false] 147) :
  Calls Tryz.prog 55 [ptr bl 0].toArray w (Pure w (I 0)):=by
 refine cw Tryz.func55 ?_
 have hx:=Ext.refl w
 refine ws λ_ Z1=>wr (da (de Z1 (ws λ_ Z2=>ws λ_ Z3=>wr (dm ?_))))
 refine dp (Xa6 kr9 rfl rfl) (de Z3 (wi (λc1=>?_) λc1=>?_))
 ·exact absurd c1 sp9
 refine Xaa (Z2 _ _ (ws λ_ Z4=>Xaq (R:=Ext) Ext.refl (λ_ _ _=>Ext.trans) kr9 [3,7] [(0,.p,false),(1,.p,false),(2,.p,false),(3,.l,false),(4,.p,false),(5,.p,false),(6,.p,false),(7,.l,false),(8,.p,false),(9,.p,false),(10,.p,false)] rfl kr9 kr9 (λw1 ew1=>?_)))
 have x1:=drewx ew1
 clear ew1
 replace hx:=hx.trans x1
 refine dm ?_
 refine dz rfl (df 2 rfl (dL rfl (λ_ hR=>((hl.ext (hx.trans hR)).at rfl)) (dm ?_)))
 refine dz rfl (df 4 rfl (dL rfl (λ_ hR=>((hl.ext (hx.trans hR)).at rfl)) (dv 82 1 (Arr.nil (enc:=sEnc) (sz:=3) (w:=w)).sl (dp (Xa8 rfl rfl (by simp [Xai])) (da (de Z4 (Xae ?_)))))))
 refine ro ?_
 exact⟨rfl,hx⟩
theorem diskNew_w (room:Int)(w:World)(h0:0≤room)(h1:room≤1073741824) :
  Calls Tryz.prog 33 [I room].toArray w (Gives w (λu w'=>∃bd mf,u=.tuple #[ptr bd 0,I 0]∧Blk w' bd [I room,.map (some mf),B false,I 0] 122∧EmpM w' mf∧w.heap.size≤bd∧w.heap.size≤mf)):=by
 refine cw Tryz.func33 ?_
 have hx:=Ext.refl w
 refine ws λ_ Z1=>wr (da (da (de Z1 (ws λ_ Z2=>ws λ_ Z3=>wr (dm ?_)))))
 refine dp (Xaf rfl rfl) (dm ?_)
 refine Xag 6 rfl (λc1=>?_) (λc1=>?_)
 ·omega
 refine dm ?_
 refine dp (Xa1 rfl rfl) (dk' (de Z3 ?_))
 refine wi (λc2=>?_) λc2=>?_
 ·omega
 refine Xaa (Z2 _ _ (ws λ_ Z4=>wr (dm ?_)))
 refine Xj1 rfl RX.all (λb1 w1 e1 x1 mp1=>?_)
 have g1:=hx.ge e1
 replace hx:=hx.trans x1
 refine db (zs:=[.int .i64 0,.map none,B false,.int .i64 0]) (pl:=[(0,1),(1,1),(2,1),(3,1)]) (pv:=[(0,_),(1,_)]) (cs:=[_,_,B false,.int .i64 0]) ?_
 refine Xbf rfl rfl rfl RX.all (λb2 w2 e2 x2 m2=>?_)
 have g2:=hx.ge e2
 have n2_mp1:=mp1.lt
 replace mp1:=mp1.ext x2
 replace hx:=hx.trans x2
 refine da (da (de Z4 (Xae ?_)))
 refine rt ?_
 exact⟨_,rfl,hx,b2,b1,rfl,m2,mp1,g2,g1⟩
theorem Xny (bd mf:Nat)(room:Int)(w:World)(hd:Blk w bd [I room,.map (some mf),B false,I 0] 122)(hm:EmpM w mf) :
  Calls Tryz.prog 59 [ptr bd 0,S [115]].toArray w (Gives w (λu w'=>∃bl,u=.tuple #[ptr bl 0,I 0]∧Blk w' bl [ptr bd 0,S [115],I 0,.slice none 0 0,.slice none 0 0,B false] 147∧w.heap.size≤bl)):=by
 refine cw Tryz.func59 ?_
 have hx:=Ext.refl w
 refine ws λ_ Z1=>wr (da (da (de Z1 (ws λ_ Z2=>ws λ_ Z3=>wr (dm ?_)))))
 refine dp (Xa6 kr9 rfl rfl) (dm ?_)
 refine Xag 12 rfl (λc1=>?_) (λc1=>?_)
 ·exact absurd c1 sp9
 refine dm ?_
 refine dt rfl (dp (Xaf rfl rfl) (dk' ?_))
 refine dm ?_
 refine Xag 17 rfl (λc2=>?_) (λc2=>?_)
 ·exact absurd c2 dc9
 refine dm ?_
 refine dt rfl (dp (Xa1 rfl rfl) (dk' (de Z3 ?_)))
 refine wi (λc3=>?_) λc3=>?_
 ·exact absurd c3 dc9
 refine Xaa (Z2 _ _ (ws λ_ Z4=>wr (dm (dm ?_))))
 refine db (zs:=[.pointer none,S [],.int .i64 0,.slice none 0 0,.slice none 0 0,B false]) (pl:=[(0,1),(1,1),(2,1),(3,1),(4,1),(5,1)]) (pv:=[(0,_),(1,_)]) (cs:=[_,_,.int .i64 0,.slice none 0 0,.slice none 0 0,B false]) ?_
 refine Xbf rfl rfl rfl RX.all (λb1 w1 e1 x1 m1=>?_)
 have g1:=hx.ge e1
 replace hx:=hx.trans x1
 refine da (de Z4 (ws λ_ Z5=>ws λ_ Z6=>wr (dm ?_)))
 refine dp (Xe4 rfl) (dm ?_)
 refine dp (Xe4 rfl) (dm ?_)
 refine dp (Xe4 rfl) (li (e:=81) (sz:=1) (zs:=[.nilFunc]) (pv:=[(0,_),(1,_),(2,_)]) (cs:=[_,_,_]) RX.all (λb2 w2 e2 x2 m2=>?_))
 have g2:=hx.ge e2
 have n2_1:=m1.ltb e2
 replace m1:=m1.ext x2
 replace hx:=hx.trans x2
 refine dv 81 1 (m2.arr (enc:=λg:Value=>[g]) (sz:=1) (l:=[fnB 115 [ptr b1 0],fnB 116 [ptr b1 0],fnB 117 [ptr b1 0]]) rfl ir9 rfl sp9).sl (dm (de Z6 (Xab ?_)))
 refine Xaj (G:=Nat) (λk=>[(6,ptr b1 0),(32,.slice (some ⟨b2,0,none⟩) 3 3),(33,I 3),(34,I ↑k)]) (λk w'=>Ext w w'∧Blk w' b1 [ptr bd 0,S [115],I 0,.slice none 0 0,.slice none 0 0,B false] 147∧Blk w' b2 [fnB 115 [ptr b1 0],fnB 116 [ptr b1 0],fnB 117 [ptr b1 0]] 81∧k≤3) (λk=>3-k) 0 ?_ ?_ ?_
 ·exact zz4
 ·exact⟨hx,m1,m2,Nat.zero_le _⟩
 intro X3 g3 w3 hF3
 revert hF3;revert g3;intro k hF3
 clear hx m1 m2
 obtain⟨hx,m1,m2,hk1⟩:=hF3
 refine ws λ_ Z7=>wr (dp (Xaf rfl rfl) (de Z7 (ws λ_ Z8=>wi (λc4=>?_) λc4=>?_)))
 ·obtain⟨g,hk⟩:∃g,[fnB 115 [ptr b1 0],fnB 116 [ptr b1 0],fnB 117 [ptr b1 0]][k]?=some g:=⟨_,List.getElem?_eq_getElem (by simp;omega)⟩
  obtain⟨f,rfl,hcb,hcall⟩:∃f,g=fnB f [ptr b1 0]∧Xbt Tryz.prog f=true∧∀w1,Blk w1 b1 [ptr bd 0,S [115],I 0,.slice none 0 0,.slice none 0 0,B false] 147->Blk w1 bd [I room,.map (some mf),B false,I 0] 122->EmpM w1 mf->Calls Tryz.prog f ([ptr b1 0]++[]).toArray w1 (Pure w1 (I 0)):=by
   match k,hk with
   | 0,hk=>simp only [List.getElem?_cons_zero,List.getElem?_cons_succ,Option.some.injEq]at hk;exact⟨_,hk.symm,by kernel_rfl,λw1 h1 h2 h3=>X0j b1 bd mf room w1 h1 h2 h3⟩
   | 1,hk=>simp only [List.getElem?_cons_zero,List.getElem?_cons_succ,Option.some.injEq]at hk;exact⟨_,hk.symm,by kernel_rfl,λw1 h1 h2 h3=>X6g b1 bd mf room w1 h1 h2 h3⟩
   | 2,hk=>simp only [List.getElem?_cons_zero,List.getElem?_cons_succ,Option.some.injEq]at hk;exact⟨_,hk.symm,by kernel_rfl,λw1 h1 h2 h3=>Yaf b1 bd mf room w1 h1 h2 h3⟩
   | k+3,hk=>simp at hk
  refine Xaa (Z8 _ _ (ws λ_ Z9=>Xab (ws λ_ Z10=>wr (di 81 1 (m2.arr (enc:=λg:Value=>[g]) (sz:=1) (l:=[fnB 115 [ptr b1 0],fnB 116 [ptr b1 0],fnB 117 [ptr b1 0]]) rfl ir9 rfl sp9).sl rfl ((m2.arr (enc:=λg:Value=>[g]) (sz:=1) (l:=[fnB 115 [ptr b1 0],fnB 116 [ptr b1 0],fnB 117 [ptr b1 0]]) rfl ir9 rfl sp9).lt hk) (dl rfl (((m2.arr (enc:=λg:Value=>[g]) (sz:=1) (l:=[fnB 115 [ptr b1 0],fnB 116 [ptr b1 0],fnB 117 [ptr b1 0]]) rfl ir9 rfl sp9).row hk).at0 rfl) (da (de Z10 ?_)))))))
  refine ws λ_ Z11=>wr (dm ?_)
  refine Xym (vs:=[]) rfl rfl hcb (hcall _ m1 (hd.ext hx) (hm.ext hx)) rfl RX.all (λw4 x4=>?_)
  replace m1:=m1.ext x4
  replace m2:=m2.ext x4
  replace hx:=hx.trans x4
  refine da (de Z11 (ws λ_ Z12=>wr (dm ?_)))
  refine dp (Xav rfl rfl) (de Z12 (wi (λc5=>?_) λc5=>?_))
  ·exact absurd rfl c5
  refine Xaa (Z9 _ _ (wr (pa rfl rfl (dm (Xad (?_))))))
  refine⟨k+1,zz4,⟨hx,m1,m2,by omega⟩,by omega⟩
 refine Xah (Z5 _ _ (ws λ_ Z13=>wr (dm (da (da (de Z13 (Xae ?_)))))))
 refine rt ?_
 exact⟨_,rfl,hx,b1,rfl,m1,g1⟩
structure MemE (w:World)(bm ba bn:Nat):Prop where
 m:Blk w bm [.slice (some ⟨ba,0,none⟩) 1 1,.slice none 0 0,I 0,I 0] 155
 a:Blk w ba [S [],S [],B false,I 0,.slice (some ⟨bn,0,none⟩) 12 12] 172
 n:Blk w bn (List.replicate 12 (I 0)) 3
theorem MemE.ext {w w':World}{bm ba bn:Nat}(h:MemE w bm ba bn)(x:Ext w w'):MemE w' bm ba bn:=⟨h.m.ext x,h.a.ext x,h.n.ext x⟩
structure StE (w:World)(bs bd bl mo bm ba bn mf:Nat)(room:Int):Prop where
 s:Blk w bs [ptr bd 0,ptr bl 0,I 1,.slice none 0 0,.map (some mo),ptr bm 0,B false] 90
 l:Blk w bl [ptr bd 0,S [115],I 0,.slice none 0 0,.slice none 0 0,B false] 147
 d:Blk w bd [I room,.map (some mf),B false,I 0] 122
 f:EmpM w mf
 o:EmpM w mo
 m:MemE w bm ba bn
theorem Xjk (w:World) :
  Calls Tryz.prog 102 [.slice none 0 0].toArray w (Pure w (.slice none 0 0)):=by
 refine cw Tryz.func102 ?_
 have hx:=Ext.refl w
 refine ws λ_ Z1=>wr (da (de Z1 (ws λ_ Z2=>ws λ_ Z3=>wr (dm ?_))))
 refine dp (Xkt (e:=174) (k:=1) kr9 (Arr.nil (enc:=encB) (sz:=1) (w:=w)).sl rfl rfl) (de Z3 (wc (λc1=>?_) λc1=>?_))
 ·refine ws λ_ Z4=>wr (da (de Z4 (Xae ?_)))
  refine ro ?_
  exact⟨rfl,hx⟩
 exact absurd c1 dc9
theorem X0l (w:World) :
  Calls Tryz.prog 47 [.slice none 0 0].toArray w (Gives w (λu w'=>∃bm ba bn,u=ptr bm 0∧MemE w' bm ba bn∧w.heap.size≤bm∧w.heap.size≤ba∧w.heap.size≤bn)):=by
 refine cw Tryz.func47 ?_
 have hx:=Ext.refl w
 refine ws λ_ Z1=>wr (da (de Z1 (ws λ_ Z2=>?_)))
 refine Xey (R:=Ext) Ext.refl (λ_ _ _=>Ext.trans) kr9 [] (.one 3 .p false (.fork (.alt 0 true (.one 1 .p false (.fork (.alt 2 true (.one 4 .x true (.one 5 .p false (.one 6 .x true (.one 7 .p false .nil)))) (.alt 4 true (.one 2 .x true (.one 5 .p false (.one 6 .x true (.one 7 .p false .nil)))) .stop)))) (.alt 4 true (.one 0 .x true (.one 1 .p false (.one 2 .x true (.one 5 .p false (.one 6 .x true (.one 7 .p false .nil)))))) .stop)))) kr9 kr9 (λw1 ew1=>?_)
 have x1:=drewx ew1
 clear ew1
 replace hx:=hx.trans x1
 refine Xak (dm (Xad ?_))
 refine Xem ?_
 refine Xdc ?_ ?_
 ·refine Xhp (e:=3) (sz:=1) (by':=8) (zs:=[.int .i64 0]) rfl kr9 kr9 kr9 rfl rfl dc9 dc9 RX.all (λb1 w2 e1 x2 m1=>?_)
  have g1:=hx.ge e1
  replace hx:=hx.trans x2
  refine Xad (Xak (db (zs:=[S [],S [],B false,.int .i64 0,.slice none 0 0]) (pl:=[(0,4),(4,1)]) (pv:=[(1,_)]) (cs:=[S [],S [],B false,.int .i64 0,_]) (Xad ?_)))
  refine Xem ?_
  refine Xdc ?_ ?_
  ·refine li (e:=172) (sz:=5) (zs:=[S [],S [],B false,.int .i64 0,.slice none 0 0]) (pv:=[(0,.agg ⟨[_,_,_,_,_]⟩)]) (cs:=[_,_,_,_,_]) RX.all (λb2 w3 e2 x3 m2=>?_)
   have g2:=hx.ge e2
   have n2_1:=m1.ltb e2
   replace m1:=m1.ext x3
   replace hx:=hx.trans x3
   refine Xad (Xak (cP (Xjk _) RX.all λw4 x4=>?_))
   replace m1:=m1.ext x4
   replace m2:=m2.ext x4
   replace hx:=hx.trans x4
   refine Xad (Xak (db (zs:=[.slice none 0 0,.slice none 0 0,.int .i64 0,.int .i64 0]) (pl:=[(0,1),(1,1),(2,1),(3,1)]) (pv:=[(0,_),(1,_)]) (cs:=[_,_,.int .i64 0,.int .i64 0]) (Xad ?_)))
   refine Xak (Xbf rfl rfl rfl RX.all (λb3 w5 e3 x5 m3=>?_))
   have g3:=hx.ge e3
   have n3_1:=m1.ltb e3
   have n3_2:=m2.ltb e3
   replace m1:=m1.ext x5
   replace m2:=m2.ext x5
   replace hx:=hx.trans x5
   refine Xad (Xak (da (Xad ?_)))
   refine Xd3 (Z2 _ _ (Xae (ro ?_)))
   exact⟨_,rfl,hx,b3,b2,b1,rfl,⟨m3,m2,m1⟩,g3,g2,g1⟩
  refine Xdc ?_ ?_
  ·refine cP (Xjk _) RX.all λw6 x6=>?_
   replace m1:=m1.ext x6
   replace hx:=hx.trans x6
   refine Xad (Xak (li (e:=172) (sz:=5) (zs:=[S [],S [],B false,.int .i64 0,.slice none 0 0]) (pv:=[(0,.agg ⟨[_,_,_,_,_]⟩)]) (cs:=[_,_,_,_,_]) RX.all (λb4 w7 e4 x7 m4=>?_)))
   have g4:=hx.ge e4
   have n4_1:=m1.ltb e4
   replace m1:=m1.ext x7
   replace hx:=hx.trans x7
   refine Xad (Xak (db (zs:=[.slice none 0 0,.slice none 0 0,.int .i64 0,.int .i64 0]) (pl:=[(0,1),(1,1),(2,1),(3,1)]) (pv:=[(0,_),(1,_)]) (cs:=[_,_,.int .i64 0,.int .i64 0]) (Xad ?_)))
   refine Xak (Xbf rfl rfl rfl RX.all (λb5 w8 e5 x8 m5=>?_))
   have g5:=hx.ge e5
   have n5_1:=m1.ltb e5
   have n5_4:=m4.ltb e5
   replace m1:=m1.ext x8
   replace m4:=m4.ext x8
   replace hx:=hx.trans x8
   refine Xad (Xak (da (Xad ?_)))
   refine Xd3 (Z2 _ _ (Xae (ro ?_)))
   exact⟨_,rfl,hx,b5,b4,b1,rfl,⟨m5,m4,m1⟩,g5,g4,g1⟩
  exact Xen
 refine Xdc ?_ ?_
 ·refine cP (Xjk _) RX.all λw9 x9=>?_
  replace hx:=hx.trans x9
  refine Xad (Xak (Xhp (e:=3) (sz:=1) (by':=8) (zs:=[.int .i64 0]) rfl kr9 kr9 kr9 rfl rfl dc9 dc9 RX.all (λb6 w10 e6 x10 m6=>?_)))
  have g6:=hx.ge e6
  replace hx:=hx.trans x10
  refine Xad (Xak (db (zs:=[S [],S [],B false,.int .i64 0,.slice none 0 0]) (pl:=[(0,4),(4,1)]) (pv:=[(1,_)]) (cs:=[S [],S [],B false,.int .i64 0,_]) (Xad ?_)))
  refine Xak (li (e:=172) (sz:=5) (zs:=[S [],S [],B false,.int .i64 0,.slice none 0 0]) (pv:=[(0,.agg ⟨[_,_,_,_,_]⟩)]) (cs:=[_,_,_,_,_]) RX.all (λb7 w11 e7 x11 m7=>?_))
  have g7:=hx.ge e7
  have n7_6:=m6.ltb e7
  replace m6:=m6.ext x11
  replace hx:=hx.trans x11
  refine Xad (Xak (db (zs:=[.slice none 0 0,.slice none 0 0,.int .i64 0,.int .i64 0]) (pl:=[(0,1),(1,1),(2,1),(3,1)]) (pv:=[(0,_),(1,_)]) (cs:=[_,_,.int .i64 0,.int .i64 0]) (Xad ?_)))
  refine Xak (Xbf rfl rfl rfl RX.all (λb8 w12 e8 x12 m8=>?_))
  have g8:=hx.ge e8
  have n8_6:=m6.ltb e8
  have n8_7:=m7.ltb e8
  replace m6:=m6.ext x12
  replace m7:=m7.ext x12
  replace hx:=hx.trans x12
  refine Xad (Xak (da (Xad ?_)))
  refine Xd3 (Z2 _ _ (Xae (ro ?_)))
  exact⟨_,rfl,hx,b8,b7,b6,rfl,⟨m8,m7,m6⟩,g8,g7,g6⟩
 exact Xen
theorem Xxq (bs bd bl mo bm:Nat)(w:World)(hb:Blk w bs [ptr bd 0,ptr bl 0,I 1,.slice none 0 0,.map (some mo),ptr bm 0,B false] 90)(hl:Blk w bl [ptr bd 0,S [115],I 0,.slice none 0 0,.slice none 0 0,B false] 147) :
  Calls Tryz.prog 63 [ptr bs 0].toArray w (Pure w (I 0)):=by
 refine cw Tryz.func63 ?_
 have hx:=Ext.refl w
 refine ws λ_ Z1=>wr (da (de Z1 (ws λ_ Z2=>wr (dm ?_))))
 refine dz rfl (df 1 rfl (dl rfl ((hb.ext hx).at rfl) (cP (X21 bl bd _ (hl.ext hx)) RX.all λw1 x1=>?_)))
 replace hx:=hx.trans x1
 refine dm ?_
 refine dx rfl rfl (dx rfl rfl (da (da (de Z2 (ws λ_ Z3=>ws λ_ Z4=>wr (dm ?_))))))
 refine pa rfl rfl (da (de Z4 (Xab ?_)))
 refine Xaj (G:=Unit) (λuu=>[(0,ptr bs 0),(5,I 1)]) (λuu w'=>Ext w w'∧True) (λuu=>0) () ?_ ?_ ?_
 ·exact zz2
 ·exact⟨hx,trivial⟩
 intro X2 g2 w2 hF2
 revert hF2;revert g2;intro uu hF2
 clear hx
 obtain⟨hx,htr⟩:=hF2
 refine ws λ_ Z5=>ws λ_ Z6=>wr (dm (dm ?_))
 refine dz rfl (df 1 rfl (dl rfl ((hb.ext hx).at rfl) (cP (last_w bl bd _ (hl.ext hx)) RX.all λw3 x3=>?_)))
 replace hx:=hx.trans x3
 refine dp (Xdi rfl rfl) (de Z6 (wi (λc1=>?_) λc1=>?_))
 ·exact absurd c1 dc9
 refine Xah (Z3 _ _ (ws λ_ Z7=>wr (da (de Z7 (Xae ?_)))))
 refine ro ?_
 exact⟨rfl,hx⟩
theorem X6h (bd mf:Nat)(room:Int)(s:Str)(w:World)(hd:Blk w bd [I room,.map (some mf),B false,I 0] 122)(hm:EmpM w mf) :
  Calls Tryz.prog 64 [ptr bd 0,S s,.slice none 0 0].toArray w (Pure w (I 0)):=by
 refine cw Tryz.func64 ?_
 have hx:=Ext.refl w
 refine ws λ_ Z1=>wr (da (de Z1 (ws λ_ Z2=>ws λ_ Z3=>wr (dm ?_))))
 refine dp (Xa6 kr9 rfl rfl) (de Z3 (wi (λc1=>?_) λc1=>?_))
 ·exact absurd c1 sp9
 refine Xaa (Z2 _ _ (ws λ_ Z4=>ws λ_ Z5=>wr (dm ?_)))
 refine cP (list_w bd mf room _ (hd.ext hx) (hm.ext hx)) RX.all λw1 x1=>?_
 replace hx:=hx.trans x1
 refine dv 9 1 (Arr.nil (enc:=sEnc) (sz:=1) (w:=w)).sl (dm (de Z5 (Xab ?_)))
 refine Xaj (G:=Unit) (λuu=>[(0,ptr bd 0),(1,S s),(2,.slice none 0 0),(13,.slice none 0 0),(14,I 0),(15,I 0)]) (λuu w'=>Ext w w'∧True) (λuu=>0) () ?_ ?_ ?_
 ·exact zz6
 ·exact⟨hx,trivial⟩
 intro X2 g2 w2 hF2
 revert hF2;revert g2;intro uu hF2
 clear hx
 obtain⟨hx,htr⟩:=hF2
 refine ws λ_ Z6=>wr (dp (Xaf rfl rfl) (de Z6 (ws λ_ Z7=>wi (λc2=>?_) λc2=>?_)))
 ·exact absurd c2 dc9
 refine Xah (Z4 _ _ (ws λ_ Z8=>wr (da (de Z8 (Xae ?_)))))
 refine ro ?_
 exact⟨rfl,hx⟩
theorem lsmOpen_w (bd mf:Nat)(room:Int)(w:World)(hd:Blk w bd [I room,.map (some mf),B false,I 0] 122)(hm:EmpM w mf) :
  Calls Tryz.prog 24 [ptr bd 0].toArray w (Gives w (λu w'=>∃bs bl mo bm ba bn,u=.tuple #[ptr bs 0,I 0]∧StE w' bs bd bl mo bm ba bn mf room∧w.heap.size≤bs∧w.heap.size≤bl∧w.heap.size≤mo∧w.heap.size≤bm∧w.heap.size≤ba∧w.heap.size≤bn)):=by
 refine cw Tryz.func24 ?_
 have hx:=Ext.refl w
 refine ws λ_ Z1=>wr (da (da (de Z1 (ws λ_ Z2=>ws λ_ Z3=>wr (dm ?_)))))
 refine dp (Xa6 kr9 rfl rfl) (de Z3 (wi (λc1=>?_) λc1=>?_))
 ·exact absurd c1 sp9
 refine Xaa (Z2 _ _ (ws λ_ Z4=>wr (dm ?_)))
 have hsl9:=hx.size
 refine cG (Xny bd mf room _ (hd.ext hx) (hm.ext hx)) RX.all λu1 w1 x1 hf1=>?_
 have hsz1:=hx.size
 replace hx:=hx.trans x1
 obtain⟨bl,rfl,hl,hlb⟩:=hf1
 refine dm ?_
 refine dx rfl rfl (dx rfl rfl (da (da (de Z4 (ws λ_ Z5=>ws λ_ Z6=>wr (dm ?_))))))
 refine dp (Xav rfl rfl) (de Z6 (wi (λc2=>?_) λc2=>?_))
 ·exact absurd rfl c2
 refine Xaa (Z5 _ _ (ws λ_ Z7=>wr (dm (dm ?_))))
 refine db (zs:=[.int .i64 0,.slice none 0 0]) (pl:=[(0,1),(1,1)]) (pv:=[(0,_)]) (cs:=[_,.slice none 0 0]) ?_
 refine Xj1 rfl RX.all (λb1 w2 e1 x2 mp1=>?_)
 have g1:=hx.ge e1
 have a1_hl:=hl.lt
 replace hl:=hl.ext x2
 replace hx:=hx.trans x2
 have hsm9:=hx.size
 refine cG (X0l _) RX.all λu3 w3 x3 hf3=>?_
 have hsz3:=hx.size
 replace hl:=hl.ext x3
 replace mp1:=mp1.ext x3
 replace hx:=hx.trans x3
 obtain⟨bm,ba,bn,rfl,hM,hb1,hb2,hb3⟩:=hf3
 refine db (zs:=[.pointer none,.pointer none,.int .i64 0,.slice none 0 0,.map none,.pointer none,B false]) (pl:=[(0,1),(1,1),(2,2),(4,1),(5,1),(6,1)]) (pv:=[(0,_),(1,_),(2,.agg ⟨[_,_]⟩),(3,_),(4,_)]) (cs:=[_,_,_,_,_,_,B false]) ?_
 refine Xbf rfl rfl rfl RX.all (λb2 w4 e2 x4 m2=>?_)
 have g2:=hx.ge e2
 have n2_mp1:=mp1.lt
 have a2_hl:=hl.lt
 replace hl:=hl.ext x4
 replace mp1:=mp1.ext x4
 replace hM:=hM.ext x4
 replace hx:=hx.trans x4
 refine da (de Z7 (ws λ_ Z8=>ws λ_ Z9=>wr (dm ?_)))
 refine cP (X21 bl bd _ hl) RX.all λw5 x5=>?_
 replace hl:=hl.ext x5
 replace mp1:=mp1.ext x5
 replace hM:=hM.ext x5
 replace m2:=m2.ext x5
 replace hx:=hx.trans x5
 refine dm ?_
 refine dx rfl rfl (dx rfl rfl (da (da (de Z9 (ws λ_ Z10=>wr (dm ?_))))))
 refine dp (Xa1 rfl rfl) (dm ?_)
 refine Xag 39 rfl (λc3=>?_) (λc3=>?_)
 ·exact absurd c3 dc9
 refine dm ?_
 refine dv 5 1 (Arr.nil (enc:=encB) (sz:=1) (w:=w)).sl (dp (Xa1 rfl rfl) (dk' (de Z10 ?_)))
 refine wi (λc4=>?_) λc4=>?_
 ·exact absurd c4 dc9
 refine Xaa (Z8 _ _ (ws λ_ Z11=>wr (da (de Z11 (ws λ_ Z12=>ws λ_ Z13=>wr (dm ?_))))))
 refine dz rfl (df 2 rfl (df 1 rfl (dl rfl (m2.at rfl) (dv 62 5 (Arr.nil (enc:=λv:Value=>[v]) (sz:=5) (w:=w)).sl (dm (de Z13 (Xab ?_)))))))
 refine Xaj (G:=Unit) (λuu=>[(0,ptr bd 0),(6,ptr b2 0),(9,.slice none 0 0),(59,.slice none 0 0),(60,I 0),(61,I 0)]) (λuu w'=>Ext w w'∧Blk w' bl [ptr bd 0,S [115],I 0,.slice none 0 0,.slice none 0 0,B false] 147∧EmpM w' b1∧MemE w' bm ba bn∧Blk w' b2 [ptr bd 0,ptr bl 0,I 1,.slice none 0 0,.map (some b1),ptr bm 0,B false] 90∧True) (λuu=>0) () ?_ ?_ ?_
 ·exact zz6
 ·exact⟨hx,hl,mp1,hM,m2,trivial⟩
 intro X6 g6 w6 hF6
 revert hF6;revert g6;intro uu hF6
 clear hx hl mp1 hM m2
 obtain⟨hx,hl,mp1,hM,m2,htr⟩:=hF6
 refine ws λ_ Z14=>wr (dp (Xaf rfl rfl) (de Z14 (ws λ_ Z15=>wi (λc5=>?_) λc5=>?_)))
 ·exact absurd c5 dc9
 refine Xah (Z12 _ _ (ws λ_ Z16=>ws λ_ Z17=>wr (dm ?_)))
 refine cP (Xxq b2 bd bl b1 bm _ m2 hl) RX.all λw7 x7=>?_
 replace hl:=hl.ext x7
 replace mp1:=mp1.ext x7
 replace hM:=hM.ext x7
 replace m2:=m2.ext x7
 replace hx:=hx.trans x7
 refine da (de Z17 (ws λ_ Z18=>wr (dm ?_)))
 refine dp (Xav rfl rfl) (de Z18 (wi (λc6=>?_) λc6=>?_))
 ·exact absurd rfl c6
 refine Xaa (Z16 _ _ (ws λ_ Z19=>ws λ_ Z20=>wr (dm (dm ?_))))
 refine cP (X6h bd mf room [116] _ (hd.ext hx) (hm.ext hx)) RX.all λw8 x8=>?_
 replace hl:=hl.ext x8
 replace mp1:=mp1.ext x8
 replace hM:=hM.ext x8
 replace m2:=m2.ext x8
 replace hx:=hx.trans x8
 refine da (de Z20 (ws λ_ Z21=>wr (dm ?_)))
 refine dp (Xav rfl rfl) (de Z21 (wi (λc7=>?_) λc7=>?_))
 ·exact absurd rfl c7
 refine Xaa (Z19 _ _ (ws λ_ Z22=>wr (dm (da (da (de Z22 (Xae ?_)))))))
 refine rt ?_
 exact⟨_,rfl,hx,b2,bl,b1,bm,ba,bn,rfl,⟨m2,hl,hd.ext hx,hm.ext hx,mp1,hM⟩,g2,Nat.le_trans hsl9 hlb,g1,Nat.le_trans hsm9 hb1,Nat.le_trans hsm9 hb2,Nat.le_trans hsm9 hb3⟩
end Go.Proofs.YtiooodckiddpmaaGreatDoor.Em
namespace Go.Proofs.YtiooodckiddpmaaGreatDoor
open Go.Vc Go.Sp
attribute [local irreducible] W XW Dw DwT
theorem Xrr {P:Program}{κ α:Type}[DecidableEq κ]{k:TypeId}{kv:κ->Value}{av:α->Value}{w:World}{b:Nat}(h:EmpM w b):MapL P k kv av w b ([]:List (κ×α)):=
 ⟨by simp,.map [],⟨#[],0,h,⟨by simp,MapKept.stamped_empty 0,by simp⟩,Nat.le_refl _,rfl⟩,rfl,λx l hl z=>rfl⟩
theorem X9a {w:World}{bm ba bn:Nat}(h:Em.MemE w bm ba bn):MRep (λk=>k=bm∨k=ba∨k=bn) w bm []:=by
 have m3:Blk w bn (mapJ (List.replicate 12 0)) 3:=by
  have:=h.n
  rwa [show List.replicate 12 (I 0)=mapJ (List.replicate 12 0) from rfl]at this
 have hM:MemAt w bm (.slice (some ⟨ba,0,none⟩) 1 1) (.slice none 0 0) [⟨Cell.zero,bn,12⟩] (λ_=>List.replicate 12 0) [] 0 0:=by
  refine⟨h.m,h.a.own (enc:=Tow.enc) (l:=[⟨Cell.zero,bn,12⟩]) (Nat.zero_le _) rfl ir9 rfl sp9,Vc.Own.nil,λi t ht=>?_,λi j s t hs ht _=>?_⟩
  ·cases i with
   | zero=>simp at ht;subst ht;exact⟨m3,by simp⟩
   | succ i=>simp at ht
  ·cases i with
   | zero=>cases j with
    | zero=>rfl
    | succ j=>simp at ht
   | succ i=>simp at hs
 refine⟨_,_,_,_,_,[],hM,⟨rfl,λi hi=>(by cases hi),List.nodup_nil,rfl,rfl,λi hi=>?_,⟨λrow hr=>?_,trivial⟩⟩,List.Pairwise.nil,λk hk=>?_,λk hk=>?_⟩
 ·have:i=0:=by simp at hi;exact hi
  subst this;exact⟨(show 1≤12 by decide),(show 12≤12 by decide)⟩
 ·have hr':row<12:=hr
  rw[List.getElem?_replicate_of_lt hr'];rfl
 ·rcases hk with rfl|hk|hk|⟨t,ht,rfl⟩
  ·exact .inl rfl
  ·have:ba=k:=Option.some.inj hk
   exact .inr (.inl this.symm)
  ·cases hk
  ·rw[List.mem_singleton.1 ht];exact .inr (.inr rfl)
 ·rcases hk with rfl|rfl|rfl
  ·exact h.m.lt
  ·exact h.a.lt
  ·exact h.n.lt
def dsk0 (room:Int):Dsk:=⟨room,false,0,[]⟩
def led0 : Led:=⟨0,[],[],false⟩
def kap0 (bs bd bl mo bm ba bn mf:Nat):Nat->Nat:=λk=>if k=bs then 5 else if k=mo then 2 else if k=bm∨k=ba∨k=bn then 3 else if k=bl∨k=bd∨k=mf then 1 else 0
theorem Xd9 {w:World}{b b':Nat}{cs:List Value}{T:TypeId}(h:EmpM w b)(hb:Blk w b' cs T):b'≠b:=λe=>by
 subst e
 have h1:w.heap[b']?=some (.cells ⟨cs⟩ T (0,0)):=hb
 rw[h]at h1;cases h1
theorem X9b {w:World}{bs bd bl mo bm ba bn mf:Nat}{room:Int}(h:Em.StE w bs bd bl mo bm ba bn mf room)(hne:mo≠mf)(hw:(dsk0 room).Wf):StE (kap0 bs bd bl mo bm ba bn mf) bs bd bl mo bm (.slice none 0 0) led0 (dsk0 room) ⟨1,[]⟩ [] [] false w:=by
 have n1:=h.s.ne h.l rfl
 have n2:=h.s.ne h.d rfl
 have n3:=h.s.ne h.m.m rfl
 have n4:=h.s.ne h.m.a rfl
 have n5:=h.s.ne h.m.n rfl
 have n6:=Xd9 h.o h.s
 have n7:=Xd9 h.f h.s
 have p1:=Xd9 h.o h.l
 have p2:=Xd9 h.o h.d
 have p3:=Xd9 h.o h.m.m
 have p4:=Xd9 h.o h.m.a
 have p5:=Xd9 h.o h.m.n
 have q1:=h.m.m.ne h.l rfl
 have q2:=h.m.m.ne h.d rfl
 have q3:=Xd9 h.f h.m.m
 have q4:=h.m.a.ne h.l rfl
 have q5:=h.m.a.ne h.d rfl
 have q6:=Xd9 h.f h.m.a
 have q7:=h.m.n.ne h.l rfl
 have q8:=h.m.n.ne h.d rfl
 have q9:=Xd9 h.f h.m.n
 have r1:=Xd9 h.f h.l
 have r2:=h.l.ne h.d rfl
 have kl:kap0 bs bd bl mo bm ba bn mf bl=1:=by unfold kap0;simp [Ne.symm n1,p1,Ne.symm q1,Ne.symm q4,Ne.symm q7]
 have kd:kap0 bs bd bl mo bm ba bn mf bd=1:=by unfold kap0;simp [Ne.symm n2,p2,Ne.symm q2,Ne.symm q5,Ne.symm q8]
 have kf:kap0 bs bd bl mo bm ba bn mf mf=1:=by unfold kap0;simp [Ne.symm n7,Ne.symm hne,Ne.symm q3,Ne.symm q6,Ne.symm q9]
 have hlt:∀k,kap0 bs bd bl mo bm ba bn mf k≠0->k<w.heap.size:=λk hk=>by
  unfold kap0 at hk
  split at hk
  ·rename_i e;rw[e];exact h.s.lt
  ·split at hk
   ·rename_i e;rw[e];exact h.o.lt
   ·split at hk
    ·rename_i e
     rcases e with rfl|rfl|rfl
     ·exact h.m.m.lt
     ·exact h.m.a.lt
     ·exact h.m.n.lt
    ·split at hk
     ·rename_i e
      rcases e with rfl|rfl|rfl
      ·exact h.l.lt
      ·exact h.d.lt
      ·exact h.f.lt
     ·exact absurd rfl hk
 refine⟨h.s,⟨λk=>k=bd∨k=mf,λk=>k=bl,.slice none 0 0,.slice none 0 0,[],⟨mf,[],⟨h.d,Xrr h.f,rfl,λe he=>(by cases he),List.Pairwise.nil,λk hk=>?_,λk hk=>?_,hw⟩⟩,⟨h.l,Vc.Own.nil.arr (enc:=encB) (sz:=1) (T:=0) (B:=0) ir9,Vc.Own.nil,rfl,λq hq=>(by cases hq),λk hk=>?_,λk hk=>?_,λk hk=>?_,Int.le_refl _,by decide,by decide,λp hp=>(by cases hp),by decide⟩,λk hk e=>?_,λk hk=>?_,λk hk=>hlt k (by rw[hk];decide)⟩,Xrr h.o,(X9a h.m).to (λk hk=>?_) (λk hk=>hlt k (by rw[hk];decide)),Vc.Own.nil.arr (enc:=Fi.cs) (sz:=5) (T:=0) (B:=0) ir9,λt ht=>(by cases ht),by unfold kap0;simp,by unfold kap0;simp [Ne.symm n6],λh9=>absurd rfl h9,λt ht=>(by cases ht),hlt⟩
 ·rcases hk with e|e|⟨e,he,_⟩
  ·exact .inl e
  ·exact .inr e
  ·cases he
 ·rcases hk with rfl|rfl
  ·exact h.d.lt
  ·exact h.f.lt
 ·rcases hk with e|e|e|⟨q,hq,_⟩
  ·exact e
  ·cases e
  ·exact absurd rfl e.1
  ·cases hq
 ·rcases hk with e|⟨q,hq,_⟩
  ·exact absurd rfl e.1
  ·cases hq
 ·rw[hk];exact h.l.lt
 ·rcases hk with rfl|rfl
  ·exact r2 e.symm
  ·exact r1 e.symm
 ·rcases hk with(e|e)|e
  ·rw[e];exact kd
  ·rw[e];exact kf
  ·rw[e];exact kl
 ·unfold kap0
  rcases hk with e|e|e
  ·rw[e];simp [Ne.symm n3,p3]
  ·rw[e];simp [Ne.symm n4,p4]
  ·rw[e];simp [Ne.symm n5,p5]
end Go.Proofs.YtiooodckiddpmaaGreatDoor
