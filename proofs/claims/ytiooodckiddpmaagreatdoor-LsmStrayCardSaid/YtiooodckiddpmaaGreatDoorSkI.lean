/-
 A part of the proof: VcY VcX EntA LyA LyB EmA EmB NiA TrR OkA CoP FuP FsA LgE LgF SyP SyQ LgG DcA.
-/
import Derived.Test.YtiooodckiddpmaaGreatDoorSkH
import Derived.HandedShaped
import Derived.SizedLaws
import Derived.Shelf.Vars
import Derived.Test.YtiooodckiddpmaaGreatDoorSkD
import Derived.Lib.SmallJoins
import Derived.Test.YtiooodckiddpmaaGreatDoorSkA
import Derived.Test.YtiooodckiddpmaaGreatDoorChecked
import Derived.KernelRfl
import Derived.Test.YtiooodckiddpmaaGreatDoorSkB
import Derived.Test.YtiooodckiddpmaaGreatDoorSkF
import Derived.Test.YtiooodckiddpmaaGreatDoorSkC
open List renaming length_append->Aa,take->Ad,set->Af,drop->Ag,mem_singleton->Ah,mem_cons->Aj,mem_of_getElem?->Ak,mem_cons_self->Al,mem_cons_of_mem->Am,map_cons->An,length_map->Ao,getElem?_eq_some_iff->Ap,mem_map->Aq,getElem?_eq_getElem->Ar,mem_append->Aw,replicate->Ax,take_of_length_le->Ay,mem_filter->A3,length_take->A5,append_assoc->A7,flatMap_cons->AB,length->AC,getElem?_map->AD,nil_append->AE,length_cons->AG,map_append->AH,take_length->AI,getElem?_of_mem->AM,append_nil->AO,cons_append->AT,flatMap_append->AU,nodup_cons->AV,sum_cons->AX,take_append_drop->Bc,pairwise_append->Bs,getElem?_append_left->Bt,foldl_cons->B9,filter_append->BL,nodup_nil->BV,cons->BW,sum_append->Cd,pairwise_iff_getElem->Ce,mem_iff_getElem?->Ci,getElem_map->CC,getElem?_cons_succ->CL,getElem?_cons_zero->Dg,getElem?_range->DO,foldl_nil->E0
open Nat renaming le_refl->Ab,zero_le->Ae,le_trans->Ai,le_of_ble_eq_true->Av,not_lt->Ba,not_lt_zero->B6,add_assoc->BN
open Bool renaming and_eq_true->Au,false_ne_true->DR
open Option renaming some->A0,map_eq_some_iff->Bb
open Decidable renaming byContradiction->AP
open Prod renaming mk->Bl
open List.Pairwise renaming nil->Bp,filter->CB
open Int renaming le_refl->BQ
set_option maxRecDepth 100000
set_option maxHeartbeats 4000000
set_option linter.unusedVariables false
set_option linter.unusedSimpArgs false
namespace Go.Vc
open Go.ChangeShapes Go.WideShapes Go.ChangeAt Go.RowKit
variable {H:Type}{enc:TypeId×Value->H}
theorem Xib {a:Assume}{C:Checked}{os:Os}{f:FuncId}{fn:Func}{s:ChangeSpec}{conds:List PathCond}{apart fresh handsOn again:Bool}{X:World->Array Value->Prop}
  (hX:∀(w w':World) (args:Array Value),w.heap=w'.heap->X w args->X w' args)
  (own:ownKnob C.prog.godebug=none) (started:os.Started) (noInit:C.prog.inits.idxOf? f=none) (hfn:C.prog.funcs[f]?=some fn)
  (witness:∃(w:World) (tape:Tape) (i:Input),w.os=os/\(w.forCall tape i).Shaped C.prog/\i.vars=[]/\Input.okWide C.prog (w.forCall tape i) .any w.heap.size f i/\
   ((s.pre enc C.prog fn conds apart (w.forCall tape i).memory i.args/\X (w.forCall tape i).memory i.args)/\sizedMet enc C.prog fn (OpenSpec.ofChange s) apart (w.forCall tape i).memory i.args)/\a.holds C.prog (lone (Frame.enter C.prog f i.args .normal) [] (w.forCall tape i)))
  (contract:∀(W:World) (base:Nat) (args:Array Value) (ds Y:List (DataW H)) (r:List MemPlace),
   (∀(j:Nat) t v,fn.params[j]?=some t->args[j]?=some v->Value.okWide C.prog W .any base t v)->
   DataW.Whole enc C.prog fn.params.toList s.vars apart W args.toList ds Y r->
   (DataW.weightsEach C.prog (fn.params.toList++s.plain.varTypes C.prog) (ds++Y)).all (·<=reachBytes)=true->X W args->W.ShapedOpen C.prog->
   Calls C.prog f args W λe W'=>∃v,e=.returned v/\s.post enc C.prog fn apart fresh handsOn again W args v W') :
  ReturnsInHanded a C os f .any (λw args=>(s.pre enc C.prog fn conds apart w args/\X w args)/\sizedMet enc C.prog fn (OpenSpec.ofChange s) apart w args) (s.post enc C.prog fn apart fresh handsOn again):=by
 refine returnsInHanded_of_calls own started noInit witness ?_;intro w tape i _ hb _ hc J _;obtain⟨_,_,_,ha,O,_,_,_,_,z⟩:=hc;have e:ha=fn:=A0.inj (O.symm.trans hfn);subst e;obtain⟨⟨⟨ds,Y,r,hw,_⟩,hx⟩,hz⟩:=J;have Z:=DataW.Whole.of_heap (w':=w.forCall tape i) (by rfl) hw;refine(contract (w.forCall tape i) w.heap.size i.args ds Y r z Z (hz.weights hw) (hX _ _ _ (by rfl) hx) hb).mono λe W' ⟨v,he,hp⟩=>?_;subst he;exact ChangeSpec.post_blind hp
section
variable {H:Type}{enc:TypeId×Value->H}{P:Program}{W W':World}{base:Nat}
theorem Xok {α:Type}{Q:DataW H->α->Prop}{cenc:α->List Value}{good:α->Prop}{r:Reach}{b0:Nat}{t e sz:Nat}{v:Value}{d:DataW H}{ps:List MemPlace}{sp:Nat->Bool}{hd:Bool}(ht:P.underlying t=some (.slice e))(hc:P.cellsOf e=sz)
  (hdec:∀(n:Nat) (cs:List Value) (y:DataW H×List MemPlace),DataW.trod enc P W base sp hd n e cs=some y->cs.length=sz->∃x,cs=cenc x/\good x/\Q y.1 x)
  (hval:Value.okWide P W r b0 t v) (h:DataW.Trod enc P W base sp hd t v d ps):∃l:List α,EQ cenc sz W v l/\(∀x∈l,good x)/\l.length<=maxLen/\(l.length=0\/∃el sp',d=.slice el sp'/\el.length=l.length/\∀(i:Nat) (x:α),l[i]?=some x->∃y,el[i]?=some y/\Q y x):=by
 obtain⟨oa,len,cap,rfl⟩:=okWide_slice ht hval;obtain⟨fuel,h⟩:=h;rcases Deep.open_slice ht h with⟨h1,_⟩|⟨a,len',cap',m,n,D,Pl,h1,_,hlc,hcm,hm,hdx,hel⟩
 ·have hb:[Value.slice oa len cap]=[.slice none 0 0]:=by simpa [Value.cells]using h1
  simp only [BW.injEq,and_true]at hb;rw[hb];exact⟨[],EQ.nil,λx hx=>(by cases hx),Ae _,.inl rfl⟩
 ·have hb:[Value.slice oa len cap]=[.slice (some a) len' cap']:=by simpa [Value.cells]using h1
  simp only [BW.injEq,Value.slice.injEq,and_true]at hb;obtain⟨rfl,rfl,rfl⟩:=hb;have O:a.spot=none:=by
   simp only [Value.okWide,ht,Cell.okWide,Cell.ok]at hval;exact hval.2.2.2.1
  obtain⟨b,o,spot⟩:=a;simp only at O;subst O;have hlm:len<=m:=by rw[hm];split<;>omega
  obtain⟨X,hX⟩:=Deep.choose_lt (α:=Option α) (n:=len) (p:=λi ox=>∃x,ox=some x/\W.cells? base ((⟨b,o,none⟩:Addr).add (i*P.cellsOf e)) (P.cellsOf e)=some (cenc x)/\good x/\Q (D i) x) (λi hi=>by
   obtain⟨hq,h2,h3⟩:=hel i EB;obtain⟨_,Z,_⟩:=World.cells?_some h2;obtain⟨x,rfl,hg⟩:=hdec n hq _ h3 (by rw[Z,hc]);exact⟨some x,x,rfl,h2,hg⟩)
  have hx:∀i,i<len->∃x,X i=some x/\W.cells? base ((⟨b,o,none⟩:Addr).add (i*P.cellsOf e)) (P.cellsOf e)=some (cenc x)/\good x/\Q (D i) x:=hX;have hf:∀k,k<=len->∃l:List α,l.length=k/\∀i,i<k->∃x,l[i]?=some x/\X i=some x:=by
   intro k
   induction k with
   | zero=>intro _;exact⟨[],rfl,λi hi=>absurd hi (B6 _)⟩
   | succ k ih=>
    intro hk;obtain⟨l,hl,Y⟩:=ih EB;obtain⟨x,J,_⟩:=hx k EB;refine⟨l++[x],by simp [hl],λi hi=>?_⟩
    by_cases hik:i<k
    ·obtain⟨y,h2,h3⟩:=Y i hik;exact⟨y,by rw[Bt EB];exact h2,h3⟩
    ·have:i=k:=by omega
     subst this;exact⟨x,by rw[<-hl];simp,J⟩
  obtain⟨l,hl,Y⟩:=hf len (Ab _);refine⟨l,⟨.inr (.inl ⟨b,o,cap,by rw[Ao,hl],by rw[Ao,hl];exact hlc⟩),λi cs hi=>?_⟩,λx hr=>?_,by omega,.inr ⟨_,_,(Bl.inj hdx).1,by simp [hl],λi x hi=>?_⟩⟩
  ·rw[AD]at hi;obtain⟨x,J,rfl⟩:=Bb.1 hi;have hh:=(Ap.1 J).1;obtain⟨y,h2,h3⟩:=Y i EB;obtain⟨z,h4,h5,_⟩:=hx i EB;rw[h2]at J;rw[h3]at h4
   cases J;cases h4
   obtain⟨_,Z,hp⟩:=World.cells?_some h5;refine⟨by rw[Z,hc],λj u hj=>?_⟩;have hjl:=(Ap.1 hj).1;have:=hp j EB;rw[hj,Deep.add_add]at this;have ha:(⟨b,o,none⟩:Addr).add (i*P.cellsOf e+j)=⟨b,o+i*sz+j,none⟩:=by
    unfold Addr.add;split
    ·rename_i e0;have h0:i*sz=0/\j=0:=by rw[hc]at e0;omega
     rw[h0.1,h0.2];rfl
    ·rw[hc];simp [BN]
   rw[ha]at this;exact this
  ·obtain⟨i,hi⟩:=Ci.1 hr;have hh:=(Ap.1 hi).1;obtain⟨y,h2,h3⟩:=Y i EB;obtain⟨z,h4,_,h5⟩:=hx i EB;rw[h2]at hi;rw[h3]at h4
   cases hi;cases h4
   exact h5.1
  ·have hh:=(Ap.1 hi).1;obtain⟨y,h2,h3⟩:=Y i EB;obtain⟨z,h4,_,_,h5⟩:=hx i EB;rw[h2]at hi;rw[h3]at h4
   cases hi;cases h4
   exact⟨D i,by rw[AD,DO EB];rfl,h5⟩
theorem WY {e:TypeId} : ∀ {l:List (DataW H)} {d:DataW H},d∈l->∀n∈d.weights P e,n∈DataW.weightsAll P e l
 | [],_,h,_,_=>by cases h
 | a :: l,d,h,n,hn=>by
  rw[DataW.weightsAll,Aw];rcases Aj.1 h with rfl|h
  ·exact .inl hn
  ·exact .inr (WY h n hn)
end
end Go.Vc
namespace Go.Proofs.YtiooodckiddpmaaGreatDoor
open Go.Vc Go.Sp Go.ChangeShapes Go.WideShapes Go.ChangeAt Go.RowKit
open Go.Deep (oneCellFields hone_of)
structure Ac where
 k:Int
 n:Int
 key:EC
 to:EC
 l:List Rw
 v:Value
@[reducible] def Ac.cs (a:Ac):List Value:=[I a.k,I a.n,S a.key,S a.to,a.v]
structure AcOk (W:World)(a:Ac):Prop where
 v:EQ Rw.cs 3 W a.v a.l
 hk:EU a.k
 hn:EU a.n
 key:a.key.length<=140737488355328
 to:a.to.length<=140737488355328
 len:a.l.length<=140737488355328
 row:∀r∈a.l,r.key.length<=140737488355328/\r.val.length<=140737488355328
theorem AcOk.ext {W W':World}{a:Ac}(h:AcOk W a)(x:ED W W'):AcOk W' a:=⟨h.v.ext x,h.hk,h.hn,h.key,h.to,h.len,h.row⟩
section
variable {H:Type}{enc:TypeId×Value->H}{P:Program}{W:World}{base:Nat}
theorem Xye {a:Addr}{v:Value}(h:W.cell? a=some v):a.spot=none:=by
 unfold World.cell? at h;split at h
 ·split at h
  ·cases h
  ·rename_i hs;simpa using hs
 ·cases h
theorem Xol {α:Type}{Q:DataW H->α->Prop}{cenc:α->List Value}{t e sz:Nat}{v:Value}{y:DataW H×List MemPlace}{sp:Nat->Bool}{hd:Bool}{n0:Nat}(ht:P.underlying t=some (.slice e))(hc:P.cellsOf e=sz)(hsz:0<sz)
  (hdec:∀(n:Nat) (cs:List Value) (y:DataW H×List MemPlace),DataW.trod enc P W base sp hd n e cs=some y->cs.length=sz->∃x,cs=cenc x/\Q y.1 x)
  (h:DataW.trod enc P W base sp hd n0 t [v]=some y):∃l:List α,EQ cenc sz W v l/\(l=[]\/∃el sp',y.1=.slice el sp'/\el.length=l.length/\∀(i:Nat) (x:α),l[i]?=some x->∃d,el[i]?=some d/\Q d x):=by
 rcases Deep.open_slice ht h with⟨h1,_⟩|⟨a,len,cap,m,n,D,Pl,h1,_,hlc,hcm,hm,hdx,hel⟩
 ·simp only [BW.injEq,and_true]at h1;rw[h1];exact⟨[],EQ.nil,.inl rfl⟩
 ·simp only [BW.injEq,and_true]at h1;subst h1;have hlm:len<=m:=by rw[hm];split<;>omega
  by_cases hl0:len=0
  ·subst hl0;exact⟨[],⟨.inr (.inr ⟨rfl,_,_,rfl⟩),λi cs hi=>by simp at hi⟩,.inl rfl⟩
  have O:a.spot=none:=by
   obtain⟨Z,h2,h3⟩:=hel 0 EB;obtain⟨_,r,hf⟩:=World.cells?_some h2;have h4:=hf 0 EB;have h5:Z[0]?=some Z[0]:=Ar EB;rw[h5]at h4;have h6:(a.add (0*P.cellsOf e)).add 0=a:=by simp [Addr.add]
   rw[h6]at h4;exact Xye h4
  obtain⟨b,o,spot⟩:=a;simp only at O;subst O;obtain⟨X,hX⟩:=Deep.choose_lt (α:=Option α) (n:=len) (p:=λi ox=>∃x,ox=some x/\W.cells? base ((⟨b,o,none⟩:Addr).add (i*P.cellsOf e)) (P.cellsOf e)=some (cenc x)/\Q (D i) x) (λi hi=>by
   obtain⟨Z,h2,h3⟩:=hel i EB;obtain⟨_,r,_⟩:=World.cells?_some h2;obtain⟨x,rfl,hg⟩:=hdec n Z _ h3 (by rw[r,hc]);exact⟨some x,x,rfl,h2,hg⟩)
  have hx:∀i,i<len->∃x,X i=some x/\W.cells? base ((⟨b,o,none⟩:Addr).add (i*P.cellsOf e)) (P.cellsOf e)=some (cenc x)/\Q (D i) x:=hX;have hb:∀k,k<=len->∃l:List α,l.length=k/\∀i,i<k->∃x,l[i]?=some x/\X i=some x:=by
   intro k
   induction k with
   | zero=>intro _;exact⟨[],rfl,λi hi=>absurd hi (B6 _)⟩
   | succ k ih=>
    intro hk;obtain⟨l,hl,Y⟩:=ih EB;obtain⟨x,J,_⟩:=hx k EB;refine⟨l++[x],by simp [hl],λi hi=>?_⟩
    by_cases hik:i<k
    ·obtain⟨y,h2,h3⟩:=Y i hik;exact⟨y,by rw[Bt EB];exact h2,h3⟩
    ·have:i=k:=by omega
     subst this;exact⟨x,by rw[<-hl];simp,J⟩
  obtain⟨l,hl,Y⟩:=hb len (Ab _);refine⟨l,⟨.inr (.inl ⟨b,o,cap,by rw[Ao,hl],by rw[Ao,hl];exact hlc⟩),λi cs hi=>?_⟩,.inr ⟨_,_,congrArg Prod.fst hdx,by simp [hl],λi x hi=>?_⟩⟩
  ·rw[AD]at hi;obtain⟨x,J,rfl⟩:=Bb.1 hi;have hh:=(Ap.1 J).1;obtain⟨y,h2,h3⟩:=Y i EB;obtain⟨z,h4,h5,_⟩:=hx i EB;rw[h2]at J;rw[h3]at h4
   cases J;cases h4
   obtain⟨_,r,hf⟩:=World.cells?_some h5;refine⟨by rw[r,hc],λj u hj=>?_⟩;have hjl:=(Ap.1 hj).1;have:=hf j EB;rw[hj,Deep.add_add]at this;have ha:(⟨b,o,none⟩:Addr).add (i*P.cellsOf e+j)=⟨b,o+i*sz+j,none⟩:=by
    unfold Addr.add;split
    ·rename_i e0;have h0:i*sz=0/\j=0:=by rw[hc]at e0;omega
     rw[h0.1,h0.2];rfl
    ·rw[hc];simp [BN]
   rw[ha]at this;exact this
  ·have hh:=(Ap.1 hi).1;obtain⟨y,h2,h3⟩:=Y i EB;obtain⟨z,h4,_,h5⟩:=hx i EB;rw[h2]at hi;rw[h3]at h4
   cases hi;cases h4
   exact⟨D i,by rw[AD,DO EB];rfl,h5⟩
theorem Xom {t:TypeId}{f0 f1 f2 f3 f4:Field}{fuel:Nat}{sp:Nat->Bool}{hd:Bool}{cs:List Value}{x:DataW H×List MemPlace}(ht:P.underlying t=some (.struct #[f0,f1,f2,f3,f4]))(h:DataW.trod enc P W base sp hd fuel t cs=some x) :
  ∃y0 y1 y2 y3 y4 n,x.1=.agg [y0.1,y1.1,y2.1,y3.1,y4.1]/\cs.length=P.cellsOf t/\DataW.trod enc P W base sp hd n f0.type ((cs.drop f0.offset).take (P.cellsOf f0.type))=some y0/\
   DataW.trod enc P W base sp hd n f1.type ((cs.drop f1.offset).take (P.cellsOf f1.type))=some y1/\DataW.trod enc P W base sp hd n f2.type ((cs.drop f2.offset).take (P.cellsOf f2.type))=some y2/\
   DataW.trod enc P W base sp hd n f3.type ((cs.drop f3.offset).take (P.cellsOf f3.type))=some y3/\DataW.trod enc P W base sp hd n f4.type ((cs.drop f4.offset).take (P.cellsOf f4.type))=some y4:=by
 obtain⟨xs,n,_,rfl,J,r,z⟩:=DataW.trod_struct ht h
 match xs,r with
 | [y0,y1,y2,y3,y4],_=>exact⟨y0,y1,y2,y3,y4,n,by simp,J,by simpa using z 0 f0 rfl,by simpa using z 1 f1 rfl,by simpa using z 2 f2 rfl,by simpa using z 3 f3 rfl,by simpa using z 4 f4 rfl⟩
theorem Xon {t:TypeId}{f0 f1 f2:Field}{fuel:Nat}{sp:Nat->Bool}{hd:Bool}{cs:List Value}{x:DataW H×List MemPlace}(ht:P.underlying t=some (.struct #[f0,f1,f2]))(h:DataW.trod enc P W base sp hd fuel t cs=some x) :
  ∃y0 y1 y2 n,x.1=.agg [y0.1,y1.1,y2.1]/\cs.length=P.cellsOf t/\DataW.trod enc P W base sp hd n f0.type ((cs.drop f0.offset).take (P.cellsOf f0.type))=some y0/\
   DataW.trod enc P W base sp hd n f1.type ((cs.drop f1.offset).take (P.cellsOf f1.type))=some y1/\DataW.trod enc P W base sp hd n f2.type ((cs.drop f2.offset).take (P.cellsOf f2.type))=some y2:=by
 obtain⟨xs,n,_,rfl,J,r,z⟩:=DataW.trod_struct ht h
 match xs,r with
 | [y0,y1,y2],_=>exact⟨y0,y1,y2,n,by simp,J,by simpa using z 0 f0 rfl,by simpa using z 1 f1 rfl,by simpa using z 2 f2 rfl⟩
theorem V8 {t e:TypeId}{el sp':List (DataW H)}(ht:P.underlying t=some (.slice e))(hb:1<=P.bytesOf e)(h:∀x∈DataW.weights P t (.slice el sp'),x<=reachBytes):el.length<=reachBytes/\∀d∈el,∀x∈DataW.weights P e d,x<=reachBytes:=by
 rw[DataW.weights,ht]at h;simp only [Aj,Aw]at h;have h1:=h _ (.inl rfl);have h2:el.length*1<=(el.length+sp'.length)*P.bytesOf e:=Nat.mul_le_mul EB hb;exact⟨by omega,λd hd x r=>h x (.inr (.inl (WY hd x r)))⟩
theorem Yce {e:TypeId}{f0 f1 f2:Field}{sp:Nat->Bool}{hd:Bool}(he:P.underlying e=some (.struct #[f0,f1,f2]))(hone:oneCellFields P #[f0,f1,f2]=true)(h0:P.underlying f0.type=some .string)(h1:P.underlying f1.type=some .string)(h2:P.underlying f2.type=some .bool) :
  ∀(n:Nat) (cs:List Value) (y:DataW H×List MemPlace),DataW.trod enc P W base sp hd n e cs=some y->cs.length=3->∃x:Rw,cs=x.cs/\((∀z∈y.1.weights P e,z<=reachBytes)->x.key.length<=140737488355328/\x.val.length<=140737488355328):=λn cs y h hl=>by
 obtain⟨y0,y1,y2,m,hy,_,t0,O,t2⟩:=Xon he h;obtain⟨o0,k0⟩:=hone_of hone 0 f0 rfl;obtain⟨o1,k1⟩:=hone_of hone 1 f1 rfl;obtain⟨o2,k2⟩:=hone_of hone 2 f2 rfl
 match cs,hl with
 | [c0,c1,c2],_=>
  rw[o0,k0]at t0;rw[o1,k1]at O;rw[o2,k2]at t2;simp only [Ag,Ad]at t0 O t2;obtain⟨s0,e0,J,_⟩:=DataW.trod_string h0 t0;obtain⟨s1,e1,Y,_⟩:=DataW.trod_string h1 O;obtain⟨b,e2,_⟩:=DataW.trod_bool h2 t2;simp only [BW.injEq,and_true]at e0 e1 e2;subst e0;subst e1;subst e2;have hrb:reachBytes=140737488351232:=rfl;refine⟨⟨s0.data.toList,s1.data.toList,b⟩,rfl,λhw=>?_⟩;have r:∀(j:Nat) (u:TypeId) (d:DataW H),[f0.type,f1.type,f2.type][j]?=some u->[y0.1,y1.1,y2.1][j]?=some d->∀x∈d.weights P u,x<=reachBytes:=λj u d hj Z x hx=>by
   refine hw x ?_;rw[hy,DataW.weights,he];exact DataW.weights_mem_each hj Z x hx
  have b0:=r 0 _ _ rfl rfl s0.data.toList.length (by rw[J,DataW.weights];simp);have b1:=r 1 _ _ rfl rfl s1.data.toList.length (by rw[Y,DataW.weights];simp);exact⟨by show s0.data.toList.length<=_;omega,by show s1.data.toList.length<=_;omega⟩
section
variable {e u:TypeId}{f0 f1 f2 f3 f4 g0 g1 g2:Field}{sp:Nat->Bool}{hd:Bool}(he:P.underlying e=some (.struct #[f0,f1,f2,f3,f4]))(hone:oneCellFields P #[f0,f1,f2,f3,f4]=true)(h0:P.underlying f0.type=some (.int .i64))(h1:P.underlying f1.type=some (.int .i64))(h2:P.underlying f2.type=some .string)(h3:P.underlying f3.type=some .string)
 (h4:P.underlying f4.type=some (.slice u)) (hu:P.underlying u=some (.struct #[g0,g1,g2])) (hone2:oneCellFields P #[g0,g1,g2]=true) (hcu:P.cellsOf u=3) (hbu:1<=P.bytesOf u) (k0:P.underlying g0.type=some .string) (k1:P.underlying g1.type=some .string) (k2:P.underlying g2.type=some .bool)
include he hone h0 h1 h2 h3 h4 hu hone2 hcu hbu k0 k1 k2
theorem Ycf : ∀(n:Nat) (cs:List Value) (y:DataW H×List MemPlace),DataW.trod enc P W base sp hd n e cs=some y->cs.length=5->∃x:Ac,cs=x.cs/\((∀z∈y.1.weights P e,z<=reachBytes)->AcOk W x):=λn cs y h hl=>by
 obtain⟨y0,y1,y2,y3,y4,m,hy,_,t0,t1,t2,Y,t4⟩:=Xom he h;obtain⟨o0,q0⟩:=hone_of hone 0 f0 rfl;obtain⟨o1,q1⟩:=hone_of hone 1 f1 rfl;obtain⟨o2,q2⟩:=hone_of hone 2 f2 rfl;obtain⟨o3,q3⟩:=hone_of hone 3 f3 rfl;obtain⟨o4,q4⟩:=hone_of hone 4 f4 rfl
 match cs,hl with
 | [c0,c1,c2,c3,c4],_=>
  rw[o0,q0]at t0;rw[o1,q1]at t1;rw[o2,q2]at t2;rw[o3,q3]at Y;rw[o4,q4]at t4;simp only [Ag,Ad]at t0 t1 t2 Y t4;obtain⟨a,e0,_,w0⟩:=DataW.trod_int h0 t0;obtain⟨b,e1,_,w1⟩:=DataW.trod_int h1 t1;obtain⟨s2,e2,ha,_⟩:=DataW.trod_string h2 t2;obtain⟨s3,e3,Z,_⟩:=DataW.trod_string h3 Y;simp only [BW.injEq,and_true]at e0 e1 e2 e3;subst e0;subst e1;subst e2;subst e3;have hrb:reachBytes=140737488351232:=rfl;obtain⟨l,hl,hb⟩:=Xol (Q:=λd (x:Rw)=>(∀z∈d.weights P u,z<=reachBytes)->x.key.length<=140737488355328/\x.val.length<=140737488355328) (cenc:=Rw.cs) h4 hcu EN (Yce hu hone2 k0 k1 k2) t4;refine⟨⟨a,b,s2.data.toList,s3.data.toList,l,c4⟩,rfl,λhw=>?_⟩;have J:∀(j:Nat) (u:TypeId) (d:DataW H),[f0.type,f1.type,f2.type,f3.type,f4.type][j]?=some u->[y0.1,y1.1,y2.1,y3.1,y4.1][j]?=some d->∀x∈d.weights P u,x<=reachBytes:=λj u d hj hc x O=>by
   refine hw x ?_;rw[hy,DataW.weights,he];exact DataW.weights_mem_each hj hc x O
  have b2:=J 2 _ _ rfl rfl s2.data.toList.length (by rw[ha,DataW.weights];simp);have b3:=J 3 _ _ rfl rfl s3.data.toList.length (by rw[Z,DataW.weights];simp);have b4:l.length<=140737488355328/\∀r∈l,r.key.length<=140737488355328/\r.val.length<=140737488355328:=by
   rcases hb with rfl|⟨el,sp',e4,hel,hq⟩
   ·exact⟨by simp,λp hp=>by cases hp⟩
   ·obtain⟨z1,z2⟩:=V8 h4 hbu (λx O=>J 4 _ _ rfl rfl x (by rw[e4];exact O));refine⟨by omega,λr hr=>?_⟩;obtain⟨i,hi⟩:=Ci.1 hr;obtain⟨d,hf,hg⟩:=hq i r hi;exact hg (z2 d (Ak hf))
  exact⟨hl,Xsn w0,Xsn w1,by show s2.data.toList.length<=_;omega,by show s3.data.toList.length<=_;omega,b4.1,b4.2⟩
theorem Xtp {r:Reach}{b0:Nat}{t:TypeId}{v:Value}{d:DataW H}{ps:List MemPlace}{ts:List TypeId}{ds:List (DataW H)}{j:Nat}(ht:P.underlying t=some (.slice e))(hce:P.cellsOf e=5)(hbe:1<=P.bytesOf e)
  (hval:Value.okWide P W r b0 t v) (h:DataW.Trod enc P W base sp hd t v d ps) (hz:(DataW.weightsEach P ts ds).all (·<=reachBytes)=true) (hj:ts[j]?=some t) (hdj:ds[j]?=some d) :
  ∃l:List Ac,EQ Ac.cs 5 W v l/\l.length<=140737488355328/\∀a∈l,AcOk W a:=by
 obtain⟨l,hl,_,_,O⟩:=Xok (Q:=λ(d:DataW H) (x:Ac)=>(∀z∈d.weights P e,z<=reachBytes)->AcOk W x) (good:=λ_=>True) (cenc:=Ac.cs) ht hce (λn cs y h9 Y=>by
  obtain⟨x,q1,q2⟩:=Ycf he hone h0 h1 h2 h3 h4 hu hone2 hcu hbu k0 k1 k2 n cs y h9 Y;exact⟨x,q1,trivial,q2⟩) hval h
 have hw:∀x∈d.weights P t,x<=reachBytes:=λx J=>by have:=List.all_eq_true.1 hz _ (DataW.weights_mem_each hj hdj x J);simpa using this
 have hrb:reachBytes=140737488351232:=rfl;refine⟨l,hl,?_⟩;rcases O with O|⟨el,sp',e4,hel,hq⟩
 ·have:=List.eq_nil_of_length_eq_zero O;subst this;exact⟨by simp,λp hp=>by cases hp⟩
 ·obtain⟨z1,z2⟩:=V8 ht hbe (λx J=>hw x (by rw[show d=_ from e4];exact J));refine⟨by omega,λa ha=>?_⟩;obtain⟨i,hi⟩:=Ci.1 ha;obtain⟨d',Z,hc⟩:=hq i a hi;exact hc (z2 d' (Ak Z))
end
end
end Go.Proofs.YtiooodckiddpmaaGreatDoor
namespace Go.Proofs.YtiooodckiddpmaaGreatDoor
open Go.Vc Go.Sp
attribute [local irreducible] W XW Dw Gs
def GW (r:Rw):Nat:=1+r.key.length+r.val.length
def Ht (a:Ac):Nat:=a.key.length+a.to.length+(a.l.map GW).sum
def KQ (l:List Ac):Nat:=((l.take 60).map Ht).sum
theorem Qa {α:Type}(f:α->Nat){l:List α}{k:Nat}{x:α}(h:l[k]?=some x):((l.take (k+1)).map f).sum=((l.take k).map f).sum+f x:=by
 rw[G1 h,AH,Cd];simp
theorem NP {α:Type}(f:α->Nat)(l:List α){i j:Nat}(h:i<=j):((l.take i).map f).sum<=((l.take j).map f).sum:=by
 have e:l.take i=(l.take j).take i:=by rw[List.take_take,Nat.min_eq_left h]
 have:=congrArg (λm=>(m.map f).sum) (Bc i (l.take j));simp only [AH,Cd]at this;rw[e];omega
theorem WN {l:List Ac}{i k:Nat}{a:Ac}(hi:i<60)(ha:l[i]?=some a)(hk:k<=a.l.length):((l.take i).map Ht).sum+a.key.length+a.to.length+((a.l.take k).map GW).sum<=KQ l:=by
 have h1:=NP Ht l (show i+1<=60 by omega);rw[Qa Ht ha]at h1;have h2:=NP GW a.l hk;rw[AI]at h2;unfold KQ;have h3:Ht a=a.key.length+a.to.length+(a.l.map GW).sum:=rfl;omega
def Mf (M:List Rw):Prop:=M.Pairwise λa b=>Fg a.key b.key=true
section
variable {M:List Rw}{c:Cell}{j:Nat}{d:Rw}
theorem TJ (hM:Mf M)(c:Cell):Mf (HE M c):=by
 unfold HE Mf;refine Bs.2 ⟨CB _ hM,Bs.2 ⟨?_,CB _ hM,λx z y r=>?_⟩,λx z y r=>?_⟩
 ·split
  ·exact Bp
  ·exact List.pairwise_singleton _ _
 ·split at z
  ·cases z
  ·rw[Ah.1 z];exact(A3.1 r).2
 ·have J:=(A3.1 z).2;rcases Aw.1 r with r|r
  ·split at r
   ·cases r
   ·rw[Ah.1 r];exact J
  ·exact Jl _ _ _ J (A3.1 r).2
theorem X1b (hM:Mf M)(c:Cell):(HE M c).length<=M.length+1:=by
 have h1:∀M:List Rw,(M.filter λr=>Fg r.key c.key).length+(M.filter λr=>Fg c.key r.key).length<=M.length:=by
  intro M
  induction M with
  | nil=>exact Ab _
  | cons r q ih=>
   simp only [List.filter_cons,AG]
   cases h:Fg r.key c.key with
   | true=>rw[K9 h];simp;omega
   | false=>cases h2:Fg c.key r.key<;>simp<;>omega
 have:=h1 M;unfold HE;simp only [Aa];split<;>simp<;>omega
def Lp (M:List Rw)(cs:List Cell):List Rw:=cs.foldl HE M
theorem X7c : ∀(cs:List Cell) {M:List Rw},Mf M->Mf (Lp M cs)
 | [],_,h=>h
 | c :: r,_,h=>X7c r (TJ h c)
theorem TE : ∀(cs:List Cell) {M:List Rw},Mf M->(Lp M cs).length<=M.length+cs.length
 | [],_,h=>Ab _
 | c :: r,M,h=>by
  have h1:=TE r (TJ h c);have h2:=X1b h c;show(Lp (HE M c) r).length<=_;simp only [AG];omega
end
theorem X7d (l:List Ac)(v:Value)(w:World)(hv:EQ Ac.cs 5 w v l)(hl:l.length<=140737488355328)(hok:∀a∈l,AcOk w a) :
  Calls Tryz.prog 11 [v].toArray w (Pure w (B (decide (60000<KQ l)))):=by
 refine cw Tryz.func11 ?_;have z:=ED.refl w;refine ws λ_ Z1=>wr (da (de Z1 (ws λ_ Z2=>wr (da (de Z2 (ws λ_ Z3=>ws λ_ Z4=>wr (da (de Z4 (EM ?_)))))))));refine Fq (G:=Nat×Nat) (λ(i,n)=>[(0,v),(3,I ↑n),(4,I ↑i)]) (λ(i,n) w'=>ED w w'/\i<=l.length/\i<=60/\n=((l.take i).map Ht).sum/\n<=60000+i*281474976710656) (λ(i,n)=>l.length-i) (0,0) ?_ ?_ ?_
 ·exact Hd
 ·exact⟨z,Ae _,Ae _,rfl,Ae _⟩
 intro X1 g1 w1 ht;obtain⟨i,n⟩:=g1;clear z;obtain⟨z,hi1,hi2,hn,hnb⟩:=ht;refine ws λ_ Z5=>ws λ_ Z6=>wr (dm (dm ?_));refine dv 34 5 (hv.ext z).sl (dp (Fb rfl rfl) (dm ?_));refine F4 10 rfl (λc1=>?_) (λc1=>?_)
 ·refine dm ?_;refine dp (Fb rfl rfl) (EP (de Z6 ?_));refine wi (λc2=>?_) λc2=>?_
  ·obtain⟨a,hk⟩:∃a,l[i]?=some a:=Fw;have J:=hok a (Ak hk);have O:=J.v;have q1:=J.key;have q2:=J.to;have q3:=J.len;refine EI (Z5 _ _ (ws λ_ Z7=>EM (ws λ_ Z8=>F9 (R:=ED) ED.refl (λ_ _ _=>ED.trans) EA [5,12] [(0,.p,false),(1,.p,false),(2,.p,false),(3,.p,false),(4,.p,false),(5,.l,false),(6,.p,false),(7,.p,false),(8,.p,false),(9,.p,false),(10,.p,false),(11,.p,false),(12,.l,false),(13,.p,false),(14,.p,false),(15,.p,false)] rfl EA EA (λw2 Z=>?_))));have x2:=EL Z;clear Z;have z:=z.trans x2
   iterate 3 refine dm ?_
   refine di 34 5 hv.sl rfl (hv.lt hk) (df 2 rfl (dL rfl (λ_ Y=>(((hv.ext (z.trans Y)).row hk).at rfl)) (dt rfl (pa rfl rfl (dm (dm ?_))))));refine di 34 5 hv.sl rfl (hv.lt hk) (df 3 rfl (dL rfl (λ_ Y=>(((hv.ext (z.trans Y)).row hk).at rfl)) (dt rfl (pa rfl rfl (da (de Z8 (ws λ_ Z9=>wr (da (de Z9 (EM ?_))))))))));refine Fq (G:=Nat×Nat) (λ(k,m)=>[(0,v),(3,I ↑m),(4,I ↑i),(5,I ↑k)]) (λ(k,m) w'=>ED w w'/\k<=a.l.length/\m=n+a.key.length+a.to.length+((a.l.take k).map GW).sum/\m<=60000+(i+1)*281474976710656) (λ(k,m)=>a.l.length-k) (0,n+a.key.length+a.to.length) ?_ ?_ ?_
   ·exact Gc
   ·exact⟨z,Ae _,by simp,by omega⟩
   intro X3 g3 w3 hf;obtain⟨k,m⟩:=g3;clear z;obtain⟨z,hk1,hm,hmb⟩:=hf;refine ws λ_ hz=>ws λ_ hy=>wr (dm (dm (dm ?_)));refine di 34 5 hv.sl rfl (hv.lt hk) (df 4 rfl (dl rfl (((hv.ext z).row hk).at rfl) (dv 48 3 (O.ext z).sl (dp (Fb rfl rfl) (de hy (wi (λc3=>?_) λc3=>?_))))))
   ·obtain⟨r,hr⟩:∃r,a.l[k]?=some r:=Fw;have q4:=J.row r (Ak hr);have hrs:=Qa GW hr;have hrw:GW r=1+r.key.length+r.val.length:=rfl;have hge:=WN (k:=k+1) EB hk EB;refine EI (hz _ _ (ws λ_ hq=>EM (ws λ_ hh=>F9 (R:=ED) ED.refl (λ_ _ _=>ED.trans) EA [6,10,17,21] [(0,.p,false),(1,.p,false),(2,.p,false),(3,.p,false),(4,.p,false),(5,.p,false),(6,.l,false),(7,.p,false),(8,.p,false),(9,.p,false),(10,.l,false),(11,.p,false),(12,.p,false),(13,.p,false),(14,.p,false),(15,.p,false),(16,.p,false),(17,.l,false),(18,.p,false),(19,.p,false),(20,.p,false),(21,.l,false),(22,.p,false),(23,.p,false),(24,.p,false)] rfl EA EA (λw4 ha=>?_))));have x4:=EL ha;clear ha;have z:=z.trans x4;refine dm ?_;refine pa rfl rfl (dm (dm ?_));refine di 34 5 hv.sl rfl (hv.lt hk) (df 4 rfl (dL rfl (λ_ Y=>(((hv.ext (z.trans Y)).row hk).at rfl)) (dm ?_)));refine di 48 3 O.sl rfl (O.lt hr) (df 0 rfl (dL rfl (λ_ Y=>(((O.ext (z.trans Y)).row hr).at rfl)) (dt rfl (pa rfl rfl (dm (dm ?_))))));refine di 34 5 hv.sl rfl (hv.lt hk) (df 4 rfl (dL rfl (λ_ Y=>(((hv.ext (z.trans Y)).row hk).at rfl)) (dm ?_)));refine di 48 3 O.sl rfl (O.lt hr) (df 1 rfl (dL rfl (λ_ Y=>(((O.ext (z.trans Y)).row hr).at rfl)) (dt rfl (pa rfl rfl (da (de hh (ws λ_ hg=>wr (dm ?_))))))));refine dp (Gg rfl rfl) (de hg (wi (λc4=>?_) λc4=>?_))
    ·refine ws λ_ hb=>wr (da (de hb (EJ ?_)));refine ro ?_;refine⟨?_,z⟩;rw[decide_eq_true (show 60000<KQ l by omega)]
    refine EI (hq _ _ (wr (dm ?_)));refine pa rfl rfl (da (EH (?_)));exact⟨(k+1,m+1+r.key.length+r.val.length),Gc,⟨z,by omega,by omega,by omega⟩,by simp only [];omega⟩
   refine Fk (Z7 _ _ (wr (dm ?_)));refine pa rfl rfl (da (EH (?_)));have hc:k=a.l.length:=by omega
   subst hc;rw[AI]at hm;have hst:=Qa Ht hk;have haw:Ht a=a.key.length+a.to.length+(a.l.map GW).sum:=rfl;exact⟨(i+1,m),Hd,⟨z,by omega,by omega,by omega,by omega⟩,by simp only [];omega⟩
  refine Fk (Z3 _ _ (ws λ_ hp=>wr (dm ?_)));refine dp (Gg rfl rfl) (da (de hp (EJ ?_)));refine ro ?_;have hw:i=60:=by omega
  subst hw;refine⟨?_,z⟩
  congr 2
  unfold KQ;rw[<-hn];exact decide_eq_decide.2 EB
 refine dk (dk (EP (de Z6 ?_)));refine Hf rfl (Fk (Z3 _ _ (ws λ_ hj=>wr (dm ?_))));refine dp (Gg rfl rfl) (da (de hj (EJ ?_)));refine ro ?_;have e:KQ l=n:=by unfold KQ;rw[hn,Ay (show l.length<=60 by omega),Ay (show l.length<=i by omega)]
 refine⟨?_,z⟩
 congr 2
 rw[e];exact decide_eq_decide.2 EB
end Go.Proofs.YtiooodckiddpmaaGreatDoor
namespace Go.Proofs.YtiooodckiddpmaaGreatDoor.Em
open Go.Vc Go.Sp
attribute [local irreducible] W XW Dw Gs
theorem GR : MapK Tryz.prog 120 9 123 S pO (λs=>s.length<=maxLen):=ML EA EA Qc
theorem Ya0 (w:World) :
  Calls Tryz.prog 262 [.slice none 0 0,I 0,I 0].toArray w (Pure w (.tuple #[])):=by
 refine cw Tryz.func262 ?_;have z:=ED.refl w;refine ws λ_ Y=>wr (dm ?_);refine pa rfl rfl (da (de Y (EM ?_)));refine Fq (G:=Unit) (λJ=>[(0,.slice none 0 0),(1,I 0),(2,I 0),(6,I (0+1))]) (λJ w'=>ED w w'/\True) (λJ=>0) () ?_ ?_ ?_
 ·exact Gc
 ·exact⟨z,trivial⟩
 intro X1 g1 w1 r;revert r;revert g1;intro J r;clear z;obtain⟨z,htr⟩:=r;refine ws λ_ Z2=>ws λ_ Z=>wr (dm (dm ?_));refine dp (Fb rfl rfl) (de Z (wi (λO=>?_) λO=>?_))
 ·exact absurd O EN
 refine Fk (HH (Hh rfl ?_));exact⟨rfl,z⟩
theorem X7e (w:World) :
  Calls Tryz.prog 272 [.int .u64 0].toArray w (Pure w (I 0)):=by
 refine cw Tryz.func272 ?_;have Y:=ED.refl w;refine ws λ_ Z1=>wr (da (de Z1 (ws λ_ Z2=>ws λ_ Z3=>wr (dm ?_))));refine dp (IA rfl rfl) (de Z3 (wi (λJ=>?_) λJ=>?_))
 ·exact absurd J EN
 refine EI (Z2 _ _ (ws λ_ Z4=>ws λ_ Z=>wr (dm ?_)));refine dp (IA rfl rfl) (de Z (wi (λz=>?_) λz=>?_))
 ·exact absurd z EN
 refine EI (Z4 _ _ (ws λ_ Z6=>ws λ_ O=>wr (dm ?_)));refine dp (IA rfl rfl) (de O (wi (λr=>?_) λr=>?_))
 ·exact absurd r EN
 refine EI (Z6 _ _ (ws λ_ Z8=>wr (dm (dm ?_))));refine dp (O6 rfl EA EA) (dp (Xzl (c:=0) EA rfl rfl rfl) (dp (Xy8 rfl EA EA) (dp (Gy (a:=0) (b:=0) rfl rfl (by simp [EU])) (da (de Z8 (EJ ?_))))));refine ro ?_;exact⟨rfl,Y⟩
theorem Ya1 (w:World) :
  Calls Tryz.prog 204 [.int .u64 0].toArray w (Pure w (I 0)):=by
 refine cw Tryz.func204 ?_;have r:=ED.refl w;refine ws λ_ z=>wr (da (de z (ws λ_ O=>?_)));refine Hf rfl (EI (O _ _ (ws λ_ Y=>wr (dm ?_))));refine cP (X7e _) RX.all λw1 J=>?_;have r:=r.trans J;refine da (de Y (EJ ?_));refine ro ?_;exact⟨rfl,r⟩
theorem Ya2 (w:World) :
  Calls Tryz.prog 203 [.slice none 0 0,I 0,I 0,I 0].toArray w (Pure w (.tuple #[])):=by
 refine cw Tryz.func203 ?_;have z:=ED.refl w;refine ws λ_ Z1=>wr (da (de Z1 (ws λ_ Z2=>wr (da (de Z2 (EM ?_))))));refine Fq (G:=Unit) (λJ=>[(0,.slice none 0 0),(1,I 0),(2,I 0)]) (λJ w'=>ED w w'/\True) (λJ=>0) () ?_ ?_ ?_
 ·exact Hd
 ·exact⟨z,trivial⟩
 intro X1 g1 w1 r;revert r;revert g1;intro J r;clear z;obtain⟨z,htr⟩:=r;refine EM (ws λ_ Z3=>wr (dm (dm ?_)));refine ps rfl rfl (da (de Z3 (ws λ_ Z4=>ws λ_ Z5=>wr (dm ?_))));refine dp (IG rfl rfl) (de Z5 (wi (λO=>?_) λO=>?_))
 ·refine ws λ_ Y=>wr (dm (dm (dm ?_)));refine cP (Ya0 _) RX.all λw2 Z=>?_;have z:=z.trans Z;refine de Y (EJ (Hh rfl ?_));exact⟨rfl,z⟩
 exact absurd O EN
theorem X7f (w:World) :
  Calls Tryz.prog 132 [.slice none 0 0].toArray w (Pure w (.tuple #[])):=by
 refine cw Tryz.func132 ?_;have r:=ED.refl w;refine ws λ_ z=>wr (dm ?_);refine dv 9 1 (EQ.nil (enc:=FU) (sz:=1) (w:=w)).sl (da (de z (wr (dm (dm (dm ?_))))));refine dp (JO (k:=.u64) rfl EA EA) (cP (Ya1 _) RX.all λw1 J=>?_);have r:=r.trans J;refine cP (Ya2 _) RX.all λw2 O=>?_;have r:=r.trans O;refine EH ((HH (Hh rfl ?_)));exact⟨rfl,r⟩
theorem X1c (b ly:Nat)(mv:Value)(J:Nat->World->Prop)(w:World)(hJ:∀k W,J k W->EK W b [mv] 120/\H4 W mv)(hE:∀k W W',J k W->ED W W'->J k W')(hj:J 0 w) :
  Calls Tryz.prog 133 [.func (.yield ly) #[] #[],EE b 0].toArray w (λe W'=>(∃v,e=.returned v)/\J 0 W'):=by
 refine Ul Tryz.func133 rfl rfl rfl EA ?_;have z:=ED.refl w;obtain⟨Z,hv⟩:=hJ _ _ hj;refine MF λK1 Z1=>NQ [.l,.x] rfl (dl rfl ((Z.ext z).at rfl) (Xzn EA rfl rfl (hv.ext z) RX.all (λb1 w1 e1 x1 r=>?_)));have g1:=z.ge e1;have z:=z.trans x1;refine EH (Z1 _ _ _ (Wd ?_));refine X41 (G:=Unit) (λY=>[(0,.func (.yield ly) #[] #[]),(5,EE b1 0)]) (λY w'=>ED w w'/\Pb w' b1/\True) (λY=>0) () ?_ ?_ ?_
 ·exact Lo
 ·exact⟨z,r,trivial⟩
 intro X2 g2 w2 O;revert O;revert g2;intro Y O;clear z r;obtain⟨z,r,htr⟩:=O;refine MF λK2 Z2=>NQ [.x,.p] rfl (X43 rfl rfl r RX.all (dx rfl rfl (EH (Z2 _ _ _ (MF λK3 Z3=>Ycw rfl (X4z ?_))))));dsimp only [Qd,OB];refine Xuv (Hh rfl ?_);exact⟨⟨_,rfl⟩,hE _ _ _ hj z⟩
theorem X7g (mv:Value)(w:World)(hv:H4 w mv) :
  Calls Tryz.prog 67 [mv].toArray w (ES w (λu w'=>∃b,u=I7 133 [EE b 0]/\EK w' b [mv] 120)):=by
 refine cw Tryz.func67 ?_;have r:=ED.refl w;refine ws λ_ O=>wr (Gn rfl rfl (Xuz hv) RX.all (λb1 w1 e1 Y J=>?_));have g1:=r.ge e1;have r:=r.trans Y;refine da (de O (ws λ_ z=>wr ?_));refine dp (Ob rfl) (da (de z (EJ ?_)));refine ro ?_;exact⟨_,rfl,r,b1,rfl,J⟩
theorem Xoo (bk:Nat)(mv:Value)(w:World)(hk:EK w bk [mv] 120)(hv:H4 w mv) :
  Calls Tryz.prog 202 [.slice none 0 0,I7 133 [EE bk 0]].toArray w (Pure w (.slice none 0 0)):=by
 refine Ul Tryz.func202 rfl rfl rfl EA ?_;have r:=ED.refl w;refine MF λK1 Z1=>NQ [.x,.p] rfl (Gn rfl rfl rfl RX.all (λb1 w1 e1 x1 O=>?_));have g1:=r.ge e1;have r:=r.trans x1;refine da ?_;refine EH (Z1 _ _ _ (MF λK2 Z2=>MF λK3 Z3=>NQ [.p] rfl (dm ?_)));refine EH (Z3 _ _ _ (Wd ?_));have Z:(ED w w1/\EK w1 b1 [.slice none 0 0] 58/\EK w1 bk [mv] 120/\H4 w1 mv):=⟨r,O,hk.ext r,hv.ext r⟩;have hx3:=r.size;have hbk:=hk.lt;have hb1:=O.lt;refine Xzh (gf:=133) (N:=0) (lb:=#[EE bk 0]) (args:=λk=>[S []]) rfl EA (λ_=>rfl) (λk W=>(ED w W/\EK W b1 [.slice none 0 0] 58/\EK W bk [mv] 120/\H4 W mv)) (λk E1 W=>False) Z ?hX ?hL ?hAL ?hit ?assign ?body ?h
 case hX=>
  rintro k W W' ⟨h1,h2,h3,h4⟩ x;exact⟨h1.trans x,h2.ext x,h3.ext x,h4.ext x⟩
 case hL=>
  rintro k W l' o z ⟨h1,h2,h3,h4⟩ hle hl ho;have:=r.size;exact⟨h1.own (Mod.putObj W l' z) (λi hi=>by have hc:i=l':=hi;omega),h2.put z hl ho,h3.put z hl ho,h4.imp id λ⟨b,e,hb⟩=>⟨b,e,hb.mod (Mod.putObj W l' z) (λe2=>by have e3:b=l':=e2;have h9:=hv.lt e;omega)⟩⟩
 case hAL=>exact λk E1 W l' o z h=>h.elim
 case hit=>
  intro ly J Y hf hY W hj;exact X1c bk ly mv J W (λk W h=>⟨(Y k W h).2.2.1,(Y k W h).2.2.2⟩) hf hj
 case assign=>exact λk l W hk=>absurd hk (B6 k)
 case body=>exact λk l E1 W keep hk=>absurd hk (B6 k)
 case h=>
  intro D w8 hD hI ha;clear r O Z;obtain⟨r,O,-,-⟩:=hI;refine Z2 _ _ _ (MF λK4 Z4=>NQ [.l,.p] rfl (dl rfl (O.at rfl) (da ?_)));refine EH (Z4 _ _ _ (X8x ?_));refine Xuw ha (ro ?_);have hxs:=r.size;exact⟨rfl,r.own (Mod.putObj _ D _) (λi hi=>by have hc:i=D:=hi;omega)⟩
theorem Xtq (bk:Nat)(mv:Value)(w:World)(hk:EK w bk [mv] 120)(hv:H4 w mv) :
  Calls Tryz.prog 131 [I7 133 [EE bk 0]].toArray w (Pure w (.slice none 0 0)):=by
 refine cw Tryz.func131 ?_;have r:=ED.refl w;refine ws λ_ z=>wr (da (de z (ws λ_ O=>wr (dm ?_))));refine cP (Xoo bk mv _ (hk.ext r) (hv.ext r)) RX.all λw1 J=>?_;have r:=r.trans J;refine da (de O (EJ ?_));refine ro ?_;exact⟨rfl,r⟩
theorem Xyg (bk:Nat)(mv:Value)(w:World)(hk:EK w bk [mv] 120)(hv:H4 w mv) :
  Calls Tryz.prog 66 [I7 133 [EE bk 0]].toArray w (Pure w (.slice none 0 0)):=by
 refine cw Tryz.func66 ?_;have r:=ED.refl w;refine ws λ_ Y=>wr (da (de Y (ws λ_ z=>wr (dm ?_))));refine cP (Xtq bk mv _ (hk.ext r) (hv.ext r)) RX.all λw1 Z=>?_;have r:=r.trans Z;refine da (de z (ws λ_ Z3=>wr (dm ?_)));refine cP (X7f _) RX.all λw2 J=>?_;have r:=r.trans J;refine de Z3 (ws λ_ O=>wr (dm (da (de O (EJ ?_)))));refine ro ?_;exact⟨rfl,r⟩
theorem Hj (bd mf:Nat)(room:Int)(w:World)(hd:EK w bd [I room,.map (some mf),B false,I 0] 122)(hm:FV w mf) :
  Calls Tryz.prog 28 [EE bd 0].toArray w (Pure w (.slice none 0 0)):=by
 refine cw Tryz.func28 ?_;have r:=ED.refl w;refine ws λ_ Z1=>wr (da (de Z1 (ws λ_ Y=>ws λ_ O=>wr (dm ?_))));refine dp (Gi EA rfl rfl) (de O (wi (λJ=>?_) λJ=>?_))
 ·exact absurd J ER
 refine EI (Y _ _ (ws λ_ Z=>wr (dm ?_)));refine dz rfl (df 1 rfl (dl rfl ((hd.ext r).at rfl) (cG (X7g (.map (some mf)) _ (hm.ext r).val) RX.all λu1 w1 x1 z=>?_)));have hsz1:=r.size;have r:=r.trans x1;obtain⟨bk,rfl,hk⟩:=z;refine cP (Xyg bk _ _ hk (hm.ext r).val) RX.all λw2 x2=>?_;have r:=r.trans x2;refine da (de Z (EJ ?_));refine ro ?_;exact⟨rfl,r⟩
theorem X1d (s:EC)(w:World) :
  Calls Tryz.prog 201 [.slice none 0 0,S s].toArray w (Pure w (I (-1))):=by
 refine cw Tryz.func201 ?_;have z:=ED.refl w;refine ws λ_ Z1=>wr (da (de Z1 (ws λ_ Y=>ws λ_ Z3=>wr (dm ?_))));refine dv 9 1 (EQ.nil (enc:=FU) (sz:=1) (w:=w)).sl (dm (de Z3 (EM ?_)));refine Fq (G:=Unit) (λJ=>[(0,.slice none 0 0),(1,S s),(7,I 0),(8,I 0)]) (λJ w'=>ED w w'/\True) (λJ=>0) () ?_ ?_ ?_
 ·exact Gc
 ·exact⟨z,trivial⟩
 intro X1 g1 w1 r;revert r;revert g1;intro J r;clear z;obtain⟨z,htr⟩:=r;refine ws λ_ Z=>wr (dp (Fb rfl rfl) (de Z (ws λ_ Z5=>wi (λO=>?_) λO=>?_)))
 ·exact absurd O EN
 refine Fk (Y _ _ (ws λ_ Z6=>wr (da (de Z6 (EJ ?_)))));refine ro ?_;exact⟨rfl,z⟩
theorem Xqe (s:EC)(w:World) :
  Calls Tryz.prog 130 [.slice none 0 0,S s].toArray w (Pure w (B false)):=by
 refine cw Tryz.func130 ?_;have r:=ED.refl w;refine ws λ_ z=>wr (da (de z (ws λ_ O=>wr (dm (dm ?_)))));refine cP (X1d s _) RX.all λw1 J=>?_;have r:=r.trans J;refine dp (IA rfl rfl) (da (de O (EJ ?_)));refine ro ?_;exact⟨rfl,r⟩
theorem I8 (bd mf:Nat)(room:Int)(s:EC)(w:World)(hd:EK w bd [I room,.map (some mf),B false,I 0] 122)(hm:FV w mf) :
  Calls Tryz.prog 189 [EE bd 0,S s].toArray w (Pure w (B false)):=by
 refine cw Tryz.func189 ?_;have r:=ED.refl w;refine ws λ_ J=>wr (da (de J (ws λ_ z=>wr (dm ?_))));refine cP (Hj bd mf room _ (hd.ext r) (hm.ext r)) RX.all λw1 O=>?_;have r:=r.trans O;refine dm ?_;refine cP (Xqe s _) RX.all λw2 Y=>?_;have r:=r.trans Y;refine da (de z (EJ ?_));refine ro ?_;exact⟨rfl,r⟩
theorem Hr (bd mf:Nat)(room:Int)(l:List EC)(v:Value)(w:World)(hd:EK w bd [I room,.map (some mf),B false,I 0] 122)(hm:FV w mf)(hv:EQ FU 1 w v l)(hl:l.length<=1000) :
  Calls Tryz.prog 178 [EE bd 0,v].toArray w (Pure w (I 0)):=by
 refine cw Tryz.func178 ?_;have r:=ED.refl w;refine ws λ_ Z1=>wr (da (de Z1 (ws λ_ Z2=>ws λ_ Z3=>wr (dm ?_))));refine dv 9 1 hv.sl (dm (de Z3 (EM ?_)));refine Fq (G:=Nat) (λk=>[(0,EE bd 0),(8,v),(9,I ↑l.length),(10,I ↑k)]) (λk w'=>ED w w'/\k<=l.length) (λk=>l.length-k) 0 ?_ ?_ ?_
 ·exact Gc
 ·exact⟨r,Ae _⟩
 intro X1 g1 w1 z;revert z;revert g1;intro k z;clear r;obtain⟨r,hk1⟩:=z;refine ws λ_ Z4=>wr (dp (Fb rfl rfl) (de Z4 (ws λ_ Z5=>wi (λY=>?_) λY=>?_)))
 ·obtain⟨s,hk⟩:∃s,l[k]?=some s:=Fw;refine EI (Z5 _ _ (ws λ_ O=>EM (ws λ_ Z7=>wr (di 9 1 hv.sl rfl (hv.lt hk) (dl rfl (((hv.ext r).row hk).at0 rfl) (da (de Z7 (ws λ_ Z8=>ws λ_ Z9=>wr (dm (dm ?_))))))))));refine cP (I8 bd mf room s _ (hd.ext r) (hm.ext r)) RX.all λw2 Z=>?_;have r:=r.trans Z;refine dn (de Z9 ?_);refine GS rfl (Fk (O _ _ (wr (pa rfl rfl (dm (EH (?_)))))));refine⟨k+1,Gc,⟨r,by omega⟩,by omega⟩
 refine Fk (Z2 _ _ (ws λ_ J=>wr (da (de J (EJ ?_)))));refine ro ?_;exact⟨rfl,r⟩
theorem Il (bd mf:Nat)(room:Int)(s:EC)(w:World)(hd:EK w bd [I room,.map (some mf),B false,I 0] 122)(hm:FV w mf)(hs:s.length<=maxLen) :
  Calls Tryz.prog 190 [EE bd 0,S s].toArray w (Pure w (.tuple #[.slice none 0 0,I 7])):=by
 refine cw Tryz.func190 ?_;have r:=ED.refl w;have z:Vc.Xbq Tryz.prog 9 S pO w mf 0 (λ_=>none):=hm.at;refine ws λ_ Z=>wr (da (da (de Z (ws λ_ Z2=>ws λ_ Z3=>wr (dm ?_)))));refine dp (Gi EA rfl rfl) (dm ?_);refine F4 8 rfl (λO=>?_) (λO=>?_)
 ·exact absurd O ER
 refine dm ?_;refine dz rfl (df 1 rfl (dl rfl ((hd.ext r).at rfl) (dm ?_)));refine dq (L5 GR (kx:=s) (z0:=none) rfl rfl EA (z.ext r) hs) (dp (Gi EA rfl rfl) (EP (de Z3 ?_)));refine wi (λJ=>?_) λJ=>?_
 ·refine ws λ_ Y=>wr (da (da (de Y (EJ ?_))));refine rt ?_;exact⟨rfl,r⟩
 exact absurd rfl J
theorem Ir (bd mf:Nat)(room:Int)(s:EC)(w:World)(hd:EK w bd [I room,.map (some mf),B false,I 0] 122)(hm:FV w mf)(hs:s.length<=maxLen) :
  Calls Tryz.prog 123 [EE bd 0,S s].toArray w (Pure w (.tuple #[.slice none 0 0,I 7])):=by
 refine cw Tryz.func123 ?_;have r:=ED.refl w;refine ws λ_ Z1=>wr (da (da (de Z1 (ws λ_ Y=>ws λ_ Z3=>wr (dm ?_)))));refine dp (Gi EA rfl rfl) (de Z3 (wi (λJ=>?_) λJ=>?_))
 ·exact absurd J ER
 refine EI (Y _ _ (ws λ_ Z=>wr (dm (dm ?_))));refine cP (Il bd mf room s _ (hd.ext r) (hm.ext r) hs) RX.all λw1 x1=>?_;have r:=r.trans x1;refine dm ?_;refine dx rfl rfl (dx rfl rfl (da (da (de Z (ws λ_ Z5=>ws λ_ Z6=>wr (dm ?_))))));refine dp (FH rfl rfl) (de Z6 (wi (λz=>?_) λz=>?_))
 ·refine ws λ_ O=>wr (dm (da (da (de O (EJ ?_)))));refine rt ?_;exact⟨rfl,r⟩
 exact absurd z EN
theorem Gq (bl bd:Nat)(w:World)(hl:EK w bl [EE bd 0,S [115],I 0,.slice none 0 0,.slice none 0 0,B false] 147) :
  Calls Tryz.prog 177 [EE bl 0].toArray w (Pure w (S [115,45,105,109,103])):=by
 refine cw Tryz.func177 ?_;have r:=ED.refl w;refine ws λ_ z=>wr (da (de z (ws λ_ J=>wr (dm ?_))));refine dz rfl (df 1 rfl (dl rfl ((hl.ext r).at rfl) (dp (II rfl rfl (by simp;done)) (da (de J (EJ ?_))))));refine ro ?_;exact⟨rfl,r⟩
theorem FB (bl bd:Nat)(w:World)(hl:EK w bl [EE bd 0,S [115],I 0,.slice none 0 0,.slice none 0 0,B false] 147) :
  Calls Tryz.prog 84 [EE bl 0].toArray w (Pure w (S [115,45,108,111,103])):=by
 refine cw Tryz.func84 ?_;have r:=ED.refl w;refine ws λ_ z=>wr (da (de z (ws λ_ J=>wr (dm ?_))));refine dz rfl (df 1 rfl (dl rfl ((hl.ext r).at rfl) (dp (II rfl rfl (by simp;done)) (da (de J (EJ ?_))))));refine ro ?_;exact⟨rfl,r⟩
theorem X1e (bl bd mf:Nat)(room:Int)(w:World)(hl:EK w bl [EE bd 0,S [115],I 0,.slice none 0 0,.slice none 0 0,B false] 147)(hd:EK w bd [I room,.map (some mf),B false,I 0] 122)(hm:FV w mf) :
  Calls Tryz.prog 115 [EE bl 0].toArray w (Pure w (I 0)):=by
 refine cw Tryz.func115 ?_;have r:=ED.refl w;refine ws λ_ Z1=>wr (da (de Z1 (ws λ_ Z2=>?_)));refine F9 (R:=ED) ED.refl (λ_ _ _=>ED.trans) EA [3] [(0,.p,false),(1,.p,false),(2,.p,false),(3,.l,false),(4,.p,false),(5,.x,false),(6,.p,false),(7,.x,false),(8,.x,true),(9,.p,false)] rfl EA EA (λw1 z=>?_);have x1:=EL z;clear z;have r:=r.trans x1;refine dm ?_;refine dz rfl (df 0 rfl (dL rfl (λ_ O=>((hl.ext (r.trans O)).at rfl)) (dm ?_)));refine cP (Gq bl bd _ (hl.ext r)) RX.ext λw2 Y=>?_;have r:=r.trans Y;refine dp (II rfl rfl (by simp;done)) (li (e:=9) (sz:=1) (zs:=[S []]) (pv:=[(0,_)]) (cs:=[_]) RX.ext (λb1 w3 e1 Z m1=>?_));have g1:=r.ge e1;have r:=r.trans Z;refine cP (Hr bd mf room [[115,45,105,109,103]++[126]] _ _ (hd.ext r) (hm.ext r) (m1.arr (enc:=FU) (sz:=1) rfl EF rfl ER) ER) RX.all λw4 J=>?_;have r:=r.trans J;refine da (de Z2 (EJ ?_));refine ro ?_;exact⟨rfl,r⟩
theorem X7h (bl bd mf:Nat)(room:Int)(w:World)(hl:EK w bl [EE bd 0,S [115],I 0,.slice none 0 0,.slice none 0 0,B false] 147)(hd:EK w bd [I room,.map (some mf),B false,I 0] 122)(hm:FV w mf) :
  Calls Tryz.prog 116 [EE bl 0].toArray w (Pure w (I 0)):=by
 refine cw Tryz.func116 ?_;have r:=ED.refl w;refine ws λ_ Z1=>wr (da (de Z1 (ws λ_ Y=>?_)));refine F9 (R:=ED) ED.refl (λ_ _ _=>ED.trans) EA [3] [(0,.p,false),(1,.p,false),(2,.p,false),(3,.l,false),(4,.p,false),(5,.x,false),(6,.x,true),(7,.p,false),(8,.p,false),(9,.p,false),(10,.p,false),(11,.p,false)] rfl EA EA (λw1 z=>?_);have x1:=EL z;clear z;have r:=r.trans x1;refine dm ?_;refine dz rfl (df 0 rfl (dL rfl (λ_ hR=>((hl.ext (r.trans hR)).at rfl)) (dm ?_)));refine cP (Gq bl bd _ (hl.ext r)) RX.ext λw2 x2=>?_;have r:=r.trans x2;refine cP (Ir bd mf room [115,45,105,109,103] _ (hd.ext r) (hm.ext r) EN) RX.all λw3 O=>?_;have r:=r.trans O;refine dm ?_;refine dx rfl rfl (dx rfl rfl (da (da (de Y (ws λ_ Z3=>ws λ_ Z=>wr (dm ?_))))));refine dp (GB rfl rfl) (de Z (wi (λJ=>?_) λJ=>?_))
 ·refine ws λ_ Z5=>wr (da (de Z5 (EJ ?_)));refine ro ?_;exact⟨rfl,r⟩
 exact absurd rfl J
theorem Ycg (bl bd mf:Nat)(room:Int)(w:World)(hl:EK w bl [EE bd 0,S [115],I 0,.slice none 0 0,.slice none 0 0,B false] 147)(hd:EK w bd [I room,.map (some mf),B false,I 0] 122)(hm:FV w mf) :
  Calls Tryz.prog 117 [EE bl 0].toArray w (Pure w (I 0)):=by
 refine cw Tryz.func117 ?_;have r:=ED.refl w;refine ws λ_ Z1=>wr (da (de Z1 (ws λ_ Z2=>ws λ_ Z3=>?_)));refine F9 (R:=ED) ED.refl (λ_ _ _=>ED.trans) EA [3] [(0,.p,false),(1,.p,false),(2,.p,false),(3,.l,false),(4,.p,false),(5,.x,false),(6,.x,true),(7,.p,false)] rfl EA EA (λw1 z=>?_);have Z:=EL z;clear z;have r:=r.trans Z;refine dm ?_;refine dz rfl (df 0 rfl (dL rfl (λ_ hR=>((hl.ext (r.trans hR)).at rfl)) (dm ?_)));refine cP (FB bl bd _ (hl.ext r)) RX.ext λw2 O=>?_;have r:=r.trans O;refine cP (I8 bd mf room [115,45,108,111,103] _ (hd.ext r) (hm.ext r)) RX.all λw3 J=>?_;have r:=r.trans J;refine dn (de Z3 ?_);refine GS rfl (ws λ_ Y=>wr (da (de Y (EJ ?_))));refine ro ?_;exact⟨rfl,r⟩
theorem X1f (w:World) :
  Calls Tryz.prog 87 [.slice none 0 0].toArray w (Pure w (.slice none 0 0)):=by
 refine cw Tryz.func87 ?_;have z:=ED.refl w;refine ws λ_ J=>wr (da (de J (ws λ_ Z2=>ws λ_ O=>wr (dm ?_))));refine dp (NA (e:=5) (k:=1) EA (EQ.nil (enc:=EO) (sz:=1) (w:=w)).sl rfl rfl) (de O (wc (λr=>?_) λr=>?_))
 ·refine ws λ_ Y=>wr (da (de Y (EJ ?_)));refine ro ?_;exact⟨rfl,z⟩
 exact absurd r EN
theorem Xw (bl bd:Nat)(w:World)(hl:EK w bl [EE bd 0,S [115],I 0,.slice none 0 0,.slice none 0 0,B false] 147) :
  Calls Tryz.prog 60 [EE bl 0].toArray w (Pure w (.tuple #[I 0,.slice none 0 0])):=by
 refine cw Tryz.func60 ?_;have r:=ED.refl w;refine ws λ_ Z1=>wr (da (da (de Z1 (ws λ_ Y=>ws λ_ Z3=>wr (dm ?_)))));refine dp (Gi EA rfl rfl) (de Z3 (wi (λO=>?_) λO=>?_))
 ·exact absurd O ER
 refine EI (Y _ _ (ws λ_ Z=>F9 (R:=ED) ED.refl (λ_ _ _=>ED.trans) EA [3,7] [(0,.p,false),(1,.p,false),(2,.p,false),(3,.l,false),(4,.p,false),(5,.p,false),(6,.p,false),(7,.l,false),(8,.x,false),(9,.p,false),(10,.p,false)] rfl EA EA (λw1 z=>?_)));have x1:=EL z;clear z;have r:=r.trans x1;refine dm ?_;refine dz rfl (df 2 rfl (dL rfl (λ_ J=>((hl.ext (r.trans J)).at rfl)) (dm ?_)));refine dz rfl (df 3 rfl (dL rfl (λ_ J=>((hl.ext (r.trans J)).at rfl)) (cP (X1f _) RX.ext λw2 x2=>?_)));have r:=r.trans x2;refine da (da (de Z (EJ ?_)));refine rt ?_;exact⟨rfl,r⟩
theorem GC (bl bd:Nat)(w:World)(hl:EK w bl [EE bd 0,S [115],I 0,.slice none 0 0,.slice none 0 0,B false] 147) :
  Calls Tryz.prog 55 [EE bl 0].toArray w (Pure w (I 0)):=by
 refine cw Tryz.func55 ?_;have r:=ED.refl w;refine ws λ_ Z1=>wr (da (de Z1 (ws λ_ Y=>ws λ_ Z3=>wr (dm ?_))));refine dp (Gi EA rfl rfl) (de Z3 (wi (λO=>?_) λO=>?_))
 ·exact absurd O ER
 refine EI (Y _ _ (ws λ_ Z=>F9 (R:=ED) ED.refl (λ_ _ _=>ED.trans) EA [3,7] [(0,.p,false),(1,.p,false),(2,.p,false),(3,.l,false),(4,.p,false),(5,.p,false),(6,.p,false),(7,.l,false),(8,.p,false),(9,.p,false),(10,.p,false)] rfl EA EA (λw1 z=>?_)));have x1:=EL z;clear z;have r:=r.trans x1;refine dm ?_;refine dz rfl (df 2 rfl (dL rfl (λ_ J=>((hl.ext (r.trans J)).at rfl)) (dm ?_)));refine dz rfl (df 4 rfl (dL rfl (λ_ J=>((hl.ext (r.trans J)).at rfl)) (dv 82 1 (EQ.nil (enc:=FU) (sz:=3) (w:=w)).sl (dp (Gy rfl rfl (by simp [EU])) (da (de Z (EJ ?_)))))));refine ro ?_;exact⟨rfl,r⟩
theorem diskNew_w (room:Int)(w:World)(h0:0<=room)(h1:room<=1073741824) :
  Calls Tryz.prog 33 [I room].toArray w (ES w (λu w'=>∃bd mf,u=.tuple #[EE bd 0,I 0]/\EK w' bd [I room,.map (some mf),B false,I 0] 122/\FV w' mf/\w.heap.size<=bd/\w.heap.size<=mf)):=by
 refine cw Tryz.func33 ?_;have z:=ED.refl w;refine ws λ_ Z1=>wr (da (da (de Z1 (ws λ_ Z=>ws λ_ Z3=>wr (dm ?_)))));refine dp (Fb rfl rfl) (dm ?_);refine F4 6 rfl (λY=>?_) (λY=>?_)
 ·omega
 refine dm ?_;refine dp (Gg rfl rfl) (EP (de Z3 ?_));refine wi (λO=>?_) λO=>?_
 ·omega
 refine EI (Z _ _ (ws λ_ Z4=>wr (dm ?_)));refine Wv rfl RX.all (λb1 w1 e1 x1 r=>?_);have g1:=z.ge e1;have z:=z.trans x1;refine db (zs:=[.int .i64 0,.map none,B false,.int .i64 0]) (pl:=[(0,1),(1,1),(2,1),(3,1)]) (pv:=[(0,_),(1,_)]) (cs:=[_,_,B false,.int .i64 0]) ?_;refine Gn rfl rfl rfl RX.all (λb2 w2 e2 J m2=>?_);have g2:=z.ge e2;have n2_mp1:=r.lt;have r:=r.ext J;have z:=z.trans J;refine da (da (de Z4 (EJ ?_)));refine rt ?_;exact⟨_,rfl,z,b2,b1,rfl,m2,r,g2,g1⟩
theorem Xop (bd mf:Nat)(room:Int)(w:World)(hd:EK w bd [I room,.map (some mf),B false,I 0] 122)(hm:FV w mf) :
  Calls Tryz.prog 59 [EE bd 0,S [115]].toArray w (ES w (λu w'=>∃bl,u=.tuple #[EE bl 0,I 0]/\EK w' bl [EE bd 0,S [115],I 0,.slice none 0 0,.slice none 0 0,B false] 147/\w.heap.size<=bl)):=by
 refine cw Tryz.func59 ?_;have r:=ED.refl w;refine ws λ_ Z1=>wr (da (da (de Z1 (ws λ_ Z2=>ws λ_ Z3=>wr (dm ?_)))));refine dp (Gi EA rfl rfl) (dm ?_);refine F4 12 rfl (λc1=>?_) (λc1=>?_)
 ·exact absurd c1 ER
 refine dm ?_;refine dt rfl (dp (Fb rfl rfl) (EP ?_));refine dm ?_;refine F4 17 rfl (λc2=>?_) (λc2=>?_)
 ·exact absurd c2 EN
 refine dm ?_;refine dt rfl (dp (Gg rfl rfl) (EP (de Z3 ?_)));refine wi (λc3=>?_) λc3=>?_
 ·exact absurd c3 EN
 refine EI (Z2 _ _ (ws λ_ Z4=>wr (dm (dm ?_))));refine db (zs:=[.pointer none,S [],.int .i64 0,.slice none 0 0,.slice none 0 0,B false]) (pl:=[(0,1),(1,1),(2,1),(3,1),(4,1),(5,1)]) (pv:=[(0,_),(1,_)]) (cs:=[_,_,.int .i64 0,.slice none 0 0,.slice none 0 0,B false]) ?_;refine Gn rfl rfl rfl RX.all (λb1 z e1 x1 J=>?_);have g1:=r.ge e1;have r:=r.trans x1;refine da (de Z4 (ws λ_ Z5=>ws λ_ Z6=>wr (dm ?_)));refine dp (Mo rfl) (dm ?_);refine dp (Mo rfl) (dm ?_);refine dp (Mo rfl) (li (e:=81) (sz:=1) (zs:=[.nilFunc]) (pv:=[(0,_),(1,_),(2,_)]) (cs:=[_,_,_]) RX.all (λb2 w2 e2 x2 O=>?_));have g2:=r.ge e2;have n2_1:=J.ltb e2;have J:=J.ext x2;have r:=r.trans x2;refine dv 81 1 (O.arr (enc:=λg:Value=>[g]) (sz:=1) (l:=[GG 115 [EE b1 0],GG 116 [EE b1 0],GG 117 [EE b1 0]]) rfl EF rfl ER).sl (dm (de Z6 (EM ?_)));refine Fq (G:=Nat) (λk=>[(6,EE b1 0),(32,.slice (some ⟨b2,0,none⟩) 3 3),(33,I 3),(34,I ↑k)]) (λk w'=>ED w w'/\EK w' b1 [EE bd 0,S [115],I 0,.slice none 0 0,.slice none 0 0,B false] 147/\EK w' b2 [GG 115 [EE b1 0],GG 116 [EE b1 0],GG 117 [EE b1 0]] 81/\k<=3) (λk=>3-k) 0 ?_ ?_ ?_
 ·exact Gc
 ·exact⟨r,J,O,Ae _⟩
 intro X3 g3 w3 Y;revert Y;revert g3;intro k Y;clear r J O;obtain⟨r,J,O,hk1⟩:=Y;refine ws λ_ Z7=>wr (dp (Fb rfl rfl) (de Z7 (ws λ_ Z8=>wi (λc4=>?_) λc4=>?_)))
 ·obtain⟨g,hk⟩:∃g,[GG 115 [EE b1 0],GG 116 [EE b1 0],GG 117 [EE b1 0]][k]?=some g:=⟨_,Ar (by simp;omega)⟩;obtain⟨f,rfl,hcb,hcall⟩:∃f,g=GG f [EE b1 0]/\GM Tryz.prog f=true/\∀z,EK z b1 [EE bd 0,S [115],I 0,.slice none 0 0,.slice none 0 0,B false] 147->EK z bd [I room,.map (some mf),B false,I 0] 122->FV z mf->Calls Tryz.prog f ([EE b1 0]++[]).toArray z (Pure z (I 0)):=by
   match k,hk with
   | 0,hk=>simp only [Dg,CL,A0.injEq]at hk;exact⟨_,hk.symm,by kernel_rfl,λz h1 h2 h3=>X1e b1 bd mf room z h1 h2 h3⟩
   | 1,hk=>simp only [Dg,CL,A0.injEq]at hk;exact⟨_,hk.symm,by kernel_rfl,λz h1 h2 h3=>X7h b1 bd mf room z h1 h2 h3⟩
   | 2,hk=>simp only [Dg,CL,A0.injEq]at hk;exact⟨_,hk.symm,by kernel_rfl,λz h1 h2 h3=>Ycg b1 bd mf room z h1 h2 h3⟩
   | k+3,hk=>simp at hk
  refine EI (Z8 _ _ (ws λ_ Z9=>EM (ws λ_ hf=>wr (di 81 1 (O.arr (enc:=λg:Value=>[g]) (sz:=1) (l:=[GG 115 [EE b1 0],GG 116 [EE b1 0],GG 117 [EE b1 0]]) rfl EF rfl ER).sl rfl ((O.arr (enc:=λg:Value=>[g]) (sz:=1) (l:=[GG 115 [EE b1 0],GG 116 [EE b1 0],GG 117 [EE b1 0]]) rfl EF rfl ER).lt hk) (dl rfl (((O.arr (enc:=λg:Value=>[g]) (sz:=1) (l:=[GG 115 [EE b1 0],GG 116 [EE b1 0],GG 117 [EE b1 0]]) rfl EF rfl ER).row hk).at0 rfl) (da (de hf ?_)))))));refine ws λ_ hc=>wr (dm ?_);refine Xzm (vs:=[]) rfl rfl hcb (hcall _ J (hd.ext r) (hm.ext r)) rfl RX.all (λw4 Z=>?_);have J:=J.ext Z;have O:=O.ext Z;have r:=r.trans Z;refine da (de hc (ws λ_ hb=>wr (dm ?_)));refine dp (FH rfl rfl) (de hb (wi (λc5=>?_) λc5=>?_))
  ·exact absurd rfl c5
  refine EI (Z9 _ _ (wr (pa rfl rfl (dm (EH (?_))))));refine⟨k+1,Gc,⟨r,J,O,by omega⟩,by omega⟩
 refine Fk (Z5 _ _ (ws λ_ ha=>wr (dm (da (da (de ha (EJ ?_)))))));refine rt ?_;exact⟨_,rfl,r,b1,rfl,J,g1⟩
structure MemE (w:World)(bm ba bn:Nat):Prop where
 m:EK w bm [.slice (some ⟨ba,0,none⟩) 1 1,.slice none 0 0,I 0,I 0] 155
 a:EK w ba [S [],S [],B false,I 0,.slice (some ⟨bn,0,none⟩) 12 12] 172
 n:EK w bn (Ax 12 (I 0)) 3
theorem MemE.ext {w w':World}{bm ba bn:Nat}(h:MemE w bm ba bn)(x:ED w w'):MemE w' bm ba bn:=⟨h.m.ext x,h.a.ext x,h.n.ext x⟩
structure StE (w:World)(bs bd bl mo bm ba bn mf:Nat)(room:Int):Prop where
 s:EK w bs [EE bd 0,EE bl 0,I 1,.slice none 0 0,.map (some mo),EE bm 0,B false] 90
 l:EK w bl [EE bd 0,S [115],I 0,.slice none 0 0,.slice none 0 0,B false] 147
 d:EK w bd [I room,.map (some mf),B false,I 0] 122
 f:FV w mf
 o:FV w mo
 m:MemE w bm ba bn
theorem Qm (w:World) :
  Calls Tryz.prog 102 [.slice none 0 0].toArray w (Pure w (.slice none 0 0)):=by
 refine cw Tryz.func102 ?_;have z:=ED.refl w;refine ws λ_ J=>wr (da (de J (ws λ_ Z2=>ws λ_ O=>wr (dm ?_))));refine dp (NA (e:=174) (k:=1) EA (EQ.nil (enc:=EO) (sz:=1) (w:=w)).sl rfl rfl) (de O (wc (λr=>?_) λr=>?_))
 ·refine ws λ_ Y=>wr (da (de Y (EJ ?_)));refine ro ?_;exact⟨rfl,z⟩
 exact absurd r EN
theorem X1g (w:World) :
  Calls Tryz.prog 47 [.slice none 0 0].toArray w (ES w (λu w'=>∃bm ba bn,u=EE bm 0/\MemE w' bm ba bn/\w.heap.size<=bm/\w.heap.size<=ba/\w.heap.size<=bn)):=by
 refine cw Tryz.func47 ?_;have r:=ED.refl w;refine ws λ_ Z1=>wr (da (de Z1 (ws λ_ Z2=>?_)));refine Lb (R:=ED) ED.refl (λ_ _ _=>ED.trans) EA [] (.one 3 .p false (.fork (.alt 0 true (.one 1 .p false (.fork (.alt 2 true (.one 4 .x true (.one 5 .p false (.one 6 .x true (.one 7 .p false .nil)))) (.alt 4 true (.one 2 .x true (.one 5 .p false (.one 6 .x true (.one 7 .p false .nil)))) .stop)))) (.alt 4 true (.one 0 .x true (.one 1 .p false (.one 2 .x true (.one 5 .p false (.one 6 .x true (.one 7 .p false .nil)))))) .stop)))) EA EA (λw1 Z=>?_);have x1:=EL Z;clear Z;have r:=r.trans x1;refine EX (dm (EH ?_));refine Ju ?_;refine H6 ?_ ?_
 ·refine LN (e:=3) (sz:=1) (by':=8) (zs:=[.int .i64 0]) rfl EA EA EA rfl rfl EN EN RX.all (λb1 w2 e1 x2 z=>?_);have g1:=r.ge e1;have r:=r.trans x2;refine EH (EX (db (zs:=[S [],S [],B false,.int .i64 0,.slice none 0 0]) (pl:=[(0,4),(4,1)]) (pv:=[(1,_)]) (cs:=[S [],S [],B false,.int .i64 0,_]) (EH ?_)));refine Ju ?_;refine H6 ?_ ?_
  ·refine li (e:=172) (sz:=5) (zs:=[S [],S [],B false,.int .i64 0,.slice none 0 0]) (pv:=[(0,.agg ⟨[_,_,_,_,_]⟩)]) (cs:=[_,_,_,_,_]) RX.all (λb2 w3 e2 x3 Y=>?_);have g2:=r.ge e2;have n2_1:=z.ltb e2;have z:=z.ext x3;have r:=r.trans x3;refine EH (EX (cP (Qm _) RX.all λw4 x4=>?_));have z:=z.ext x4;have Y:=Y.ext x4;have r:=r.trans x4;refine EH (EX (db (zs:=[.slice none 0 0,.slice none 0 0,.int .i64 0,.int .i64 0]) (pl:=[(0,1),(1,1),(2,1),(3,1)]) (pv:=[(0,_),(1,_)]) (cs:=[_,_,.int .i64 0,.int .i64 0]) (EH ?_)));refine EX (Gn rfl rfl rfl RX.all (λb3 w5 e3 x5 m3=>?_));have g3:=r.ge e3;have n3_1:=z.ltb e3;have n3_2:=Y.ltb e3;have z:=z.ext x5;have Y:=Y.ext x5;have r:=r.trans x5;refine EH (EX (da (EH ?_)));refine Ii (Z2 _ _ (EJ (ro ?_)));exact⟨_,rfl,r,b3,b2,b1,rfl,⟨m3,Y,z⟩,g3,g2,g1⟩
  refine H6 ?_ ?_
  ·refine cP (Qm _) RX.all λw6 x6=>?_;have z:=z.ext x6;have r:=r.trans x6;refine EH (EX (li (e:=172) (sz:=5) (zs:=[S [],S [],B false,.int .i64 0,.slice none 0 0]) (pv:=[(0,.agg ⟨[_,_,_,_,_]⟩)]) (cs:=[_,_,_,_,_]) RX.all (λb4 w7 e4 x7 m4=>?_)));have g4:=r.ge e4;have n4_1:=z.ltb e4;have z:=z.ext x7;have r:=r.trans x7;refine EH (EX (db (zs:=[.slice none 0 0,.slice none 0 0,.int .i64 0,.int .i64 0]) (pl:=[(0,1),(1,1),(2,1),(3,1)]) (pv:=[(0,_),(1,_)]) (cs:=[_,_,.int .i64 0,.int .i64 0]) (EH ?_)));refine EX (Gn rfl rfl rfl RX.all (λb5 w8 e5 x8 m5=>?_));have g5:=r.ge e5;have n5_1:=z.ltb e5;have n5_4:=m4.ltb e5;have z:=z.ext x8;have m4:=m4.ext x8;have r:=r.trans x8;refine EH (EX (da (EH ?_)));refine Ii (Z2 _ _ (EJ (ro ?_)));exact⟨_,rfl,r,b5,b4,b1,rfl,⟨m5,m4,z⟩,g5,g4,g1⟩
  exact Jv
 refine H6 ?_ ?_
 ·refine cP (Qm _) RX.all λw9 x9=>?_;have r:=r.trans x9;refine EH (EX (LN (e:=3) (sz:=1) (by':=8) (zs:=[.int .i64 0]) rfl EA EA EA rfl rfl EN EN RX.all (λb6 w10 e6 hb J=>?_)));have g6:=r.ge e6;have r:=r.trans hb;refine EH (EX (db (zs:=[S [],S [],B false,.int .i64 0,.slice none 0 0]) (pl:=[(0,4),(4,1)]) (pv:=[(1,_)]) (cs:=[S [],S [],B false,.int .i64 0,_]) (EH ?_)));refine EX (li (e:=172) (sz:=5) (zs:=[S [],S [],B false,.int .i64 0,.slice none 0 0]) (pv:=[(0,.agg ⟨[_,_,_,_,_]⟩)]) (cs:=[_,_,_,_,_]) RX.all (λb7 w11 e7 ha m7=>?_));have g7:=r.ge e7;have n7_6:=J.ltb e7;have J:=J.ext ha;have r:=r.trans ha;refine EH (EX (db (zs:=[.slice none 0 0,.slice none 0 0,.int .i64 0,.int .i64 0]) (pl:=[(0,1),(1,1),(2,1),(3,1)]) (pv:=[(0,_),(1,_)]) (cs:=[_,_,.int .i64 0,.int .i64 0]) (EH ?_)));refine EX (Gn rfl rfl rfl RX.all (λb8 w12 e8 O m8=>?_));have g8:=r.ge e8;have n8_6:=J.ltb e8;have n8_7:=m7.ltb e8;have J:=J.ext O;have m7:=m7.ext O;have r:=r.trans O;refine EH (EX (da (EH ?_)));refine Ii (Z2 _ _ (EJ (ro ?_)));exact⟨_,rfl,r,b8,b7,b6,rfl,⟨m8,m7,J⟩,g8,g7,g6⟩
 exact Jv
theorem HR (bs bd bl mo bm:Nat)(w:World)(hb:EK w bs [EE bd 0,EE bl 0,I 1,.slice none 0 0,.map (some mo),EE bm 0,B false] 90)(hl:EK w bl [EE bd 0,S [115],I 0,.slice none 0 0,.slice none 0 0,B false] 147) :
  Calls Tryz.prog 63 [EE bs 0].toArray w (Pure w (I 0)):=by
 refine cw Tryz.func63 ?_;have r:=ED.refl w;refine ws λ_ Z1=>wr (da (de Z1 (ws λ_ Z2=>wr (dm ?_))));refine dz rfl (df 1 rfl (dl rfl ((hb.ext r).at rfl) (cP (Xw bl bd _ (hl.ext r)) RX.all λw1 x1=>?_)));have r:=r.trans x1;refine dm ?_;refine dx rfl rfl (dx rfl rfl (da (da (de Z2 (ws λ_ Z3=>ws λ_ Z4=>wr (dm ?_))))));refine pa rfl rfl (da (de Z4 (EM ?_)));refine Fq (G:=Unit) (λJ=>[(0,EE bs 0),(5,I 1)]) (λJ w'=>ED w w'/\True) (λJ=>0) () ?_ ?_ ?_
 ·exact Lo
 ·exact⟨r,trivial⟩
 intro X2 g2 w2 z;revert z;revert g2;intro J z;clear r;obtain⟨r,htr⟩:=z;refine ws λ_ Z5=>ws λ_ Y=>wr (dm (dm ?_));refine dz rfl (df 1 rfl (dl rfl ((hb.ext r).at rfl) (cP (GC bl bd _ (hl.ext r)) RX.all λw3 x3=>?_)));have r:=r.trans x3;refine dp (IG rfl rfl) (de Y (wi (λO=>?_) λO=>?_))
 ·exact absurd O EN
 refine Fk (Z3 _ _ (ws λ_ Z=>wr (da (de Z (EJ ?_)))));refine ro ?_;exact⟨rfl,r⟩
theorem X7i (bd mf:Nat)(room:Int)(s:EC)(w:World)(hd:EK w bd [I room,.map (some mf),B false,I 0] 122)(hm:FV w mf) :
  Calls Tryz.prog 64 [EE bd 0,S s,.slice none 0 0].toArray w (Pure w (I 0)):=by
 refine cw Tryz.func64 ?_;have r:=ED.refl w;refine ws λ_ Z1=>wr (da (de Z1 (ws λ_ Z2=>ws λ_ Z3=>wr (dm ?_))));refine dp (Gi EA rfl rfl) (de Z3 (wi (λY=>?_) λY=>?_))
 ·exact absurd Y ER
 refine EI (Z2 _ _ (ws λ_ Z4=>ws λ_ Z5=>wr (dm ?_)));refine cP (Hj bd mf room _ (hd.ext r) (hm.ext r)) RX.all λw1 x1=>?_;have r:=r.trans x1;refine dv 9 1 (EQ.nil (enc:=FU) (sz:=1) (w:=w)).sl (dm (de Z5 (EM ?_)));refine Fq (G:=Unit) (λJ=>[(0,EE bd 0),(1,S s),(2,.slice none 0 0),(13,.slice none 0 0),(14,I 0),(15,I 0)]) (λJ w'=>ED w w'/\True) (λJ=>0) () ?_ ?_ ?_
 ·exact G2
 ·exact⟨r,trivial⟩
 intro X2 g2 w2 z;revert z;revert g2;intro J z;clear r;obtain⟨r,htr⟩:=z;refine ws λ_ Z6=>wr (dp (Fb rfl rfl) (de Z6 (ws λ_ Z7=>wi (λO=>?_) λO=>?_)))
 ·exact absurd O EN
 refine Fk (Z4 _ _ (ws λ_ Z=>wr (da (de Z (EJ ?_)))));refine ro ?_;exact⟨rfl,r⟩
theorem lsmOpen_w (bd mf:Nat)(room:Int)(w:World)(hd:EK w bd [I room,.map (some mf),B false,I 0] 122)(hm:FV w mf) :
  Calls Tryz.prog 24 [EE bd 0].toArray w (ES w (λu w'=>∃bs bl mo bm ba bn,u=.tuple #[EE bs 0,I 0]/\StE w' bs bd bl mo bm ba bn mf room/\w.heap.size<=bs/\w.heap.size<=bl/\w.heap.size<=mo/\w.heap.size<=bm/\w.heap.size<=ba/\w.heap.size<=bn)):=by
 refine cw Tryz.func24 ?_;have z:=ED.refl w;refine ws λ_ Z1=>wr (da (da (de Z1 (ws λ_ Z2=>ws λ_ Z3=>wr (dm ?_)))));refine dp (Gi EA rfl rfl) (de Z3 (wi (λc1=>?_) λc1=>?_))
 ·exact absurd c1 ER
 refine EI (Z2 _ _ (ws λ_ Z4=>wr (dm ?_)));have hb:=z.size;refine cG (Xop bd mf room _ (hd.ext z) (hm.ext z)) RX.all λu1 w1 x1 h5=>?_;have hsz1:=z.size;have z:=z.trans x1;obtain⟨bl,rfl,J,hc⟩:=h5;refine dm ?_;refine dx rfl rfl (dx rfl rfl (da (da (de Z4 (ws λ_ Z5=>ws λ_ Z6=>wr (dm ?_))))));refine dp (FH rfl rfl) (de Z6 (wi (λc2=>?_) λc2=>?_))
 ·exact absurd rfl c2
 refine EI (Z5 _ _ (ws λ_ Z7=>wr (dm (dm ?_))));refine db (zs:=[.int .i64 0,.slice none 0 0]) (pl:=[(0,1),(1,1)]) (pv:=[(0,_)]) (cs:=[_,.slice none 0 0]) ?_;refine Wv rfl RX.all (λb1 w2 e1 x2 r=>?_);have g1:=z.ge e1;have a1_hl:=J.lt;have J:=J.ext x2;have z:=z.trans x2;have Z:=z.size;refine cG (X1g _) RX.all λu3 w3 x3 xa=>?_;have hsz3:=z.size;have J:=J.ext x3;have r:=r.ext x3;have z:=z.trans x3;obtain⟨bm,ba,bn,rfl,O,h6,hh,hp⟩:=xa;refine db (zs:=[.pointer none,.pointer none,.int .i64 0,.slice none 0 0,.map none,.pointer none,B false]) (pl:=[(0,1),(1,1),(2,2),(4,1),(5,1),(6,1)]) (pv:=[(0,_),(1,_),(2,.agg ⟨[_,_]⟩),(3,_),(4,_)]) (cs:=[_,_,_,_,_,_,B false]) ?_;refine Gn rfl rfl rfl RX.all (λb2 w4 e2 x4 Y=>?_);have g2:=z.ge e2;have n2_mp1:=r.lt;have a2_hl:=J.lt;have J:=J.ext x4;have r:=r.ext x4;have O:=O.ext x4;have z:=z.trans x4;refine da (de Z7 (ws λ_ Z8=>ws λ_ Z9=>wr (dm ?_)));refine cP (Xw bl bd _ J) RX.all λw5 x5=>?_;have J:=J.ext x5;have r:=r.ext x5;have O:=O.ext x5;have Y:=Y.ext x5;have z:=z.trans x5;refine dm ?_;refine dx rfl rfl (dx rfl rfl (da (da (de Z9 (ws λ_ hr=>wr (dm ?_))))));refine dp (Gg rfl rfl) (dm ?_);refine F4 39 rfl (λc3=>?_) (λc3=>?_)
 ·exact absurd c3 EN
 refine dm ?_;refine dv 5 1 (EQ.nil (enc:=EO) (sz:=1) (w:=w)).sl (dp (Gg rfl rfl) (EP (de hr ?_)));refine wi (λc4=>?_) λc4=>?_
 ·exact absurd c4 EN
 refine EI (Z8 _ _ (ws λ_ h9=>wr (da (de h9 (ws λ_ hq=>ws λ_ hg=>wr (dm ?_))))));refine dz rfl (df 2 rfl (df 1 rfl (dl rfl (Y.at rfl) (dv 62 5 (EQ.nil (enc:=λv:Value=>[v]) (sz:=5) (w:=w)).sl (dm (de hg (EM ?_)))))));refine Fq (G:=Unit) (λuu=>[(0,EE bd 0),(6,EE b2 0),(9,.slice none 0 0),(59,.slice none 0 0),(60,I 0),(61,I 0)]) (λuu w'=>ED w w'/\EK w' bl [EE bd 0,S [115],I 0,.slice none 0 0,.slice none 0 0,B false] 147/\FV w' b1/\MemE w' bm ba bn/\EK w' b2 [EE bd 0,EE bl 0,I 1,.slice none 0 0,.map (some b1),EE bm 0,B false] 90/\True) (λuu=>0) () ?_ ?_ ?_
 ·exact G2
 ·exact⟨z,J,r,O,Y,trivial⟩
 intro X6 g6 w6 ha;revert ha;revert g6;intro uu ha;clear z J r O Y;obtain⟨z,J,r,O,Y,htr⟩:=ha;refine ws λ_ hf=>wr (dp (Fb rfl rfl) (de hf (ws λ_ Z15=>wi (λc5=>?_) λc5=>?_)))
 ·exact absurd c5 EN
 refine Fk (hq _ _ (ws λ_ hj=>ws λ_ h8=>wr (dm ?_)));refine cP (HR b2 bd bl b1 bm _ Y J) RX.all λw7 x7=>?_;have J:=J.ext x7;have r:=r.ext x7;have O:=O.ext x7;have Y:=Y.ext x7;have z:=z.trans x7;refine da (de h8 (ws λ_ ht=>wr (dm ?_)));refine dp (FH rfl rfl) (de ht (wi (λc6=>?_) λc6=>?_))
 ·exact absurd rfl c6
 refine EI (hj _ _ (ws λ_ h7=>ws λ_ hy=>wr (dm (dm ?_))));refine cP (X7i bd mf room [116] _ (hd.ext z) (hm.ext z)) RX.all λw8 x8=>?_;have J:=J.ext x8;have r:=r.ext x8;have O:=O.ext x8;have Y:=Y.ext x8;have z:=z.trans x8;refine da (de hy (ws λ_ hz=>wr (dm ?_)));refine dp (FH rfl rfl) (de hz (wi (λc7=>?_) λc7=>?_))
 ·exact absurd rfl c7
 refine EI (h7 _ _ (ws λ_ hw=>wr (dm (da (da (de hw (EJ ?_)))))));refine rt ?_;exact⟨_,rfl,z,b2,bl,b1,bm,ba,bn,rfl,⟨Y,J,hd.ext z,hm.ext z,r,O⟩,g2,Ai hb hc,g1,Ai Z h6,Ai Z hh,Ai Z hp⟩
end Go.Proofs.YtiooodckiddpmaaGreatDoor.Em
namespace Go.Proofs.YtiooodckiddpmaaGreatDoor
open Go.Vc Go.Sp
attribute [local irreducible] W XW Dw Gs
theorem U7 {P:Program}{κ α:Type}[DecidableEq κ]{k:TypeId}{kv:κ->Value}{av:α->Value}{w:World}{b:Nat}(h:FV w b):FE P k kv av w b ([]:List (κ×α)):=
 ⟨by simp,.map [],⟨#[],0,h,⟨by simp,MapKept.stamped_empty 0,by simp⟩,Ab _,rfl⟩,rfl,λx l hl z=>rfl⟩
theorem Ya3 {w:World}{bm ba bn:Nat}(h:Em.MemE w bm ba bn):FG (λk=>k=bm\/k=ba\/k=bn) w bm []:=by
 have J:EK w bn (Ga (Ax 12 0)) 3:=by
  have:=h.n;rwa [show Ax 12 (I 0)=Ga (Ax 12 0) from rfl]at this
 have O:MemAt w bm (.slice (some ⟨ba,0,none⟩) 1 1) (.slice none 0 0) [⟨Cell.zero,bn,12⟩] (λ_=>Ax 12 0) [] 0 0:=by
  refine⟨h.m,h.a.own (enc:=Tow.enc) (l:=[⟨Cell.zero,bn,12⟩]) (Ae _) rfl EF rfl ER,Vc.Own.nil,λi t r=>?_,λi j s t hs r _=>?_⟩
  ·cases i with
   | zero=>simp at r;subst r;exact⟨J,by simp⟩
   | succ i=>simp at r
  ·cases i with
   | zero=>cases j with
    | zero=>rfl
    | succ j=>simp at r
   | succ i=>simp at hs
 refine⟨_,_,_,_,_,[],O,⟨rfl,λi hi=>(by cases hi),BV,rfl,rfl,λi hi=>?_,⟨λrow Y=>?_,trivial⟩⟩,Bp,λk hk=>?_,λk hk=>?_⟩
 ·have:i=0:=by simp at hi;exact hi
  subst this;exact⟨(show 1<=12 by decide),(show 12<=12 by decide)⟩
 ·have z:row<12:=Y;rw[List.getElem?_replicate_of_lt z];rfl
 ·rcases hk with rfl|hk|hk|⟨t,r,rfl⟩
  ·exact .inl rfl
  ·have:ba=k:=A0.inj hk;exact .inr (.inl this.symm)
  ·cases hk
  ·rw[Ah.1 r];exact .inr (.inr rfl)
 ·rcases hk with rfl|rfl|rfl
  ·exact h.m.lt
  ·exact h.a.lt
  ·exact h.n.lt
def Ie (room:Int):Dsk:=⟨room,false,0,[]⟩
def Hs : Led:=⟨0,[],[],false⟩
def Hg (bs bd bl mo bm ba bn mf:Nat):Nat->Nat:=λk=>if k=bs then 5 else if k=mo then 2 else if k=bm\/k=ba\/k=bn then 3 else if k=bl\/k=bd\/k=mf then 1 else 0
theorem JU {w:World}{b b':Nat}{cs:List Value}{T:TypeId}(h:FV w b)(hb:EK w b' cs T):b'≠b:=λe=>by
 subst e;have h1:w.heap[b']?=some (.cells ⟨cs⟩ T (0,0)):=hb;rw[h]at h1;cases h1
theorem W9 {w:World}{bs bd bl mo bm ba bn mf:Nat}{room:Int}(h:Em.StE w bs bd bl mo bm ba bn mf room)(hne:mo≠mf)(hw:(Ie room).Wf):StE (Hg bs bd bl mo bm ba bn mf) bs bd bl mo bm (.slice none 0 0) Hs (Ie room) ⟨1,[]⟩ [] [] false w:=by
 have n1:=h.s.ne h.l rfl;have n2:=h.s.ne h.d rfl;have n3:=h.s.ne h.m.m rfl;have n4:=h.s.ne h.m.a rfl;have n5:=h.s.ne h.m.n rfl;have n6:=JU h.o h.s;have n7:=JU h.f h.s;have p1:=JU h.o h.l;have p2:=JU h.o h.d;have p3:=JU h.o h.m.m;have p4:=JU h.o h.m.a;have O:=JU h.o h.m.n;have q1:=h.m.m.ne h.l rfl;have q2:=h.m.m.ne h.d rfl;have q3:=JU h.f h.m.m;have q4:=h.m.a.ne h.l rfl;have q5:=h.m.a.ne h.d rfl;have q6:=JU h.f h.m.a;have q7:=h.m.n.ne h.l rfl;have q8:=h.m.n.ne h.d rfl;have q9:=JU h.f h.m.n;have r1:=JU h.f h.l;have r2:=h.l.ne h.d rfl;have kl:Hg bs bd bl mo bm ba bn mf bl=1:=by unfold Hg;simp [Ne.symm n1,p1,Ne.symm q1,Ne.symm q4,Ne.symm q7]
 have Z:Hg bs bd bl mo bm ba bn mf bd=1:=by unfold Hg;simp [Ne.symm n2,p2,Ne.symm q2,Ne.symm q5,Ne.symm q8]
 have kf:Hg bs bd bl mo bm ba bn mf mf=1:=by unfold Hg;simp [Ne.symm n7,Ne.symm hne,Ne.symm q3,Ne.symm q6,Ne.symm q9]
 have r:∀k,Hg bs bd bl mo bm ba bn mf k≠0->k<w.heap.size:=λk hk=>by
  unfold Hg at hk;split at hk
  ·rename_i e;rw[e];exact h.s.lt
  ·split at hk
   ·rename_i e;rw[e];exact h.o.lt
   ·split at hk
    ·rename_i e;rcases e with rfl|rfl|rfl
     ·exact h.m.m.lt
     ·exact h.m.a.lt
     ·exact h.m.n.lt
    ·split at hk
     ·rename_i e;rcases e with rfl|rfl|rfl
      ·exact h.l.lt
      ·exact h.d.lt
      ·exact h.f.lt
     ·exact absurd rfl hk
 refine⟨h.s,⟨λk=>k=bd\/k=mf,λk=>k=bl,.slice none 0 0,.slice none 0 0,[],⟨mf,[],⟨h.d,U7 h.f,rfl,λe he=>(by cases he),Bp,λk hk=>?_,λk hk=>?_,hw⟩⟩,⟨h.l,Vc.Own.nil.arr (enc:=EO) (sz:=1) (T:=0) (B:=0) EF,Vc.Own.nil,rfl,λq z=>(by cases z),λk hk=>?_,λk hk=>?_,λk hk=>?_,BQ _,by decide,by decide,λp hp=>(by cases hp),by decide⟩,λk hk e=>?_,λk hk=>?_,λk hk=>r k (by rw[hk];decide)⟩,U7 h.o,(Ya3 h.m).to (λk hk=>?_) (λk hk=>r k (by rw[hk];decide)),Vc.Own.nil.arr (enc:=Fi.cs) (sz:=5) (T:=0) (B:=0) EF,λt J=>(by cases J),by unfold Hg;simp,by unfold Hg;simp [Ne.symm n6],λY=>absurd rfl Y,λt J=>(by cases J),r⟩
 ·rcases hk with e|e|⟨e,he,_⟩
  ·exact .inl e
  ·exact .inr e
  ·cases he
 ·rcases hk with rfl|rfl
  ·exact h.d.lt
  ·exact h.f.lt
 ·rcases hk with e|e|e|⟨q,z,_⟩
  ·exact e
  ·cases e
  ·exact absurd rfl e.1
  ·cases z
 ·rcases hk with e|⟨q,z,_⟩
  ·exact absurd rfl e.1
  ·cases z
 ·rw[hk];exact h.l.lt
 ·rcases hk with rfl|rfl
  ·exact r2 e.symm
  ·exact r1 e.symm
 ·rcases hk with(e|e)|e
  ·rw[e];exact Z
  ·rw[e];exact kf
  ·rw[e];exact kl
 ·unfold Hg;rcases hk with e|e|e
  ·rw[e];simp [Ne.symm n3,p3]
  ·rw[e];simp [Ne.symm n4,p4]
  ·rw[e];simp [Ne.symm n5,O]
theorem X1h (L:Led)(D:Dsk)(p:EC):((L.append D p).2.1≠0/\(L.append D p).2.2.1.last=L.last/\(L.append D p).2.2.1.ents.length<=L.ents.length)\/
  ((L.append D p).2.1=0/\(L.append D p).1=L.last+1/\(L.append D p).2.2.1.last=L.last+1/\(L.append D p).2.2.1.ents.length=L.ents.length+1/\L.last<1099511627776):=by
 cases hd:L.dead with
 | true=>rw[Rm hd];exact .inl ⟨(by decide:(9:Int)≠0),rfl,Ab _⟩
 | false=>
  by_cases h2:65536<p.length\/1099511627776<=L.last
  ·rw[OF hd h2];exact .inl ⟨(by decide:(5:Int)≠0),rfl,Ab _⟩
  ·by_cases h3:(Ho L D p).1≠0
   ·rw[Pa hd h2 h3];exact .inl ⟨h3,rfl,Ab _⟩
   ·rw[OJ hd h2 h3];exact .inr ⟨rfl,rfl,by unfold Led.last;simp;omega,by simp,by omega⟩
def cW (c:Cell):Nat:=1+c.key.length+c.val.length
theorem Xyh {g:Cell->Nat}(out:List Cell)(c:Cell):Fu g (HD out c)<=Fu g out+g c:=by
 unfold HD;split
 ·omega
 ·have h:=List.takeWhile_append_dropWhile (p:=λx:Cell=>Fg x.key c.key) (l:=out);have h2:Fu g out=Fu g (out.takeWhile λx=>Fg x.key c.key)+Fu g (out.dropWhile λx=>Fg x.key c.key):=by
   rw[<-KD,h]
  rw[KD];have h3:Fu g (c :: out.dropWhile λx=>Fg x.key c.key)=g c+Fu g (out.dropWhile λx=>Fg x.key c.key):=by unfold Fu;rw[An,AX]
  omega
theorem XJ (s:Int):∀l:List Rw,Fu cW (G0 l s)<=(l.map GW).sum
 | []=>Ae _
 | r :: l=>by
  have h1:=XJ s l;have h2:=Xyh (g:=cW) (G0 l s) (r.cell s);have h3:cW (r.cell s)=GW r:=rfl;have h4:G0 (r :: l) s=HD (G0 l s) (r.cell s):=rfl;rw[h4,An,AX];omega
theorem QL : ∀l:List Rw,l.length<=(l.map GW).sum
 | []=>Ae _
 | r :: l=>by
  have h1:=QL l;have h2:1<=GW r:=by unfold GW;omega
  rw[An,AX,AG];omega
structure TI (S i:Nat)(L:Led)(V:Vs)(ts:List Tb)(mem:List Cell)(M:List Rw):Prop where
 sto:Sto L.last V ts mem
 told:Sp.Told (FF mem ts) M
 l0:0<=L.last/\L.last<=i
 en:L.ents.length<=i
 wt:Fu cW (FF mem ts)<=S
 ml:M.length<=S
section
variable {S i:Nat}{L L':Led}{D D':Dsk}{V V':Vs}{ts ts':List Tb}{mem mem':List Cell}{M:List Rw}{dead dead' ok:Bool}{e:Int}
theorem TI.nil : TI 0 0 Hs ⟨1,[]⟩ [] [] []:=by
 refine⟨⟨by decide,λf O=>(by cases O),λt z=>(by cases z),BV,λt z=>(by cases z),λc J=>(by cases J),Bp,λc J=>(by cases J),λt z=>(by cases z)⟩,⟨Bp,λr=>⟨λh=>(by cases h),λ⟨c,J,_⟩=>(by cases J.1)⟩⟩,by decide,by decide,by decide,by decide⟩
theorem TI.mono {S' i':Nat}(h:TI S i L V ts mem M)(hS:S<=S')(hi:i<=i'):TI S' i' L V ts mem M:=
 ⟨h.sto,h.told,⟨h.l0.1,by have:=h.l0.2;omega⟩,Ai h.en hi,Ai h.wt hS,Ai h.ml hS⟩
theorem TI.len (h:TI S i L V ts mem M):2*(FF mem ts).length<=S:=by
 refine Ai ?_ h.wt;have:∀l:List Cell,(∀c∈l,Gl c=true)->2*l.length<=Fu cW l:=by
  intro l z
  induction l with
  | nil=>exact Ae _
  | cons c r ih=>
   have h1:=ih (λx J=>z x (Am _ J));have h2:=z c Al;unfold Gl at h2;simp only [Au,decide_eq_true_eq]at h2;unfold Fu at *;rw[An,AX,AG];have h3:cW c=1+c.key.length+c.val.length:=rfl;omega
 exact this _ (λc O=>(h.sto.okc c O).1)
theorem TI.up (h:TI S i L V ts mem M):Mf M:=h.told.1
theorem TI.write {l:List Rw}(h:TI S i L V ts mem M)(hw:O8 L D mem dead l e L' D' mem' dead'):TI (S+(l.map GW).sum) (i+1) L' V ts mem' (if e=0 then M7 M l else M):=by
 have h0:=h.mono (Nat.le_add_right S (l.map GW).sum) (Nat.le_succ i);rcases hw with⟨_,rfl,rfl,_,rfl,_⟩|⟨_,h1,rfl,rfl,_,rfl,_⟩|⟨_,hc,rfl,_,hr⟩
 ·exact h0
 ·rw[if_neg h1];exact h0
 ·rcases X1h L D (F0 l)with⟨a1,a2,a3⟩|⟨a1,a2,a3,a4,a5⟩
  ·rcases hr with⟨b1,rfl,rfl,_⟩|⟨b1,_⟩
   ·rw[if_neg b1];exact⟨by rw[a2];exact h0.sto,h0.told,by rw[a2];exact h0.l0,Ai a3 h0.en,h0.wt,h0.ml⟩
   ·exact absurd b1 a1
  ·rcases hr with⟨b1,_⟩|⟨_,rfl,rfl,_⟩
   ·exact absurd a1 b1
   ·obtain⟨z,r⟩:=h.sto.write h.told hc ⟨h.l0.1,a5⟩;rw[if_pos rfl,a2];have hl1:=h.l0;have hen:=h.en;have hwt:=h.wt;have hml:=h.ml;have hcw:=XJ (L.last+1) l;refine⟨by rw[a3];exact z,r,by rw[a3];omega,by omega,?_,?_⟩
    ·have hpw:=QZ (g:=cW) (G0 l (L.last+1)) mem;unfold FF at *;rw[KD]at *;omega
    ·have h5:=TE (G0 l 1) h.up;have h6:=Py l 1;have h7:=QL l;have J:M7 M l=Lp M (G0 l 1):=rfl;rw[J];omega
theorem TI.flush (h:TI S i L V ts mem M)(hf:JW L D V ts mem dead ok e L' D' V' ts' mem' dead'):TI S i L' V' ts' mem' M:=by
 rcases hf with⟨_,_,_,rfl,_,rfl,rfl,rfl,_⟩|⟨_,_,_,_,rfl,_,rfl,rfl,rfl,_⟩|⟨hd,_,m,hm,hc,h2⟩
 ·exact h
 ·exact h
 ·obtain⟨⟨h3,h4⟩,r⟩:=Pv hc;rcases r with⟨r,rfl,rfl⟩|⟨rfl,_,hs⟩
  ·rcases h2 with⟨_,_,rfl⟩|⟨h6,_⟩
   ·exact⟨by rw[h3];exact h.sto,h.told,by rw[h3];exact h.l0,Ai h4 h.en,h.wt,h.ml⟩
   ·exact absurd h6 r
  ·rcases h2 with⟨h6,_⟩|⟨_,_,rfl⟩
   ·exact absurd rfl h6
   ·obtain⟨k1,k2,z⟩:=hs.flush h.sto hm h.told;exact⟨by rw[h3];exact k1,k2,by rw[h3];exact h.l0,Ai h4 h.en,Ai (Xtm hm z) h.wt,h.ml⟩
theorem TI.comp {did:Bool}(h:TI S i L V ts mem M)(hf:M0 L D V ts mem dead did e L' D' V' ts' mem' dead'):TI S i L' V' ts' mem' M:=by
 rcases hf with⟨_,_,_,rfl,_,rfl,rfl,rfl,_⟩|⟨_,_,_,_,rfl,_,rfl,rfl,rfl,_⟩|⟨_,_,ok,e1,L1,D1,V1,ts1,mem1,dead1,hF,hr⟩
 ·exact h
 ·exact h
 ·have h1:=h.flush hF;rcases hr with⟨_,_,_,rfl,_,rfl,rfl,rfl,_⟩|⟨rfl,p,lv,m,e2,D2,dead2,_,hP,hm,hc,rfl,_⟩
  ·exact h1
  ·obtain⟨_,rfl,_⟩:=Ro h.sto hF;obtain⟨⟨h3,h4⟩,r⟩:=Pv hc;rcases r with⟨_,rfl,rfl⟩|⟨_,_,hs⟩
   ·exact⟨by rw[h3];exact h1.sto,h1.told,by rw[h3];exact h1.l0,Ai h4 h1.en,h1.wt,h1.ml⟩
   ·obtain⟨k1,k2,z⟩:=hs.merge h1.sto hP hm h1.told;exact⟨by rw[h3];exact k1,k2,by rw[h3];exact h1.l0,Ai h4 h1.en,Ai (Xtn hm hP.nod z) h1.wt,h1.ml⟩
end
structure OkD (D:Dsk)(u n:Nat):Prop where
 fu:D.fused=false
 us:Jg D.fs<=u
 cn:D.fs.length<=n
 nd:(D.fs.map (·.1)).Nodup
 tl:∀p∈D.fs,p.1.getLast?≠some 126
theorem OkD.mono {D:Dsk}{u n u' n':Nat}(h:OkD D u n)(h1:u<=u')(h2:n<=n'):OkD D u' n':=⟨h.fu,Ai h.us h1,Ai h.cn h2,h.nd,h.tl⟩
theorem MM {D:Dsk}(h:D.fused=false){l:List EC}(hl:∀s∈l,1<=s.length/\s.length<=64):D.may l=0:=Ur (λe=>by rw[h]at e;cases e.1) hl
theorem MG {D:Dsk}(h:D.fused=false):D.tick=D:=by unfold Dsk.tick;rw[h];rfl
theorem WR {D:Dsk}{u n:Nat}{name p:EC}(h:OkD D u n)(hn:1<=name.length/\name.length<=64)(hr:((u+p.length:Nat):Int)<=D.room)(hc:n<4096):D.app name p=(0,{ D with fs:=EZ D.fs name ⟨(D.old name).data++p,(D.old name).lasts⟩ }):=by
 unfold Dsk.app;rw[if_neg (by rw[MM h.fu (by simpa using hn)];decide),if_neg,MG (by exact h.fu)];unfold Dsk.full;have h1:=h.us;have h2:=h.cn;rw[<-M8]at h1;simp only [Bool.or_eq_true,Au,decide_eq_true_eq,not_or,not_and];exact⟨by omega,λ_=>by omega⟩
theorem Xyi {α:Type}{l:List (EC×α)}{n:EC}{a:α}(h:lk l n=none):EZ l n a=l++[(n,a)]:=by unfold EZ;rw[h];rfl
theorem SB {α:Type}{l:List (EC×α)}{n:EC}{a:α}(h:lk l n=none):FR (EZ l n a) n=l:=by
 rw[Xyi h];have h2:=Xu4 h;unfold FR at *;rw[BL,h2];simp
theorem SG {D:Dsk}{n:EC}(h:lk D.fs n=none):D.old n=⟨[],0⟩:=by unfold Dsk.old;rw[h];rfl
theorem XP {D:Dsk}{n:EC}{f:Fil}(hf:D.fused=false)(hn:1<=n.length/\n.length<=64)(h:lk D.fs n=some f):D.sync [n]=(0,{ D with fs:=EZ D.fs n ⟨f.data,f.data.length⟩ }):=by
 unfold Dsk.sync Dsk.each;rw[if_neg (by rw[MM hf (by simpa using hn)];decide),if_neg (by rw[h];exact DR)];unfold Dsk.each Dsk.lastsA Dsk.old;rw[h,MG (by exact hf)];rfl
theorem Ya5 (n:EC):(Dsk.sh n).length=n.length+1:=by unfold Dsk.sh;simp
theorem Ych {D:Dsk}{u k:Nat}(h:OkD D u k)(n:EC):lk D.fs (Dsk.sh n)=none:=by
 rw[LK];intro hm;obtain⟨p,r,e⟩:=Aq.1 hm;exact h.tl p r (by rw[e];unfold Dsk.sh;simp)
theorem X7j {D:Dsk}{u k:Nat}{n p:EC}(h:OkD D u k)(hn:1<=n.length/\n.length<=60)(hp:p.length<=1048576)(hr:((u+(EG p).length:Nat):Int)<=D.room)(hc:k<4096):D.save n p=(0,{ D with fs:=EZ D.fs n ⟨EG p,(EG p).length⟩ }):=by
 have hs:=Ych h n;have hl:=Ya5 n;unfold Dsk.save;rw[if_neg EB,if_neg EB,if_neg (by unfold Dsk.has;rw[hs];decide)];unfold Dsk.save2;have J:=WR (p:=EG p) h (name:=Dsk.sh n) EB hr hc;rw[SG hs]at J;simp only [AE]at J;rw[J];have z:=XP (D:={ D with fs:=EZ D.fs (Dsk.sh n) ⟨EG p,0⟩ }) (n:=Dsk.sh n) (f:=⟨EG p,0⟩) h.fu EB (by show lk (EZ _ _ _) _=_;rw[ID,if_pos rfl]);dsimp only at z;rw[N8]at z;simp only [ne_eq,not_true_eq_false,if_false,z];unfold Dsk.ren;rw[if_neg (by rw[MM (by exact h.fu) (by intro s r;simp at r;rcases r with rfl|rfl<;>omega)];decide)];dsimp only;rw[ID,if_pos rfl];dsimp only;rw[MG (by exact h.fu),SB hs]
theorem OkD.put {D:Dsk}{u k:Nat}{n:EC}{f:Fil}(h:OkD D u k)(ht:n.getLast?≠some 126){x:Nat}(hx:f.data.length<=(D.old n).data.length+x):OkD { D with fs:=EZ D.fs n f } (u+x) (k+1):=by
 have h1:=WP h.nd n f;have h2:=h.us;have h3:(J5 D.fs n)=D.old n:=rfl;have h4:=RL D.fs n f;have h5:=h.cn;refine⟨h.fu,?_,?_,Mu _ _ h.nd,λp r=>?_⟩
 ·show Jg (EZ D.fs n f)<=_;rw[h3]at h1;omega
 ·show(EZ D.fs n f).length<=_;rw[h4];split<;>omega
 ·rcases Od r with rfl|r
  ·exact ht
  ·exact h.tl p r
theorem OkD.del {D:Dsk}{u k:Nat}(h:OkD D u k)(n:EC):OkD { D with fs:=FR D.fs n } u k:=
 ⟨h.fu,Ai (TN D.fs n) h.us,Ai (List.length_filter_le _ _) h.cn,Pq n h.nd,λp r=>h.tl p (A3.1 r).1⟩
theorem Wc {D:Dsk}{u k:Nat}{n p:EC}(h:OkD D u k)(hn:1<=n.length/\n.length<=60)(ht:n.getLast?≠some 126)(hp:p.length<=1048576)(hr:((u+p.length+12:Nat):Int)<=D.room)(hc:k<4096):(D.save n p).1=0/\OkD (D.save n p).2 (u+p.length+12) (k+1)/\(D.save n p).2.room=D.room:=by
 have r:=Jm p;rw[X7j h hn hp (by rw[r,<-BN];exact hr) hc];have:=h.put ht (f:=⟨EG p,(EG p).length⟩) (x:=p.length+12) (by simp only [];omega);exact⟨rfl,by rw[BN];exact this,rfl⟩
theorem X1i {D:Dsk}{u k:Nat}{n:EC}(h:OkD D u k)(hn:1<=n.length/\n.length<=64):(Dsk.rems [n] D).1=0/\OkD (Dsk.rems [n] D).2 u k/\(Dsk.rems [n] D).2.room=D.room:=by
 unfold Dsk.rems
 by_cases hh:D.has n=true
 ·rw[if_pos hh];have h2:(lk D.fs n).isNone=false:=by unfold Dsk.has at hh;cases e:lk D.fs n with
   | none=>rw[e]at hh;cases hh
   | some a=>rfl
  have r:D.rem [n]=(0,{ D with fs:=FR D.fs n }):=by
   unfold Dsk.rem Dsk.each;rw[if_neg (by rw[MM h.fu (by simpa using hn)];decide),if_neg (by rw[h2];decide)];unfold Dsk.each Dsk.gone;rw[MG (by exact h.fu)]
  rw[r,if_neg ER];unfold Dsk.rems;exact⟨rfl,h.del n,rfl⟩
 ·rw[if_neg hh];unfold Dsk.rems;exact⟨rfl,h,rfl⟩
theorem Xyl {L:Led}{D:Dsk}{u k:Nat}{p:EC}(h:OkD D u k)(hd:L.dead=false)(hp:p.length<=65536)(hl:L.last<1099511627776)(hr:((u+p.length+32:Nat):Int)<=D.room)(hc:k<4096):(L.append D p).1=L.last+1/\(L.append D p).2.1=0/\(L.append D p).2.2.1={ L with ents:=L.ents++[p] }/\OkD (L.append D p).2.2.2 (u+p.length+32) (k+1)/\(L.append D p).2.2.2.room=D.room:=by
 have he:=Lr (L.last+1) p;have hrl:=Jm (Led.ent (L.last+1) p);have r:=WR (p:=EG (Led.ent (L.last+1) p)) h (name:=Led.logn) EN EB hc;have J:=XP (D:=(D.app Led.logn (EG (Led.ent (L.last+1) p))).2) (n:=Led.logn) (f:=⟨(D.old Led.logn).data++EG (Led.ent (L.last+1) p),(D.old Led.logn).lasts⟩) (by rw[r];exact h.fu) EN (by rw[r];show lk (EZ _ _ _) _=_;rw[ID,if_pos rfl]);have z:Ho L D p=(0,{ D with fs:=EZ D.fs Led.logn ⟨(D.old Led.logn).data++EG (Led.ent (L.last+1) p),((D.old Led.logn).data++EG (Led.ent (L.last+1) p)).length⟩ }):=by
  unfold Ho;rw[if_pos (by rw[r]),J,r];dsimp only;rw[N8]
 rw[OJ hd EB (by rw[z];simp),z];have:=h.put (n:=Led.logn) (f:=⟨(D.old Led.logn).data++EG (Led.ent (L.last+1) p),((D.old Led.logn).data++EG (Led.ent (L.last+1) p)).length⟩) EN (x:=p.length+32) (by simp only [Aa];omega);exact⟨rfl,rfl,rfl,by rw[BN];exact this,rfl⟩
theorem X1j {L:Led}{D:Dsk}{u k:Nat}{i:Int}{p:EC}(h:OkD D u k)(hd:L.dead=false)(hi:L.last<=i/\i<=1099511627776)(hp:p.length<=524288)(hr:((u+p.length+32:Nat):Int)<=D.room)(hc:k<4096):(L.write D i p).1=0/\(L.write D i p).2.1=⟨i,p,[],false⟩/\OkD (L.write D i p).2.2 (u+p.length+32) (k+1)/\(L.write D i p).2.2.room=D.room:=by
 have he:=Lr i p;obtain⟨z,r,J⟩:=Wc (p:=Led.ent i p) (n:=Led.img) h EN EN EB EB hc;obtain⟨r1,r2,O⟩:=X1i (n:=Led.logn) r EN;unfold Led.write;rw[if_neg (by rw[hd];decide),if_neg EB,if_neg EB];dsimp only;rw[if_pos z,if_neg (by rw[r1];decide)];exact⟨rfl,rfl,r2.mono EB (Ab _),O.trans J⟩
def bW (c:Cell):Nat:=5+3*c.key.length+2*c.val.length
def eW (c:Cell):Nat:=12+2*c.key.length
def LJ (l:EC):Nat:=l.foldl (λa c=>10*a+(c.toNat-48)) 0
theorem SU (u:Nat):LJ (Lib.decDigits u)=u:=by
 induction u using Nat.strongRecOn with
 | _ u ih=>
  rw[Lib.decDigits];split
  ·rename_i h;unfold LJ;rw[B9,E0,Nn _ EB];omega
  ·rename_i h;have h1:=ih (u / 10) EB;unfold LJ at *;rw[List.foldl_append,h1,B9,E0,Nn _ EB];omega
theorem X1k (u:Nat):∃c:UInt8,c.toNat<58/\∃r,Lib.decDigits u=r++[c]:=by
 rw[Lib.decDigits];split
 ·exact⟨_,by rw[Nn _ EB];omega,[],rfl⟩
 ·exact⟨_,by rw[Nn _ EB];omega,_,rfl⟩
theorem P4 {n:Int}(h:0<=n):FJ n=116 :: Lib.decDigits n.toNat:=by
 unfold FJ Lib.itoa;rw[if_neg EB]
theorem NF {n m:Int}(hn:0<=n)(hm:0<=m)(h:FJ n=FJ m):n=m:=by
 rw[P4 hn,P4 hm]at h;have:=congrArg LJ (BW.inj h).2;rw[SU,SU]at this;omega
theorem R7 {n:Int}(h:0<=n):(FJ n).getLast?≠some 126:=by
 obtain⟨c,z,r,e⟩:=X1k n.toNat;rw[P4 h,e,<-AT,List.getLast?_append];intro e2;simp at e2;rw[e2]at z;exact absurd z EN
theorem X1l {n:Int}(h:0<=n)(h2:n<=1099511627776):1<=(FJ n).length/\(FJ n).length<=60:=by
 have:=Sd (n:=n) ⟨by omega,by omega⟩;refine⟨?_,by omega⟩;unfold FJ;simp
def sumN (N:List (EC×Nat)):Nat:=(N.map (·.2)).sum
def Just (N:List (EC×Nat))(p:EC×Fil):Prop:=∃q∈N,p.1=q.1/\p.2.data.length<=q.2
structure DJ (D:Dsk)(N:List (EC×Nat))(H:List EC):Prop where
 fu:D.fused=false
 rm:D.room=4194304
 nd:(D.fs.map (·.1)).Nodup
 js:∀p∈D.fs,Just N p
 tl:∀q∈N,q.1.getLast?≠some 126
 hs:∀n∈H,D.has n=true
section
variable {D:Dsk}{N:List (EC×Nat)}{H:List EC}
theorem WT : ∀(ns:List EC) (D:Dsk),D.fused=false->(∀n∈ns,(1<=n.length/\n.length<=64)/\D.has n=true)->ns.Nodup->D.rem ns=(0,ns.foldl (λD n=>D.gone n) D)
 | [],D,_,_,_=>rfl
 | n :: r,D,hf,h,hn=>by
  rw[AV]at hn;have h1:=h n Al;have h2:(lk D.fs n).isNone=false:=by
   have:=h1.2;unfold Dsk.has at this
   cases e:lk D.fs n with
   | none=>rw[e]at this;cases this
   | some a=>rfl
  have z:=WT r (D.gone n) hf (λm hm=>⟨(h m (Am _ hm)).1,by
   unfold Dsk.has Dsk.gone;show(lk (FR D.fs n) m).isSome=true;rw[KY,if_neg (λe=>hn.1 (by rw[<-e];exact hm))];exact(h m (Am _ hm)).2⟩) hn.2
  unfold Dsk.rem at *;unfold Dsk.each;rw[if_neg (by rw[MM hf (by intro s hs;rw[Ah.1 hs];exact h1.1)];decide),if_neg (by rw[h2];decide),MG (by exact hf),z];rfl
end
def nmT (t:Tb):EC×Nat:=(FJ t.h.2,100+20*Fu cW t.cs)
def nmN (ts:List Tb)(E:Nat):List (EC×Nat):=(Led.img,262180) :: (Led.logn,E) :: ts.map nmT
def DI (D:Dsk)(ts:List Tb)(E:Nat):Prop:=DJ D (nmN ts E) (ts.map λt=>FJ t.h.2)
section
variable {n lv:Int}{V V':Vs}{ts ts':List Tb}{mem mem' l:List Cell}{gone:List Fi}{L L':Led}{D D':Dsk}{dead dead' ok:Bool}{e:Int}{S i E:Nat}{M:List Rw}
theorem ChS.tabs (h:Sto n V ts mem)(c:ChS V ts l lv gone V' ts')(hg:∀f∈gone,f∈V.fs):∃tbs:List Tb,tbs.map (λt=>(t.h,t.cs))=Kz lv V.next (F8 l)/\ts'=ts.filter (kp gone)++tbs:=by
 obtain⟨hok,⟨fs',hp,hv,rfl⟩,tbs,O,hb⟩:=c;obtain⟨htl,r,hta⟩:=PK O;have J:∀t∈tbs,V.next<=t.h.2:=λt z=>by
  obtain⟨i,hi⟩:=AM z;rw[(r i t hi).1];show V.next<=V.next+↑i;omega
 have ha:∀t∈tbs,∀u∈ts,u.h≠t.h:=λt z u hu e=>by
  have h1:=J t z;have h2:=(h.lev hu).2.2.2;rw[e]at h2;omega
 have Y:(tbs.map (·.h)).Nodup:=by
  rw[List.Nodup,Ce];intro i j hi hj hij e;simp only [Ao]at hi hj;simp only [CC]at e;rw[(r i _ (Ar hi)).1,(r j _ (Ar hj)).1]at e;have:=(Bl.inj e).2;omega
 have Z:∀t∈tbs,kp gone t=true:=λt z=>L8.2 λf hf e=>by
  have h1:=J t z;have h2:=(Jk ((Ij h.isv).2.2.2.1 f (hg f hf))).2.1;rw[e]at h1;have h3:V.next<=f.id:=h1;omega
 exact⟨tbs,O,by rw[hb,PO tbs ts ha Y,Rr,BL,List.filter_eq_self.2 Z]⟩
end
structure FD (D:Dsk):Prop where
 fu:D.fused=false
 nd:(D.fs.map (·.1)).Nodup
 tl:∀p∈D.fs,p.1.getLast?≠some 126
def FZ : Int->List EC->EC
 | _,[]=>[]
 | b,p :: r=>EG (Led.ent (b+1) p)++FZ (b+1) r
theorem QW (p:EC):∀(ps:List EC) (b:Int),FZ b (ps++[p])=FZ b ps++EG (Led.ent (b+ps.length+1) p)
 | [],b=>by simp [FZ]
 | q :: r,b=>by
  rw[AT];unfold FZ;rw[QW p r (b+1),A7,show b+1+↑r.length+1=b+↑(q :: r).length+1 by rw[AG];omega]
def GN : Int->List Cell->List (List Rw)->List Cell
 | _,m,[]=>m
 | b,m,l :: r=>GN (b+1) (Iu m (G0 l (b+1))) r
theorem XH (l:List Rw):∀(ls:List (List Rw)) (b:Int) (m:List Cell),GN b m (ls++[l])=Iu (GN b m ls) (G0 l (b+ls.length+1))
 | [],b,m=>by simp [GN]
 | q :: r,b,m=>by
  rw[AT];unfold GN;rw[XH l r (b+1),show b+1+↑r.length+1=b+↑(q :: r).length+1 by rw[AG];omega]
structure FI (L:Led)(D:Dsk)(V:Vs)(ts:List Tb)(mem:List Cell):Prop where
 fd:FD D
 img:(lk D.fs Led.img=none/\L.base=0/\L.data=[]/\V=⟨1,[]⟩)\/((∃k,lk D.fs Led.img=some ⟨EG (Led.ent L.base L.data),k⟩)/\L.data=FO V/\(FO V).length<=262144)
 bs:∃bs:List (List Rw),L.ents=bs.map F0/\(∀b∈bs,H8 b=0)/\mem=GN L.base [] bs
 log:(lk D.fs Led.logn=none/\L.ents=[])\/(L.ents≠[]/\∃k,lk D.fs Led.logn=some ⟨FZ L.base L.ents,k⟩)
 tab:∀t∈ts,∃k,lk D.fs (FJ t.h.2)=some ⟨EG (EG (Fo t.cs)),k⟩
 b0:0<=L.base
 tok:∀t∈ts,Hx t.cs=0/\(EG (Fo t.cs)).length<=1048576
section
variable {n lv:Int}{V V':Vs}{ts ts':List Tb}{mem mem' l:List Cell}{gone:List Fi}{L L':Led}{D D':Dsk}{dead dead' ok:Bool}{e:Int}{S i:Nat}{M:List Rw}
theorem Mx (n:Int):FJ n≠Led.logn:=λe=>absurd (congrArg List.head? e) (by show¬ some (116:UInt8)=some 115;decide)
theorem Ol (n:Int):FJ n≠Led.img:=λe=>absurd (congrArg List.head? e) (by show¬ some (116:UInt8)=some 115;decide)
end
@[reducible] def Lq (q:Value×EC):List Value:=[q.1]
structure RsE (B:Nat)(qs:List (Value×EC))(w:World):Prop where
 row:∀q∈qs,Vc.Own EO 1 5 B w q.1 q.2
section
variable {B B':Nat}{qs:List (Value×EC)}{S:Nat->Prop}{w w':World}
theorem RsE.ext (h:RsE B qs w)(x:ED w w'):RsE B qs w':=⟨λq r=>(h.row q r).ext x⟩
theorem RsE.mod (h:RsE B qs w)(m:Vc.Mod S w w')(hS:∀q∈qs,∀k,q.1.ownBlock=some k->¬ S k):RsE B qs w':=⟨λq r=>(h.row q r).mod m (hS q r)⟩
theorem RsE.ne {α:Type}{enc:α->List Value}{sz T:Nat}{v:Value}{l:List α}(h:RsE B qs w)(ho:Vc.Own enc sz T B' w v l)(hT:Nat.beq 5 T=false):∀q∈qs,∀k,q.1.ownBlock=some k->¬ v.ownBlock=some k:=λq r k hk=>(h.row q r).ne ho hT hk
theorem RsE.snoc {v:Value}{l:EC}(h:RsE B qs w)(ho:Vc.Own EO 1 5 B w v l):RsE B (qs++[(v,l)]) w:=⟨λq r=>(Aw.1 r).elim (h.row q) (λe=>by rw[Ah.1 e];exact ho)⟩
theorem RsE.lt (h:RsE B qs w):∀q∈qs,∀k,q.1.ownBlock=some k->B<=k/\k<w.heap.size:=λq r k hk=>(h.row q r).lt k hk
end
section
variable {ps:List EC}{k:Nat}{p:EC}
theorem Xo (ps:List EC)(k:Nat):ps.flatMap EG=(ps.take k).flatMap EG++(ps.drop k).flatMap EG:=by rw[<-AU,Bc]
theorem W6 (h:ps[k]?=some p):((ps.take (k+1)).flatMap EG).length=((ps.take k).flatMap EG).length+(p.length+12):=by
 rw[G1 h,AU,Aa];simp [Jm]
theorem Xym (ps:List EC)(k:Nat):(ps.flatMap EG).drop ((ps.take k).flatMap EG).length=(ps.drop k).flatMap EG:=by
 rw[Xo ps k,List.drop_left]
theorem Rh (ps:List EC)(k:Nat):((ps.take k).flatMap EG).length<=(ps.flatMap EG).length:=by
 rw[Xo ps k,Aa];omega
theorem X7k (h:¬ ((ps.take k).flatMap EG).length<(ps.flatMap EG).length)(hk:k<=ps.length):k=ps.length:=AP λhn=>by
 have h1:ps[k]?=some ps[k]:=Ar EB;have h2:=W6 h1;have h3:=Rh ps (k+1);omega
end
theorem Sb (i:Int)(p:EC):Led.ent i p=EV i.toNat++(Fs p++[]):=by unfold Led.ent;rw[AO]
theorem Yci (G:Nat->Prop)(bl bd:Nat)(vd ve:Value)(vs:List (Value×EC))(L:Led)(k:Nat)(p:EC)(w:World)(h:LedE G bl bd vd ve vs L w)(hk:L.ents[k]?=some p) :
  Calls Tryz.prog 127 [EE bl 0,I (L.base+1+↑k)].toArray w (ES w (λu w'=>∃v,u=.tuple #[v,I 0]/\Vc.Own EO 1 5 w.heap.size w' v p)):=by
 refine cw Tryz.func127 ?_;have r:=ED.refl w;have Z:=h.m;obtain⟨q,hq,hqp⟩:∃q,vs[k]?=some q/\q.2=p:=by
  have h9:=hk;rw[<-h.es,AD]at h9;obtain⟨q,h8,h7⟩:=Bb.1 h9;exact⟨q,h8,h7⟩
 have O:(vs.map (·.1))[k]?=some q.1:=by rw[AD,hq];rfl
 have Y:EQ EO 1 w q.1 p:=hqp▸h.el q (Ak hq);have hpl:=h.pl p (Ak hk);have hkl:=(Ap.1 hk).1;have hla:=h.la;have hb0:=h.b0;have hb1:=h.b1;have hlb:=h.lenB;have hle:L.last=L.base+↑L.ents.length:=rfl;refine ws λ_ Z1=>wr (da (da (de Z1 (ws λ_ Z2=>ws λ_ Z3=>wr (dm ?_)))));refine dp (Gi EA rfl rfl) (dm ?_);refine F4 8 rfl (λc1=>?_) (λc1=>?_)
 ·exact absurd c1 ER
 iterate 2 refine dm ?_
 refine dz rfl (df 2 rfl (dl rfl ((Z.ext r).at rfl) (dp (IG rfl rfl) (EP ?_))));refine dm ?_;refine F4 16 rfl (λc2=>?_) (λc2=>?_)
 ·omega
 iterate 2 refine dm ?_
 refine cP (GC G bl bd vd ve vs L _ (h.ext r)) RX.all λw1 x1=>?_;have r:=r.trans x1;refine dp (Gg rfl rfl) (EP (de Z3 ?_));refine wi (λc3=>?_) λc3=>?_
 ·omega
 refine EI (Z2 _ _ (ws λ_ Z4=>F9 (R:=ED) ED.refl (λ_ _ _=>ED.trans) EA [3,8,12] [(0,.p,false),(1,.p,false),(2,.p,false),(3,.l,false),(4,.p,false),(5,.p,false),(6,.p,false),(7,.p,false),(8,.l,false),(9,.p,false),(10,.p,false),(11,.p,false),(12,.l,false),(13,.x,false),(14,.p,false),(15,.p,false)] rfl EA EA (λw2 J=>?_)));have x2:=EL J;clear J;have r:=r.trans x2;refine dm ?_;refine dz rfl (df 4 rfl (dL rfl (λ_ z=>((Z.ext (r.trans z)).at rfl)) (dm (dm ?_))));refine dz rfl (df 2 rfl (dL rfl (λ_ z=>((Z.ext (r.trans z)).at rfl)) (ps rfl rfl (EW (v:=I ↑k) rfl (Gr rfl rfl (by unfold EU;omega)) (by show I _=I _;congr 1;omega) (di 82 1 (h.earr.ext r).sl rfl ((h.earr.ext r).lt O) (dL rfl (λ_ z=>((((h.earr.ext r).ext z).row O).at0 rfl)) (cG (L7 p q.1 _ (Y.ext r) EB) RX.ext λu3 w3 x3 hO=>?_)))))));have hsz3:=r.size;have r:=r.trans x3;refine da (da (de Z4 (EJ ?_)));refine rt ?_;exact⟨_,rfl,r,_,rfl,hO.mono EB⟩
theorem X7l (G:Nat->Prop)(bt bl bd:Nat)(vd ve:Value)(vs:List (Value×EC))(L:Led)(last:Int)(p:EC)(vp:Value)(w:World)(h:LedE G bl bd vd ve vs L w)(r:EK w bt [EE bl 0,I last] 270)(hbG:¬ G bt)(hp:EQ EO 1 w vp (Led.ent (L.last+1) p))(hpl:p.length<=65536)(hll:L.last<1099511627776)(hd:L.dead=false)(hla:last=-1\/last=L.last) :
  Calls Tryz.prog 192 [EE bt 0,vp].toArray w (Ff (λk=>k=bt\/G k) w (λu w'=>u=B true/\EK w' bt [EE bl 0,I (L.last+1)] 270/\∃ve' vs',LedE (Gx G w w') bl bd vd ve' vs' { L with ents:=L.ents++[p] } w')):=by
 refine cw Tryz.func192 ?_;have J:=Vc.Mod.refl (λk=>k=bt\/G k) w;have Y:=h;have z:=h.m;have hj:=h.lt;have hq:=h.inG bl (.inl rfl);have hbne:bt≠bl:=λe=>hbG (e▸hq);have hblt:=z.lt;have hbtl:=r.lt;have hb0:=h.b0;have hle:L.last=L.base+↑L.ents.length:=rfl;have hnl:=Gj (L.last+1).toNat;have helen:=Lr (L.last+1) p;have hy:=Sb (L.last+1) p;have h5:=congrArg AC hy;simp only [Aa]at h5;refine ws λ_ Z1=>wr (da (de Z1 (ws λ_ Z2=>wr (dm ?_))));refine cG (M6 (Led.ent (L.last+1) p) vp _ hp EB) RX.all λu1 w1 x1 xj=>?_;have h7:=J.size;have r:=r.ext x1;have Y:=Y.ext x1;have z:=z.ext x1;have J:=J.ext x1;obtain⟨br,bb,xn,rfl,xf,gbb,Z⟩:=xj;have hbrw:w.heap.size<=br:=Ai h7 xf;rw[hy]at Z;refine da (de Z2 (ws λ_ Z3=>wr (dm ?_)));refine cD (KE br bb xn _ false _ Z (by simp only [Aa];omega)) (.inl rfl) λu2 w2 x2 xg=>?_;have hsz2:=J.size;have r:=r.mod x2 (λh9=>by have h2:bt=br:=h9;omega);have Y:=Y.mod x2 (λk hk h9=>by have h2:k=br:=h9;have h8:=hj k hk;omega);have z:=z.mod x2 (λh9=>by have h2:bl=br:=h9;omega);have J:=J.own x2 (λi hi hh=>absurd hh (Ba.2 ((by have h2:i=br:=hi;omega))));obtain⟨hg,xm,Z⟩:=xg;rw[JG _ _ EB]at hg Z;dsimp only at hg Z;rw[show(((L.last+1).toNat:Nat):Int)=L.last+1 by omega]at hg;subst hg;refine dm ?_;refine cD (Kx br bb xm _ false _ Z (by simp only [Aa];omega)) (.inl rfl) λvB w3 x3 xp=>?_;have h6:=J.size;have r:=r.mod x3 (λh9=>by have h2:bt=br:=h9;omega);have Y:=Y.mod x3 (λk hk h9=>by have h2:k=br:=h9;have h8:=hj k hk;omega);have z:=z.mod x3 (λh9=>by have h2:bl=br:=h9;omega);have J:=J.own x3 (λi hi hh=>absurd hh (Ba.2 ((by have h2:i=br:=hi;omega))));obtain⟨hw,xl,Z⟩:=xp;rw[Ks _ _ _ EB]at hw Z;dsimp only at hw Z;have O:=hw.mono h6;refine da (da (de Z3 ?_));refine Hz (G:=Unit) (λuu=>[(0,EE bt 0),(6,I (L.last+1)),(7,vB)]) (λuu w'=>Mod (λk=>k=bt\/G k) w w'/\EK w' bt [EE bl 0,I last] 270/\LedE G bl bd vd ve vs L w'/\EK w' bl [EE bd 0,S [115],I L.base,vd,ve,B L.dead] 147/\Vc.Own EO 1 5 w.heap.size w' vB p) ?_ ?_
 ·refine ws λ_ Z4=>wr (dm ?_);refine cP (PB br bb xl [] false _ Z) RX.all λw4 x4=>?_;have r:=r.ext x4;have Y:=Y.ext x4;have z:=z.ext x4;have Z:=Z.ext x4;have O:=O.ext x4;have J:=J.ext x4;refine dn (dm ?_);refine I5 17 rfl (λc1=>?_) (λc1=>?_)
  ·simp at c1
  refine dm ?_;refine dp (Fb rfl rfl) (EP ?_);refine dm ?_;refine F4 21 rfl (λc2=>?_) (λc2=>?_)
  ·omega
  refine dm ?_;refine dp (Gg rfl rfl) (EP ?_);refine dm ?_;refine F4 25 rfl (λc3=>?_) (λc3=>?_)
  ·omega
  refine dm ?_;refine dz rfl (df 1 rfl (dl rfl (r.at rfl) (dp (IA rfl rfl) (dm ?_))));refine F4 31 rfl (λc4=>?_) (λc4=>?_)
  ·iterate 2 refine dm ?_
   refine dz rfl (df 1 rfl (dl rfl (r.at rfl) (pa rfl rfl (dp (FH rfl rfl) (EP ?_)))));refine EP (de Z4 ?_);refine wi (λc5=>?_) λc5=>?_
   ·omega
   refine EI ?_;exact⟨(),Hd,J,r,Y,z,O⟩
  refine dk (dk (dk (dk (dk (dk (dk (EP ?_)))))));refine EP (de Z4 ?_);refine Hf rfl (EI ?_);exact⟨(),Hd,J,r,Y,z,O⟩
 intro X5 g5 w5 ht;revert ht;revert g5;intro uu ht;clear J r Y z Z O;obtain⟨J,r,Y,z,O⟩:=ht;refine ws λ_ Z5=>wr (dm (dm ?_));refine dz rfl (df 1 rfl (G4 r (λw6 x6 xs6 r=>?_) (hv:=by rfl)));dsimp only [EY,Af,Ad,Ag]at r;have Y:=Y.mod x6 (λk hk e=>by have h2:k=bt:=e;exact hbG (h2▸hk));have z:=z.mod x6 (by intro h;have h2:_=bt:=h;omega);have O:=O.mod x6 (λk hk h=>by have h1:=(O.lt k hk).1;have h2:k=bt:=h;omega);have J:=J.own x6 (λi hi _=>(by exact .inl hi));refine de Z5 (ws λ_ Z6=>ws λ_ Z7=>wr (dm (dm ?_)));refine dz rfl (df 0 rfl (dl rfl (r.at rfl) (dz rfl (df 2 rfl (dl rfl (z.at rfl) (dp (IG rfl rfl) (de Z7 (wi (λc6=>?_) λc6=>?_))))))))
 ·omega
 refine EI (Z6 _ _ (ws λ_ Z8=>ws λ_ Z9=>wr (dm (dm ?_))));refine dz rfl (df 0 rfl (dl rfl (r.at rfl) (cP (GC G bl bd vd ve vs L _ Y) RX.all λw7 x7=>?_)));have r:=r.ext x7;have Y:=Y.ext x7;have z:=z.ext x7;have O:=O.ext x7;have J:=J.ext x7;refine pa rfl rfl (dp (FH rfl rfl) (de Z9 (wi (λc7=>?_) λc7=>?_)))
 ·omega
 have ho:=Y.e;have hc:=Y;have xc:=J.size;refine EI (Z8 _ _ (ws λ_ xh=>F9 (R:=Mod (λk=>ve.ownBlock=some k)) Jz JV EA [3,7,10] [(0,.p,false),(1,.p,false),(2,.p,false),(3,.l,false),(4,.p,false),(5,.p,false),(6,.p,false),(7,.l,false),(8,.p,false),(9,.p,false),(10,.l,false),(11,.p,false),(12,.x,false),(13,.x,false),(14,.p,false),(15,.p,false),(16,.x,true)] rfl EA EA (λw8 xd=>?_)));have x8:=EL xd;clear xd;have r:=r.ext x8;have z:=z.ext x8;have O:=O.ext x8;have ho:=ho.ext x8;have J:=J.ext x8;refine dm ?_;refine dz rfl (df 0 rfl (dL rfl (λ_ Z=>((r.mod Z (λe=>hbG (hc.inG _ (.inr (.inl e))))).at rfl)) (dm ?_)));refine dz rfl (df 0 rfl (dL rfl (λ_ Z=>((r.mod Z (λe=>hbG (hc.inG _ (.inr (.inl e))))).at rfl)) (dz rfl (df 4 rfl (dL rfl (λ_ Z=>((z.mod Z (ho.ne_blk z rfl)).at rfl)) (dm ?_))))));refine It (e:=82) (sz:=1) (zs:=[.slice none 0 0]) (pv:=[(0,?a35_0)]) (cs:=[?a35_0]) rfl EA ⟨rfl,rfl⟩ EA rfl ?h35 ?f35 RX.mod (λb1 w9 e1 x9 m1=>?k35)
 case h35=>refine⟨rfl,?_,trivial⟩<;>(conv=>lhs;whnf)
 case f35=>simp [H7,EY,Ax,O.sl.cells]
 have g1:=J.ge e1;have a1_hb:=r.lt;have a1_hl:=z.lt;have o1_hB:=O.ltb e1;have o1_ho:=ho.ltb e1;have r:=r.ext x9;have z:=z.ext x9;have O:=O.ext x9;have ho:=ho.ext x9;have J:=J.ext x9;refine LP (lx:=[vB]) (e:=82) (sz:=1) (by':=24) rfl EA EA EF ho (m1.arr (enc:=KM) (sz:=1) (l:=[vB]) rfl EF rfl (Av rfl)) rfl rfl (by intro x xe u hu;rw[Ah.1 xe]at hu;rw[Ah.1 hu];exact O.sl.one) (by have:=Y.len;simp;omega) EN (Ae _) (.inr λ_ h=>h) (λv2 w10 xb ha hr=>?_);have xa:=hr;have xk:=ha;have r:=r.mod ha (by exact(λe=>hbG (hc.inG _ (.inr (.inl e)))));have z:=z.mod ha (by exact ho.ne_blk z rfl);have O:=O.mod ha (by exact(λk hk e=>O.ne ho rfl hk e));have J:=J.own ha (λi hi hh=>.inr (hc.inG i (.inr (.inl hi))));have ho:=xb;have hz:=ho.ne_blk z rfl;clear m1;refine dz rfl (df 4 rfl (G4 z (λw11 hf xs11 z=>?_) (hv:=by exact Gd.one ho.sl)));dsimp only [EY,Af,Ad,Ag]at z;have r:=r.mod hf (by assumption);have O:=O.mod hf (λk hk h=>by have h1:=(O.lt k hk).1;have h2:k=bl:=h;omega);have ho:=ho.mod hf (λk hk h=>hz (by have h2:k=bl:=h;rw[hk,h2]));have J:=J.own hf (λi hi _=>(by exact .inr (by have e2:i=bl:=hi;rw[e2];exact hq)));refine de xh (ws λ_ xo=>wr (da (de xo (EJ ?_))));refine ro ?_;have mB:=((ED.mod (x8.trans x9) xk).mono (λk hk _=>(.inl hk:ve.ownBlock=some k\/k=bl))).own hf (λk hk _=>.inr hk);have xi:=hc.add (w0:=w) (p:=p) hll hpl hd xc h.lt mB (λk hk=>hk.elim (λh=>.inr (.inl h)) .inl) z ho (xa.imp id (λe2 k hk=>by rw[e2]at hk;cases hk;exact Ai xc (Ai x8.size x9.size))) (O.arr EF) (λhn=>(O.base_ge hn).1) (λhn e=>O.ne ho rfl (O.base_block hn) e);exact⟨_,rfl,J,rfl,r,_,_,xi⟩
def JF (H:Nat->Prop)(bl bd:Nat)(D:Dsk)(w:World):Prop:=∃(F G:Nat->Prop),FSq F bd D w/\LedE G bl bd (.slice none 0 0) (.slice none 0 0) [] Hs w/\(∀k,F k->¬ G k)/\(∀k,F k\/G k->H k)/\∀k,H k->k<w.heap.size
theorem JF.at {H:Nat->Prop}{bl bd:Nat}{D:Dsk}{w:World}(h:JF H bl bd D w):LD H bl bd Hs D w:=by
 obtain⟨F,G,h1,h2,h3,h4,r⟩:=h;exact⟨F,G,_,_,_,h1,h2,h3,h4,r⟩
def J0 (D:Dsk)(i:Int)(p:EC):Prop:=(lk D.fs Led.img=none/\i=0/\p=[])\/∃k,lk D.fs Led.img=some ⟨EG (Led.ent i p),k⟩
theorem Ya6 {D:Dsk}(h:lk D.fs Led.img=none):Lv D Led.img=([],7):=by
 have e:D.readE Led.img=7:=by unfold Dsk.readE Dsk.has;rw[h];rfl
 rw[WS (by rw[e];decide),e]
theorem SO {D:Dsk}{s p:EC}{k:Nat}(h:lk D.fs s=some ⟨EG p,k⟩)(hp:p.length<=1048576):Lv D s=(p,0):=by
 have e:D.readE s=0:=by unfold Dsk.readE Dsk.has;rw[h];rfl
 have e2:D.readB s=EG p:=by unfold Dsk.readB Dsk.read;rw[h];rfl
 rw[Ve e (by rw[e2,Pz p hp]),e2,Pz p hp]
theorem Xyp : ∀(ps:List EC) (b:Int),FZ b ps=(ps.zipIdx.map λq=>Led.ent (b+1+q.2) q.1).flatMap EG:=by
 intro ps;have:∀(ps:List EC) (k:Nat) (b:Int),FZ (b+k) ps=((ps.zipIdx k).map λq=>Led.ent (b+1+q.2) q.1).flatMap EG:=by
  intro ps
  induction ps with
  | nil=>intro k b;rfl
  | cons p r ih=>
   intro k b;have h1:=ih (k+1) b;unfold FZ;rw[List.zipIdx_cons,An,AB,<-h1,show b+(k:Int)+1=b+1+k by omega,show b+1+(k:Int)=b+((k+1:Nat):Int) by omega]
 intro b;have h:=this ps 0 b;simpa using h
theorem X7m (H:Nat->Prop)(bl bd:Nat)(D:Dsk)(w:World)(h:JF H bl bd D w)(hno:lk D.fs Led.img=none) :
  Calls Tryz.prog 116 [EE bl 0].toArray w (Ff H w (λu w'=>u=I 0/\JF (Gx H w w') bl bd D w')):=by
 refine cw Tryz.func116 ?_;have z:=Vc.Mod.refl H w;obtain⟨F,G,hA,r,Z,O,Y⟩:=h;have h00:JF H bl bd D w:=⟨F,G,hA,r,Z,O,Y⟩;have hl:EK w bl [EE bd 0,S [115],I 0,.slice none 0 0,.slice none 0 0,B false] 147:=r.m;have hltG:=r.lt;refine ws λ_ Z1=>wr (da (de Z1 (ws λ_ Z2=>?_)));refine F9 (R:=ED) ED.refl (λ_ _ _=>ED.trans) EA [3] [(0,.p,false),(1,.p,false),(2,.p,false),(3,.l,false),(4,.p,false),(5,.x,false),(6,.x,true),(7,.p,false),(8,.p,false),(9,.p,false),(10,.p,false),(11,.p,false)] rfl EA EA (λw1 J=>?_);have x1:=EL J;clear J;have hl:=hl.ext x1;have r:=r.ext x1;have hA:=hA.ext x1;have z:=z.ext x1;refine dm ?_;refine dz rfl (df 0 rfl (dL rfl (λ_ hR=>((hl.ext hR).at rfl)) (dm ?_)));refine cP (Gq G bl bd _ _ _ Hs _ r) RX.ext λw2 x2=>?_;have r:=r.ext x2;have hA:=hA.ext x2;have z:=z.ext x2;refine cG (Ir F bd D Led.img _ hA EN) RX.all λu3 w3 x3 ha=>?_;have hsz3:=z.size;have r:=r.ext x3;have hA:=hA.ext x3;have z:=z.ext x3;rw[Ya6 hno]at ha;obtain⟨vx,rfl,_⟩:=ha;refine dm ?_;refine dx rfl rfl (dx rfl rfl (da (da (de Z2 (ws λ_ Z3=>ws λ_ Z4=>wr (dm ?_))))));refine dp (GB rfl rfl) (de Z4 (wi (λc1=>?_) λc1=>?_))
 ·refine ws λ_ Z5=>wr (da (de Z5 (EJ ?_)));refine ro ?_;exact⟨_,rfl,z,rfl,F,G,hA,r,Z,λk hk=>.inl (O k hk),HT Y z.size⟩
 exact absurd rfl c1
theorem X7n (H:Nat->Prop)(bl bd:Nat)(D:Dsk)(i:Int)(p:EC)(kk:Nat)(w:World)(h:JF H bl bd D w)(his:lk D.fs Led.img=some ⟨EG (Led.ent i p),kk⟩)(hi0:0<=i)(hi1:i<=1099511627776)(hpl:p.length<=524288) :
  Calls Tryz.prog 116 [EE bl 0].toArray w (Ff H w (λu w'=>u=I 0/\LD (Gx H w w') bl bd ⟨i,p,[],false⟩ D w')):=by
 refine cw Tryz.func116 ?_;have r:=Vc.Mod.refl H w;obtain⟨F,G,hA,O,hc,Z,J⟩:=h;have h00:JF H bl bd D w:=⟨F,G,hA,O,hc,Z,J⟩;have z:EK w bl [EE bd 0,S [115],I 0,.slice none 0 0,.slice none 0 0,B false] 147:=O.m;have hf:=O.lt;have xc:=O;have ha:=O.inG bl (.inl rfl);have hblt:=z.lt;have helen:=Lr i p;have hq:=Sb i p;have ht:=congrArg AC hq;simp only [Aa]at ht;refine ws λ_ Z1=>wr (da (de Z1 (ws λ_ Z2=>?_)));refine F9 (R:=ED) ED.refl (λ_ _ _=>ED.trans) EA [3] [(0,.p,false),(1,.p,false),(2,.p,false),(3,.l,false),(4,.p,false),(5,.x,false),(6,.x,true),(7,.p,false),(8,.p,false),(9,.p,false),(10,.p,false),(11,.p,false)] rfl EA EA (λw1 hr=>?_);have x1:=EL hr;clear hr;have z:=z.ext x1;have O:=O.ext x1;have hA:=hA.ext x1;have r:=r.ext x1;refine dm ?_;refine dz rfl (df 0 rfl (dL rfl (λ_ hR=>((z.ext hR).at rfl)) (dm ?_)));refine cP (Gq G bl bd _ _ _ Hs _ O) RX.ext λw2 x2=>?_;have z:=z.ext x2;have O:=O.ext x2;have hA:=hA.ext x2;have r:=r.ext x2;refine cG (Ir F bd D Led.img _ hA EN) RX.all λu3 w3 x3 hw=>?_;have hsz3:=r.size;have z:=z.ext x3;have O:=O.ext x3;have hA:=hA.ext x3;have r:=r.ext x3;rw[SO his EB]at hw;obtain⟨vx,rfl,hV⟩:=hw;refine dm ?_;refine dx rfl rfl (dx rfl rfl (da (da (de Z2 (ws λ_ Z3=>ws λ_ Z4=>wr (dm ?_))))));refine dp (GB rfl rfl) (de Z4 (wi (λc1=>?_) λc1=>?_))
 ·exact absurd c1 ER
 refine EI (Z3 _ _ (ws λ_ Z5=>ws λ_ Z6=>wr (dm ?_)));refine dp (FH rfl rfl) (de Z6 (wi (λc2=>?_) λc2=>?_))
 ·exact absurd rfl c2
 refine EI (Z5 _ _ (ws λ_ Z7=>wr (dm ?_)));refine cG (M6 (Led.ent i p) vx _ (hV.arr EF) EB) RX.all λu4 w4 x4 hz=>?_;have hp:=r.size;have z:=z.ext x4;have O:=O.ext x4;have hA:=hA.ext x4;have r:=r.ext x4;obtain⟨br,bb,xe,rfl,hy,gbb,hR⟩:=hz;have hbrw:w.heap.size<=br:=Ai hp hy;rw[hq]at hR;refine da (de Z7 (ws λ_ Z8=>wr (dm (dm (dm ?_)))));refine cD (KE br bb xe _ false _ hR (by simp only [Aa];omega)) (.inl rfl) λu5 w5 x5 h6=>?_;have hsz5:=r.size;have z:=z.mod x5 (λY=>by have h2:bl=br:=Y;omega);have O:=O.mod x5 (λk hk Y=>by have h2:k=br:=Y;have h8:=hf k hk;omega);have hA:=hA.mod x5 (λk hk Y=>by have h2:k=br:=Y;have h8:=J k (Z k (.inl hk));omega);have r:=r.own x5 (λi hi J=>absurd J (Ba.2 ((by have h2:i=br:=hi;omega))));obtain⟨hb,xd,hR⟩:=h6;rw[JG _ _ EB]at hb hR;dsimp only at hb hR;rw[show((i.toNat:Nat):Int)=i by omega]at hb;subst hb;refine dm ?_;refine cD (Kx br bb xd _ false _ hR (by simp only [Aa];omega)) (.inl rfl) λvB w6 x6 xa=>?_;have hj:=r.size;have z:=z.mod x6 (λY=>by have h2:bl=br:=Y;omega);have O:=O.mod x6 (λk hk Y=>by have h2:k=br:=Y;have h8:=hf k hk;omega);have hA:=hA.mod x6 (λk hk Y=>by have h2:k=br:=Y;have h8:=J k (Z k (.inl hk));omega);have r:=r.own x6 (λi hi J=>absurd J (Ba.2 ((by have h2:i=br:=hi;omega))));obtain⟨hh,xb,hR⟩:=xa;rw[Ks _ _ _ EB]at hh hR;dsimp only at hh hR;have hB:=hh.mono hj;refine dz rfl (df 2 rfl (G4 z (λw7 x7 xs7 z=>?_) (hv:=by rfl)));dsimp only [EY,Af,Ad,Ag]at z;have hA:=hA.mod x7 (λk hk e=>by have h2:k=bl:=e;exact hc k hk (h2▸ha));have hR:=hR.mod x7 (λk hk e=>by have h2:k=bl:=e;rcases hk with Y|⟨Y,_⟩;omega;exact Y rfl);have hB:=hB.mod x7 (λk hk h=>by have h1:=(hB.lt k hk).1;have h2:k=bl:=h;omega);have r:=r.own x7 (λi hi _=>(by have e2:i=bl:=hi;rw[e2];exact Z bl (.inr ha)));refine dz rfl (df 3 rfl (G4 z (λw8 x8 xs8 z=>?_) (hv:=by exact Gd.one hB.sl)));dsimp only [EY,Af,Ad,Ag]at z;have hA:=hA.mod x8 (λk hk e=>by have h2:k=bl:=e;exact hc k hk (h2▸ha));have hR:=hR.mod x8 (λk hk e=>by have h2:k=bl:=e;rcases hk with Y|⟨Y,_⟩;omega;exact Y rfl);have hB:=hB.mod x8 (λk hk h=>by have h1:=(hB.lt k hk).1;have h2:k=bl:=h;omega);have r:=r.own x8 (λi hi _=>(by have e2:i=bl:=hi;rw[e2];exact Z bl (.inr ha)));refine de Z8 (ws λ_ Z9=>ws λ_ h5=>wr (dm ?_));refine cP (PB br bb xb [] false _ hR) RX.all λw9 x9=>?_;have z:=z.ext x9;have hA:=hA.ext x9;have hB:=hB.ext x9;have r:=r.ext x9;refine dn (dm ?_);refine I5 36 rfl (λc3=>?_) (λc3=>?_)
 ·simp at c3
 refine dm ?_;refine dz rfl (df 2 rfl (dl rfl (z.at rfl) (dp (Gg rfl rfl) (EP (de h5 ?_)))));refine wi (λc4=>?_) λc4=>?_
 ·omega
 refine EI (Z9 _ _ (ws λ_ xf=>wr (da (de xf (EJ ?_)))));refine ro ?_;have h7:=xc.image (i:=i) (p:=p) r.size z (hB.arr EF) (λhn=>(hB.base_ge hn).1) hi0 hi1 hpl;exact⟨_,rfl,r,rfl,F,Gx G w _,_,_,_,hA,h7,λk hk hg=>hg.elim (λh=>hc k hk h) (λh=>by have:=J k (Z k (.inl hk));omega),λk hk=>hk.elim (λh=>.inl (Z k (.inl h))) (λh=>h.elim (λh2=>.inl (Z k (.inr h2))) .inr),HT J r.size⟩
theorem X7o (H:Nat->Prop)(bl bd:Nat)(D:Dsk)(L:Led)(w:World)(h:LD H bl bd L D w)(hno:D.has Led.logn=false) :
  Calls Tryz.prog 117 [EE bl 0].toArray w (Ff H w (λu w'=>u=I 0/\LD (Gx H w w') bl bd L D w')):=by
 refine cw Tryz.func117 ?_;have z:=Vc.Mod.refl H w;obtain⟨F,G,vd,ve,vs,hA,r,Z,O,Y⟩:=h;have h00:LD H bl bd L D w:=⟨F,G,vd,ve,vs,hA,r,Z,O,Y⟩;have hl:=r.m;have hltG:=r.lt;have hltF:=hA.lt;refine ws λ_ Z1=>wr (da (de Z1 (ws λ_ Z2=>ws λ_ Z3=>?_)));refine F9 (R:=ED) ED.refl (λ_ _ _=>ED.trans) EA [3] [(0,.p,false),(1,.p,false),(2,.p,false),(3,.l,false),(4,.p,false),(5,.x,false),(6,.x,true),(7,.p,false)] rfl EA EA (λw1 J=>?_);have x1:=EL J;clear J;have hl:=hl.ext x1;have r:=r.ext x1;have hA:=hA.ext x1;have z:=z.ext x1;refine dm ?_;refine dz rfl (df 0 rfl (dL rfl (λ_ hR=>((hl.ext hR).at rfl)) (dm ?_)));refine cP (FB G bl bd _ _ _ L _ r) RX.ext λw2 x2=>?_;have r:=r.ext x2;have hA:=hA.ext x2;have z:=z.ext x2;refine cP (I8 F bd D Led.logn _ hA) RX.all λw3 x3=>?_;have r:=r.ext x3;have hA:=hA.ext x3;have z:=z.ext x3;refine dn (de Z3 ?_);refine wc (λc1=>?_) λc1=>?_
 ·refine ws λ_ Z4=>wr (da (de Z4 (EJ ?_)));refine ro ?_;exact⟨_,rfl,z,rfl,F,G,_,_,_,hA,r,Z,λk hk=>.inl (O k hk),HT Y z.size⟩
 rw[hno]at c1;cases c1
theorem NZ (D:Dsk):D.tick.fs=D.fs:=by unfold Dsk.tick;split<;>rfl
structure SF (D:Dsk):Prop where
 nd:(D.fs.map (·.1)).Nodup
 tl:∀p∈D.fs,p.1.getLast?≠some 126
 fl:∀p∈D.fs,p.2.lasts=p.2.data.length
section
variable {D:Dsk}{n m p:EC}
theorem SF.sh (h:SF D)(n:EC):lk D.fs (Dsk.sh n)=none:=by
 rw[LK];intro hm;obtain⟨p,r,e⟩:=Aq.1 hm;exact h.tl p r (by rw[e];unfold Dsk.sh;simp)
theorem SF.set {D':Dsk}(h:SF D)(hn:n.getLast?≠some 126)(e:D'.fs=EZ D.fs n ⟨p,p.length⟩):SF D':=by
 refine⟨?_,λq r=>?_,λq r=>?_⟩
 ·rw[e];exact Mu _ _ h.nd
 ·rw[e]at r;rcases Od r with rfl|r
  ·exact hn
  ·exact h.tl q r
 ·rw[e]at r;rcases Od r with rfl|r
  ·rfl
  ·exact h.fl q r
theorem SF.del {D':Dsk}(h:SF D)(e:D'.fs=FR D.fs n):SF D':=by
 refine⟨?_,λq r=>?_,λq r=>?_⟩
 ·rw[e];exact Pq n h.nd
 ·rw[e]at r;exact h.tl q (A3.1 r).1
 ·rw[e]at r;exact h.fl q (A3.1 r).1
theorem TA (D:Dsk)(n p:EC):(∃e,e≠0/\D.app n p=(e,D))\/∃D',D.app n p=(0,D')/\D'.fs=EZ D.fs n ⟨(D.old n).data++p,(D.old n).lasts⟩:=by
 unfold Dsk.app;split
 ·rename_i h;exact .inl ⟨_,h,rfl⟩
 split
 ·exact .inl ⟨6,by decide,rfl⟩
 ·exact .inr ⟨_,rfl,NZ _⟩
theorem Ws {f:Fil}(h:lk D.fs n=some f):(∃e,e≠0/\D.sync [n]=(e,D))\/∃D',D.sync [n]=(0,D')/\D'.fs=EZ D.fs n ⟨f.data,f.data.length⟩:=by
 unfold Dsk.sync Dsk.each;split
 ·rename_i h;exact .inl ⟨_,h,rfl⟩
 rw[if_neg (by rw[h];exact DR)];unfold Dsk.each Dsk.lastsA Dsk.old;rw[h];exact .inr ⟨_,rfl,NZ _⟩
theorem Ya8 (h:D.has n=true):(∃e,e≠0/\D.rem [n]=(e,D))\/∃D',D.rem [n]=(0,D')/\D'.fs=FR D.fs n:=by
 unfold Dsk.rem Dsk.each;split
 ·rename_i h;exact .inl ⟨_,h,rfl⟩
 have h2:(lk D.fs n).isNone=false:=by
  unfold Dsk.has at h
  cases e:lk D.fs n with
  | none=>rw[e]at h;cases h
  | some a=>rfl
 rw[if_neg (by rw[h2];decide)];unfold Dsk.each Dsk.gone;exact .inr ⟨_,rfl,NZ _⟩
theorem Ycj {f:Fil}(h:lk D.fs n=some f):(∃e,e≠0/\D.ren n m=(e,D))\/∃D',D.ren n m=(0,D')/\D'.fs=EZ (FR D.fs n) m f:=by
 unfold Dsk.ren;split
 ·rename_i h;exact .inl ⟨_,h,rfl⟩
 rw[h];exact .inr ⟨_,rfl,NZ _⟩
theorem XK (h:SF D)(hn:1<=n.length/\n.length<=60)(ht:n.getLast?≠some 126)(p:EC) :
  (∃e D',e≠0/\D.save n p=(e,D')/\(D'.fs.map (·.1)).Nodup/\∀m,m≠Dsk.sh n->lk D'.fs m=lk D.fs m)\/
  ∃D',D.save n p=(0,D')/\SF D'/\∀m,lk D'.fs m=if m=n then some ⟨EG p,(EG p).length⟩else lk D.fs m:=by
 have hs:=h.sh n;unfold Dsk.save;rw[if_neg EB];split
 ·exact .inl ⟨5,D,by decide,rfl,h.nd,λ_ _=>rfl⟩
 rw[if_neg (by unfold Dsk.has;rw[hs];decide)];unfold Dsk.save2;rcases TA D (Dsk.sh n) (EG p)with⟨e,he,ha⟩|⟨D1,ha,h1⟩
 ·rw[ha,if_pos he];exact .inl ⟨e,D,he,rfl,h.nd,λ_ _=>rfl⟩
 rw[SG hs]at h1;simp only [AE]at h1;have Z:lk D1.fs (Dsk.sh n)=some ⟨EG p,0⟩:=by rw[h1,ID,if_pos rfl]
 have J:(D1.fs.map (·.1)).Nodup:=by rw[h1];exact Mu _ _ h.nd
 have r:∀m,m≠Dsk.sh n->lk D1.fs m=lk D.fs m:=λm hm=>by rw[h1,ID,if_neg hm]
 rw[ha];simp only [ne_eq,not_true_eq_false,if_false];rcases Ws Z with⟨e,he,hb⟩|⟨D2,hb,h2⟩
 ·rw[hb,if_pos he];exact .inl ⟨e,D1,he,rfl,J,r⟩
 have O:lk D2.fs (Dsk.sh n)=some ⟨EG p,(EG p).length⟩:=by rw[h2,ID,if_pos rfl]
 have Y:(D2.fs.map (·.1)).Nodup:=by rw[h2];exact Mu _ _ J
 have z:∀m,m≠Dsk.sh n->lk D2.fs m=lk D.fs m:=λm hm=>by rw[h2,ID,if_neg hm,r m hm]
 rw[hb];simp only [not_true_eq_false,if_false];rcases Ycj (m:=n) O with⟨e,he,hc⟩|⟨D3,hc,h3⟩
 ·rw[hc];exact .inl ⟨e,D2,he,rfl,Y,z⟩
 rw[hc];refine .inr ⟨D3,rfl,?_,λm=>?_⟩
 ·have e3:D3.fs=EZ D.fs n ⟨EG p,(EG p).length⟩:=by
   rw[h3,h2,h1,N8,SB hs]
  exact h.set ht e3
 ·rw[h3,ID,KY];split
  ·rfl
  split
  ·rename_i e;rw[e,hs]
  ·rename_i hm;exact z m hm
theorem Ya9 (h:SF D)(n:EC):(∃e,e≠0/\Dsk.rems [n] D=(e,D))\/∃D',Dsk.rems [n] D=(0,D')/\SF D'/\∀m,lk D'.fs m=if m=n then none else lk D.fs m:=by
 unfold Dsk.rems
 by_cases hh:D.has n=true
 ·rw[if_pos hh];rcases Ya8 hh with⟨e,he,hr⟩|⟨D',hr,h1⟩
  ·rw[hr,if_pos he];exact .inl ⟨e,he,rfl⟩
  ·rw[hr,if_neg ER];unfold Dsk.rems;exact .inr ⟨D',rfl,h.del h1,λm=>by rw[h1];exact KY _ _ _⟩
 ·rw[if_neg hh];unfold Dsk.rems;refine .inr ⟨D,rfl,h,λm=>?_⟩;split
  ·rename_i e;subst e;unfold Dsk.has at hh
   cases e:lk D.fs m with
   | none=>rfl
   | some a=>rw[e]at hh;exact absurd rfl hh
  ·rfl
end
theorem TB : ∀(ns:List EC) (D:Dsk),SF D->SF (D.rem ns).2/\∀m,m∉ns->lk (D.rem ns).2.fs m=lk D.fs m
 | [],D,h=>⟨h,λ_ _=>rfl⟩
 | n :: r,D,h=>by
  have e1:(D.gone n).tick.fs=FR D.fs n:=by rw[NZ];rfl
  have z:=TB r (D.gone n).tick (h.del e1);unfold Dsk.rem at *;unfold Dsk.each;split
  ·exact⟨h,λ_ _=>rfl⟩
  split
  ·exact⟨h,λ_ _=>rfl⟩
  refine⟨z.1,λm hm=>?_⟩;rw[z.2 m (λJ=>hm (Am _ J)),e1,KY,if_neg (λe=>hm (by rw[e];exact Al))]
theorem Ybb {L:Led}{D:Dsk}(h:SF D)(p:EC):(∃e d D',e≠0/\L.append D p=(0,e,{ L with dead:=d },D')/\(D'=D\/(p.length<=65536/\D'.fs=EZ D.fs Led.logn ⟨(D.old Led.logn).data++EG (Led.ent (L.last+1) p),(D.old Led.logn).lasts⟩)))\/
  ∃D',L.append D p=(L.last+1,0,{ L with ents:=L.ents++[p] },D')/\p.length<=65536/\L.last<1099511627776/\D'.fs=EZ D.fs Led.logn ⟨(D.old Led.logn).data++EG (Led.ent (L.last+1) p),((D.old Led.logn).data++EG (Led.ent (L.last+1) p)).length⟩:=by
 cases hd:L.dead with
 | true=>exact .inl ⟨9,L.dead,D,by decide,Rm hd,.inl rfl⟩
 | false=>
  by_cases h2:65536<p.length\/1099511627776<=L.last
  ·exact .inl ⟨5,L.dead,D,by decide,OF hd h2,.inl rfl⟩
  ·rcases TA D Led.logn (EG (Led.ent (L.last+1) p))with⟨e,he,ha⟩|⟨D1,ha,h1⟩
   ·have r:Ho L D p=(e,D):=by unfold Ho;rw[ha,if_neg he]
    exact .inl ⟨e,true,D,he,by rw[Pa hd h2 (by rw[r];exact he),r],.inl rfl⟩
   ·have z:lk D1.fs Led.logn=some ⟨(D.old Led.logn).data++EG (Led.ent (L.last+1) p),(D.old Led.logn).lasts⟩:=by rw[h1,ID,if_pos rfl]
    rcases Ws z with⟨e,he,hb⟩|⟨D2,hb,h3⟩
    ·have r:Ho L D p=(e,D1):=by unfold Ho;rw[ha,if_pos rfl];exact hb
     exact .inl ⟨e,true,D1,he,by rw[Pa hd h2 (by rw[r];exact he),r],.inr ⟨by omega,h1⟩⟩
    ·have r:Ho L D p=(0,D2):=by unfold Ho;rw[ha,if_pos rfl];exact hb
     rw[h1]at h3;dsimp only at h3;rw[N8]at h3;exact .inr ⟨D2,by rw[OJ hd h2 (by rw[r];simp),r,hd],by omega,by omega,h3⟩
theorem X7p {L:Led}{D:Dsk}(h:SF D)(i:Int)(p:EC):(∃e d D',e≠0/\L.write D i p=(e,{ L with dead:=d },D')/\(D'=D\/((D'.fs.map (·.1)).Nodup/\∀m,m≠Dsk.sh Led.img->lk D'.fs m=lk D.fs m)\/
   (i<=1099511627776/\L.last<=i/\SF D'/\∀m,lk D'.fs m=if m=Led.img then some ⟨EG (Led.ent i p),(EG (Led.ent i p)).length⟩else lk D.fs m)))\/
  (i<=1099511627776/\L.last<=i/\∃D',L.write D i p=(0,⟨i,p,[],false⟩,D')/\SF D'/\∀m,lk D'.fs m=if m=Led.logn then none else if m=Led.img then some ⟨EG (Led.ent i p),(EG (Led.ent i p)).length⟩else lk D.fs m):=by
 unfold Led.write;split
 ·exact .inl ⟨9,L.dead,D,by decide,rfl,.inl rfl⟩
 split
 ·exact .inl ⟨1,L.dead,D,by decide,rfl,.inl rfl⟩
 rename_i hi;split
 ·exact .inl ⟨5,L.dead,D,by decide,rfl,.inl rfl⟩
 dsimp only;rcases XK h (n:=Led.img) EN EN (Led.ent i p)with⟨e,D1,he,hs,h1,h2⟩|⟨D1,hs,h1,h2⟩
 ·rw[hs];dsimp only;rw[if_neg he,if_pos he];exact .inl ⟨e,true,D1,he,rfl,.inr (.inl ⟨h1,h2⟩)⟩
 ·rw[hs];dsimp only;rw[if_pos rfl];rcases Ya9 h1 Led.logn with⟨e,he,hr⟩|⟨D2,hr,h3,h4⟩
  ·rw[hr,if_pos he];exact .inl ⟨e,true,D1,he,rfl,.inr (.inr ⟨by omega,by omega,h1,h2⟩)⟩
  ·rw[hr,if_neg ER];refine .inr ⟨by omega,by omega,D2,rfl,h3,λm=>?_⟩;rw[h4 m];split
   ·rfl
   ·exact h2 m
theorem Wy : ∀(qs:List (Int×EC)) (D:Dsk),SF D->(∀q∈qs,0<=q.1/\q.1<=1099511627776)->(qs.map (·.1)).Nodup->
  ((GQ qs D).1≠0/\((GQ qs D).2.fs.map (·.1)).Nodup/\∀m,(∀q∈qs,m≠FJ q.1/\m≠Dsk.sh (FJ q.1))->lk (GQ qs D).2.fs m=lk D.fs m)\/
  ((GQ qs D).1=0/\SF (GQ qs D).2/\(∀m,(∀q∈qs,m≠FJ q.1)->lk (GQ qs D).2.fs m=lk D.fs m)/\∀q∈qs,lk (GQ qs D).2.fs (FJ q.1)=some ⟨EG q.2,(EG q.2).length⟩)
 | [],D,h,_,_=>.inr ⟨rfl,h,λ_ _=>rfl,λq O=>(by cases O)⟩
 | q :: r,D,h,O,hn=>by
  obtain⟨Y,q2⟩:=O q Al;rw[An,AV]at hn;rcases XK h (X1l Y q2) (R7 Y) q.2 with⟨e,D1,he,hs,h1,h2⟩|⟨D1,hs,h1,h2⟩
  ·have e2:GQ (q :: r) D=(e,D1):=by rw[GQ.eq_2,hs,if_pos he]
   rw[e2];exact .inl ⟨he,h1,λm hm=>h2 m (hm q Al).2⟩
  ·have e2:GQ (q :: r) D=GQ r D1:=by rw[GQ.eq_2,hs,if_neg ER]
   rw[e2];rcases Wy r D1 h1 (λz J=>O z (Am _ J)) hn.2 with⟨r0,r1,r2⟩|⟨r0,r1,r2,r3⟩
   ·exact .inl ⟨r0,r1,λm hm=>by rw[r2 m (λz J=>hm z (Am _ J)),h2 m,if_neg (hm q Al).1]⟩
   ·refine .inr ⟨r0,r1,λm hm=>by rw[r2 m (λz J=>hm z (Am _ J)),h2 m,if_neg (hm q Al)],λz J=>?_⟩;rcases Aj.1 J with rfl|J
    ·rw[r2 _ (λy Z e=>hn.1 (by rw[NF Y (O y (Am _ Z)).1 e];exact List.mem_map_of_mem Z)),h2,if_pos rfl]
    ·exact r3 z J
structure FA (L:Led)(D:Dsk)(V:Vs)(ts:List Tb):Prop where
 sf:SF D
 img:(lk D.fs Led.img=none/\L.base=0/\L.data=[]/\V=⟨1,[]⟩)\/(lk D.fs Led.img=some ⟨EG (Led.ent L.base L.data),(EG (Led.ent L.base L.data)).length⟩/\L.data=FO V/\(FO V).length<=262144)
 bs:∃bs:List (List Rw),L.ents=bs.map F0/\∀b∈bs,H8 b=0
 log:(lk D.fs Led.logn=none/\L.ents=[])\/(L.ents≠[]/\lk D.fs Led.logn=some ⟨FZ L.base L.ents,(FZ L.base L.ents).length⟩)
 tab:∀t∈ts,lk D.fs (FJ t.h.2)=some ⟨EG (EG (Fo t.cs)),(EG (EG (Fo t.cs))).length⟩
 b0:0<=L.base
 tok:∀t∈ts,Hx t.cs=0/\(EG (Fo t.cs)).length<=1048576
structure FX (L:Led)(b0:Int)(D:Dsk)(V:Vs)(ts:List Tb):Prop where
 nd:(D.fs.map (·.1)).Nodup
 img:(lk D.fs Led.img=none/\L.base=0/\L.data=[]/\V=⟨1,[]⟩)\/(lk D.fs Led.img=some ⟨EG (Led.ent L.base L.data),(EG (Led.ent L.base L.data)).length⟩/\L.data=FO V/\(FO V).length<=262144)
 bs:∃bs:List (List Rw),L.ents=bs.map F0/\∀b∈bs,H8 b=0
 log:(lk D.fs Led.logn=none/\L.ents=[])\/∃x k,lk D.fs Led.logn=some ⟨FZ b0 L.ents++x,k⟩/\(FZ b0 L.ents).length<=k/\(x=[]\/(b0=L.base/\∃b,H8 b=0/\x=EG (Led.ent (b0+L.ents.length+1) (F0 b))))
 st:b0=L.base\/b0+L.ents.length=L.base
 h0:0<=b0
 tab:∀t∈ts,lk D.fs (FJ t.h.2)=some ⟨EG (EG (Fo t.cs)),(EG (EG (Fo t.cs))).length⟩
 tok:∀t∈ts,Hx t.cs=0/\(EG (Fo t.cs)).length<=1048576
section
variable {n lv:Int}{V V':Vs}{ts ts':List Tb}{mem mem' l:List Cell}{gone:List Fi}{L L':Led}{D D':Dsk}{dead dead' ok:Bool}{e:Int}{S i:Nat}{M:List Rw}
theorem FA.nil {D:Dsk}(h:D.fs=[]):FA Hs D ⟨1,[]⟩ []:=by
 refine⟨⟨by rw[h];exact BV,λp r=>(by rw[h]at r;cases r),λp r=>(by rw[h]at r;cases r)⟩,.inl ⟨by rw[h];rfl,rfl,rfl,rfl⟩,⟨[],rfl,λb J=>(by cases J)⟩,.inl ⟨by rw[h];rfl,rfl⟩,λt z=>(by cases z),BQ _,λt z=>(by cases z)⟩
theorem FA.fx (h:FA L D V ts):FX L L.base D V ts:=by
 refine⟨h.sf.nd,h.img,h.bs,?_,.inl rfl,h.b0,h.tab,h.tok⟩;rcases h.log with h1|⟨_,h1⟩
 ·exact .inl h1
 ·exact .inr ⟨[],_,by rw[AO];exact h1,Ab _,.inl rfl⟩
theorem FX.same {b0:Int}(h:FX L b0 D V ts)(hn:(D'.fs.map (·.1)).Nodup)(h1:lk D'.fs Led.img=lk D.fs Led.img)(h2:lk D'.fs Led.logn=lk D.fs Led.logn)(h3:∀t∈ts,lk D'.fs (FJ t.h.2)=lk D.fs (FJ t.h.2)):FX L b0 D' V ts:=
 ⟨hn,by rw[h1];exact h.img,h.bs,by rw[h2];exact h.log,h.st,h.h0,λt r=>by rw[h3 t r];exact h.tab t r,h.tok⟩
theorem FA.same (h:FA L D V ts)(hn:SF D')(h1:lk D'.fs Led.img=lk D.fs Led.img)(h2:lk D'.fs Led.logn=lk D.fs Led.logn)(h3:∀t∈ts,lk D'.fs (FJ t.h.2)=lk D.fs (FJ t.h.2)):FA L D' V ts:=
 ⟨hn,by rw[h1];exact h.img,h.bs,by rw[h2];exact h.log,λt r=>by rw[h3 t r];exact h.tab t r,h.b0,h.tok⟩
theorem FA.old (h:FA L D V ts):D.old Led.logn=⟨FZ L.base L.ents,(FZ L.base L.ents).length⟩:=by
 unfold Dsk.old;rcases h.log with⟨g1,g2⟩|⟨_,g2⟩
 ·rw[g1,g2];rfl
 ·rw[g2];rfl
theorem Nf {s t:EC}(h:s.getLast?≠some 126):s≠Dsk.sh t:=λe=>h (by rw[e];unfold Dsk.sh;simp)
theorem FA.write {b:List Rw}(h:FA L D V ts)(hw:O8 L D mem false b e L' D' mem' dead'):(dead'=false->FA L' D' V ts)/\FX L L.base D' V ts\/(FA L' D' V ts):=by
 rcases hw with⟨r,_⟩|⟨_,_,_,rfl,rfl,rfl,_⟩|⟨_,hc,rfl,rfl,hr⟩
 ·cases r
 ·exact .inr h
 ·rcases Ybb (L:=L) h.sf (F0 b)with⟨e9,d,D1,he,hA,hD⟩|⟨D1,hA,hpl,hla,hD⟩
  ·rw[hA]at hr ⊢;rcases hr with⟨_,_,_,rfl⟩|⟨r,_⟩
   ·refine .inl ⟨λr=>(by cases r),?_⟩;rcases hD with rfl|⟨_,hD⟩
    ·exact h.fx
    ·have O:∀m,m≠Led.logn->lk D1.fs m=lk D.fs m:=λm hm=>by rw[hD,ID,if_neg hm]
     refine⟨by rw[hD];exact Mu _ _ h.sf.nd,by rw[O _ EN];exact h.img,h.bs,.inr ⟨EG (Led.ent (L.last+1) (F0 b)),(FZ L.base L.ents).length,?_,Ab _,.inr ⟨rfl,b,hc,rfl⟩⟩,.inl rfl,h.b0,λt Y=>by rw[O _ (Mx _)];exact h.tab t Y,h.tok⟩;show lk D1.fs Led.logn=_;rw[hD,ID,if_pos rfl,h.old]
   ·exact absurd r he
  ·rw[hA]at hr ⊢;rcases hr with⟨r,_⟩|⟨_,_,_,rfl⟩
   ·exact absurd rfl r
   ·refine .inr ?_;have O:∀m,m≠Led.logn->lk D1.fs m=lk D.fs m:=λm hm=>by rw[hD,ID,if_neg hm]
    obtain⟨bs,b1,Z⟩:=h.bs;rw[h.old]at hD;have J:(FZ L.base L.ents++EG (Led.ent (L.last+1) (F0 b)))=FZ L.base (L.ents++[F0 b]):=by rw[QW];rfl
    dsimp only at hD;rw[J]at hD;refine⟨h.sf.set EN hD,by show(lk D1.fs _=_/\_)\/_;rw[O _ EN];exact h.img,⟨bs++[b],?_,λx z=>?_⟩,.inr ⟨by simp,?_⟩,λt Y=>by rw[O _ (Mx _)];exact h.tab t Y,h.b0,h.tok⟩
    ·show L.ents++_=_;rw[b1,AH];rfl
    ·rcases Aw.1 z with z|z
     ·exact Z x z
     ·rw[Ah.1 z];exact hc
    ·show lk D1.fs Led.logn=some ⟨FZ L.base (L.ents++[F0 b]),_⟩;rw[hD,ID,if_pos rfl]
theorem FA.chg (h:FA L D V ts)(hC:Jx L D V ts dead l lv gone e L' D' V' ts' dead')(hS:Sto n V ts mem')(hg:∀f∈gone,f∈V.fs) :
  (e≠0/\V'=V/\ts'=ts/\((dead'=dead/\FA L' D' V ts)\/(dead'=true/\∃L0 b0 V0 ts0,FX L0 b0 D' V0 ts0/\((V0=V/\ts0=ts)\/ChS V ts l lv gone V0 ts0)/\b0+L0.ents.length=L.last/\L0.base<=L.last/\L0.ents.length<=L.ents.length)))\/
  (e=0/\FA L' D' V' ts'/\∃tbs:List Tb,ts'=ts.filter (kp gone)++tbs/\∀t∈tbs,V.next<=t.h.2):=by
 have hch:=(Pv hC).2;have J:L.base<=L.last:=by unfold Led.last;omega
 have hlb:=h.b0;rcases hC with⟨h1,rfl,rfl,rfl,rfl,rfl,_⟩|⟨hbld,hok0,fs',hp,_,hv,hv2,hr⟩
 ·exact .inl ⟨h1,rfl,rfl,.inl ⟨rfl,h⟩⟩
 ·have h5:=Ij hv;have hvn:1<=V.next:=(Ij hS.isv).1;have hc:∀q∈HZ V.next (F8 l),V.next<=q.1/\q.1<=1099511627776/\q.2.length<=1048576:=λq Z=>by
   unfold HZ at Z;obtain⟨p,xa,rfl⟩:=Aq.1 Z;have hf:Kr lv V.next p.2 p.1∈fs':=hp.mem_iff.2 (List.mem_append_right _ (by unfold F7;exact Aq.2 ⟨p,xa,rfl⟩));have h1:=Jk (h5.2.2.2.1 _ hf);have h2:Hp V.next (F7 lv V.next (F8 l))<=1099511627776:=h5.2.1;have g2:V.next+↑p.2<Hp V.next (F7 lv V.next (F8 l)):=h1.2.1;have g3:(((EG (Fo p.1)).length:Nat):Int)<=1048576:=h1.2.2.2.2.2.1;exact⟨by show V.next<=V.next+↑p.2;omega,by show V.next+↑p.2<=_;omega,by show(EG (Fo p.1)).length<=_;omega⟩
  have xb:((HZ V.next (F8 l)).map (·.1)).Nodup:=by
   rw[List.Nodup,Ce];intro i j hi hj hij Y;simp only [Ao]at hi hj;simp only [CC]at Y;unfold HZ at Y;simp only [CC,List.getElem_zipIdx]at Y;omega
  have hl:∀t∈ts,∀q∈HZ V.next (F8 l),FJ t.h.2≠FJ q.1:=λt r q Z Y=>by
   have h1:=hS.lev r;have h2:=hc q Z;have:=NF EB EB Y;omega
  have hh:∀t∈ts,(FJ t.h.2).getLast?≠some 126:=λt r=>R7 (by have:=hS.lev r;omega);rcases Wy (HZ V.next (F8 l)) D h.sf (λq Z=>⟨by have:=hc q Z;omega,(hc q Z).2.1⟩) xb with⟨s1,s2,s3⟩|⟨s0,s1,s3,s4⟩
  ·rcases hr with⟨h1,rfl,rfl,rfl,rfl,rfl,rfl⟩|⟨h0,_⟩
   ·exact .inl ⟨h1,rfl,rfl,.inr ⟨rfl,L',L'.base,V',ts',h.fx.same s2 (s3 _ (λq _=>⟨λY=>Ol _ Y.symm,Nf EN⟩)) (s3 _ (λq _=>⟨λY=>Mx _ Y.symm,Nf EN⟩)) (λt r=>s3 _ (λq Z=>⟨hl t r q Z,Nf (hh t r)⟩)),.inl ⟨rfl,rfl⟩,rfl,J,Ab _⟩⟩
   ·exact absurd h0 s1
  have ha:FA L (GQ (HZ V.next (F8 l)) D).2 V ts:=h.same s1 (s3 _ (λq _ Y=>Ol _ Y.symm)) (s3 _ (λq _ Y=>Mx _ Y.symm)) (λt r=>s3 _ (hl t r));rcases hr with⟨h1,_⟩|⟨h0,rfl,rfl,hr⟩
  ·exact absurd s0 h1
  -- the tables of the new version
  have key:∀(tbs:List Tb) (O:List Tb),tbs.map (λt=>(t.h,t.cs))=Kz lv V.next (F8 l)->O=Le (tbs.foldl G9 ts) gone->ChS V ts l lv gone ⟨Hp V.next (F7 lv V.next (F8 l)),fs'⟩ O/\
    (∀t∈O,lk (GQ (HZ V.next (F8 l)) D).2.fs (FJ t.h.2)=some ⟨EG (EG (Fo t.cs)),(EG (EG (Fo t.cs))).length⟩)/\(∀t∈O,Hx t.cs=0/\(EG (Fo t.cs)).length<=1048576)/\∃z:List Tb,O=ts.filter (kp gone)++z/\∀t∈z,V.next<=t.h.2:=by
   intro tbs O hz hy;have h6:ChS V ts l lv gone ⟨Hp V.next (F7 lv V.next (F8 l)),fs'⟩ O:=⟨hok0,⟨fs',hp,hv,rfl⟩,tbs,hz,hy⟩;obtain⟨z,k1,k2⟩:=h6.tabs hS hg;obtain⟨ktl,hx,kta⟩:=PK k1;have h8:∀t∈z,V.next<=t.h.2:=λt r=>by
    obtain⟨i,hi⟩:=AM r;rw[(hx i t hi).1];show V.next<=V.next+↑i;omega
   have hw:∀t∈z,∃q∈HZ V.next (F8 l),q.1=t.h.2/\q.2=EG (Fo t.cs):=λt r=>by
    obtain⟨i,hi⟩:=AM r;obtain⟨h1,h2⟩:=hx i t hi;refine⟨(V.next+↑i,EG (Fo t.cs)),?_,by rw[h1],rfl⟩;unfold HZ;refine Aq.2 ⟨(t.cs,i),Ak (i:=i) ?_,rfl⟩;rw[Ld,h2];rfl
   refine⟨h6,λt r=>?_,λt r=>?_,z,k2,h8⟩
   ·rw[k2]at r;rcases Aw.1 r with r|r
    ·exact ha.tab t (A3.1 r).1
    ·obtain⟨q,Z,q1,q2⟩:=hw t r;have hk:=s4 q Z;rw[q1,q2]at hk;exact hk
   ·rw[k2]at r;rcases Aw.1 r with r|r
    ·exact h.tok t (A3.1 r).1
    ·obtain⟨q,Z,q1,q2⟩:=hw t r;obtain⟨j,hj⟩:=AM r;exact⟨hbld t.cs (Ak (hx j t hj).2),by rw[<-q2];exact(hc q Z).2.2⟩
  have h7:0<=L.last:=by omega
  rcases X7p (L:=L) ha.sf L.last (FO ⟨Hp V.next (F7 lv V.next (F8 l)),fs'⟩)with⟨Y,d,D9,he,hW,hD⟩|⟨hi1,hi2,D9,hW,w1,w3⟩
  ·rw[hW]at hr ⊢;rcases hr with⟨_,rfl,hV9,hT9,rfl⟩|⟨h9,_⟩
   ·refine .inl ⟨he,hV9,hT9,.inr ⟨rfl,?_⟩⟩;rcases hD with rfl|⟨d1,d2⟩|⟨_,_,d1,d2⟩
    ·exact⟨L,L.base,_,_,ha.fx,.inl ⟨rfl,rfl⟩,rfl,J,Ab _⟩
    ·exact⟨L,L.base,_,_,ha.fx.same d1 (d2 _ (Nf EN)) (d2 _ (Nf EN)) (λt r=>d2 _ (Nf (hh t r))),.inl ⟨rfl,rfl⟩,rfl,J,Ab _⟩
    ·obtain⟨c1,c2,c3,_⟩:=key ((Kz lv V.next (F8 l)).map λp=>⟨p.1,0,I 0,I 0,p.2⟩) _ (by rw[List.map_map];exact List.map_id _) rfl;refine⟨⟨L.last,FO ⟨Hp V.next (F7 lv V.next (F8 l)),fs'⟩,L.ents,false⟩,L.base,_,_,⟨d1.nd,.inr ⟨?_,rfl,hv2⟩,h.bs,?_,.inr rfl,h.b0,λt r=>?_,c3⟩,.inr c1,rfl,BQ _,Ab _⟩
     ·rw[d2,if_pos rfl]
     ·show(lk D9.fs _=_/\L.ents=[])\/_;rw[d2,if_neg EN];rcases ha.fx.log with h1|⟨x,k,g1,g2,g3⟩
      ·exact .inl h1
      ·rcases ha.log with⟨f1,f2⟩|⟨_,f1⟩
       ·exact .inl ⟨f1,f2⟩
       ·exact .inr ⟨[],_,by rw[AO];exact f1,Ab _,.inl rfl⟩
     ·rw[d2,if_neg (Ol _)];exact c2 t r
   ·exact absurd h9 he
  ·rw[hW]at hr ⊢;rcases hr with⟨h9,_⟩|⟨_,rfl,rfl,rfl,tbs,hz,hy⟩
   ·exact absurd rfl h9
   ·obtain⟨_,c2,c3,c4⟩:=key tbs ts' hz hy;refine .inr ⟨rfl,⟨w1,.inr ⟨?_,rfl,hv2⟩,⟨[],rfl,λb hb=>(by cases hb)⟩,.inl ⟨?_,rfl⟩,λt r=>?_,h7,c3⟩,c4⟩
    ·rw[w3,if_neg EN,if_pos rfl]
    ·rw[w3,if_pos rfl]
    ·rw[w3,if_neg (Mx _),if_neg (Ol _)];exact c2 t r
end
def Stp : Nat->(Nat->Prop)->Nat->Nat->Led->Dsk->World->Prop
 | 0,H,bl,bd,_,D,w=>JF H bl bd D w
 | 1,H,bl,bd,_,D,w=>JF H bl bd D w
 | 2,H,bl,bd,L,D,w=>LD H bl bd ⟨L.base,L.data,[],false⟩ D w
 | _+3,H,bl,bd,L,D,w=>LD H bl bd L D w
structure LedF (L:Led)(D:Dsk):Prop where
 no:D.has (Led.img++[126])=false
 im:J0 D L.base L.data
 lo:(lk D.fs Led.logn=none/\L.ents=[])\/(L.ents≠[]/\∃k,lk D.fs Led.logn=some ⟨FZ L.base L.ents,k⟩)
 dd:L.dead=false
 b0:0<=L.base
 la:L.last<=1099511627776
 dl:L.data.length<=524288
 el:∀e∈L.ents,e.length<=65536
 ec:L.ents.length<=1000000
theorem LedE.fresh {bl bd:Nat}{w:World}(m:EK w bl [EE bd 0,S [115],I 0,.slice none 0 0,.slice none 0 0,B false] 147):LedE (λj=>j=bl) bl bd (.slice none 0 0) (.slice none 0 0) [] Hs w:=by
 have no:∀k,KH (.slice none 0 0) [] Hs.data k->False:=λk hk=>by
  rcases hk with⟨h,_⟩|⟨q,r,_⟩
  ·exact h rfl
  ·cases r
 refine⟨m,EQ.nil,Vc.Own.nil,rfl,λq r=>(by cases r),λk hk=>?_,λk hk=>(no k hk).elim,λk hk=>?_,by decide,by decide,by decide,λp z=>(by cases z),by decide⟩
 ·rcases hk with h|h|h
  ·exact h
  ·cases h
  ·exact(no k h).elim
 ·rw[show k=bl from hk];exact m.lt
theorem X7q (r:Rw)(x:EC):GD r++x=Fs r.key++(EV (Kl r.del)++((if r.del then[]else Fs r.val)++x)):=by
 unfold GD Kl
 cases r.del<;>simp [A7]
theorem Im {l:List Rw}{r:Rw}{k:Nat}(h:l[k]?=some r):((l.drop k).flatMap GD)=Fs r.key++(EV (Kl r.del)++((if r.del then[]else Fs r.val)++(l.drop (k+1)).flatMap GD)):=by
 rw[Jd h,AB,X7q]
theorem X1m (l:List Rw)(v:Value)(w:World)(hv:EQ EO 1 w v (F0 l))(hc:H8 l=0) :
  Calls Tryz.prog 128 [v].toArray w (ES w (λu w'=>∃vl,u=.tuple #[vl,I 0]/\Vc.Own Rw.cs 3 48 w.heap.size w' vl l)):=by
 refine cw Tryz.func128 ?_;have J:=ED.refl w;obtain⟨hl1,hl2,hz,xy⟩:=Mj hc;have hbl:=Nk l;have hnl:=Gj l.length;have hbb:(F0 l).length<=65536:=by unfold F0;rw[Aa];omega
 have hf:F0 l≠[]:=λe=>by
  have Z:=congrArg AC e;have h8:1<=(EV l.length).length:=NC 9 _;unfold F0 at Z;rw[Aa,List.length_nil]at Z;omega
 refine ws λ_ Z1=>wr (da (da (de Z1 (ws λ_ Z2=>wr (dm ?_)))));refine cG (M6 (F0 l) v _ (hv.ext J) EB) RX.all λu1 w1 x1 yd=>?_;have xf:=J.size;have J:=J.trans x1;obtain⟨br,bb,yg,rfl,xz,gbb,z⟩:=yd;have hbr:w.heap.size<=br:=Ai xf xz;have ha:=z.lt;have hbrw:br<w1.heap.size:=ha br (.inl rfl);have xh:=Ai xf x1.size;have O:Sz w1.heap.size w1:=⟨Ab _⟩;unfold F0 at z;refine da (de Z2 (ws λ_ Z3=>wr (da (de Z3 (ws λ_ Z4=>ws λ_ Z5=>wr (dm ?_))))));refine cD (KE br bb yg _ false _ z (by rw[Aa];omega)) (.inl rfl) λu2 w2 x2 ya=>?_;have hsz2:=J.size;have O:=O.mod x2 trivial;have J:=J.own x2 (λi hi=>(by have h2:i=br:=hi;omega));obtain⟨Y,yf,z⟩:=ya;rw[JG _ _ EB]at Y z;dsimp only at Y z;subst Y;refine da (de Z5 (EM ?_));refine Fq (G:=Nat×Value×Value) (λ(k,vc,vl)=>[(0,v),(2,.slice none 0 0),(3,I 0),(4,EE br 0),(5,vl),(6,I ↑l.length)]) (λ(k,vc,vl) w'=>ED w w'/\k<=l.length/\Rd br bb vc ((l.drop k).flatMap GD) false w'/\Vc.Own Rw.cs 3 48 w1.heap.size w' vl (l.take k)/\Sz w1.heap.size w') (λ(k,vc,vl)=>l.length-k) (0,yf,.slice none 0 0) ?_ ?_ ?_
 ·exact G2
 ·exact⟨J,Ae _,z,Vc.Own.nil,O⟩
 intro X3 g3 w3 yo;obtain⟨k,vc,vl⟩:=g3;clear J O z;obtain⟨J,hk1,z,ho,O⟩:=yo;refine ws λ_ Z6=>ws λ_ Z7=>wr (dm ?_);refine dv 48 3 (ho.arr EF).sl (dm ?_);refine dp (Fb rfl rfl) (dm ?_);refine F4 18 rfl (λc1=>?_) (λc1=>?_)
 ·have hkl:k<l.length:=by rw[A5]at c1;omega
  obtain⟨r,hk⟩:∃r,l[k]?=some r:=Fw;have yb:=Ng (xy r (Ak hk));have xi:=Im hk;have hll:=R4 GD l k;have yq:=congrArg AC xi;simp only [Aa]at yq;have hgn:=QD r.del;refine dm ?_;refine cP (Pd br bb vc _ false _ z) RX.all λw4 x4=>?_;have z:=z.ext x4;have ho:=ho.ext x4;have O:=O.ext x4;have J:=J.trans x4;refine EP (de Z7 ?_);refine wc (λc2=>?_) λc2=>?_
  ·refine EI (Z6 _ _ (EM ?_));refine Hz (G:=Nat×Value) (λ(bx,hb)=>[(0,v),(2,.slice none 0 0),(3,I 0),(4,EE br 0),(5,vl),(6,I ↑l.length),(7,EE bx 0)]) (λ(bx,hb) w'=>ED w w'/\w1.heap.size<=bx/\(∀k,vl.ownBlock=some k->k≠bx)/\Rd br bb hb ((if r.del then[]else Fs r.val)++(l.drop (k+1)).flatMap GD) false w'/\Vc.Own Rw.cs 3 48 w1.heap.size w' vl (l.take k)/\Sz w1.heap.size w'/\EK w' bx [S r.key,S [],B r.del] 48) ?_ ?_
   ·refine Lb (R:=Mod (ET br)) Jz JV EA [2] (.one 0 .p false (.one 3 .p false (.fork (.alt 1 true (.one 2 .l false (.fork (.alt 4 false (.one 5 .p false (.one 6 .p false (.one 7 .x false (.one 8 .x true .nil)))) (.alt 7 false (.one 4 .x false (.one 5 .p false (.one 6 .p false (.one 8 .x true .nil)))) .stop)))) (.alt 7 true (.one 1 .x true (.one 2 .l false (.one 4 .x false (.one 5 .p false (.one 6 .p false (.one 8 .x true .nil)))))) .stop))))) EA EA (λw5 xr=>?_);have x5:=EL xr;clear xr;have z:=z.ext x5;have ho:=ho.ext x5;have O:=O.ext x5;have J:=J.trans x5;refine EX (dm (EH ?_));refine EX (dm (EH ?_));refine Ju ?_;refine H6 ?_ ?_
    ·rw[xi]at z;refine cD (Kx br bb vc _ false _ z (by simp only [Aa];omega)) (.inl rfl) λu6 w6 x6 yc=>?_;have hsz6:=J.size;have ho:=ho.mod x6 (λk9 Z e=>ho.ne_blk z.m rfl (by rw[Z];exact congrArg some e));have O:=O.mod x6 trivial;have J:=J.own x6 (λi hi=>(by have h2:i=br:=hi;omega));obtain⟨hB,xc,z⟩:=yc;rw[Ks _ _ _ EB]at hB z;dsimp only at hB z;have hq:∀k,Value.ownBlock _=some k->¬ ET br k:=λk9 Z e=>hB.ne_blk z.m rfl (by rw[Z];exact congrArg some e);refine EH (EX (FW rfl (λw' z=>Kq EA EA ((hB.mod z hq).arr EF) rfl) (EH (Ju ?_))));refine H6 ?_ ?_
     ·refine JP rfl EA (KE br bb xc _ false _ z (by simp only [Aa];omega)) rfl (.inr λ_ h=>h) (λu7 w7 x7 x0=>?_);have hsz7:=J.size;have ho:=ho.mod x7 (λk9 Z e=>ho.ne_blk z.m rfl (by rw[Z];exact congrArg some e));have O:=O.mod x7 trivial;have J:=J.own x7 (λi hi=>(by have h2:i=br:=hi;omega));obtain⟨Y,hb,z⟩:=x0;rw[JG _ _ EB]at Y z;dsimp only at Y z;subst Y;refine EH (EX (EW (v:=B r.del) rfl (FH rfl rfl) (by show B _=B _;congr 1;exact OZ _) (EH (EX (db (zs:=[S [],S [],B false]) (pl:=[(0,1),(1,1),(2,1)]) (pv:=[(0,_),(2,_)]) (cs:=[_,S [],_]) (EH ?_))))));refine EX (FP (cs:=[S [],S [],B false]) rfl EA RX.mod (λb1 w8 e1 x8 m1=>?_));have g1:=J.ge e1;have hr:=ho.ltb e1;have a1_hS:=O.le;have a1_hR:=z.lt;have ho:=ho.ext x8;have O:=O.ext x8;have z:=z.ext x8;have J:=J.trans x8;refine EH (EX (FY m1 (λw9 x9 xs9 m1=>?_)));dsimp only [EY,Af,Ad,Ag]at m1;have ho:=ho.mod x9 (λk hk e=>by have h2:k=b1:=e;have h8:=hr k hk;omega);have O:=O.mod x9 trivial;have z:=z.mod x9 (λk hk e=>by have h2:k=b1:=e;have h8:=ha k (Ib (λ_=>hf) hk);omega);have J:=J.o1 x9;refine EH (Ii ?_);exact⟨(b1,hb),Gb,J,EB,(by intro k hk e;have h8:=hr k hk;omega),z,ho,O,m1⟩
     refine H6 ?_ ?_
     ·refine FP (cs:=[S [],S [],B false]) rfl EA RX.mod (λb2 w10 e2 hg m2=>?_);have g2:=J.ge e2;have hh:=ho.ltb e2;have a2_hS:=O.le;have a2_hR:=z.lt;have ho:=ho.ext hg;have O:=O.ext hg;have z:=z.ext hg;have hB:=hB.ext hg;have J:=J.trans hg;refine EH (EX (JP rfl EA (KE br bb xc _ false _ z (by simp only [Aa];omega)) rfl (.inr λ_ h=>h) (λu11 w11 xe xq=>?_)));have hsz11:=J.size;have ho:=ho.mod xe (λk9 Z e=>ho.ne_blk z.m rfl (by rw[Z];exact congrArg some e));have O:=O.mod xe trivial;have m2:=m2.mod xe (λZ=>by have h2:_=br:=Z;omega);have J:=J.own xe (λi hi=>(by have h2:i=br:=hi;omega));obtain⟨Y,hb,z⟩:=xq;rw[JG _ _ EB]at Y z;dsimp only at Y z;subst Y;refine EH (EX (EW (v:=B r.del) rfl (FH rfl rfl) (by show B _=B _;congr 1;exact OZ _) (EH (EX (db (zs:=[S [],S [],B false]) (pl:=[(0,1),(1,1),(2,1)]) (pv:=[(0,_),(2,_)]) (cs:=[_,S [],_]) (EH ?_))))));refine EX (FY m2 (λw12 h5 xs12 m2=>?_));dsimp only [EY,Af,Ad,Ag]at m2;have ho:=ho.mod h5 (λk hk e=>by have h2:k=b2:=e;have h8:=hh k hk;omega);have O:=O.mod h5 trivial;have z:=z.mod h5 (λk hk e=>by have h2:k=b2:=e;have h8:=ha k (Ib (λ_=>hf) hk);omega);have J:=J.o1 h5;refine EH (Ii ?_);exact⟨(b2,hb),Gb,J,EB,(by intro k hk e;have h8:=hh k hk;omega),z,ho,O,m2⟩
     exact Jv
    refine H6 ?_ ?_
    ·refine FP (cs:=[S [],S [],B false]) rfl EA RX.all (λb3 w13 e3 hy m3=>?_);have g3:=J.ge e3;have a3_hR:=z.lt;have hj:=ho.ltb e3;have a3_hS:=O.le;have z:=z.ext hy;have ho:=ho.ext hy;have O:=O.ext hy;have J:=J.trans hy;refine EH (EX ?_);rw[xi]at z;refine cD (Kx br bb vc _ false _ z (by simp only [Aa];omega)) (.inl rfl) λu14 w14 xa xo=>?_;have hsz14:=J.size;have ho:=ho.mod xa (λk9 Z e=>ho.ne_blk z.m rfl (by rw[Z];exact congrArg some e));have O:=O.mod xa trivial;have m3:=m3.mod xa (λZ=>by have h2:_=br:=Z;omega);have J:=J.own xa (λi hi=>(by have h2:i=br:=hi;omega));obtain⟨hB,xc,z⟩:=xo;rw[Ks _ _ _ EB]at hB z;dsimp only at hB z;have hq:∀k,Value.ownBlock _=some k->¬ ET br k:=λk9 Z e=>hB.ne_blk z.m rfl (by rw[Z];exact congrArg some e);refine EH (EX (FW rfl (λw' z=>Kq EA EA ((hB.mod z hq).arr EF) rfl) (EH (EX (JP rfl EA (KE br bb xc _ false _ z (by simp only [Aa];omega)) rfl (.inr λ_ h=>h) (λu15 w15 xd xn=>?_))))));have hsz15:=J.size;have ho:=ho.mod xd (λk9 Z e=>ho.ne_blk z.m rfl (by rw[Z];exact congrArg some e));have O:=O.mod xd trivial;have m3:=m3.mod xd (λZ=>by have h2:_=br:=Z;omega);have J:=J.own xd (λi hi=>(by have h2:i=br:=hi;omega));obtain⟨Y,hb,z⟩:=xn;rw[JG _ _ EB]at Y z;dsimp only at Y z;subst Y;refine EH (EX (EW (v:=B r.del) rfl (FH rfl rfl) (by show B _=B _;congr 1;exact OZ _) (EH (EX (db (zs:=[S [],S [],B false]) (pl:=[(0,1),(1,1),(2,1)]) (pv:=[(0,_),(2,_)]) (cs:=[_,S [],_]) (EH ?_))))));refine EX (FY m3 (λw16 xb xs16 m3=>?_));dsimp only [EY,Af,Ad,Ag]at m3;have ho:=ho.mod xb (λk hk e=>by have h2:k=b3:=e;have h8:=hj k hk;omega);have O:=O.mod xb trivial;have z:=z.mod xb (λk hk e=>by have h2:k=b3:=e;have h8:=ha k (Ib (λ_=>hf) hk);omega);have J:=J.o1 xb;refine EH (Ii ?_);exact⟨(b3,hb),Gb,J,EB,(by intro k hk e;have h8:=hj k hk;omega),z,ho,O,m3⟩
    exact Jv
   intro X17 ym w17 xu;obtain⟨bx,hb⟩:=ym;clear J z ho O;obtain⟨J,hbx,yj,z,ho,O,m7⟩:=xu;refine ws λ_ Z8=>ws λ_ Z9=>wr (df 2 rfl (dl rfl (m7.at rfl) (dn (de Z9 ?_))));refine wc (λc3=>?_) λc3=>?_
   ·refine KW [.p,.x,.l,.p,.x] rfl (dm ?_);have hbx9:=m7.lt;refine cD (Kx br bb hb _ false _ z (by simp only [Aa];omega)) (.inl rfl) λu18 w18 ht xv=>?_;have hsz18:=J.size;have ho:=ho.mod ht (λk9 Z e=>ho.ne_blk z.m rfl (by rw[Z];exact congrArg some e));have O:=O.mod ht trivial;have m7:=m7.mod ht (λZ=>by have h2:_=br:=Z;omega);have J:=J.own ht (λi hi=>(by have h2:i=br:=hi;omega));have hd:r.del=false:=by simpa using c3
    obtain⟨xk,x3,z⟩:=xv;rw[hd,if_neg EN,Ks _ _ _ EB]at xk z;dsimp only at xk z;refine dq (Kq EA EA (xk.arr EF) rfl) (df 1 rfl (G4 m7 (λw19 h6 xs19 m7=>?_) (hv:=by rfl)));dsimp only [EY,Af,Ad,Ag]at m7;have ho:=ho.mod h6 (λk hk e=>by have h2:k=bx:=e;exact absurd h2 (yj k hk));have O:=O.mod h6 trivial;have z:=z.mod h6 (λk hk e=>by have h2:k=bx:=e;have h8:=ha k (Ib (λ_=>hf) hk);omega);have J:=J.o1 h6;refine de Z8 (wr (dm ?_));refine dq (Fe (k:=3) EA rfl rfl m7.row) (li (e:=48) (sz:=3) (zs:=[S [],S [],B false]) (pv:=[(0,.agg ⟨[_,_,_]⟩)]) (cs:=[_,_,_]) RX.all (λb4 w20 e4 hl m4=>?_));have g4:=J.ge e4;have n4_7:=m7.ltb e4;have o4_ho:=ho.ltb e4;have a4_hS:=O.le;have a4_hR:=z.lt;have ho:=ho.ext hl;have O:=O.ext hl;have m7:=m7.ext hl;have z:=z.ext hl;have J:=J.trans hl;refine Hy (lx:=[r]) (e:=48) (sz:=3) (by':=40) rfl EA EA EF ho (m4.arr (enc:=Rw.cs) (sz:=3) (l:=[r]) rfl EF rfl (Av rfl)) rfl rfl (by intro x _ u hu;simp at hu;rcases hu with rfl|rfl|rfl<;>rfl) (by simp;omega) EN O.le (.inl rfl) (λxl w21 hp xj=>?_);have O:=O.mod xj (by trivial);have z:=z.mod xj (by intro k9 Z e9;have h8:=ha k9 (Ib (λ_=>hf) Z);have h7:=(ho.lt k9 e9).1;omega);have J:=J.own xj (λi hi=>(Ai xh (ho.lt i hi).1));have ho:=hp;clear m4;refine da (EH (?_));exact⟨(k+1,x3,xl),G2,⟨J,by omega,z,by rw[G1 hk];exact ho,O⟩,by simp only [];omega⟩
   have hd:r.del=true:=by simpa using c3
   have yp:r.val=[]:=yb.2.2.2 hd;rw[<-yp]at m7;rw[hd,if_pos rfl,AE]at z;refine EI (Z8 _ _ (wr (dm ?_)));refine dq (Fe (k:=3) EA rfl rfl m7.row) (li (e:=48) (sz:=3) (zs:=[S [],S [],B false]) (pv:=[(0,.agg ⟨[_,_,_]⟩)]) (cs:=[_,_,_]) RX.all (λb5 w22 e5 hw m5=>?_));have g5:=J.ge e5;have a5_hR:=z.lt;have o5_ho:=ho.ltb e5;have a5_hS:=O.le;have z:=z.ext hw;have ho:=ho.ext hw;have O:=O.ext hw;have J:=J.trans hw;refine Hy (lx:=[r]) (e:=48) (sz:=3) (by':=40) rfl EA EA EF ho (m5.arr (enc:=Rw.cs) (sz:=3) (l:=[r]) rfl EF rfl (Av rfl)) rfl rfl (by intro x _ u hu;simp at hu;rcases hu with rfl|rfl|rfl<;>rfl) (by simp;omega) EN O.le (.inl rfl) (λxl w23 hp xg=>?_);have z:=z.mod xg (by intro k9 Z e9;have h8:=ha k9 (Ib (λ_=>hf) Z);have h7:=(ho.lt k9 e9).1;omega);have O:=O.mod xg (by trivial);have J:=J.own xg (λi hi=>(Ai xh (ho.lt i hi).1));have ho:=hp;clear m5;refine da (EH (?_));exact⟨(k+1,hb,xl),G2,⟨J,by omega,z,by rw[G1 hk];exact ho,O⟩,by simp only [];omega⟩
  cases c2
 have yh:k=l.length:=by rw[A5]at c1;omega
 subst yh;rw[AI]at ho;refine dk (dk (EP (de Z7 ?_)));refine Hf rfl (Fk (Z4 _ _ (ws λ_ yn=>ws λ_ yi=>wr (dm ?_))));refine cG (Tn l vl _ (ho.arr EF) EB) RX.all λu24 w24 xm xp=>?_;have hsz24:=J.size;have ho:=ho.ext xm;have J:=J.trans xm;obtain⟨ye,rfl,xw⟩:=xp;rw[if_pos hc]at xw;refine dm ?_;refine dx rfl rfl (dx rfl rfl (da (da (de yi (ws λ_ yl=>wr (dm ?_))))));refine dp (FH rfl rfl) (dm ?_);refine F4 47 rfl (λc4=>?_) (λc4=>?_)
 ·exact absurd hc c4
 iterate 2 refine dm ?_
 refine cP (Ow (F0 l) (F0 l) ye v _ (xw.arr EF) (hv.ext J)) RX.all λw25 xx=>?_;have ho:=ho.ext xx;have J:=J.trans xx;refine dn ?_;refine EP (de yl ?_);refine wc (λc5=>?_) λc5=>?_
 ·simp at c5
 refine EI (yn _ _ (ws λ_ yk=>wr (dm (da (da (de yk (EJ ?_)))))));refine rt ?_;exact⟨_,rfl,J,_,rfl,ho.mono xh⟩
end Go.Proofs.YtiooodckiddpmaaGreatDoor
