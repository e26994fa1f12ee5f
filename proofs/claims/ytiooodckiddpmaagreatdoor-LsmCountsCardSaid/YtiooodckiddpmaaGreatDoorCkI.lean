/-
 A part of the proof: VcY VcX EntA LyA LyB EmA EmB NiA TrR OkA CoP CoQ CmA.
-/
import Derived.Test.YtiooodckiddpmaaGreatDoorCkH
import Derived.HandedShaped
import Derived.SizedLaws
import Derived.Shelf.Vars
import Derived.Test.YtiooodckiddpmaaGreatDoorCkD
import Derived.Lib.SmallJoins
import Derived.Test.YtiooodckiddpmaaGreatDoorCkA
import Derived.Test.YtiooodckiddpmaaGreatDoorChecked
import Derived.KernelRfl
import Derived.Test.YtiooodckiddpmaaGreatDoorCkB
import Derived.Test.YtiooodckiddpmaaGreatDoorCkF
set_option maxRecDepth 100000
set_option maxHeartbeats 4000000
set_option linter.unusedVariables false
set_option linter.unusedSimpArgs false
namespace Go.Vc
open Go.ChangeShapes Go.WideShapes Go.ChangeAt Go.RowKit
variable {H:Type}{enc:TypeId×Value->H}
theorem Xhs {a:Assume}{C:Checked}{os:Os}{f:FuncId}{fn:Func}{s:ChangeSpec}{conds:List PathCond}{apart fresh handsOn again:Bool}{X:World->Array Value->Prop}
  (hX:∀(w w':World) (args:Array Value),w.heap=w'.heap->X w args->X w' args)
  (own:ownKnob C.prog.godebug=none) (started:os.Started) (noInit:C.prog.inits.idxOf? f=none) (hfn:C.prog.funcs[f]?=some fn)
  (witness:∃(w:World) (tape:Tape) (i:Input),w.os=os∧(w.forCall tape i).Shaped C.prog∧i.vars=[]∧Input.okWide C.prog (w.forCall tape i) .any w.heap.size f i∧
   ((s.pre enc C.prog fn conds apart (w.forCall tape i).memory i.args∧X (w.forCall tape i).memory i.args)∧sizedMet enc C.prog fn (OpenSpec.ofChange s) apart (w.forCall tape i).memory i.args)∧a.holds C.prog (lone (Frame.enter C.prog f i.args .normal) [] (w.forCall tape i)))
  (contract:∀(W:World) (base:Nat) (args:Array Value) (ds gs:List (DataW H)) (before:List MemPlace),
   (∀(j:Nat) t v,fn.params[j]?=some t->args[j]?=some v->Value.okWide C.prog W .any base t v)->
   DataW.Whole enc C.prog fn.params.toList s.vars apart W args.toList ds gs before->
   (DataW.weightsEach C.prog (fn.params.toList++s.plain.varTypes C.prog) (ds++gs)).all (·≤reachBytes)=true->X W args->W.ShapedOpen C.prog->
   Calls C.prog f args W λe W'=>∃v,e=.returned v∧s.post enc C.prog fn apart fresh handsOn again W args v W') :
  ReturnsInHanded a C os f .any (λw args=>(s.pre enc C.prog fn conds apart w args∧X w args)∧sizedMet enc C.prog fn (OpenSpec.ofChange s) apart w args) (s.post enc C.prog fn apart fresh handsOn again):=by
 refine returnsInHanded_of_calls own started noInit witness ?_
 intro w tape i _ hsh _ hok hpre _
 obtain⟨_,_,_,fn',hfn',_,_,_,_,hval⟩:=hok
 have e:fn'=fn:=Option.some.inj (hfn'.symm.trans hfn)
 subst e
 obtain⟨⟨⟨ds,gs,before,hw,_⟩,hx⟩,hz⟩:=hpre
 have hw':=DataW.Whole.of_heap (w':=w.forCall tape i) (by rfl) hw
 refine(contract (w.forCall tape i) w.heap.size i.args ds gs before hval hw' (hz.weights hw) (hX _ _ _ (by rfl) hx) hsh).mono λe W' ⟨v,he,hp⟩=>?_
 subst he
 exact ChangeSpec.post_blind hp
section
variable {H:Type}{enc:TypeId×Value->H}{P:Program}{W W':World}{base:Nat}
theorem Xn0 {α:Type}{Q:DataW H->α->Prop}{cenc:α->List Value}{good:α->Prop}{r:Reach}{b0:Nat}{t e sz:Nat}{v:Value}{d:DataW H}{ps:List MemPlace}{sp:Nat->Bool}{hd:Bool}(ht:P.underlying t=some (.slice e))(hc:P.cellsOf e=sz)
  (hdec:∀(n:Nat) (cs:List Value) (y:DataW H×List MemPlace),DataW.trod enc P W base sp hd n e cs=some y->cs.length=sz->∃x,cs=cenc x∧good x∧Q y.1 x)
  (hval:Value.okWide P W r b0 t v) (h:DataW.Trod enc P W base sp hd t v d ps):∃l:List α,Arr cenc sz W v l∧(∀x∈l,good x)∧l.length≤maxLen∧(l.length=0∨∃el sp',d=.slice el sp'∧el.length=l.length∧∀(i:Nat) (x:α),l[i]?=some x->∃y,el[i]?=some y∧Q y x):=by
 obtain⟨oa,len,cap,rfl⟩:=okWide_slice ht hval
 obtain⟨fuel,h⟩:=h
 rcases Deep.open_slice ht h with⟨h1,_⟩|⟨a,len',cap',m,n,D,Pl,h1,_,hlc,hcm,hm,hdx,hel⟩
 ·have h1':[Value.slice oa len cap]=[.slice none 0 0]:=by simpa [Value.cells]using h1
  simp only [List.cons.injEq,and_true]at h1'
  rw[h1']
  exact⟨[],Arr.nil,λx hx=>(by cases hx),Nat.zero_le _,.inl rfl⟩
 ·have h1':[Value.slice oa len cap]=[.slice (some a) len' cap']:=by simpa [Value.cells]using h1
  simp only [List.cons.injEq,Value.slice.injEq,and_true]at h1'
  obtain⟨rfl,rfl,rfl⟩:=h1'
  have hspot:a.spot=none:=by
   simp only [Value.okWide,ht,Cell.okWide,Cell.ok]at hval
   exact hval.2.2.2.1
  obtain⟨b,o,spot⟩:=a
  simp only at hspot
  subst hspot
  have hlm:len≤m:=by rw[hm];split<;>omega
  obtain⟨X,hX⟩:=Deep.choose_lt (α:=Option α) (n:=len) (p:=λi ox=>∃x,ox=some x∧W.cells? base ((⟨b,o,none⟩:Addr).add (i*P.cellsOf e)) (P.cellsOf e)=some (cenc x)∧good x∧Q (D i) x) (λi hi=>by
   obtain⟨cs',h2,h3⟩:=hel i om9
   obtain⟨_,hlen,_⟩:=World.cells?_some h2
   obtain⟨x,rfl,hg⟩:=hdec n cs' _ h3 (by rw[hlen,hc])
   exact⟨some x,x,rfl,h2,hg⟩)
  have hx:∀i,i<len->∃x,X i=some x∧W.cells? base ((⟨b,o,none⟩:Addr).add (i*P.cellsOf e)) (P.cellsOf e)=some (cenc x)∧good x∧Q (D i) x:=hX
  have hlist:∀k,k≤len->∃l:List α,l.length=k∧∀i,i<k->∃x,l[i]?=some x∧X i=some x:=by
   intro k
   induction k with
   | zero=>intro _;exact⟨[],rfl,λi hi=>absurd hi (Nat.not_lt_zero _)⟩
   | succ k ih=>
    intro hk
    obtain⟨l,hl,hl2⟩:=ih om9
    obtain⟨x,hx1,_⟩:=hx k om9
    refine⟨l++[x],by simp [hl],λi hi=>?_⟩
    by_cases hik:i<k
    ·obtain⟨y,h2,h3⟩:=hl2 i hik
     exact⟨y,by rw[List.getElem?_append_left om9];exact h2,h3⟩
    ·have:i=k:=by omega
     subst this
     exact⟨x,by rw[←hl];simp,hx1⟩
  obtain⟨l,hl,hl2⟩:=hlist len (Nat.le_refl _)
  refine⟨l,⟨.inr (.inl ⟨b,o,cap,by rw[List.length_map,hl],by rw[List.length_map,hl];exact hlc⟩),λi cs hi=>?_⟩,λx hx'=>?_,by omega,.inr ⟨_,_,(Prod.mk.inj hdx).1,by simp [hl],λi x hi=>?_⟩⟩
  ·rw[List.getElem?_map]at hi
   obtain⟨x,hx1,rfl⟩:=Option.map_eq_some_iff.1 hi
   have hlt:=(List.getElem?_eq_some_iff.1 hx1).1
   obtain⟨y,h2,h3⟩:=hl2 i om9
   obtain⟨z,h4,h5,_⟩:=hx i om9
   rw[h2]at hx1
   rw[h3]at h4
   cases hx1;cases h4
   obtain⟨_,hlen,hat⟩:=World.cells?_some h5
   refine⟨by rw[hlen,hc],λj u hj=>?_⟩
   have hjl:=(List.getElem?_eq_some_iff.1 hj).1
   have:=hat j om9
   rw[hj,Deep.add_add]at this
   have ha:(⟨b,o,none⟩:Addr).add (i*P.cellsOf e+j)=⟨b,o+i*sz+j,none⟩:=by
    unfold Addr.add
    split
    ·rename_i e0
     have h0:i*sz=0∧j=0:=by rw[hc]at e0;omega
     rw[h0.1,h0.2];rfl
    ·rw[hc];simp [Nat.add_assoc]
   rw[ha]at this
   exact this
  ·obtain⟨i,hi⟩:=List.mem_iff_getElem?.1 hx'
   have hlt:=(List.getElem?_eq_some_iff.1 hi).1
   obtain⟨y,h2,h3⟩:=hl2 i om9
   obtain⟨z,h4,_,h5⟩:=hx i om9
   rw[h2]at hi
   rw[h3]at h4
   cases hi;cases h4
   exact h5.1
  ·have hlt:=(List.getElem?_eq_some_iff.1 hi).1
   obtain⟨y,h2,h3⟩:=hl2 i om9
   obtain⟨z,h4,_,_,h5⟩:=hx i om9
   rw[h2]at hi
   rw[h3]at h4
   cases hi;cases h4
   exact⟨D i,by rw[List.getElem?_map,List.getElem?_range om9];rfl,h5⟩
theorem Xfx {e:TypeId} : ∀ {l:List (DataW H)} {d:DataW H},d∈l->∀n∈d.weights P e,n∈DataW.weightsAll P e l
 | [],_,h,_,_=>by cases h
 | a :: l,d,h,n,hn=>by
  rw[DataW.weightsAll,List.mem_append]
  rcases List.mem_cons.1 h with rfl|h
  ·exact .inl hn
  ·exact .inr (Xfx h n hn)
end
end Go.Vc
namespace Go.Proofs.YtiooodckiddpmaaGreatDoor
open Go.Vc Go.Sp Go.ChangeShapes Go.WideShapes Go.ChangeAt Go.RowKit
open Go.Deep (oneCellFields hone_of)
structure Ac where
 k:Int
 n:Int
 key:Str
 to:Str
 l:List Rw
 v:Value
@[reducible] def Ac.cs (a:Ac):List Value:=[I a.k,I a.n,S a.key,S a.to,a.v]
structure AcOk (W:World)(a:Ac):Prop where
 v:Arr Rw.cs 3 W a.v a.l
 hk:Xai a.k
 hn:Xai a.n
 key:a.key.length≤140737488355328
 to:a.to.length≤140737488355328
 len:a.l.length≤140737488355328
 row:∀r∈a.l,r.key.length≤140737488355328∧r.val.length≤140737488355328
theorem AcOk.ext {W W':World}{a:Ac}(h:AcOk W a)(x:Ext W W'):AcOk W' a:=⟨h.v.ext x,h.hk,h.hn,h.key,h.to,h.len,h.row⟩
section
variable {H:Type}{enc:TypeId×Value->H}{P:Program}{W:World}{base:Nat}
theorem Xxg {a:Addr}{v:Value}(h:W.cell? a=some v):a.spot=none:=by
 unfold World.cell? at h
 split at h
 ·split at h
  ·cases h
  ·rename_i hs;simpa using hs
 ·cases h
theorem Xn1 {α:Type}{Q:DataW H->α->Prop}{cenc:α->List Value}{t e sz:Nat}{v:Value}{y:DataW H×List MemPlace}{sp:Nat->Bool}{hd:Bool}{n0:Nat}(ht:P.underlying t=some (.slice e))(hc:P.cellsOf e=sz)(hsz:0<sz)
  (hdec:∀(n:Nat) (cs:List Value) (y:DataW H×List MemPlace),DataW.trod enc P W base sp hd n e cs=some y->cs.length=sz->∃x,cs=cenc x∧Q y.1 x)
  (h:DataW.trod enc P W base sp hd n0 t [v]=some y):∃l:List α,Arr cenc sz W v l∧(l=[]∨∃el sp',y.1=.slice el sp'∧el.length=l.length∧∀(i:Nat) (x:α),l[i]?=some x->∃d,el[i]?=some d∧Q d x):=by
 rcases Deep.open_slice ht h with⟨h1,_⟩|⟨a,len,cap,m,n,D,Pl,h1,_,hlc,hcm,hm,hdx,hel⟩
 ·simp only [List.cons.injEq,and_true]at h1
  rw[h1]
  exact⟨[],Arr.nil,.inl rfl⟩
 ·simp only [List.cons.injEq,and_true]at h1
  subst h1
  have hlm:len≤m:=by rw[hm];split<;>omega
  by_cases hl0:len=0
  ·subst hl0
   exact⟨[],⟨.inr (.inr ⟨rfl,_,_,rfl⟩),λi cs hi=>by simp at hi⟩,.inl rfl⟩
  have hspot:a.spot=none:=by
   obtain⟨cs',h2,h3⟩:=hel 0 om9
   obtain⟨_,hlen,hat⟩:=World.cells?_some h2
   have h4:=hat 0 om9
   have h5:cs'[0]?=some cs'[0]:=List.getElem?_eq_getElem om9
   rw[h5]at h4
   have h6:(a.add (0*P.cellsOf e)).add 0=a:=by simp [Addr.add]
   rw[h6]at h4
   exact Xxg h4
  obtain⟨b,o,spot⟩:=a
  simp only at hspot
  subst hspot
  obtain⟨X,hX⟩:=Deep.choose_lt (α:=Option α) (n:=len) (p:=λi ox=>∃x,ox=some x∧W.cells? base ((⟨b,o,none⟩:Addr).add (i*P.cellsOf e)) (P.cellsOf e)=some (cenc x)∧Q (D i) x) (λi hi=>by
   obtain⟨cs',h2,h3⟩:=hel i om9
   obtain⟨_,hlen,_⟩:=World.cells?_some h2
   obtain⟨x,rfl,hg⟩:=hdec n cs' _ h3 (by rw[hlen,hc])
   exact⟨some x,x,rfl,h2,hg⟩)
  have hx:∀i,i<len->∃x,X i=some x∧W.cells? base ((⟨b,o,none⟩:Addr).add (i*P.cellsOf e)) (P.cellsOf e)=some (cenc x)∧Q (D i) x:=hX
  have hlist:∀k,k≤len->∃l:List α,l.length=k∧∀i,i<k->∃x,l[i]?=some x∧X i=some x:=by
   intro k
   induction k with
   | zero=>intro _;exact⟨[],rfl,λi hi=>absurd hi (Nat.not_lt_zero _)⟩
   | succ k ih=>
    intro hk
    obtain⟨l,hl,hl2⟩:=ih om9
    obtain⟨x,hx1,_⟩:=hx k om9
    refine⟨l++[x],by simp [hl],λi hi=>?_⟩
    by_cases hik:i<k
    ·obtain⟨y,h2,h3⟩:=hl2 i hik
     exact⟨y,by rw[List.getElem?_append_left om9];exact h2,h3⟩
    ·have:i=k:=by omega
     subst this
     exact⟨x,by rw[←hl];simp,hx1⟩
  obtain⟨l,hl,hl2⟩:=hlist len (Nat.le_refl _)
  refine⟨l,⟨.inr (.inl ⟨b,o,cap,by rw[List.length_map,hl],by rw[List.length_map,hl];exact hlc⟩),λi cs hi=>?_⟩,.inr ⟨_,_,congrArg Prod.fst hdx,by simp [hl],λi x hi=>?_⟩⟩
  ·rw[List.getElem?_map]at hi
   obtain⟨x,hx1,rfl⟩:=Option.map_eq_some_iff.1 hi
   have hlt:=(List.getElem?_eq_some_iff.1 hx1).1
   obtain⟨y,h2,h3⟩:=hl2 i om9
   obtain⟨z,h4,h5,_⟩:=hx i om9
   rw[h2]at hx1
   rw[h3]at h4
   cases hx1;cases h4
   obtain⟨_,hlen,hat⟩:=World.cells?_some h5
   refine⟨by rw[hlen,hc],λj u hj=>?_⟩
   have hjl:=(List.getElem?_eq_some_iff.1 hj).1
   have:=hat j om9
   rw[hj,Deep.add_add]at this
   have ha:(⟨b,o,none⟩:Addr).add (i*P.cellsOf e+j)=⟨b,o+i*sz+j,none⟩:=by
    unfold Addr.add
    split
    ·rename_i e0
     have h0:i*sz=0∧j=0:=by rw[hc]at e0;omega
     rw[h0.1,h0.2];rfl
    ·rw[hc];simp [Nat.add_assoc]
   rw[ha]at this
   exact this
  ·have hlt:=(List.getElem?_eq_some_iff.1 hi).1
   obtain⟨y,h2,h3⟩:=hl2 i om9
   obtain⟨z,h4,_,h5⟩:=hx i om9
   rw[h2]at hi
   rw[h3]at h4
   cases hi;cases h4
   exact⟨D i,by rw[List.getElem?_map,List.getElem?_range om9];rfl,h5⟩
theorem Xn2 {t:TypeId}{f0 f1 f2 f3 f4:Field}{fuel:Nat}{sp:Nat->Bool}{hd:Bool}{cs:List Value}{x:DataW H×List MemPlace}(ht:P.underlying t=some (.struct #[f0,f1,f2,f3,f4]))(h:DataW.trod enc P W base sp hd fuel t cs=some x) :
  ∃y0 y1 y2 y3 y4 n,x.1=.agg [y0.1,y1.1,y2.1,y3.1,y4.1]∧cs.length=P.cellsOf t∧DataW.trod enc P W base sp hd n f0.type ((cs.drop f0.offset).take (P.cellsOf f0.type))=some y0∧
   DataW.trod enc P W base sp hd n f1.type ((cs.drop f1.offset).take (P.cellsOf f1.type))=some y1∧DataW.trod enc P W base sp hd n f2.type ((cs.drop f2.offset).take (P.cellsOf f2.type))=some y2∧
   DataW.trod enc P W base sp hd n f3.type ((cs.drop f3.offset).take (P.cellsOf f3.type))=some y3∧DataW.trod enc P W base sp hd n f4.type ((cs.drop f4.offset).take (P.cellsOf f4.type))=some y4:=by
 obtain⟨xs,n,_,rfl,hl,hlen,hf⟩:=DataW.trod_struct ht h
 match xs,hlen with
 | [y0,y1,y2,y3,y4],_=>exact⟨y0,y1,y2,y3,y4,n,by simp,hl,by simpa using hf 0 f0 rfl,by simpa using hf 1 f1 rfl,by simpa using hf 2 f2 rfl,by simpa using hf 3 f3 rfl,by simpa using hf 4 f4 rfl⟩
theorem Xn3 {t:TypeId}{f0 f1 f2:Field}{fuel:Nat}{sp:Nat->Bool}{hd:Bool}{cs:List Value}{x:DataW H×List MemPlace}(ht:P.underlying t=some (.struct #[f0,f1,f2]))(h:DataW.trod enc P W base sp hd fuel t cs=some x) :
  ∃y0 y1 y2 n,x.1=.agg [y0.1,y1.1,y2.1]∧cs.length=P.cellsOf t∧DataW.trod enc P W base sp hd n f0.type ((cs.drop f0.offset).take (P.cellsOf f0.type))=some y0∧
   DataW.trod enc P W base sp hd n f1.type ((cs.drop f1.offset).take (P.cellsOf f1.type))=some y1∧DataW.trod enc P W base sp hd n f2.type ((cs.drop f2.offset).take (P.cellsOf f2.type))=some y2:=by
 obtain⟨xs,n,_,rfl,hl,hlen,hf⟩:=DataW.trod_struct ht h
 match xs,hlen with
 | [y0,y1,y2],_=>exact⟨y0,y1,y2,n,by simp,hl,by simpa using hf 0 f0 rfl,by simpa using hf 1 f1 rfl,by simpa using hf 2 f2 rfl⟩
theorem Xhy {t e:TypeId}{el sp':List (DataW H)}(ht:P.underlying t=some (.slice e))(hb:1≤P.bytesOf e)(h:∀x∈DataW.weights P t (.slice el sp'),x≤reachBytes):el.length≤reachBytes∧∀d∈el,∀x∈DataW.weights P e d,x≤reachBytes:=by
 rw[DataW.weights,ht]at h
 simp only [List.mem_cons,List.mem_append]at h
 have h1:=h _ (.inl rfl)
 have h2:el.length*1≤(el.length+sp'.length)*P.bytesOf e:=Nat.mul_le_mul om9 hb
 exact⟨by omega,λd hd x hx=>h x (.inr (.inl (Xfx hd x hx)))⟩
theorem Yaa {e:TypeId}{f0 f1 f2:Field}{sp:Nat->Bool}{hd:Bool}(he:P.underlying e=some (.struct #[f0,f1,f2]))(hone:oneCellFields P #[f0,f1,f2]=true)(h0:P.underlying f0.type=some .string)(h1:P.underlying f1.type=some .string)(h2:P.underlying f2.type=some .bool) :
  ∀(n:Nat) (cs:List Value) (y:DataW H×List MemPlace),DataW.trod enc P W base sp hd n e cs=some y->cs.length=3->∃x:Rw,cs=x.cs∧((∀z∈y.1.weights P e,z≤reachBytes)->x.key.length≤140737488355328∧x.val.length≤140737488355328):=λn cs y h hl=>by
 obtain⟨y0,y1,y2,m,hy,_,t0,t1,t2⟩:=Xn3 he h
 obtain⟨o0,k0⟩:=hone_of hone 0 f0 rfl
 obtain⟨o1,k1⟩:=hone_of hone 1 f1 rfl
 obtain⟨o2,k2⟩:=hone_of hone 2 f2 rfl
 match cs,hl with
 | [c0,c1,c2],_=>
  rw[o0,k0]at t0
  rw[o1,k1]at t1
  rw[o2,k2]at t2
  simp only [List.drop,List.take]at t0 t1 t2
  obtain⟨s0,e0,hy0,_⟩:=DataW.trod_string h0 t0
  obtain⟨s1,e1,hy1,_⟩:=DataW.trod_string h1 t1
  obtain⟨b,e2,_⟩:=DataW.trod_bool h2 t2
  simp only [List.cons.injEq,and_true]at e0 e1 e2
  subst e0;subst e1;subst e2
  have hrb:reachBytes=140737488351232:=rfl
  refine⟨⟨s0.data.toList,s1.data.toList,b⟩,rfl,λhw=>?_⟩
  have hwE:∀(j:Nat) (u:TypeId) (d:DataW H),[f0.type,f1.type,f2.type][j]?=some u->[y0.1,y1.1,y2.1][j]?=some d->∀x∈d.weights P u,x≤reachBytes:=λj u d hj hdj x hx=>by
   refine hw x ?_
   rw[hy,DataW.weights,he]
   exact DataW.weights_mem_each hj hdj x hx
  have b0:=hwE 0 _ _ rfl rfl s0.data.toList.length (by rw[hy0,DataW.weights];simp)
  have b1:=hwE 1 _ _ rfl rfl s1.data.toList.length (by rw[hy1,DataW.weights];simp)
  exact⟨by show s0.data.toList.length≤_;omega,by show s1.data.toList.length≤_;omega⟩
section
variable {e u:TypeId}{f0 f1 f2 f3 f4 g0 g1 g2:Field}{sp:Nat->Bool}{hd:Bool}(he:P.underlying e=some (.struct #[f0,f1,f2,f3,f4]))(hone:oneCellFields P #[f0,f1,f2,f3,f4]=true)(h0:P.underlying f0.type=some (.int .i64))(h1:P.underlying f1.type=some (.int .i64))(h2:P.underlying f2.type=some .string)(h3:P.underlying f3.type=some .string)
 (h4:P.underlying f4.type=some (.slice u)) (hu:P.underlying u=some (.struct #[g0,g1,g2])) (hone2:oneCellFields P #[g0,g1,g2]=true) (hcu:P.cellsOf u=3) (hbu:1≤P.bytesOf u) (k0:P.underlying g0.type=some .string) (k1:P.underlying g1.type=some .string) (k2:P.underlying g2.type=some .bool)
include he hone h0 h1 h2 h3 h4 hu hone2 hcu hbu k0 k1 k2
theorem Yab : ∀(n:Nat) (cs:List Value) (y:DataW H×List MemPlace),DataW.trod enc P W base sp hd n e cs=some y->cs.length=5->∃x:Ac,cs=x.cs∧((∀z∈y.1.weights P e,z≤reachBytes)->AcOk W x):=λn cs y h hl=>by
 obtain⟨y0,y1,y2,y3,y4,m,hy,_,t0,t1,t2,t3,t4⟩:=Xn2 he h
 obtain⟨o0,q0⟩:=hone_of hone 0 f0 rfl
 obtain⟨o1,q1⟩:=hone_of hone 1 f1 rfl
 obtain⟨o2,q2⟩:=hone_of hone 2 f2 rfl
 obtain⟨o3,q3⟩:=hone_of hone 3 f3 rfl
 obtain⟨o4,q4⟩:=hone_of hone 4 f4 rfl
 match cs,hl with
 | [c0,c1,c2,c3,c4],_=>
  rw[o0,q0]at t0
  rw[o1,q1]at t1
  rw[o2,q2]at t2
  rw[o3,q3]at t3
  rw[o4,q4]at t4
  simp only [List.drop,List.take]at t0 t1 t2 t3 t4
  obtain⟨a,e0,_,w0⟩:=DataW.trod_int h0 t0
  obtain⟨b,e1,_,w1⟩:=DataW.trod_int h1 t1
  obtain⟨s2,e2,hy2,_⟩:=DataW.trod_string h2 t2
  obtain⟨s3,e3,hy3,_⟩:=DataW.trod_string h3 t3
  simp only [List.cons.injEq,and_true]at e0 e1 e2 e3
  subst e0;subst e1;subst e2;subst e3
  have hrb:reachBytes=140737488351232:=rfl
  obtain⟨l,hl,hb⟩:=Xn1 (Q:=λd (x:Rw)=>(∀z∈d.weights P u,z≤reachBytes)->x.key.length≤140737488355328∧x.val.length≤140737488355328) (cenc:=Rw.cs) h4 hcu dc9 (Yaa hu hone2 k0 k1 k2) t4
  refine⟨⟨a,b,s2.data.toList,s3.data.toList,l,c4⟩,rfl,λhw=>?_⟩
  have hwE:∀(j:Nat) (u:TypeId) (d:DataW H),[f0.type,f1.type,f2.type,f3.type,f4.type][j]?=some u->[y0.1,y1.1,y2.1,y3.1,y4.1][j]?=some d->∀x∈d.weights P u,x≤reachBytes:=λj u d hj hdj x hx=>by
   refine hw x ?_
   rw[hy,DataW.weights,he]
   exact DataW.weights_mem_each hj hdj x hx
  have b2:=hwE 2 _ _ rfl rfl s2.data.toList.length (by rw[hy2,DataW.weights];simp)
  have b3:=hwE 3 _ _ rfl rfl s3.data.toList.length (by rw[hy3,DataW.weights];simp)
  have b4:l.length≤140737488355328∧∀r∈l,r.key.length≤140737488355328∧r.val.length≤140737488355328:=by
   rcases hb with rfl|⟨el,sp',e4,hel,hq⟩
   ·exact⟨by simp,λp hp=>by cases hp⟩
   ·obtain⟨z1,z2⟩:=Xhy h4 hbu (λx hx=>hwE 4 _ _ rfl rfl x (by rw[e4];exact hx))
    refine⟨by omega,λr hr=>?_⟩
    obtain⟨i,hi⟩:=List.mem_iff_getElem?.1 hr
    obtain⟨d,hd1,hd2⟩:=hq i r hi
    exact hd2 (z2 d (List.mem_of_getElem? hd1))
  exact⟨hl,X2v w0,X2v w1,by show s2.data.toList.length≤_;omega,by show s3.data.toList.length≤_;omega,b4.1,b4.2⟩
theorem Xsu {r:Reach}{b0:Nat}{t:TypeId}{v:Value}{d:DataW H}{ps:List MemPlace}{ts:List TypeId}{ds:List (DataW H)}{j:Nat}(ht:P.underlying t=some (.slice e))(hce:P.cellsOf e=5)(hbe:1≤P.bytesOf e)
  (hval:Value.okWide P W r b0 t v) (h:DataW.Trod enc P W base sp hd t v d ps) (hz:(DataW.weightsEach P ts ds).all (·≤reachBytes)=true) (hj:ts[j]?=some t) (hdj:ds[j]?=some d) :
  ∃l:List Ac,Arr Ac.cs 5 W v l∧l.length≤140737488355328∧∀a∈l,AcOk W a:=by
 obtain⟨l,hl,_,_,hb⟩:=Xn0 (Q:=λ(d:DataW H) (x:Ac)=>(∀z∈d.weights P e,z≤reachBytes)->AcOk W x) (good:=λ_=>True) (cenc:=Ac.cs) ht hce (λn cs y h9 hl9=>by
  obtain⟨x,q1,q2⟩:=Yab he hone h0 h1 h2 h3 h4 hu hone2 hcu hbu k0 k1 k2 n cs y h9 hl9
  exact⟨x,q1,trivial,q2⟩) hval h
 have hw:∀x∈d.weights P t,x≤reachBytes:=λx hx=>by have:=List.all_eq_true.1 hz _ (DataW.weights_mem_each hj hdj x hx);simpa using this
 have hrb:reachBytes=140737488351232:=rfl
 refine⟨l,hl,?_⟩
 rcases hb with hb|⟨el,sp',e4,hel,hq⟩
 ·have:=List.eq_nil_of_length_eq_zero hb
  subst this
  exact⟨by simp,λp hp=>by cases hp⟩
 ·obtain⟨z1,z2⟩:=Xhy ht hbe (λx hx=>hw x (by rw[show d=_ from e4];exact hx))
  refine⟨by omega,λa ha=>?_⟩
  obtain⟨i,hi⟩:=List.mem_iff_getElem?.1 ha
  obtain⟨d',hd1,hd2⟩:=hq i a hi
  exact hd2 (z2 d' (List.mem_of_getElem? hd1))
end
end
end Go.Proofs.YtiooodckiddpmaaGreatDoor
namespace Go.Proofs.YtiooodckiddpmaaGreatDoor
open Go.Vc Go.Sp
attribute [local irreducible] W XW Dw DwT
def rowW (r:Rw):Nat:=1+r.key.length+r.val.length
def actW (a:Ac):Nat:=a.key.length+a.to.length+(a.l.map rowW).sum
def hvS (l:List Ac):Nat:=((l.take 60).map actW).sum
theorem Xg9 {α:Type}(f:α->Nat){l:List α}{k:Nat}{x:α}(h:l[k]?=some x):((l.take (k+1)).map f).sum=((l.take k).map f).sum+f x:=by
 rw[Xa0 h,List.map_append,List.sum_append];simp
theorem Xpo {α:Type}(f:α->Nat)(l:List α){i j:Nat}(h:i≤j):((l.take i).map f).sum≤((l.take j).map f).sum:=by
 have e:l.take i=(l.take j).take i:=by rw[List.take_take,Nat.min_eq_left h]
 have:=congrArg (λm=>(m.map f).sum) (List.take_append_drop i (l.take j))
 simp only [List.map_append,List.sum_append]at this
 rw[e];omega
theorem X2w {l:List Ac}{i k:Nat}{a:Ac}(hi:i<60)(ha:l[i]?=some a)(hk:k≤a.l.length):((l.take i).map actW).sum+a.key.length+a.to.length+((a.l.take k).map rowW).sum≤hvS l:=by
 have h1:=Xpo actW l (show i+1≤60 by omega)
 rw[Xg9 actW ha]at h1
 have h2:=Xpo rowW a.l hk
 rw[List.take_length]at h2
 unfold hvS
 have h3:actW a=a.key.length+a.to.length+(a.l.map rowW).sum:=rfl
 omega
def RUp (M:List Rw):Prop:=M.Pairwise λa b=>sLt a.key b.key=true
section
variable {M:List Rw}{c:Cell}{j:Nat}{d:Rw}
theorem Xxh (hM:RUp M)(c:Cell):RUp (layC M c):=by
 unfold layC RUp
 refine List.pairwise_append.2 ⟨List.Pairwise.filter _ hM,List.pairwise_append.2 ⟨?_,List.Pairwise.filter _ hM,λx hx y hy=>?_⟩,λx hx y hy=>?_⟩
 ·split
  ·exact List.Pairwise.nil
  ·exact List.pairwise_singleton _ _
 ·split at hx
  ·cases hx
  ·rw[List.mem_singleton.1 hx];exact(List.mem_filter.1 hy).2
 ·have hxk:=(List.mem_filter.1 hx).2
  rcases List.mem_append.1 hy with hy|hy
  ·split at hy
   ·cases hy
   ·rw[List.mem_singleton.1 hy];exact hxk
  ·exact Xbg _ _ _ hxk (List.mem_filter.1 hy).2
theorem X0h (hM:RUp M)(c:Cell):(layC M c).length≤M.length+1:=by
 have h1:∀M:List Rw,(M.filter λr=>sLt r.key c.key).length+(M.filter λr=>sLt c.key r.key).length≤M.length:=by
  intro M
  induction M with
  | nil=>exact Nat.le_refl _
  | cons r q ih=>
   simp only [List.filter_cons,List.length_cons]
   cases h:sLt r.key c.key with
   | true=>rw[Xbx h];simp;omega
   | false=>cases h2:sLt c.key r.key<;>simp<;>omega
 have:=h1 M
 unfold layC
 simp only [List.length_append]
 split<;>simp<;>omega
def layR (M:List Rw)(cs:List Cell):List Rw:=cs.foldl layC M
theorem X52 : ∀(cs:List Cell) {M:List Rw},RUp M->RUp (layR M cs)
 | [],_,h=>h
 | c :: r,_,h=>X52 r (Xxh h c)
theorem Xrs : ∀(cs:List Cell) {M:List Rw},RUp M->(layR M cs).length≤M.length+cs.length
 | [],_,h=>Nat.le_refl _
 | c :: r,M,h=>by
  have h1:=Xrs r (Xxh h c)
  have h2:=X0h h c
  show(layR (layC M c) r).length≤_
  simp only [List.length_cons];omega
end
theorem X53 (l:List Ac)(v:Value)(w:World)(hv:Arr Ac.cs 5 w v l)(hl:l.length≤140737488355328)(hok:∀a∈l,AcOk w a) :
  Calls Tryz.prog 11 [v].toArray w (Pure w (B (decide (60000<hvS l)))):=by
 refine cw Tryz.func11 ?_
 have hx:=Ext.refl w
 refine ws λ_ Z1=>wr (da (de Z1 (ws λ_ Z2=>wr (da (de Z2 (ws λ_ Z3=>ws λ_ Z4=>wr (da (de Z4 (Xab ?_)))))))))
 refine Xaj (G:=Nat×Nat) (λ(i,n)=>[(0,v),(3,I ↑n),(4,I ↑i)]) (λ(i,n) w'=>Ext w w'∧i≤l.length∧i≤60∧n=((l.take i).map actW).sum∧n≤60000+i*281474976710656) (λ(i,n)=>l.length-i) (0,0) ?_ ?_ ?_
 ·exact zz3
 ·exact⟨hx,Nat.zero_le _,Nat.zero_le _,rfl,Nat.zero_le _⟩
 intro X1 g1 w1 hF1
 obtain⟨i,n⟩:=g1
 clear hx
 obtain⟨hx,hi1,hi2,hn,hnb⟩:=hF1
 refine ws λ_ Z5=>ws λ_ Z6=>wr (dm (dm ?_))
 refine dv 34 5 (hv.ext hx).sl (dp (Xaf rfl rfl) (dm ?_))
 refine Xag 10 rfl (λc1=>?_) (λc1=>?_)
 ·refine dm ?_
  refine dp (Xaf rfl rfl) (dk' (de Z6 ?_))
  refine wi (λc2=>?_) λc2=>?_
  ·obtain⟨a,hk⟩:∃a,l[i]?=some a:=gtE
   have hok9:=hok a (List.mem_of_getElem? hk)
   have hav:=hok9.v
   have q1:=hok9.key
   have q2:=hok9.to
   have q3:=hok9.len
   refine Xaa (Z5 _ _ (ws λ_ Z7=>Xab (ws λ_ Z8=>Xaq (R:=Ext) Ext.refl (λ_ _ _=>Ext.trans) kr9 [5,12] [(0,.p,false),(1,.p,false),(2,.p,false),(3,.p,false),(4,.p,false),(5,.l,false),(6,.p,false),(7,.p,false),(8,.p,false),(9,.p,false),(10,.p,false),(11,.p,false),(12,.l,false),(13,.p,false),(14,.p,false),(15,.p,false)] rfl kr9 kr9 (λw2 ew2=>?_))))
   have x2:=drewx ew2
   clear ew2
   replace hx:=hx.trans x2
   iterate 3 refine dm ?_
   refine di 34 5 hv.sl rfl (hv.lt hk) (df 2 rfl (dL rfl (λ_ hR=>(((hv.ext (hx.trans hR)).row hk).at rfl)) (dt rfl (pa rfl rfl (dm (dm ?_))))))
   refine di 34 5 hv.sl rfl (hv.lt hk) (df 3 rfl (dL rfl (λ_ hR=>(((hv.ext (hx.trans hR)).row hk).at rfl)) (dt rfl (pa rfl rfl (da (de Z8 (ws λ_ Z9=>wr (da (de Z9 (Xab ?_))))))))))
   refine Xaj (G:=Nat×Nat) (λ(k,m)=>[(0,v),(3,I ↑m),(4,I ↑i),(5,I ↑k)]) (λ(k,m) w'=>Ext w w'∧k≤a.l.length∧m=n+a.key.length+a.to.length+((a.l.take k).map rowW).sum∧m≤60000+(i+1)*281474976710656) (λ(k,m)=>a.l.length-k) (0,n+a.key.length+a.to.length) ?_ ?_ ?_
   ·exact zz4
   ·exact⟨hx,Nat.zero_le _,by simp,by omega⟩
   intro X3 g3 w3 hF3
   obtain⟨k,m⟩:=g3
   clear hx
   obtain⟨hx,hk1,hm,hmb⟩:=hF3
   refine ws λ_ Z10=>ws λ_ Z11=>wr (dm (dm (dm ?_)))
   refine di 34 5 hv.sl rfl (hv.lt hk) (df 4 rfl (dl rfl (((hv.ext hx).row hk).at rfl) (dv 48 3 (hav.ext hx).sl (dp (Xaf rfl rfl) (de Z11 (wi (λc3=>?_) λc3=>?_))))))
   ·obtain⟨r,hr⟩:∃r,a.l[k]?=some r:=gtE
    have q4:=hok9.row r (List.mem_of_getElem? hr)
    have hrs:=Xg9 rowW hr
    have hrw:rowW r=1+r.key.length+r.val.length:=rfl
    have hge:=X2w (k:=k+1) om9 hk om9
    refine Xaa (Z10 _ _ (ws λ_ Z12=>Xab (ws λ_ Z13=>Xaq (R:=Ext) Ext.refl (λ_ _ _=>Ext.trans) kr9 [6,10,17,21] [(0,.p,false),(1,.p,false),(2,.p,false),(3,.p,false),(4,.p,false),(5,.p,false),(6,.l,false),(7,.p,false),(8,.p,false),(9,.p,false),(10,.l,false),(11,.p,false),(12,.p,false),(13,.p,false),(14,.p,false),(15,.p,false),(16,.p,false),(17,.l,false),(18,.p,false),(19,.p,false),(20,.p,false),(21,.l,false),(22,.p,false),(23,.p,false),(24,.p,false)] rfl kr9 kr9 (λw4 ew4=>?_))))
    have x4:=drewx ew4
    clear ew4
    replace hx:=hx.trans x4
    refine dm ?_
    refine pa rfl rfl (dm (dm ?_))
    refine di 34 5 hv.sl rfl (hv.lt hk) (df 4 rfl (dL rfl (λ_ hR=>(((hv.ext (hx.trans hR)).row hk).at rfl)) (dm ?_)))
    refine di 48 3 hav.sl rfl (hav.lt hr) (df 0 rfl (dL rfl (λ_ hR=>(((hav.ext (hx.trans hR)).row hr).at rfl)) (dt rfl (pa rfl rfl (dm (dm ?_))))))
    refine di 34 5 hv.sl rfl (hv.lt hk) (df 4 rfl (dL rfl (λ_ hR=>(((hv.ext (hx.trans hR)).row hk).at rfl)) (dm ?_)))
    refine di 48 3 hav.sl rfl (hav.lt hr) (df 1 rfl (dL rfl (λ_ hR=>(((hav.ext (hx.trans hR)).row hr).at rfl)) (dt rfl (pa rfl rfl (da (de Z13 (ws λ_ Z14=>wr (dm ?_))))))))
    refine dp (Xaw rfl rfl) (de Z14 (wi (λc4=>?_) λc4=>?_))
    ·refine ws λ_ Z15=>wr (da (de Z15 (Xad ?_)))
     refine ro ?_
     refine⟨?_,hx⟩
     rw[decide_eq_true (show 60000<hvS l by omega)]
    refine Xaa (Z12 _ _ (wr (dm ?_)))
    refine pa rfl rfl (da (Xae (?_)))
    exact⟨(k+1,m+1+r.key.length+r.val.length),zz4,⟨hx,by omega,by omega,by omega⟩,by simp only [];omega⟩
   refine Xah (Z7 _ _ (wr (dm ?_)))
   refine pa rfl rfl (da (Xae (?_)))
   have hkk:k=a.l.length:=by omega
   subst hkk
   rw[List.take_length]at hm
   have hst:=Xg9 actW hk
   have haw:actW a=a.key.length+a.to.length+(a.l.map rowW).sum:=rfl
   exact⟨(i+1,m),zz3,⟨hx,by omega,by omega,by omega,by omega⟩,by simp only [];omega⟩
  refine Xah (Z3 _ _ (ws λ_ Z16=>wr (dm ?_)))
  refine dp (Xaw rfl rfl) (da (de Z16 (Xad ?_)))
  refine ro ?_
  have hi6:i=60:=by omega
  subst hi6
  refine⟨?_,hx⟩
  congr 2
  unfold hvS
  rw[←hn]
  exact decide_eq_decide.2 om9
 refine dk (dk (dk' (de Z6 ?_)))
 refine W_f rfl (Xah (Z3 _ _ (ws λ_ Z17=>wr (dm ?_))))
 refine dp (Xaw rfl rfl) (da (de Z17 (Xad ?_)))
 refine ro ?_
 have e:hvS l=n:=by unfold hvS;rw[hn,List.take_of_length_le (show l.length≤60 by omega),List.take_of_length_le (show l.length≤i by omega)]
 refine⟨?_,hx⟩
 congr 2
 rw[e]
 exact decide_eq_decide.2 om9
end Go.Proofs.YtiooodckiddpmaaGreatDoor
namespace Go.Proofs.YtiooodckiddpmaaGreatDoor.Em
open Go.Vc Go.Sp
attribute [local irreducible] W XW Dw DwT
theorem diskM : MapK Tryz.prog 120 9 123 S pO (λs=>s.length≤maxLen):=mapS kr9 kr9 Xt3
theorem X82 (w:World) :
  Calls Tryz.prog 262 [.slice none 0 0,I 0,I 0].toArray w (Pure w (.tuple #[])):=by
 refine cw Tryz.func262 ?_
 have hx:=Ext.refl w
 refine ws λ_ Z1=>wr (dm ?_)
 refine pa rfl rfl (da (de Z1 (Xab ?_)))
 refine Xaj (G:=Unit) (λuu=>[(0,.slice none 0 0),(1,I 0),(2,I 0),(6,I (0+1))]) (λuu w'=>Ext w w'∧True) (λuu=>0) () ?_ ?_ ?_
 ·exact zz4
 ·exact⟨hx,trivial⟩
 intro X1 g1 w1 hF1
 revert hF1;revert g1;intro uu hF1
 clear hx
 obtain⟨hx,htr⟩:=hF1
 refine ws λ_ Z2=>ws λ_ Z3=>wr (dm (dm ?_))
 refine dp (Xaf rfl rfl) (de Z3 (wi (λc1=>?_) λc1=>?_))
 ·exact absurd c1 dc9
 refine Xah (Xa5 (Xav rfl ?_))
 exact⟨rfl,hx⟩
theorem X54 (w:World) :
  Calls Tryz.prog 272 [.int .u64 0].toArray w (Pure w (I 0)):=by
 refine cw Tryz.func272 ?_
 have hx:=Ext.refl w
 refine ws λ_ Z1=>wr (da (de Z1 (ws λ_ Z2=>ws λ_ Z3=>wr (dm ?_))))
 refine dp (Xcg rfl rfl) (de Z3 (wi (λc1=>?_) λc1=>?_))
 ·exact absurd c1 dc9
 refine Xaa (Z2 _ _ (ws λ_ Z4=>ws λ_ Z5=>wr (dm ?_)))
 refine dp (Xcg rfl rfl) (de Z5 (wi (λc2=>?_) λc2=>?_))
 ·exact absurd c2 dc9
 refine Xaa (Z4 _ _ (ws λ_ Z6=>ws λ_ Z7=>wr (dm ?_)))
 refine dp (Xcg rfl rfl) (de Z7 (wi (λc3=>?_) λc3=>?_))
 ·exact absurd c3 dc9
 refine Xaa (Z6 _ _ (ws λ_ Z8=>wr (dm (dm ?_))))
 refine dp (Xth rfl kr9 kr9) (dp (Xym (c:=0) kr9 rfl rfl rfl) (dp (Xx8 rfl kr9 kr9) (dp (Xa7 (a:=0) (b:=0) rfl rfl (by simp [Xai])) (da (de Z8 (Xad ?_))))))
 refine ro ?_
 exact⟨rfl,hx⟩
theorem X83 (w:World) :
  Calls Tryz.prog 204 [.int .u64 0].toArray w (Pure w (I 0)):=by
 refine cw Tryz.func204 ?_
 have hx:=Ext.refl w
 refine ws λ_ Z1=>wr (da (de Z1 (ws λ_ Z2=>?_)))
 refine W_f rfl (Xaa (Z2 _ _ (ws λ_ Z3=>wr (dm ?_))))
 refine cP (X54 _) RX.all λw1 x1=>?_
 replace hx:=hx.trans x1
 refine da (de Z3 (Xad ?_))
 refine ro ?_
 exact⟨rfl,hx⟩
theorem X84 (w:World) :
  Calls Tryz.prog 203 [.slice none 0 0,I 0,I 0,I 0].toArray w (Pure w (.tuple #[])):=by
 refine cw Tryz.func203 ?_
 have hx:=Ext.refl w
 refine ws λ_ Z1=>wr (da (de Z1 (ws λ_ Z2=>wr (da (de Z2 (Xab ?_))))))
 refine Xaj (G:=Unit) (λuu=>[(0,.slice none 0 0),(1,I 0),(2,I 0)]) (λuu w'=>Ext w w'∧True) (λuu=>0) () ?_ ?_ ?_
 ·exact zz3
 ·exact⟨hx,trivial⟩
 intro X1 g1 w1 hF1
 revert hF1;revert g1;intro uu hF1
 clear hx
 obtain⟨hx,htr⟩:=hF1
 refine Xab (ws λ_ Z3=>wr (dm (dm ?_)))
 refine ps rfl rfl (da (de Z3 (ws λ_ Z4=>ws λ_ Z5=>wr (dm ?_))))
 refine dp (Xci rfl rfl) (de Z5 (wi (λc1=>?_) λc1=>?_))
 ·refine ws λ_ Z6=>wr (dm (dm (dm ?_)))
  refine cP (X82 _) RX.all λw2 x2=>?_
  replace hx:=hx.trans x2
  refine de Z6 (Xad (Xav rfl ?_))
  exact⟨rfl,hx⟩
 exact absurd c1 dc9
theorem X55 (w:World) :
  Calls Tryz.prog 132 [.slice none 0 0].toArray w (Pure w (.tuple #[])):=by
 refine cw Tryz.func132 ?_
 have hx:=Ext.refl w
 refine ws λ_ Z1=>wr (dm ?_)
 refine dv 9 1 (Arr.nil (enc:=sEnc) (sz:=1) (w:=w)).sl (da (de Z1 (wr (dm (dm (dm ?_))))))
 refine dp (Xcj (k:=.u64) rfl kr9 kr9) (cP (X83 _) RX.all λw1 x1=>?_)
 replace hx:=hx.trans x1
 refine cP (X84 _) RX.all λw2 x2=>?_
 replace hx:=hx.trans x2
 refine Xae ((Xa5 (Xav rfl ?_)))
 exact⟨rfl,hx⟩
theorem X0i (b ly:Nat)(mv:Value)(J:Nat->World->Prop)(w:World)(hJ:∀k W,J k W->Blk W b [mv] 120∧EmpV W mv)(hE:∀k W W',J k W->Ext W W'->J k W')(hj:J 0 w) :
  Calls Tryz.prog 133 [.func (.yield ly) #[] #[],ptr b 0].toArray w (λe W'=>(∃v,e=.returned v)∧J 0 W'):=by
 refine Xqe Tryz.func133 rfl rfl rfl kr9 ?_
 have hx:=Ext.refl w
 obtain⟨hb,hv⟩:=hJ _ _ hj
 refine Xiw λK1 Z1=>Xmr [.l,.x] rfl (dl rfl ((hb.ext hx).at rfl) (Xyo kr9 rfl rfl (hv.ext hx) RX.all (λb1 w1 e1 x1 it1=>?_)))
 have g1:=hx.ge e1
 replace hx:=hx.trans x1
 refine Xae (Z1 _ _ _ (Xqd ?_))
 refine X3n (G:=Unit) (λuu=>[(0,.func (.yield ly) #[] #[]),(5,ptr b1 0)]) (λuu w'=>Ext w w'∧Xyl w' b1∧True) (λuu=>0) () ?_ ?_ ?_
 ·exact zz2
 ·exact⟨hx,it1,trivial⟩
 intro X2 g2 w2 hF2
 revert hF2;revert g2;intro uu hF2
 clear hx it1
 obtain⟨hx,it1,htr⟩:=hF2
 refine Xiw λK2 Z2=>Xmr [.x,.p] rfl (X3q rfl rfl it1 RX.all (dx rfl rfl (Xae (Z2 _ _ _ (Xiw λK3 Z3=>Yan rfl (X3l ?_))))))
 try dsimp only [Xyh,Xmo]
 refine Xt0 (Xav rfl ?_)
 exact⟨⟨_,rfl⟩,hE _ _ _ hj hx⟩
theorem X56 (mv:Value)(w:World)(hv:EmpV w mv) :
  Calls Tryz.prog 67 [mv].toArray w (Gives w (λu w'=>∃b,u=fnC 133 [ptr b 0]∧Blk w' b [mv] 120)):=by
 refine cw Tryz.func67 ?_
 have hx:=Ext.refl w
 refine ws λ_ Z1=>wr (Xbf rfl rfl (Xt4 hv) RX.all (λb1 w1 e1 x1 m1=>?_))
 have g1:=hx.ge e1
 replace hx:=hx.trans x1
 refine da (de Z1 (ws λ_ Z2=>wr ?_))
 refine dp (Xdn rfl) (da (de Z2 (Xad ?_)))
 refine ro ?_
 exact⟨_,rfl,hx,b1,rfl,m1⟩
theorem Xn4 (bk:Nat)(mv:Value)(w:World)(hk:Blk w bk [mv] 120)(hv:EmpV w mv) :
  Calls Tryz.prog 202 [.slice none 0 0,fnC 133 [ptr bk 0]].toArray w (Pure w (.slice none 0 0)):=by
 refine Xqe Tryz.func202 rfl rfl rfl kr9 ?_
 have hx:=Ext.refl w
 refine Xiw λK1 Z1=>Xmr [.x,.p] rfl (Xbf rfl rfl rfl RX.all (λb1 w1 e1 x1 m1=>?_))
 have g1:=hx.ge e1
 replace hx:=hx.trans x1
 refine da ?_
 refine Xae (Z1 _ _ _ (Xiw λK2 Z2=>Xiw λK3 Z3=>Xmr [.p] rfl (dm ?_)))
 refine Xae (Z3 _ _ _ (Xqd ?_))
 have hI0:(Ext w w1∧Blk w1 b1 [.slice none 0 0] 58∧Blk w1 bk [mv] 120∧EmpV w1 mv):=⟨hx,m1,hk.ext hx,hv.ext hx⟩
 have hx3:=hx.size
 have hbk:=hk.lt
 have hb1:=m1.lt
 refine Xyi (gf:=133) (N:=0) (lb:=#[ptr bk 0]) (args:=λk=>[S []]) rfl kr9 (λ_=>rfl) (λk W=>(Ext w W∧Blk W b1 [.slice none 0 0] 58∧Blk W bk [mv] 120∧EmpV W mv)) (λk E1 W=>False) hI0 ?hX ?hL ?hAL ?hit ?assign ?body ?h
 case hX=>
  rintro k W W' ⟨h1,h2,h3,h4⟩ x
  exact⟨h1.trans x,h2.ext x,h3.ext x,h4.ext x⟩
 case hL=>
  rintro k W l' o o' ⟨h1,h2,h3,h4⟩ hle hl ho
  have:=hx.size
  exact⟨h1.own (Mod.putObj W l' o') (λi hi=>by have hi2:i=l':=hi;omega),h2.put o' hl ho,h3.put o' hl ho,h4.imp id λ⟨b,e,hb⟩=>⟨b,e,hb.mod (Mod.putObj W l' o') (λe2=>by have e3:b=l':=e2;have h9:=hv.lt e;omega)⟩⟩
 case hAL=>exact λk E1 W l' o o' h=>h.elim
 case hit=>
  intro ly J hJI hJE hY W hj
  exact X0i bk ly mv J W (λk W h=>⟨(hJI k W h).2.2.1,(hJI k W h).2.2.2⟩) hJE hj
 case assign=>exact λk l W hk=>absurd hk (Nat.not_lt_zero k)
 case body=>exact λk l E1 W keep hk=>absurd hk (Nat.not_lt_zero k)
 case h=>
  intro D w8 hD hI hdl
  clear hx m1 hI0
  obtain⟨hx,m1,-,-⟩:=hI
  refine Z2 _ _ _ (Xiw λK4 Z4=>Xmr [.l,.p] rfl (dl rfl (m1.at rfl) (da ?_)))
  refine Xae (Z4 _ _ _ (X6z ?_))
  try dsimp only [Xyh,Xmo]
  refine Xt1 hdl (ro ?_)
  have hxs:=hx.size
  exact⟨rfl,hx.own (Mod.putObj _ D _) (λi hi=>by have hi2:i=D:=hi;omega)⟩
theorem Xsv (bk:Nat)(mv:Value)(w:World)(hk:Blk w bk [mv] 120)(hv:EmpV w mv) :
  Calls Tryz.prog 131 [fnC 133 [ptr bk 0]].toArray w (Pure w (.slice none 0 0)):=by
 refine cw Tryz.func131 ?_
 have hx:=Ext.refl w
 refine ws λ_ Z1=>wr (da (de Z1 (ws λ_ Z2=>wr (dm ?_))))
 refine cP (Xn4 bk mv _ (hk.ext hx) (hv.ext hx)) RX.all λw1 x1=>?_
 replace hx:=hx.trans x1
 refine da (de Z2 (Xad ?_))
 refine ro ?_
 exact⟨rfl,hx⟩
theorem Xxi (bk:Nat)(mv:Value)(w:World)(hk:Blk w bk [mv] 120)(hv:EmpV w mv) :
  Calls Tryz.prog 66 [fnC 133 [ptr bk 0]].toArray w (Pure w (.slice none 0 0)):=by
 refine cw Tryz.func66 ?_
 have hx:=Ext.refl w
 refine ws λ_ Z1=>wr (da (de Z1 (ws λ_ Z2=>wr (dm ?_))))
 refine cP (Xsv bk mv _ (hk.ext hx) (hv.ext hx)) RX.all λw1 x1=>?_
 replace hx:=hx.trans x1
 refine da (de Z2 (ws λ_ Z3=>wr (dm ?_)))
 refine cP (X55 _) RX.all λw2 x2=>?_
 replace hx:=hx.trans x2
 refine de Z3 (ws λ_ Z4=>wr (dm (da (de Z4 (Xad ?_)))))
 refine ro ?_
 exact⟨rfl,hx⟩
theorem list_w (bd mf:Nat)(room:Int)(w:World)(hd:Blk w bd [I room,.map (some mf),B false,I 0] 122)(hm:EmpM w mf) :
  Calls Tryz.prog 28 [ptr bd 0].toArray w (Pure w (.slice none 0 0)):=by
 refine cw Tryz.func28 ?_
 have hx:=Ext.refl w
 refine ws λ_ Z1=>wr (da (de Z1 (ws λ_ Z2=>ws λ_ Z3=>wr (dm ?_))))
 refine dp (Xa4 kr9 rfl rfl) (de Z3 (wi (λc1=>?_) λc1=>?_))
 ·exact absurd c1 sp9
 refine Xaa (Z2 _ _ (ws λ_ Z4=>wr (dm ?_)))
 refine dz rfl (df 1 rfl (dl rfl ((hd.ext hx).at rfl) (cG (X56 (.map (some mf)) _ (hm.ext hx).val) RX.all λu1 w1 x1 hf1=>?_)))
 have hsz1:=hx.size
 replace hx:=hx.trans x1
 obtain⟨bk,rfl,hk⟩:=hf1
 refine cP (Xxi bk _ _ hk (hm.ext hx).val) RX.all λw2 x2=>?_
 replace hx:=hx.trans x2
 refine da (de Z4 (Xad ?_))
 refine ro ?_
 exact⟨rfl,hx⟩
theorem X0j (s:Str)(w:World) :
  Calls Tryz.prog 201 [.slice none 0 0,S s].toArray w (Pure w (I (-1))):=by
 refine cw Tryz.func201 ?_
 have hx:=Ext.refl w
 refine ws λ_ Z1=>wr (da (de Z1 (ws λ_ Z2=>ws λ_ Z3=>wr (dm ?_))))
 refine dv 9 1 (Arr.nil (enc:=sEnc) (sz:=1) (w:=w)).sl (dm (de Z3 (Xab ?_)))
 refine Xaj (G:=Unit) (λuu=>[(0,.slice none 0 0),(1,S s),(7,I 0),(8,I 0)]) (λuu w'=>Ext w w'∧True) (λuu=>0) () ?_ ?_ ?_
 ·exact zz4
 ·exact⟨hx,trivial⟩
 intro X1 g1 w1 hF1
 revert hF1;revert g1;intro uu hF1
 clear hx
 obtain⟨hx,htr⟩:=hF1
 refine ws λ_ Z4=>wr (dp (Xaf rfl rfl) (de Z4 (ws λ_ Z5=>wi (λc1=>?_) λc1=>?_)))
 ·exact absurd c1 dc9
 refine Xah (Z2 _ _ (ws λ_ Z6=>wr (da (de Z6 (Xad ?_)))))
 refine ro ?_
 exact⟨rfl,hx⟩
theorem Xpp (s:Str)(w:World) :
  Calls Tryz.prog 130 [.slice none 0 0,S s].toArray w (Pure w (B false)):=by
 refine cw Tryz.func130 ?_
 have hx:=Ext.refl w
 refine ws λ_ Z1=>wr (da (de Z1 (ws λ_ Z2=>wr (dm (dm ?_)))))
 refine cP (X0j s _) RX.all λw1 x1=>?_
 replace hx:=hx.trans x1
 refine dp (Xcg rfl rfl) (da (de Z2 (Xad ?_)))
 refine ro ?_
 exact⟨rfl,hx⟩
theorem has_w (bd mf:Nat)(room:Int)(s:Str)(w:World)(hd:Blk w bd [I room,.map (some mf),B false,I 0] 122)(hm:EmpM w mf) :
  Calls Tryz.prog 189 [ptr bd 0,S s].toArray w (Pure w (B false)):=by
 refine cw Tryz.func189 ?_
 have hx:=Ext.refl w
 refine ws λ_ Z1=>wr (da (de Z1 (ws λ_ Z2=>wr (dm ?_))))
 refine cP (list_w bd mf room _ (hd.ext hx) (hm.ext hx)) RX.all λw1 x1=>?_
 replace hx:=hx.trans x1
 refine dm ?_
 refine cP (Xpp s _) RX.all λw2 x2=>?_
 replace hx:=hx.trans x2
 refine da (de Z2 (Xad ?_))
 refine ro ?_
 exact⟨rfl,hx⟩
theorem removes_w (bd mf:Nat)(room:Int)(l:List Str)(v:Value)(w:World)(hd:Blk w bd [I room,.map (some mf),B false,I 0] 122)(hm:EmpM w mf)(hv:Arr sEnc 1 w v l)(hl:l.length≤1000) :
  Calls Tryz.prog 178 [ptr bd 0,v].toArray w (Pure w (I 0)):=by
 refine cw Tryz.func178 ?_
 have hx:=Ext.refl w
 refine ws λ_ Z1=>wr (da (de Z1 (ws λ_ Z2=>ws λ_ Z3=>wr (dm ?_))))
 refine dv 9 1 hv.sl (dm (de Z3 (Xab ?_)))
 refine Xaj (G:=Nat) (λk=>[(0,ptr bd 0),(8,v),(9,I ↑l.length),(10,I ↑k)]) (λk w'=>Ext w w'∧k≤l.length) (λk=>l.length-k) 0 ?_ ?_ ?_
 ·exact zz4
 ·exact⟨hx,Nat.zero_le _⟩
 intro X1 g1 w1 hF1
 revert hF1;revert g1;intro k hF1
 clear hx
 obtain⟨hx,hk1⟩:=hF1
 refine ws λ_ Z4=>wr (dp (Xaf rfl rfl) (de Z4 (ws λ_ Z5=>wi (λc1=>?_) λc1=>?_)))
 ·obtain⟨s,hk⟩:∃s,l[k]?=some s:=gtE
  refine Xaa (Z5 _ _ (ws λ_ Z6=>Xab (ws λ_ Z7=>wr (di 9 1 hv.sl rfl (hv.lt hk) (dl rfl (((hv.ext hx).row hk).at0 rfl) (da (de Z7 (ws λ_ Z8=>ws λ_ Z9=>wr (dm (dm ?_))))))))))
  refine cP (has_w bd mf room s _ (hd.ext hx) (hm.ext hx)) RX.all λw2 x2=>?_
  replace hx:=hx.trans x2
  refine dn (de Z9 ?_)
  refine W_t rfl (Xah (Z6 _ _ (wr (pa rfl rfl (dm (Xae (?_)))))))
  refine⟨k+1,zz4,⟨hx,by omega⟩,by omega⟩
 refine Xah (Z2 _ _ (ws λ_ Z10=>wr (da (de Z10 (Xad ?_)))))
 refine ro ?_
 exact⟨rfl,hx⟩
theorem read_w (bd mf:Nat)(room:Int)(s:Str)(w:World)(hd:Blk w bd [I room,.map (some mf),B false,I 0] 122)(hm:EmpM w mf)(hs:s.length≤maxLen) :
  Calls Tryz.prog 190 [ptr bd 0,S s].toArray w (Pure w (.tuple #[.slice none 0 0,I 7])):=by
 refine cw Tryz.func190 ?_
 have hx:=Ext.refl w
 have hma:Vc.Xbo Tryz.prog 9 S pO w mf 0 (λ_=>none):=hm.at
 refine ws λ_ Z1=>wr (da (da (de Z1 (ws λ_ Z2=>ws λ_ Z3=>wr (dm ?_)))))
 refine dp (Xa4 kr9 rfl rfl) (dm ?_)
 refine Xag 8 rfl (λc1=>?_) (λc1=>?_)
 ·exact absurd c1 sp9
 refine dm ?_
 refine dz rfl (df 1 rfl (dl rfl ((hd.ext hx).at rfl) (dm ?_)))
 refine dq (Xee diskM (kx:=s) (z0:=none) rfl rfl kr9 (hma.ext hx) hs) (dp (Xa4 kr9 rfl rfl) (dk' (de Z3 ?_)))
 refine wi (λc2=>?_) λc2=>?_
 ·refine ws λ_ Z4=>wr (da (da (de Z4 (Xad ?_))))
  refine rt ?_
  exact⟨rfl,hx⟩
 exact absurd rfl c2
theorem X85 (bd mf:Nat)(room:Int)(s:Str)(w:World)(hd:Blk w bd [I room,.map (some mf),B false,I 0] 122)(hm:EmpM w mf)(hs:s.length≤maxLen) :
  Calls Tryz.prog 123 [ptr bd 0,S s].toArray w (Pure w (.tuple #[.slice none 0 0,I 7])):=by
 refine cw Tryz.func123 ?_
 have hx:=Ext.refl w
 refine ws λ_ Z1=>wr (da (da (de Z1 (ws λ_ Z2=>ws λ_ Z3=>wr (dm ?_)))))
 refine dp (Xa4 kr9 rfl rfl) (de Z3 (wi (λc1=>?_) λc1=>?_))
 ·exact absurd c1 sp9
 refine Xaa (Z2 _ _ (ws λ_ Z4=>wr (dm (dm ?_))))
 refine cP (read_w bd mf room s _ (hd.ext hx) (hm.ext hx) hs) RX.all λw1 x1=>?_
 replace hx:=hx.trans x1
 refine dm ?_
 refine dx rfl rfl (dx rfl rfl (da (da (de Z4 (ws λ_ Z5=>ws λ_ Z6=>wr (dm ?_))))))
 refine dp (Xas rfl rfl) (de Z6 (wi (λc2=>?_) λc2=>?_))
 ·refine ws λ_ Z7=>wr (dm (da (da (de Z7 (Xad ?_)))))
  refine rt ?_
  exact⟨rfl,hx⟩
 exact absurd c2 dc9
theorem imgName_w (bl bd:Nat)(w:World)(hl:Blk w bl [ptr bd 0,S [115],I 0,.slice none 0 0,.slice none 0 0,B false] 147) :
  Calls Tryz.prog 177 [ptr bl 0].toArray w (Pure w (S [115,45,105,109,103])):=by
 refine cw Tryz.func177 ?_
 have hx:=Ext.refl w
 refine ws λ_ Z1=>wr (da (de Z1 (ws λ_ Z2=>wr (dm ?_))))
 refine dz rfl (df 1 rfl (dl rfl ((hl.ext hx).at rfl) (dp (Xce rfl rfl (by first|(simp;done)|(simp;omega)|omega)) (da (de Z2 (Xad ?_))))))
 refine ro ?_
 exact⟨rfl,hx⟩
theorem logName_w (bl bd:Nat)(w:World)(hl:Blk w bl [ptr bd 0,S [115],I 0,.slice none 0 0,.slice none 0 0,B false] 147) :
  Calls Tryz.prog 84 [ptr bl 0].toArray w (Pure w (S [115,45,108,111,103])):=by
 refine cw Tryz.func84 ?_
 have hx:=Ext.refl w
 refine ws λ_ Z1=>wr (da (de Z1 (ws λ_ Z2=>wr (dm ?_))))
 refine dz rfl (df 1 rfl (dl rfl ((hl.ext hx).at rfl) (dp (Xce rfl rfl (by first|(simp;done)|(simp;omega)|omega)) (da (de Z2 (Xad ?_))))))
 refine ro ?_
 exact⟨rfl,hx⟩
theorem X0k (bl bd mf:Nat)(room:Int)(w:World)(hl:Blk w bl [ptr bd 0,S [115],I 0,.slice none 0 0,.slice none 0 0,B false] 147)(hd:Blk w bd [I room,.map (some mf),B false,I 0] 122)(hm:EmpM w mf) :
  Calls Tryz.prog 115 [ptr bl 0].toArray w (Pure w (I 0)):=by
 refine cw Tryz.func115 ?_
 have hx:=Ext.refl w
 refine ws λ_ Z1=>wr (da (de Z1 (ws λ_ Z2=>?_)))
 refine Xaq (R:=Ext) Ext.refl (λ_ _ _=>Ext.trans) kr9 [3] [(0,.p,false),(1,.p,false),(2,.p,false),(3,.l,false),(4,.p,false),(5,.x,false),(6,.p,false),(7,.x,false),(8,.x,true),(9,.p,false)] rfl kr9 kr9 (λw1 ew1=>?_)
 have x1:=drewx ew1
 clear ew1
 replace hx:=hx.trans x1
 refine dm ?_
 refine dz rfl (df 0 rfl (dL rfl (λ_ hR=>((hl.ext (hx.trans hR)).at rfl)) (dm ?_)))
 refine cP (imgName_w bl bd _ (hl.ext hx)) RX.ext λw2 x2=>?_
 replace hx:=hx.trans x2
 refine dp (Xce rfl rfl (by first|(simp;done)|(simp;omega)|omega)) (li (e:=9) (sz:=1) (zs:=[S []]) (pv:=[(0,_)]) (cs:=[_]) RX.ext (λb1 w3 e1 x3 m1=>?_))
 have g1:=hx.ge e1
 replace hx:=hx.trans x3
 refine cP (removes_w bd mf room [[115,45,105,109,103]++[126]] _ _ (hd.ext hx) (hm.ext hx) (m1.arr (enc:=sEnc) (sz:=1) rfl ir9 rfl sp9) sp9) RX.all λw4 x4=>?_
 replace hx:=hx.trans x4
 refine da (de Z2 (Xad ?_))
 refine ro ?_
 exact⟨rfl,hx⟩
theorem X57 (bl bd mf:Nat)(room:Int)(w:World)(hl:Blk w bl [ptr bd 0,S [115],I 0,.slice none 0 0,.slice none 0 0,B false] 147)(hd:Blk w bd [I room,.map (some mf),B false,I 0] 122)(hm:EmpM w mf) :
  Calls Tryz.prog 116 [ptr bl 0].toArray w (Pure w (I 0)):=by
 refine cw Tryz.func116 ?_
 have hx:=Ext.refl w
 refine ws λ_ Z1=>wr (da (de Z1 (ws λ_ Z2=>?_)))
 refine Xaq (R:=Ext) Ext.refl (λ_ _ _=>Ext.trans) kr9 [3] [(0,.p,false),(1,.p,false),(2,.p,false),(3,.l,false),(4,.p,false),(5,.x,false),(6,.x,true),(7,.p,false),(8,.p,false),(9,.p,false),(10,.p,false),(11,.p,false)] rfl kr9 kr9 (λw1 ew1=>?_)
 have x1:=drewx ew1
 clear ew1
 replace hx:=hx.trans x1
 refine dm ?_
 refine dz rfl (df 0 rfl (dL rfl (λ_ hR=>((hl.ext (hx.trans hR)).at rfl)) (dm ?_)))
 refine cP (imgName_w bl bd _ (hl.ext hx)) RX.ext λw2 x2=>?_
 replace hx:=hx.trans x2
 refine cP (X85 bd mf room [115,45,105,109,103] _ (hd.ext hx) (hm.ext hx) dc9) RX.all λw3 x3=>?_
 replace hx:=hx.trans x3
 refine dm ?_
 refine dx rfl rfl (dx rfl rfl (da (da (de Z2 (ws λ_ Z3=>ws λ_ Z4=>wr (dm ?_))))))
 refine dp (Xa9 rfl rfl) (de Z4 (wi (λc1=>?_) λc1=>?_))
 ·refine ws λ_ Z5=>wr (da (de Z5 (Xad ?_)))
  refine ro ?_
  exact⟨rfl,hx⟩
 exact absurd rfl c1
theorem Yac (bl bd mf:Nat)(room:Int)(w:World)(hl:Blk w bl [ptr bd 0,S [115],I 0,.slice none 0 0,.slice none 0 0,B false] 147)(hd:Blk w bd [I room,.map (some mf),B false,I 0] 122)(hm:EmpM w mf) :
  Calls Tryz.prog 117 [ptr bl 0].toArray w (Pure w (I 0)):=by
 refine cw Tryz.func117 ?_
 have hx:=Ext.refl w
 refine ws λ_ Z1=>wr (da (de Z1 (ws λ_ Z2=>ws λ_ Z3=>?_)))
 refine Xaq (R:=Ext) Ext.refl (λ_ _ _=>Ext.trans) kr9 [3] [(0,.p,false),(1,.p,false),(2,.p,false),(3,.l,false),(4,.p,false),(5,.x,false),(6,.x,true),(7,.p,false)] rfl kr9 kr9 (λw1 ew1=>?_)
 have x1:=drewx ew1
 clear ew1
 replace hx:=hx.trans x1
 refine dm ?_
 refine dz rfl (df 0 rfl (dL rfl (λ_ hR=>((hl.ext (hx.trans hR)).at rfl)) (dm ?_)))
 refine cP (logName_w bl bd _ (hl.ext hx)) RX.ext λw2 x2=>?_
 replace hx:=hx.trans x2
 refine cP (has_w bd mf room [115,45,108,111,103] _ (hd.ext hx) (hm.ext hx)) RX.all λw3 x3=>?_
 replace hx:=hx.trans x3
 refine dn (de Z3 ?_)
 refine W_t rfl (ws λ_ Z4=>wr (da (de Z4 (Xad ?_))))
 refine ro ?_
 exact⟨rfl,hx⟩
theorem X0l (w:World) :
  Calls Tryz.prog 87 [.slice none 0 0].toArray w (Pure w (.slice none 0 0)):=by
 refine cw Tryz.func87 ?_
 have hx:=Ext.refl w
 refine ws λ_ Z1=>wr (da (de Z1 (ws λ_ Z2=>ws λ_ Z3=>wr (dm ?_))))
 refine dp (Xk3 (e:=5) (k:=1) kr9 (Arr.nil (enc:=encB) (sz:=1) (w:=w)).sl rfl rfl) (de Z3 (wc (λc1=>?_) λc1=>?_))
 ·refine ws λ_ Z4=>wr (da (de Z4 (Xad ?_)))
  refine ro ?_
  exact⟨rfl,hx⟩
 exact absurd c1 dc9
theorem X2x (bl bd:Nat)(w:World)(hl:Blk w bl [ptr bd 0,S [115],I 0,.slice none 0 0,.slice none 0 0,B false] 147) :
  Calls Tryz.prog 60 [ptr bl 0].toArray w (Pure w (.tuple #[I 0,.slice none 0 0])):=by
 refine cw Tryz.func60 ?_
 have hx:=Ext.refl w
 refine ws λ_ Z1=>wr (da (da (de Z1 (ws λ_ Z2=>ws λ_ Z3=>wr (dm ?_)))))
 refine dp (Xa4 kr9 rfl rfl) (de Z3 (wi (λc1=>?_) λc1=>?_))
 ·exact absurd c1 sp9
 refine Xaa (Z2 _ _ (ws λ_ Z4=>Xaq (R:=Ext) Ext.refl (λ_ _ _=>Ext.trans) kr9 [3,7] [(0,.p,false),(1,.p,false),(2,.p,false),(3,.l,false),(4,.p,false),(5,.p,false),(6,.p,false),(7,.l,false),(8,.x,false),(9,.p,false),(10,.p,false)] rfl kr9 kr9 (λw1 ew1=>?_)))
 have x1:=drewx ew1
 clear ew1
 replace hx:=hx.trans x1
 refine dm ?_
 refine dz rfl (df 2 rfl (dL rfl (λ_ hR=>((hl.ext (hx.trans hR)).at rfl)) (dm ?_)))
 refine dz rfl (df 3 rfl (dL rfl (λ_ hR=>((hl.ext (hx.trans hR)).at rfl)) (cP (X0l _) RX.ext λw2 x2=>?_)))
 replace hx:=hx.trans x2
 refine da (da (de Z4 (Xad ?_)))
 refine rt ?_
 exact⟨rfl,hx⟩
theorem last_w (bl bd:Nat)(w:World)(hl:Blk w bl [ptr bd 0,S [115],I 0,.slice none 0 0,.slice none 0 0,B false] 147) :
  Calls Tryz.prog 55 [ptr bl 0].toArray w (Pure w (I 0)):=by
 refine cw Tryz.func55 ?_
 have hx:=Ext.refl w
 refine ws λ_ Z1=>wr (da (de Z1 (ws λ_ Z2=>ws λ_ Z3=>wr (dm ?_))))
 refine dp (Xa4 kr9 rfl rfl) (de Z3 (wi (λc1=>?_) λc1=>?_))
 ·exact absurd c1 sp9
 refine Xaa (Z2 _ _ (ws λ_ Z4=>Xaq (R:=Ext) Ext.refl (λ_ _ _=>Ext.trans) kr9 [3,7] [(0,.p,false),(1,.p,false),(2,.p,false),(3,.l,false),(4,.p,false),(5,.p,false),(6,.p,false),(7,.l,false),(8,.p,false),(9,.p,false),(10,.p,false)] rfl kr9 kr9 (λw1 ew1=>?_)))
 have x1:=drewx ew1
 clear ew1
 replace hx:=hx.trans x1
 refine dm ?_
 refine dz rfl (df 2 rfl (dL rfl (λ_ hR=>((hl.ext (hx.trans hR)).at rfl)) (dm ?_)))
 refine dz rfl (df 4 rfl (dL rfl (λ_ hR=>((hl.ext (hx.trans hR)).at rfl)) (dv 82 1 (Arr.nil (enc:=sEnc) (sz:=3) (w:=w)).sl (dp (Xa7 rfl rfl (by simp [Xai])) (da (de Z4 (Xad ?_)))))))
 refine ro ?_
 exact⟨rfl,hx⟩
theorem diskNew_w (room:Int)(w:World)(h0:0≤room)(h1:room≤1073741824) :
  Calls Tryz.prog 33 [I room].toArray w (Gives w (λu w'=>∃bd mf,u=.tuple #[ptr bd 0,I 0]∧Blk w' bd [I room,.map (some mf),B false,I 0] 122∧EmpM w' mf∧w.heap.size≤bd∧w.heap.size≤mf)):=by
 refine cw Tryz.func33 ?_
 have hx:=Ext.refl w
 refine ws λ_ Z1=>wr (da (da (de Z1 (ws λ_ Z2=>ws λ_ Z3=>wr (dm ?_)))))
 refine dp (Xaf rfl rfl) (dm ?_)
 refine Xag 6 rfl (λc1=>?_) (λc1=>?_)
 ·omega
 refine dm ?_
 refine dp (Xaw rfl rfl) (dk' (de Z3 ?_))
 refine wi (λc2=>?_) λc2=>?_
 ·omega
 refine Xaa (Z2 _ _ (ws λ_ Z4=>wr (dm ?_)))
 refine Xkb rfl RX.all (λb1 w1 e1 x1 mp1=>?_)
 have g1:=hx.ge e1
 replace hx:=hx.trans x1
 refine db (zs:=[.int .i64 0,.map none,B false,.int .i64 0]) (pl:=[(0,1),(1,1),(2,1),(3,1)]) (pv:=[(0,_),(1,_)]) (cs:=[_,_,B false,.int .i64 0]) ?_
 refine Xbf rfl rfl rfl RX.all (λb2 w2 e2 x2 m2=>?_)
 have g2:=hx.ge e2
 have n2_mp1:=mp1.lt
 replace mp1:=mp1.ext x2
 replace hx:=hx.trans x2
 refine da (da (de Z4 (Xad ?_)))
 refine rt ?_
 exact⟨_,rfl,hx,b2,b1,rfl,m2,mp1,g2,g1⟩
theorem Xn5 (bd mf:Nat)(room:Int)(w:World)(hd:Blk w bd [I room,.map (some mf),B false,I 0] 122)(hm:EmpM w mf) :
  Calls Tryz.prog 59 [ptr bd 0,S [115]].toArray w (Gives w (λu w'=>∃bl,u=.tuple #[ptr bl 0,I 0]∧Blk w' bl [ptr bd 0,S [115],I 0,.slice none 0 0,.slice none 0 0,B false] 147∧w.heap.size≤bl)):=by
 refine cw Tryz.func59 ?_
 have hx:=Ext.refl w
 refine ws λ_ Z1=>wr (da (da (de Z1 (ws λ_ Z2=>ws λ_ Z3=>wr (dm ?_)))))
 refine dp (Xa4 kr9 rfl rfl) (dm ?_)
 refine Xag 12 rfl (λc1=>?_) (λc1=>?_)
 ·exact absurd c1 sp9
 refine dm ?_
 refine dt rfl (dp (Xaf rfl rfl) (dk' ?_))
 refine dm ?_
 refine Xag 17 rfl (λc2=>?_) (λc2=>?_)
 ·exact absurd c2 dc9
 refine dm ?_
 refine dt rfl (dp (Xaw rfl rfl) (dk' (de Z3 ?_)))
 refine wi (λc3=>?_) λc3=>?_
 ·exact absurd c3 dc9
 refine Xaa (Z2 _ _ (ws λ_ Z4=>wr (dm (dm ?_))))
 refine db (zs:=[.pointer none,S [],.int .i64 0,.slice none 0 0,.slice none 0 0,B false]) (pl:=[(0,1),(1,1),(2,1),(3,1),(4,1),(5,1)]) (pv:=[(0,_),(1,_)]) (cs:=[_,_,.int .i64 0,.slice none 0 0,.slice none 0 0,B false]) ?_
 refine Xbf rfl rfl rfl RX.all (λb1 w1 e1 x1 m1=>?_)
 have g1:=hx.ge e1
 replace hx:=hx.trans x1
 refine da (de Z4 (ws λ_ Z5=>ws λ_ Z6=>wr (dm ?_)))
 refine dp (Xe2 rfl) (dm ?_)
 refine dp (Xe2 rfl) (dm ?_)
 refine dp (Xe2 rfl) (li (e:=81) (sz:=1) (zs:=[.nilFunc]) (pv:=[(0,_),(1,_),(2,_)]) (cs:=[_,_,_]) RX.all (λb2 w2 e2 x2 m2=>?_))
 have g2:=hx.ge e2
 have n2_1:=m1.ltb e2
 replace m1:=m1.ext x2
 replace hx:=hx.trans x2
 refine dv 81 1 (m2.arr (enc:=λg:Value=>[g]) (sz:=1) (l:=[fnB 115 [ptr b1 0],fnB 116 [ptr b1 0],fnB 117 [ptr b1 0]]) rfl ir9 rfl sp9).sl (dm (de Z6 (Xab ?_)))
 refine Xaj (G:=Nat) (λk=>[(6,ptr b1 0),(32,.slice (some ⟨b2,0,none⟩) 3 3),(33,I 3),(34,I ↑k)]) (λk w'=>Ext w w'∧Blk w' b1 [ptr bd 0,S [115],I 0,.slice none 0 0,.slice none 0 0,B false] 147∧Blk w' b2 [fnB 115 [ptr b1 0],fnB 116 [ptr b1 0],fnB 117 [ptr b1 0]] 81∧k≤3) (λk=>3-k) 0 ?_ ?_ ?_
 ·exact zz4
 ·exact⟨hx,m1,m2,Nat.zero_le _⟩
 intro X3 g3 w3 hF3
 revert hF3;revert g3;intro k hF3
 clear hx m1 m2
 obtain⟨hx,m1,m2,hk1⟩:=hF3
 refine ws λ_ Z7=>wr (dp (Xaf rfl rfl) (de Z7 (ws λ_ Z8=>wi (λc4=>?_) λc4=>?_)))
 ·obtain⟨g,hk⟩:∃g,[fnB 115 [ptr b1 0],fnB 116 [ptr b1 0],fnB 117 [ptr b1 0]][k]?=some g:=⟨_,List.getElem?_eq_getElem (by simp;omega)⟩
  obtain⟨f,rfl,hcb,hcall⟩:∃f,g=fnB f [ptr b1 0]∧Xbw Tryz.prog f=true∧∀w1,Blk w1 b1 [ptr bd 0,S [115],I 0,.slice none 0 0,.slice none 0 0,B false] 147->Blk w1 bd [I room,.map (some mf),B false,I 0] 122->EmpM w1 mf->Calls Tryz.prog f ([ptr b1 0]++[]).toArray w1 (Pure w1 (I 0)):=by
   match k,hk with
   | 0,hk=>simp only [List.getElem?_cons_zero,List.getElem?_cons_succ,Option.some.injEq]at hk;exact⟨_,hk.symm,by kernel_rfl,λw1 h1 h2 h3=>X0k b1 bd mf room w1 h1 h2 h3⟩
   | 1,hk=>simp only [List.getElem?_cons_zero,List.getElem?_cons_succ,Option.some.injEq]at hk;exact⟨_,hk.symm,by kernel_rfl,λw1 h1 h2 h3=>X57 b1 bd mf room w1 h1 h2 h3⟩
   | 2,hk=>simp only [List.getElem?_cons_zero,List.getElem?_cons_succ,Option.some.injEq]at hk;exact⟨_,hk.symm,by kernel_rfl,λw1 h1 h2 h3=>Yac b1 bd mf room w1 h1 h2 h3⟩
   | k+3,hk=>simp at hk
  refine Xaa (Z8 _ _ (ws λ_ Z9=>Xab (ws λ_ Z10=>wr (di 81 1 (m2.arr (enc:=λg:Value=>[g]) (sz:=1) (l:=[fnB 115 [ptr b1 0],fnB 116 [ptr b1 0],fnB 117 [ptr b1 0]]) rfl ir9 rfl sp9).sl rfl ((m2.arr (enc:=λg:Value=>[g]) (sz:=1) (l:=[fnB 115 [ptr b1 0],fnB 116 [ptr b1 0],fnB 117 [ptr b1 0]]) rfl ir9 rfl sp9).lt hk) (dl rfl (((m2.arr (enc:=λg:Value=>[g]) (sz:=1) (l:=[fnB 115 [ptr b1 0],fnB 116 [ptr b1 0],fnB 117 [ptr b1 0]]) rfl ir9 rfl sp9).row hk).at0 rfl) (da (de Z10 ?_)))))))
  refine ws λ_ Z11=>wr (dm ?_)
  refine Xyn (vs:=[]) rfl rfl hcb (hcall _ m1 (hd.ext hx) (hm.ext hx)) rfl RX.all (λw4 x4=>?_)
  replace m1:=m1.ext x4
  replace m2:=m2.ext x4
  replace hx:=hx.trans x4
  refine da (de Z11 (ws λ_ Z12=>wr (dm ?_)))
  refine dp (Xas rfl rfl) (de Z12 (wi (λc5=>?_) λc5=>?_))
  ·exact absurd rfl c5
  refine Xaa (Z9 _ _ (wr (pa rfl rfl (dm (Xae (?_))))))
  refine⟨k+1,zz4,⟨hx,m1,m2,by omega⟩,by omega⟩
 refine Xah (Z5 _ _ (ws λ_ Z13=>wr (dm (da (da (de Z13 (Xad ?_)))))))
 refine rt ?_
 exact⟨_,rfl,hx,b1,rfl,m1,g1⟩
structure MemE (w:World)(bm ba bn:Nat):Prop where
 m:Blk w bm [.slice (some ⟨ba,0,none⟩) 1 1,.slice none 0 0,I 0,I 0] 155
 a:Blk w ba [S [],S [],B false,I 0,.slice (some ⟨bn,0,none⟩) 12 12] 172
 n:Blk w bn (List.replicate 12 (I 0)) 3
theorem MemE.ext {w w':World}{bm ba bn:Nat}(h:MemE w bm ba bn)(x:Ext w w'):MemE w' bm ba bn:=⟨h.m.ext x,h.a.ext x,h.n.ext x⟩
structure StE (w:World)(bs bd bl mo bm ba bn mf:Nat)(room:Int):Prop where
 s:Blk w bs [ptr bd 0,ptr bl 0,I 1,.slice none 0 0,.map (some mo),ptr bm 0,B false] 90
 l:Blk w bl [ptr bd 0,S [115],I 0,.slice none 0 0,.slice none 0 0,B false] 147
 d:Blk w bd [I room,.map (some mf),B false,I 0] 122
 f:EmpM w mf
 o:EmpM w mo
 m:MemE w bm ba bn
theorem Xjr (w:World) :
  Calls Tryz.prog 102 [.slice none 0 0].toArray w (Pure w (.slice none 0 0)):=by
 refine cw Tryz.func102 ?_
 have hx:=Ext.refl w
 refine ws λ_ Z1=>wr (da (de Z1 (ws λ_ Z2=>ws λ_ Z3=>wr (dm ?_))))
 refine dp (Xk3 (e:=174) (k:=1) kr9 (Arr.nil (enc:=encB) (sz:=1) (w:=w)).sl rfl rfl) (de Z3 (wc (λc1=>?_) λc1=>?_))
 ·refine ws λ_ Z4=>wr (da (de Z4 (Xad ?_)))
  refine ro ?_
  exact⟨rfl,hx⟩
 exact absurd c1 dc9
theorem X0m (w:World) :
  Calls Tryz.prog 47 [.slice none 0 0].toArray w (Gives w (λu w'=>∃bm ba bn,u=ptr bm 0∧MemE w' bm ba bn∧w.heap.size≤bm∧w.heap.size≤ba∧w.heap.size≤bn)):=by
 refine cw Tryz.func47 ?_
 have hx:=Ext.refl w
 refine ws λ_ Z1=>wr (da (de Z1 (ws λ_ Z2=>?_)))
 refine Xfy (R:=Ext) Ext.refl (λ_ _ _=>Ext.trans) kr9 [] (.one 3 .p false (.fork (.alt 0 true (.one 1 .p false (.fork (.alt 2 true (.one 4 .x true (.one 5 .p false (.one 6 .x true (.one 7 .p false .nil)))) (.alt 4 true (.one 2 .x true (.one 5 .p false (.one 6 .x true (.one 7 .p false .nil)))) .stop)))) (.alt 4 true (.one 0 .x true (.one 1 .p false (.one 2 .x true (.one 5 .p false (.one 6 .x true (.one 7 .p false .nil)))))) .stop)))) kr9 kr9 (λw1 ew1=>?_)
 have x1:=drewx ew1
 clear ew1
 replace hx:=hx.trans x1
 refine Xap (dm (Xae ?_))
 refine Xfq ?_
 refine Xd1 ?_ ?_
 ·refine Xhu (e:=3) (sz:=1) (by':=8) (zs:=[.int .i64 0]) rfl kr9 kr9 kr9 rfl rfl dc9 dc9 RX.all (λb1 w2 e1 x2 m1=>?_)
  have g1:=hx.ge e1
  replace hx:=hx.trans x2
  refine Xae (Xap (db (zs:=[S [],S [],B false,.int .i64 0,.slice none 0 0]) (pl:=[(0,4),(4,1)]) (pv:=[(1,_)]) (cs:=[S [],S [],B false,.int .i64 0,_]) (Xae ?_)))
  refine Xfq ?_
  refine Xd1 ?_ ?_
  ·refine li (e:=172) (sz:=5) (zs:=[S [],S [],B false,.int .i64 0,.slice none 0 0]) (pv:=[(0,.agg ⟨[_,_,_,_,_]⟩)]) (cs:=[_,_,_,_,_]) RX.all (λb2 w3 e2 x3 m2=>?_)
   have g2:=hx.ge e2
   have n2_1:=m1.ltb e2
   replace m1:=m1.ext x3
   replace hx:=hx.trans x3
   refine Xae (Xap (cP (Xjr _) RX.all λw4 x4=>?_))
   replace m1:=m1.ext x4
   replace m2:=m2.ext x4
   replace hx:=hx.trans x4
   refine Xae (Xap (db (zs:=[.slice none 0 0,.slice none 0 0,.int .i64 0,.int .i64 0]) (pl:=[(0,1),(1,1),(2,1),(3,1)]) (pv:=[(0,_),(1,_)]) (cs:=[_,_,.int .i64 0,.int .i64 0]) (Xae ?_)))
   refine Xap (Xbf rfl rfl rfl RX.all (λb3 w5 e3 x5 m3=>?_))
   have g3:=hx.ge e3
   have n3_1:=m1.ltb e3
   have n3_2:=m2.ltb e3
   replace m1:=m1.ext x5
   replace m2:=m2.ext x5
   replace hx:=hx.trans x5
   refine Xae (Xap (da (Xae ?_)))
   refine Xew (Z2 _ _ (Xad (ro ?_)))
   exact⟨_,rfl,hx,b3,b2,b1,rfl,⟨m3,m2,m1⟩,g3,g2,g1⟩
  refine Xd1 ?_ ?_
  ·refine cP (Xjr _) RX.all λw6 x6=>?_
   replace m1:=m1.ext x6
   replace hx:=hx.trans x6
   refine Xae (Xap (li (e:=172) (sz:=5) (zs:=[S [],S [],B false,.int .i64 0,.slice none 0 0]) (pv:=[(0,.agg ⟨[_,_,_,_,_]⟩)]) (cs:=[_,_,_,_,_]) RX.all (λb4 w7 e4 x7 m4=>?_)))
   have g4:=hx.ge e4
   have n4_1:=m1.ltb e4
   replace m1:=m1.ext x7
   replace hx:=hx.trans x7
   refine Xae (Xap (db (zs:=[.slice none 0 0,.slice none 0 0,.int .i64 0,.int .i64 0]) (pl:=[(0,1),(1,1),(2,1),(3,1)]) (pv:=[(0,_),(1,_)]) (cs:=[_,_,.int .i64 0,.int .i64 0]) (Xae ?_)))
   refine Xap (Xbf rfl rfl rfl RX.all (λb5 w8 e5 x8 m5=>?_))
   have g5:=hx.ge e5
   have n5_1:=m1.ltb e5
   have n5_4:=m4.ltb e5
   replace m1:=m1.ext x8
   replace m4:=m4.ext x8
   replace hx:=hx.trans x8
   refine Xae (Xap (da (Xae ?_)))
   refine Xew (Z2 _ _ (Xad (ro ?_)))
   exact⟨_,rfl,hx,b5,b4,b1,rfl,⟨m5,m4,m1⟩,g5,g4,g1⟩
  exact Xfr
 refine Xd1 ?_ ?_
 ·refine cP (Xjr _) RX.all λw9 x9=>?_
  replace hx:=hx.trans x9
  refine Xae (Xap (Xhu (e:=3) (sz:=1) (by':=8) (zs:=[.int .i64 0]) rfl kr9 kr9 kr9 rfl rfl dc9 dc9 RX.all (λb6 w10 e6 x10 m6=>?_)))
  have g6:=hx.ge e6
  replace hx:=hx.trans x10
  refine Xae (Xap (db (zs:=[S [],S [],B false,.int .i64 0,.slice none 0 0]) (pl:=[(0,4),(4,1)]) (pv:=[(1,_)]) (cs:=[S [],S [],B false,.int .i64 0,_]) (Xae ?_)))
  refine Xap (li (e:=172) (sz:=5) (zs:=[S [],S [],B false,.int .i64 0,.slice none 0 0]) (pv:=[(0,.agg ⟨[_,_,_,_,_]⟩)]) (cs:=[_,_,_,_,_]) RX.all (λb7 w11 e7 x11 m7=>?_))
  have g7:=hx.ge e7
  have n7_6:=m6.ltb e7
  replace m6:=m6.ext x11
  replace hx:=hx.trans x11
  refine Xae (Xap (db (zs:=[.slice none 0 0,.slice none 0 0,.int .i64 0,.int .i64 0]) (pl:=[(0,1),(1,1),(2,1),(3,1)]) (pv:=[(0,_),(1,_)]) (cs:=[_,_,.int .i64 0,.int .i64 0]) (Xae ?_)))
  refine Xap (Xbf rfl rfl rfl RX.all (λb8 w12 e8 x12 m8=>?_))
  have g8:=hx.ge e8
  have n8_6:=m6.ltb e8
  have n8_7:=m7.ltb e8
  replace m6:=m6.ext x12
  replace m7:=m7.ext x12
  replace hx:=hx.trans x12
  refine Xae (Xap (da (Xae ?_)))
  refine Xew (Z2 _ _ (Xad (ro ?_)))
  exact⟨_,rfl,hx,b8,b7,b6,rfl,⟨m8,m7,m6⟩,g8,g7,g6⟩
 exact Xfr
theorem Xxj (bs bd bl mo bm:Nat)(w:World)(hb:Blk w bs [ptr bd 0,ptr bl 0,I 1,.slice none 0 0,.map (some mo),ptr bm 0,B false] 90)(hl:Blk w bl [ptr bd 0,S [115],I 0,.slice none 0 0,.slice none 0 0,B false] 147) :
  Calls Tryz.prog 63 [ptr bs 0].toArray w (Pure w (I 0)):=by
 refine cw Tryz.func63 ?_
 have hx:=Ext.refl w
 refine ws λ_ Z1=>wr (da (de Z1 (ws λ_ Z2=>wr (dm ?_))))
 refine dz rfl (df 1 rfl (dl rfl ((hb.ext hx).at rfl) (cP (X2x bl bd _ (hl.ext hx)) RX.all λw1 x1=>?_)))
 replace hx:=hx.trans x1
 refine dm ?_
 refine dx rfl rfl (dx rfl rfl (da (da (de Z2 (ws λ_ Z3=>ws λ_ Z4=>wr (dm ?_))))))
 refine pa rfl rfl (da (de Z4 (Xab ?_)))
 refine Xaj (G:=Unit) (λuu=>[(0,ptr bs 0),(5,I 1)]) (λuu w'=>Ext w w'∧True) (λuu=>0) () ?_ ?_ ?_
 ·exact zz2
 ·exact⟨hx,trivial⟩
 intro X2 g2 w2 hF2
 revert hF2;revert g2;intro uu hF2
 clear hx
 obtain⟨hx,htr⟩:=hF2
 refine ws λ_ Z5=>ws λ_ Z6=>wr (dm (dm ?_))
 refine dz rfl (df 1 rfl (dl rfl ((hb.ext hx).at rfl) (cP (last_w bl bd _ (hl.ext hx)) RX.all λw3 x3=>?_)))
 replace hx:=hx.trans x3
 refine dp (Xci rfl rfl) (de Z6 (wi (λc1=>?_) λc1=>?_))
 ·exact absurd c1 dc9
 refine Xah (Z3 _ _ (ws λ_ Z7=>wr (da (de Z7 (Xad ?_)))))
 refine ro ?_
 exact⟨rfl,hx⟩
theorem X58 (bd mf:Nat)(room:Int)(s:Str)(w:World)(hd:Blk w bd [I room,.map (some mf),B false,I 0] 122)(hm:EmpM w mf) :
  Calls Tryz.prog 64 [ptr bd 0,S s,.slice none 0 0].toArray w (Pure w (I 0)):=by
 refine cw Tryz.func64 ?_
 have hx:=Ext.refl w
 refine ws λ_ Z1=>wr (da (de Z1 (ws λ_ Z2=>ws λ_ Z3=>wr (dm ?_))))
 refine dp (Xa4 kr9 rfl rfl) (de Z3 (wi (λc1=>?_) λc1=>?_))
 ·exact absurd c1 sp9
 refine Xaa (Z2 _ _ (ws λ_ Z4=>ws λ_ Z5=>wr (dm ?_)))
 refine cP (list_w bd mf room _ (hd.ext hx) (hm.ext hx)) RX.all λw1 x1=>?_
 replace hx:=hx.trans x1
 refine dv 9 1 (Arr.nil (enc:=sEnc) (sz:=1) (w:=w)).sl (dm (de Z5 (Xab ?_)))
 refine Xaj (G:=Unit) (λuu=>[(0,ptr bd 0),(1,S s),(2,.slice none 0 0),(13,.slice none 0 0),(14,I 0),(15,I 0)]) (λuu w'=>Ext w w'∧True) (λuu=>0) () ?_ ?_ ?_
 ·exact zz6
 ·exact⟨hx,trivial⟩
 intro X2 g2 w2 hF2
 revert hF2;revert g2;intro uu hF2
 clear hx
 obtain⟨hx,htr⟩:=hF2
 refine ws λ_ Z6=>wr (dp (Xaf rfl rfl) (de Z6 (ws λ_ Z7=>wi (λc2=>?_) λc2=>?_)))
 ·exact absurd c2 dc9
 refine Xah (Z4 _ _ (ws λ_ Z8=>wr (da (de Z8 (Xad ?_)))))
 refine ro ?_
 exact⟨rfl,hx⟩
theorem lsmOpen_w (bd mf:Nat)(room:Int)(w:World)(hd:Blk w bd [I room,.map (some mf),B false,I 0] 122)(hm:EmpM w mf) :
  Calls Tryz.prog 24 [ptr bd 0].toArray w (Gives w (λu w'=>∃bs bl mo bm ba bn,u=.tuple #[ptr bs 0,I 0]∧StE w' bs bd bl mo bm ba bn mf room∧w.heap.size≤bs∧w.heap.size≤bl∧w.heap.size≤mo∧w.heap.size≤bm∧w.heap.size≤ba∧w.heap.size≤bn)):=by
 refine cw Tryz.func24 ?_
 have hx:=Ext.refl w
 refine ws λ_ Z1=>wr (da (da (de Z1 (ws λ_ Z2=>ws λ_ Z3=>wr (dm ?_)))))
 refine dp (Xa4 kr9 rfl rfl) (de Z3 (wi (λc1=>?_) λc1=>?_))
 ·exact absurd c1 sp9
 refine Xaa (Z2 _ _ (ws λ_ Z4=>wr (dm ?_)))
 have hsl9:=hx.size
 refine cG (Xn5 bd mf room _ (hd.ext hx) (hm.ext hx)) RX.all λu1 w1 x1 hf1=>?_
 have hsz1:=hx.size
 replace hx:=hx.trans x1
 obtain⟨bl,rfl,hl,hlb⟩:=hf1
 refine dm ?_
 refine dx rfl rfl (dx rfl rfl (da (da (de Z4 (ws λ_ Z5=>ws λ_ Z6=>wr (dm ?_))))))
 refine dp (Xas rfl rfl) (de Z6 (wi (λc2=>?_) λc2=>?_))
 ·exact absurd rfl c2
 refine Xaa (Z5 _ _ (ws λ_ Z7=>wr (dm (dm ?_))))
 refine db (zs:=[.int .i64 0,.slice none 0 0]) (pl:=[(0,1),(1,1)]) (pv:=[(0,_)]) (cs:=[_,.slice none 0 0]) ?_
 refine Xkb rfl RX.all (λb1 w2 e1 x2 mp1=>?_)
 have g1:=hx.ge e1
 have a1_hl:=hl.lt
 replace hl:=hl.ext x2
 replace hx:=hx.trans x2
 have hsm9:=hx.size
 refine cG (X0m _) RX.all λu3 w3 x3 hf3=>?_
 have hsz3:=hx.size
 replace hl:=hl.ext x3
 replace mp1:=mp1.ext x3
 replace hx:=hx.trans x3
 obtain⟨bm,ba,bn,rfl,hM,hb1,hb2,hb3⟩:=hf3
 refine db (zs:=[.pointer none,.pointer none,.int .i64 0,.slice none 0 0,.map none,.pointer none,B false]) (pl:=[(0,1),(1,1),(2,2),(4,1),(5,1),(6,1)]) (pv:=[(0,_),(1,_),(2,.agg ⟨[_,_]⟩),(3,_),(4,_)]) (cs:=[_,_,_,_,_,_,B false]) ?_
 refine Xbf rfl rfl rfl RX.all (λb2 w4 e2 x4 m2=>?_)
 have g2:=hx.ge e2
 have n2_mp1:=mp1.lt
 have a2_hl:=hl.lt
 replace hl:=hl.ext x4
 replace mp1:=mp1.ext x4
 replace hM:=hM.ext x4
 replace hx:=hx.trans x4
 refine da (de Z7 (ws λ_ Z8=>ws λ_ Z9=>wr (dm ?_)))
 refine cP (X2x bl bd _ hl) RX.all λw5 x5=>?_
 replace hl:=hl.ext x5
 replace mp1:=mp1.ext x5
 replace hM:=hM.ext x5
 replace m2:=m2.ext x5
 replace hx:=hx.trans x5
 refine dm ?_
 refine dx rfl rfl (dx rfl rfl (da (da (de Z9 (ws λ_ Z10=>wr (dm ?_))))))
 refine dp (Xaw rfl rfl) (dm ?_)
 refine Xag 39 rfl (λc3=>?_) (λc3=>?_)
 ·exact absurd c3 dc9
 refine dm ?_
 refine dv 5 1 (Arr.nil (enc:=encB) (sz:=1) (w:=w)).sl (dp (Xaw rfl rfl) (dk' (de Z10 ?_)))
 refine wi (λc4=>?_) λc4=>?_
 ·exact absurd c4 dc9
 refine Xaa (Z8 _ _ (ws λ_ Z11=>wr (da (de Z11 (ws λ_ Z12=>ws λ_ Z13=>wr (dm ?_))))))
 refine dz rfl (df 2 rfl (df 1 rfl (dl rfl (m2.at rfl) (dv 62 5 (Arr.nil (enc:=λv:Value=>[v]) (sz:=5) (w:=w)).sl (dm (de Z13 (Xab ?_)))))))
 refine Xaj (G:=Unit) (λuu=>[(0,ptr bd 0),(6,ptr b2 0),(9,.slice none 0 0),(59,.slice none 0 0),(60,I 0),(61,I 0)]) (λuu w'=>Ext w w'∧Blk w' bl [ptr bd 0,S [115],I 0,.slice none 0 0,.slice none 0 0,B false] 147∧EmpM w' b1∧MemE w' bm ba bn∧Blk w' b2 [ptr bd 0,ptr bl 0,I 1,.slice none 0 0,.map (some b1),ptr bm 0,B false] 90∧True) (λuu=>0) () ?_ ?_ ?_
 ·exact zz6
 ·exact⟨hx,hl,mp1,hM,m2,trivial⟩
 intro X6 g6 w6 hF6
 revert hF6;revert g6;intro uu hF6
 clear hx hl mp1 hM m2
 obtain⟨hx,hl,mp1,hM,m2,htr⟩:=hF6
 refine ws λ_ Z14=>wr (dp (Xaf rfl rfl) (de Z14 (ws λ_ Z15=>wi (λc5=>?_) λc5=>?_)))
 ·exact absurd c5 dc9
 refine Xah (Z12 _ _ (ws λ_ Z16=>ws λ_ Z17=>wr (dm ?_)))
 refine cP (Xxj b2 bd bl b1 bm _ m2 hl) RX.all λw7 x7=>?_
 replace hl:=hl.ext x7
 replace mp1:=mp1.ext x7
 replace hM:=hM.ext x7
 replace m2:=m2.ext x7
 replace hx:=hx.trans x7
 refine da (de Z17 (ws λ_ Z18=>wr (dm ?_)))
 refine dp (Xas rfl rfl) (de Z18 (wi (λc6=>?_) λc6=>?_))
 ·exact absurd rfl c6
 refine Xaa (Z16 _ _ (ws λ_ Z19=>ws λ_ Z20=>wr (dm (dm ?_))))
 refine cP (X58 bd mf room [116] _ (hd.ext hx) (hm.ext hx)) RX.all λw8 x8=>?_
 replace hl:=hl.ext x8
 replace mp1:=mp1.ext x8
 replace hM:=hM.ext x8
 replace m2:=m2.ext x8
 replace hx:=hx.trans x8
 refine da (de Z20 (ws λ_ Z21=>wr (dm ?_)))
 refine dp (Xas rfl rfl) (de Z21 (wi (λc7=>?_) λc7=>?_))
 ·exact absurd rfl c7
 refine Xaa (Z19 _ _ (ws λ_ Z22=>wr (dm (da (da (de Z22 (Xad ?_)))))))
 refine rt ?_
 exact⟨_,rfl,hx,b2,bl,b1,bm,ba,bn,rfl,⟨m2,hl,hd.ext hx,hm.ext hx,mp1,hM⟩,g2,Nat.le_trans hsl9 hlb,g1,Nat.le_trans hsm9 hb1,Nat.le_trans hsm9 hb2,Nat.le_trans hsm9 hb3⟩
end Go.Proofs.YtiooodckiddpmaaGreatDoor.Em
namespace Go.Proofs.YtiooodckiddpmaaGreatDoor
open Go.Vc Go.Sp
attribute [local irreducible] W XW Dw DwT
theorem Xrt {P:Program}{κ α:Type}[DecidableEq κ]{k:TypeId}{kv:κ->Value}{av:α->Value}{w:World}{b:Nat}(h:EmpM w b):MapL P k kv av w b ([]:List (κ×α)):=
 ⟨by simp,.map [],⟨#[],0,h,⟨by simp,MapKept.stamped_empty 0,by simp⟩,Nat.le_refl _,rfl⟩,rfl,λx l hl z=>rfl⟩
theorem X86 {w:World}{bm ba bn:Nat}(h:Em.MemE w bm ba bn):MRep (λk=>k=bm∨k=ba∨k=bn) w bm []:=by
 have m3:Blk w bn (mapJ (List.replicate 12 0)) 3:=by
  have:=h.n
  rwa [show List.replicate 12 (I 0)=mapJ (List.replicate 12 0) from rfl]at this
 have hM:MemAt w bm (.slice (some ⟨ba,0,none⟩) 1 1) (.slice none 0 0) [⟨Cell.zero,bn,12⟩] (λ_=>List.replicate 12 0) [] 0 0:=by
  refine⟨h.m,h.a.own (enc:=Tow.enc) (l:=[⟨Cell.zero,bn,12⟩]) (Nat.zero_le _) rfl ir9 rfl sp9,Vc.Own.nil,λi t ht=>?_,λi j s t hs ht _=>?_⟩
  ·cases i with
   | zero=>simp at ht;subst ht;exact⟨m3,by simp⟩
   | succ i=>simp at ht
  ·cases i with
   | zero=>cases j with
    | zero=>rfl
    | succ j=>simp at ht
   | succ i=>simp at hs
 refine⟨_,_,_,_,_,[],hM,⟨rfl,λi hi=>(by cases hi),List.nodup_nil,rfl,rfl,λi hi=>?_,⟨λrow hr=>?_,trivial⟩⟩,List.Pairwise.nil,λk hk=>?_,λk hk=>?_⟩
 ·have:i=0:=by simp at hi;exact hi
  subst this;exact⟨(show 1≤12 by decide),(show 12≤12 by decide)⟩
 ·have hr':row<12:=hr
  rw[List.getElem?_replicate_of_lt hr'];rfl
 ·rcases hk with rfl|hk|hk|⟨t,ht,rfl⟩
  ·exact .inl rfl
  ·have:ba=k:=Option.some.inj hk
   exact .inr (.inl this.symm)
  ·cases hk
  ·rw[List.mem_singleton.1 ht];exact .inr (.inr rfl)
 ·rcases hk with rfl|rfl|rfl
  ·exact h.m.lt
  ·exact h.a.lt
  ·exact h.n.lt
def dsk0 (room:Int):Dsk:=⟨room,false,0,[]⟩
def led0 : Led:=⟨0,[],[],false⟩
def kap0 (bs bd bl mo bm ba bn mf:Nat):Nat->Nat:=λk=>if k=bs then 5 else if k=mo then 2 else if k=bm∨k=ba∨k=bn then 3 else if k=bl∨k=bd∨k=mf then 1 else 0
theorem Xd9 {w:World}{b b':Nat}{cs:List Value}{T:TypeId}(h:EmpM w b)(hb:Blk w b' cs T):b'≠b:=λe=>by
 subst e
 have h1:w.heap[b']?=some (.cells ⟨cs⟩ T (0,0)):=hb
 rw[h]at h1;cases h1
theorem X87 {w:World}{bs bd bl mo bm ba bn mf:Nat}{room:Int}(h:Em.StE w bs bd bl mo bm ba bn mf room)(hne:mo≠mf)(hw:(dsk0 room).Wf):StE (kap0 bs bd bl mo bm ba bn mf) bs bd bl mo bm (.slice none 0 0) led0 (dsk0 room) ⟨1,[]⟩ [] [] false w:=by
 have n1:=h.s.ne h.l rfl
 have n2:=h.s.ne h.d rfl
 have n3:=h.s.ne h.m.m rfl
 have n4:=h.s.ne h.m.a rfl
 have n5:=h.s.ne h.m.n rfl
 have n6:=Xd9 h.o h.s
 have n7:=Xd9 h.f h.s
 have p1:=Xd9 h.o h.l
 have p2:=Xd9 h.o h.d
 have p3:=Xd9 h.o h.m.m
 have p4:=Xd9 h.o h.m.a
 have p5:=Xd9 h.o h.m.n
 have q1:=h.m.m.ne h.l rfl
 have q2:=h.m.m.ne h.d rfl
 have q3:=Xd9 h.f h.m.m
 have q4:=h.m.a.ne h.l rfl
 have q5:=h.m.a.ne h.d rfl
 have q6:=Xd9 h.f h.m.a
 have q7:=h.m.n.ne h.l rfl
 have q8:=h.m.n.ne h.d rfl
 have q9:=Xd9 h.f h.m.n
 have r1:=Xd9 h.f h.l
 have r2:=h.l.ne h.d rfl
 have kl:kap0 bs bd bl mo bm ba bn mf bl=1:=by unfold kap0;simp [Ne.symm n1,p1,Ne.symm q1,Ne.symm q4,Ne.symm q7]
 have kd:kap0 bs bd bl mo bm ba bn mf bd=1:=by unfold kap0;simp [Ne.symm n2,p2,Ne.symm q2,Ne.symm q5,Ne.symm q8]
 have kf:kap0 bs bd bl mo bm ba bn mf mf=1:=by unfold kap0;simp [Ne.symm n7,Ne.symm hne,Ne.symm q3,Ne.symm q6,Ne.symm q9]
 have hlt:∀k,kap0 bs bd bl mo bm ba bn mf k≠0->k<w.heap.size:=λk hk=>by
  unfold kap0 at hk
  split at hk
  ·rename_i e;rw[e];exact h.s.lt
  ·split at hk
   ·rename_i e;rw[e];exact h.o.lt
   ·split at hk
    ·rename_i e
     rcases e with rfl|rfl|rfl
     ·exact h.m.m.lt
     ·exact h.m.a.lt
     ·exact h.m.n.lt
    ·split at hk
     ·rename_i e
      rcases e with rfl|rfl|rfl
      ·exact h.l.lt
      ·exact h.d.lt
      ·exact h.f.lt
     ·exact absurd rfl hk
 refine⟨h.s,⟨λk=>k=bd∨k=mf,λk=>k=bl,.slice none 0 0,.slice none 0 0,[],⟨mf,[],⟨h.d,Xrt h.f,rfl,λe he=>(by cases he),List.Pairwise.nil,λk hk=>?_,λk hk=>?_,hw⟩⟩,⟨h.l,Vc.Own.nil.arr (enc:=encB) (sz:=1) (T:=0) (B:=0) ir9,Vc.Own.nil,rfl,λq hq=>(by cases hq),λk hk=>?_,λk hk=>?_,λk hk=>?_,Int.le_refl _,by decide,by decide,λp hp=>(by cases hp),by decide⟩,λk hk e=>?_,λk hk=>?_,λk hk=>hlt k (by rw[hk];decide)⟩,Xrt h.o,(X86 h.m).to (λk hk=>?_) (λk hk=>hlt k (by rw[hk];decide)),Vc.Own.nil.arr (enc:=Fi.cs) (sz:=5) (T:=0) (B:=0) ir9,λt ht=>(by cases ht),by unfold kap0;simp,by unfold kap0;simp [Ne.symm n6],λh9=>absurd rfl h9,λt ht=>(by cases ht),hlt⟩
 ·rcases hk with e|e|⟨e,he,_⟩
  ·exact .inl e
  ·exact .inr e
  ·cases he
 ·rcases hk with rfl|rfl
  ·exact h.d.lt
  ·exact h.f.lt
 ·rcases hk with e|e|e|⟨q,hq,_⟩
  ·exact e
  ·cases e
  ·exact absurd rfl e.1
  ·cases hq
 ·rcases hk with e|⟨q,hq,_⟩
  ·exact absurd rfl e.1
  ·cases hq
 ·rw[hk];exact h.l.lt
 ·rcases hk with rfl|rfl
  ·exact r2 e.symm
  ·exact r1 e.symm
 ·rcases hk with(e|e)|e
  ·rw[e];exact kd
  ·rw[e];exact kf
  ·rw[e];exact kl
 ·unfold kap0
  rcases hk with e|e|e
  ·rw[e];simp [Ne.symm n3,p3]
  ·rw[e];simp [Ne.symm n4,p4]
  ·rw[e];simp [Ne.symm n5,p5]
theorem X0n (L:Led)(D:Dsk)(p:Str):((L.append D p).2.1≠0∧(L.append D p).2.2.1.last=L.last∧(L.append D p).2.2.1.ents.length≤L.ents.length)∨
  ((L.append D p).2.1=0∧(L.append D p).1=L.last+1∧(L.append D p).2.2.1.last=L.last+1∧(L.append D p).2.2.1.ents.length=L.ents.length+1∧L.last<1099511627776):=by
 cases hd:L.dead with
 | true=>rw[Xqr hd];exact .inl ⟨(by decide:(9:Int)≠0),rfl,Nat.le_refl _⟩
 | false=>
  by_cases h2:65536<p.length∨1099511627776≤L.last
  ·rw[Xla hd h2];exact .inl ⟨(by decide:(5:Int)≠0),rfl,Nat.le_refl _⟩
  ·by_cases h3:(appR L D p).1≠0
   ·rw[Xu6 hd h2 h3];exact .inl ⟨h3,rfl,Nat.le_refl _⟩
   ·rw[Xh8 hd h2 h3]
    exact .inr ⟨rfl,rfl,by unfold Led.last;simp;omega,by simp,by omega⟩
def cW (c:Cell):Nat:=1+c.key.length+c.val.length
theorem Xxk {g:Cell->Nat}(out:List Cell)(c:Cell):wsum g (insK out c)≤wsum g out+g c:=by
 unfold insK
 split
 ·omega
 ·have h:=List.takeWhile_append_dropWhile (p:=λx:Cell=>sLt x.key c.key) (l:=out)
  have h2:wsum g out=wsum g (out.takeWhile λx=>sLt x.key c.key)+wsum g (out.dropWhile λx=>sLt x.key c.key):=by
   rw[←Xbu,h]
  rw[Xbu]
  have h3:wsum g (c :: out.dropWhile λx=>sLt x.key c.key)=g c+wsum g (out.dropWhile λx=>sLt x.key c.key):=by unfold wsum;rw[List.map_cons,List.sum_cons]
  omega
theorem Xjs (s:Int):∀l:List Rw,wsum cW (Xa8 l s)≤(l.map rowW).sum
 | []=>Nat.zero_le _
 | r :: l=>by
  have h1:=Xjs s l
  have h2:=Xxk (g:=cW) (Xa8 l s) (r.cell s)
  have h3:cW (r.cell s)=rowW r:=rfl
  have h4:Xa8 (r :: l) s=insK (Xa8 l s) (r.cell s):=rfl
  rw[h4,List.map_cons,List.sum_cons];omega
theorem Xlz : ∀l:List Rw,l.length≤(l.map rowW).sum
 | []=>Nat.zero_le _
 | r :: l=>by
  have h1:=Xlz l
  have h2:1≤rowW r:=by unfold rowW;omega
  rw[List.map_cons,List.sum_cons,List.length_cons];omega
structure TI (S i:Nat)(L:Led)(V:Vs)(ts:List Tb)(mem:List Cell)(M:List Rw):Prop where
 sto:Sto L.last V ts mem
 told:Sp.Told (allC mem ts) M
 l0:0≤L.last∧L.last≤i
 en:L.ents.length≤i
 wt:wsum cW (allC mem ts)≤S
 ml:M.length≤S
section
variable {S i:Nat}{L L':Led}{D D':Dsk}{V V':Vs}{ts ts':List Tb}{mem mem':List Cell}{M:List Rw}{dead dead' ok:Bool}{e:Int}
theorem TI.nil : TI 0 0 led0 ⟨1,[]⟩ [] [] []:=by
 refine⟨⟨by decide,λf hf=>(by cases hf),λt ht=>(by cases ht),List.nodup_nil,λt ht=>(by cases ht),λc hc=>(by cases hc),List.Pairwise.nil,λc hc=>(by cases hc),λt ht=>(by cases ht)⟩,⟨List.Pairwise.nil,λr=>⟨λh=>(by cases h),λ⟨c,hc,_⟩=>(by cases hc.1)⟩⟩,by decide,by decide,by decide,by decide⟩
theorem TI.mono {S' i':Nat}(h:TI S i L V ts mem M)(hS:S≤S')(hi:i≤i'):TI S' i' L V ts mem M:=
 ⟨h.sto,h.told,⟨h.l0.1,by have:=h.l0.2;omega⟩,Nat.le_trans h.en hi,Nat.le_trans h.wt hS,Nat.le_trans h.ml hS⟩
theorem TI.len (h:TI S i L V ts mem M):2*(allC mem ts).length≤S:=by
 refine Nat.le_trans ?_ h.wt
 have:∀l:List Cell,(∀c∈l,isC c=true)->2*l.length≤wsum cW l:=by
  intro l hl
  induction l with
  | nil=>exact Nat.zero_le _
  | cons c r ih=>
   have h1:=ih (λx hx=>hl x (List.mem_cons_of_mem _ hx))
   have h2:=hl c List.mem_cons_self
   unfold isC at h2
   simp only [Bool.and_eq_true,decide_eq_true_eq]at h2
   unfold wsum at *
   rw[List.map_cons,List.sum_cons,List.length_cons]
   have h3:cW c=1+c.key.length+c.val.length:=rfl
   omega
 exact this _ (λc hc=>(h.sto.okc c hc).1)
theorem TI.up (h:TI S i L V ts mem M):RUp M:=h.told.1
theorem TI.write {l:List Rw}(h:TI S i L V ts mem M)(hw:WrP L D mem dead l e L' D' mem' dead'):TI (S+(l.map rowW).sum) (i+1) L' V ts mem' (if e=0 then layN M l else M):=by
 have h0:=h.mono (Nat.le_add_right S (l.map rowW).sum) (Nat.le_succ i)
 rcases hw with⟨_,rfl,rfl,_,rfl,_⟩|⟨_,h1,rfl,rfl,_,rfl,_⟩|⟨_,hc,rfl,_,hr⟩
 ·exact h0
 ·rw[if_neg h1];exact h0
 ·rcases X0n L D (batS l)with⟨a1,a2,a3⟩|⟨a1,a2,a3,a4,a5⟩
  ·rcases hr with⟨b1,rfl,rfl,_⟩|⟨b1,_⟩
   ·rw[if_neg b1]
    exact⟨by rw[a2];exact h0.sto,h0.told,by rw[a2];exact h0.l0,Nat.le_trans a3 h0.en,h0.wt,h0.ml⟩
   ·exact absurd b1 a1
  ·rcases hr with⟨b1,_⟩|⟨_,rfl,rfl,_⟩
   ·exact absurd a1 b1
   ·obtain⟨s1,s2⟩:=h.sto.write h.told hc ⟨h.l0.1,a5⟩
    rw[if_pos rfl,a2]
    have hl1:=h.l0
    have hen:=h.en
    have hwt:=h.wt
    have hml:=h.ml
    have hcw:=Xjs (L.last+1) l
    refine⟨by rw[a3];exact s1,s2,by rw[a3];omega,by omega,?_,?_⟩
    ·have hpw:=Xnx (g:=cW) (Xa8 l (L.last+1)) mem
     unfold allC at *
     rw[Xbu]at *;omega
    ·have h5:=Xrs (Xa8 l 1) h.up
     have h6:=Xhj l 1
     have h7:=Xlz l
     have h8:layN M l=layR M (Xa8 l 1):=rfl
     rw[h8];omega
theorem TI.flush (h:TI S i L V ts mem M)(hf:FluP L D V ts mem dead ok e L' D' V' ts' mem' dead'):TI S i L' V' ts' mem' M:=by
 rcases hf with⟨_,_,_,rfl,_,rfl,rfl,rfl,_⟩|⟨_,_,_,_,rfl,_,rfl,rfl,rfl,_⟩|⟨hd,_,m,hm,hc,h2⟩
 ·exact h
 ·exact h
 ·obtain⟨⟨h3,h4⟩,h5⟩:=Xc3 hc
  rcases h5 with⟨h5,rfl,rfl⟩|⟨rfl,_,hs⟩
  ·rcases h2 with⟨_,_,rfl⟩|⟨h6,_⟩
   ·exact⟨by rw[h3];exact h.sto,h.told,by rw[h3];exact h.l0,Nat.le_trans h4 h.en,h.wt,h.ml⟩
   ·exact absurd h6 h5
  ·rcases h2 with⟨h6,_⟩|⟨_,_,rfl⟩
   ·exact absurd rfl h6
   ·obtain⟨k1,k2,k3⟩:=hs.flush h.sto hm h.told
    exact⟨by rw[h3];exact k1,k2,by rw[h3];exact h.l0,Nat.le_trans h4 h.en,Nat.le_trans (Xsr hm k3) h.wt,h.ml⟩
theorem TI.comp {did:Bool}(h:TI S i L V ts mem M)(hf:CmpP L D V ts mem dead did e L' D' V' ts' mem' dead'):TI S i L' V' ts' mem' M:=by
 rcases hf with⟨_,_,_,rfl,_,rfl,rfl,rfl,_⟩|⟨_,_,_,_,rfl,_,rfl,rfl,rfl,_⟩|⟨_,_,ok,e1,L1,D1,V1,ts1,mem1,dead1,hF,hr⟩
 ·exact h
 ·exact h
 ·have h1:=h.flush hF
  rcases hr with⟨_,_,_,rfl,_,rfl,rfl,rfl,_⟩|⟨rfl,p,lv,m,e2,D2,dead2,_,hP,hm,hc,rfl,_⟩
  ·exact h1
  ·obtain⟨_,rfl,_⟩:=Xpn h.sto hF
   obtain⟨⟨h3,h4⟩,h5⟩:=Xc3 hc
   rcases h5 with⟨_,rfl,rfl⟩|⟨_,_,hs⟩
   ·exact⟨by rw[h3];exact h1.sto,h1.told,by rw[h3];exact h1.l0,Nat.le_trans h4 h1.en,h1.wt,h1.ml⟩
   ·obtain⟨k1,k2,k3⟩:=hs.merge h1.sto hP hm h1.told
    exact⟨by rw[h3];exact k1,k2,by rw[h3];exact h1.l0,Nat.le_trans h4 h1.en,Nat.le_trans (Xss hm hP.nod k3) h1.wt,h1.ml⟩
end
structure OkD (D:Dsk)(u n:Nat):Prop where
 fu:D.fused=false
 us:Xeh D.fs≤u
 cn:D.fs.length≤n
 nd:(D.fs.map (·.1)).Nodup
 tl:∀p∈D.fs,p.1.getLast?≠some 126
theorem OkD.mono {D:Dsk}{u n u' n':Nat}(h:OkD D u n)(h1:u≤u')(h2:n≤n'):OkD D u' n':=⟨h.fu,Nat.le_trans h.us h1,Nat.le_trans h.cn h2,h.nd,h.tl⟩
theorem Xn6 {D:Dsk}(h:D.fused=false){l:List Str}(hl:∀s∈l,1≤s.length∧s.length≤64):D.may l=0:=X7c (λe=>by rw[h]at e;cases e.1) hl
theorem Xjt {D:Dsk}(h:D.fused=false):D.tick=D:=by unfold Dsk.tick;rw[h];rfl
theorem Xxl {D:Dsk}{u n:Nat}{name p:Str}(h:OkD D u n)(hn:1≤name.length∧name.length≤64)(hr:((u+p.length:Nat):Int)≤D.room)(hc:n<4096):D.app name p=(0,{ D with fs:=setL D.fs name ⟨(D.old name).data++p,(D.old name).lasts⟩ }):=by
 unfold Dsk.app
 rw[if_neg (by rw[Xn6 h.fu (by simpa using hn)];decide),if_neg,Xjt (by exact h.fu)]
 unfold Dsk.full
 have h1:=h.us
 have h2:=h.cn
 rw[←Xf5]at h1
 simp only [Bool.or_eq_true,Bool.and_eq_true,decide_eq_true_eq,not_or,not_and]
 exact⟨by omega,λ_=>by omega⟩
theorem Xxm {α:Type}{l:List (Str×α)}{n:Str}{a:α}(h:lk l n=none):setL l n a=l++[(n,a)]:=by unfold setL;rw[h];rfl
theorem Xxn {α:Type}{l:List (Str×α)}{n:Str}{a:α}(h:lk l n=none):delL (setL l n a) n=l:=by
 rw[Xxm h]
 have h2:=Xt9 h
 unfold delL at *
 rw[List.filter_append,h2];simp
theorem Xxo {D:Dsk}{n:Str}(h:lk D.fs n=none):D.old n=⟨[],0⟩:=by unfold Dsk.old;rw[h];rfl
theorem Xpq {D:Dsk}{n:Str}{f:Fil}(hf:D.fused=false)(hn:1≤n.length∧n.length≤64)(h:lk D.fs n=some f):D.sync [n]=(0,{ D with fs:=setL D.fs n ⟨f.data,f.data.length⟩ }):=by
 unfold Dsk.sync Dsk.each
 rw[if_neg (by rw[Xn6 hf (by simpa using hn)];decide),if_neg (by rw[h];exact Bool.false_ne_true)]
 unfold Dsk.each Dsk.lastsA Dsk.old
 rw[h,Xjt (by exact hf)];rfl
theorem X88 (n:Str):(Dsk.sh n).length=n.length+1:=by unfold Dsk.sh;simp
theorem Yad {D:Dsk}{u k:Nat}(h:OkD D u k)(n:Str):lk D.fs (Dsk.sh n)=none:=by
 rw[Xe3]
 intro hm
 obtain⟨p,hp,e⟩:=List.mem_map.1 hm
 exact h.tl p hp (by rw[e];unfold Dsk.sh;simp)
theorem Xxp {D:Dsk}{u k:Nat}{n p:Str}(h:OkD D u k)(hn:1≤n.length∧n.length≤60)(hp:p.length≤1048576)(hr:((u+(recS p).length:Nat):Int)≤D.room)(hc:k<4096):D.save n p=(0,{ D with fs:=setL D.fs n ⟨recS p,(recS p).length⟩ }):=by
 have hs:=Yad h n
 have hl:=X88 n
 unfold Dsk.save
 rw[if_neg om9,if_neg om9,if_neg (by unfold Dsk.has;rw[hs];decide)]
 unfold Dsk.save2
 have ha:=Xxl (p:=recS p) h (name:=Dsk.sh n) om9 hr hc
 rw[Xxo hs]at ha
 simp only [List.nil_append]at ha
 rw[ha]
 have hy:=Xpq (D:={ D with fs:=setL D.fs (Dsk.sh n) ⟨recS p,0⟩ }) (n:=Dsk.sh n) (f:=⟨recS p,0⟩) h.fu om9 (by show lk (setL _ _ _) _=_;rw[Xe4,if_pos rfl])
 dsimp only at hy
 rw[Xe6]at hy
 simp only [ne_eq,not_true_eq_false,if_false,hy]
 unfold Dsk.ren
 rw[if_neg (by rw[Xn6 (by exact h.fu) (by intro s hs2;simp at hs2;rcases hs2 with rfl|rfl<;>omega)];decide)]
 dsimp only
 rw[Xe4,if_pos rfl]
 dsimp only
 rw[Xjt (by exact h.fu),Xxn hs]
theorem OkD.put {D:Dsk}{u k:Nat}{n:Str}{f:Fil}(h:OkD D u k)(ht:n.getLast?≠some 126){x:Nat}(hx:f.data.length≤(D.old n).data.length+x):OkD { D with fs:=setL D.fs n f } (u+x) (k+1):=by
 have h1:=Xmy h.nd n f
 have h2:=h.us
 have h3:(oldL D.fs n)=D.old n:=rfl
 have h4:=Xf4 D.fs n f
 have h5:=h.cn
 refine⟨h.fu,?_,?_,Xd4 _ _ h.nd,λp hp=>?_⟩
 ·show Xeh (setL D.fs n f)≤_
  rw[h3]at h1;omega
 ·show(setL D.fs n f).length≤_
  rw[h4];split<;>omega
 ·rcases Xgo hp with rfl|hp
  ·exact ht
  ·exact h.tl p hp
theorem OkD.del {D:Dsk}{u k:Nat}(h:OkD D u k)(n:Str):OkD { D with fs:=delL D.fs n } u k:=
 ⟨h.fu,Nat.le_trans (Xmz D.fs n) h.us,Nat.le_trans (List.length_filter_le _ _) h.cn,Xfj n h.nd,λp hp=>h.tl p (List.mem_filter.1 hp).1⟩
theorem Xxq {D:Dsk}{u k:Nat}{n p:Str}(h:OkD D u k)(hn:1≤n.length∧n.length≤60)(ht:n.getLast?≠some 126)(hp:p.length≤1048576)(hr:((u+p.length+12:Nat):Int)≤D.room)(hc:k<4096):(D.save n p).1=0∧OkD (D.save n p).2 (u+p.length+12) (k+1)∧(D.save n p).2.room=D.room:=by
 have hl:=Xbi p
 rw[Xxp h hn hp (by rw[hl,←Nat.add_assoc];exact hr) hc]
 have:=h.put ht (f:=⟨recS p,(recS p).length⟩) (x:=p.length+12) (by simp only [];omega)
 exact⟨rfl,by rw[Nat.add_assoc];exact this,rfl⟩
theorem Xru {D:Dsk}{u k:Nat}{n:Str}(h:OkD D u k)(hn:1≤n.length∧n.length≤64):(Dsk.rems [n] D).1=0∧OkD (Dsk.rems [n] D).2 u k∧(Dsk.rems [n] D).2.room=D.room:=by
 unfold Dsk.rems
 by_cases hh:D.has n=true
 ·rw[if_pos hh]
  have h2:(lk D.fs n).isNone=false:=by unfold Dsk.has at hh;cases e:lk D.fs n with
   | none=>rw[e]at hh;cases hh
   | some a=>rfl
  have hr:D.rem [n]=(0,{ D with fs:=delL D.fs n }):=by
   unfold Dsk.rem Dsk.each
   rw[if_neg (by rw[Xn6 h.fu (by simpa using hn)];decide),if_neg (by rw[h2];decide)]
   unfold Dsk.each Dsk.gone
   rw[Xjt (by exact h.fu)]
  rw[hr,if_neg sp9]
  unfold Dsk.rems
  exact⟨rfl,h.del n,rfl⟩
 ·rw[if_neg hh]
  unfold Dsk.rems
  exact⟨rfl,h,rfl⟩
theorem Xn7 {L:Led}{D:Dsk}{u k:Nat}{p:Str}(h:OkD D u k)(hd:L.dead=false)(hp:p.length≤65536)(hl:L.last<1099511627776)(hr:((u+p.length+32:Nat):Int)≤D.room)(hc:k<4096):(L.append D p).1=L.last+1∧(L.append D p).2.1=0∧(L.append D p).2.2.1={ L with ents:=L.ents++[p] }∧OkD (L.append D p).2.2.2 (u+p.length+32) (k+1)∧(L.append D p).2.2.2.room=D.room:=by
 have he:=Xf7 (L.last+1) p
 have hrl:=Xbi (Led.ent (L.last+1) p)
 have ha:=Xxl (p:=recS (Led.ent (L.last+1) p)) h (name:=Led.logn) dc9 om9 hc
 have hy:=Xpq (D:=(D.app Led.logn (recS (Led.ent (L.last+1) p))).2) (n:=Led.logn) (f:=⟨(D.old Led.logn).data++recS (Led.ent (L.last+1) p),(D.old Led.logn).lasts⟩) (by rw[ha];exact h.fu) dc9 (by rw[ha];show lk (setL _ _ _) _=_;rw[Xe4,if_pos rfl])
 have hR:appR L D p=(0,{ D with fs:=setL D.fs Led.logn ⟨(D.old Led.logn).data++recS (Led.ent (L.last+1) p),((D.old Led.logn).data++recS (Led.ent (L.last+1) p)).length⟩ }):=by
  unfold appR
  rw[if_pos (by rw[ha]),hy,ha]
  dsimp only
  rw[Xe6]
 rw[Xh8 hd om9 (by rw[hR];simp),hR]
 have:=h.put (n:=Led.logn) (f:=⟨(D.old Led.logn).data++recS (Led.ent (L.last+1) p),((D.old Led.logn).data++recS (Led.ent (L.last+1) p)).length⟩) dc9 (x:=p.length+32) (by simp only [List.length_append];omega)
 exact⟨rfl,rfl,rfl,by rw[Nat.add_assoc];exact this,rfl⟩
theorem Xrv {L:Led}{D:Dsk}{u k:Nat}{i:Int}{p:Str}(h:OkD D u k)(hd:L.dead=false)(hi:L.last≤i∧i≤1099511627776)(hp:p.length≤524288)(hr:((u+p.length+32:Nat):Int)≤D.room)(hc:k<4096):(L.write D i p).1=0∧(L.write D i p).2.1=⟨i,p,[],false⟩∧OkD (L.write D i p).2.2 (u+p.length+32) (k+1)∧(L.write D i p).2.2.room=D.room:=by
 have he:=Xf7 i p
 obtain⟨s1,s2,s3⟩:=Xxq (p:=Led.ent i p) (n:=Led.img) h dc9 dc9 om9 om9 hc
 obtain⟨r1,r2,r3⟩:=Xru (n:=Led.logn) s2 dc9
 unfold Led.write
 rw[if_neg (by rw[hd];decide),if_neg om9,if_neg om9]
 dsimp only
 rw[if_pos s1,if_neg (by rw[r1];decide)]
 exact⟨rfl,rfl,r2.mono om9 (Nat.le_refl _),r3.trans s3⟩
theorem Xkt {u:Nat}(h:u<128):(numS u).length=1:=by
 unfold numS numF
 rw[if_pos h];rfl
theorem Xxr (u:Nat):(numS u).length≤1+u:=by
 by_cases h:u<128
 ·rw[Xkt h];omega
 ·have:=Xak u;omega
theorem Xju (p:Str):(rowS p).length≤1+2*p.length:=by
 have:=Xxr p.length
 unfold rowS
 rw[List.length_append];omega
def bW (c:Cell):Nat:=5+3*c.key.length+2*c.val.length
theorem X0o {n:Nat}{c:Cell}(hn:n≤c.key.length)(hs:c.seq≤127):(Xe5 n c).length≤bW c:=by
 have h1:=Xxr n
 have h2:=Xju (c.key.drop n)
 have h3:(numS c.seq.toNat).length=1:=Xkt om9
 have h4:(numS (Xi0 c.del)).length=1:=Xkt (by unfold Xi0;split<;>decide)
 have h5:=Xju c.val
 rw[List.length_drop]at h2
 unfold Xe5 bW
 split<;>simp only [List.length_append,List.length_nil]<;>omega
theorem Xxs {l:List Cell}(hs:∀c∈l,c.seq≤127):∀k,k≤l.length->((List.range k).flatMap (Xcp l)).length≤wsum bW (l.take k)
 | 0,_=>Nat.zero_le _
 | k+1,hk=>by
  have ih:=Xxs hs k om9
  have hc:l[k]?=some l[k]:=List.getElem?_eq_getElem om9
  have e:Xcp l k=Xe5 (shAt l k) l[k]:=by unfold Xcp;rw[hc];rfl
  have h1:=X0o (Xov hc) (hs l[k] (List.getElem_mem _))
  have h2:wsum bW (l.take (k+1))=wsum bW (l.take k)+bW l[k]:=by rw[List.take_add_one,hc,Xbu];simp [wsum]
  rw[Xgm om9,List.length_append,e,h2];omega
theorem X59 {l:List Cell}(hs:∀c∈l,c.seq≤127):(blkS l).length≤wsum bW l:=by
 have:=Xxs hs l.length (Nat.le_refl _)
 rwa [List.take_length]at this
theorem X6a {g:Cell->Nat}{l:List Cell}{c:Cell}(h:c∈l):g c≤wsum g l:=by
 unfold wsum
 induction l with
 | nil=>cases h
 | cons a r ih=>
  rw[List.map_cons,List.sum_cons]
  rcases List.mem_cons.1 h with rfl|h
  ·omega
  ·have:=ih h;omega
theorem Xrw (f g:Cell->Nat):∀l:List Cell,wsum (λc=>f c+g c) l=wsum f l+wsum g l
 | []=>rfl
 | a :: r=>by
  have ih:=Xrw f g r
  unfold wsum at *
  simp only [List.map_cons,List.sum_cons]at *;omega
def eW (c:Cell):Nat:=12+2*c.key.length
theorem X0p {l:List Cell}(hs:∀c∈l,c.seq≤127){p:Nat×Nat}(h1:p.1<p.2)(h2:p.2≤l.length):(Xdz l p).length≤wsum (λc=>bW c+eW c) (seg l p):=by
 have hc:l[p.2-1]?=some l[p.2-1]:=List.getElem?_eq_getElem om9
 have e:cAt l (p.2-1)=l[p.2-1]:=Sp.cAt_at hc
 have hm:l[p.2-1]∈seg l p:=by
  unfold seg
  refine List.mem_of_getElem? (i:=p.2-1-p.1) ?_
  rw[List.getElem?_drop,List.getElem?_take,if_pos om9,show p.1+(p.2-1-p.1)=p.2-1 by omega,hc]
 have g1:=X6a (g:=eW) hm
 have g2:=X59 (l:=seg l p) (λc hc=>hs c (Xi6 hc))
 have g3:=Xak (blkS (seg l p)).length
 have g4:=Xju l[p.2-1].key
 have g5:(numS l[p.2-1].seq.toNat).length=1:=Xkt (by have:=hs _ (List.getElem_mem (l:=l) (n:=p.2-1) om9);omega)
 have g6:eW l[p.2-1]=12+2*l[p.2-1].key.length:=rfl
 rw[Xrw]
 unfold Xdz
 rw[e]
 unfold rowS at *
 simp only [List.length_append]at *
 omega
theorem parts_le {l:List Cell}(hs:∀c∈l,c.seq≤127):∀ps:List (Nat×Nat),(∀p∈ps,p.1<p.2∧p.2≤l.length)->(ps.flatMap (Xdz l)).length≤wsum (λc=>bW c+eW c) (ps.flatMap (seg l))
 | [],_=>Nat.zero_le _
 | p :: r,h=>by
  have ih:=parts_le hs r (λq hq=>h q (List.mem_cons_of_mem _ hq))
  have h1:=h p List.mem_cons_self
  have h2:=X0p hs h1.1 h1.2
  rw[List.flatMap_cons,List.flatMap_cons,List.length_append,Xbu];omega
theorem Xxt {l:List Cell}(hs:∀c∈l,c.seq≤127):(tblS l).length≤50+20*wsum cW l:=by
 have hc:=Xb3 l l.length
 have h1:=parts_le hs (Xaz l) (λp hp=>by have:=hc.mem hp;omega)
 have h2:(Xaz l).flatMap (seg l)=l:=by
  unfold Xaz
  rw[Xhh hc,List.take_length,List.drop_zero]
 rw[h2]at h1
 have h3:=Xak (Xaz l).length
 have h4:=Xak l.length
 have h5:=Xak (Xdp (Xb9 l)).length
 have h6:(Xdp (Xb9 l)).length≤9+2*l.length:=by rw[Xck];have:=Xcl l l.length;unfold Xcn Xb9;omega
 have h7:wsum (λc=>bW c+eW c) l+2*l.length≤20*wsum cW l:=by
  clear hs hc h1 h2 h3 h4 h5 h6
  induction l with
  | nil=>exact Nat.le_refl _
  | cons a r ih=>
   unfold wsum at *
   simp only [List.map_cons,List.sum_cons,List.length_cons]at *
   unfold bW eW cW at *
   omega
 unfold tblS rowS
 simp only [List.length_append]at *
 omega
theorem X6b (l:List Rw):(batS l).length≤10+3*(l.map rowW).sum:=by
 have h1:=Xak l.length
 have h2:(l.flatMap rowB).length≤3*(l.map rowW).sum:=by
  clear h1
  induction l with
  | nil=>exact Nat.le_refl _
  | cons r t ih=>
   have g1:=Xju r.key
   have g2:=Xju r.val
   have g3:(numS 1).length=1:=Xkt dc9
   have g4:(numS 0).length=1:=Xkt dc9
   have g5:(rowB r).length≤3*rowW r:=by
    unfold rowB rowW
    split<;>simp only [List.length_append]<;>omega
   rw[List.flatMap_cons,List.length_append,List.map_cons,List.sum_cons];omega
 unfold batS
 rw[List.length_append];omega
def dVal (l:Str):Nat:=l.foldl (λa c=>10*a+(c.toNat-48)) 0
theorem Xrx (u:Nat):dVal (Lib.decDigits u)=u:=by
 induction u using Nat.strongRecOn with
 | _ u ih=>
  rw[Lib.decDigits]
  split
  ·rename_i h
   unfold dVal
   rw[List.foldl_cons,List.foldl_nil,Xfh _ om9];omega
  ·rename_i h
   have h1:=ih (u / 10) om9
   unfold dVal at *
   rw[List.foldl_append,h1,List.foldl_cons,List.foldl_nil,Xfh _ om9];omega
theorem X0q (u:Nat):∃c:UInt8,c.toNat<58∧∃r,Lib.decDigits u=r++[c]:=by
 rw[Lib.decDigits]
 split
 ·exact⟨_,by rw[Xfh _ om9];omega,[],rfl⟩
 ·exact⟨_,by rw[Xfh _ om9];omega,_,rfl⟩
theorem Xl0 {n:Int}(h:0≤n):Xbc n=116 :: Lib.decDigits n.toNat:=by
 unfold Xbc Lib.itoa
 rw[if_neg om9]
theorem Xjv {n m:Int}(hn:0≤n)(hm:0≤m)(h:Xbc n=Xbc m):n=m:=by
 rw[Xl0 hn,Xl0 hm]at h
 have:=congrArg dVal (List.cons.inj h).2
 rw[Xrx,Xrx]at this;omega
theorem Xku {n:Int}(h:0≤n):(Xbc n).getLast?≠some 126:=by
 obtain⟨c,hc,r,e⟩:=X0q n.toNat
 rw[Xl0 h,e,←List.cons_append,List.getLast?_append]
 intro e2
 simp at e2
 rw[e2]at hc
 exact absurd hc dc9
theorem Xry {n:Int}(h:0≤n)(h2:n≤1099511627776):1≤(Xbc n).length∧(Xbc n).length≤60:=by
 have:=Xno (n:=n) ⟨by omega,by omega⟩
 refine⟨?_,by omega⟩
 unfold Xbc;simp
def sumN (N:List (Str×Nat)):Nat:=(N.map (·.2)).sum
def Just (N:List (Str×Nat))(p:Str×Fil):Prop:=∃q∈N,p.1=q.1∧p.2.data.length≤q.2
theorem Xpr : ∀(N:List (Str×Nat)) (fs:List (Str×Fil)),(fs.map (·.1)).Nodup->(∀p∈fs,Just N p)->fs.length≤N.length∧Xeh fs≤sumN N
 | [],fs,_,h=>by
  cases fs with
  | nil=>exact⟨Nat.le_refl _,Nat.le_refl _⟩
  | cons p r=>obtain⟨q,hq,_⟩:=h p List.mem_cons_self;cases hq
 | q :: N,fs,hn,h=>by
  have hs:sumN (q :: N)=q.2+sumN N:=by unfold sumN;rw[List.map_cons,List.sum_cons]
  by_cases hp:∃p∈fs,p.1=q.1∧p.2.data.length≤q.2
  ·obtain⟨p,hp,e1,e2⟩:=hp
   obtain⟨X,Y,rfl⟩:=List.append_of_mem hp
   have hn2:((X++Y).map (·.1)).Nodup:=by
    refine List.Nodup.sublist (List.Sublist.map _ ?_) hn
    exact List.Sublist.append_left (List.sublist_cons_self _ _) _
   have hne:∀x∈X++Y,x.1≠p.1:=λx hx e=>by
    rw[List.map_append,List.map_cons,List.nodup_append]at hn
    rcases List.mem_append.1 hx with hx|hx
    ·exact hn.2.2 x.1 (List.mem_map_of_mem hx) p.1 List.mem_cons_self e
    ·exact(List.nodup_cons.1 hn.2.1).1 (by rw[←e];exact List.mem_map_of_mem hx)
   have ih:=Xpr N (X++Y) hn2 (λx hx=>by
    obtain⟨z,hz,z1,z2⟩:=h x (by
     rcases List.mem_append.1 hx with hx|hx
     ·exact List.mem_append_left _ hx
     ·exact List.mem_append_right _ (List.mem_cons_of_mem _ hx))
    rcases List.mem_cons.1 hz with rfl|hz
    ·exact absurd (z1.trans e1.symm) (hne x hx)
    ·exact⟨z,hz,z1,z2⟩)
   unfold Xeh at *
   simp only [List.length_append,List.length_cons,List.map_append,List.map_cons,List.sum_append,List.sum_cons]at *
   omega
  ·have ih:=Xpr N fs hn (λx hx=>by
    obtain⟨z,hz,z1,z2⟩:=h x hx
    rcases List.mem_cons.1 hz with rfl|hz
    ·exact absurd ⟨x,hx,z1,z2⟩ hp
    ·exact⟨z,hz,z1,z2⟩)
   rw[List.length_cons];omega
structure DJ (D:Dsk)(N:List (Str×Nat))(H:List Str):Prop where
 fu:D.fused=false
 rm:D.room=4194304
 nd:(D.fs.map (·.1)).Nodup
 js:∀p∈D.fs,Just N p
 tl:∀q∈N,q.1.getLast?≠some 126
 hs:∀n∈H,D.has n=true
section
variable {D:Dsk}{N:List (Str×Nat)}{H:List Str}
theorem DJ.ok (h:DJ D N H):OkD D (sumN N) N.length:=by
 obtain⟨h1,h2⟩:=Xpr N D.fs h.nd h.js
 exact⟨h.fu,h2,h1,h.nd,λp hp e=>by
  obtain⟨q,hq,e1,_⟩:=h.js p hp
  exact h.tl q hq (by rw[←e1];exact e)⟩
theorem Xrz {fs:List (Str×Fil)}{n m:Str}{f:Fil}{r l:Int}{b:Bool}(h:Dsk.has ⟨r,b,l,fs⟩ m=true):Dsk.has ⟨r,b,l,setL fs n f⟩ m=true:=by
 unfold Dsk.has at *
 show(lk (setL fs n f) m).isSome=true
 rw[Xe4]
 split
 ·rfl
 ·exact h
theorem DJ.save {n p:Str}(h:DJ D N H)(hn:1≤n.length∧n.length≤60)(ht:n.getLast?≠some 126)(hp:p.length≤1048576)(hr:sumN N+p.length+12≤4194304)(hc:N.length<4096) :
  (D.save n p).1=0∧DJ (D.save n p).2 ((n,p.length+12) :: N) (n :: H)∧∀q∈(D.save n p).2.fs,(q.1=n∧q.2.data.length≤p.length+12)∨q∈D.fs:=by
 have hrm:=h.rm
 have hl:=Xbi p
 rw[Xxp h.ok hn hp (by rw[hl,hrm];omega) hc]
 have hq:∀q∈setL D.fs n ⟨recS p,(recS p).length⟩,(q.1=n∧q.2.data.length≤p.length+12)∨q∈D.fs:=λq hq=>by
  rcases Xgo hq with rfl|hq
  ·exact .inl ⟨rfl,Nat.le_of_eq hl⟩
  ·exact .inr hq
 refine⟨rfl,⟨h.fu,h.rm,Xd4 _ _ h.nd,λq hq2=>?_,λq hq2=>?_,λm hm=>?_⟩,hq⟩
 ·rcases hq q hq2 with⟨e,e2⟩|hq2
  ·exact⟨_,List.mem_cons_self,e,e2⟩
  ·obtain⟨z,hz,z1⟩:=h.js q hq2
   exact⟨z,List.mem_cons_of_mem _ hz,z1⟩
 ·rcases List.mem_cons.1 hq2 with rfl|hq2
  ·exact ht
  ·exact h.tl q hq2
 ·rcases List.mem_cons.1 hm with rfl|hm
  ·unfold Dsk.has
   show(lk (setL D.fs m _) m).isSome=true
   rw[Xe4,if_pos rfl];rfl
  ·exact Xrz (h.hs m hm)
theorem DJ.to {N':List (Str×Nat)}{H':List Str}(h:DJ D N H)(hN:∀p∈D.fs,Just N p->Just N' p)(ht:∀q∈N',q.1.getLast?≠some 126)(hH:∀n∈H',n∈H):DJ D N' H':=
 ⟨h.fu,h.rm,h.nd,λp hp=>hN p hp (h.js p hp),ht,λn hn=>h.hs n (hH n hn)⟩
theorem DJ.del (h:DJ D N H)(n:Str)(hH:n∉H):DJ (D.gone n) N H:=
 ⟨h.fu,h.rm,Xfj n h.nd,λp hp=>h.js p (List.mem_filter.1 hp).1,h.tl,λm hm=>by
  unfold Dsk.has Dsk.gone
  show(lk (delL D.fs n) m).isSome=true
  rw[Xos,if_neg (λe=>hH (by rw[←e];exact hm))]
  exact h.hs m hm⟩
theorem Xl1 : ∀(ns:List Str) (D:Dsk),D.fused=false->(∀n∈ns,(1≤n.length∧n.length≤64)∧D.has n=true)->ns.Nodup->D.rem ns=(0,ns.foldl (λD n=>D.gone n) D)
 | [],D,_,_,_=>rfl
 | n :: r,D,hf,h,hn=>by
  rw[List.nodup_cons]at hn
  have h1:=h n List.mem_cons_self
  have h2:(lk D.fs n).isNone=false:=by
   have:=h1.2
   unfold Dsk.has at this
   cases e:lk D.fs n with
   | none=>rw[e]at this;cases this
   | some a=>rfl
  have ih:=Xl1 r (D.gone n) hf (λm hm=>⟨(h m (List.mem_cons_of_mem _ hm)).1,by
   unfold Dsk.has Dsk.gone
   show(lk (delL D.fs n) m).isSome=true
   rw[Xos,if_neg (λe=>hn.1 (by rw[←e];exact hm))]
   exact(h m (List.mem_cons_of_mem _ hm)).2⟩) hn.2
  unfold Dsk.rem at *
  unfold Dsk.each
  rw[if_neg (by rw[Xn6 hf (by intro s hs;rw[List.mem_singleton.1 hs];exact h1.1)];decide),if_neg (by rw[h2];decide),Xjt (by exact hf),ih]
  rfl
theorem DJ.dels : ∀(ns:List Str) (D:Dsk),DJ D N H->(∀n∈ns,n∉H)->DJ (ns.foldl (λD n=>D.gone n) D) N H∧∀p∈(ns.foldl (λD n=>D.gone n) D).fs,p∈D.fs∧p.1∉ns
 | [],D,h,_=>⟨h,λp hp=>⟨hp,by simp⟩⟩
 | n :: r,D,h,hn=>by
  obtain⟨h1,h2⟩:=DJ.dels r (D.gone n) (h.del n (hn n List.mem_cons_self)) (λm hm=>hn m (List.mem_cons_of_mem _ hm))
  refine⟨h1,λp hp=>?_⟩
  obtain⟨h3,h4⟩:=h2 p hp
  have h5:=List.mem_filter.1 (show p∈D.fs.filter (λp=>decide (p.1≠n)) from h3)
  exact⟨h5.1,λh6=>by
   rcases List.mem_cons.1 h6 with h6|h6
   ·exact absurd h6 (by simpa using h5.2)
   ·exact h4 h6⟩
theorem DJ.saves : ∀(qs:List (Int×Str)) (D:Dsk) (N:List (Str×Nat)) (H:List Str),DJ D N H->(∀q∈qs,0≤q.1∧q.1≤1099511627776∧q.2.length≤1048576)->sumN N+(qs.map λq=>q.2.length+12).sum≤4194304->N.length+qs.length<4096->
  (Xbs qs D).1=0∧DJ (Xbs qs D).2 ((qs.map λq=>(Xbc q.1,q.2.length+12)).reverse++N) ((qs.map λq=>Xbc q.1).reverse++H)
 | [],D,N,H,h,_,_,_=>⟨rfl,h⟩
 | q :: r,D,N,H,h,hq,hs,hc=>by
  obtain⟨q1,q2,q3⟩:=hq q List.mem_cons_self
  rw[List.map_cons,List.sum_cons]at hs
  rw[List.length_cons]at hc
  obtain⟨s1,s2,_⟩:=h.save (Xry q1 q2) (Xku q1) q3 om9 om9
  have e:sumN ((Xbc q.1,q.2.length+12) :: N)=q.2.length+12+sumN N:=by unfold sumN;rw[List.map_cons,List.sum_cons]
  obtain⟨r1,r2⟩:=DJ.saves r _ _ _ s2 (λz hz=>hq z (List.mem_cons_of_mem _ hz)) (by rw[e];omega) (by rw[List.length_cons];omega)
  have e2:Xbs (q :: r) D=Xbs r (D.save (Xbc q.1) q.2).2:=by rw[Xbs.eq_2,if_neg (by rw[s1];decide)]
  rw[e2]
  refine⟨r1,?_⟩
  simpa using r2
theorem DJ.write {L:Led}{i:Int}{p:Str}{b:Nat}(h:DJ D N H)(hi:L.last≤i∧i≤1099511627776)(hL:L.dead=false)(hp:p.length≤262144)(hb:(Led.img,b)∈N)(hb2:262180≤b)(hr:sumN N+262180≤4194304)(hc:N.length<4096)(hg:Led.logn∉H) :
  (L.write D i p).1=0∧(L.write D i p).2.1=⟨i,p,[],false⟩∧DJ (L.write D i p).2.2 N H:=by
 have he:=Xf7 i p
 have hrm:=h.rm
 obtain⟨a1,a2,_⟩:=Xrv (i:=i) (p:=p) h.ok hL hi om9 (by rw[hrm];omega) hc
 obtain⟨s1,s2,s3⟩:=h.save (n:=Led.img) (p:=Led.ent i p) dc9 dc9 om9 om9 hc
 have s4:DJ (D.save Led.img (Led.ent i p)).2 N H:=s2.to (λp hp hj=>by
  rcases s3 p hp with⟨e1,e2⟩|hp
  ·exact⟨_,hb,e1,by show _≤b;omega⟩
  ·exact h.js p hp) h.tl (λn hn=>List.mem_cons_of_mem _ hn)
 refine⟨a1,a2,?_⟩
 have e:(L.write D i p).2.2=(Dsk.rems [Led.logn] (D.save Led.img (Led.ent i p)).2).2:=by
  obtain⟨r1,_⟩:=Xru (n:=Led.logn) s4.ok dc9
  unfold Led.write
  rw[if_neg (by rw[hL];decide),if_neg om9,if_neg om9]
  dsimp only
  rw[if_pos s1,if_neg (by rw[r1];decide)]
 rw[e]
 unfold Dsk.rems
 split
 ·rename_i hh
  have hr1:=Xl1 [Led.logn] _ s4.fu (λn hn=>by rw[List.mem_singleton.1 hn];exact⟨by decide,hh⟩) sp9
  rw[hr1]
  rw[if_neg sp9]
  exact s4.del _ hg
 ·exact s4
end
def nmT (t:Tb):Str×Nat:=(Xbc t.h.2,100+20*wsum cW t.cs)
def nmN (ts:List Tb)(E:Nat):List (Str×Nat):=(Led.img,262180) :: (Led.logn,E) :: ts.map nmT
theorem X2y (ts:List Tb)(E:Nat):sumN (nmN ts E)=262180+E+100*ts.length+20*wsum cW (ts.flatMap (·.cs)):=by
 have:∀ts:List Tb,sumN (ts.map nmT)=100*ts.length+20*wsum cW (ts.flatMap (·.cs)):=by
  intro ts
  induction ts with
  | nil=>rfl
  | cons t r ih=>
   have e:sumN ((t :: r).map nmT)=(100+20*wsum cW t.cs)+sumN (r.map nmT):=by unfold sumN;rw[List.map_cons,List.map_cons,List.sum_cons];rfl
   rw[e,ih,List.flatMap_cons,Xbu,List.length_cons];omega
 have e:sumN (nmN ts E)=262180+(E+sumN (ts.map nmT)):=by unfold sumN nmN;rw[List.map_cons,List.map_cons,List.sum_cons,List.sum_cons]
 rw[e,this];omega
def DI (D:Dsk)(ts:List Tb)(E:Nat):Prop:=DJ D (nmN ts E) (ts.map λt=>Xbc t.h.2)
theorem Xps {ts:List Tb}{E:Nat}(h:∀t∈ts,0≤t.h.2):∀q∈nmN ts E,q.1.getLast?≠some 126:=λq hq=>by
 unfold nmN at hq
 rcases List.mem_cons.1 hq with rfl|hq
 ·decide
 ·rcases List.mem_cons.1 hq with rfl|hq
  ·exact(by decide:Led.logn.getLast?≠some 126)
  ·obtain⟨t,ht,rfl⟩:=List.mem_map.1 hq
   exact Xku (h t ht)
theorem X6c {ts:List Tb}{s:Str}(h:s.head?≠some 116):s∉ts.map λt=>Xbc t.h.2:=λhm=>by
 obtain⟨t,_,rfl⟩:=List.mem_map.1 hm
 exact h rfl
theorem X6d {α:Type}[DecidableEq α]:∀(l1 l2:List α),l1.Nodup->(∀x∈l1,x∈l2)->l1.length≤l2.length:=λl1 l2 hn hs=>by
 have:=Xpl (λ_=>1) l1 l2 hn hs
 have e:∀l:List α,(l.map λ_=>1).sum=l.length:=λl=>by
  induction l with
  | nil=>rfl
  | cons a r ih=>rw[List.map_cons,List.sum_cons,ih,List.length_cons];omega
 rw[e,e]at this
 exact this
section
variable {n lv:Int}{V V':Vs}{ts ts':List Tb}{mem mem' l:List Cell}{gone:List Fi}{L L':Led}{D D':Dsk}{dead dead' ok:Bool}{e:Int}{S i E:Nat}{M:List Rw}
theorem Sto.cnt (h:Sto n V ts mem):ts.length≤1024:=by
 have h1:=X6d (ts.map (·.h)) (V.fs.map λf=>(f.lev,f.id)) h.nod (λx hx=>by
  obtain⟨t,ht,rfl⟩:=List.mem_map.1 hx
  obtain⟨f,hf,hv⟩:=h.bwd t ht
  rw[hv.h];exact List.mem_map_of_mem (f:=λf:Fi=>(f.lev,f.id)) hf)
 have h2:=(Xbl h.isv).2.2.1
 rw[List.length_map,List.length_map]at h1;omega
theorem ChS.tabs (h:Sto n V ts mem)(c:ChS V ts l lv gone V' ts')(hg:∀f∈gone,f∈V.fs):∃tbs:List Tb,tbs.map (λt=>(t.h,t.cs))=Xj2 lv V.next (Xam l)∧ts'=ts.filter (kp gone)++tbs:=by
 obtain⟨hok,⟨fs',hp,hv,rfl⟩,tbs,htb,hts⟩:=c
 obtain⟨htl,hat,hta⟩:=Xii htb
 have hnx:∀t∈tbs,V.next≤t.h.2:=λt ht=>by
  obtain⟨i,hi⟩:=List.getElem?_of_mem ht
  rw[(hat i t hi).1];show V.next≤V.next+↑i;omega
 have hfr:∀t∈tbs,∀u∈ts,u.h≠t.h:=λt ht u hu e=>by
  have h1:=hnx t ht
  have h2:=(h.lev hu).2.2.2
  rw[e]at h2;omega
 have hnd:(tbs.map (·.h)).Nodup:=by
  rw[List.Nodup,List.pairwise_iff_getElem]
  intro i j hi hj hij e
  simp only [List.length_map]at hi hj
  simp only [List.getElem_map]at e
  rw[(hat i _ (List.getElem?_eq_getElem hi)).1,(hat j _ (List.getElem?_eq_getElem hj)).1]at e
  have:=(Prod.mk.inj e).2
  omega
 have hkn:∀t∈tbs,kp gone t=true:=λt ht=>Xfw.2 λf hf e=>by
  have h1:=hnx t ht
  have h2:=(Xbr ((Xbl h.isv).2.2.2.1 f (hg f hf))).2.1
  rw[e]at h1
  have h3:V.next≤f.id:=h1
  omega
 exact⟨tbs,htb,by rw[hts,Xjk tbs ts hfr hnd,Xjl,List.filter_append,List.filter_eq_self.2 hkn]⟩
theorem Xxu (f:List Cell->Nat)(next:Int):∀(ss:List (List Cell)) (k:Nat),((ss.zipIdx k).map λp=>f p.1).sum=(ss.map f).sum
 | [],k=>rfl
 | s :: r,k=>by rw[List.zipIdx_cons,List.map_cons,List.map_cons,List.sum_cons,List.sum_cons,Xxu f next r (k+1)]
theorem Xxv (next:Int){ss:List (List Cell)}(hs:∀sg∈ss,∀c∈sg,c.seq≤127):((Xbn next ss).map λq=>q.2.length+12).sum≤100*ss.length+20*wsum cW ss.flatten:=by
 have e:(Xbn next ss).map (λq=>q.2.length+12)=ss.zipIdx.map λp=>(recS (tblS p.1)).length+12:=by unfold Xbn;rw[List.map_map];rfl
 rw[e,Xxu (λsg=>(recS (tblS sg)).length+12) next ss 0]
 clear e
 induction ss with
 | nil=>exact Nat.le_refl _
 | cons s r ih=>
  have h1:=ih (λsg h=>hs sg (List.mem_cons_of_mem _ h))
  have h2:=Xxt (hs s List.mem_cons_self)
  have h3:=Xbi (tblS s)
  rw[List.map_cons,List.sum_cons,List.flatten_cons,Xbu,List.length_cons];omega
theorem Xr0 (hC:ChgP L D V ts dead l lv gone e L' D' V' ts' dead')(h:Sto n V ts mem)(hg:∀f∈gone,f∈V.fs)(hD:DI D ts E)(hL:L.dead=false)(hl:0≤L.last∧L.last≤60)(hE:E≤190000)(hw:wsum cW (ts.flatMap (·.cs))≤60000)(hw2:wsum cW l≤60000)(hs:∀c∈l,c.seq≤127) :
  dead'=dead∧L'.dead=false∧((e≠0∧DI D' ts E)∨(e=0∧∃tbs:List Tb,ts'=ts.filter (kp gone)++tbs∧DI D' (ts++tbs) E∧∀t∈tbs,V.next≤t.h.2)):=by
 have hch:=(Xc3 hC).2
 rcases hC with⟨h1,rfl,rfl,_,_,h2,_⟩|⟨_,_,fs',hp,_,hv,hv2,hr⟩
 ·exact⟨h2,hL,.inl ⟨h1,hD⟩⟩
 ·have hcnt:=h.cnt
  have hv3:=Xbl hv
  have hal:(addF lv V.next (Xam l)).length=(Xam l).length:=by unfold addF;simp
  have hsl:(Xam l).length≤1024:=by
   have h1:=hv3.2.2.1
   have h2:fs'.length≤1024:=h1
   rw[hp.length_eq,List.length_append,hal]at h2;omega
  have hok:∀q∈Xbn V.next (Xam l),0≤q.1∧q.1≤1099511627776∧q.2.length≤1048576:=λq hq=>by
   unfold Xbn at hq
   obtain⟨p,hp2,rfl⟩:=List.mem_map.1 hq
   have hf:Xeq lv V.next p.2 p.1∈fs':=hp.mem_iff.2 (List.mem_append_right _ (by unfold addF;exact List.mem_map.2 ⟨p,hp2,rfl⟩))
   have h1:=Xbr (hv3.2.2.2.1 _ hf)
   have h2:Xcb V.next (addF lv V.next (Xam l))≤1099511627776:=hv3.2.1
   have g1:1≤V.next+↑p.2:=h1.1
   have g2:V.next+↑p.2<Xcb V.next (addF lv V.next (Xam l)):=h1.2.1
   have g3:(((recS (tblS p.1)).length:Nat):Int)≤1048576:=h1.2.2.2.2.2.1
   refine⟨by show 0≤V.next+↑p.2;omega,by show V.next+↑p.2≤_;omega,by show(recS (tblS p.1)).length≤_;omega⟩
  have hseg:∀sg∈Xam l,∀c∈sg,c.seq≤127:=λsg hsg c hc=>hs c (by rw[←Xdq l];exact List.mem_flatten.2 ⟨sg,hsg,hc⟩)
  have hsum:=Xxv V.next hseg
  rw[Xdq]at hsum
  have hnm:=X2y ts E
  have hfl:(Xbn V.next (Xam l)).length=(Xam l).length:=by unfold Xbn;simp
  obtain⟨s1,s2⟩:=DJ.saves (Xbn V.next (Xam l)) D _ _ hD hok (by rw[hnm];omega) (by unfold nmN;simp only [List.length_cons,List.length_map];omega)
  have hsN:sumN (((Xbn V.next (Xam l)).map λq=>(Xbc q.1,q.2.length+12)).reverse++nmN ts E)≤3600000:=by
   unfold sumN at *
   rw[List.map_append,List.sum_append,List.map_reverse,List.sum_reverse,List.map_map]
   have e9:((Xbn V.next (Xam l)).map ((λx:Str×Nat=>x.2) ∘ λq=>(Xbc q.1,q.2.length+12)))=(Xbn V.next (Xam l)).map λq=>q.2.length+12:=rfl
   rw[e9];omega
  obtain⟨w1,w2,w3⟩:=s2.write (L:=L) (i:=L.last) (p:=verS ⟨Xcb V.next (addF lv V.next (Xam l)),fs'⟩) (b:=262180) ⟨Int.le_refl _,by omega⟩ hL hv2 (List.mem_append_right _ List.mem_cons_self) (Nat.le_refl _) om9 (by
   simp only [List.length_append,List.length_reverse,List.length_map]
   unfold nmN
   simp only [List.length_cons,List.length_map];omega) (λhm=>by
   rcases List.mem_append.1 hm with hm|hm
   ·obtain⟨q,_,e9⟩:=List.mem_map.1 (List.mem_reverse.1 hm)
    exact absurd (congrArg List.head? e9) (by show¬ some (116:UInt8)=some 115;decide)
   ·exact X6c dc9 hm)
  rcases hr with⟨h1,_⟩|⟨_,rfl,rfl,⟨h1,_⟩|⟨_,rfl,rfl,rfl,tbs,htb,hts⟩⟩
  ·exact absurd s1 h1
  ·exact absurd w1 h1
  ·refine⟨rfl,by rw[w2],.inr ⟨rfl,?_⟩⟩
   rcases hch with⟨h9,_⟩|⟨_,_,hS⟩
   ·exact absurd rfl h9
   obtain⟨tbs2,k1,k2⟩:=hS.tabs h hg
   obtain⟨ktl,kat,kta⟩:=Xii k1
   have hid:∀t∈tbs2,V.next≤t.h.2:=λt ht=>by
    obtain⟨i,hi⟩:=List.getElem?_of_mem ht
    rw[(kat i t hi).1];show V.next≤V.next+↑i;omega
   have hvn:1≤V.next:=(Xbl h.isv).1
   have hfile:∀q∈Xbn V.next (Xam l),∃t∈tbs2,q.1=t.h.2∧q.2=recS (tblS t.cs):=λq hq=>by
    unfold Xbn at hq
    obtain⟨p,hp2,rfl⟩:=List.mem_map.1 hq
    obtain⟨i,hi⟩:=List.getElem?_of_mem hp2
    rw[Xcm]at hi
    obtain⟨sg,hsg,rfl⟩:=Option.map_eq_some_iff.1 hi
    obtain⟨t,ht,h1,h2⟩:=kta i sg hsg
    exact⟨t,List.mem_of_getElem? ht,by rw[h1],by rw[h2]⟩
   have htab:∀t∈tbs2,∃q∈Xbn V.next (Xam l),q.1=t.h.2∧q.2=recS (tblS t.cs):=λt ht=>by
    obtain⟨i,hi⟩:=List.getElem?_of_mem ht
    obtain⟨h1,h2⟩:=kat i t hi
    refine⟨(V.next+↑i,recS (tblS t.cs)),?_,by rw[h1],rfl⟩
    unfold Xbn
    refine List.mem_map.2 ⟨(t.cs,i),List.mem_of_getElem? (i:=i) ?_,rfl⟩
    rw[Xcm,h2];rfl
   refine⟨tbs2,k2,w3.to (λp _ hj=>?_) (Xps (λt ht=>?_)) (λs hs9=>?_),hid⟩
   ·obtain⟨q,hq,e1,e2⟩:=hj
    rcases List.mem_append.1 hq with hq|hq
    ·obtain⟨z,hz,rfl⟩:=List.mem_map.1 (List.mem_reverse.1 hq)
     obtain⟨t,ht,z1,z2⟩:=hfile z hz
     refine⟨nmT t,?_,?_,?_⟩
     ·unfold nmN
      rw[List.map_append]
      exact List.mem_cons_of_mem _ (List.mem_cons_of_mem _ (List.mem_append_right _ (List.mem_map_of_mem ht)))
     ·rw[e1];show Xbc z.1=Xbc t.h.2;rw[z1]
     ·show _≤100+20*wsum cW t.cs
      have h1:p.2.data.length≤z.2.length+12:=e2
      rw[z2,Xbi]at h1
      obtain⟨i,hi⟩:=List.getElem?_of_mem ht
      have h2:=Xxt (hseg t.cs (List.mem_of_getElem? (kat i t hi).2))
      omega
    ·refine⟨q,?_,e1,e2⟩
     unfold nmN at *
     rw[List.map_append]
     rcases List.mem_cons.1 hq with rfl|hq
     ·exact List.mem_cons_self
     ·rcases List.mem_cons.1 hq with rfl|hq
      ·exact List.mem_cons_of_mem _ List.mem_cons_self
      ·exact List.mem_cons_of_mem _ (List.mem_cons_of_mem _ (List.mem_append_left _ hq))
   ·rcases List.mem_append.1 ht with ht|ht
    ·have:=(h.lev ht).2.2.1;omega
    ·have:=hid t ht;omega
   ·rw[List.map_append]at hs9
    rcases List.mem_append.1 hs9 with h9|h9
    ·exact List.mem_append_right _ h9
    ·obtain⟨t,ht,rfl⟩:=List.mem_map.1 h9
     obtain⟨q,hq,q1,_⟩:=htab t ht
     refine List.mem_append_left _ (List.mem_reverse.2 (List.mem_map.2 ⟨q,hq,?_⟩))
     show Xbc q.1=_
     rw[q1]
end
section
variable {n lv:Int}{V V':Vs}{ts ts':List Tb}{mem mem' l:List Cell}{gone:List Fi}{L L':Led}{D D':Dsk}{dead dead' ok:Bool}{e:Int}{S i E:Nat}{M:List Rw}
theorem DI.mono {E':Nat}(h:DI D ts E)(hE:E≤E'):DI D ts E':=h.to (λp _ hj=>by
 obtain⟨q,hq,e1,e2⟩:=hj
 unfold nmN at *
 rcases List.mem_cons.1 hq with rfl|hq
 ·exact⟨_,List.mem_cons_self,e1,e2⟩
 ·rcases List.mem_cons.1 hq with rfl|hq
  ·exact⟨(Led.logn,E'),List.mem_cons_of_mem _ List.mem_cons_self,e1,Nat.le_trans e2 hE⟩
  ·exact⟨q,List.mem_cons_of_mem _ (List.mem_cons_of_mem _ hq),e1,e2⟩) (λq hq=>by
 unfold nmN at hq
 rcases List.mem_cons.1 hq with rfl|hq
 ·decide
 ·rcases List.mem_cons.1 hq with rfl|hq
  ·exact(by decide:Led.logn.getLast?≠some 126)
  ·exact h.tl q (List.mem_cons_of_mem _ (List.mem_cons_of_mem _ hq))) (λn hn=>hn)
theorem DI.log (h:DI D ts E):(D.old Led.logn).data.length≤E:=by
 unfold Dsk.old
 cases e:lk D.fs Led.logn with
 | none=>exact Nat.zero_le _
 | some f=>
  obtain⟨q,hq,e1,e2⟩:=h.js _ (Xqf e)
  have e1:Led.logn=q.1:=e1
  unfold nmN at hq
  rcases List.mem_cons.1 hq with rfl|hq
  ·exact absurd e1 dc9
  ·rcases List.mem_cons.1 hq with rfl|hq
   ·exact e2
   ·obtain⟨t,_,rfl⟩:=List.mem_map.1 hq
    exact absurd (congrArg List.head? e1) (by show¬ some (115:UInt8)=some 116;decide)
theorem Xxw {u k:Nat}{p:Str}(h:OkD D u k)(hd:L.dead=false)(hp:p.length≤65536)(hl:L.last<1099511627776)(hr:((u+p.length+32:Nat):Int)≤D.room)(hc:k<4096):(L.append D p).2.2.2={ D with fs:=setL D.fs Led.logn ⟨(D.old Led.logn).data++recS (Led.ent (L.last+1) p),((D.old Led.logn).data++recS (Led.ent (L.last+1) p)).length⟩ }:=by
 have he:=Xf7 (L.last+1) p
 have hrl:=Xbi (Led.ent (L.last+1) p)
 have ha:=Xxl (p:=recS (Led.ent (L.last+1) p)) h (name:=Led.logn) dc9 om9 hc
 have hy:=Xpq (D:=(D.app Led.logn (recS (Led.ent (L.last+1) p))).2) (n:=Led.logn) (f:=⟨(D.old Led.logn).data++recS (Led.ent (L.last+1) p),(D.old Led.logn).lasts⟩) (by rw[ha];exact h.fu) dc9 (by rw[ha];show lk (setL _ _ _) _=_;rw[Xe4,if_pos rfl])
 have hR:appR L D p=(0,{ D with fs:=setL D.fs Led.logn ⟨(D.old Led.logn).data++recS (Led.ent (L.last+1) p),((D.old Led.logn).data++recS (Led.ent (L.last+1) p)).length⟩ }):=by
  unfold appR
  rw[if_pos (by rw[ha]),hy,ha]
  dsimp only
  rw[Xe6]
 rw[Xh8 hd om9 (by rw[hR];simp),hR]
structure CI (S i:Nat)(L:Led)(D:Dsk)(ts:List Tb)(dead:Bool):Prop where
 al:dead=false
 ld:L.dead=false
 di:DI D ts (3*S+42*i)
theorem CI.nil : CI 0 0 led0 (dsk0 4194304) [] false:=⟨rfl,rfl,⟨rfl,rfl,List.nodup_nil,λp hp=>(by cases hp),Xps (λt ht=>(by cases ht)),λs hs=>(by cases hs)⟩⟩
theorem CI.mono {S' i':Nat}(h:CI S i L D ts dead)(hS:S≤S')(hi:i≤i'):CI S' i' L D ts dead:=⟨h.al,h.ld,h.di.mono om9⟩
theorem TI.wts (h:TI S i L V ts mem M)(hS:S≤60000):wsum cW (ts.flatMap (·.cs))≤60000∧wsum cW mem≤60000:=by
 have:=h.wt
 unfold allC at this
 rw[Xbu]at this;omega
theorem CI.write {b:List Rw}(h:CI S i L D ts dead)(hT:TI S i L V ts mem M)(hw:WrP L D mem dead b e L' D' mem' dead')(hS:S+(b.map rowW).sum≤60000)(hi:i≤60) :
  e=Xb4 b∧CI (S+(b.map rowW).sum) (i+1) L' D' ts dead'∧L'.last=L.last+(if Xb4 b=0 then 1 else 0):=by
 obtain⟨rfl,hL,hD⟩:=h
 rcases hw with⟨h1,_⟩|⟨_,h1,rfl,rfl,rfl,_,rfl⟩|⟨_,hc,hL',hD',hr⟩
 ·cases h1
 ·exact⟨rfl,⟨rfl,hL,hD.mono om9⟩,by rw[if_neg h1];omega⟩
 ·obtain⟨c1,c2,c3,_⟩:=Xgu hc
  have hbl:=Xi9 b
  have hnl:=Xak b.length
  have hb2:(batS b).length≤65536:=by unfold batS;rw[List.length_append];omega
  have hb3:=X6b b
  have hws:=(hT.wts om9).1
  have hcn:=hT.sto.cnt
  have hnm:=X2y ts (3*S+42*i)
  have hrm:=hD.rm
  have hl0:=hT.l0
  have hnl2:(nmN ts (3*S+42*i)).length<4096:=by unfold nmN;simp only [List.length_cons,List.length_map];omega
  obtain⟨a1,a2,a3,_⟩:=Xn7 (p:=batS b) hD.ok hL hb2 om9 (by rw[hrm,hnm];omega) hnl2
  have a5:=Xxw (p:=batS b) hD.ok hL hb2 om9 (by rw[hrm,hnm];omega) hnl2
  rcases hr with⟨h4,_⟩|⟨_,rfl,_,rfl⟩
  ·exact absurd a2 h4
  ·refine⟨hc.symm,⟨rfl,by rw[hL',a3];exact hL,?_⟩,by rw[if_pos hc,hL',a3];unfold Led.last;simp;omega⟩
   have hD2:DI D ts (3*(S+(b.map rowW).sum)+42*(i+1)):=hD.mono om9
   have hlog:=hD.log
   have he:=Xf7 (L.last+1) (batS b)
   have hrl:=Xbi (Led.ent (L.last+1) (batS b))
   rw[hD',a5]
   refine⟨hD.fu,hD.rm,Xd4 _ _ hD.nd,λp hp=>?_,hD2.tl,λs hs=>Xrz (hD2.hs s hs)⟩
   rcases Xgo hp with rfl|hp
   ·refine⟨(Led.logn,3*(S+(b.map rowW).sum)+42*(i+1)),List.mem_cons_of_mem _ List.mem_cons_self,rfl,?_⟩
    show((D.old Led.logn).data++recS (Led.ent (L.last+1) (batS b))).length≤_
    rw[List.length_append];omega
   ·exact hD2.js p hp
theorem Xn8 (h:Sto n V ts mem)(hn:n≤60){m:List Cell}(hm:∀c∈m,c∈allC mem ts):∀c∈m,c.seq≤127:=λc hc=>by
 have:=(h.okc c (hm c hc)).2;omega
theorem CI.flush (h:CI S i L D ts dead)(hT:TI S i L V ts mem M)(hf:FluP L D V ts mem dead ok e L' D' V' ts' mem' dead')(hS:S≤60000)(hi:i≤60):CI S i L' D' ts' dead':=by
 have hl0:=hT.l0
 have hws:=hT.wts hS
 obtain⟨rfl,hL,hD⟩:=h
 rcases hf with⟨h1,_⟩|⟨_,_,_,_,rfl,rfl,_,rfl,_,rfl⟩|⟨_,_,m,hm,hC,_⟩
 ·cases h1
 ·exact⟨rfl,hL,hD⟩
 ·have hsub:=Xnr hm
  have hmw:=Xjn (g:=cW) hm
  obtain⟨k1,k2,k3⟩:=Xr0 hC hT.sto (λf hf=>(by cases hf)) hD hL om9 om9 hws.1 om9 (Xn8 hT.sto om9 λc hc=>Xar.2 (.inl (hsub.2 c hc)))
  refine⟨k1,k2,?_⟩
  rcases k3 with⟨k3,k4⟩|⟨k3,tbs,k4,k5,_⟩
  ·rcases(Xc3 hC).2 with⟨_,_,rfl⟩|⟨h9,_⟩
   ·exact k4
   ·exact absurd h9 k3
  ·have k0:ts.filter (kp [])=ts:=List.filter_eq_self.2 λt _=>rfl
   rw[k0]at k4
   rw[k4];exact k5
theorem Xkv {α β:Type}{f:α->β} : ∀ {l:List α},l.Nodup->(∀x∈l,∀y∈l,f x=f y->x=y)->(l.map f).Nodup
 | [],_,_=>List.nodup_nil
 | a :: r,h,hi=>by
  rw[List.nodup_cons]at h
  rw[List.map_cons,List.nodup_cons]
  refine⟨λhm=>?_,Xkv h.2 (λx hx y hy=>hi x (List.mem_cons_of_mem _ hx) y (List.mem_cons_of_mem _ hy))⟩
  obtain⟨x,hx,e⟩:=List.mem_map.1 hm
  exact h.1 (by rw[←hi x (List.mem_cons_of_mem _ hx) a List.mem_cons_self e];exact hx)
theorem CI.comp {did:Bool}(h:CI S i L D ts dead)(hT:TI S i L V ts mem M)(hf:CmpP L D V ts mem dead did e L' D' V' ts' mem' dead')(hS:S≤60000)(hi:i≤60):CI S i L' D' ts' dead':=by
 have hl0:=hT.l0
 rcases hf with⟨h1,_,_,rfl,rfl,rfl,rfl,rfl,rfl⟩|⟨_,_,_,_,rfl,rfl,_,rfl,_,rfl⟩|⟨rfl,_,ok,e1,L1,D1,V1,ts1,mem1,dead1,hF,hr⟩
 ·exact h
 ·exact h
 ·have h1:=h.flush hT hF hS hi
  have hT1:=hT.flush hF
  rcases hr with⟨_,_,_,rfl,rfl,_,rfl,_,rfl⟩|⟨rfl,p,lv,m,e2,D2,dead2,_,hP,hm,hC,rfl,hr⟩
  ·exact h1
  ·obtain⟨_,rfl,hSt,_⟩:=Xpn hT.sto hF
   obtain⟨rfl,hL1,hD1⟩:=h1
   have hl1:=hT1.l0
   have hSt:=hT1.sto
   have hws:=hT1.wts hS
   have hpV:∀f∈p,f∈V1.fs:=λf hf=>(hP.sub f hf).1
   have hq1:∀c∈Xcc ts1 p,c∈allC [] ts1:=λc hc=>by
    obtain⟨t,ht,_,h2⟩:=(Xhp hSt hpV).1 hc
    exact Xar.2 (.inr ⟨t,ht,h2⟩)
   have hsub:=Xnr hm
   have hmw:=Xjn (g:=cW) hm
   have hcw:=Xjp (g:=cW) (ts:=ts1) hP.nod
   have hpt:=Xly (λt:Tb=>wsum cW t.cs) (kp p) ts1
   have hfw:wsum cW (m.filter (Xb0 V1.fs ↑lv))≤wsum cW m:=Xlx List.filter_sublist
   have hw9:=Xg8 (g:=cW) ts1
   obtain⟨k1,k2,k3⟩:=Xr0 hC hSt hpV hD1 hL1 om9 om9 hws.1 om9 (Xn8 hSt om9 λc hc=>hq1 c (hsub.2 c (List.mem_filter.1 hc).1))
   have hids:=(Xbl hSt.isv).2.2.2.2.1
   have hok9:=(Xbl hSt.isv).2.2.2.1
   have hnx9:=(Xbl hSt.isv).2.1
   rcases k3 with⟨k3,k4⟩|⟨k3,tbs,k4,k5,k6⟩
   ·rcases(Xc3 hC).2 with⟨_,_,rfl⟩|⟨h9,_⟩
    ·rcases hr with⟨_,_,_,rfl,rfl⟩|⟨h9,_⟩
     ·exact⟨k1,k2,k4⟩
     ·exact absurd h9 k3
    ·exact absurd h9 k3
   ·subst k3
    have hnin:∀s∈p.map (λf=>Xbc f.id),s∉ts'.map λt=>Xbc t.h.2:=λs hs hs2=>by
     obtain⟨f,hf,rfl⟩:=List.mem_map.1 hs
     obtain⟨t,ht,e9⟩:=List.mem_map.1 hs2
     have hf1:=Xbr (hok9 f (hpV f hf))
     rw[k4]at ht
     rcases List.mem_append.1 ht with ht|ht
     ·obtain⟨ht1,ht2⟩:=List.mem_filter.1 ht
      obtain⟨g,hg,hv⟩:=hSt.bwd t ht1
      have hg1:=Xbr (hok9 g hg)
      rw[hv.h]at e9
      have e8:=Xjv (by show 0≤g.id;omega) om9 e9
      have e7:g=f:=Xel hids hg (hpV f hf) e8
      exact Xfw.1 ht2 f hf (by rw[hv.h,e7])
     ·have h9:=k6 t ht
      have e8:=Xjv om9 om9 e9
      omega
    have hD3:DJ D2 (nmN (ts1++tbs) (3*S+42*i)) (ts'.map λt=>Xbc t.h.2):=k5.to (λ_ _ hj=>hj) k5.tl (λs hs=>by
     obtain⟨t,ht,rfl⟩:=List.mem_map.1 hs
     rw[k4]at ht
     refine List.mem_map.2 ⟨t,?_,rfl⟩
     rcases List.mem_append.1 ht with ht|ht
     ·exact List.mem_append_left _ (List.mem_filter.1 ht).1
     ·exact List.mem_append_right _ ht)
    obtain⟨d1,d2⟩:=DJ.dels (p.map λf=>Xbc f.id) D2 hD3 hnin
    have hre:=Xl1 (p.map λf=>Xbc f.id) D2 k5.fu (λs hs=>by
     obtain⟨f,hf,rfl⟩:=List.mem_map.1 hs
     have hf1:=Xbr (hok9 f (hpV f hf))
     have hsz:=Xry (n:=f.id) om9 om9
     obtain⟨t,ht,hv⟩:=hSt.fwd f (hpV f hf)
     refine⟨⟨hsz.1,by omega⟩,k5.hs _ (List.mem_map.2 ⟨t,List.mem_append_left _ ht,?_⟩)⟩
     rw[hv.h]) (Xkv (Xpm _ hP.nod) (λx hx y hy e9=>by
     have hx1:=Xbr (hok9 x (hpV x hx))
     have hy1:=Xbr (hok9 y (hpV y hy))
     exact Xel hids (hpV x hx) (hpV y hy) (Xjv om9 om9 e9)))
    rcases hr with⟨h9,_⟩|⟨_,rfl,hr⟩
    ·exact absurd rfl h9
    ·rw[hre]at hr ⊢
     rcases hr with⟨h9,_⟩|⟨_,_,_,rfl⟩
     ·exact absurd rfl h9
     ·refine⟨k1,k2,d1.to (λq hq hj=>?_) (Xps (λt ht=>?_)) (λs hs=>hs)⟩
      ·obtain⟨z,hz,e1,e2⟩:=hj
       unfold nmN at *
       rcases List.mem_cons.1 hz with rfl|hz
       ·exact⟨_,List.mem_cons_self,e1,e2⟩
       ·rcases List.mem_cons.1 hz with rfl|hz
        ·exact⟨_,List.mem_cons_of_mem _ List.mem_cons_self,e1,e2⟩
        ·obtain⟨t,ht,rfl⟩:=List.mem_map.1 hz
         refine⟨nmT t,List.mem_cons_of_mem _ (List.mem_cons_of_mem _ (List.mem_map_of_mem ?_)),e1,e2⟩
         rw[k4]
         rcases List.mem_append.1 ht with ht|ht
         ·refine List.mem_append_left _ (List.mem_filter.2 ⟨ht,?_⟩)
          refine Xfw.2 λf hf e9=>(d2 q hq).2 ?_
          rw[e1]
          exact List.mem_map.2 ⟨f,hf,by show Xbc f.id=Xbc t.h.2;rw[e9]⟩
         ·exact List.mem_append_right _ ht
      ·rw[k4]at ht
       rcases List.mem_append.1 ht with ht|ht
       ·have:=(hSt.lev (List.mem_filter.1 ht).1).2.2.1;omega
       ·have:=k6 t ht
        have:=(Xbl hSt.isv).1
        omega
theorem Xr1 (hf:FluP L D V ts mem dead ok e L' D' V' ts' mem' dead'):L'.last=L.last:=by
 rcases hf with⟨_,_,_,rfl,_⟩|⟨_,_,_,_,rfl,_⟩|⟨_,_,m,_,hC,_⟩
 ·rfl
 ·rfl
 ·exact(Xc3 hC).1.1
theorem X0r {did:Bool}(hf:CmpP L D V ts mem dead did e L' D' V' ts' mem' dead'):L'.last=L.last:=by
 rcases hf with⟨_,_,_,rfl,_⟩|⟨_,_,_,_,rfl,_⟩|⟨_,_,ok,e1,L1,D1,V1,ts1,mem1,dead1,hF,hr⟩
 ·rfl
 ·rfl
 ·have h1:=Xr1 hF
  rcases hr with⟨_,_,_,rfl,_⟩|⟨_,p,lv,m,e2,D2,dead2,_,_,_,hC,_⟩
  ·exact h1
  ·exact(Xc3 hC).1.1.trans h1
theorem X0s {l:List Rw}{r:Rw}(h:r∈l):r.key.length+r.val.length≤(l.map rowW).sum:=by
 induction l with
 | nil=>cases h
 | cons a t ih=>
  rw[List.map_cons,List.sum_cons]
  rcases List.mem_cons.1 h with rfl|h
  ·unfold rowW;omega
  ·have:=ih h;omega
end
theorem Xxx (κ:Nat->Nat)(bs bd bl bo bm:Nat)(vf:Value)(L:Led)(D:Dsk)(V:Vs)(ts:List Tb)(mem:List Cell)(dead:Bool)(n:Int)(w:World)(h:StE κ bs bd bl bo bm vf L D V ts mem dead w)(hSt:Sto n V ts mem)(hn:n≤1099511627776)(hal:(allC mem ts).length≤30000)(hgv:GV w)(hgvs:∀k,gvS k->κ k=0) :
  Calls Tryz.prog 16 [ptr bs 0].toArray w (Does (λk=>κ k≠0) w (λu w'=>∃did e κ' bm' vf' L' D' V' ts' mem' dead',u=.tuple #[B did,I e]∧(∀k,k<w.heap.size->κ' k=κ k)∧StE κ' bs bd bl bo bm' vf' L' D' V' ts' mem' dead' w'∧CmpP L D V ts mem dead did e L' D' V' ts' mem' dead')):=by
 refine cw Tryz.func16 ?_
 have hx:=Vc.Mod.refl (λk=>κ k≠0) w
 have hS:=h
 have hκ0:∀k,w.heap.size≤k->κ k=0:=λk hk=>Decidable.byContradiction λh9=>by have:=h.lt k h9;omega
 have hV:=hSt.isv
 obtain⟨_,_,hvl,_⟩:=Xbl hV
 have hvl2:V.fs.length≤1024:=hvl
 have hml:mem.length≤30000:=by unfold allC at hal;rw[List.length_append]at hal;omega
 have hmc:=λc (hc:c∈mem)=>hSt.cellsB hn c (Xar.2 (.inl hc))
 have htl:=hSt.tlen
 refine ws λ_ Z1=>wr (Xbf rfl rfl rfl RX.all (λb1 w1 e1 x1 m1=>?_))
 have g1:=hx.ge e1
 have a1_hS:=hS.lt
 replace hS:=hS.ext x1
 replace hx:=hx.ext x1
 refine da (da (de Z1 (ws λ_ Z2=>ws λ_ Z3=>wr ?_)))
 refine dl rfl (m1.at rfl) (cP (Xo1 bs bd bl V.next vf bo bm dead _ hS.m) RX.all λw2 x2=>?_)
 replace hS:=hS.ext x2
 replace m1:=m1.ext x2
 replace hx:=hx.ext x2
 refine da (de Z3 (ws λ_ Z4=>wr (dm ?_)))
 refine dp (Xas rfl rfl) (de Z4 (wi (λc1=>?_) λc1=>?_))
 ·refine ws λ_ Z5=>wr (dm (da (da (de Z5 (Xad ?_)))))
  refine rt ?_
  have hd1:dead=true:=by cases dead with|true=>rfl|false=>exact absurd rfl c1
  subst hd1
  exact⟨_,rfl,hx,false,9,κ,bm,vf,L,D,V,ts,mem,true,rfl,λ_ _=>rfl,hS,.inl ⟨rfl,rfl,rfl,rfl,rfl,rfl,rfl,rfl,rfl⟩⟩
 have hd0:dead=false:=by cases dead with|false=>rfl|true=>exact absurd dc9 c1
 subst hd0
 refine Xaa (Z2 _ _ (ws λ_ Z6=>ws λ_ Z7=>wr (dl rfl (m1.at rfl) (dz rfl (df 2 rfl (dq (Xac kr9 rfl rfl (hS.m.part 2 2)) (cG (X2s V.next V.fs vf _ hS.vs om9 hV) RX.all λu3 w3 x3 hf3=>?_)))))))
 have hsz3:=hx.size
 replace hS:=hS.ext x3
 replace m1:=m1.ext x3
 replace hx:=hx.ext x3
 obtain⟨vp0,rfl,_⟩:=hf3
 refine dm ?_
 refine dx rfl rfl (dx rfl rfl (da (da (de Z7 (ws λ_ Z8=>wr (dm ?_))))))
 refine dn (de Z8 ?_)
 refine wc (λc2=>?_) λc2=>?_
 ·refine ws λ_ Z9=>wr (da (da (de Z9 (Xad ?_))))
  refine rt ?_
  exact⟨_,rfl,hx,false,0,κ,bm,vf,L,D,V,ts,mem,false,rfl,λ_ _=>rfl,hS,.inr (.inl ⟨rfl,by simpa using c2,rfl,rfl,rfl,rfl,rfl,rfl,rfl,rfl⟩)⟩
 have hdue:(Xem V.fs).isSome=true:=by simpa using c2
 refine Xaa (Z6 _ _ (ws λ_ Z10=>ws λ_ Z11=>wr (dl rfl (m1.at rfl) ?_)))
 have hszc:=hx.size
 have hm1l:=m1.lt
 refine cD (Xlu κ bs bd bl bo bm vf L D V ts mem false _ hS hml hmc hV (hgv.mod hx (λk hk e=>e (hgvs k hk))) hgvs om9) (.inl rfl) λu4 w4 x4 hf4=>?_
 have hsz4:=hx.size
 replace m1:=m1.mod x4 (λe=>e (hκ0 b1 om9))
 replace hx:=hx.own x4 (λi hi hlt=>hi)
 obtain⟨ok,e1,κ1,bm,vf,L1,D1,V,ts1,mem1,dead,rfl,hmv,hS9,hFl⟩:=hf4
 have hS:=hS9
 have hmv1:∀k,k<w.heap.size->κ1 k=κ k:=λk hk=>hmv k (Nat.lt_of_lt_of_le hk hszc)
 have hb1z:κ1 b1=0:=(hmv b1 hm1l).trans (hκ0 b1 om9)
 obtain⟨N0,hN0⟩:∃z,z=w4.heap.size:=⟨_,rfl⟩
 have hlt1:=hS.lt
 rw[←hN0]at hlt1
 have hszN:w.heap.size≤N0:=by rw[hN0];exact hx.size
 have hSz:Sz N0 w4:=⟨Nat.le_of_eq hN0⟩
 have hb1N:b1<N0:=by rw[hN0];exact m1.lt
 have hk1z:∀k,N0≤k->κ1 k=0:=λk hk=>Decidable.byContradiction λh9=>by have:=hlt1 k h9;omega
 refine dm ?_
 refine dx rfl rfl (dx rfl rfl (da (da (de Z11 (ws λ_ Z12=>wr (dm ?_))))))
 refine dp (Xas rfl rfl) (de Z12 (wi (λc3=>?_) λc3=>?_))
 ·refine ws λ_ Z13=>wr (dm (da (da (de Z13 (Xad ?_)))))
  refine rt ?_
  exact⟨_,rfl,hx,false,e1,κ1,bm,vf,L1,D1,V,ts1,mem1,dead,rfl,hmv1,hS,.inr (.inr ⟨rfl,hdue,ok,e1,L1,D1,V,ts1,mem1,dead,hFl,.inl ⟨c3,rfl,rfl,rfl,rfl,rfl,rfl,rfl,rfl⟩⟩)⟩
 have he1:e1=0:=Decidable.of_not_not c3
 subst he1
 obtain⟨hd1,rfl,hS1,hsub,hln,hpk,_⟩:=Xpn hSt hFl
 obtain⟨p,hp⟩:=Option.isSome_iff_exists.1 (hpk hdue)
 obtain⟨lv,hP⟩:=X8y hS1.isv hp
 obtain⟨f0,hp0,hf0⟩:=hP.hd
 have hlo:=hP.lo
 have mp9:=hS.mp.at
 obtain⟨_,_,hvl1,hvo1,_⟩:=Xbl hS1.isv
 have hvl3:V.fs.length≤1024:=hvl1
 have hpl:=hP.len
 have htl1:=hS1.tlen
 have hlv1:∀f∈V.fs,0≤f.lev∧f.lev≤4:=λf hf=>by have:=Xbr (hvo1 f hf);exact⟨this.2.2.1,this.2.2.2.1⟩
 refine Xaa (Z10 _ _ (ws λ_ Z14=>wr (dl rfl (m1.at rfl) (dz rfl (df 2 rfl (dq (Xac kr9 rfl rfl (hS.m.part 2 2)) ?_))))))
 have hNb:=hSz.le
 refine cG (X2s V.next V.fs vf _ hS.vs om9 hS1.isv) RX.all λu5 w5 x5 hf5=>?_
 have hsz5:=hx.size
 replace m1:=m1.ext x5
 replace hS:=hS.ext x5
 replace mp9:=mp9.ext x5
 replace hSz:=hSz.ext x5
 replace hx:=hx.ext x5
 obtain⟨vp,rfl,hoP0⟩:=hf5
 have hoP:Vc.Own Fi.cs 5 62 N0 w5 vp p:=by rw[hp]at hoP0;exact hoP0.mono hNb
 refine dm ?_
 refine dx rfl rfl (dx rfl rfl (da (da (de Z14 (ws λ_ Z15=>wr (dm ?_))))))
 refine di 62 5 (hoP.arr ir9).sl rfl ((hoP.arr ir9).lt hp0) (df 1 rfl (dl rfl (((hoP.arr ir9).row hp0).at rfl) (Xa2 (v:=I ↑lv) rfl (Xa7 rfl rfl (by unfold Xai;omega)) (by show I _=I _;rw[←hf0]) (Xan (cs:=[.int .i64 0]) rfl kr9 RX.all (λb2 w6 e2 x6 m2=>?_)))))
 have g2:=hx.ge e2
 have n2_1:=m1.ltb e2
 have n2_mp9:=mp9.lt
 have a2_hS:=hS.lt
 have a2_hSz:=hSz.le
 have o2_hoP:=hoP.ltb e2
 replace m1:=m1.ext x6
 replace hS:=hS.ext x6
 replace mp9:=mp9.ext x6
 replace hSz:=hSz.ext x6
 replace hoP:=hoP.ext x6
 replace hx:=hx.ext x6
 refine st1 m2 (λw7 x7 xs7 m2=>?_) (hv:=by first|rfl|exact isSl.one m1.sl|exact isSl.one hS.sl|exact isSl.one mp9.sl|exact isSl.one hSz.sl|exact isSl.one hoP.sl|exact isSl.one (hoP.arr ir9).sl)
 try dsimp only [Xal,List.set,List.take,List.drop]at m2
 try replace m1:=m1.mo x7
 replace hS:=hS.mod x7 (λk9 h9 e9=>by have h2:k9=b2:=e9;first|(have h8:=hlt1 k9 h9;have h7:=hSz.le;omega)|(have h8:=h.lt k9 h9;omega))
 replace mp9:=mp9.mod x7 (by intro h;have h2:_=b2:=h;omega)
 replace hSz:=hSz.mod x7 trivial
 try replace hoP:=hoP.mod x7 (by first|assumption|(intro k hk h;have h1:=(hoP.lt k hk).1;have h2:k=b2:=h;omega)|(intro k hk h;have h1:=o2_hoP k hk;have h2:k=b2:=h;omega)|(intro h;have h2:_=b2:=h;omega)|(intro hl h;have h1:=a2_hoP hl;have h2:_=b2:=h;omega))
 replace hx:=hx.o1 x7
 refine de Z15 (ws λ_ Z16=>wr (da (de Z16 (ws λ_ Z17=>wr (da (de Z17 (ws λ_ Z18=>ws λ_ Z19=>wr (dm ?_))))))))
 refine dv 62 5 (hoP.arr ir9).sl (dm (de Z19 (Xab ?_)))
 refine Xaj (G:=Nat×List (Value×List Cell)×Value×Value) (λ(k,qs,vr,vn)=>[(1,ptr b1 0),(2,.bool false),(3,I 0),(9,vp),(11,ptr b2 0),(12,vr),(13,vn),(55,vp),(56,I ↑p.length),(57,I ↑k)]) (λ(k,qs,vr,vn) w'=>Mod (λk=>κ k≠0) w w'∧Blk w' b1 [ptr bs 0] 28∧StE κ1 bs bd bl bo bm vf L1 D1 V ts1 [] dead w'∧Vc.Xbo Tryz.prog 104 kvII pO w' bo (ts1.map Tb.kv).length (lk (ts1.map Tb.kv))∧Sz N0 w'∧Vc.Own Fi.cs 5 62 N0 w' vp p∧Blk w' b2 [I ↑lv] 3∧k≤p.length∧qs.map (·.2)=(p.take k).map (cOf ts1)∧Vc.Own encQ 1 95 N0 w' vr qs∧QsE N0 qs w'∧Vc.Own sEnc 1 9 N0 w' vn ((p.take k).map λf=>Xbc f.id)) (λ(k,qs,vr,vn)=>p.length-k) (0,[],.slice none 0 0,.slice none 0 0) ?_ ?_ ?_
 ·exact zz10
 ·exact⟨hx,m1,hS,mp9,hSz,hoP,m2,Nat.zero_le _,rfl,Vc.Own.nil,⟨λq hq=>(by cases hq)⟩,Vc.Own.nil⟩
 intro X8 g8 w8 hF8
 obtain⟨k,qs,vr,vn⟩:=g8
 clear hx m1 hS mp9 hSz hoP m2
 obtain⟨hx,m1,hS,mp9,hSz,hoP,m2,hk1,hqs,hoQ,hQ,hoN⟩:=hF8
 refine ws λ_ Z20=>wr (dp (Xaf rfl rfl) (de Z20 (ws λ_ Z21=>wi (λc4=>?_) λc4=>?_)))
 ·obtain⟨f,hk⟩:∃f,p[k]?=some f:=gtE
  have hfp:=hP.sub f (List.mem_of_getElem? hk)
  obtain⟨t,htm,hTV⟩:=hS1.fwd f hfp.1
  have ht:Xcf ts1 (f.lev,f.id)=some t:=by rw[←hTV.h];exact Xlv hS1.nod htm
  have hff:=Xjj hS1.isv f hfp.1
  have hql:=congrArg List.length hqs
  rw[List.length_map,List.length_map,List.length_take]at hql
  refine Xaa (Z21 _ _ (ws λ_ Z22=>Xab (ws λ_ Z23=>wr (di 62 5 (hoP.arr ir9).sl rfl ((hoP.arr ir9).lt hk) (dq (Xac kr9 rfl rfl ((hoP.arr ir9).row hk)) (Xan (cs:=[.int .i64 0,.int .i64 0,.int .i64 0,S [],S []]) rfl kr9 RX.all (λb3 w9 e3 x9 m3=>?_)))))))
  have g3:=hx.ge e3
  have n3_1:=m1.ltb e3
  have n3_2:=m2.ltb e3
  have n3_mp9:=mp9.lt
  have a3_hS:=hS.lt
  have a3_hSz:=hSz.le
  have o3_hoP:=hoP.ltb e3
  have o3_hoQ:=hoQ.ltb e3
  have a3_hQ:=hQ.lt
  have o3_hoN:=hoN.ltb e3
  replace m1:=m1.ext x9
  replace hS:=hS.ext x9
  replace mp9:=mp9.ext x9
  replace hSz:=hSz.ext x9
  replace hoP:=hoP.ext x9
  replace m2:=m2.ext x9
  replace hoQ:=hoQ.ext x9
  replace hQ:=hQ.ext x9
  replace hoN:=hoN.ext x9
  replace hx:=hx.ext x9
  refine stA m3 (λw10 x10 xs10 m3=>?_)
  try dsimp only [Xal,List.set,List.take,List.drop]at m3
  try replace m1:=m1.mo x10
  replace hS:=hS.mod x10 (λk9 h9 e9=>by have h2:k9=b3:=e9;first|(have h8:=hlt1 k9 h9;have h7:=hSz.le;omega)|(have h8:=h.lt k9 h9;omega))
  replace mp9:=mp9.mod x10 (by intro h;have h2:_=b3:=h;omega)
  replace hSz:=hSz.mod x10 trivial
  try replace hoP:=hoP.mod x10 (by first|assumption|(intro k hk h;have h1:=(hoP.lt k hk).1;have h2:k=b3:=h;omega)|(intro k hk h;have h1:=o3_hoP k hk;have h2:k=b3:=h;omega)|(intro h;have h2:_=b3:=h;omega)|(intro hl h;have h1:=a3_hoP hl;have h2:_=b3:=h;omega))
  try replace m2:=m2.mo x10
  try replace hoQ:=hoQ.mod x10 (by first|assumption|(intro k hk h;have h1:=(hoQ.lt k hk).1;have h2:k=b3:=h;omega)|(intro k hk h;have h1:=o3_hoQ k hk;have h2:k=b3:=h;omega)|(intro h;have h2:_=b3:=h;omega)|(intro hl h;have h1:=a3_hoQ hl;have h2:_=b3:=h;omega))
  replace hQ:=hQ.mod x10 (λq hq k hk e9=>by have h2:k=b3:=e9;have h8:=a3_hQ q hq k hk;omega)
  try replace hoN:=hoN.mod x10 (by first|assumption|(intro k hk h;have h1:=(hoN.lt k hk).1;have h2:k=b3:=h;omega)|(intro k hk h;have h1:=o3_hoN k hk;have h2:k=b3:=h;omega)|(intro h;have h2:_=b3:=h;omega)|(intro hl h;have h1:=a3_hoN hl;have h2:_=b3:=h;omega))
  replace hx:=hx.o1 x10
  refine de Z23 (ws λ_ Z24=>Xaq (R:=Mod (λk=>vr.ownBlock=some k)) Xc5 Xcy kr9 [1,4,6,8,10] [(0,.p,false),(1,.l,false),(2,.p,false),(3,.p,false),(4,.l,false),(5,.p,false),(6,.l,false),(7,.p,false),(8,.l,false),(9,.p,false),(10,.l,false),(11,.x,false),(12,.x,false),(13,.x,false),(14,.p,false)] rfl kr9 kr9 (λw11 ew11=>?_))
  have x11:=drewx ew11
  clear ew11
  replace m1:=m1.ext x11
  replace hS:=hS.ext x11
  replace mp9:=mp9.ext x11
  replace hSz:=hSz.ext x11
  replace hoP:=hoP.ext x11
  replace m2:=m2.ext x11
  replace hoQ:=hoQ.ext x11
  replace hQ:=hQ.ext x11
  replace hoN:=hoN.ext x11
  replace m3:=m3.ext x11
  replace hx:=hx.ext x11
  refine dm ?_
  refine dL rfl (λ_ hR=>((m1.mod hR (λe=>by have h8:=(hoQ.lt _ e).1;omega)).at rfl)) (dz rfl (df 4 rfl (dL rfl (λ_ hR=>((hS.m.mod hR (λe=>by have h8:=(hoQ.lt _ e).1;have h7:=hlt1 bs (by rw[hS.k0];decide);omega)).at rfl)) (df 1 rfl (dL rfl (λ_ hR=>((m3.mod hR (λe=>hoQ.ne_blk m3 rfl e)).at rfl)) (df 0 rfl (dL rfl (λ_ hR=>((m3.mod hR (λe=>hoQ.ne_blk m3 rfl e)).at rfl)) (db (zs:=[.int .i64 0,.int .i64 0]) (pl:=[(0,1),(1,1)]) (pv:=[(0,_),(1,_)]) (cs:=[_,_]) ?_))))))))
  refine D_l (v:=ptr t.bt 0) rfl (λw' hR=>LV.to (Xee Xzv (kx:=(f.lev,f.id)) (z0:=none) rfl rfl kr9 (mp9.mod hR (mp9.ne_own hoQ)) ⟨hff.2,hff.1⟩) (by rw[Xv8];exact Xv5 ht)) ?_
  have hNb:=hSz.le
  refine cG (X4s t.bt t.vl t.vb t.cs [] [] _ (hS.tb t htm)) RX.mod λvt w12 x12 hoT0=>?_
  have hsz12:=hx.size
  replace m1:=m1.ext x12
  replace hS:=hS.ext x12
  replace mp9:=mp9.ext x12
  replace hSz:=hSz.ext x12
  replace hoP:=hoP.ext x12
  replace m2:=m2.ext x12
  replace hoQ:=hoQ.ext x12
  replace hQ:=hQ.ext x12
  replace hoN:=hoN.ext x12
  replace m3:=m3.ext x12
  replace hx:=hx.ext x12
  rw[Xq3]at hoT0
  have hoT:=hoT0.mono hNb
  refine Xd2 (e:=95) (sz:=1) (zs:=[.slice none 0 0]) (pv:=[(0,?a37_0)]) (cs:=[?a37_0]) rfl kr9 ⟨rfl,rfl⟩ kr9 rfl ?h37 ?f37 RX.mod (λb4 w13 e4 x13 m4=>?k37)
  case h37=>refine⟨rfl,?_,trivial⟩<;>(conv=>lhs;whnf)
  case f37=>simp [Xcq,Xal,List.replicate,hoT.sl.cells]
  have g4:=hx.ge e4
  have n4_1:=m1.ltb e4
  have n4_2:=m2.ltb e4
  have n4_3:=m3.ltb e4
  have n4_mp9:=mp9.lt
  have a4_hS:=hS.lt
  have a4_hSz:=hSz.le
  have o4_hoP:=hoP.ltb e4
  have o4_hoQ:=hoQ.ltb e4
  have a4_hQ:=hQ.lt
  have o4_hoN:=hoN.ltb e4
  replace m1:=m1.ext x13
  replace hS:=hS.ext x13
  replace mp9:=mp9.ext x13
  replace hSz:=hSz.ext x13
  replace hoP:=hoP.ext x13
  replace m2:=m2.ext x13
  replace hoQ:=hoQ.ext x13
  replace hQ:=hQ.ext x13
  replace hoN:=hoN.ext x13
  replace m3:=m3.ext x13
  replace hoT:=hoT.ext x13
  replace hx:=hx.ext x13
  refine Xa6 (lx:=[(vt,t.cs)]) (e:=95) (sz:=1) (by':=24) rfl kr9 kr9 ir9 hoQ (m4.arr (enc:=encQ) (sz:=1) (l:=[(vt,t.cs)]) rfl ir9 rfl (Nat.le_of_ble_eq_true rfl)) rfl rfl (by intro x hx9 u hu;rw[List.mem_singleton.1 hx9]at hu;simp at hu;rw[hu];exact hoT.sl.one) (by simp;omega) dc9 hSz.le (.inr λ_ h=>h) (λvq w14 hoQ_n x14=>?_)
  try replace m1:=m1.mod x14 (by first|(intro h;have h2:b1=b1:=Option.some.inj h;omega)|(intro h;have h1:=(hoQ.lt _ h).1;omega)|(intro h;have h1:=o1_hoQ _ h;omega)|(intro h;exact hoQ.ne_blk m1 rfl h))
  try replace hS:=hS.mod x14 (by first|exact(λk hk e=>absurd (hlt1 k hk) (Nat.not_lt.2 (hoQ.lt k e).1))|exact hQ.ne hoQ rfl|exact(λk hk=>hoN.ne hoQ rfl hk)|exact(λk hk=>hoP.ne hoQ rfl hk)|exact(λk hk=>hoT.ne hoQ rfl hk)|exact(λk hk=>hoQ.ne hoQ rfl hk)|trivial)
  replace mp9:=mp9.mod x14 (mp9.ne_own hoQ)
  try replace hSz:=hSz.mod x14 (by first|exact(λk hk e=>absurd (hlt1 k hk) (Nat.not_lt.2 (hoQ.lt k e).1))|exact hQ.ne hoQ rfl|exact(λk hk=>hoN.ne hoQ rfl hk)|exact(λk hk=>hoP.ne hoQ rfl hk)|exact(λk hk=>hoT.ne hoQ rfl hk)|exact(λk hk=>hoQ.ne hoQ rfl hk)|trivial)
  try replace hoP:=hoP.mod x14 (by first|exact(λk hk e=>absurd (hlt1 k hk) (Nat.not_lt.2 (hoQ.lt k e).1))|exact hQ.ne hoQ rfl|exact(λk hk=>hoN.ne hoQ rfl hk)|exact(λk hk=>hoP.ne hoQ rfl hk)|exact(λk hk=>hoT.ne hoQ rfl hk)|exact(λk hk=>hoQ.ne hoQ rfl hk)|trivial)
  try replace m2:=m2.mod x14 (by first|(intro h;have h2:b2=b2:=Option.some.inj h;omega)|(intro h;have h1:=(hoQ.lt _ h).1;omega)|(intro h;have h1:=o2_hoQ _ h;omega)|(intro h;exact hoQ.ne_blk m2 rfl h))
  try replace hQ:=hQ.mod x14 (by first|exact(λk hk e=>absurd (hlt1 k hk) (Nat.not_lt.2 (hoQ.lt k e).1))|exact hQ.ne hoQ rfl|exact(λk hk=>hoN.ne hoQ rfl hk)|exact(λk hk=>hoP.ne hoQ rfl hk)|exact(λk hk=>hoT.ne hoQ rfl hk)|exact(λk hk=>hoQ.ne hoQ rfl hk)|trivial)
  try replace hoN:=hoN.mod x14 (by first|exact(λk hk e=>absurd (hlt1 k hk) (Nat.not_lt.2 (hoQ.lt k e).1))|exact hQ.ne hoQ rfl|exact(λk hk=>hoN.ne hoQ rfl hk)|exact(λk hk=>hoP.ne hoQ rfl hk)|exact(λk hk=>hoT.ne hoQ rfl hk)|exact(λk hk=>hoQ.ne hoQ rfl hk)|trivial)
  try replace m3:=m3.mod x14 (by first|(intro h;have h2:b3=b3:=Option.some.inj h;omega)|(intro h;have h1:=(hoQ.lt _ h).1;omega)|(intro h;have h1:=o3_hoQ _ h;omega)|(intro h;exact hoQ.ne_blk m3 rfl h))
  try replace hoT:=hoT.mod x14 (by first|exact(λk hk e=>absurd (hlt1 k hk) (Nat.not_lt.2 (hoQ.lt k e).1))|exact hQ.ne hoQ rfl|exact(λk hk=>hoN.ne hoQ rfl hk)|exact(λk hk=>hoP.ne hoQ rfl hk)|exact(λk hk=>hoT.ne hoQ rfl hk)|exact(λk hk=>hoQ.ne hoQ rfl hk)|trivial)
  replace hx:=hx.own x14 (λi hi hlt=>(by have:=(hoQ.lt i hi).1;omega))
  replace hoQ:=hoQ_n
  clear m4
  refine da (de Z24 (wr (dm ?_)))
  refine df 0 rfl (dl rfl (m3.at rfl) (cP (Xvu f.id _ (hgv.mod hx (λk hk e=>e (hgvs k hk))) hff.1 (by have:=Xls hff.1;omega)) RX.all λw15 x15=>?_))
  replace m1:=m1.ext x15
  replace hS:=hS.ext x15
  replace mp9:=mp9.ext x15
  replace hSz:=hSz.ext x15
  replace hoP:=hoP.ext x15
  replace m2:=m2.ext x15
  replace hoQ:=hoQ.ext x15
  replace hQ:=hQ.ext x15
  replace hoN:=hoN.ext x15
  replace hoT:=hoT.ext x15
  replace hx:=hx.ext x15
  refine li (e:=9) (sz:=1) (zs:=[S []]) (pv:=[(0,_)]) (cs:=[_]) RX.all (λb5 w16 e5 x16 m5=>?_)
  have g5:=hx.ge e5
  have n5_1:=m1.ltb e5
  have n5_2:=m2.ltb e5
  have n5_mp9:=mp9.lt
  have a5_hS:=hS.lt
  have a5_hSz:=hSz.le
  have o5_hoP:=hoP.ltb e5
  have o5_hoQ:=hoQ.ltb e5
  have a5_hQ:=hQ.lt
  have o5_hoN:=hoN.ltb e5
  replace m1:=m1.ext x16
  replace hS:=hS.ext x16
  replace mp9:=mp9.ext x16
  replace hSz:=hSz.ext x16
  replace hoP:=hoP.ext x16
  replace m2:=m2.ext x16
  replace hoQ:=hoQ.ext x16
  replace hQ:=hQ.ext x16
  replace hoN:=hoN.ext x16
  replace hoT:=hoT.ext x16
  replace hx:=hx.ext x16
  refine Xa6 (lx:=[Xbc f.id]) (e:=9) (sz:=1) (by':=16) rfl kr9 kr9 ir9 hoN (m5.arr (enc:=sEnc) (sz:=1) (l:=[Xbc f.id]) rfl ir9 rfl (Nat.le_of_ble_eq_true rfl)) rfl rfl (by intro x _ u hu;simp at hu;rcases hu with rfl<;>rfl) (by simp;omega) dc9 hSz.le (.inl rfl) (λvn2 w17 hoN_n x17=>?_)
  try replace m1:=m1.mod x17 (by first|(intro h;have h2:b1=b1:=Option.some.inj h;omega)|(intro h;have h1:=(hoN.lt _ h).1;omega)|(intro h;have h1:=o1_hoN _ h;omega)|(intro h;exact hoN.ne_blk m1 rfl h))
  try replace hS:=hS.mod x17 (by first|exact(λk hk e=>absurd (hlt1 k hk) (Nat.not_lt.2 (hoN.lt k e).1))|exact hQ.ne hoN rfl|exact(λk hk=>hoN.ne hoN rfl hk)|exact(λk hk=>hoP.ne hoN rfl hk)|exact(λk hk=>hoT.ne hoN rfl hk)|exact(λk hk=>hoQ.ne hoN rfl hk)|trivial)
  replace mp9:=mp9.mod x17 (mp9.ne_own hoN)
  try replace hSz:=hSz.mod x17 (by first|exact(λk hk e=>absurd (hlt1 k hk) (Nat.not_lt.2 (hoN.lt k e).1))|exact hQ.ne hoN rfl|exact(λk hk=>hoN.ne hoN rfl hk)|exact(λk hk=>hoP.ne hoN rfl hk)|exact(λk hk=>hoT.ne hoN rfl hk)|exact(λk hk=>hoQ.ne hoN rfl hk)|trivial)
  try replace hoP:=hoP.mod x17 (by first|exact(λk hk e=>absurd (hlt1 k hk) (Nat.not_lt.2 (hoN.lt k e).1))|exact hQ.ne hoN rfl|exact(λk hk=>hoN.ne hoN rfl hk)|exact(λk hk=>hoP.ne hoN rfl hk)|exact(λk hk=>hoT.ne hoN rfl hk)|exact(λk hk=>hoQ.ne hoN rfl hk)|trivial)
  try replace m2:=m2.mod x17 (by first|(intro h;have h2:b2=b2:=Option.some.inj h;omega)|(intro h;have h1:=(hoN.lt _ h).1;omega)|(intro h;have h1:=o2_hoN _ h;omega)|(intro h;exact hoN.ne_blk m2 rfl h))
  try replace hoQ:=hoQ.mod x17 (by first|exact(λk hk e=>absurd (hlt1 k hk) (Nat.not_lt.2 (hoN.lt k e).1))|exact hQ.ne hoN rfl|exact(λk hk=>hoN.ne hoN rfl hk)|exact(λk hk=>hoP.ne hoN rfl hk)|exact(λk hk=>hoT.ne hoN rfl hk)|exact(λk hk=>hoQ.ne hoN rfl hk)|trivial)
  try replace hQ:=hQ.mod x17 (by first|exact(λk hk e=>absurd (hlt1 k hk) (Nat.not_lt.2 (hoN.lt k e).1))|exact hQ.ne hoN rfl|exact(λk hk=>hoN.ne hoN rfl hk)|exact(λk hk=>hoP.ne hoN rfl hk)|exact(λk hk=>hoT.ne hoN rfl hk)|exact(λk hk=>hoQ.ne hoN rfl hk)|trivial)
  try replace hoT:=hoT.mod x17 (by first|exact(λk hk e=>absurd (hlt1 k hk) (Nat.not_lt.2 (hoN.lt k e).1))|exact hQ.ne hoN rfl|exact(λk hk=>hoN.ne hoN rfl hk)|exact(λk hk=>hoP.ne hoN rfl hk)|exact(λk hk=>hoT.ne hoN rfl hk)|exact(λk hk=>hoQ.ne hoN rfl hk)|trivial)
  replace hx:=hx.own x17 (λi hi hlt=>(by have:=(hoN.lt i hi).1;omega))
  replace hoN:=hoN_n
  clear m5
  refine da (de Z22 (wr ?_))
  refine pa rfl rfl (dm (Xae (?_)))
  rw[show((p.take k).map λf=>Xbc f.id)++[Xbc f.id]=(p.take (k+1)).map λf=>Xbc f.id by rw[Xa0 hk,List.map_append];rfl]at hoN
  exact⟨(k+1,qs++[(vt,t.cs)],vq,vn2),zz10,⟨hx,m1,hS,mp9,hSz,hoP,m2,by omega,by rw[List.map_append,hqs,Xa0 hk,List.map_append];show _++[t.cs]=_++[cOf ts1 f];rw[Xxd ht],hoQ,hQ.snoc hoT,hoN⟩,by simp only [];omega⟩
 rw[List.take_of_length_le om9]at hqs hoN
 have hql:=congrArg List.length hqs
 rw[List.length_map,List.length_map]at hql
 have hfl:qs.flatMap (·.2)=Xcc ts1 p:=by rw[X0f hqs,Xhq]
 have hcl:(Xcc ts1 p).length≤(allC [] ts1).length:=by have h9:=Xhr p ts1 hS1.nod (Xnz hP.nod);unfold allC;rw[List.nil_append];exact h9
 refine Xah (Z18 _ _ (ws λ_ Z25=>wr (dm ?_)))
 have hNb:=hSz.le
 refine cG (Xrl qs vr _ (hoQ.arr ir9) (λq hq=>(hQ.row q hq).arr ir9) om9 (by rw[hfl];omega)) RX.all λvm w18 x18 hf18=>?_
 have hsz18:=hx.size
 replace m1:=m1.ext x18
 replace hS:=hS.ext x18
 replace hSz:=hSz.ext x18
 replace hoP:=hoP.ext x18
 replace m2:=m2.ext x18
 replace hoN:=hoN.ext x18
 replace hx:=hx.ext x18
 obtain⟨m,hMg,hoM0⟩:=hf18
 rw[hfl]at hMg
 have hoM:=hoM0.mono hNb
 have hms9:=Xnr hMg
 refine dp (Xdn rfl) (cD (X80 m vm N0 52 [ptr b1 0,ptr b2 0] (λc=>!Xb0 V.fs ↑lv c) _ hoM om9 kr9 (λw2 m9 x hx9=>X8z bs bd bl V.next vf bo bm dead V.fs x lv b1 b2 w2 (hS.m.mod m9 (λe=>by have h8:=(hoM.lt _ e).1;have h7:=hlt1 bs (by rw[hS.k0];decide);omega)) (hS.vs.mod m9 (λhl e=>by have h8:=(hoM.lt _ e).1;have h7:=hlt1 (base vf).1 (by rw[hS.k4 hl];decide);omega)) om9 hlv1 om9 (m1.mod m9 (λe=>by have h8:=(hoM.lt _ e).1;omega)) (m2.mod m9 (λe=>hoM.ne_blk m2 rfl e)))) (.inl rfl) λvd w19 x19 hoD0=>?_)
 have hsz19:=hx.size
 replace m1:=m1.mod x19 (by first|exact(λk hk e=>absurd (hlt1 k hk) (Nat.not_lt.2 (hoM.lt k e).1))|exact(λk hk=>hoN.ne hoM rfl hk)|exact(λk hk=>hoP.ne hoM rfl hk)|trivial|exact(λe=>by have h8:=(hoM.lt _ e).1;omega)|exact(λe=>hoM.ne_blk m1 rfl e))
 replace hS:=hS.mod x19 (by first|exact(λk hk e=>absurd (hlt1 k hk) (Nat.not_lt.2 (hoM.lt k e).1))|exact(λk hk=>hoN.ne hoM rfl hk)|exact(λk hk=>hoP.ne hoM rfl hk)|trivial|exact(λe=>by have h8:=(hoM.lt _ e).1;omega)|exact(λe=>hoM.ne_blk hS rfl e))
 replace hSz:=hSz.mod x19 (by first|exact(λk hk e=>absurd (hlt1 k hk) (Nat.not_lt.2 (hoM.lt k e).1))|exact(λk hk=>hoN.ne hoM rfl hk)|exact(λk hk=>hoP.ne hoM rfl hk)|trivial|exact(λe=>by have h8:=(hoM.lt _ e).1;omega)|exact(λe=>hoM.ne_blk hSz rfl e))
 replace hoP:=hoP.mod x19 (by first|exact(λk hk e=>absurd (hlt1 k hk) (Nat.not_lt.2 (hoM.lt k e).1))|exact(λk hk=>hoN.ne hoM rfl hk)|exact(λk hk=>hoP.ne hoM rfl hk)|trivial|exact(λe=>by have h8:=(hoM.lt _ e).1;omega)|exact(λe=>hoM.ne_blk hoP rfl e))
 replace m2:=m2.mod x19 (by first|exact(λk hk e=>absurd (hlt1 k hk) (Nat.not_lt.2 (hoM.lt k e).1))|exact(λk hk=>hoN.ne hoM rfl hk)|exact(λk hk=>hoP.ne hoM rfl hk)|trivial|exact(λe=>by have h8:=(hoM.lt _ e).1;omega)|exact(λe=>hoM.ne_blk m2 rfl e))
 replace hoN:=hoN.mod x19 (by first|exact(λk hk e=>absurd (hlt1 k hk) (Nat.not_lt.2 (hoM.lt k e).1))|exact(λk hk=>hoN.ne hoM rfl hk)|exact(λk hk=>hoP.ne hoM rfl hk)|trivial|exact(λe=>by have h8:=(hoM.lt _ e).1;omega)|exact(λe=>hoM.ne_blk hoN rfl e))
 replace hx:=hx.own x19 (λi hi hlt=>absurd hlt (Nat.not_lt.2 ((Nat.le_trans hszN (hoM.lt i hi).1))))
 have e9:m.filter (λx=>!(!Xb0 V.fs ↑lv x))=m.filter (Xb0 V.fs ↑lv):=by congr 1;funext x;rw[Bool.not_not]
 have hoD:Vc.Own Cell.cs 4 79 N0 w19 vd (m.filter (Xb0 V.fs ↑lv)):=by rw[←e9];exact hoD0
 have hfm:=List.length_filter_le (Xb0 V.fs ↑lv) m
 refine da (de Z25 (ws λ_ Z26=>ws λ_ Z27=>wr ?_))
 refine dl rfl (m1.at rfl) (dm ?_)
 refine dl rfl (m2.at rfl) (dm ?_)
 have hc9:∀c∈m.filter (Xb0 V.fs ↑lv),c.key.length≤4096∧c.val.length≤16384:=λc hc=>by
  obtain⟨t,ht,_,hct⟩:=(Xhp hS1 (λf hf=>(hP.sub f hf).1)).1 (hms9.2 c (List.mem_filter.1 hc).1)
  have h8:=hSt.cellsB hn c (hsub c (Xar.2 (.inr ⟨t,ht,hct⟩)))
  exact⟨h8.1,h8.2.1⟩
 have hszx:=hx.size
 have hNb:=hSz.le
 obtain⟨NK,hNK⟩:∃z,z=w19.heap.size:=⟨_,rfl⟩
 have hvn9:(p.map λf=>Xbc f.id)≠[]->(base vn).1<NK∧N0≤(base vn).1:=λhl=>by rw[hNK];exact⟨(hoN.base_ge hl).2,(hoN.base_ge hl).1⟩
 refine cD (Xnp κ1 bs bd bl bo bm vf L1 D1 V ts1 [] dead (m.filter (Xb0 V.fs ↑lv)) vd ↑lv p vp _ hS (hoD.arr ir9) om9 hc9 om9 (hoP.arr ir9) om9 (λhl=>hk1z _ (hoP.base_ge hl).1) (λf hf=>Xjj hS1.isv f (hP.sub f hf).1) hS1.isv (hgv.mod hx (λk hk e=>e (hgvs k hk))) (λk hk=>(hmv1 k (hgv.lt k hk)).trans (hgvs k hk)) om9 (λhl=>hk1z _ (hoD.base_ge hl).1)) (.inl rfl) λu20 w20 x20 hf20=>?_
 have hsz20:=hx.size
 replace m1:=m1.mod x20 (by first|trivial|exact(λe=>e hb1z)|exact(λk hk e=>e (hk1z k (hoN.lt k hk).1)))
 replace hoN:=hoN.mod x20 (by first|trivial|exact(λe=>e hb1z)|exact(λk hk e=>e (hk1z k (hoN.lt k hk).1)))
 replace hx:=hx.own x20 (λi hi hlt=>(by have e1:κ1 i≠0:=hi;rw[hmv1 i hlt]at e1;exact e1))
 obtain⟨e2,κ2,vf2,L2,D2,V2,ts2,dead2,rfl,hmv2,hS9,hCh⟩:=hf20
 have hS:=hS9
 rw[←hNK]at hmv2
 have hmv3:∀k,k<w.heap.size->κ2 k=κ k:=λk hk=>(hmv2 k om9).trans (hmv1 k hk)
 refine da (de Z27 (ws λ_ Z28=>wr (dm ?_)))
 refine dp (Xas rfl rfl) (de Z28 (wi (λc5=>?_) λc5=>?_))
 ·refine ws λ_ Z29=>wr (dm (da (da (de Z29 (Xad ?_)))))
  refine rt ?_
  rw[hd1]at hCh
  exact⟨_,rfl,hx,false,e2,κ2,bm,vf2,L2,D2,V2,ts2,[],dead2,rfl,hmv3,hS,.inr (.inr ⟨rfl,hdue,ok,0,L1,D1,V,ts1,[],dead,hFl,.inr ⟨rfl,p,lv,m,e2,D2,dead2,hp,hP,hMg,hCh,rfl,.inl ⟨c5,rfl,rfl,rfl,rfl⟩⟩⟩)⟩
 refine Xaa (Z26 _ _ (ws λ_ Z30=>ws λ_ Z31=>wr (dl rfl (m1.at rfl) (dz rfl (df 0 rfl (dl rfl (hS.m.at rfl) (dm ?_)))))))
 have hszr:=hx.size
 obtain⟨F,hD,hFH,hback⟩:=hS.ld.disk
 refine cD (X36 F bd D2 (p.map λf=>Xbc f.id) vn _ hD (hoN.arr ir9) (by rw[List.length_map];omega) (λhl e=>by have e1:κ2 (base vn).1=1:=hFH _ e;rw[hmv2 _ (hvn9 hl).1,hk1z _ (hvn9 hl).2]at e1;cases e1)) (.inl rfl) λu21 w21 x21 hf21=>?_
 have hsz21:=hx.size
 replace m1:=m1.mod x21 (by first|trivial|exact(λe=>by have e1:κ2 b1=1:=hFH _ e;rw[hmv2 b1 om9,hb1z]at e1;cases e1))
 replace hx:=hx.own x21 (λi hi hlt=>(by have e1:κ2 i=1:=hFH i hi;rw[hmv3 i hlt]at e1;show κ i≠0;rw[e1];decide))
 obtain⟨rfl,hd9⟩:=hf21
 have hS2:=hS.ledger (x21.mono (λi hi _=>hFH i hi)) (hback _ _ x21 hd9)
 have hmv4:∀k,k<w.heap.size->updK κ2 1 _ _ k=κ k:=λk hk=>(Xdu (κ:=κ2) (i:=1) (w':=w21) (Nat.lt_of_lt_of_le hk hszr)).trans (hmv3 k hk)
 replace hS:=hS2
 refine da (de Z31 (ws λ_ Z32=>wr (dm ?_)))
 refine dp (Xas rfl rfl) (de Z32 (wi (λc6=>?_) λc6=>?_))
 ·refine ws λ_ Z33=>wr (dl rfl (m1.at rfl) (dm ?_))
  refine cD (Xlk bs bd bl V2.next vf2 bo bm dead2 (D2.rem (p.map λf=>Xbc f.id)).1 _ hS.m) (.inl rfl) λu22 w22 x22 hf22=>?_
  have hsz22:=hx.size
  replace hx:=hx.own x22 (λi hi hlt=>(by have e1:i=bs:=hi;rw[e1,h.k0];decide))
  obtain⟨rfl,hd9⟩:=hf22
  have hS2:=hS.head x22 hd9
  replace hS:=hS2
  refine da (da (de Z33 (Xad ?_)))
  refine rt ?_
  have he2:e2=0:=Decidable.of_not_not c5
  subst he2
  rw[hd1]at hCh
  exact⟨_,rfl,hx,false,_,_,bm,vf2,L2,_,V2,ts2,[],_,rfl,hmv4,hS,.inr (.inr ⟨rfl,hdue,ok,0,L1,D1,V,ts1,[],dead,hFl,.inr ⟨rfl,p,lv,m,0,D2,dead2,hp,hP,hMg,hCh,rfl,.inr ⟨rfl,rfl,.inl ⟨c6,rfl,rfl,by simp [c6]⟩⟩⟩⟩)⟩
 refine Xaa (Z30 _ _ (ws λ_ Z34=>wr (da (da (de Z34 (Xad ?_))))))
 refine rt ?_
 have he2:e2=0:=Decidable.of_not_not c5
 subst he2
 rw[hd1]at hCh
 exact⟨_,rfl,hx,true,0,_,bm,vf2,L2,_,V2,ts2,[],_,rfl,hmv4,hS,.inr (.inr ⟨rfl,hdue,ok,0,L1,D1,V,ts1,[],dead,hFl,.inr ⟨rfl,p,lv,m,0,D2,dead2,hp,hP,hMg,hCh,rfl,.inr ⟨rfl,rfl,.inr ⟨Decidable.of_not_not c6,rfl,rfl,rfl⟩⟩⟩⟩)⟩
end Go.Proofs.YtiooodckiddpmaaGreatDoor
