/-
  A part of the proof.
-/
import Derived.Test.YtiooodckiddpmaaGreatDoorQkA
import Derived.Test.YtiooodckiddpmaaGreatDoorChecked
import Derived.KernelRfl
import Derived.Test.YtiooodckiddpmaaGreatDoorQkE
import Derived.Test.YtiooodckiddpmaaGreatDoorQkD
import Derived.Test.YtiooodckiddpmaaGreatDoorQkC
import Derived.Test.YtiooodckiddpmaaGreatDoorQkB
import Derived.Test.YtiooodckiddpmaaGreatDoorRows
import Derived.Lib.LaidTab
open Nat renaming le_refl->Aa,zero_le->Ab,le_trans->Ae,le_of_ble_eq_true->Aj,lt_of_lt_of_le->Ax,not_lt->AP,le_add_right->B6,le_succ->BP,add_assoc->BR,lt_of_le_of_lt->En
open List renaming length_append->Ad,mem_singleton->Af,mem_of_getElem?->Ag,mem_cons->Ah,mem_cons_self->Ai,mem_append->Ak,map_cons->Am,replicate->An,mem_cons_of_mem->Ao,getElem?_eq_some_iff->Ap,take_of_length_le->Ar,mem_filter->Av,length_map->Aw,mem_map->Ay,length->A5,map_append->A6,length_cons->AA,nil_append->AB,length_take->A7,flatMap_cons->AF,sum_cons->AT,take_length->AV,length_filter_le->AZ,flatMap_append->Bb,map_nil->Bf,nodup_cons->Bk,length_nil->Bl,filter_append->Bs,mem_append_right->Bz,foldl_append->BC,filter_cons->BF,filter_eq_self->BG,filter_sublist->Cf,nodup_nil->Cj,find?_some->Cp,mem_map_of_mem->Ct,flatten_cons->Cx,filter_cons_of_pos->De,filter_cons_of_neg->Df,any_eq_false->D7,flatMap_def->Ef,perm_singleton->EX
open Option renaming some->Al
open Bool renaming and_eq_true->Aq,or_eq_true->BH,false_or->BY
open Decidable renaming of_not_not->AE,byContradiction->Bc
open List.Pairwise renaming nil->Bq
open List.Sublist renaming map->CH
open Int renaming ofNat_le->DA
open List.Perm renaming append_left->Ea,flatMap_right->EW
set_option maxRecDepth 100000
set_option maxHeartbeats 4000000
set_option linter.unusedVariables false
set_option linter.unusedSimpArgs false
namespace Go.Proofs.YtiooodckiddpmaaGreatDoor.Em
open Go.Vc Go.Sp
attribute [local irreducible] W XW Dw G9
theorem rdiskNewS_w (room:Int)(w:World)(h0:0<=room)(h1:room<=1073741824) :
  Gf 34 [I room] w λu w'=>∃bd,u=.tuple #[Fg bd 0,I 0]/\Fo w' bd [I room,.slice none 0 0,I (-1)] 138/\w.heap.size<=bd:=by
 refine cE Tryz.func34 λr=>?_;refine ds1 6 (λH=>?_) λH=>?_
 ·omega
 refine Fk (λO=>?_) λO=>?_
 ·omega
 refine go ?_;refine db (zs:=[.int .i64 0,.slice none 0 0,.int .i64 0]) (pl:=[(0,1),(1,1),(2,1)]) (pv:=[(0,_),(2,_)]) (cs:=[_,.slice none 0 0,_]) ?_;refine Gx rfl rfl rfl RX.all (λb1 w1 e1 J z=>?_);have g1:=r.ge e1;have r:=r.trans J;refine go ?_;exact⟨_,rfl,r,b1,rfl,z,g1⟩
theorem Xkr (bd:Nat)(room:Int)(w:World)(hd:Fo w bd [I room,.slice none 0 0,I (-1)] 138) :
  Gf 147 [Fg bd 0,S [115]] w λu w'=>∃bl,u=.tuple #[Fg bl 0,I 0]/\Fo w' bl [Fg bd 0,S [115],I 0,.slice none 0 0,.slice none 0 0,B false] 135/\w.heap.size<=bl:=by
 refine cE Tryz.func147 λr=>go ?_;refine dp (GS Fe rfl rfl) ?_;refine ds1 13 (λO=>?_) λO=>?_
 ·exact absurd O F5
 refine ds1 18 (λZ=>?_) λZ=>?_
 ·exact absurd Z Fj
 refine Fk (λH=>?_) λH=>?_
 ·exact absurd H Fj
 refine go ?_;refine db (zs:=[.pointer none,S [],.int .i64 0,.slice none 0 0,.slice none 0 0,B false]) (pl:=[(0,1),(1,1),(2,1),(3,1),(4,1),(5,1)]) (pv:=[(0,_),(1,_)]) (cs:=[_,_,.int .i64 0,.slice none 0 0,.slice none 0 0,B false]) ?_;refine Gx rfl rfl rfl RX.all (λb1 w1 e1 x1 z=>?_);have g1:=r.ge e1;have r:=r.trans x1;refine go ?_;refine dp (Iu rfl rfl (by simp;done)) (cP (J4 b1 bd room _ _ z (hd.ext r)) RX.all λw2 x2=>Fz x2 z r λz r=>go ?_);refine GL rfl ?_;refine Fk (λY=>?_) λY=>?_
 ·refine Gp (X3h b1 bd room _ z (hd.ext r)) λw3 x3=>Fz x3 z r λz r=>?_;refine Fk (λJ=>?_) λJ=>?_
  ·exact absurd rfl J
  refine go ?_;refine dp (Iu rfl rfl (by simp;done)) (cP (IL bd room _ _ (hd.ext r)) RX.all λw4 x4=>Fz x4 z r λz r=>?_);refine Fk (λc6=>?_) λc6=>?_
  ·refine go ?_;exact⟨_,rfl,r,b1,rfl,z,g1⟩
  exact absurd Fj c6
 exact absurd rfl Y
theorem rlsmOpenS_w (bd:Nat)(room:Int)(w:World)(hd:Fo w bd [I room,.slice none 0 0,I (-1)] 138) :
  Gf 77 [Fg bd 0] w λu w'=>∃bs bl bm,u=.tuple #[Fg bs 0,I 0]/\RStE w' bs bd bl bm room/\Fo w' bm [.slice none 0 0] 215/\w.heap.size<=bs/\w.heap.size<=bl/\w.heap.size<=bm:=by
 refine cE Tryz.func77 λr=>go ?_;refine dp (GS Fe rfl rfl) ?_;refine Fk (λc1=>?_) λc1=>?_
 ·exact absurd c1 F5
 refine go ?_;have Z:=r.size;refine cG (Xkr bd room _ (hd.ext r)) RX.all λu1 w1 x1 hc=>?_;have hsz1:=r.size;have r:=r.trans x1;obtain⟨bl,rfl,z,ha⟩:=hc;refine Fk (λc2=>?_) λc2=>?_
 ·exact absurd rfl c2
 refine go ?_;refine db (zs:=[.int .i64 0,.slice none 0 0]) (pl:=[(0,1),(1,1)]) (pv:=[(0,_)]) (cs:=[_,.slice none 0 0]) ?_;refine db (zs:=[.slice none 0 0]) (pl:=[(0,1)]) (pv:=[]) (cs:=[.slice none 0 0]) ?_;refine Gx rfl rfl rfl RX.all (λb1 w2 e1 x2 H=>?_);have g1:=r.ge e1;have a1_hl:=z.lt;refine Fz x2 z r λz r=>db (zs:=[.pointer none,.pointer none,.int .i64 0,.slice none 0 0,.slice none 0 0,.pointer none,B false]) (pl:=[(0,1),(1,1),(2,2),(4,1),(5,1),(6,1)]) (pv:=[(0,_),(1,_),(2,.agg ⟨[_,_]⟩),(4,_)]) (cs:=[_,_,_,_,.slice none 0 0,_,B false]) ?_;refine Gx rfl rfl rfl RX.all (λY w3 e2 x3 J=>?_);have g2:=r.ge e2;have n2_1:=H.ltb e2;have a2_hl:=z.lt;refine FB x3 z H r λz H r=>FL 5 1 (Fs.nil (enc:=Fq) (sz:=1) (w:=w)).sl ?_;refine ds1 37 (λc3=>?_) λc3=>?_
 ·exact absurd c3 Fj
 refine Fk (λc4=>?_) λc4=>?_
 ·exact absurd c4 Fj
 refine Gp (X89 Y bd bl b1 _ J) λw4 x4=>FP x4 z H J r λz H J r=>?_;refine Fk (λc5=>?_) λc5=>?_
 ·exact absurd rfl c5
 refine F9 (G:=Unit) (λO=>[(0,Fg bd 0),(4,Fg bl 0),(5,I 0),(6,Fg Y 0),(7,I 1)]) (λO w'=>Fp w w'/\Fo w' bl [Fg bd 0,S [115],I 0,.slice none 0 0,.slice none 0 0,B false] 135/\Fo w' b1 [.slice none 0 0] 215/\Fo w' Y [Fg bd 0,Fg bl 0,I 1,.slice none 0 0,.slice none 0 0,Fg b1 0,B false] 69/\True) (λO=>0) () ⟨r,z,H,J,trivial⟩ ?_;rintro _ O w5 ⟨r,z,H,J,htr⟩;refine Gp (Ic bl bd _ z) λw6 x6=>FP x6 z H J r λz H J r=>?_;refine dp (IA rfl rfl) ?_;refine Fk (λc6=>?_) λc6=>?_
 ·exact absurd c6 Fj
 refine F9 (G:=Unit) (λO=>[(0,Fg bd 0),(5,I 0),(6,Fg Y 0),(12,.slice none 0 0),(13,I 0)]) (λO w'=>Fp w w'/\Fo w' bl [Fg bd 0,S [115],I 0,.slice none 0 0,.slice none 0 0,B false] 135/\Fo w' b1 [.slice none 0 0] 215/\Fo w' Y [Fg bd 0,Fg bl 0,I 1,.slice none 0 0,.slice none 0 0,Fg b1 0,B false] 69/\True) (λO=>0) () ⟨r,z,H,J,trivial⟩ ?_;rintro _ O w7 ⟨r,z,H,J,htr⟩;refine FL 62 5 (Fs.nil (enc:=λv:Value=>[v]) (sz:=5) (w:=w)).sl ?_;refine Fk (λc7=>?_) λc7=>?_
 ·exact absurd c7 Fj
 refine Gp (X3i bd room [116] _ (hd.ext r)) λw8 x8=>FP x8 z H J r λz H J r=>?_;refine Fk (λc8=>?_) λc8=>?_
 ·exact absurd rfl c8
 refine go ?_;exact⟨_,rfl,r,Y,bl,b1,rfl,⟨J,z,hd.ext r⟩,H,g2,Ae Z ha,g1⟩
end Go.Proofs.YtiooodckiddpmaaGreatDoor.Em
namespace Go.Proofs.YtiooodckiddpmaaGreatDoor
open Go.Vc Go.Sp
attribute [local irreducible] W XW Dw G9
structure RG (G:Nat->Prop)(bs bx bl bm:Nat)(n:Int)(vf vT:Value)(dead:Bool)(fs:List Fi)(T:List Tr)(a b:Nat)(w:World):Prop where
 e:RE G w bs bx bl bm n vf vT dead fs T a b w
section
variable {G:Nat->Prop}{w w':World}{n:Int}{vf vT:Value}{fs:List Fi}{T:List Tr}{b bs bx bl bm a:Nat}{dead:Bool}{S:Nat->Prop}
theorem RG.mod (h:RG G bs bx bl bm n vf vT dead fs T a b w)(m:Vc.Mod S w w')(hS:∀k,G k->¬ S k):RG G bs bx bl bm n vf vT dead fs T a b w':=⟨h.e.base m hS⟩
theorem RG.ext (h:RG G bs bx bl bm n vf vT dead fs T a b w)(x:Fp w w'):RG G bs bx bl bm n vf vT dead fs T a b w':=h.mod x (λ_ _ h=>h)
instance : Up w w' (RG G bs bx bl bm n vf vT dead fs T a b w) (RG G bs bx bl bm n vf vT dead fs T a b w'):=⟨λx h=>RG.ext h x⟩
theorem RG.lt (h:RG G bs bx bl bm n vf vT dead fs T a b w):∀k,G k->k<w.heap.size:=h.e.dx.1
end
variable {bs:Nat}{w:World}
theorem RE.nothing {bx bl bm:Nat}{room:Int}(h:Em.RStE w bs bx bl bm room)(hb:Fo w bm [.slice none 0 0] 215)(h0:0<=room)(h1:room<=1073741824):RE (λk=>k=bs\/k=bl\/k=bm\/k=bx) w bs bx bl bm 1 (.slice none 0 0) (.slice none 0 0) false [] [] 0 0 w:=by
 have J:∀k,(k=bs\/k=bl\/k=bm\/k=bx)->k<w.heap.size:=λk hk=>by rcases hk with e|e|e|e<;>subst e<;>first|exact h.s.lt|exact h.l.lt|exact hb.lt|exact h.d.lt
 exact⟨h.s,.inl (.inl rfl),⟨0,.slice none 0 0,.slice none 0 0,false,[],⟨J,Aa _,room,.slice none 0 0,[],-1,h.d,Vc.Own.nil,⟨λf r=>(by cases r)⟩,.inl (.inr (.inr (.inr rfl))),λk hk=>(by cases hk),λf r=>(by cases r),λf r=>(by cases r),⟨h0,h1⟩,h0,Ab _,by omega⟩,h.l,Vc.Own.nil,.inl (.inr (.inl rfl)),λk hk=>(by cases hk),Ab _⟩,
  ⟨Aa _,.inl (.inr (.inr (.inl rfl))),.slice none 0 0,[],hb,Vc.Own.nil,λk hk=>(by cases hk),Aa _,λc z=>(by cases z)⟩,
  ⟨Vc.Own.nil,λk hk=>(by cases hk),⟨⟨by omega,by omega,Ab _⟩,λi f r=>(by cases r)⟩,Vc.Own.nil,λk hk=>(by cases hk),Aa _,λt H=>(by cases H)⟩⟩
theorem X3j (pb bd bx mf:Nat)(room:Int)(w:World)(hp0:Fo w pb [Fg bd 0,Fg bx 0,.pointer none,.pointer none] 31)(hd:Fo w bd [I room,.map (some mf),B false,I 0] 122)(hm:Gt w mf)(hr:Fo w bx [I room,.slice none 0 0,I (-1)] 138)(hw:(IN room).Wf)(h0:0<=room)(h1:room<=1073741824)(hbx:bx<w.heap.size) :
  Gy 35 [Fg pb 0] w (Fu pb) λu w'=>u=B true/\∃κ bs bl bo bm sb rbl H,Fo w' pb [Fg bd 0,Fg bx 0,Fg bs 0,Fg sb 0] 31/\StE κ bs bd bl bo bm (.slice none 0 0) Km (IN room) ⟨1,[]⟩ [] [] false w'/\(∀k,κ k≠0->k=bd\/k=mf\/w.heap.size<=k)/\RG (λk=>k=sb\/k=rbl\/k=H\/k=bx) sb bx rbl H 1 (.slice none 0 0) (.slice none 0 0) false [] [] 0 0 w'/\(∀k,(k=sb\/k=rbl\/k=H)->w.heap.size<=k/\κ k=0):=by
 refine cM Tryz.func35 (Fu pb) λz=>?_;have J:=hp0;have hmfl:=hm.lt;have hne1:=hp0.ne hd rfl;have hne2:=KJ hm hp0;have hpl:=hp0.lt;have hne9:=hr.ne hp0 rfl;refine go ?_;have r:=z.size;refine cG (Em.lsmOpen_w bd mf room _ hd hm) RX.all λu1 w1 x1 hh=>?_;have hsz1:=z.size;refine FV x1 J hd hm hr z λJ hd hm hr z=>?_;obtain⟨bs,bl,mo,bm,ba,bn,rfl,hE,k1,k2,k3,k4,k5,k6⟩:=hh;have Z:=VW hE Fb hw;have hκ:=X9b (bd:=bd) (mf:=mf) (Ae r k1) (Ae r k2) (Ae r k3) (Ae r k4) (Ae r k5) (Ae r k6);refine go ?_;have hsz9:=z.size;have ha:=Z.lt;refine cG (Em.rlsmOpenS_w bx room _ hr) RX.all λu2 w2 x2 hf=>?_;have hsz2:=z.size;refine H3 x2 J hd hm hr Z z λJ hd hm hr Z z=>?_;obtain⟨sb,rbl,H,rfl,hc,hg,hr1,hr2,hr3⟩:=hf;have hE:=RG.mk (RE.nothing hc hg h0 h1);refine go ?_;refine HG J (λw3 x3 xs3 J=>?_) (hv:=by rfl);have hd:=hd.mod x3 Fw;have hm:=hm.mod x3 Fw;have hr:=hr.mod x3 Fw;have Z:=Z.mod x3 (λY O e9=>by have h2:Y=pb:=e9;have h8:=hκ Y O;omega);have hE:=hE.mod x3 (λY O e9=>by have h2:Y=pb:=e9;rcases O with e|e|e|e<;>omega);have z:=z.own x3 F4;refine go ?_;refine HG J (λw4 x4 xs4 J=>?_) (hv:=by rfl);have Z:=Z.mod x4 (λY O e9=>by have h2:Y=pb:=e9;have h8:=hκ Y O;omega);have hE:=hE.mod x4 (λY O e9=>by have h2:Y=pb:=e9;rcases O with e|e|e|e<;>omega);have z:=z.own x4 F4;refine ds1 34 (λc1=>?_) λc1=>?_
 ·refine go ?_;refine dp (GS Fe rfl rfl) (go ?_);refine dp (P8 Fe rfl rfl) (go ?_);refine⟨_,rfl,z,by simp,_,bs,bl,mo,bm,sb,rbl,H,J,Z,hκ,hE,λk hk=>?_⟩;rcases hk with e|e|e<;>subst e<;>exact⟨by omega,Bc λO=>by have:=ha _ O;omega⟩
 exact absurd rfl c1
theorem X3k (room:Int)(w:World)(h0:0<=room)(h1:room<=1073741824)(hw:(IN room).Wf) :
  Gf 12 [I room] w λu w'=>∃κ pb bd bx bs bl bo bm sb rbl z,u=Fg pb 0/\Fo w' pb [Fg bd 0,Fg bx 0,Fg bs 0,Fg sb 0] 31/\StE κ bs bd bl bo bm (.slice none 0 0) Km (IN room) ⟨1,[]⟩ [] [] false w'/\(∀k,κ k≠0->w.heap.size<=k)/\κ pb=0/\w.heap.size<=pb/\RG (λk=>k=sb\/k=rbl\/k=z\/k=bx) sb bx rbl z 1 (.slice none 0 0) (.slice none 0 0) false [] [] 0 0 w'/\∀k,(k=sb\/k=rbl\/k=z\/k=bx)->w.heap.size<=k/\κ k=0/\k≠pb:=by
 refine cE Tryz.func12 λr=>go ?_;have hsza:=r.size;refine cG (Em.diskNew_w room _ h0 h1) RX.all λu1 w1 x1 ha=>?_;have hsz1:=r.size;have r:=r.trans x1;obtain⟨bd,mf,rfl,hd,hm,hgd,hgm⟩:=ha;refine go ?_;have hszx:=r.size;refine cG (Em.rdiskNewS_w room _ h0 h1) RX.all λu2 w2 x2 Y=>?_;have hsz2:=r.size;refine FB x2 hd hm r λhd hm r=>?_;obtain⟨bx,rfl,H,hgx⟩:=Y;refine go ?_;refine db (zs:=[.pointer none,.pointer none,.pointer none,.pointer none]) (pl:=[(0,1),(1,1),(2,1),(3,1)]) (pv:=[(0,_),(1,_)]) (cs:=[_,_,.pointer none,.pointer none]) ?_;refine Gx rfl rfl rfl RX.all (λb1 w3 e1 x3 J=>?_);have g1:=r.ge e1;have a1_hd:=hd.lt;have a1_hr:=H.lt;refine FP x3 hd hm H r λhd hm H r=>go ?_;refine dp (GS Fe rfl rfl) ?_;refine ds1 24 (λc1=>?_) λc1=>?_
 ·exact absurd c1 F5
 refine go ?_;refine dp (GS Fe rfl rfl) ?_;refine ds1 28 (λc2=>?_) λc2=>?_
 ·exact absurd c2 F5
 refine go ?_;have hpl9:=J.lt;have hne1:=J.ne hd rfl;have hne2:=KJ hm J;have hszd:=r.size;have hne3:=H.ne hd rfl;have hne4:=KJ hm H;have hne5:=H.ne J rfl;have hrl9:=H.lt;refine cD (X3j b1 bd bx mf room _ J hd hm H hw h0 h1 H.lt) (.inl rfl) λu4 w4 x4 Z=>?_;have hsz4:=r.size;have r:=r.own x4 F4;obtain⟨rfl,κ,bs,bl,bo,bm,sb,rbl,z,hp,hS,hκ,hE,hG⟩:=Z;refine go ?_;refine GL rfl (go ?_);refine⟨_,rfl,r,κ,b1,bd,bx,bs,bl,bo,bm,sb,rbl,z,rfl,hp,hS,λk hk=>(by have O:=hκ k hk;omega),Bc λO=>(by have h8:=hκ _ O;omega),Fb,hE,λk hk=>?_⟩;rcases hk with e|e|e|e
 ·have:=hG k (.inl e);exact⟨by omega,this.2,by omega⟩
 ·have:=hG k (.inr (.inl e));exact⟨by omega,this.2,by omega⟩
 ·have:=hG k (.inr (.inr e));exact⟨by omega,this.2,by omega⟩
 ·subst e;exact⟨by omega,Bc λO=>(by have h8:=hκ _ O;omega),by omega⟩
def HQ (l:List Fi)(a:Fh):Fh:=l.foldl (λa f=>Jd a f.fst) a
def HP (l:List Fi)(a:Fh):Fh:=l.foldl (λa f=>Jg a f.lst) a
def Jq (l:List Fi)(i:Nat):Fi:=(l[i]?).getD Fi.zero
def Lj (fs l:List Fi)(lev:Int):List Fi:=l++HF fs (lev+1) (HQ l (Jq l 0).fst) (HP l (Jq l 0).lst)
variable {f:Fi}{k:Nat}{l:List Fi}
theorem Xz3 {a:Fh}(h:l[k]?=some f):HQ (l.take (k+1)) a=Jd (HQ (l.take k) a) f.fst:=by unfold HQ;rw[GQ h,BC];rfl
theorem Xz4 {a:Fh}(h:l[k]?=some f):HP (l.take (k+1)) a=Jg (HP (l.take k) a) f.lst:=by unfold HP;rw[GQ h,BC];rfl
def Jf (l:List Fi)(o:Fi):Fi:=l.foldl (λo f=>if f.id<o.id then f else o) o
theorem Pr {o:Fi}(h:l[k]?=some f):Jf (l.take (k+1)) o=if f.id<(Jf (l.take k) o).id then f else Jf (l.take k) o:=by unfold Jf;rw[GQ h,BC];rfl
def Hq (l:List Fi):Fi:=Jf l (Jq l 0)
def J5 (fs:List Fi):Option (List Fi):=
 if 4<=(Gi fs 0).length then some (Lj fs (Gi fs 0) 0)
 else if 4<(Gi fs 1).length then some (Lj fs [Hq (Gi fs 1)] 1)
 else if 16<(Gi fs 2).length then some (Lj fs [Hq (Gi fs 2)] 2)
 else if 64<(Gi fs 3).length then some (Lj fs [Hq (Gi fs 3)] 3)
 else none
variable {fs:List Fi}
theorem X5p (h:4<=(Gi fs 0).length):J5 fs=some (Lj fs (Gi fs 0) 0):=if_pos h
variable {lv:Nat}
theorem X9c (h0:¬ 4<=(Gi fs 0).length)(h1:1<=lv)(h2:lv<4)(hA:∀i:Nat,1<=i->i<lv->(Gi fs ↑i).length<=4 ^ i)(h:4 ^ lv<(Gi fs ↑lv).length):J5 fs=some (Lj fs [Hq (Gi fs ↑lv)] ↑lv):=by
 unfold J5;rw[if_neg h0];rcases(show lv=1\/lv=2\/lv=3 by omega)with rfl|rfl|rfl
 ·rw[if_pos (show 4<(Gi fs 1).length from h)];rfl
 ·have r:=hA 1 Fj Fj;rw[if_neg (show¬ 4<(Gi fs 1).length by exact AP.2 r),if_pos (show 16<(Gi fs 2).length by exact h)];rfl
 ·have r:=hA 1 Fj Fj;have z:=hA 2 Fj Fj;rw[if_neg (show¬ 4<(Gi fs 1).length by exact AP.2 r),if_neg (show¬ 16<(Gi fs 2).length by exact AP.2 z),if_pos (show 64<(Gi fs 3).length by exact h)];rfl
theorem X9d (h0:¬ 4<=(Gi fs 0).length)(hA:∀i:Nat,1<=i->i<4->(Gi fs ↑i).length<=4 ^ i):J5 fs=none:=by
 have r:=hA 1 Fj Fj;have z:=hA 2 Fj Fj;have H:=hA 3 Fj Fj;unfold J5;rw[if_neg h0,if_neg (show¬ 4<(Gi fs 1).length by exact AP.2 r),if_neg (show¬ 16<(Gi fs 2).length by exact AP.2 z),if_neg (show¬ 64<(Gi fs 3).length by exact AP.2 H)]
theorem Yb7 (h1:1<=lv)(h2:lv<4):Value.int .i64 (IntKind.i64.wrap (1*2 ^ (min ((2:Int)*↑lv).toNat IntKind.i64.bits)))=I ↑(4 ^ lv):=by
 rcases(show lv=1\/lv=2\/lv=3 by omega)with rfl|rfl|rfl<;>rfl
theorem X9e (h1:1<=lv):4<=4 ^ lv:=by
 have:=Nat.pow_le_pow_right (n:=4) Fj h1;simpa using this
theorem YW (n:Int)(fs:List Fi)(vf:Value)(lev:Int)(l:List Fi)(vl:Value)(Bo:Nat)(w:World)(hv:Fs Fi.cs 5 w vf fs)(hl:fs.length<=100000)(ho0:Vc.Own Fi.cs 5 62 Bo w vl l)(hne:l≠[])(hll:l.length<=100000)(hBo:Bo<=w.heap.size)(hB:fs≠[]->(base vf).1<Bo)(hlev:0<=lev/\lev<=10) :
  Gy 105 [.agg ⟨[I n,vf]⟩,I lev,vl] w (λk=>vl.ownBlock=some k) λu w'=>Vc.Own Fi.cs 5 62 Bo w' u (Lj fs l lev):=by
 refine cM Tryz.func105 (λk=>vl.ownBlock=some k) λz=>?_;have ho:=ho0;obtain⟨f0,hk0⟩:∃f,l[0]?=some f:=⟨_,List.getElem?_eq_getElem (by cases l with|nil=>exact absurd rfl hne|cons a r=>simp)⟩;have hc:Jq l 0=f0:=by unfold Jq;rw[hk0];rfl
 refine go ?_;refine Gx rfl rfl rfl RX.all (λb1 w1 e1 x1 H=>?_);have g1:=z.ge e1;have o1_ho:=ho.ltb e1;refine Fz x1 ho z λho z=>Gn 10010001000 λw2 x2=>FB x2 ho H z λho H z=>?_;refine go ?_;refine di 62 5 (ho.arr Ff).sl rfl ((ho.arr Ff).lt hk0) (go ?_);refine dL rfl (λ_ hR=>((((ho.arr Ff).ext hR).row hk0).at rfl)) (go ?_);refine di 62 5 (ho.arr Ff).sl rfl ((ho.arr Ff).lt hk0) (go ?_);refine dL rfl (λ_ hR=>((((ho.arr Ff).ext hR).row hk0).at rfl)) (go ?_);refine dv 62 5 (ho.arr Ff).sl (F9 (G:=Nat×Fh×Fh) (λ(k,a,b)=>[(1,I lev),(2,vl),(3,Fg b1 0),(6,.slice none 0 0),(7,S a),(8,S b),(19,vl),(20,I ↑l.length),(21,I ↑k)]) (λ(k,a,b) w'=>Mod (λk=>vl.ownBlock=some k) w w'/\Vc.Own Fi.cs 5 62 Bo w' vl l/\Fo w' b1 [I n,vf] 56/\k<=l.length/\a=HQ (l.take k) f0.fst/\b=HP (l.take k) f0.lst) (λ(k,a,b)=>l.length-k) (0,f0.fst,f0.lst) ⟨z,ho,H,Ab _,rfl,rfl⟩ ?_);rintro _ ⟨k,a,b⟩ w3 ⟨z,ho,H,hk1,ha,hb⟩;refine Fk (λc1=>?_) λc1=>?_
 ·obtain⟨f,hk⟩:∃f,l[k]?=some f:=F8;refine go ?_;refine di 62 5 (ho.arr Ff).sl rfl ((ho.arr Ff).lt hk) (dq (Fy Fe rfl rfl ((ho.arr Ff).row hk)) (aL [.int .i64 0,.int .i64 0,.int .i64 0,S [],S []] λb2 w4 e2 x4 O=>?_));have g2:=z.ge e2;have n2_1:=H.ltb e2;have o2_ho:=ho.ltb e2;refine FB x4 ho H z λho H z=>Gc O (λw5 Z xs5 O=>?_);have ho:=ho.mod Z Fw;have H:=H.mo Z;have z:=z.o1 Z;refine Gn 10001000100 λw6 x6=>FP x6 ho H O z λho H O z=>?_;refine go ?_;refine dp (Vl rfl rfl) (go ?_);refine dp (W5 rfl rfl) (go ?_);exact⟨(k+1,_,_),KV,⟨z,ho,H,by omega,by rw[Xz3 hk,<-ha],by rw[Xz4 hk,<-hb]⟩,by simp only [];omega⟩
 refine go ?_;refine dq (Fy (k:=2) Fe rfl rfl H.row) (Ge (Pv n fs vf (lev+1) a b _ (hv.mod z (λY e=>by have h1:=(ho0.lt _ e).1;have h2:=hB Y;omega)) hl) λvo w7 x7 hf=>?_);have hsz7:=z.size;refine Fz x7 ho z λho z=>Hf ho (hf.arr Ff) (λvr w8 J x8=>?_) (hb:=(by have:=NV fs (lev+1) a b;omega)) (hB:=(Ae hBo z.size));have z:=z.own x8 F4;have ho:=J;refine go ?_;rw[Ar Fb]at ha hb;refine⟨_,rfl,z,?_⟩;unfold Lj;rw[hc,<-ha,<-hb];exact ho
theorem X5r (n:Int)(fs:List Fi)(vf:Value)(w:World)(hv:Fs Fi.cs 5 w vf fs)(hl:fs.length<=100000)(hV:Hw ⟨n,fs⟩=true) :
  Gf 48 [.agg ⟨[I n,vf]⟩] w λu w'=>∃vp,u=.tuple #[vp,B (J5 fs).isSome]/\Vc.Own Fi.cs 5 62 w.heap.size w' vp ((J5 fs).getD []):=by
 refine cE Tryz.func48 λz=>?_;obtain⟨_,_,h6,xd,_⟩:=JG hV;have hvl2:fs.length<=1024:=h6;have hr:∀f∈fs,Fx f.id:=λf hf=>(Np hV f hf).1;have hy:∀f∈fs,0<=f.lev/\f.lev<=4:=λf hf=>by have:=ME (xd f hf);exact⟨this.2.2.1,this.2.2.2.1⟩
 have ht:fs≠[]->(base vf).1<w.heap.size:=λxa=>hv.base_lt Fj xa;have Y:∀i,(Gi fs i).length<=1024:=λi=>by have:=Ys fs fs.length i;rw[AV]at this;omega
 have hz:(Gi fs ((0:Nat):Int)).length=(Gi fs 0).length:=rfl;have hk90:=Y 0;refine go ?_;refine Gx rfl rfl rfl RX.all (λb1 w1 e1 x1 H=>?_);have g1:=z.ge e1;have z:=z.trans x1;refine go ?_;refine dq (Fy (k:=2) Fe rfl rfl H.row) (cP (Qp n fs vf _ (hv.ext z) Fb hr) RX.all λw2 x2=>Fz x2 H z λH z=>?_);refine FZ (λc1=>?_) λc1=>?_
 ·rw[hV]at c1;cases c1
 refine go ?_;refine dq (Fy (k:=2) Fe rfl rfl H.row) (cG (X2x n fs vf _ (hv.ext z) hl hy) RX.all λu3 w3 x3 xf=>?_);have hsz3:=z.size;refine Fz x3 H z λH z=>?_;obtain⟨ha,F,rfl,hj,r⟩:=xf;refine go ?_;refine aL [.int .i64 0,.int .i64 0,.int .i64 0,.int .i64 0,.int .i64 0] λb2 w4 e2 x4 J=>?_;have g2:=z.ge e2;have n2_1:=H.ltb e2;have n2_mp9:=r.lt;refine FB x4 H r z λH r z=>?_;refine OI (m:=5) (vs:=?u5) rfl rfl ?h5 Fe ?c5 ?d5 J ?n5 (.inl rfl) (λw5 x5 xs5 J=>?k5)
 case h5=>conv=>lhs;whnf
 case c5=>rw[Aw];simp [HJ]
 case d5=>rfl
 case n5=>simp [Value.oneCell']
 have H:=H.mo x5;have r:=r.mod x5 Fw;have z:=z.o1 x5;refine go ?_;refine dp (La (m:=5) (e:=3) (k:=1) Fe rfl rfl Fj) (dl rfl (J.at (MN (Ni fs (show 0<5 by decide)))) (dp (HW rfl rfl) ?_));refine Fk (λc2=>?_) λc2=>?_
 ·have h4:4<=(Gi fs 0).length:=DA.1 (show((4:Nat):Int)<=((Gi fs 0).length:Int) from c2);refine go ?_;refine dp (La (m:=5) (e:=3) (k:=1) Fe rfl rfl Fj) (dl rfl (J.at (MN (Ni fs (show 0<5 by decide)))) (F9 (G:=Nat×Value) (λ(k,vl)=>[(1,Fg b1 0),(2,.slice none 0 0),(3,.bool false),(4,Fg b2 0),(5,.map (some ha)),(6,vl),(24,I ↑(Gi fs 0).length),(25,I ↑k)]) (λ(k,vl) w'=>Fp w w'/\Fo w' b1 [I n,vf] 56/\Vc.Xbf Tryz.prog 181 GH Fi.v w' ha fs.length F/\Fo w' b2 (G0 (HJ fs)) 176/\k<=(Gi fs 0).length/\Vc.Own Fi.cs 5 62 w.heap.size w' vl ((Gi fs 0).take k)) (λ(k,vl)=>(Gi fs 0).length-k) (0,.slice none 0 0) ⟨z,H,r,J,Ab _,Vc.Own.nil⟩ ?_));rintro _ ⟨k,vl⟩ w6 ⟨z,H,r,J,hk1,O⟩;refine Fk (λc3=>?_) λc3=>?_
  ·obtain⟨f,hk⟩:∃f,(Gi fs 0)[k]?=some f:=F8;refine go ?_;refine F3 (v:=GH (0,↑k)) rfl (PH (zs:=[I 0,I 0]) (m:=2) (e:=3) (k:=1) (pv:=[(0,I 0),(1,I ↑k)]) (cs:=[I 0,I ↑k]) Fe Fe He rfl) rfl (dq (LV.to (v':=f.v) (Mq O0 (kx:=(0,↑k)) (z0:=Fi.zero) rfl rfl Fe r ⟨by unfold Fx;omega,by unfold Fx;have:=Y 0;omega⟩) (congrArg (λo:Option Fi=>Fi.v (o.getD Fi.zero)) ((hj 0 k).trans hk))) (lA 62 rfl λb3 w7 e3 x7 m3=>?_));have g3:=z.ge e3;have n3_1:=H.ltb e3;have n3_2:=J.ltb e3;have n3_mp9:=r.lt;have o3_hoL:=O.ltb e3;refine FV x7 H r J O z λH r J O z=>G1 f O m3 (λvp w8 hq x8=>?_) (hb:=(by have:=Y 0;simp;omega));have H:=H.mod x8 Fw;have r:=r.mod x8 (r.ne_own O);have J:=J.mod x8 Fw;have z:=z.own x8 F4;have O:=hq;clear m3;refine go ?_;exact FJ (k+1,vp) ⟨z,H,r,J,by omega,by rw[GQ hk];exact O⟩
  rw[Ar Fb]at O;refine go ?_;refine dq (Fy (k:=2) Fe rfl rfl H.row) (Gw (YW n fs vf 0 (Gi fs 0) vl w.heap.size _ (hv.ext z) hl O (λe=>by rw[e]at h4;simp at h4) (by have:=Y 0;omega) z.size ht Fj) λvr w9 x9 hp=>?_);have hsz9:=z.size;have H:=H.mod x9 Fw;have r:=r.mod x9 (r.ne_own O);have J:=J.mod x9 Fw;have z:=z.own x9 F4;refine go ?_;exact⟨_,rfl,z,vr,by rw[X5p h4];rfl,by rw[X5p h4];exact hp⟩
 have h0:¬ 4<=(Gi fs 0).length:=λh9=>c2 (show((4:Nat):Int)<=((Gi fs 0).length:Int) from DA.2 h9);refine F9 (G:=Nat) (λlv=>[(1,Fg b1 0),(4,Fg b2 0),(5,.map (some ha)),(8,I ↑lv)]) (λlv w'=>Fp w w'/\Fo w' b1 [I n,vf] 56/\Vc.Xbf Tryz.prog 181 GH Fi.v w' ha fs.length F/\Fo w' b2 (G0 (HJ fs)) 176/\1<=lv/\lv<=4/\∀i:Nat,1<=i->i<lv->(Gi fs ↑i).length<=4 ^ i) (λlv=>4-lv) 1 ⟨z,H,r,J,Aa _,by decide,λi h1 h2=>by omega⟩ ?_;rintro _ lv w10 ⟨z,H,r,J,hlv1,hlv4,hA⟩;refine Fk (λc4=>?_) λc4=>?_
 ·refine Gn 10000100 λw11 h7=>FP h7 H r J z λH r J z=>?_;refine go ?_;refine dp (La (m:=5) (e:=3) (k:=1) Fe rfl rfl Fb) (dL rfl (λ_ hR=>((J.ext hR).at (MN (Ni fs (show lv<5 by omega))))) (go ?_));refine dp (Kp rfl rfl (by unfold Fx;omega)) (F3 (v:=I ↑(4 ^ lv)) rfl (Ov rfl rfl Fb) (Yb7 hlv1 Fb) (dp (IA rfl rfl) ?_));refine Fk (λc5=>?_) λc5=>?_
  ·refine go ?_;refine FJ (lv+1) ⟨z,H,r,J,by omega,by omega,λi h1 h2=>?_⟩
   by_cases e9:i=lv
   ·subst e9;exact DA.1 c5
   ·exact hA i h1 Fb
  have hgt:4 ^ lv<(Gi fs ↑lv).length:=Nat.lt_of_not_le (λh9=>c5 (DA.2 h9));have hp4:=X9e hlv1;obtain⟨f0,hk0⟩:∃f,(Gi fs ↑lv)[0]?=some f:=F8;have xc:Jq (Gi fs ↑lv) 0=f0:=by unfold Jq;rw[hk0];rfl
  refine go ?_;refine F3 (v:=GH (↑lv,((0:Nat):Int))) rfl (PH (zs:=[I 0,I 0]) (m:=2) (e:=3) (k:=1) (pv:=[(0,I ↑lv),(1,I ((0:Nat):Int))]) (cs:=[I ↑lv,I ((0:Nat):Int)]) Fe Fe He rfl) rfl (dq (LV.to (v':=f0.v) (Mq O0 (kx:=(↑lv,((0:Nat):Int))) (z0:=Fi.zero) rfl rfl Fe r ⟨by unfold Fx;omega,by unfold Fx;omega⟩) (congrArg (λo:Option Fi=>Fi.v (o.getD Fi.zero)) ((hj ↑lv 0).trans hk0))) (aL [.int .i64 0,.int .i64 0,.int .i64 0,S [],S []] λb4 w12 e4 h8 Z=>?_));have g4:=z.ge e4;have n4_1:=H.ltb e4;have n4_2:=J.ltb e4;have n4_mp9:=r.lt;refine FP h8 H r J z λH r J z=>Gc Z (λw13 hg xs13 Z=>?_);have H:=H.mo hg;have r:=r.mod hg Fw;have J:=J.mo hg;have z:=z.o1 hg;refine go ?_;refine dp (La (m:=5) (e:=3) (k:=1) Fe rfl rfl Fb) (dl rfl (J.at (MN (Ni fs (show lv<5 by omega)))) (F9 (G:=Nat×Fi) (λ(i,o)=>[(1,Fg b1 0),(4,Fg b2 0),(5,.map (some ha)),(8,I ↑lv),(9,Fg b4 0),(56,I ↑(Gi fs ↑lv).length),(57,I ↑i)]) (λ(i,o) w'=>Fp w w'/\Fo w' b1 [I n,vf] 56/\Vc.Xbf Tryz.prog 181 GH Fi.v w' ha fs.length F/\Fo w' b2 (G0 (HJ fs)) 176/\i<=(Gi fs ↑lv).length/\o=Jf ((Gi fs ↑lv).take i) f0/\Fo w' b4 o.cs 62) (λ(i,o)=>(Gi fs ↑lv).length-i) (0,f0) ⟨z,H,r,J,Ab _,rfl,Z⟩ ?_));rintro _ ⟨i,o⟩ w14 ⟨z,H,r,J,hi1,ho9,Z⟩;refine Fk (λc6=>?_) λc6=>?_
  ·obtain⟨f,hk⟩:∃f,(Gi fs ↑lv)[i]?=some f:=F8;have hk9:=Y ↑lv;refine go ?_;refine F3 (v:=GH (↑lv,↑i)) rfl (PH (zs:=[I 0,I 0]) (m:=2) (e:=3) (k:=1) (pv:=[(0,I ↑lv),(1,I ↑i)]) (cs:=[I ↑lv,I ↑i]) Fe Fe He rfl) rfl (dq (LV.to (v':=f.v) (Mq O0 (kx:=(↑lv,↑i)) (z0:=Fi.zero) rfl rfl Fe r ⟨by unfold Fx;omega,by unfold Fx;have:=Y ↑lv;omega⟩) (congrArg (λo:Option Fi=>Fi.v (o.getD Fi.zero)) ((hj ↑lv i).trans hk))) (aL [.int .i64 0,.int .i64 0,.int .i64 0,S [],S []] λb5 w15 e5 hw m5=>?_));have g5:=z.ge e5;have n5_1:=H.ltb e5;have n5_2:=J.ltb e5;have n5_4:=Z.ltb e5;have n5_mp9:=r.lt;refine FV hw H r J Z z λH r J Z z=>Gc m5 (λw16 hc xs16 m5=>?_);have H:=H.mo hc;have r:=r.mod hc Fw;have J:=J.mo hc;have Z:=Z.mo hc;have z:=z.o1 hc;refine Fk (λc7=>?_) λc7=>?_
   ·refine go ?_;refine dq (Fy (k:=5) Fe rfl rfl m5.row) (Gc Z (λw17 hh xs17 Z=>?_));have H:=H.mo hh;have r:=r.mod hh Fw;have J:=J.mo hh;have z:=z.o1 hh;refine go ?_;exact⟨(i+1,f),GY,⟨z,H,r,J,by omega,by rw[Pr hk,<-ho9,if_pos Fb],Z⟩,by simp only [];omega⟩
   refine go ?_;exact⟨(i+1,o),GY,⟨z,H,r,J,by omega,by rw[Pr hk,<-ho9,if_neg Fb],Z⟩,by simp only [];omega⟩
  refine go ?_;refine dq (Fy (k:=2) Fe rfl rfl H.row) (go ?_);refine dq (Fy (k:=5) Fe rfl rfl Z.row) (lA 62 rfl λb6 w18 e6 xe m6=>?_);have g6:=z.ge e6;have z:=z.trans xe;have O:=m6.own (enc:=Fi.cs) (B:=w.heap.size) (l:=[o]) (sz:=5) (m:=1) g6 rfl Ff rfl (Aj rfl);refine cD (YW n fs vf ↑lv [o] (.slice (some ⟨b6,0,none⟩) 1 1) w.heap.size _ (hv.ext z) hl O F5 F5 z.size ht Fb) (.inl rfl) λvr w19 xb hp=>?_;have hsz19:=z.size;have z:=z.own xb F4;refine go ?_;rw[Ar Fb]at ho9;have e9:Hq (Gi fs ↑lv)=o:=by unfold Hq;rw[xc,<-ho9]
  have e8:=X9c h0 hlv1 Fb hA hgt;rw[e9]at e8;exact⟨_,rfl,z,vr,by rw[e8];rfl,by rw[e8];exact hp⟩
 refine go ?_;have e8:=X9d h0 (λi h1 h2=>hA i h1 Fb);exact⟨_,rfl,z,_,by rw[e8];rfl,by rw[e8];exact Vc.Own.nil⟩
theorem Xz5 (a b:Fh):F0 a (Jd a b)=false/\F0 b (Jd a b)=false:=by
 unfold Jd;split
 ·rename_i h;exact⟨KR h,IC _⟩
 ·rename_i h;exact⟨IC _,by simpa using h⟩
theorem Yr (a b:Fh):F0 (Jg a b) a=false/\F0 (Jg a b) b=false:=by
 unfold Jg;split
 ·rename_i h;exact⟨KR h,IC _⟩
 ·rename_i h;exact⟨IC _,by simpa using h⟩
theorem UJ : ∀(l:List Fi) (a:Fh),F0 a (HQ l a)=false/\∀f∈l,F0 f.fst (HQ l a)=false
 | [],a=>⟨IC _,λf z=>by cases z⟩
 | x :: r,a=>by
  obtain⟨h1,h2⟩:=UJ r (Jd a x.fst);have e:HQ (x :: r) a=HQ r (Jd a x.fst):=rfl;rw[e];refine⟨Pi h1 (Xz5 a x.fst).1,λf z=>?_⟩;rcases Ah.1 z with rfl|z
  ·exact Pi h1 (Xz5 a f.fst).2
  ·exact h2 f z
theorem XT : ∀(l:List Fi) (a:Fh),F0 (HP l a) a=false/\∀f∈l,F0 (HP l a) f.lst=false
 | [],a=>⟨IC _,λf z=>by cases z⟩
 | x :: r,a=>by
  obtain⟨h1,h2⟩:=XT r (Jg a x.lst);have e:HP (x :: r) a=HP r (Jg a x.lst):=rfl;rw[e];refine⟨Pi (Yr a x.lst).1 h1,λf z=>?_⟩;rcases Ah.1 z with rfl|z
  ·exact Pi (Yr a f.lst).2 h1
  ·exact h2 f z
theorem VB {p q:Fi->Bool}(h:∀f,¬ (p f=true/\q f=true)):∀l:List Fi,(l.filter p).length+(l.filter q).length<=l.length
 | []=>Aa _
 | a :: r=>by
  have ih:=VB h r;have ha:=h a;rw[BF,BF]
  cases hp:p a<;>cases hq:q a<;>simp_all<;>omega
variable {V:Vs}
theorem YQ (hV:Hw V=true){lev:Int}(hl:l≠[])(hs:∀f∈l,f∈V.fs/\f.lev=lev)(h0:0<=lev/\lev<=3)(hnd:(l.map (·.id)).Nodup)(hlen:l.length<=(Gi V.fs lev).length)(hsrc:lev=0->∀f∈V.fs,f.lev=0->f∈l):PickP V (Lj V.fs l lev) (lev+1):=by
 have H:∀f,f∈HF V.fs (lev+1) (HQ l (Jq l 0).fst) (HP l (Jq l 0).lst)->f∈V.fs/\f.lev=lev+1:=λf z=>by
  obtain⟨h1,h2⟩:=Av.1 z;unfold IX at h2;simp only [Aq,decide_eq_true_eq]at h2;exact⟨h1,h2.1.1⟩
 have J:=(JG hV).2.2.2.2.1;refine⟨?_,λf z=>?_,⟨by omega,by omega⟩,λe f z Y=>List.mem_append_left _ (hsrc Fb f z Y),λf z hfl g O Z h1 h2=>?_,?_,?_⟩
 ·cases l with
  | nil=>exact absurd rfl hl
  | cons a r=>exact⟨a,rfl,by rw[(hs a Ai).2]⟩
 ·rcases Ak.1 z with z|z
  ·exact⟨(hs f z).1,.inl (by have:=(hs f z).2;omega)⟩
  ·exact⟨(H f z).1,.inr (H f z).2⟩
 ·rcases Ak.1 z with z|z
  ·refine Bz _ (Av.2 ⟨O,?_⟩);unfold IX;have a1:F0 g.lst (HQ l (Jq l 0).fst)=false:=by
    cases e:F0 g.lst (HQ l (Jq l 0).fst)with
    | false=>rfl
    | true=>rw[Tp e ((UJ l _).2 f z)]at h1;cases h1
   have a2:F0 (HP l (Jq l 0).lst) g.fst=false:=by
    cases e:F0 (HP l (Jq l 0).lst) g.fst with
    | false=>rfl
    | true=>rw[OT ((XT l _).2 f z) e]at h2;cases h2
   rw[decide_eq_true Z,a1,a2];rfl
  ·have:=(H f z).2;omega
 ·have h1:(HF V.fs (lev+1) (HQ l (Jq l 0).fst) (HP l (Jq l 0).lst)).length<=(Gi V.fs (lev+1)).length:=by
   have e:HF V.fs (lev+1) (HQ l (Jq l 0).fst) (HP l (Jq l 0).lst)=(Gi V.fs (lev+1)).filter (IX (lev+1) (HQ l (Jq l 0).fst) (HP l (Jq l 0).lst)):=by
    unfold HF Gi;rw[List.filter_filter]
    congr 1
    funext f
    unfold IX
    by_cases e9:f.lev=lev+1<;>simp [e9]
   rw[e];exact AZ _ _
  have h2:(Gi V.fs lev).length+(Gi V.fs (lev+1)).length<=V.fs.length:=VB (λf h=>by simp only [decide_eq_true_eq]at h;omega) V.fs;unfold Lj;rw[Ad];omega
 ·unfold Lj;rw[A6];refine List.nodup_append.2 ⟨hnd,List.Nodup.sublist (CH _ Cf) J,λa ha b hb e=>?_⟩;obtain⟨f,z,rfl⟩:=Ay.1 ha;obtain⟨g,O,rfl⟩:=Ay.1 hb;have e2:f=g:=LZ J (hs f z).1 (H g O).1 e;have e3:=(hs f z).2;have e4:=(H g O).2;rw[e2]at e3;omega
theorem Y8 : ∀(l:List Fi) (o:Fi),Jf l o=o\/Jf l o∈l
 | [],o=>.inl rfl
 | x :: r,o=>by
  have e:Jf (x :: r) o=Jf r (if x.id<o.id then x else o):=rfl;rw[e];rcases Y8 r (if x.id<o.id then x else o)with h|h
  ·rw[h];split
   ·exact .inr Ai
   ·exact .inl rfl
  ·exact .inr (Ao _ h)
theorem Xum (h:l≠[]):Hq l∈l:=by
 unfold Hq;rcases Y8 l (Jq l 0)with e|e
 ·rw[e]
  cases l with
  | nil=>exact absurd rfl h
  | cons a r=>exact Ai
 ·exact e
theorem Ro {i:Int}: f∈Gi fs i↔f∈fs/\f.lev=i:=by unfold Gi;rw[Av,decide_eq_true_eq]
theorem Yb8 {p:List Fi}(hV:Hw V=true)(h:J5 V.fs=some p):∃lv:Nat,PickP V p ↑lv:=by
 have r:=(JG hV).2.2.2.2.1;have one:∀lv:Nat,1<=lv->lv<=3->0<(Gi V.fs ↑lv).length->PickP V (Lj V.fs [Hq (Gi V.fs ↑lv)] ↑lv) (↑lv+1):=λlv h1 h3 H=>by
  have hm:=Xum (List.ne_nil_of_length_pos H);exact YQ hV F5 (λf z=>by rw[Af.1 z];exact Ro.1 hm) ⟨by omega,by omega⟩ F5 H (λe=>by omega)
 unfold J5 at h;split at h
 ·rename_i h4;obtain rfl:=Al.inj h;exact⟨1,YQ hV (λe=>by rw[e]at h4;simp at h4) (λf z=>Ro.1 z) ⟨by decide,by decide⟩ (List.Nodup.sublist (CH _ Cf) r) (Aa _) (λ_ f z e=>Ro.2 ⟨z,e⟩)⟩
 split at h
 ·rename_i h4;obtain rfl:=Al.inj h;exact⟨2,one 1 Fj Fj (En (Ab _) h4)⟩
 split at h
 ·rename_i h4;obtain rfl:=Al.inj h;exact⟨3,one 2 Fj Fj (En (Ab _) h4)⟩
 split at h
 ·rename_i h4;obtain rfl:=Al.inj h;exact⟨4,one 3 Fj Fj (En (Ab _) h4)⟩
 ·cases h
theorem X3l (fs:List Fi):(J5 fs).isSome=true↔4<=(Gi fs 0).length\/4<(Gi fs 1).length\/16<(Gi fs 2).length\/64<(Gi fs 3).length:=by
 unfold J5
 repeat' split
 all_goals simp<;>omega
theorem X0a {gs add:List Fi}(hp:gs.Perm (fs++add))(h:(J5 fs).isSome=true):(J5 gs).isSome=true:=by
 have r:∀i,(Gi fs i).length<=(Gi gs i).length:=λi=>by
  have h1:(Gi gs i).Perm (Gi (fs++add) i):=hp.filter _;rw[h1.length_eq];unfold Gi;rw[Bs,Ad];omega
 rw[X3l]at h ⊢;have:=r 0;have:=r 1;have:=r 2;have:=r 3;omega
structure QsE (B:Nat)(qs:List (Value×List Cell))(w:World):Prop where
 row:∀q∈qs,Vc.Own Cell.cs 4 79 B w q.1 q.2
section
variable {B B':Nat}{qs:List (Value×List Cell)}{w w':World}{S:Nat->Prop}
theorem QsE.ext (h:QsE B qs w)(x:Fp w w'):QsE B qs w':=⟨λq r=>(h.row q r).ext x⟩
instance : Up w w' (QsE B qs w) (QsE B qs w'):=⟨λx h=>QsE.ext h x⟩
theorem QsE.mod (h:QsE B qs w)(m:Vc.Mod S w w')(hS:∀q∈qs,∀k,q.1.ownBlock=some k->¬ S k):QsE B qs w':=⟨λq r=>(h.row q r).mod m (hS q r)⟩
theorem QsE.ne {α:Type}{enc:α->List Value}{sz T:Nat}{v:Value}{l:List α}(h:QsE B qs w)(ho:Vc.Own enc sz T B' w v l)(hT:Nat.beq 79 T=false):∀q∈qs,∀k,q.1.ownBlock=some k->¬ v.ownBlock=some k:=λq r k hk=>(h.row q r).ne ho hT hk
theorem QsE.snoc {v:Value}{l:List Cell}(h:QsE B qs w)(ho:Vc.Own Cell.cs 4 79 B w v l):QsE B (qs++[(v,l)]) w:=⟨λq r=>(Ak.1 r).elim (h.row q) (λe=>by rw[Af.1 e];exact ho)⟩
theorem QsE.lt (h:QsE B qs w):∀q∈qs,∀k,q.1.ownBlock=some k->k<w.heap.size:=λq r k hk=>((h.row q r).lt k hk).2
end
theorem UO {rem:List Tb}{t:Tb}(ht:t∈rem)(hnd:(rem.map (·.h)).Nodup):rem.Perm (t :: rem.filter λq=>decide (q.h≠t.h))/\((rem.filter λq=>decide (q.h≠t.h)).map (·.h)).Nodup/\∀y,(y∈rem.map (·.h)/\y≠t.h)↔y∈(rem.filter λq=>decide (q.h≠t.h)).map (·.h):=by
 refine⟨?_,List.Nodup.sublist (CH _ Cf) hnd,λy=>?_⟩
 ·induction rem with
  | nil=>cases ht
  | cons a r ih=>
   rw[Am,Bk]at hnd;rw[BF]
   by_cases e:a.h=t.h
   ·have J:a=t:=by
     rcases Ah.1 ht with e2|h2
     ·exact e2.symm
     ·exact absurd (by rw[e];exact Ct h2) hnd.1
    rw[if_neg (by simp [e])];have:r.filter (λq=>decide (q.h≠t.h))=r:=BG.2 λq z=>by
     have:q.h≠t.h:=λe2=>hnd.1 (by rw[e,<-e2];exact Ct z);simpa using this
    rw[this,J]
   ·rw[if_pos (by simpa using e)];have H:t∈r:=(Ah.1 ht).resolve_left (λe2=>e (by rw[e2]));exact((ih H hnd.2).cons a).trans (List.Perm.swap t a _)
 ·simp only [Ay,Av,decide_eq_true_eq]
  constructor
  ·rintro ⟨⟨q,z,rfl⟩,hn⟩;exact⟨q,⟨z,hn⟩,rfl⟩
  ·rintro ⟨q,⟨z,hn⟩,rfl⟩;exact⟨⟨q,z,rfl⟩,hn⟩
def Ma (most:Int)(l:List Rw):List Rw:=if most<1 then l else l.take most.toNat
variable {m:List Cell}
theorem Xq4 {c:Cell}(h:m[k]?=some c):Iy (m.take (k+1))=if c.del=true then Iy (m.take k)else Iy (m.take k)++[⟨c.key,c.val,false⟩]:=by
 unfold Iy;rw[GQ h,Bs,A6]
 cases hd:c.del<;>simp [hd]
theorem U5 (m:List Cell)(k:Nat):(Iy (m.take k)).length<=m.length:=by
 unfold Iy;rw[Aw];have h1:=AZ (λc:Cell=>!c.del) (m.take k);have h2:(m.take k).length<=m.length:=List.length_take_le' ..;omega
theorem Xun {most:Int}(h:((Iy (m.take k)).length:Int)=most)(h1:1<=most):Ma most (Iy m)=Iy (m.take k):=by
 have e:Iy m=Iy (m.take k)++Iy (m.drop k):=by
  conv=>lhs;rw[<-List.take_append_drop k m]
  unfold Iy;rw[Bs,A6]
 unfold Ma;rw[if_neg Fb,e,<-h,Int.toNat_natCast,List.take_left]
theorem X0b {most:Int}(h:most<1\/((Iy m).length:Int)<most):Ma most (Iy m)=Iy m:=by
 unfold Ma;split
 ·rfl
 ·exact Ar Fb
theorem S5 {qs:List (Value×List Cell)}{L:List (List Cell)}(h:qs.map (·.2)=L):qs.flatMap (·.2)=L.flatten:=by rw[<-h,Ef]
variable {frm:Fh}{ts:List Tb}
theorem Yd {to:Fh}{dn:List Tb}(h:dn.Perm ts)(mem:List Cell):((scan mem frm to :: dn.map λt=>scan t.cs frm to).flatten).length<=(FQ mem ts).length:=by
 have h1:∀dn:List Tb,((dn.map λt=>scan t.cs frm to).flatten).length<=(dn.flatMap (·.cs)).length:=by
  intro dn
  induction dn with
  | nil=>exact Aa _
  | cons t r ih=>
   have:(scan t.cs frm to).length<=t.cs.length:=AZ _ _;simp only [Am,Cx,AF,Ad];omega
 have h2:=h1 dn;have h3:(dn.flatMap (·.cs)).length=(ts.flatMap (·.cs)).length:=(EW _ h).length_eq;have h4:(scan mem frm to).length<=mem.length:=AZ _ _;unfold FQ;simp only [Cx,Ad];omega
theorem XP {to:Fh}{dn:List Tb}(h:dn.Perm ts)(mem:List Cell)(c:Cell):c∈(scan mem frm to :: dn.map λt=>scan t.cs frm to).flatten↔c∈scan (FQ mem ts) frm to:=by
 unfold scan;rw[Cx,Ak,List.mem_flatten,Av,Av,Hg]
 constructor
 ·rintro (⟨h1,h2⟩|⟨x,hx,hc⟩)
  ·exact⟨.inl h1,h2⟩
  ·obtain⟨t,r,rfl⟩:=Ay.1 hx;have:=Av.1 hc;exact⟨.inr ⟨t,h.mem_iff.1 r,this.1⟩,this.2⟩
 ·rintro ⟨h1|⟨t,r,h1⟩,h2⟩
  ·exact .inl ⟨h1,h2⟩
  ·exact .inr ⟨_,Ay.2 ⟨t,h.mem_iff.2 r,rfl⟩,Av.2 ⟨h1,h2⟩⟩
theorem NL (κ:Nat->Nat)(bs bd bl bo bm:Nat)(vf:Value)(L:Led)(D:Dsk)(V:Vs)(ts:List Tb)(mem:List Cell)(dead:Bool)(frm to:Fh)(most:Int)(w:World)(h:StE κ bs bd bl bo bm vf L D V ts mem dead w)(hnd:(ts.map (·.h)).Nodup)(hokh:∀t∈ts,Kq t.h)(hml:mem.length<=900000)(hms:∀c∈mem,c.seq<=4611686018427387904)(htl:ts.length<=900000)(hcl:(FQ mem ts).length<=9000000) :
  Gf 21 [Fg bs 0,S frm,S to,I most] w λu w'=>∃L m,(∀c,c∈L↔c∈scan (FQ mem ts) frm to)/\L.length<=(FQ mem ts).length/\Mg L m/\Vc.Own Rw.cs 3 48 w.heap.size w' u (Ma most (Iy m)):=by
 refine cE Tryz.func21 λJ=>?_;have hm:=h.m;have z:=h.mp.at;have xl:=h.mr;have xp:=h.tb;refine go ?_;refine dp (GS Fe rfl rfl) ?_;refine Fk (λc1=>?_) λc1=>?_
 ·exact absurd c1 F5
 refine go ?_;refine df 5 (rfl) (Ge (xl.calls_scan frm to _ Fb hms) λv0 w1 x1 hc=>?_);have hsz1:=J.size;refine Fz x1 z J λz J=>?_;refine Io (e:=95) (sz:=1) (zs:=[.slice none 0 0]) (pv:=[(0,?a6_0)]) (cs:=[?a6_0]) rfl Fe ⟨rfl,rfl⟩ Fe rfl ?h6 ?f6 RX.all (λb1 w2 e1 x2 m1=>?k6)
 case h6=>refine⟨rfl,?_,trivial⟩<;>(conv=>lhs;whnf)
 case f6=>simp [Hm,Gr,An,hc.sl.cells]
 have g1:=J.ge e1;have n1_mp9:=z.lt;have o1_hoS:=hc.ltb e1;refine FB x2 z hc J λz hc J=>go ?_;refine df 4 (rfl) (dl rfl ((hm.ext J).at rfl) (Y0 NE rfl rfl z RX.all (λb2 w3 hj e2 x3 hcn2 Z=>?_)));have g2:=J.ge e2;have n2_1:=m1.ltb e2;have n2_mp9:=z.lt;have o2_hoS:=hc.ltb e2;refine FP x3 z hc m1 J λz hc m1 J=>?_;refine F9 (G:=List Tb×List Tb×List (Value×List Cell)×Value×Nat) (λ(rem,dn,qs,vr,cnt)=>[(1,S frm),(2,S to),(3,I most),(8,.slice none 0 0),(9,vr),(29,Fg b2 0)]) (λ(rem,dn,qs,vr,cnt) w'=>Fp w w'/\Vc.Xbf Tryz.prog 104 GH pO w' bo (ts.map Tb.kv).length (lk (ts.map Tb.kv))/\(dn++rem).Perm ts/\(rem.map (·.h)).Nodup/\qs.map (·.2)=(scan mem frm to :: dn.map λt=>scan t.cs frm to)/\Vc.Own KO 1 95 w.heap.size w' vr qs/\QsE w.heap.size qs w'/\Vc.Xa4 Tryz.prog 104 GH pO w' bo b2 (ts.map Tb.kv).length (lk (ts.map Tb.kv)) (λx=>x∈rem.map (·.h)) cnt) (λ(rem,dn,qs,vr,cnt)=>cnt) (ts,[],[(v0,scan mem frm to)],.slice (some ⟨b1,0,none⟩) 1 1,hj) ⟨J,z,List.Perm.refl _,hnd,rfl,m1.own (enc:=KO) (B:=w.heap.size) (l:=[(v0,scan mem frm to)]) (sz:=1) (m:=1) g1 rfl Ff rfl (Aj rfl),⟨λq hq=>by rw[Af.1 hq];exact hc⟩,Z.congr (λx=>by rw[Oy,Jn,Option.isSome_map];unfold HH;rw[List.find?_isSome];simp)⟩ ?_;rintro _ ⟨rem,dn,qs,vr,cnt⟩ w4 ⟨J,z,hpr,hndr,hqs,O,hQ,Z⟩;refine go ?_;refine XU NE rfl rfl Z (.inl rfl) (λxw=>?_) (λx a w5 hj hok xo xj hl xs5 xr h9 xf=>?_)
 ·have xt:rem=[]:=by
   cases rem with
   | nil=>rfl
   | cons q r=>exact absurd (Ay.2 ⟨q,Ai,rfl⟩) (xw q.h (hokh q (hpr.mem_iff.1 F5)))
  subst xt;rw[List.append_nil]at hpr;have hy:=congrArg A5 hqs;have xb:=hpr.length_eq;simp only [Aw,AA]at hy;refine go ?_;refine GL rfl (Ge (SZ qs vr _ (O.arr Ff) (λq hq=>(hQ.row q hq).arr Ff) Fb (by rw[S5 hqs];have:=Yd (frm:=frm) (to:=to) hpr mem;omega)) λvm w6 x6 xu=>?_);have xa:=J.size;refine FV x6 z O hQ Z J λz O hQ Z J=>?_;obtain⟨m,hp,xh⟩:=xu;have Y:=xh.mono xa;have xg:=(OH hp).1;rw[S5 hqs]at xg hp;have hr:=Yd (frm:=frm) (to:=to) hpr mem;refine dv 79 4 (Y.arr Ff).sl (F9 (G:=Nat×Value) (λ(k,vl)=>[(3,I most),(8,.slice none 0 0),(12,vl),(42,vm),(43,I ↑m.length),(44,I ↑k)]) (λ(k,vl) w'=>Fp w w'/\k<=m.length/\(most<1\/((Iy (m.take k)).length:Int)<most)/\Vc.Own Rw.cs 3 48 w.heap.size w' vl (Iy (m.take k))/\Vc.Own Cell.cs 4 79 w.heap.size w' vm m) (λ(k,vl)=>m.length-k) (0,.slice none 0 0) ⟨J,Ab _,(by show most<1\/((0:Nat):Int)<most;omega),Vc.Own.nil,Y⟩ ?_);rintro _ ⟨k,vl⟩ w7 ⟨J,hk1,hmo,H,Y⟩;refine Fk (λc2=>?_) λc2=>?_
  ·obtain⟨c,hk⟩:∃c,m[k]?=some c:=F8;have ha:=Xq4 hk;have hrl:=U5 m k;refine go ?_;refine di 79 4 (Y.arr Ff).sl rfl ((Y.arr Ff).lt hk) (dq (Fy Fe rfl rfl ((Y.arr Ff).row hk)) (aL [S [],S [],B false,.int .i64 0] λb3 w8 e3 x8 m3=>?_));have g3:=J.ge e3;have o3_hoR:=H.ltb e3;have o3_hoM:=Y.ltb e3;refine FB x8 H Y J λH Y J=>Gc m3 (λw9 x9 xs9 m3=>?_);have H:=H.mod x9 Fw;have Y:=Y.mod x9 Fw;have J:=J.o1 x9;refine FZ (λc3=>?_) λc3=>?_
   ·refine go ?_;rw[if_pos c3]at ha;exact FJ (k+1,vl) ⟨J,by omega,by rw[ha];exact hmo,by rw[ha];exact H,Y⟩
   refine go ?_;refine db (zs:=[S [],S [],B false]) (pl:=[(0,1),(1,1),(2,1)]) (pv:=[(0,_),(1,_)]) (cs:=[_,_,B false]) ?_;refine lA 48 rfl λb4 w10 e4 xk m4=>?_;have g4:=J.ge e4;have o4_hoR:=H.ltb e4;have o4_hoM:=Y.ltb e4;refine FB xk H Y J λH Y J=>G1 ⟨c.key,c.val,false⟩ H m4 λxn w11 h5 xd=>?_;have Y:=Y.mod xd (by exact(λk hk=>Y.ne H rfl hk));have J:=J.own xd F4;have H:=h5;clear m4;refine go ?_;refine dv 48 3 (H.arr Ff).sl ?_;refine Fk (λc4=>?_) λc4=>?_
   ·refine go ?_;rw[if_neg (by rw[c3];decide)]at ha;rw[<-ha]at H;have hh:=congrArg A5 ha;simp only [Ad,AA,Bl]at hh c4;rw[<-Xun (k:=k+1) (m:=m) (most:=most) Fb Fb]at H;exact⟨_,rfl,J,_,m,XP hpr mem,hr,hp,H⟩
   refine go ?_;rw[if_neg (by rw[c3];decide)]at ha;rw[<-ha]at H;have hh:=congrArg A5 ha;simp only [Ad,AA,Bl]at hh c4;exact FJ (k+1,xn) ⟨J,by omega,by omega,H,Y⟩
  refine go ?_;rw[Ar Fb]at H hmo;rw[<-X0b hmo]at H;exact⟨_,rfl,J,_,m,XP hpr mem,hr,hp,H⟩
 have z:=z.mod hl Fw;have O:=O.mod hl (by exact(λk hk e=>Z.ne_own O (hk.trans (congrArg some e))));have hQ:=hQ.mod hl (λq hq k hk e=>Z.ne_own (hQ.row q hq) (hk.trans (congrArg some e)));have J:=J.own hl F4;have Z:=h9;obtain⟨t,ht,rfl⟩:=Ay.1 xo;have xc:t∈ts:=hpr.mem_iff.1 (Bz _ ht);rw[Oy,Jn,NR hnd xc]at xj
 cases xj
 have hT:=xp t xc;obtain⟨hw,xi,h7⟩:=UO ht hndr;have hy:=congrArg A5 hqs;have xb:=hpr.length_eq;simp only [Aw,AA,Ad]at hy xb;refine go ?_;refine GD rfl (go ?_);refine dq (YJ rfl xf) (F3 (v:=Fg t.bt 0) rfl (Yg rfl rfl) rfl (Ge (TU t.bt t.vl t.vb t.cs frm to _ (hT.ext J)) λvt w12 xq xe=>?_));have hz:=J.size;refine FV xq z O hQ Z J λz O hQ Z J=>?_;have hf:=xe.mono hz;refine Io (e:=95) (sz:=1) (zs:=[.slice none 0 0]) (pv:=[(0,?a32_0)]) (cs:=[?a32_0]) rfl Fe ⟨rfl,rfl⟩ Fe rfl ?h32 ?f32 RX.all (λb5 w13 e5 xm m5=>?k32)
 case h32=>refine⟨rfl,?_,trivial⟩<;>(conv=>lhs;whnf)
 case f32=>simp [Hm,Gr,An,hf.sl.cells]
 have g5:=J.ge e5;have n5_mp9:=z.lt;have n5_rg2:=Z.lt;have n5_rg2m:=Z.map.lt;have o5_hoQ:=O.ltb e5;have a5_hQ:=hQ.lt;refine H3 xm z O hQ Z hf J λz O hQ Z hf J=>G1 (vt,scan t.cs frm to) O m5 (λvq w14 h8 hg=>?_) (h1:=(by intro x xv u hu;rw[Af.1 xv]at hu;simp at hu;rw[hu];exact hf.sl.one));have z:=z.mod hg (z.ne_own O);have hQ:=hQ.mod hg (by exact hQ.ne O rfl);have Z:=Z.mod hg (Z.map.ne_own O) (Z.ne_own O);have hf:=hf.mod hg (by exact(λk hk=>hf.ne O rfl hk));have J:=J.own hg F4;have O:=h8;clear m5;refine go ?_;exact⟨(rem.filter (λq=>decide (q.h≠t.h)),dn++[t],qs++[(vt,scan t.cs frm to)],vq,hj),Hn,⟨J,z,by rw[List.append_assoc];exact(Ea dn hw.symm).trans hpr,xi,by rw[A6,hqs,A6];rfl,O,hQ.snoc hf,Z.congr (λy=>h7 y)⟩,xr⟩
variable {i:Nat}
theorem X0c {c:Cell}(h1:lv<i)(h:0<(HF fs ↑i c.key c.key).length):I5 fs ↑lv c=true:=by
 obtain⟨f,H⟩:=List.exists_mem_of_length_pos h;obtain⟨z,r⟩:=Av.1 H;unfold IX at r;simp only [Aq,decide_eq_true_eq]at r;unfold I5;rw[BH];refine .inr (List.any_eq_true.2 ⟨f,z,?_⟩);rw[decide_eq_true (show(↑lv:Int)<f.lev by omega),r.1.2,r.2];rfl
theorem X3m {c:Cell}(hd:c.del=true)(hlv:∀f∈fs,0<=f.lev/\f.lev<=4)(h:∀i:Nat,lv<i->i<5->¬ 0<(HF fs ↑i c.key c.key).length):I5 fs ↑lv c=false:=by
 unfold I5;rw[hd];rw[Bool.not_true,BY,D7];intro f z r;rw[Aq,Aq,decide_eq_true_eq]at r;have hr:=hlv f z;refine h f.lev.toNat Fb Fb (List.length_pos_of_mem (a:=f) (Av.2 ⟨z,?_⟩));unfold IX;rw[decide_eq_true (show f.lev=↑f.lev.toNat by omega),r.2.1,r.2.2];rfl
theorem Xuo {lv:Int}{c:Cell}(hd:c.del=false):I5 fs lv c=true:=by unfold I5;rw[hd];rfl
theorem X9f (bs bd bl:Nat)(n:Int)(vf:Value)(bo bm:Nat)(dead:Bool)(fs:List Fi)(c:Cell)(lv:Nat)(w:World)(hs:Fo w bs (Ik bd bl n vf bo bm dead) 90)(hv:Fs Fi.cs 5 w vf fs)(hl:fs.length<=100000)(hlv:∀f∈fs,0<=f.lev/\f.lev<=4)(hl4:lv<=4) :
  FW 53 [Fg bs 0,c.v,I ↑lv] w (B (I5 fs ↑lv c)):=by
 refine cE Tryz.func53 λr=>go ?_;refine Gx rfl rfl rfl RX.all (λb1 w1 e1 x1 z=>?_);have g1:=r.ge e1;have r:=r.trans x1;refine FZ (λH=>?_) λH=>?_
 ·refine go ?_;exact⟨by rw[Xuo (by simpa using H)],r⟩
 refine F9 (G:=Nat) (λi=>[(0,Fg bs 0),(4,Fg b1 0),(7,I ↑i)]) (λi w'=>Fp w w'/\lv<i/\i<=5/\(∀j:Nat,lv<j->j<i->¬ 0<(HF fs ↑j c.key c.key).length)/\Fo w' b1 c.cs 79) (λi=>5-i) (lv+1) ⟨r,by omega,by omega,λj h1 h2=>by omega,z⟩ ?_;rintro _ i w2 ⟨r,hi1,hi2,hA,z⟩;refine go ?_;refine dp (IA rfl rfl) ?_;refine Fk (λc2=>?_) λc2=>?_
 ·refine Gn 1005101001000 λw3 O=>Fz O z r λz r=>?_;refine go ?_;refine Gd rfl (λw' hR=>Fy Fe rfl rfl ((hs.ext (r.trans hR)).part 2 2)) (Ge (Pv n fs vf ↑i c.key c.key _ (hv.ext r) hl) λvo w4 J Z=>?_);have hsz4:=r.size;refine Fz J z r λz r=>dv 62 5 (Z.arr Ff).sl ?_;refine Fk (λY=>?_) λY=>?_
  ·refine go ?_;exact⟨by rw[X0c hi1 Fb],r⟩
  refine go ?_;refine FJ (i+1) ⟨r,by omega,by omega,λj h1 h2=>?_,z⟩
  by_cases e9:j=i
  ·subst e9;omega
  ·exact hA j h1 Fb
 refine go ?_;exact⟨by rw[X3m (by simpa using H) hlv (λj h1 h2=>hA j h1 Fb)],r⟩
theorem Yb9 (bs bd bl:Nat)(n:Int)(vf:Value)(bo bm:Nat)(dead:Bool)(fs:List Fi)(c:Cell)(lv:Nat)(b1 b2:Nat)(w:World)(hs:Fo w bs (Ik bd bl n vf bo bm dead) 90)(hv:Fs Fi.cs 5 w vf fs)(hl:fs.length<=100000)(hlv:∀f∈fs,0<=f.lev/\f.lev<=4)(hl4:lv<=4)(hb1:Fo w b1 [Fg bs 0] 28)(hb2:Fo w b2 [I ↑lv] 3) :
  FW 52 [c.v,Fg b1 0,Fg b2 0] w (B (!I5 fs ↑lv c)):=by
 refine cE Tryz.func52 λr=>go ?_;refine Gx rfl rfl rfl RX.all (λb1 w1 e1 J z=>?_);have g1:=r.ge e1;have r:=r.trans J;refine go ?_;refine dl rfl ((hb1.ext r).at rfl) (dq (Fy (k:=4) Fe rfl rfl z.row) (dl rfl ((hb2.ext r).at rfl) (cP (X9f bs bd bl n vf bo bm dead fs c lv _ (hs.ext r) (hv.ext r) hl hlv hl4) RX.all λw2 H=>?_)));have r:=r.trans H;refine go ?_;exact⟨rfl,r⟩
theorem Yca (l:List Cell)(v:Value)(Bo f:Nat)(cs:List Value)(p:Cell->Bool)(w:World)(ho:Vc.Own Cell.cs 4 79 Bo w v l)(hl:l.length<=1000000)(hcb:Hj Tryz.prog f=true)(hc:∀w2,Vc.Mod (λk=>v.ownBlock=some k) w w2->∀x∈l,Calls Tryz.prog f ([x.v]++cs).toArray w2 (Pure w2 (B (p x)))) :
  Gy 51 [v,Js f cs] w (λk=>v.ownBlock=some k) λu w'=>Vc.Own Cell.cs 4 79 Bo w' u (l.filter λx=>!p x):=by
 refine cM Tryz.func51 (λk=>v.ownBlock=some k) λr=>?_;have Z:=ho.sl;refine go ?_;have ho2:=ho.mod r;refine cG (X7u l v f cs p _ (ho.arr Ff) Fb hcb (λw2 x2=>hc w2 (r.ext x2))) RX.all λu1 w1 x1 hh=>?_;have hsz1:=r.size;refine Fz x1 ho r λho r=>?_;obtain⟨i0,rfl,ha⟩:=hh;refine Fk (λc1=>?_) λc1=>?_
 ·refine go ?_;have e9:l.filter (λx=>!p x)=l:=BG.2 λx hg=>by
   rcases ha with⟨_,Y⟩|⟨k9,e8,_⟩
   ·simpa using D7.1 Y x hg
   ·omega
  exact⟨_,rfl,r,by rw[e9];exact ho⟩
 obtain⟨k0,rfl,hk1,x0,hx0,hp0⟩:∃k:Nat,i0=↑k/\(l.take k).any p=false/\∃x,l[k]?=some x/\p x=true:=ha.elim (λY=>absurd Y.1 (by simpa using c1)) (λY=>Y);have hkl0:=(Ap.1 hx0).1;refine go ?_;refine U8 (G:=Nat×Nat×List Cell) (λ(n,k,cur)=>[(0,v),(1,Js f cs),(4,.slice none 0 0),(5,I ↑k),(6,I ↑n)]) (λ(n,k,cur) w'=>Mod (λk=>v.ownBlock=some k) w w'/\KL p l n k cur/\Vc.Own Cell.cs 4 79 Bo w' v cur) (λ(n,k,cur)=>l.length-n) (k0+1,k0,l) ?_ ?_ ?_
 ·exact GC
 ·exact⟨r,Ybg hx0 hp0 (λi y hi hy=>by cases e:p y with
  | false=>rfl
  | true=>exact absurd e (by have:=D7.1 hk1 y (Ag (i:=i) (by rw[List.getElem?_take,if_pos hi];exact hy));exact this)),ho⟩
 rintro _ ⟨n,k,cur⟩ w2 ⟨r,hr,ho⟩;have O:=hr.1;have hr2:=hr.2.1;have hr3:=hr.2.2.1;have hf:=Kb ho (λe=>by rw[e]at O;simp at O;omega);refine go ?_;refine dv 79 4 (ho.arr Ff).sl ?_;refine Fk (λc2=>?_) λc2=>?_
 ·obtain⟨x,hk2⟩:∃x,l[n]?=some x:=F8;have hk:cur[n]?=some x:=(hr.2.2.2.2 n (Aa n)).trans hk2;refine go ?_;refine di 79 4 (ho.arr Ff).sl rfl ((ho.arr Ff).lt hk) (dq (Fy Fe rfl rfl ((ho.arr Ff).row hk)) (aL [S [],S [],B false,.int .i64 0] λb1 w3 e1 x3 J=>?_));have g1:=r.ge e1;have o1_ho:=ho.ltb e1;refine Fz x3 ho r λho r=>Gc J (λw4 x4 xs4 J=>?_);have ho:=ho.mod x4 Fw;have r:=r.o1 x4;refine go ?_;refine dq (Fy (k:=4) Fe rfl rfl J.row) (QN (vs:=[x.v]) (cs:=cs) rfl rfl hcb (hc _ r x (Ag hk2)) rfl RX.all (λw5 x5=>FB x5 ho J r λho J r=>?_));refine FZ (λc3=>?_) λc3=>?_
  ·refine go ?_;refine dq (Fy (k:=4) Fe rfl rfl J.row) (F3 (v:=Fg (base v).1 (k*4+0)) rfl (Ii (i:=k) (e:=79) (k:=4) Fe ho.sl rfl rfl Fb) (by rw[hf];show Fg _ (0+_)=_;rw[Nat.zero_add];rfl) ?_);refine HO (enc:=Cell.cs) (sz:=4) (l:=cur) (i:=k) (j:=0) (x:=x) (vs:=x.cs) Ff rfl ho rfl rfl rfl Fe Fb rfl (Aa 4) (by intro v hv;simp at hv;rcases hv with rfl|rfl|rfl|rfl<;>rfl) (.inl rfl) (λw6 x6 xs6 H=>?_);have r:=r.own x6 F4;have ho:=H;refine go ?_;exact⟨(n+1,k+1,_),GC,⟨r,Uv hr hk2 (by simpa using c3),ho⟩,by simp only [];omega⟩
  refine go ?_;exact⟨(n+1,k,cur),GC,⟨r,TD hr hk2 (by simpa using c3),ho⟩,by simp only [];omega⟩
 refine go ?_;refine dp (H8 (e:=79) (k:=4) (m:=cur.length) (a:=k) (b:=cur.length) Fe ho.sl rfl rfl rfl Fb Fb) ?_;refine Yc (enc:=Cell.cs) (sz:=4) (e:=79) (l:=cur) (k:=k) (zs:=[S [],S [],B false,.int .i64 0]) Ff rfl Fe Fe rfl Fj (by intro z hz;simp at hz;rcases hz with rfl|rfl|rfl|rfl<;>rfl) ho rfl Fb (.inl rfl) (λw7 x7 xs7 H=>?_);have r:=r.own x7 F4;have ho:=H;refine go ?_;refine dp (H8 (e:=79) (k:=4) (m:=l.length) (a:=0) (b:=k) Fe Z rfl rfl rfl Fb Fb) (go ?_);rw[hr.2.2.2.1,Ar Fb]at ho;exact⟨_,rfl,r,ho⟩
def Mu (ts:List Tb)(f:Fi):List Cell:=match HH ts (f.lev,f.id)with
 | some t=>t.cs
 | none=>[]
theorem Sh (ts:List Tb)(p:List Fi):Jr ts p=(p.map (Mu ts)).flatten:=by rw[<-Ef];rfl
theorem Yf {t:Tb}(h:HH ts (f.lev,f.id)=some t):Mu ts f=t.cs:=by unfold Mu;rw[h]
theorem Xph {h k:Int×Int}(hk:k≠h):HH (ts.filter λq=>decide (q.h≠h)) k=HH ts k:=by
 unfold HH;rw[List.find?_filter]
 congr 1
 funext q
 by_cases e:q.h=k
 ·have:q.h≠h:=λe2=>hk (e.symm.trans e2);simp [e,hk]
 ·simp [e]
theorem SH : ∀(p:List Fi) (ts:List Tb),(ts.map (·.h)).Nodup->(p.map λf=>(f.lev,f.id)).Nodup->(Jr ts p).length<=(ts.flatMap (·.cs)).length
 | [],ts,_,_=>Ab _
 | f :: r,ts,hn,hp=>by
  rw[Am,Bk]at hp;have e:Jr ts (f :: r)=Mu ts f++Jr ts r:=rfl;rw[e,Ad]
  cases ht:HH ts (f.lev,f.id)with
  | none=>
   have e2:Mu ts f=[]:=by unfold Mu;rw[ht]
   rw[e2];have:=SH r ts hn hp.2;simpa using this
  | some t=>
   have z:=PY ht;have H:t.h=(f.lev,f.id):=by unfold HH at ht;simpa using Cp ht
   obtain⟨h1,h2,_⟩:=UO z hn;have h3:=SH r _ h2 hp.2;have h4:Jr (ts.filter λq=>decide (q.h≠t.h)) r=Jr ts r:=by
    rw[Sh,Sh]
    congr 1
    apply List.map_congr_left
    intro g O;unfold Mu;rw[Xph (λJ=>hp.1 (by rw[<-H,<-J];exact Ay.2 ⟨g,O,rfl⟩))]
   rw[h4]at h3;have Y:=(EW (·.cs) h1).length_eq;rw[AF,Ad]at Y;rw[Yf ht];omega
theorem X0e (fs:List Fi):IR fs []=fs:=by unfold IR;exact BG.2 λf _=>by simp
section
variable {n:Int}{V V':Vs}{ts ts':List Tb}{mem mem':List Cell}{L L':Led}{D D':Dsk}{dead dead' ok:Bool}{e:Int}
theorem Sto.tlen (h:Sto n V ts mem):ts.length<=(FQ mem ts).length:=by
 have:∀l:List Tb,(∀t∈l,t.cs≠[])->l.length<=(l.flatMap (·.cs)).length:=by
  intro l H
  induction l with
  | nil=>exact Ab _
  | cons t r ih=>
   have h1:=ih (λt z=>H t (Ao _ z));have h2:=List.length_pos_iff.2 (H t Ai);rw[AF,Ad,AA];omega
 have h1:=this ts (λt z=>by obtain⟨f,_,hv⟩:=h.bwd t z;exact hv.ne);unfold FQ;rw[Ad];omega
theorem Sto.okh (h:Sto n V ts mem):∀t∈ts,Kq t.h:=λt r=>by
 have h1:=h.lev r;obtain⟨f,z,hv⟩:=h.bwd t r;have h2:=Np h.isv f z;rw[hv.h];exact⟨h2.2,h2.1⟩
theorem Sto.cellsB (h:Sto n V ts mem)(hn:n<=1099511627776):∀c∈FQ mem ts,c.key.length<=4096/\c.val.length<=16384/\c.seq<=4611686018427387904:=λc r=>by
 have h1:=(h.okc c r).1;have h2:=(h.okc c r).2;unfold Gk at h1;simp only [Aq,decide_eq_true_eq]at h1;omega
theorem Yo {α β:Type}(f:α->β):∀ {l:List α},(l.map f).Nodup->l.Nodup
 | [],_=>Cj
 | a :: r,h=>by
  rw[Am,Bk]at h;exact Bk.2 ⟨λh2=>h.1 (Ct h2),Yo f h.2⟩
theorem Xpi {p:List Fi}(h:(p.map (·.id)).Nodup):(p.map λf=>(f.lev,f.id)).Nodup:=by
 have e:(p.map λf=>(f.lev,f.id)).map Prod.snd=p.map (·.id):=by rw[List.map_map];rfl
 rw[<-e]at h;exact Yo _ h
theorem UK (h:Sto n V ts mem)(hf:Lv L D V ts mem false ok 0 L' D' V' ts' mem' dead') :
  dead'=false/\mem'=[]/\Sto n V' ts' []/\(∀c∈FQ [] ts',c∈FQ mem ts)/\(FQ [] ts').length<=(FQ mem ts).length/\((J5 V.fs).isSome=true->(J5 V'.fs).isSome=true)/\L'.last=L.last/\L'.ents.length<=L.ents.length/\(∀M,Sp.Told (FQ mem ts) M->Sp.Told (FQ [] ts') M)/\(∀g:Cell->Nat,FU g (FQ [] ts')<=FU g (FQ mem ts)):=by
 rcases hf with⟨h1,_⟩|⟨_,rfl,_,_,rfl,rfl,rfl,rfl,rfl,rfl⟩|⟨_,_,m,hm,r,h2⟩
 ·cases h1
 ·exact⟨rfl,rfl,h,λc r=>r,Aa _,λh=>h,rfl,Aa _,λM h=>h,λg=>Aa _⟩
 ·obtain⟨⟨h3,h4⟩,Z⟩:=TB r;rcases Z with⟨Z,_⟩|⟨_,rfl,hs⟩
  ·exact absurd rfl Z
  ·rcases h2 with⟨h2,_⟩|⟨_,_,rfl⟩
   ·exact absurd rfl h2
   ·obtain⟨ha,O⟩:=QC (R9 h.ms) hm;obtain⟨k1,tbs,k2,Y⟩:=hs.sto h (λf hf=>(by cases hf)) ha (λc r=>Hg.2 (.inl ((O c).1 r).1)) (λu hu _ _ c r d hd hk=>h.n1 c ((O c).1 r).1 u hu d hd hk) (λt H _ hl=>by have:=(h.lev H).1;omega);have k0:ts.filter (kp [])=ts:=BG.2 λt _=>rfl;rw[k0]at k2;have z:=OH hm;refine⟨rfl,rfl,k1,λc r=>?_,?_,λhp=>?_,h3,h4,λM hT=>(hs.flush h hm hT).2.1,λg=>?_⟩
    ·rw[k2]at r;rcases Hg.1 r with r|⟨t,H,r⟩
     ·cases r
     ·rcases Ak.1 H with H|H
      ·exact Hg.2 (.inr ⟨t,H,r⟩)
      ·exact Hg.2 (.inl (z.2 c (by rw[<-Y];exact List.mem_flatMap.2 ⟨t,H,r⟩)))
    ·rw[k2];unfold FQ;rw[AB,Bb,Y,Ad,Ad];have:=z.1;omega
    ·obtain⟨fs',J,_,rfl⟩:=hs.vs;rw[Bf,X0e]at J;exact X0a J hp
    ·rw[k2];unfold FQ;rw[AB,Bb,Y,LA,LA];have:=Tw (g:=g) hm;omega
end
def OW (L:Led)(D:Dsk)(V:Vs)(ts:List Tb)(mem:List Cell)(dead did:Bool)(e:Int)(L':Led)(D':Dsk)(V':Vs)(ts':List Tb)(mem':List Cell)(dead':Bool):Prop:=
 (dead=true/\did=false/\e=9/\L'=L/\D'=D/\V'=V/\ts'=ts/\mem'=mem/\dead'=dead)\/
 (dead=false/\J5 V.fs=none/\did=false/\e=0/\L'=L/\D'=D/\V'=V/\ts'=ts/\mem'=mem/\dead'=dead)\/
 (dead=false/\(J5 V.fs).isSome=true/\∃ok e1 L1 D1 V1 ts1 mem1 dead1,Lv L D V ts mem false ok e1 L1 D1 V1 ts1 mem1 dead1/\
  ((e1≠0/\did=false/\e=e1/\L'=L1/\D'=D1/\V'=V1/\ts'=ts1/\mem'=mem1/\dead'=dead1)\/
   (e1=0/\∃(p:List Fi) (lv:Nat) (m:List Cell) (e2:Int) (D2:Dsk) (dead2:Bool),J5 V1.fs=some p/\PickP V1 p ↑lv/\Mg (Jr ts1 p) m/\L9 L1 D1 V1 ts1 false (m.filter (I5 V1.fs ↑lv)) ↑lv p e2 L' D2 V' ts' dead2/\mem'=[]/\
    ((e2≠0/\did=false/\e=e2/\D'=D2/\dead'=dead2)\/
     (e2=0/\D'=(D2.rem (p.map λf=>Iv f.id)).2/\(((D2.rem (p.map λf=>Iv f.id)).1≠0/\did=false/\e=(D2.rem (p.map λf=>Iv f.id)).1/\dead'=true)\/((D2.rem (p.map λf=>Iv f.id)).1=0/\did=true/\e=0/\dead'=dead2)))))))
theorem X3n (L:Led)(D:Dsk)(p:Fh):((L.append D p).2.1≠0/\(L.append D p).2.2.1.last=L.last/\(L.append D p).2.2.1.ents.length<=L.ents.length)\/
  ((L.append D p).2.1=0/\(L.append D p).1=L.last+1/\(L.append D p).2.2.1.last=L.last+1/\(L.append D p).2.2.1.ents.length=L.ents.length+1/\L.last<1099511627776):=by
 cases hd:L.dead with
 | true=>rw[XZ hd];exact .inl ⟨(by decide:(9:Int)≠0),rfl,Aa _⟩
 | false=>
  by_cases h2:65536<p.length\/1099511627776<=L.last
  ·rw[SA hd h2];exact .inl ⟨(by decide:(5:Int)≠0),rfl,Aa _⟩
  ·by_cases h3:(IV L D p).1≠0
   ·rw[Wc hd h2 h3];exact .inl ⟨h3,rfl,Aa _⟩
   ·rw[Tq hd h2 h3];exact .inr ⟨rfl,rfl,by unfold Led.last;simp;omega,by simp,by omega⟩
def cW (c:Cell):Nat:=1+c.key.length+c.val.length
theorem X0h {g:Cell->Nat}(out:List Cell)(c:Cell):FU g (Ht out c)<=FU g out+g c:=by
 unfold Ht;split
 ·omega
 ·have h:=List.takeWhile_append_dropWhile (p:=λx:Cell=>F0 x.key c.key) (l:=out);have h2:FU g out=FU g (out.takeWhile λx=>F0 x.key c.key)+FU g (out.dropWhile λx=>F0 x.key c.key):=by
   rw[<-LA,h]
  rw[LA];have h3:FU g (c :: out.dropWhile λx=>F0 x.key c.key)=g c+FU g (out.dropWhile λx=>F0 x.key c.key):=by unfold FU;rw[Am,AT]
  omega
theorem X7 (s:Int):∀l:List Rw,FU cW (Gj l s)<=(l.map Hu).sum
 | []=>Ab _
 | r :: l=>by
  have h1:=X7 s l;have h2:=X0h (g:=cW) (Gj l s) (r.cell s);have h3:cW (r.cell s)=Hu r:=rfl;have h4:Gj (r :: l) s=Ht (Gj l s) (r.cell s):=rfl;rw[h4,Am,AT];omega
theorem RH : ∀l:List Rw,l.length<=(l.map Hu).sum
 | []=>Ab _
 | r :: l=>by
  have h1:=RH l;have h2:1<=Hu r:=by unfold Hu;omega
  rw[Am,AT,AA];omega
structure TI (S i:Nat)(L:Led)(V:Vs)(ts:List Tb)(mem:List Cell)(M:List Rw):Prop where
 sto:Sto L.last V ts mem
 told:Sp.Told (FQ mem ts) M
 l0:0<=L.last/\L.last<=i
 en:L.ents.length<=i
 wt:FU cW (FQ mem ts)<=S
 ml:M.length<=S
section
variable {S i:Nat}{L L':Led}{D D':Dsk}{V V':Vs}{ts ts':List Tb}{mem mem':List Cell}{M:List Rw}{dead dead' ok:Bool}{e:Int}
theorem TI.nil : TI 0 0 Km ⟨1,[]⟩ [] [] []:=by
 refine⟨⟨by decide,λf J=>(by cases J),λt H=>(by cases H),Cj,λt H=>(by cases H),λc z=>(by cases z),Bq,λc z=>(by cases z),λt H=>(by cases H)⟩,⟨Bq,λr=>⟨λh=>(by cases h),λ⟨c,z,_⟩=>(by cases z.1)⟩⟩,by decide,by decide,by decide,by decide⟩
theorem TI.mono {S' i':Nat}(h:TI S i L V ts mem M)(hS:S<=S')(hi:i<=i'):TI S' i' L V ts mem M:=
 ⟨h.sto,h.told,⟨h.l0.1,by have:=h.l0.2;omega⟩,Ae h.en hi,Ae h.wt hS,Ae h.ml hS⟩
theorem TI.len (h:TI S i L V ts mem M):2*(FQ mem ts).length<=S:=by
 refine Ae ?_ h.wt;have:∀l:List Cell,(∀c∈l,Gk c=true)->2*l.length<=FU cW l:=by
  intro l z
  induction l with
  | nil=>exact Ab _
  | cons c r ih=>
   have h1:=ih (λx J=>z x (Ao _ J));have h2:=z c Ai;unfold Gk at h2;simp only [Aq,decide_eq_true_eq]at h2;unfold FU at *;rw[Am,AT,AA];have h3:cW c=1+c.key.length+c.val.length:=rfl;omega
 exact this _ (λc H=>(h.sto.okc c H).1)
theorem TI.up (h:TI S i L V ts mem M):LK M:=h.told.1
theorem TI.write {l:List Rw}(h:TI S i L V ts mem M)(hw:Tt L D mem dead l e L' D' mem' dead'):TI (S+(l.map Hu).sum) (i+1) L' V ts mem' (if e=0 then Na M l else M):=by
 have h0:=h.mono (B6 S (l.map Hu).sum) (BP i);rcases hw with⟨_,rfl,rfl,_,rfl,_⟩|⟨_,h1,rfl,rfl,_,rfl,_⟩|⟨_,hc,rfl,_,hr⟩
 ·exact h0
 ·rw[if_neg h1];exact h0
 ·rcases X3n L D (GN l)with⟨a1,a2,a3⟩|⟨a1,a2,a3,a4,a5⟩
  ·rcases hr with⟨b1,rfl,rfl,_⟩|⟨b1,_⟩
   ·rw[if_neg b1];exact⟨by rw[a2];exact h0.sto,h0.told,by rw[a2];exact h0.l0,Ae a3 h0.en,h0.wt,h0.ml⟩
   ·exact absurd b1 a1
  ·rcases hr with⟨b1,_⟩|⟨_,rfl,rfl,_⟩
   ·exact absurd a1 b1
   ·obtain⟨H,z⟩:=h.sto.write h.told hc ⟨h.l0.1,a5⟩;rw[if_pos rfl,a2];have hl1:=h.l0;have hen:=h.en;have hwt:=h.wt;have hml:=h.ml;have hcw:=X7 (L.last+1) l;refine⟨by rw[a3];exact H,z,by rw[a3];omega,by omega,?_,?_⟩
    ·have hpw:=UR (g:=cW) (Gj l (L.last+1)) mem;unfold FQ at *;rw[LA]at *;omega
    ·have h5:=VJ (Gj l 1) h.up;have h6:=OY l 1;have h7:=RH l;have r:Na M l=Ml M (Gj l 1):=rfl;rw[r];omega
theorem TI.flush (h:TI S i L V ts mem M)(hf:Lv L D V ts mem dead ok e L' D' V' ts' mem' dead'):TI S i L' V' ts' mem' M:=by
 rcases hf with⟨_,_,_,rfl,_,rfl,rfl,rfl,_⟩|⟨_,_,_,_,rfl,_,rfl,rfl,rfl,_⟩|⟨hd,_,m,hm,hc,h2⟩
 ·exact h
 ·exact h
 ·obtain⟨⟨h3,h4⟩,r⟩:=TB hc;rcases r with⟨r,rfl,rfl⟩|⟨rfl,_,hs⟩
  ·rcases h2 with⟨_,_,rfl⟩|⟨h6,_⟩
   ·exact⟨by rw[h3];exact h.sto,h.told,by rw[h3];exact h.l0,Ae h4 h.en,h.wt,h.ml⟩
   ·exact absurd h6 r
  ·rcases h2 with⟨h6,_⟩|⟨_,_,rfl⟩
   ·exact absurd rfl h6
   ·obtain⟨k1,k2,z⟩:=hs.flush h.sto hm h.told;exact⟨by rw[h3];exact k1,k2,by rw[h3];exact h.l0,Ae h4 h.en,Ae (Xuh hm z) h.wt,h.ml⟩
theorem TI.comp {did:Bool}(h:TI S i L V ts mem M)(hf:OW L D V ts mem dead did e L' D' V' ts' mem' dead'):TI S i L' V' ts' mem' M:=by
 rcases hf with⟨_,_,_,rfl,_,rfl,rfl,rfl,_⟩|⟨_,_,_,_,rfl,_,rfl,rfl,rfl,_⟩|⟨_,_,ok,e1,L1,D1,V1,ts1,mem1,dead1,hF,hr⟩
 ·exact h
 ·exact h
 ·have h1:=h.flush hF;rcases hr with⟨_,_,_,rfl,_,rfl,rfl,rfl,_⟩|⟨rfl,p,lv,m,e2,D2,dead2,_,hP,hm,hc,rfl,_⟩
  ·exact h1
  ·obtain⟨_,rfl,_⟩:=UK h.sto hF;obtain⟨⟨h3,h4⟩,z⟩:=TB hc;rcases z with⟨_,rfl,rfl⟩|⟨_,_,hs⟩
   ·exact⟨by rw[h3];exact h1.sto,h1.told,by rw[h3];exact h1.l0,Ae h4 h1.en,h1.wt,h1.ml⟩
   ·obtain⟨k1,k2,r⟩:=hs.merge h1.sto hP hm h1.told;exact⟨by rw[h3];exact k1,k2,by rw[h3];exact h1.l0,Ae h4 h1.en,Ae (Xui hm hP.nod r) h1.wt,h1.ml⟩
end
theorem X0i (κ:Nat->Nat)(bs bd bl bo bm:Nat)(vf:Value)(L:Led)(D:Dsk)(V:Vs)(ts:List Tb)(mem:List Cell)(dead:Bool)(n:Int)(w:World)(h:StE κ bs bd bl bo bm vf L D V ts mem dead w)(hSt:Sto n V ts mem)(hn:n<=1099511627776)(hal:(FQ mem ts).length<=30000)(hgv:GV w)(hgvs:∀k,Mf k->κ k=0) :
  Gy 16 [Fg bs 0] w (λk=>κ k≠0) λu w'=>∃did e κ' bm' vf' L' D' V' ts' mem' dead',u=.tuple #[B did,I e]/\(∀k,k<w.heap.size->κ' k=κ k)/\StE κ' bs bd bl bo bm' vf' L' D' V' ts' mem' dead' w'/\OW L D V ts mem dead did e L' D' V' ts' mem' dead':=by
 refine cM Tryz.func16 (λk=>κ k≠0) λZ=>?_;have O:=h;have y4:∀k,w.heap.size<=k->κ k=0:=λk hk=>Bc λh9=>by have:=h.lt k h9;omega
 have hV:=hSt.isv;obtain⟨_,_,zg,_⟩:=JG hV;have hvl2:V.fs.length<=1024:=zg;have zc:mem.length<=30000:=by unfold FQ at hal;rw[Ad]at hal;omega
 have za:=λc (hc:c∈mem)=>hSt.cellsB hn c (Hg.2 (.inl hc));have htl:=hSt.tlen;refine go ?_;refine Gx rfl rfl rfl RX.all (λb1 w1 e1 x1 m1=>?_);have g1:=Z.ge e1;have a1_hS:=O.lt;refine Fz x1 O Z λO Z=>Gp (Sj bs bd bl V.next vf bo bm dead _ O.m) λw2 x2=>FB x2 O m1 Z λO m1 Z=>?_;refine Fk (λc1=>?_) λc1=>?_
 ·refine go ?_;have xg:dead=true:=by cases dead with|true=>rfl|false=>exact absurd rfl c1
  subst xg;exact⟨_,rfl,Z,false,9,κ,bm,vf,L,D,V,ts,mem,true,rfl,λ_ _=>rfl,O,.inl ⟨rfl,rfl,rfl,rfl,rfl,rfl,rfl,rfl,rfl⟩⟩
 have zd:dead=false:=by cases dead with|false=>rfl|true=>exact absurd Fj c1
 subst zd;refine go ?_;refine dq (Fy Fe rfl rfl (O.m.part 2 2)) (cG (X5r V.next V.fs vf _ O.vs Fb hV) RX.all λu3 w3 x3 zn=>?_);have hsz3:=Z.size;refine FB x3 O m1 Z λO m1 Z=>?_;obtain⟨vp0,rfl,_⟩:=zn;refine FZ (λc2=>?_) λc2=>?_
 ·refine go ?_;exact⟨_,rfl,Z,false,0,κ,bm,vf,L,D,V,ts,mem,false,rfl,λ_ _=>rfl,O,.inr (.inl ⟨rfl,by simpa using c2,rfl,rfl,rfl,rfl,rfl,rfl,rfl,rfl⟩)⟩
 have h6:(J5 V.fs).isSome=true:=by simpa using c2
 refine go ?_;have yj:=Z.size;have y3:=m1.lt;refine cD (T7 κ bs bd bl bo bm vf L D V ts mem false _ O zc za hV (hgv.mod Z (λk hk e=>e (hgvs k hk))) hgvs Fb) (.inl rfl) λu4 w4 x4 zb=>?_;have hsz4:=Z.size;have m1:=m1.mod x4 (λe=>e (y4 b1 Fb));have Z:=Z.own x4 F4;obtain⟨ok,e1,κ1,bm,vf,L1,D1,V,ts1,mem1,dead,rfl,yg,xy,xi⟩:=zb;have O:=xy;have xd:∀k,k<w.heap.size->κ1 k=κ k:=λk hk=>yg k (Ax hk yj);have yz:κ1 b1=0:=(yg b1 y3).trans (y4 b1 Fb);obtain⟨N0,hN0⟩:∃z,z=w4.heap.size:=⟨_,rfl⟩;have hg:=O.lt;rw[<-hN0]at hg;have ye:w.heap.size<=N0:=by rw[hN0];exact Z.size
 have J:Sz N0 w4:=⟨Nat.le_of_eq hN0⟩;have hb1N:b1<N0:=by rw[hN0];exact m1.lt
 have xc:∀k,N0<=k->κ1 k=0:=λk hk=>Bc λh9=>by have:=hg k h9;omega
 refine Fk (λc3=>?_) λc3=>?_
 ·refine go ?_;exact⟨_,rfl,Z,false,e1,κ1,bm,vf,L1,D1,V,ts1,mem1,dead,rfl,xd,O,.inr (.inr ⟨rfl,h6,ok,e1,L1,D1,V,ts1,mem1,dead,xi,.inl ⟨c3,rfl,rfl,rfl,rfl,rfl,rfl,rfl,rfl⟩⟩)⟩
 have y8:e1=0:=AE c3;subst y8;obtain⟨xg,rfl,hr,yk,hln,zh,_⟩:=UK hSt xi;obtain⟨p,hp⟩:=Option.isSome_iff_exists.1 (zh h6);obtain⟨lv,hP⟩:=Yb8 hr.isv hp;obtain⟨f0,yp,zk⟩:=hP.hd;have hlo:=hP.lo;have ha:=O.mp.at;obtain⟨_,_,yn,yr,_⟩:=JG hr.isv;have hvl3:V.fs.length<=1024:=yn;have hpl:=hP.len;have htl1:=hr.tlen;have yu:∀f∈V.fs,0<=f.lev/\f.lev<=4:=λf hf=>by have:=ME (yr f hf);exact⟨this.2.2.1,this.2.2.2.1⟩
 refine go ?_;refine dq (Fy Fe rfl rfl (O.m.part 2 2)) ?_;have xf:=J.le;refine cG (X5r V.next V.fs vf _ O.vs Fb hr.isv) RX.all λu5 w5 x5 zf=>?_;have hsz5:=Z.size;refine FV x5 m1 O ha J Z λm1 O ha J Z=>?_;obtain⟨vp,rfl,xo⟩:=zf;have r:Vc.Own Fi.cs 5 62 N0 w5 vp p:=by rw[hp]at xo;exact xo.mono xf
 refine go ?_;refine di 62 5 (r.arr Ff).sl rfl ((r.arr Ff).lt yp) (go ?_);refine dl rfl (((r.arr Ff).row yp).at rfl) (F3 (v:=I ↑lv) rfl (GJ rfl rfl (by unfold Fx;omega)) (by show I _=I _;rw[<-zk]) (aL [.int .i64 0] λb2 w6 e2 x6 m2=>?_));have g2:=Z.ge e2;have n2_1:=m1.ltb e2;have n2_mp9:=ha.lt;have a2_hS:=O.lt;have a2_hSz:=J.le;have o2_hoP:=r.ltb e2;refine H3 x6 m1 O ha J r Z λm1 O ha J r Z=>HG m2 (λw7 x7 xs7 m2=>?_) (hv:=by rfl);have m1:=m1.mo x7;have O:=O.mod x7 (λk9 h9 e9=>by have h2:k9=b2:=e9;have h8:=hg k9 h9;have h7:=J.le;omega);have ha:=ha.mod x7 Fw;have J:=J.mod x7 trivial;have r:=r.mod x7 Fw;have Z:=Z.o1 x7;refine go ?_;refine dv 62 5 (r.arr Ff).sl ?_;refine F9 (G:=Nat×List (Value×List Cell)×Value×Value) (λ(k,qs,vr,vn)=>[(1,Fg b1 0),(2,.bool false),(3,I 0),(9,vp),(11,Fg b2 0),(12,vr),(13,vn),(55,vp),(56,I ↑p.length),(57,I ↑k)]) (λ(k,qs,vr,vn) w'=>Mod (λk=>κ k≠0) w w'/\Fo w' b1 [Fg bs 0] 28/\StE κ1 bs bd bl bo bm vf L1 D1 V ts1 [] dead w'/\Vc.Xbf Tryz.prog 104 GH pO w' bo (ts1.map Tb.kv).length (lk (ts1.map Tb.kv))/\Sz N0 w'/\Vc.Own Fi.cs 5 62 N0 w' vp p/\Fo w' b2 [I ↑lv] 3/\k<=p.length/\qs.map (·.2)=(p.take k).map (Mu ts1)/\Vc.Own KO 1 95 N0 w' vr qs/\QsE N0 qs w'/\Vc.Own G8 1 9 N0 w' vn ((p.take k).map λf=>Iv f.id)) (λ(k,qs,vr,vn)=>p.length-k) (0,[],.slice none 0 0,.slice none 0 0) ⟨Z,m1,O,ha,J,r,m2,Ab _,rfl,Vc.Own.nil,⟨λq hq=>(by cases hq)⟩,Vc.Own.nil⟩ ?_;rintro _ ⟨k,qs,vr,vn⟩ w8 ⟨Z,m1,O,ha,J,r,m2,hk1,hqs,Y,hQ,H⟩;refine Fk (λc4=>?_) λc4=>?_
 ·obtain⟨f,hk⟩:∃f,p[k]?=some f:=F8;have yc:=hP.sub f (Ag hk);obtain⟨t,yd,ze⟩:=hr.fwd f yc.1;have ht:HH ts1 (f.lev,f.id)=some t:=by rw[<-ze.h];exact NR hr.nod yd
  have xk:=Np hr.isv f yc.1;have xx:=congrArg A5 hqs;rw[Aw,Aw,A7]at xx;refine go ?_;refine di 62 5 (r.arr Ff).sl rfl ((r.arr Ff).lt hk) (dq (Fy Fe rfl rfl ((r.arr Ff).row hk)) (aL [.int .i64 0,.int .i64 0,.int .i64 0,S [],S []] λb3 w9 e3 x9 m3=>?_));have g3:=Z.ge e3;have n3_1:=m1.ltb e3;have n3_2:=m2.ltb e3;have n3_mp9:=ha.lt;have a3_hS:=O.lt;have a3_hSz:=J.le;have o3_hoP:=r.ltb e3;have o3_hoQ:=Y.ltb e3;have xv:=hQ.lt;have o3_hoN:=H.ltb e3;refine Jb x9 m1 O ha J r m2 Y hQ λm1 O ha J r m2 Y hQ=>Fz x9 H Z λH Z=>Gc m3 (λw10 hy xs10 m3=>?_);have m1:=m1.mo hy;have O:=O.mod hy (λk9 h9 e9=>by have h2:k9=b3:=e9;have h8:=hg k9 h9;have h7:=J.le;omega);have ha:=ha.mod hy Fw;have J:=J.mod hy trivial;have r:=r.mod hy Fw;have m2:=m2.mo hy;have Y:=Y.mod hy Fw;have hQ:=hQ.mod hy (λq hq k hk e9=>by have h2:k=b3:=e9;have h8:=xv q hq k hk;omega);have H:=H.mod hy Fw;have Z:=Z.o1 hy;refine go ?_;refine HM (R:=Mod (λk=>vr.ownBlock=some k)) HT Ir Fe [1,4,6,8,10] [(0,.p,false),(1,.l,false),(2,.p,false),(3,.p,false),(4,.l,false),(5,.p,false),(6,.l,false),(7,.p,false),(8,.l,false),(9,.p,false),(10,.l,false),(11,.x,false),(12,.x,false),(13,.x,false),(14,.p,false)] rfl Fe Fe (λw11 xr=>?_);have yy:=FC xr;clear xr;refine Jb yy m1 O ha J r m2 Y hQ λm1 O ha J r m2 Y hQ=>FB yy H m3 Z λH m3 Z=>go ?_;refine dL rfl (λ_ hR=>((m1.mod hR (λe=>by have h8:=(Y.lt _ e).1;omega)).at rfl)) (go ?_);refine df 4 (rfl) (dL rfl (λ_ hR=>((O.m.mod hR (λe=>by have h8:=(Y.lt _ e).1;have h7:=hg bs (by rw[O.k0];decide);omega)).at rfl)) (go ?_));refine dL rfl (λ_ hR=>((m3.mod hR (λe=>Y.ne_blk m3 rfl e)).at rfl)) (go ?_);refine dL rfl (λ_ hR=>((m3.mod hR (λe=>Y.ne_blk m3 rfl e)).at rfl)) (db (zs:=[.int .i64 0,.int .i64 0]) (pl:=[(0,1),(1,1)]) (pv:=[(0,_),(1,_)]) (cs:=[_,_]) ?_);refine Gd (v:=Fg t.bt 0) rfl (λw' hR=>LV.to (Mq NE (kx:=(f.lev,f.id)) (z0:=none) rfl rfl Fe (ha.mod hR (ha.ne_own Y)) ⟨xk.2,xk.1⟩) (by rw[Oy];exact Xj ht)) ?_;have xf:=J.le;refine cG (TU t.bt t.vl t.vb t.cs [] [] _ (O.tb t yd)) RX.mod λvt w12 yh xq=>?_;have hsz12:=Z.size;refine Jb yh m1 O ha J r m2 Y hQ λm1 O ha J r m2 Y hQ=>FB yh H m3 Z λH m3 Z=>?_;rw[VG]at xq;have hh:=xq.mono xf;refine Io (e:=95) (sz:=1) (zs:=[.slice none 0 0]) (pv:=[(0,?a37_0)]) (cs:=[?a37_0]) rfl Fe ⟨rfl,rfl⟩ Fe rfl ?h37 ?f37 RX.mod (λb4 w13 e4 yw m4=>?k37)
  case h37=>refine⟨rfl,?_,trivial⟩<;>(conv=>lhs;whnf)
  case f37=>simp [Hm,Gr,An,hh.sl.cells]
  have g4:=Z.ge e4;have n4_1:=m1.ltb e4;have n4_2:=m2.ltb e4;have n4_3:=m3.ltb e4;have n4_mp9:=ha.lt;have a4_hS:=O.lt;have a4_hSz:=J.le;have o4_hoP:=r.ltb e4;have o4_hoQ:=Y.ltb e4;have a4_hQ:=hQ.lt;have o4_hoN:=H.ltb e4;refine Jb yw m1 O ha J r m2 Y hQ λm1 O ha J r m2 Y hQ=>FP yw H m3 hh Z λH m3 hh Z=>G1 (vt,t.cs) Y m4 (λvq w14 x0 hj=>?_) (h1:=(by intro x y1 u hu;rw[Af.1 y1]at hu;simp at hu;rw[hu];exact hh.sl.one)) (hB:=J.le) (hR:=(.inr λ_ h=>h));have m1:=m1.mod hj Fw;have O:=O.mod hj (by exact(λk hk e=>absurd (hg k hk) (AP.2 (Y.lt k e).1)));have ha:=ha.mod hj (ha.ne_own Y);have J:=J.mod hj Fw;have r:=r.mod hj (by exact(λk hk=>r.ne Y rfl hk));have m2:=m2.mod hj Fw;have hQ:=hQ.mod hj (by exact hQ.ne Y rfl);have H:=H.mod hj (by exact(λk hk=>H.ne Y rfl hk));have m3:=m3.mod hj Fw;have hh:=hh.mod hj (by exact(λk hk=>hh.ne Y rfl hk));have Z:=Z.own hj (λi hi h5=>(by have:=(Y.lt i hi).1;omega));have Y:=x0;clear m4;refine Gp (T8 f.id _ (hgv.mod Z (λk hk e=>e (hgvs k hk))) xk.1 (by have:=Sa xk.1;omega)) λw15 yv=>Jb yv m1 O ha J r m2 Y hQ λm1 O ha J r m2 Y hQ=>?_;refine FB yv H hh Z λH hh Z=>li (e:=9) (sz:=1) (zs:=[S []]) (pv:=[(0,_)]) (cs:=[_]) RX.all (λb5 w16 e5 y2 m5=>?_);have g5:=Z.ge e5;have n5_1:=m1.ltb e5;have n5_2:=m2.ltb e5;have n5_mp9:=ha.lt;have a5_hS:=O.lt;have a5_hSz:=J.le;have o5_hoP:=r.ltb e5;have o5_hoQ:=Y.ltb e5;have a5_hQ:=hQ.lt;have o5_hoN:=H.ltb e5;refine Jb y2 m1 O ha J r m2 Y hQ λm1 O ha J r m2 Y hQ=>FB y2 H hh Z λH hh Z=>G1 (Iv f.id) H m5 (λy9 w17 yb hw=>?_) (hB:=J.le);have m1:=m1.mod hw Fw;have O:=O.mod hw (by exact(λk hk e=>absurd (hg k hk) (AP.2 (H.lt k e).1)));have ha:=ha.mod hw (ha.ne_own H);have J:=J.mod hw Fw;have r:=r.mod hw (by exact(λk hk=>r.ne H rfl hk));have m2:=m2.mod hw Fw;have Y:=Y.mod hw (by exact(λk hk=>Y.ne H rfl hk));have hQ:=hQ.mod hw (by exact hQ.ne H rfl);have hh:=hh.mod hw (by exact(λk hk=>hh.ne H rfl hk));have Z:=Z.own hw (λi hi h5=>(by have:=(H.lt i hi).1;omega));have H:=yb;clear m5;refine go ?_;rw[show((p.take k).map λf=>Iv f.id)++[Iv f.id]=(p.take (k+1)).map λf=>Iv f.id by rw[GQ hk,A6];rfl]at H;exact FJ (k+1,qs++[(vt,t.cs)],vq,y9) ⟨Z,m1,O,ha,J,r,m2,by omega,by rw[A6,hqs,GQ hk,A6];show _++[t.cs]=_++[Mu ts1 f];rw[Yf ht],Y,hQ.snoc hh,H⟩
 rw[Ar Fb]at hqs H;have xx:=congrArg A5 hqs;rw[Aw,Aw]at xx;have yf:qs.flatMap (·.2)=Jr ts1 p:=by rw[S5 hqs,Sh]
 have hcl:(Jr ts1 p).length<=(FQ [] ts1).length:=by have h9:=SH p ts1 hr.nod (Xpi hP.nod);unfold FQ;rw[AB];exact h9
 refine go ?_;have xf:=J.le;refine cG (SZ qs vr _ (Y.arr Ff) (λq hq=>(hQ.row q hq).arr Ff) Fb (by rw[yf];omega)) RX.all λvm w18 zl y5=>?_;have hsz18:=Z.size;refine Lk zl m1 O J r m2 H Z λm1 O J r m2 H Z=>?_;obtain⟨m,xj,yo⟩:=y5;rw[yf]at xj;have hz:=yo.mono xf;have yl:=OH xj;refine dp (Pc rfl) (cD (Yca m vm N0 52 [Fg b1 0,Fg b2 0] (λc=>!I5 V.fs ↑lv c) _ hz Fb Fe (λw2 m9 x y1=>Yb9 bs bd bl V.next vf bo bm dead V.fs x lv b1 b2 w2 (O.m.mod m9 (λe=>by have h8:=(hz.lt _ e).1;have h7:=hg bs (by rw[O.k0];decide);omega)) (O.vs.mod m9 (λhl e=>by have h8:=(hz.lt _ e).1;have h7:=hg (base vf).1 (by rw[O.k4 hl];decide);omega)) Fb yu Fb (m1.mod m9 (λe=>by have h8:=(hz.lt _ e).1;omega)) (m2.mod m9 (λe=>hz.ne_blk m2 rfl e)))) (.inl rfl) λvd yi xa yt=>?_);have hsz19:=Z.size;have m1:=m1.mod xa Fw;have O:=O.mod xa (by exact(λk hk e=>absurd (hg k hk) (AP.2 (hz.lt k e).1)));have J:=J.mod xa Fw;have r:=r.mod xa (by exact(λk hk=>r.ne hz rfl hk));have m2:=m2.mod xa Fw;have H:=H.mod xa (by exact(λk hk=>H.ne hz rfl hk));have Z:=Z.own xa (λi hi h5=>absurd h5 (AP.2 ((Ae ye (hz.lt i hi).1))));have e9:m.filter (λx=>!(!I5 V.fs ↑lv x))=m.filter (I5 V.fs ↑lv):=by congr 1;funext x;rw[Bool.not_not]
 have ym:Vc.Own Cell.cs 4 79 N0 yi vd (m.filter (I5 V.fs ↑lv)):=by rw[<-e9];exact yt
 have hfm:=AZ (I5 V.fs ↑lv) m;refine go ?_;have zi:∀c∈m.filter (I5 V.fs ↑lv),c.key.length<=4096/\c.val.length<=16384:=λc hc=>by
  obtain⟨t,ht,_,zm⟩:=(UU hr (λf hf=>(hP.sub f hf).1)).1 (yl.2 c (Av.1 hc).1);have h8:=hSt.cellsB hn c (yk c (Hg.2 (.inr ⟨t,ht,zm⟩)));exact⟨h8.1,h8.2.1⟩
 have hszx:=Z.size;have xf:=J.le;obtain⟨NK,hNK⟩:∃z,z=yi.heap.size:=⟨_,rfl⟩;have xn:(p.map λf=>Iv f.id)≠[]->(base vn).1<NK/\N0<=(base vn).1:=λhl=>by rw[hNK];exact⟨(H.base_ge hl).2,(H.base_ge hl).1⟩
 refine cD (Xow κ1 bs bd bl bo bm vf L1 D1 V ts1 [] dead (m.filter (I5 V.fs ↑lv)) vd ↑lv p vp _ O (ym.arr Ff) Fb zi Fb (r.arr Ff) Fb (λhl=>xc _ (r.base_ge hl).1) (λf hf=>Np hr.isv f (hP.sub f hf).1) hr.isv (hgv.mod Z (λk hk e=>e (hgvs k hk))) (λk hk=>(xd k (hgv.lt k hk)).trans (hgvs k hk)) Fb (λhl=>xc _ (ym.base_ge hl).1)) (.inl rfl) λu20 w20 xu yq=>?_;have hsz20:=Z.size;have m1:=m1.mod xu Fw;have H:=H.mod xu (by exact(λk hk e=>e (xc k (H.lt k hk).1)));have Z:=Z.own xu (λi hi h5=>(by have e1:κ1 i≠0:=hi;rw[xd i h5]at e1;exact e1));obtain⟨e2,κ2,vf2,L2,D2,V2,xw,dead2,rfl,xb,xy,xe⟩:=yq;have O:=xy;rw[<-hNK]at xb;have xh:∀k,k<w.heap.size->κ2 k=κ k:=λk hk=>(xb k Fb).trans (xd k hk);refine Fk (λc5=>?_) λc5=>?_
 ·refine go ?_;rw[xg]at xe;exact⟨_,rfl,Z,false,e2,κ2,bm,vf2,L2,D2,V2,xw,[],dead2,rfl,xh,O,.inr (.inr ⟨rfl,h6,ok,0,L1,D1,V,ts1,[],dead,xi,.inr ⟨rfl,p,lv,m,e2,D2,dead2,hp,hP,xj,xe,rfl,.inl ⟨c5,rfl,rfl,rfl,rfl⟩⟩⟩)⟩
 refine go ?_;refine dl rfl (O.m.at rfl) (go ?_);have y7:=Z.size;obtain⟨F,hD,xl,xt⟩:=O.ld.disk;refine cD (RD F bd D2 (p.map λf=>Iv f.id) vn _ hD (H.arr Ff) (by rw[Aw];omega) (λhl e=>by have e1:κ2 (base vn).1=1:=xl _ e;rw[xb _ (xn hl).1,xc _ (xn hl).2]at e1;cases e1)) (.inl rfl) λu21 zj xm yx=>?_;have hsz21:=Z.size;have m1:=m1.mod xm (by exact(λe=>by have e1:κ2 b1=1:=xl _ e;rw[xb b1 Fb,yz]at e1;cases e1));have Z:=Z.own xm (λi hi h5=>(by have e1:κ2 i=1:=xl i hi;rw[xh i h5]at e1;show κ i≠0;rw[e1];decide));obtain⟨rfl,x8⟩:=yx;have ya:=O.ledger (xm.mono (λi hi _=>xl i hi)) (xt _ _ xm x8);have xp:∀k,k<w.heap.size->IF κ2 1 _ _ k=κ k:=λk hk=>(M4 (κ:=κ2) (i:=1) (w':=zj) (Ax hk y7)).trans (xh k hk);have O:=ya;refine Fk (λc6=>?_) λc6=>?_
 ·refine Gw (PJ bs bd bl V2.next vf2 bo bm dead2 (D2.rem (p.map λf=>Iv f.id)).1 _ O.m) λu22 w22 y0 y6=>?_;have hsz22:=Z.size;have Z:=Z.own y0 (λi hi h5=>(by have e1:i=bs:=hi;rw[e1,h.k0];decide));obtain⟨rfl,x8⟩:=y6;have ya:=O.head y0 x8;have O:=ya;refine go ?_;have xz:e2=0:=AE c5;subst xz;rw[xg]at xe;exact⟨_,rfl,Z,false,_,_,bm,vf2,L2,_,V2,xw,[],_,rfl,xp,O,.inr (.inr ⟨rfl,h6,ok,0,L1,D1,V,ts1,[],dead,xi,.inr ⟨rfl,p,lv,m,0,D2,dead2,hp,hP,xj,xe,rfl,.inr ⟨rfl,rfl,.inl ⟨c6,rfl,rfl,by simp [c6]⟩⟩⟩⟩)⟩
 refine go ?_;have xz:e2=0:=AE c5;subst xz;rw[xg]at xe;exact⟨_,rfl,Z,true,0,_,bm,vf2,L2,_,V2,xw,[],_,rfl,xp,O,.inr (.inr ⟨rfl,h6,ok,0,L1,D1,V,ts1,[],dead,xi,.inr ⟨rfl,p,lv,m,0,D2,dead2,hp,hP,xj,xe,rfl,.inr ⟨rfl,rfl,.inr ⟨AE c6,rfl,rfl,rfl⟩⟩⟩⟩)⟩
structure OkD (D:Dsk)(u n:Nat):Prop where
 fu:D.fused=false
 us:JE D.fs<=u
 cn:D.fs.length<=n
 nd:(D.fs.map (·.1)).Nodup
 tl:∀p∈D.fs,p.1.getLast?≠some 126
variable {D:Dsk}{u:Nat}
theorem OkD.mono {n u' n':Nat}(h:OkD D u n)(h1:u<=u')(h2:n<=n'):OkD D u' n':=⟨h.fu,Ae h.us h1,Ae h.cn h2,h.nd,h.tl⟩
theorem Pw (h:D.fused=false){l:List Fh}(hl:∀s∈l,1<=s.length/\s.length<=64):D.may l=0:=U9 (λe=>by rw[h]at e;cases e.1) hl
theorem PP (h:D.fused=false):D.tick=D:=by unfold Dsk.tick;rw[h];rfl
variable {p:Fh}
theorem X9 {n:Nat}{name:Fh}(h:OkD D u n)(hn:1<=name.length/\name.length<=64)(hr:((u+p.length:Nat):Int)<=D.room)(hc:n<4096):D.app name p=(0,{ D with fs:=FG D.fs name ⟨(D.old name).data++p,(D.old name).lasts⟩ }):=by
 unfold Dsk.app;rw[if_neg (by rw[Pw h.fu (by simpa using hn)];decide),if_neg,PP (by exact h.fu)];unfold Dsk.full;have h1:=h.us;have h2:=h.cn;rw[<-N4]at h1;simp only [BH,Aq,decide_eq_true_eq,not_or,not_and];exact⟨by omega,λ_=>by omega⟩
variable {n:Fh}
theorem X0j {α:Type}{l:List (Fh×α)}{a:α}(h:lk l n=none):FG l n a=l++[(n,a)]:=by unfold FG;rw[h];rfl
theorem X0k {α:Type}{l:List (Fh×α)}{a:α}(h:lk l n=none):G2 (FG l n a) n=l:=by
 rw[X0j h];have h2:=Xv7 h;unfold G2 at *;rw[Bs,h2];simp
theorem X0l (h:lk D.fs n=none):D.old n=⟨[],0⟩:=by unfold Dsk.old;rw[h];rfl
theorem X0m {f:Fil}(hf:D.fused=false)(hn:1<=n.length/\n.length<=64)(h:lk D.fs n=some f):D.sync [n]=(0,{ D with fs:=FG D.fs n ⟨f.data,f.data.length⟩ }):=by
 unfold Dsk.sync Dsk.each;rw[if_neg (by rw[Pw hf (by simpa using hn)];decide),if_neg (by rw[h];exact Bool.false_ne_true)];unfold Dsk.each Dsk.lastsA Dsk.old;rw[h,PP (by exact hf)];rfl
theorem Ycb (n:Fh):(Dsk.sh n).length=n.length+1:=by unfold Dsk.sh;simp
theorem Ydi (h:OkD D u k)(n:Fh):lk D.fs (Dsk.sh n)=none:=by
 rw[M5];intro hm;obtain⟨p,r,e⟩:=Ay.1 hm;exact h.tl p r (by rw[e];unfold Dsk.sh;simp)
theorem X9g (h:OkD D u k)(hn:1<=n.length/\n.length<=60)(hp:p.length<=1048576)(hr:((u+(F7 p).length:Nat):Int)<=D.room)(hc:k<4096):D.save n p=(0,{ D with fs:=FG D.fs n ⟨F7 p,(F7 p).length⟩ }):=by
 have hs:=Ydi h n;have hl:=Ycb n;unfold Dsk.save;rw[if_neg Fb,if_neg Fb,if_neg (by unfold Dsk.has;rw[hs];decide)];unfold Dsk.save2;have z:=X9 (p:=F7 p) h (name:=Dsk.sh n) Fb hr hc;rw[X0l hs]at z;simp only [AB]at z;rw[z];have H:=X0m (D:={ D with fs:=FG D.fs (Dsk.sh n) ⟨F7 p,0⟩ }) (n:=Dsk.sh n) (f:=⟨F7 p,0⟩) h.fu Fb (by show lk (FG _ _ _) _=_;rw[Pf,if_pos rfl]);dsimp only at H;rw[Qd]at H;simp only [ne_eq,not_true_eq_false,if_false,H];unfold Dsk.ren;rw[if_neg (by rw[Pw (by exact h.fu) (by intro s r;simp at r;rcases r with rfl|rfl<;>omega)];decide)];dsimp only;rw[Pf,if_pos rfl];dsimp only;rw[PP (by exact h.fu),X0k hs]
theorem OkD.put {f:Fil}(h:OkD D u k)(ht:n.getLast?≠some 126){x:Nat}(hx:f.data.length<=(D.old n).data.length+x):OkD { D with fs:=FG D.fs n f } (u+x) (k+1):=by
 have h1:=Xn5 h.nd n f;have h2:=h.us;have h3:(Kl D.fs n)=D.old n:=rfl;have h4:=Rx D.fs n f;have h5:=h.cn;refine⟨h.fu,?_,?_,S2 _ _ h.nd,λp r=>?_⟩
 ·show JE (FG D.fs n f)<=_;rw[h3]at h1;omega
 ·show(FG D.fs n f).length<=_;rw[h4];split<;>omega
 ·rcases Rk r with rfl|r
  ·exact ht
  ·exact h.tl p r
theorem OkD.del (h:OkD D u k)(n:Fh):OkD { D with fs:=G2 D.fs n } u k:=
 ⟨h.fu,Ae (XX D.fs n) h.us,Ae (AZ _ _) h.cn,Rt n h.nd,λp r=>h.tl p (Av.1 r).1⟩
theorem Wm (h:OkD D u k)(hn:1<=n.length/\n.length<=60)(ht:n.getLast?≠some 126)(hp:p.length<=1048576)(hr:((u+p.length+12:Nat):Int)<=D.room)(hc:k<4096):(D.save n p).1=0/\OkD (D.save n p).2 (u+p.length+12) (k+1)/\(D.save n p).2.room=D.room:=by
 have r:=KA p;rw[X9g h hn hp (by rw[r,<-BR];exact hr) hc];have:=h.put ht (f:=⟨F7 p,(F7 p).length⟩) (x:=p.length+12) (by simp only [];omega);exact⟨rfl,by rw[BR];exact this,rfl⟩
theorem X3o (h:OkD D u k)(hn:1<=n.length/\n.length<=64):(Dsk.rems [n] D).1=0/\OkD (Dsk.rems [n] D).2 u k/\(Dsk.rems [n] D).2.room=D.room:=by
 unfold Dsk.rems
 by_cases hh:D.has n=true
 ·rw[if_pos hh];have h2:(lk D.fs n).isNone=false:=by unfold Dsk.has at hh;cases e:lk D.fs n with
   | none=>rw[e]at hh;cases hh
   | some a=>rfl
  have r:D.rem [n]=(0,{ D with fs:=G2 D.fs n }):=by
   unfold Dsk.rem Dsk.each;rw[if_neg (by rw[Pw h.fu (by simpa using hn)];decide),if_neg (by rw[h2];decide)];unfold Dsk.each Dsk.gone;rw[PP (by exact h.fu)]
  rw[r,if_neg F5];unfold Dsk.rems;exact⟨rfl,h.del n,rfl⟩
 ·rw[if_neg hh];unfold Dsk.rems;exact⟨rfl,h,rfl⟩
variable {L:Led}
theorem X0o (h:OkD D u k)(hd:L.dead=false)(hp:p.length<=65536)(hl:L.last<1099511627776)(hr:((u+p.length+32:Nat):Int)<=D.room)(hc:k<4096):(L.append D p).1=L.last+1/\(L.append D p).2.1=0/\(L.append D p).2.2.1={ L with ents:=L.ents++[p] }/\OkD (L.append D p).2.2.2 (u+p.length+32) (k+1)/\(L.append D p).2.2.2.room=D.room:=by
 have he:=P6 (L.last+1) p;have hrl:=KA (Led.ent (L.last+1) p);have r:=X9 (p:=F7 (Led.ent (L.last+1) p)) h (name:=Led.logn) Fj Fb hc;have z:=X0m (D:=(D.app Led.logn (F7 (Led.ent (L.last+1) p))).2) (n:=Led.logn) (f:=⟨(D.old Led.logn).data++F7 (Led.ent (L.last+1) p),(D.old Led.logn).lasts⟩) (by rw[r];exact h.fu) Fj (by rw[r];show lk (FG _ _ _) _=_;rw[Pf,if_pos rfl]);have hR:IV L D p=(0,{ D with fs:=FG D.fs Led.logn ⟨(D.old Led.logn).data++F7 (Led.ent (L.last+1) p),((D.old Led.logn).data++F7 (Led.ent (L.last+1) p)).length⟩ }):=by
  unfold IV;rw[if_pos (by rw[r]),z,r];dsimp only;rw[Qd]
 rw[Tq hd Fb (by rw[hR];simp),hR];have:=h.put (n:=Led.logn) (f:=⟨(D.old Led.logn).data++F7 (Led.ent (L.last+1) p),((D.old Led.logn).data++F7 (Led.ent (L.last+1) p)).length⟩) Fj (x:=p.length+32) (by simp only [Ad];omega);exact⟨rfl,rfl,rfl,by rw[BR];exact this,rfl⟩
theorem X3p {i:Int}(h:OkD D u k)(hd:L.dead=false)(hi:L.last<=i/\i<=1099511627776)(hp:p.length<=524288)(hr:((u+p.length+32:Nat):Int)<=D.room)(hc:k<4096):(L.write D i p).1=0/\(L.write D i p).2.1=⟨i,p,[],false⟩/\OkD (L.write D i p).2.2 (u+p.length+32) (k+1)/\(L.write D i p).2.2.room=D.room:=by
 have he:=P6 i p;obtain⟨J,r,z⟩:=Wm (p:=Led.ent i p) (n:=Led.img) h Fj Fj Fb Fb hc;obtain⟨r1,r2,H⟩:=X3o (n:=Led.logn) r Fj;unfold Led.write;rw[if_neg (by rw[hd];decide),if_neg Fb,if_neg Fb];dsimp only;rw[if_pos J,if_neg (by rw[r1];decide)];exact⟨rfl,rfl,r2.mono Fb (Aa _),H.trans z⟩
variable {mem':List Cell}
theorem Ym {L':Led}{D':Dsk}{mem:List Cell}{l:List Rw}{e:Int}{dead':Bool}(h:Tt L D mem false l e L' D' mem' dead')(hc:IM l=0)(hL:L.dead=false)(hl:L.last<1099511627776)(hO:OkD D u k)(hb:(GN l).length<=65536)(hr:((u+(GN l).length+32:Nat):Int)<=D.room)(hk:k<4096){nn:Int}{mm:List Cell}(hn:L.last+1=nn)(hm:JA mem (Gj l nn)=mm):
  e=0/\dead'=false/\mem'=mm/\L'={ L with ents:=L.ents++[GN l] }/\OkD D' (u+(GN l).length+32) (k+1)/\D'.room=D.room:=by
 obtain⟨r,H,O,z,J⟩:=X0o hO hL hb hl hr hk;rcases h with⟨h1,_⟩|⟨_,h1,_⟩|⟨_,_,h2,h3,⟨h4,_⟩|⟨_,h5,h6,h7⟩⟩
 ·cases h1
 ·exact absurd hc h1
 ·exact absurd H h4
 ·exact⟨h5,h7,by rw[h6,r,hn,hm],h2.trans O,h3▸z,by rw[h3];exact J⟩
variable {κ κ1:Nat->Nat}
theorem Yn {n m:Nat}(h:∀k,κ k≠0->n<=k)(hm:∀k,k<m->κ1 k=κ k)(hn:n<=m):∀k,κ1 k≠0->n<=k:=λk hk=>by
 rcases Nat.lt_or_ge k m with h1|h1
 ·rw[hm k h1]at hk;exact h k hk
 ·omega
def Lt : Rw:=⟨[97],[120],false⟩
def L8 : Rw:=⟨[97],[],true⟩
def Ix : Cell:=⟨[97],[120],false,1⟩
def P7 : Cell:=⟨[97],[],true,2⟩
theorem X3q : (GN [Lt]).length<=100:=by
 have h1:=PO [Lt];have h2:=Gq (0+1);have h3:IS [Lt]=2:=rfl;unfold GN;rw[Ad];simp only [AA,Bl]at *;omega
theorem X3r : (GN [L8]).length<=100:=by
 have h1:=PO [L8];have h2:=Gq (0+1);have h3:IS [L8]=1:=rfl;unfold GN;rw[Ad];simp only [AA,Bl]at *;omega
theorem Tg : (Gg [Ix]).length<=31000:=by
 have:=UG (l:=[Ix]) (by intro c r;rw[Af.1 r];decide) Fj;simpa using this
theorem Ycd : ID [Ix]=0:=by
 rw[Xxf Fj Fj];unfold HI;rw[if_neg (by have:=Tg;omega)]
def fX : Fi:=Lw 0 1 0 [Ix]
theorem X9h : fX.size=↑((Gg [Ix]).length+12):=by
 show((F7 (Gg [Ix])).length:Int)=_;rw[KA]
theorem Ydj : Hw ⟨2,[fX]⟩=true:=by
 have h1:=Tg;have h2:=X9h;refine Wx Fj Fj F5 ?_ F5 rfl;simp only [List.all_cons,List.all_nil,Bool.and_true];unfold I9;rw[h2];have e1:fX.id=1:=rfl;have e2:fX.lev=0:=rfl;have r:fX.fst=[97]:=rfl;have z:fX.lst=[97]:=rfl;rw[e1,e2,r,z];simp only [Aq,decide_eq_true_eq];refine⟨⟨⟨⟨⟨⟨⟨⟨by decide,by decide⟩,by decide⟩,by decide⟩,by omega⟩,by omega⟩,by decide⟩,by decide⟩,by decide⟩
theorem X3s : (Ig ⟨2,[fX]⟩).length<=200:=by
 unfold Ig;have a1:=Gq (2:Int).toNat;have a2:=Gq (0+1);have e:([fX].flatMap I7)=I7 fX:=by simp
 have b1:=Gq fX.id.toNat;have b2:=Gq fX.lev.toNat;have b3:=Gq fX.size.toNat;have r:fX.fst=[97]:=rfl;have z:fX.lst=[97]:=rfl;simp only [e];unfold I7 FA;rw[r,z];simp only [Ad,AA,Bl]at *;omega
theorem Um : Iv 1=[116,49]:=by
 have:Lib.itoa 1=[49]:=by
  unfold Lib.itoa;rw[if_neg Fj];unfold Lib.decDigits;simp
 unfold Iv;rw[this]
theorem mgX (h:Mg [Ix] m):m=[Ix]:=by
 obtain⟨l',r,_,rfl⟩:=h;rw[EX.1 r];rfl
theorem Mp : Gu [Ix]=[[Ix]]:=by decide
theorem Ycf {L':Led}{D':Dsk}{V':Vs}{ts':List Tb}{ok dead':Bool}{e:Int}(h:Lv L D ⟨1,[]⟩ [] [Ix] false ok e L' D' V' ts' mem' dead')(hL:L.dead=false)(hl:0<=L.last/\L.last<1099511627776)(hO:OkD D u k)(hr:((u+32000:Nat):Int)<=D.room)(hk:k<4000):
  ok=true/\e=0/\mem'=[]/\dead'=false/\(∃p,L'=⟨L.last,p,[],false⟩)/\V'=⟨2,[fX]⟩/\(∃bt vl vb,ts'=[⟨(0,1),bt,vl,vb,[Ix]⟩])/\OkD D' (u+32000) (k+2)/\D'.room=D.room:=by
 rcases h with⟨h1,_⟩|⟨_,h1,_⟩|⟨_,_,m,hm,hC,hE⟩
 ·cases h1
 ·cases h1
 ·have:=mgX hm;subst this;have hA:Gm 0 1 (Gu [Ix])=[fX]:=by rw[Mp];rfl
  have Z:Ko 1 (Gu [Ix])=[(1,F7 (Gg [Ix]))]:=by rw[Mp];rfl
  have hT:M3 0 1 (Gu [Ix])=[((0,1),[Ix])]:=by rw[Mp];rfl
  have hN:Im 1 [fX]=2:=rfl;have Y:∀fs':List Fi,fs'.Perm (IR [] []++[fX])->fs'=[fX]:=λfs' z=>EX.1 z;have H:Ll ⟨1,[]⟩ [] [fX]=true:=RF rfl rfl (by intro f hf;rw[Af.1 hf];decide);have ht:=Tg;have hrl:=KA (Gg [Ix]);obtain⟨s1,s2,O⟩:=Wm (n:=Iv 1) (p:=F7 (Gg [Ix])) hO (by rw[Um];decide) (by rw[Um];decide) Fb Fb Fb;have hv:=X3s;obtain⟨w1,w2,w3,w4⟩:=X3p (i:=L.last) (p:=Ig ⟨2,[fX]⟩) s2 hL ⟨Int.le_refl _,by omega⟩ Fb (by rw[O];omega) Fb;have J:IK [(1,F7 (Gg [Ix]))] D=(0,(D.save (Iv 1) (F7 (Gg [Ix]))).2):=by
   unfold IK;rw[if_neg (by rw[s1];decide)];rfl
  unfold L9 at hC;simp only [hA,Z,hT,hN,Bf]at hC;rcases hC with⟨he,_,_,_,_,_,hx⟩|⟨_,_,fs',z,_,_,_,hx⟩
  ·exfalso;rcases hx with⟨sg,hs,hb⟩|hx|⟨fs',z,_,hx⟩
   ·rw[Mp]at hs;rw[Af.1 hs]at hb;exact hb Ycd
   ·rw[H]at hx;cases hx
   ·rw[Y fs' z]at hx;rcases hx with hx|hx
    ·rw[Ydj]at hx;cases hx
    ·omega
  ·have e1:=Y fs' z;subst e1;rw[J]at hx;dsimp only at hx;rcases hx with⟨hx,_⟩|⟨_,hL',hD',hx⟩
   ·exact absurd rfl hx
   ·rcases hx with⟨hx,_⟩|⟨_,he,hV,hd,tbs,htb,hts⟩
    ·exact absurd w1 hx
    ·rcases hE with⟨h9,_⟩|⟨_,h8,h7⟩
     ·exact absurd he h9
     ·rcases tbs with _|⟨t,_|⟨t2,r⟩⟩
      ·cases htb
      ·obtain⟨th,bt,vl,vb,tc⟩:=t;simp only [Am,Bf,List.cons.injEq,Prod.mk.injEq,and_true]at htb;obtain⟨rfl,rfl⟩:=htb;refine⟨h8,he,h7,hd,⟨_,hL'.trans w2⟩,hV,⟨bt,vl,vb,hts⟩,hD'▸w3.mono Fb Fb,?_⟩;rw[hD',w4,O]
      ·simp at htb
variable {bd bo:Nat}{dead:Bool}{vf:Value}
theorem Q6 {bl bm:Nat}{mem:List Cell}(h:StE κ bs bd bl bo bm vf L D V ts mem dead w)(key:Fh)(hml:mem.length<=900000)(hfl:V.fs.length<=100000)(hfs:∀f∈V.fs,(∃t,HH ts (f.lev,f.id)=some t)/\Fx f.lev/\Fx f.id)(hkl:key.length<=1000000000):
  Calls Tryz.prog 22 [Fg bs 0,S key].toArray w (Pure w (.tuple #[S (getR (JZ mem V.fs ts key)).1,B (getR (JZ mem V.fs ts key)).2])):=by
 have r:=h.mp.at;rw[show lk (ts.map Tb.kv)=Jn ts from funext (Oy ts)]at r;exact Ya8 bs bd bl V.next vf bo bm _ dead _ mem V.fs ts key w h.m h.mr hml h.vs hfl r h.tb hfs hkl
theorem X9i {bl bm:Nat}{mem:List Cell}(h:StE κ bs bd bl bo bm vf L D V ts mem dead w):
  Calls Tryz.prog 17 [Fg bs 0].toArray w (Pure w (I L.last)):=by
 obtain⟨F,G,vd,ve,vs,h1,h2,_⟩:=h.ld;exact Ya7 bs bd bl V.next vf bo bm dead G vd ve vs L w h.m h2
theorem Yd1 : (IN 65536).Wf:=⟨by decide,by decide,by decide,by decide,by decide,λp r=>(by cases r),λp r=>(by cases r),Cj,by decide⟩
theorem Ydk : OkD (IN 65536) 0 0:=⟨rfl,Aa _,Aa _,Cj,λp r=>(by cases r)⟩
theorem getX {bt:Nat}{vl vb:Value} : JZ [] [fX] [⟨(0,1),bt,vl,vb,[Ix]⟩] [97]=some Ix:=by
 have e:fX=⟨1,0,fX.size,[97],[97]⟩:=rfl;rw[e];rfl
theorem Ydl : JZ [P7] fs ts [97]=some P7:=rfl
theorem X9j (w:World)(hgv:GV w) :
  FW 18 [] w (B true):=by
 refine cE Tryz.func18 λr=>Ge (Em.diskNew_w 65536 _ Fj Fj) λu1 w1 x1 xb=>?_;have hsz1:=r.size;have r:=r.trans x1;obtain⟨bd,mf,rfl,hd,hm,hgd,hgm⟩:=xb;refine go ?_;have hmfl:=hm.lt;have hsz0:=r.size;refine cG (Em.lsmOpen_w bd mf 65536 _ hd hm) RX.all λu2 w2 x2 hz=>?_;have hsz2:=r.size;have r:=r.trans x2;obtain⟨bs,bl,mo,bm,ba,bn,rfl,hE,k1,k2,k3,k4,k5,k6⟩:=hz;have z:=VW hE Fb Yd1;have hκ:∀k,(H7 bs bd bl mo bm ba bn mf) k≠0->w.heap.size<=k:=λk hk=>by
  unfold H7 at hk
  repeat' split at hk
  all_goals omega
 refine ds1 22 (λc1=>?_) λc1=>?_
 ·exact absurd rfl c1
 refine go ?_;refine dp (GS Fe rfl rfl) ?_;refine Fk (λc2=>?_) λc2=>?_
 ·exact absurd c2 F5
 refine go ?_;refine db (zs:=[S [],S [],B false]) (pl:=[(0,1),(1,1),(2,1)]) (pv:=[(0,_),(1,_)]) (cs:=[_,_,B false]) ?_;refine lA 48 rfl λb1 w3 e1 x3 m1=>?_;have g1:=r.ge e1;have Z:=z.lt;refine Fz x3 z r λz r=>?_;have hp:=r.size;refine cD (Rq (H7 bs bd bl mo bm ba bn mf) bs bd bl mo bm (.slice none 0 0) Km (IN 65536) ⟨1,[]⟩ [] [] false [Lt] _ _ z (m1.arr (enc:=Rw.cs) (sz:=3) (l:=[Lt]) rfl Ff rfl F5) Fj (λ_=>Bc λJ=>by have h8:=Z _ J;have h7:=e1;dsimp only [base]at h8;omega) Fj Fj Fj) (.inl rfl) λu4 w4 x4 xe=>?_;have hsz4:=r.size;have r:=r.own x4 (λi hi=>(hκ i hi));obtain⟨e1,κ1,L1,D1,mem1,dead1,rfl,xa,H,hW⟩:=xe;have hbl:=X3q;obtain⟨he1,rfl,rfl,rfl,hh,O⟩:=Ym hW Fj rfl Fj Ydk Fb (by show _<=(65536:Int);omega) Fj (nn:=1) (mm:=[Ix]) rfl Fj;have z:=H;have Y:=Yn hκ xa hp;refine go ?_;have hw:=r.size;have z:StE κ1 bs bd bl mo bm (.slice none 0 0) _ D1 ⟨1,[]⟩ [] [Ix] false _:=z;refine cD (T7 κ1 bs bd bl mo bm (.slice none 0 0) _ D1 ⟨1,[]⟩ [] [Ix] false _ z Fj (by intro c hc;rw[Af.1 hc];decide) rfl (hgv.ext r) (λk hk=>Bc λJ=>by have h8:=Y k J;have h7:=hgv.lt k hk;omega) Fj) (.inl rfl) λu5 w5 x5 h6=>?_;have hsz5:=r.size;have r:=r.own x5 (λi hi=>(Y i hi));obtain⟨ok,e2,κ2,bm2,vf2,L2,D2,V2,ts2,mem2,dead2,rfl,ht,H,xd⟩:=h6;obtain⟨rfl,rfl,rfl,rfl,⟨p2,rfl⟩,rfl,⟨bt,vl,vb,rfl⟩,hg,hq⟩:=Ycf xd rfl Fj hh (by rw[O];show _<=(65536:Int);omega) Fj;have z:=H;have xc:=Yn Y ht hw;refine Gp ((show Calls Tryz.prog 22 [Fg bs 0,S [97]].toArray w5 (Pure w5 (.tuple #[S [120],B true])) from by have J:=Q6 z [97] Fj F5 (by intro f hf;rw[Af.1 hf];exact⟨⟨_,rfl⟩,by unfold Fx;decide,by unfold Fx;decide⟩) Fj;rw[getX]at J;exact J)) λw6 x6=>Fz x6 z r λz r=>?_;refine go ?_;refine db (zs:=[S [],S [],B false]) (pl:=[(0,1),(1,1),(2,1)]) (pv:=[(0,_),(2,_)]) (cs:=[_,S [],_]) ?_;refine lA 48 rfl λb2 w7 e2 x7 m2=>?_;have g2:=r.ge e2;have ha:=z.lt;refine Fz x7 z r λz r=>?_;have hsze:=r.size;refine cD (Rq κ2 bs bd bl mo bm2 vf2 _ D2 ⟨2,[fX]⟩ [⟨(0,1),bt,vl,vb,[Ix]⟩] [] false [L8] _ _ z (m2.arr (enc:=Rw.cs) (sz:=3) (l:=[L8]) rfl Ff rfl F5) Fj (λ_=>Bc λJ=>by have h8:=ha _ J;have h7:=e2;dsimp only [base]at h8;omega) Fj (by show 0<=900000;decide) Fj) (.inl rfl) λu8 w8 x8 h5=>?_;have hsz8:=r.size;have r:=r.own x8 (λi hi=>(xc i hi));obtain⟨e3,κ3,L3,D3,mem3,dead3,rfl,hmv3,H,xf⟩:=h5;have hbl3:=X3r;obtain⟨he3,hj,hl,hr,hOk3,hro3⟩:=Ym xf Fj rfl (by show(1:Int)<1099511627776;decide) hg Fb (by rw[hq,O];show _<=(65536:Int);omega) Fj (nn:=2) (mm:=[P7]) rfl Fj;rw[hj,hl,hr]at H;have z:StE κ3 bs bd bl mo bm2 vf2 _ D3 ⟨2,[fX]⟩ [⟨(0,1),bt,vl,vb,[Ix]⟩] [P7] false _:=H;refine Gp ((show Calls Tryz.prog 22 [Fg bs 0,S [97]].toArray w8 (Pure w8 (.tuple #[S [],B false])) from by have J:=Q6 z [97] Fj F5 (by intro f hf;rw[Af.1 hf];exact⟨⟨_,rfl⟩,by unfold Fx;decide,by unfold Fx;decide⟩) Fj;rw[Ydl]at J;exact J)) λw9 x9=>Fz x9 z r λz r=>?_;refine ds1 51 (λc3=>?_) λc3=>?_
 ·refine go ?_;refine dp (Kr rfl rfl) ?_;refine ds1 61 (λc4=>?_) λc4=>?_
  ·refine Gp (X9i z) λw10 hy=>?_;have r:=r.trans hy;refine go ?_;exact⟨rfl,r⟩
  exact absurd rfl c4
 exact absurd rfl c3
theorem X0p {P:Program}{W:World}{name:String}{k:IntKind}{zs:List Int}{a b:String×DataW Unit}{g:Nat}{t e:TypeId}{n:Nat}
  (hg:P.globalNamed name=some g) (hty:(P.globals[g]?).map (·.type)=some t) (ht:P.underlying t=some (.array n e)) (he:P.underlying e=some (.int k)) (hce:P.cellsOf e=1) (hct:P.cellsOf t=n)
  (h:laidMet P [a,b,(name,Lib.tabData k zs)] W):Lib.TabIs P W name k zs:=by
 obtain⟨ps,hv,_⟩:=h;obtain⟨_,_,_,_,_,q1,_,_,_,_,hv,_⟩:=hv;obtain⟨_,_,_,_,_,q2,_,_,_,_,hv,_⟩:=hv;obtain⟨g',t',cs,fuel,p,q,H,z,r,hd,_,_⟩:=hv;obtain rfl:=Al.inj (hg.symm.trans H);obtain rfl:=Al.inj (hty.symm.trans z);unfold Lib.TabIs;rw[r,<-Lib.cells_of_tab ht he hce hct hd]
theorem X3t : (Rows.laid_internal_strconv_uint64pow10:DataW Unit)=Lib.tabData .u64 Lib.pow10Tab:=by rfl
theorem GV.of_row {a b : String × DataW Unit}(_ : w.ShapedOpen Tryz.prog)(h : laidMet Tryz.prog [a, b, ("internal/strconv.uint64pow10", Rows.laid_internal_strconv_uint64pow10)] w): GV w := by
 rw[X3t]at h;exact⟨X0p (g:=1) (t:=366) (e:=236) (n:=20) Fe Fe Fe Fe Fe Fe h⟩
theorem Yd2 : (IN 4194304).Wf:=⟨by decide,by decide,by decide,by decide,by decide,λp r=>(by cases r),λp r=>(by cases r),Cj,by decide⟩
variable {M:List Rw}
theorem NB {S:Nat}{mem:List Cell}(h:TI S i L V ts mem M)(hS:S<=60000)(hi:i<=60):L.last<=60/\(FQ mem ts).length<=30000/\mem.length<=30000/\ts.length<=30000/\V.fs.length<=1024/\HE mem<=100000000000/\(∀c∈mem,c.key.length<=4096/\c.val.length<=16384/\c.seq<=4611686018427387904):=by
 have h1:=h.len;have h2:=h.l0;have h3:=h.sto.tlen;have h4:(FQ mem ts).length=mem.length+(ts.flatMap (·.cs)).length:=by unfold FQ;rw[Ad]
 obtain⟨_,_,z,_⟩:=JG h.sto.isv;have z:V.fs.length<=1024:=z;have H:=λc (r:c∈mem)=>h.sto.cellsB Fb c (Hg.2 (.inl r));refine⟨by omega,by omega,by omega,by omega,z,?_,H⟩;have h7:=Uj (l:=mem) (λc r=>by have:=H c r;unfold G5;omega);omega
theorem YM {S:Nat}{mem:List Cell}(h:TI S i L V ts mem M):∀f∈V.fs,(∃t,HH ts (f.lev,f.id)=some t)/\Fx f.lev/\Fx f.id:=λf r=>by
 obtain⟨t,z,hv⟩:=h.sto.fwd f r;have h1:=Np h.sto.isv f r;exact⟨⟨t,by rw[<-hv.h];exact NR h.sto.nod z⟩,h1.2,h1.1⟩
theorem X3u {key:Fh}{r:Rw}(hM:LK M)(hk:M[k]?=some r)(e:r.key=key):M.find? (λr=>decide (r.key=key))=some r:=by
 cases h:M.find? (λr=>decide (r.key=key))with
 | none=>exact absurd (List.find?_eq_none.1 h r (Ag hk)) (by simp [e])
 | some d=>
  have h1:=List.mem_of_find?_eq_some h;have h2:d.key=key:=by simpa using Cp h
  rcases Q5 hM h1 (Ag hk)with e2|e2|e2
  ·rw[e2]
  ·rw[h2,<-e,IC]at e2;cases e2
  ·rw[h2,<-e,IC]at e2;cases e2
theorem X3v {l:List Rw}{r:Rw}(h:r∈l):Hu r<=(l.map Hu).sum:=by
 induction l with
 | nil=>cases h
 | cons c t ih=>
  rw[Am,AT];rcases Ah.1 h with rfl|h
  ·omega
  ·have:=ih h;omega
def Jv (H:Nat->Prop)(bd bs bl bo sb bx rbl S i:Nat)(w:World):Prop:=(∀k,H k->k<w.heap.size)/\∃κ bm vf L D V ts mem dead M G bm2 n2 vf2 vT2 d2 fs2 T2,StE κ bs bd bl bo bm vf L D V ts mem dead w/\TI S i L V ts mem M/\(∀k,κ k≠0->H k)/\RG G sb bx rbl bm2 n2 vf2 vT2 d2 fs2 T2 (60000*i) (2048*i) w/\(∀k,G k->H k)/\∀k,G k->κ k=0
theorem Jv.next {H:Nat->Prop}{bl sb bx rbl S' a2 b2:Nat}{w1 w2:World}{bm bm2:Nat}{vf2 vT2:Value}{mem:List Cell}{d2:Bool}{G:Nat->Prop}{n2:Int}{fs2:List Fi}{T2:List Tr}(hHl:∀k,H k->k<w.heap.size)(hκH:∀k,κ k≠0->H k)(hGH:∀k,G k->H k)(hGκ:∀k,G k->κ k=0)(hz1:w.heap.size<=w1.heap.size)(hz2:w1.heap.size<=w2.heap.size)(hmv:∀k,k<w.heap.size->κ1 k=κ k)(hκ1:∀k,κ1 k≠0->k<w1.heap.size)(hS:StE κ1 bs bd bl bo bm vf L D V ts mem dead w2)(hT:TI S' (i+1) L V ts mem M)(hR:RE G w1 sb bx rbl bm2 n2 vf2 vT2 d2 fs2 T2 a2 b2 w2)(ha:a2<=60000*(i+1))(hb:b2<=2048*(i+1)):Jv (FSq H w w2) bd bs bl bo sb bx rbl S' (i+1) w2:=by
 refine⟨λk hk=>hk.elim (λh=>Ax (hHl k h) (Ae hz1 hz2)) (λh=>h.2),κ1,bm,vf,L,D,V,ts,mem,dead,M,FSq G w1 w2,bm2,n2,vf2,vT2,d2,fs2,T2,hS,hT,λk hk=>?_,⟨(hR.up ha hb).roll⟩,λk hk=>?_,λk hk=>?_⟩
 ·by_cases r:k<w.heap.size
  ·exact .inl (hκH k (by rw[<-hmv k r];exact hk))
  ·exact .inr ⟨by omega,by have:=hκ1 k hk;omega⟩
 ·exact hk.elim (λh=>.inl (hGH k h)) (λh=>.inr ⟨Ae hz1 h.1,h.2⟩)
 ·rcases hk with h|h
  ·rw[hmv k (hHl k (hGH k h))];exact hGκ k h
  ·exact Bc λr=>by have:=hκ1 k r;omega
theorem X3w (most:Int)(l:List Rw):(Ma most l).length<=l.length:=by
 unfold Ma;split
 ·exact Aa _
 ·rw[A7];exact Nat.min_le_right ..
theorem Xup (m:List Cell):(Iy m).length<=m.length:=by
 have:=U5 m m.length;rwa [AV]at this
theorem Ydm (H:Nat->Prop)(pb bd bs bl bo sb bx rbl S i:Nat)(a:Ac)(w:World)(h:Jv H bd bs bl bo sb bx rbl S i w)(hp0:Fo w pb [Fg bd 0,Fg bx 0,Fg bs 0,Fg sb 0] 31)(hpH:¬ H pb)(hok:AcOk w a)(haH:a.l≠[]->¬ H (base a.v).1)(hk6:a.k<6)(hSw:S+H4 a<=60000)(hi:i<=60)(hgv:GV w)(hgH:∀k,Mf k->¬ H k) :
  Gy 30 [Fg pb 0,.agg ⟨a.cs⟩] w H λu w'=>(∃b,u=B b)/\Jv (FSq H w w') bd bs bl bo sb bx rbl (S+H4 a) (i+1) w':=by
 refine cM Tryz.func30 H λz=>?_;obtain⟨Y,κ,bm,vf,L,D,V,ts,mem,dead,M,G,bm2,n2,vf2,vT2,d2,fs2,T2,J,hT,Z,hG,O,ha⟩:=h;have hp:=hp0;have hpl:=hp0.lt;have hv:=hok.v;have hw:κ pb=0:=Bc λh9=>hpH (Z _ h9);have h7:¬ G pb:=λh9=>hpH (O _ h9);have xh:a.l≠[]->κ (base a.v).1=0:=λhl=>Bc λh9=>haH hl (Z _ h9);have xq:a.l≠[]->¬ G (base a.v).1:=λhl h9=>haH hl (O _ h9);have ya:a.l≠[]->(base a.v).1<w.heap.size:=λhl=>Fs.base_lt hv Fj hl;have xl:∀k,Mf k->κ k=0:=λk hk=>Bc λh9=>hgH k hk (Z _ h9);obtain⟨q1,q2,q3,q4,q5,q6,q7⟩:=NB hT Fb Fb;have haw:H4 a=a.key.length+a.to.length+(a.l.map Hu).sum:=rfl;have hrs:=RH a.l;have xy:∀r∈a.l,r.key.length<=1000000/\r.val.length<=1000000:=λr hr=>by have h1:=X3v hr;have h2:Hu r=1+r.key.length+r.val.length:=rfl;omega
 have hml9:=hT.ml;have hen9:=hT.en;refine go ?_;refine Gx rfl rfl rfl RX.all (λb1 w1 e1 x1 m1=>?_);have g1:=z.ge e1;have a1_hp:=hp.lt;have a1_hS:=J.lt;have a1_hv:=Fs.base_lt hv Fj;refine FV x1 hp J hG hv z λhp J hG hv z=>?_;refine Fk (λc1=>?_) λc1=>?_
 ·refine go ?_;refine HM (R:=Mod (λk=>k≠pb/\k≠b1)) HT Ir Fe [3,5,10,12] [(0,.p,false),(1,.p,false),(2,.p,false),(3,.l,false),(4,.p,false),(5,.l,false),(7,.p,false),(8,.p,false),(9,.p,false),(10,.l,false),(11,.p,false),(12,.l,false),(6,.x,false),(13,.x,false),(14,.p,false),(15,.p,false)] rfl Fe Fe (λw2 xg=>?_);have x2:=FC xg;clear xg;refine H3 x2 hp J hG hv m1 z λhp J hG hv m1 z=>go ?_;refine dL rfl (λ_ hR=>((hp.mod hR (λh=>h.1 rfl)).at rfl)) (go ?_);refine dL rfl (λ_ hR=>((m1.mod hR (λh=>h.2 rfl)).at rfl)) (go ?_);refine dL rfl (λ_ hR=>((hp.mod hR (λh=>h.1 rfl)).at rfl)) (go ?_);refine dL rfl (λ_ hR=>((m1.mod hR (λh=>h.2 rfl)).at rfl)) ?_;have hz:=z.size;have hy:κ b1=0:=Bc λh9=>by have:=Y _ (Z _ h9);omega
  have ht:¬ G b1:=λh9=>by have:=Y _ (O _ h9);omega
  refine J8 rfl Fe (Rq κ bs bd bl bo bm vf L D V ts mem dead a.l a.v _ J hv Fb xh Fb Fb q6) rfl (.inr λw9 h9=>h9.mono (λk hk _=>⟨λe=>hk (by rw[e];exact hw),λe=>hk (by rw[e];exact hy)⟩)) (λu3 w3 x3 yf=>?_);have hsz3:=z.size;have hp:=hp.mod x3 (λe=>e hw);have hG:=hG.mod x3 (λk hk e=>e (ha k hk));have hv:=hv.mod x3 (λhl e=>e (xh hl));have m1:=m1.mod x3 (λe=>e hy);have z:=z.own x3 (λi hi hq=>(Z i hi));obtain⟨e,κ1,L1,D1,mem1,dead1,rfl,hg,J,hW⟩:=yf;have hj:=J.lt;have hf:=z.size;have hh:∀k,G k->κ1 k=0:=λk hk=>(hg k (by have:=Y k (O k hk);omega)).trans (ha k hk);refine J8 rfl Fe (Xuf G _ sb bx rbl bm2 n2 vf2 vT2 d2 fs2 T2 (60000*i) (2048*i) a.l a.v _ hG.e hv (λhl=>⟨xq hl,by have:=ya hl;omega⟩) Fb xy Fb) rfl (.inr λw9 h9=>h9.mono (λk hk _=>⟨λe=>h7 (by rw[<-e];exact Iw _ hk.1),λe=>ht (by rw[<-e];exact Iw _ hk.1)⟩)) (λu4 w4 x4 xw=>?_);have hsz4:=z.size;have hp:=hp.mod x4 (λe=>h7 (Iw _ e.1));have m1:=m1.mod x4 (λe=>ht (Iw _ e.1));have J:=J.mod x4 (λk hk e=>hk (hh k (Iw _ e.1)));have z:=z.own x4 (λi hi hq=>(O i (Iw _ hi.1)));obtain⟨e2,d3,rfl,hE⟩:=xw;refine go ?_;exact⟨_,rfl,z,⟨_,rfl⟩,Jv.next Y Z O ha hf hE.x.1 (λk hk=>hg k Fb) hj J ((hT.write hW).mono Fb (Aa _)) hE Fb Fb⟩
 refine Fk (λc2=>?_) λc2=>?_
 ·refine Gn 1000005101000 λw5 x5=>FV x5 hp J hG m1 z λhp J hG m1 z=>?_;refine Gp (Q6 J a.key Fb Fb (YM hT) Fb) λw6 x6=>FV x6 hp J hG m1 z λhp J hG m1 z=>?_;refine Gn 1000005101000 λw7 x7=>FV x7 hp J hG m1 z λhp J hG m1 z=>?_;refine go ?_;obtain⟨vM,Mc,xb⟩:=hG.e.rv Fb Fb;refine cG (X25 sb bx rbl bm2 n2 vf2 vT2 vM d2 Mc fs2 T2 a.key _ xb) RX.all λu8 w8 x8 x0=>?_;have hsz8:=z.size;refine FV x8 hp J hG m1 z λhp J hG m1 z=>?_;obtain⟨s9,b9,rfl⟩:=x0;refine go ?_;refine dp (Kr rfl rfl) ?_;refine ds1 61 (λc3=>?_) λc3=>?_
  ·refine go ?_;refine dp (P8 Fe rfl rfl) (go ?_);exact⟨_,rfl,z,⟨_,rfl⟩,Jv.next Y Z O ha z.size (Aa _) (λ_ _=>rfl) J.lt J (hT.mono (B6 _ _) (BP _)) hG.e Fb Fb⟩
  refine go ?_;exact⟨_,rfl,z,⟨_,rfl⟩,Jv.next Y Z O ha z.size (Aa _) (λ_ _=>rfl) J.lt J (hT.mono (B6 _ _) (BP _)) hG.e Fb Fb⟩
 refine Fk (λc4=>?_) λc4=>?_
 ·refine go ?_;refine HM (R:=Fp) Fp.refl (λ_ _ _=>Fp.trans) Fe [3,5,7,9,14,16,18,20] [(0,.p,false),(1,.p,false),(2,.p,false),(3,.l,false),(4,.p,false),(5,.l,false),(6,.p,false),(7,.l,false),(8,.p,false),(9,.l,false),(11,.p,false),(12,.p,false),(13,.p,false),(14,.l,false),(15,.p,false),(16,.l,false),(17,.p,false),(18,.l,false),(19,.p,false),(20,.l,false),(10,.x,false),(21,.x,false),(22,.x,false),(23,.p,false)] rfl Fe Fe (λw9 xe=>?_);have x9:=FC xe;clear xe;refine FV x9 hp J hG m1 z λhp J hG m1 z=>go ?_;refine cG (NL κ bs bd bl bo bm vf L D V ts mem dead a.key a.to a.n _ J hT.sto.nod hT.sto.okh Fb (λc hc=>(q7 c hc).2.2) Fb Fb) RX.ext λvs w10 xz xf=>?_;have hsz10:=z.size;refine FP xz hp J hG z λhp J hG z=>?_;obtain⟨Lc,m9,hLm,hLl,ye,h6⟩:=xf;obtain⟨vM,Mc,xb⟩:=hG.e.rv Fb Fb;refine cG (Xzq sb bx rbl bm2 n2 vf2 vT2 vM d2 Mc fs2 T2 a.key a.to a.n _ xb) RX.ext λvr w11 yb xi=>?_;have hsz11:=z.size;refine FV yb hp J hG h6 z λhp J hG h6 z=>?_;obtain⟨lr,yc,hlr⟩:=xi;refine cP (Xc _ lr vs vr _ (h6.arr Ff) (yc.arr Ff) (by have:=X3w a.n (Iy m9);have:=Xup m9;have:=(OH ye).1;omega) Fb) RX.ext λw12 xp=>FP xp hp J hG z λhp J hG z=>go ?_;exact⟨_,rfl,z,⟨_,rfl⟩,Jv.next Y Z O ha z.size (Aa _) (λ_ _=>rfl) J.lt J (hT.mono (B6 _ _) (BP _)) hG.e Fb Fb⟩
 refine Fk (λc5=>?_) λc5=>?_
 ·refine go ?_;have hz:=z.size;have hy:κ b1=0:=Bc λh9=>by have:=Y _ (Z _ h9);omega
  have ht:¬ G b1:=λh9=>by have:=Y _ (O _ h9);omega
  refine cD (T7 κ bs bd bl bo bm vf L D V ts mem dead _ J q3 q7 hT.sto.isv (hgv.mod z (λk hk=>hgH k hk)) xl Fb) (.inl rfl) λu13 w13 xa xk=>?_;have hsz13:=z.size;have hp:=hp.mod xa (λe=>e hw);have hG:=hG.mod xa (λk hk e=>e (ha k hk));have z:=z.own xa (λi hi hq=>(Z i hi));obtain⟨ok1,e1,κ1,xn,xv,L1,D1,V1,ts1,mem1,dead1,rfl,hg,J,hF⟩:=xk;have hj:=J.lt;have hf:=z.size;have hh:∀k,G k->κ1 k=0:=λk hk=>(hg k (by have:=Y k (O k hk);omega)).trans (ha k hk);refine Gw (Wk G _ sb bx rbl bm2 n2 vf2 vT2 d2 fs2 T2 (60000*i) (2048*i) _ hG.e Fb Fb) λu14 w14 h5 xj=>?_;have hsz14:=z.size;have hp:=hp.mod h5 (λe=>h7 (Iw _ e.1));have J:=J.mod h5 (λk hk e=>hk (hh k (Iw _ e.1)));have z:=z.own h5 (λi hi hq=>(O i (Iw _ hi.1)));obtain⟨xt,e2,yd,d3,n3,xx,xu,xr,T3,rfl,hE,_⟩:=xj;refine go ?_;refine dp (P8 Fe rfl rfl) ?_;refine ds1 112 (λc6=>?_) λc6=>?_
  ·refine go ?_;exact⟨_,rfl,z,⟨_,rfl⟩,Jv.next Y Z O ha hf hE.x.1 (λk hk=>hg k Fb) hj J ((hT.flush hF).mono (B6 _ _) (BP _)) hE Fb Fb⟩
  refine go ?_;exact⟨_,rfl,z,⟨_,rfl⟩,Jv.next Y Z O ha hf hE.x.1 (λk hk=>hg k Fb) hj J ((hT.flush hF).mono (B6 _ _) (BP _)) hE Fb Fb⟩
 refine Fk (λc7=>?_) λc7=>?_
 ·refine go ?_;have hz:=z.size;have hy:κ b1=0:=Bc λh9=>by have:=Y _ (Z _ h9);omega
  have ht:¬ G b1:=λh9=>by have:=Y _ (O _ h9);omega
  refine cD (X0i κ bs bd bl bo bm vf L D V ts mem dead L.last _ J hT.sto Fb q2 (hgv.mod z (λk hk=>hgH k hk)) xl) (.inl rfl) λu15 w15 h8 xc=>?_;have hsz15:=z.size;have hp:=hp.mod h8 (λe=>e hw);have hG:=hG.mod h8 (λk hk e=>e (ha k hk));have z:=z.own h8 (λi hi hq=>(Z i hi));obtain⟨did1,e1,κ1,xn,xv,L1,D1,V1,ts1,mem1,dead1,rfl,hg,J,hF⟩:=xc;have hj:=J.lt;have hf:=z.size;have hh:∀k,G k->κ1 k=0:=λk hk=>(hg k (by have:=Y k (O k hk);omega)).trans (ha k hk);refine Gw (Xo7 G _ sb bx rbl bm2 n2 vf2 vT2 d2 fs2 T2 (60000*i) (2048*i) _ hG.e Fb Fb) λu16 w16 xm xd=>?_;have hsz16:=z.size;have J:=J.mod xm (λk hk e=>hk (hh k (Iw _ e.1)));have z:=z.own xm (λi hi hq=>(O i (Iw _ hi.1)));obtain⟨xt,e2,yd,d3,n3,xx,xu,xr,T3,rfl,hE⟩:=xd;refine go ?_;refine dp (P8 Fe rfl rfl) ?_;refine ds1 138 (λc8=>?_) λc8=>?_
  ·refine go ?_;exact⟨_,rfl,z,⟨_,rfl⟩,Jv.next Y Z O ha hf hE.x.1 (λk hk=>hg k Fb) hj J ((hT.comp hF).mono (B6 _ _) (BP _)) hE Fb Fb⟩
  refine go ?_;exact⟨_,rfl,z,⟨_,rfl⟩,Jv.next Y Z O ha hf hE.x.1 (λk hk=>hg k Fb) hj J ((hT.comp hF).mono (B6 _ _) (BP _)) hE Fb Fb⟩
 refine Fk (λc9=>?_) λc9=>?_
 ·(omega)
 refine Fk (λxo=>?_) λxo=>?_
 ·(omega)
 refine go ?_;exact⟨_,rfl,z,⟨_,rfl⟩,Jv.next Y Z O ha z.size (Aa _) (λ_ _=>rfl) J.lt J (hT.mono (B6 _ _) (BP _)) hG.e Fb Fb⟩
def IP (frm to:Fh)(r:Rw):Bool:=!F0 r.key frm && (decide (to=[]) || F0 r.key to)
theorem Wt {L:List Cell}{to:Fh}{c:Cell}: Ju (scan L frm to) c↔Ju L c/\JT frm to c=true:=by
 unfold scan
 constructor
 ·rintro ⟨h1,h2⟩;have h3:=Av.1 h1;exact⟨⟨h3.1,λd hd e=>h2 d (Av.2 ⟨hd,by have h4:=h3.2;unfold JT at h4 ⊢;rw[e];exact h4⟩) e⟩,h3.2⟩
 ·rintro ⟨h1,h2⟩;exact⟨Av.2 ⟨h1.1,h2⟩,λd hd e=>h1.2 d (Av.1 hd).1 e⟩
theorem X0q {L:List Cell}(frm to:Fh)(h:Sp.Told L M):Sp.Told (scan L frm to) (M.filter (IP frm to)):=⟨h.1.filter _,λr=>by
 rw[Av,h.2]
 constructor
 ·rintro ⟨⟨c,hc,hd,rfl⟩,hr⟩;exact⟨c,Wt.2 ⟨hc,hr⟩,hd,rfl⟩
 ·rintro ⟨c,hc,hd,rfl⟩;obtain⟨h1,h2⟩:=Wt.1 hc;exact⟨⟨c,h1,hd,rfl⟩,h2⟩⟩
theorem Oz {S:Nat}{mem:List Cell}{l:List Cell}{to:Fh}(h:TI S i L V ts mem M)(hl:∀c,c∈l↔c∈Sp.scan (FQ mem ts) frm to)(hm:Mg l m):Ma 0 (Iy m)=M.filter (IP frm to):=by
 have e:Ma 0 (Iy m)=Iy m:=by unfold Ma;rw[if_pos Fj]
 rw[e];have hs:∀c,c∈l->c∈FQ mem ts:=λc r=>(Av.1 ((hl c).1 r)).1;have z:Jx l:=λc r d hd=>h.sto.uniq c (hs c r) d (hs d hd);exact X76 (X77 z hm) (PG (X0q frm to h.told) (λc r=>(hl c).1 r) (λc r=>.inl ((hl c).2 r.1)))
theorem QU {frm mid:Fh}(h1:F0 mid frm=false)(h2:mid≠[]):∀(M:List Rw),M.Pairwise (λa b=>F0 a.key b.key=true)->M.filter (IP frm mid)++M.filter (IP mid [])=M.filter (IP frm [])
 | [],_=>rfl
 | c :: t,h=>by
  obtain⟨h3,h4⟩:=List.pairwise_cons.1 h;have z:=QU h1 h2 t h4;have e1:IP frm mid c=(!F0 c.key frm && F0 c.key mid):=by unfold IP;rw[decide_eq_false h2,BY]
  have e2:IP mid [] c=!F0 c.key mid:=by unfold IP;simp
  have H:IP frm [] c=!F0 c.key frm:=by unfold IP;simp
  cases hm:F0 c.key mid with
  | true=>
   rw[Df (a:=c) (p:=IP mid []) (by rw[e2,hm];decide)]
   cases r:F0 c.key frm with
   | true=>rw[Df (by rw[e1,r];simp),Df (by rw[H,r];simp)];exact z
   | false=>rw[De (by rw[e1,r,hm];rfl),De (by rw[H,r];rfl),List.cons_append,z]
  | false=>
   have r:F0 c.key frm=false:=by
    cases h9:F0 c.key frm with
    | false=>rfl
    | true=>
     rcases K5 c.key mid with h8|h8|h8
     ·rw[h8,h1]at h9;cases h9
     ·rw[h8]at hm;cases hm
     ·rw[J9 _ _ _ h8 h9]at h1;cases h1
   have J:t.filter (IP frm mid)=[]:=List.filter_eq_nil_iff.2 λd hd=>by
    have Y:=h3 d hd;unfold IP;rw[decide_eq_false h2,BY];have O:F0 d.key mid=false:=by
     cases h9:F0 d.key mid with
     | false=>rfl
     | true=>rw[J9 _ _ _ Y h9]at hm;cases hm
    rw[O];simp
   rw[J,AB]at z;rw[Df (by rw[e1,hm];simp),J,AB,De (by rw[e2,hm];rfl),De (by rw[H,r];rfl),z]
section
variable {H Z:Nat->Prop}{bd bs bl bo sb bx rbl S i S' i':Nat}{w w':World}
theorem Jv.nothing {κ:Nat->Nat}{bm pb rbm n0:Nat}{room:Int}(hS:StE κ bs bd bl bo bm (.slice none 0 0) Km (IN room) ⟨1,[]⟩ [] [] false w)(hE:RG (λk=>k=sb\/k=rbl\/k=rbm\/k=bx) sb bx rbl rbm 1 (.slice none 0 0) (.slice none 0 0) false [] [] 0 0 w)(hG:∀k,(k=sb\/k=rbl\/k=rbm\/k=bx)->n0<=k/\κ k=0/\k≠pb):Jv (λk=>κ k≠0\/(k=sb\/k=rbl\/k=rbm\/k=bx)) bd bs bl bo sb bx rbl 0 0 w:=
 ⟨λk hk=>hk.elim (hS.lt k) (hE.lt k),κ,bm,_,Km,_,_,[],[],false,[],_,rbm,1,_,_,false,[],[],hS,TI.nil,λk hk=>.inl hk,hE,λk hk=>.inr hk,λk hk=>(hG k hk).2.1⟩
theorem Ydn {M:List Rw}{p:Rw->Bool}(h:LK M){k:Nat}{a b:Rw}(ha:(M.filter p)[k-1]?=some a)(hb:(M.filter p)[k]?=some b)(hk:0<k):F0 a.key b.key=true:=by
 obtain⟨h1,rfl⟩:=Ap.1 ha;obtain⟨h2,rfl⟩:=Ap.1 hb;exact List.pairwise_iff_getElem.1 ((show List.Pairwise _ M from h).filter p) (k-1) k h1 h2 Fb
theorem Jv.up (h:Jv H bd bs bl bo sb bx rbl S i w)(hS9:S<=S')(hi:i<=i'):Jv H bd bs bl bo sb bx rbl S' i' w:=by
 obtain⟨r,κ,bm,vf,L,D,V,ts,mem,dead,M,G,bm2,n2,vf2,vT2,d2,fs2,T2,Y,hT,O,hG,z,J⟩:=h;exact⟨r,κ,bm,vf,L,D,V,ts,mem,dead,M,G,bm2,n2,vf2,vT2,d2,fs2,T2,Y,hT.mono hS9 hi,O,⟨hG.e.up Fb Fb⟩,z,J⟩
end
theorem Xuq (l:List Ac)(v:Value)(frm mid:Fh)(w:World)(hv:Fs Ac.cs 5 w v l)(hl:l.length<=140737488355328)(hok:∀a∈l,AcOk w a)(hfl:frm.length<=140737488355328)(hml:mid.length<=140737488355328)(hgv:GV w) :
  FW 8 [v,S frm,S mid] w (B true):=by
 refine cE Tryz.func8 λz=>Gp (X83 l v _ (hv.ext z) hl (λa ha=>(hok a ha).ext z)) λw1 x1=>?_;have z:=z.trans x1;refine go ?_;refine Il 15 rfl (λc1=>?_) (λc1=>?_)
 ·refine go ?_;refine GD rfl (go ?_);exact⟨rfl,z⟩
 refine ds1 23 (λc2=>?_) λc2=>?_
 ·refine go ?_;refine GD rfl (go ?_);exact⟨rfl,z⟩
 refine go ?_;refine dp (LS rfl rfl) (go ?_);refine Il 28 rfl (λc3=>?_) (λc3=>?_)
 ·refine go ?_;refine GD rfl (go ?_);exact⟨rfl,z⟩
 refine go ?_;refine dp (Kr rfl rfl) ?_;refine Fk (λc4=>?_) λc4=>?_
 ·refine go ?_;exact⟨rfl,z⟩
 have yv:Mj l<=60000:=by simpa using c1
 unfold Mj at yv;refine go ?_;have xx:=z.size;refine cG (X3k 4194304 _ Fj Fj Yd2) RX.all λu2 w2 x2 xl=>?_;have hsz2:=z.size;have z:=z.trans x2;obtain⟨κ,pb,bd,bx,bs,bl,bo,bm,sb,rbl,x3,rfl,J,O,yn,yq,hpge,hE,hG⟩:=xl;have hg:=Jv.nothing O hE hG;refine go ?_;refine dp (GS Fe rfl rfl) ?_;refine ds1 35 (λc5=>?_) λc5=>?_
 ·cases c5
 refine go ?_;refine dp (GS Fe rfl rfl) ?_;refine Fk (λc6=>?_) λc6=>?_
 ·cases c6
 refine g0 ?_;refine GK (G:=(Nat->Nat)×Nat×Value×Led×Dsk×Vs×List Tb×List Cell×Bool×List Rw) (λ(κ,bm,vf,L,D,V,ts,mem,dead,M)=>[(1,S frm),(2,S mid),(6,.bool false),(7,Fg pb 0)]) (λ(κ,bm,vf,L,D,V,ts,mem,dead,M) w'=>Fp w w'/\Fo w' pb [Fg bd 0,Fg bx 0,Fg bs 0,Fg sb 0] 31/\TI 60000 60 L V ts mem M/\StE κ bs bd bl bo bm vf L D V ts mem dead w') ?_ ?_
 ·refine F9 (G:=Nat×(Nat->Prop)) (λ(i,H)=>[(0,v),(1,S frm),(2,S mid),(6,.bool false),(7,Fg pb 0),(8,I ↑i)]) (λ(i,H) w'=>Fp w w'/\Fo w' pb [Fg bd 0,Fg bx 0,Fg bs 0,Fg sb 0] 31/\i<=l.length/\i<=60/\(∀k,H k->w.heap.size<=k)/\¬ H pb/\Jv H bd bs bl bo sb bx rbl ((l.take i).map H4).sum i w') (λ(i,H)=>l.length-i) (0,λk=>κ k≠0\/(k=sb\/k=rbl\/k=x3\/k=bx)) ⟨z,J,Ab _,Ab _,λk hk=>Ae xx (hk.elim (yn k) (λh=>(hG k h).1)),λhk=>hk.elim (λh=>h yq) (λh=>(hG pb h).2.2 rfl),hg⟩ ?_;rintro _ ⟨i,H⟩ w3 ⟨z,J,hi1,hi2,hHg,hHp,hg⟩;refine FL 34 5 (hv.ext z).sl ?_;refine ds1 46 (λc7=>?_) λc7=>?_
  ·refine Fk (λc8=>?_) λc8=>?_
   ·obtain⟨a,hk⟩:∃a,l[i]?=some a:=F8;have xq:=hok a (Ag hk);have xk:=PN H4 hk;have hsle:=O5 H4 l (show i+1<=60 by omega);have x0:a.l≠[]->¬ H (base a.v).1:=λxc h9=>by have h8:=hHg _ h9;have h7:=Fs.base_lt xq.v Fj xc;omega
    refine FK 34 5 hv.sl (hv.lt hk) ?_;refine go ?_;refine dl rfl (((hv.ext z).row hk).at rfl) ?_;refine Fk (λc9=>?_) λc9=>?_
    ·refine FK 34 5 hv.sl (hv.lt hk) ?_;refine dq (Fy Fe rfl rfl ((hv.ext z).row hk)) ?_;have xp:=z.size;have xj:=J.lt;refine cD (Ydm H pb bd bs bl bo sb bx rbl ((l.take i).map H4).sum i a _ hg J hHp (xq.ext z) (λxc=>x0 xc) Fb Fb Fb (hgv.ext z) (λk hk h9=>by have h8:=hHg k h9;have h7:=hgv.lt k hk;omega)) (.inl rfl) λu4 w4 x4 ym=>?_;have hsz4:=z.size;have J:=J.mod x4 hHp;have z:=z.own x4 (λi hi=>(hHg i hi));obtain⟨⟨b9,rfl⟩,hg⟩:=ym;have yx:∀k,FSq H _ w4 k->w.heap.size<=k:=λk hk=>hk.elim (hHg k) (λe=>Ae xp e.1);have yu:¬ FSq H _ w4 pb:=λhk=>hk.elim hHp (λe=>absurd xj (AP.2 e.1));refine go ?_;exact⟨(i+1,FSq H _ _),Hn,⟨z,J,by omega,by omega,yx,yu,by rw[xk];exact hg⟩,by simp only [];omega⟩
    refine go ?_;exact⟨(i+1,H),Hn,⟨z,J,by omega,by omega,hHg,hHp,hg.up (by rw[xk];exact B6 _ _) (BP _)⟩,by simp only [];omega⟩
   refine go ?_;obtain⟨xy,κ,bm,vf,L,D,V,ts,mem,dead,M,G,bm2,n2,vf2,vT2,d2,fs2,T2,O,Y,y3,hG,yy,x5⟩:=hg;exact⟨(κ,bm,vf,L,D,V,ts,mem,dead,M),He,z,J,Y.mono (by have h9:=O5 H4 l (show i<=60 by omega);omega) Fb,O⟩
  refine go ?_;refine GL rfl (go ?_);obtain⟨xy,κ,bm,vf,L,D,V,ts,mem,dead,M,G,bm2,n2,vf2,vT2,d2,fs2,T2,O,Y,y3,hG,yy,x5⟩:=hg;exact⟨(κ,bm,vf,L,D,V,ts,mem,dead,M),He,z,J,Y.mono (by have h9:=O5 H4 l (show i<=60 by omega);omega) Fb,O⟩
 rintro _ ⟨κ,bm,vf,L,D,V,ts,mem,dead,M⟩ w5 ⟨z,J,Y,O⟩;obtain⟨B9,hwB,hκB,hpB,hZ⟩:∃B9,w.heap.size<=B9/\(∀k,κ k≠0->k<B9)/\pb<B9/\Sz B9 w5:=⟨_,z.size,O.lt,J.lt,⟨Aa _⟩⟩;have hMl:=Y.ml;have hf1:=AZ (IP frm mid) M;have xl:=AZ (IP mid []) M;have hf3:=AZ (IP frm []) M;refine GK (G:=Value) (λva=>[(1,S frm),(6,.bool false),(7,Fg pb 0),(9,va)]) (λva w'=>Fp w w'/\Fo w' pb [Fg bd 0,Fg bx 0,Fg bs 0,Fg sb 0] 31/\StE κ bs bd bl bo bm vf L D V ts mem dead w'/\Fs Rw.cs 3 w' va (M.filter (IP frm []))) ?_ ?_
 ·refine Kf (R:=Mod (λk=>B9<=k)) HT Ir Fe [4,12] (.one 1 .p false (.one 2 .p false (.one 3 .p false (.one 4 .l false (.one 5 .p false (.one 6 .p false (.one 9 .p false (.one 10 .p false (.one 11 .p false (.one 12 .l false (.one 13 .p false (.fork (.alt 0 false (.one 7 .x false (.one 8 .x false (.one 14 .x false (.one 15 .x false (.one 16 .p false .nil))))) (.alt 7 false (.one 0 .x false (.one 8 .x false (.one 14 .x false (.one 15 .x false (.one 16 .p false .nil))))) .stop)))))))))))))) Fe Fe (λw6 xe=>?_);have x6:=FC xe;clear xe;refine FP x6 J O hZ z λJ O hZ z=>go ?_;refine dL rfl (λ_ hR=>((J.mod hR (λh=>by omega)).at rfl)) (go ?_);refine dL rfl (λ_ hR=>((J.mod hR (λh=>by omega)).at rfl)) (go ?_);refine IQ ?_;refine Hc ?_ ?_
  ·refine IY (e:=48) (sz:=3) rfl Fe RX.mod (λb1 w7 e1 x7 m1=>?_);have g1:=z.ge e1;have a1_hp:=J.lt;have a1_hS:=O.lt;have a1_hZ:=hZ.le;refine FP x7 J O hZ z λJ O hZ z=>go ?_;obtain⟨q1,q2,q3,q4,q5,q6,q7⟩:=NB Y Fb Fb;have hh:=Y.ml;refine cG (NL κ bs bd bl bo bm vf L D V ts mem dead frm mid 0 _ O Y.sto.nod Y.sto.okh Fb (λc hc=>(q7 c hc).2.2) Fb Fb) RX.mod λyw w8 x8 yp=>?_;have hsz8:=z.size;refine FV x8 J O hZ m1 z λJ O hZ m1 z=>?_;obtain⟨yc,yz,hy,_,hr,hj⟩:=yp;rw[Oz Y hy hr]at hj;refine go ?_;have ho:=m1.own (enc:=Rw.cs) (B:=B9) (l:=[]) (sz:=3) (m:=0) (by have:=hZ.le;omega) rfl Ff rfl (Aj rfl);refine Hf ho (hj.arr Ff) (λy5 w9 hf x9=>?_) (hB:=hZ.le) (hR:=(.inr λw9 h9=>h9.mono (λk hk _=>(ho.lt k hk).1)));have J:=J.mod x9 (by exact(λe=>by have h1:=(ho.lt _ e).1;omega));have O:=O.mod x9 (by exact(λk hk e=>by have h1:=(ho.lt k e).1;have h2:=hκB k hk;omega));have hZ:=hZ.mod x9 (by trivial);have z:=z.own x9 (λi hi=>(Ae hwB (ho.lt i hi).1));have ho:=hf;refine go ?_;obtain⟨q1,q2,q3,q4,q5,q6,q7⟩:=NB Y Fb Fb;have hh:=Y.ml;refine cG (NL κ bs bd bl bo bm vf L D V ts mem dead mid [] 0 _ O Y.sto.nod Y.sto.okh Fb (λc hc=>(q7 c hc).2.2) Fb Fb) RX.mod λya w10 yo xg=>?_;have hsz10:=z.size;refine FV yo J O hZ ho z λJ O hZ ho z=>?_;obtain⟨yk,yj,hq,_,hw,ht⟩:=xg;rw[Oz Y hq hw]at ht;refine go ?_;refine Hf ho (ht.arr Ff) (λva w11 hf h6=>?_) (hB:=hZ.le) (hR:=(.inr λw9 h9=>h9.mono (λk hk _=>(ho.lt k hk).1)));have J:=J.mod h6 (by exact(λe=>by have h1:=(ho.lt _ e).1;omega));have O:=O.mod h6 (by exact(λk hk e=>by have h1:=(ho.lt k e).1;have h2:=hκB k hk;omega));have hZ:=hZ.mod h6 (by trivial);have z:=z.own h6 (λi hi=>(Ae hwB (ho.lt i hi).1));have ho:=hf;refine go ?_;rw[AB,QU (by simpa using c3) c4 M Y.up]at ho;exact⟨va,He,z,J,O,ho.arr Ff⟩
  refine Hc ?_ ?_
  ·obtain⟨q1,q2,q3,q4,q5,q6,q7⟩:=NB Y Fb Fb;have hh:=Y.ml;refine cG (NL κ bs bd bl bo bm vf L D V ts mem dead frm mid 0 _ O Y.sto.nod Y.sto.okh Fb (λc hc=>(q7 c hc).2.2) Fb Fb) RX.mod λyw w12 ye xh=>?_;have hsz12:=z.size;refine FP ye J O hZ z λJ O hZ z=>?_;obtain⟨yc,yz,hy,_,hr,hj⟩:=xh;rw[Oz Y hy hr]at hj;refine go ?_;refine IY (e:=48) (sz:=3) rfl Fe RX.mod (λb2 w13 e2 yt m2=>?_);have g2:=z.ge e2;have a2_hp:=J.lt;have a2_hS:=O.lt;have a2_hZ:=hZ.le;refine FV yt J O hZ hj z λJ O hZ hj z=>go ?_;have ho:=m2.own (enc:=Rw.cs) (B:=B9) (l:=[]) (sz:=3) (m:=0) (by have:=hZ.le;omega) rfl Ff rfl (Aj rfl);refine Hf ho (hj.arr Ff) (λy5 w14 hf h5=>?_) (hB:=hZ.le) (hR:=(.inr λw9 h9=>h9.mono (λk hk _=>(ho.lt k hk).1)));have J:=J.mod h5 (by exact(λe=>by have h1:=(ho.lt _ e).1;omega));have O:=O.mod h5 (by exact(λk hk e=>by have h1:=(ho.lt k e).1;have h2:=hκB k hk;omega));have hZ:=hZ.mod h5 (by trivial);have z:=z.own h5 (λi hi=>(Ae hwB (ho.lt i hi).1));have ho:=hf;refine go ?_;obtain⟨q1,q2,q3,q4,q5,q6,q7⟩:=NB Y Fb Fb;have hh:=Y.ml;refine cG (NL κ bs bd bl bo bm vf L D V ts mem dead mid [] 0 _ O Y.sto.nod Y.sto.okh Fb (λc hc=>(q7 c hc).2.2) Fb Fb) RX.mod λya w15 yr xf=>?_;have hsz15:=z.size;refine FV yr J O hZ ho z λJ O hZ ho z=>?_;obtain⟨yk,yj,hq,_,hw,ht⟩:=xf;rw[Oz Y hq hw]at ht;refine go ?_;refine Hf ho (ht.arr Ff) (λva w16 hf xd=>?_) (hB:=hZ.le) (hR:=(.inr λw9 h9=>h9.mono (λk hk _=>(ho.lt k hk).1)));have J:=J.mod xd (by exact(λe=>by have h1:=(ho.lt _ e).1;omega));have O:=O.mod xd (by exact(λk hk e=>by have h1:=(ho.lt k e).1;have h2:=hκB k hk;omega));have z:=z.own xd (λi hi=>(Ae hwB (ho.lt i hi).1));have ho:=hf;refine go ?_;rw[AB,QU (by simpa using c3) c4 M Y.up]at ho;exact⟨va,He,z,J,O,ho.arr Ff⟩
  exact IZ
 rintro _ va w17 ⟨z,J,O,hA⟩;refine F9 (G:=Nat) (λk=>[(1,S frm),(7,Fg pb 0),(9,va),(10,I ↑k)]) (λk w'=>Fp w w'/\Fo w' pb [Fg bd 0,Fg bx 0,Fg bs 0,Fg sb 0] 31/\StE κ bs bd bl bo bm vf L D V ts mem dead w'/\Fs Rw.cs 3 w' va (M.filter (IP frm []))/\k<=(M.filter (IP frm [])).length) (λk=>(M.filter (IP frm [])).length-k) 0 ⟨z,J,O,hA,Ab _⟩ ?_;rintro _ k w18 ⟨z,J,O,hA,hk1⟩;refine FL 48 3 hA.sl ?_;refine Fk (λyb=>?_) λyb=>?_
 ·obtain⟨r,hk⟩:∃r,(M.filter (IP frm []))[k]?=some r:=F8;have xt:=(Av.1 (Ag hk)).1;obtain⟨j9,yg⟩:=List.getElem?_of_mem xt;obtain⟨c8,y0,_,e8⟩:=(Y.told.2 r).1 xt;have xz:=Y.sto.cellsB (by have:=Y.l0.2;omega) c8 y0.1;have hrk:r.key.length<=4096:=by rw[e8];exact xz.1
  refine Gn 1000005100001000 λw19 yh=>FP yh J O hA z λJ O hA z=>?_;refine FK 48 3 hA.sl (hA.lt hk) ?_;refine go ?_;refine dL rfl (λ_ hR=>(((hA.ext hR).row hk).at rfl)) ?_;obtain⟨q1,q2,q3,q4,q5,q6,q7⟩:=NB Y Fb Fb;have hh:=Y.ml;have xb:=Y.sto.getR Fb Y.told r.key;rw[X3u Y.up yg rfl]at xb;have xi:=Q6 O r.key Fb Fb (YM Y) Fb;rw[xb]at xi;refine cP (xi) RX.all λw20 yd=>FP yd J O hA z λJ O hA z=>Gn 100010000100000000000100000000 λw21 y2=>FP y2 J O hA z λJ O hA z=>?_;refine go ?_;refine Il 101 rfl (λxo=>?_) (λxo=>?_)
  ·exact absurd xo F5
  refine FK 48 3 hA.sl (hA.lt hk) ?_;refine go ?_;refine dL rfl (λ_ hR=>(((hA.ext hR).row hk).at rfl)) (dp (Mt rfl rfl) ?_);refine ds1 110 (λxu=>?_) λxu=>?_
  ·exact absurd rfl xu
  refine ds1 113 (λyf=>?_) λyf=>?_
  ·obtain⟨p9,hkp⟩:∃p9,(M.filter (IP frm []))[k-1]?=some p9:=F8;have xa:=Ydn Y.up hkp hk Fb;refine gn ?_;refine F3 (v:=I ↑(k-1)) rfl (Gz rfl rfl (by unfold Fx;omega)) (by show I _=I _;congr 1;omega) (di 48 3 hA.sl rfl (hA.lt hkp) (go ?_));refine dL rfl (λ_ hR=>(((hA.ext hR).row hkp).at rfl)) (FK 48 3 hA.sl (hA.lt hk) ?_);refine go ?_;refine dL rfl (λ_ hR=>(((hA.ext hR).row hk).at rfl)) (dp (MX rfl rfl) ?_);refine FZ (λhz=>?_) λhz=>?_
   ·simp [F0]at xa hz;rw[xa]at hz;exact absurd hz F5
   refine go ?_;exact FJ (k+1) ⟨z,J,O,hA,by omega⟩
  refine go ?_;refine GL rfl (go ?_);exact FJ (k+1) ⟨z,J,O,hA,by omega⟩
 refine go ?_;obtain⟨q1,q2,q3,q4,q5,q6,q7⟩:=NB Y Fb Fb;have hh:=Y.ml;refine cG (NL κ bs bd bl bo bm vf L D V ts mem dead frm [] 0 _ O Y.sto.nod Y.sto.okh Fb (λc hc=>(q7 c hc).2.2) Fb Fb) RX.all λyl w22 y4 xw=>?_;have hsz22:=z.size;refine Fz y4 hA z λhA z=>?_;obtain⟨Lc1,mc1,xm,_,xn,xr⟩:=xw;rw[Oz Y xm xn]at xr;refine cP (Xc _ _ va yl _ hA (xr.arr Ff) Fb Fb) RX.all λw23 yi=>?_;have z:=z.trans yi;refine go ?_;refine Il 136 rfl (λxv=>?_) (λxv=>?_)
 ·refine cP (X9j _ (hgv.ext z)) RX.all λw24 y1=>?_;have z:=z.trans y1;refine go ?_;exact⟨rfl,z⟩
 exact absurd xv F5
end Go.Proofs.YtiooodckiddpmaaGreatDoor
