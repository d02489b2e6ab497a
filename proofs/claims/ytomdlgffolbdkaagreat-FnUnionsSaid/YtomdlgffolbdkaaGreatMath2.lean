/- What those partial functions come to: plain lemmas on data; each bears its conditions in its statement. -/
import Derived.Test.YtomdlgffolbdkaaGreatMath1
set_option linter.unusedVariables false
set_option linter.unusedSimpArgs false
set_option linter.ambiguousOpen false
set_option linter.unusedSectionVars false
set_option linter.unnecessarySimpa false
namespace Go.Proofs.YtomdlgffolbdkaaGreat
open Go Go.E
def q5n (g:Gm_)(s:ByteArray):List At_:=(q6l g s).1.Attributes.filter z8k
theorem z8o {g:Gm_}(h:GOk g)(s:ByteArray):(q5n g s).length≤1048576:=Nat.le_trans (List.length_filter_le _ _) (z2B h s)
theorem j5a {l:List At_}(h:l.length≤1048576):eachL q5G 0 l []=some (l.filter z8k):=by
 have:=z3P (p:=z8k) (g:=fun x:At_=>x) (B:=1048577) (f:=q5G) (fun k x s hs=>by
  have hg:((s.length:Int)+1)*40≤140737488355328∧(s.length:Int)+1≤9223372036854775807:=by constructor<;>omega
  unfold q5G z8k
  rw[q3P hg]
  by_cases m1:x.Mode=1
  ·rw[ifP m1,ifP (by simp[m1])];rfl
  ·rw[ifN m1]
   by_cases m2:x.Mode=2
   ·rw[ifP m2,ifP (by simp[m2])];rfl
   ·rw[ifN m2,ifN (by simp[m1,m2])];rfl) l 0 [] (by simp;omega)
 rw[this];simp
theorem z5J {g:Gm_}(h:GOk g)(s:ByteArray):q5k g s=some (q5n g s):=by
 unfold q5k q5n
 rw[z1A h,bsS]
 try dsimp only
 rw[j5a (z2B h s)];rfl
theorem j0Q {g:Gm_}(h:GOk g)(s:ByteArray):q4v g s=some (q5n g s):=by
 unfold q4v q5n
 rw[z2A,bsS]
 try dsimp only
 rw[j2e,j5a (z2B h s)];rfl
def occK (g:Gm_)(r:Rule)(k:Nat):List Oc:=(q5n g (q8n r (k:Int))).map fun x=>(⟨(k:Int),x.Name⟩:Oc)
def occL (g:Gm_)(r:Rule):List Oc:=(List.range' 0 (r.Right.length+1)).flatMap (occK g r)
theorem j7B {g:Gm_}(h:GOk g)(r:Rule)(k:Nat):(occK g r k).length≤1048576:=by unfold occK;rw[lnM];exact z8o h _
theorem j6w {g:Gm_}(h:GOk g){r:Rule}(hl:ROk r):q4X g r=some (occL g r):=by
 have hl' : r.Right.length≤1048576:=hl
 have key:=z8m (h:=occK g r) (C:=1048576) (n:=r.Right.length+1) (f:=q4r g r) (fun k s hk hs=>by
  unfold q4r
  rw[j0K hl,bsS,j0Q h,bsS,z5D k _ 0 s (by have:=z8o h (q8n r (k:Int));omega)];rfl)
  (fun k _=>j7B h r k) (r.Right.length+1) 0 [] (by omega) (by simp)
 unfold q4X
 rw[q3P (by constructor<;>omega),key];rfl
theorem k0Q {g:Gm_}(h:GOk g){r:Rule}(hl:ROk r):q5D g r=some (occL g r):=by
 have hl' : r.Right.length≤1048576:=hl
 have key:=j0I (h:=occK g r) (C:=1048576) (n:=r.Right.length+1) (f:=q5b g r) (fun k s hk hs=>by
  unfold q5b
  dsimp only
  rw[ifP (by omega),z4s hl,bsS,z5J h,bsS,j7r,z5D k _ 0 s (by have:=z8o h (q8n r (k:Int));omega),bsS,q3P (by constructor<;>omega)];rfl) (fun s=>by
  unfold q5b;dsimp only;rw[ifN (by omega)]) (fun k _=>j7B h r k) (r.Right.length+1) 0 [] (by omega) (by simp)
 unfold q5D
 have e:q5s (q5b g r) (([]:List Oc),0)=some ([]++(List.range' 0 (r.Right.length+1)).flatMap (occK g r)):=key
 rw[e];rfl
theorem j7C {g:Gm_}(h:GOk g){r:Rule}(hl:ROk r):(occL g r).length≤1099512676352:=by
 obtain⟨l,_,h2,h3⟩:=z9p h hl
 rw[j6w h hl] at h2
 cases h2;exact h3
def posL (g:Gm_)(r:Rule)(k:Int):List Int:=(((occL g r).zipIdx 0).filter fun q=>decide (q.1.Pos=k)).map fun q=>(q.2:Int)
theorem j7D (k:Int){l:List Oc}(h:l.length≤1099512676352):eachL (q5H k) 0 l []=some (((l.zipIdx 0).filter fun q=>decide (q.1.Pos=k)).map fun q=>(q.2:Int)):=by
 have:=j0H (p:=fun x:Oc=>decide (x.Pos=k)) (g:=fun i:Nat=>(i:Int)) (B:=4398046511104) (f:=q5H k) (fun i x s hs=>by
  have hg:((s.length:Int)+1)*8≤140737488355328∧(s.length:Int)+1≤9223372036854775807:=by constructor<;>omega
  unfold q5H
  rw[q3P hg]
  by_cases m1:x.Pos=k
  ·rw[ifP m1,ifP (by simp[m1])];rfl
  ·rw[ifN m1,ifN (by simp[m1])];rfl) l 0 [] (by simp;omega)
 rw[this];simp
theorem k4A {g:Gm_}(h:GOk g){r:Rule}(hl:ROk r)(k:Int):q5U g r k=some (posL g r k):=by
 unfold q5U posL
 rw[k0Q h hl,bsS,j7D k (j7C h hl)];rfl
theorem k4B {g:Gm_}(h:GOk g){r:Rule}(hl:ROk r)(k:Int):q4U g r k=some (posL g r k):=by
 unfold q4U posL
 rw[j6w h hl,bsS,z6g,j7D k (j7C h hl)];rfl
theorem j5b {α:Type}(p:α→Bool):∀ (l:List α) (i:Nat),((l.zipIdx i).filter fun q=>p q.1).length=l.countP p
 | [],i=>rfl
 | x::l,i=>by
  rw[List.zipIdx_cons,List.filter_cons,List.countP_cons]
  have ih:=j5b p l (i+1)
  by_cases hp:p x=true
  ·rw[ifP hp,ifP hp,lnC,ih]
  ·rw[ifN hp,ifN hp,ih];rfl
theorem k4C (g:Gm_){r:Rule}{k:Nat}(hk:k≤r.Right.length):(posL g r (k:Int)).length=(q5n g (q8n r (k:Int))).length:=by
 unfold posL
 rw[lnM,j5b (fun x:Oc=>decide (x.Pos=(k:Int)))]
 unfold occL
 rw[List.countP_flatMap]
 have hK:∀ j:Nat,(occK g r j).countP (fun x=>decide (x.Pos=(k:Int)))=if j=k then (q5n g (q8n r (k:Int))).length else 0:=by
  intro j
  unfold occK
  rw[List.countP_map]
  by_cases hj:j=k
  ·subst hj
   rw[ifP rfl,List.countP_eq_length.2 (by simp)]
  ·rw[ifN hj,List.countP_eq_zero.2]
   intro a _
   simp;omega
 have hsum:∀ m i,((List.range' i m).map (List.countP (fun x:Oc=>decide (x.Pos=(k:Int))) ∘ occK g r)).sum=if i≤k∧k<i+m then (q5n g (q8n r (k:Int))).length else 0:=by
  intro m
  induction m with
  | zero=>intro i;rw[ifN (by omega)];rfl
  | succ m ih=>
   intro i
   rw[List.range'_succ,List.map_cons,List.sum_cons,ih (i+1),Function.comp,hK i]
   by_cases h1:i=k
   ·rw[ifP h1,ifN (by omega),ifP (by omega)];rfl
   ·rw[ifN h1,Nat.zero_add]
    by_cases h2:i+1≤k∧k<i+1+m
    ·rw[ifP h2,ifP (by omega)]
    ·rw[ifN h2,ifN (by omega)]
 rw[hsum,ifP (by omega)]
noncomputable def q9b (own:Rl_) (a:Nat) (x:Int):Nat→List Int→Rl_→Rl_
 | _,[],o=>o
 | i,y::ys,o=>q9b own a x (i+1) ys (if hasP own (a:Int) (i:Int) then addP o x y else o)
noncomputable def q9g (own:Rl_) (at' : List Int):Nat→List Int→Rl_→Rl_
 | _,[],o=>o
 | a,x::xs,o=>q9g own at' (a+1) xs (q9b own a x 0 at' o)
theorem z8p (own:Rl_)(a:Nat)(x:Int):∀ (ys:List Int) (i:Nat) (o:Rl_),(q9b own a x i ys o).Rows.length=o.Rows.length∧(q9b own a x i ys o).N=o.N
 | [],i,o=>⟨rfl,rfl⟩
 | y::ys,i,o=>by
  rw[q9b]
  have ih:=z8p own a x ys (i+1) (if hasP own (a:Int) (i:Int) then addP o x y else o)
  by_cases h:hasP own (a:Int) (i:Int)
  ·rw[ifP h] at ih ⊢
   have:=z5V o x y
   exact⟨ih.1.trans this.1,ih.2.trans this.2⟩
  ·rw[ifN h] at ih ⊢;exact ih
theorem j0R (own:Rl_)(at' : List Int):∀ (xs:List Int) (a:Nat) (o:Rl_),(q9g own at' a xs o).Rows.length=o.Rows.length∧(q9g own at' a xs o).N=o.N
 | [],a,o=>⟨rfl,rfl⟩
 | x::xs,a,o=>by
  rw[q9g]
  have ih:=j0R own at' xs (a+1) (q9b own a x 0 at' o)
  have:=z8p own a x at' 0 o
  exact⟨ih.1.trans this.1,ih.2.trans this.2⟩
theorem k0R (own:Rl_)(a:Nat)(x:Int):∀ (ys:List Int) (i:Nat) (o:Rl_),o.Rows.length≤1048576 →
  eachL (z0q own a x) i ys (o.Rows,o.N)=some ((q9b own a x i ys o).Rows,(q9b own a x i ys o).N)∧eachL (z7g own a x) i ys (o.N,o.Rows)=some ((q9b own a x i ys o).N,(q9b own a x i ys o).Rows)
 | [],i,o,_=>⟨rfl,rfl⟩
 | y::ys,i,o,h=>by
  have e1:z0q own a x i y (o.Rows,o.N)=some ((if hasP own (a:Int) (i:Int) then addP o x y else o).Rows,(if hasP own (a:Int) (i:Int) then addP o x y else o).N):=by
   unfold z0q
   dsimp only
   rw[q8K,bsS]
   by_cases hp:hasP own (a:Int) (i:Int)
   ·rw[decide_eq_true hp,ifP rfl,ifP hp,j4O h];rfl
   ·rw[decide_eq_false hp,ifN (by simp),ifN hp];rfl
  have e2:z7g own a x i y (o.N,o.Rows)=some ((if hasP own (a:Int) (i:Int) then addP o x y else o).N,(if hasP own (a:Int) (i:Int) then addP o x y else o).Rows):=by
   unfold z7g
   dsimp only
   rw[z6I,bsS]
   by_cases hp:hasP own (a:Int) (i:Int)
   ·rw[decide_eq_true hp,ifP rfl,ifP hp,j3n,j4O h];rfl
   ·rw[decide_eq_false hp,ifN (by simp),ifN hp];rfl
  have hl:(if hasP own (a:Int) (i:Int) then addP o x y else o).Rows.length≤1048576:=by
   split
   ·rw[(z5V o x y).1];exact h
   ·exact h
  have ih:=k0R own a x ys (i+1) _ hl
  rw[eachL,eachL,e1,e2,bsS,bsS,q9b]
  exact ih
theorem j3u (own:Rl_)(at' : List Int):∀ (xs:List Int) (a:Nat) (o:Rl_),o.Rows.length≤1048576 →
  eachL (z0r own at') a xs (o.Rows,o.N)=some ((q9g own at' a xs o).Rows,(q9g own at' a xs o).N)∧eachL (z7h own at') a xs (o.N,o.Rows)=some ((q9g own at' a xs o).N,(q9g own at' a xs o).Rows)
 | [],a,o,_=>⟨rfl,rfl⟩
 | x::xs,a,o,h=>by
  have h1:=k0R own a x at' 0 o h
  have hl:(q9b own a x 0 at' o).Rows.length≤1048576:=by rw[(z8p own a x at' 0 o).1];exact h
  have ih:=j3u own at' xs (a+1) _ hl
  have e1:z0r own at' a x (o.Rows,o.N)=some ((q9b own a x 0 at' o).Rows,(q9b own a x 0 at' o).N):=by
   unfold z0r;dsimp only;rw[h1.1];rfl
  have e2:z7h own at' a x (o.N,o.Rows)=some ((q9b own a x 0 at' o).N,(q9b own a x 0 at' o).Rows):=by
   unfold z7h;dsimp only;rw[h1.2];rfl
  rw[eachL,eachL,e1,e2,bsS,bsS,q9g]
  exact ih
noncomputable def z4G (g:Gm_) (r:Rule) (o:Rl_) (pos:Int) (own:Rl_):Rl_:=q9g own (posL g r pos) 0 (posL g r pos) o
theorem k0S {g:Gm_}(h:GOk g){r:Rule}(hl:ROk r){o:Rl_}(ho:o.Rows.length≤1048576)(pos:Int)(own:Rl_):z7i g r o pos own=some (z4G g r o pos own):=by
 unfold z7i z4G
 rw[k4B h hl,bsS,(j3u own (posL g r pos) (posL g r pos) 0 o ho).2];rfl
theorem z4t {r:Rule}{k:Nat}{x:ByteArray}(h:r.Right[k]?=some x):q8n r ((k+1:Nat):Int)=x:=by
 have hk:=(List.getElem?_eq_some_iff.1 h).1
 unfold q8n
 rw[ifN (by omega),ifP (by omega),show (((k+1:Nat):Int)-1).toNat=k by omega,List.getD_eq_getElem?_getD,h];rfl
noncomputable def z2G (g:Gm_) (r:Rule):Nat→List Rl_→Rl_→Rl_
 | _,[],o=>o
 | k,own::l,o=>z2G g r (k+1) l (z4G g r o ((k+1:Nat):Int) own)
theorem j8W (g:Gm_)(r:Rule)(o:Rl_)(pos:Int)(own:Rl_):(z4G g r o pos own).Rows.length=o.Rows.length:=(j0R own _ _ 0 o).1
def FitL (g:Gm_)(r:Rule)(list:List Rl_):Prop:=list.length=r.Right.length∧∀ k own,list[k]?=some own→Valid own∧own.N=((q5n g (q8n r ((k+1:Nat):Int))).length:Int)
theorem j5c {g:Gm_}(h:GOk g){r:Rule}(hl:ROk r){list:List Rl_}(hf:FitL g r list):∀ (m k:Nat) (o:Rl_),k+m=list.length→o.Rows.length≤1048576 →
  findL (z0s g r) k (list.drop k) (o.Rows,o.N)=some (.inl ((z2G g r k (list.drop k) o).Rows,(z2G g r k (list.drop k) o).N)) ∧
  findL (z0e g r) k (list.drop k) (o.Rows,o.N)=some (.inl ((z2G g r k (list.drop k) o).Rows,(z2G g r k (list.drop k) o).N))∧(z2G g r k (list.drop k) o).Rows.length=o.Rows.length
 | 0,k,o,hk,_=>by rw[List.drop_eq_nil_of_le (by omega)];exact⟨rfl,rfl,rfl⟩
 | m+1,k,o,hk,ho=>by
  have hk' : k<list.length:=by omega
  rw[List.drop_eq_getElem_cons hk']
  have hv:=hf.2 k list[k] (List.getElem?_eq_getElem hk')
  have hR:k<r.Right.length:=by rw[← hf.1];exact hk'
  have hsym:=z4t (r:=r) (k:=k) (List.getElem?_eq_getElem hR)
  have hpl:=k4C g (r:=r) (k:=k+1) (by omega)
  have e1:z0s g r k list[k] (o.Rows,o.N)=some (.inl ((z4G g r o ((k+1:Nat):Int) list[k]).Rows,(z4G g r o ((k+1:Nat):Int) list[k]).N)):=by
   unfold z0s
   dsimp only
   rw[k4A h hl,bsS,q7y,bsS,decide_eq_true hv.1,ifP rfl,ifP (by rw[hpl];exact hv.2),(j3u list[k] _ _ 0 o ho).1];rfl
  have e2:z0e g r k list[k] (o.Rows,o.N)=some (.inl ((z4G g r o ((k+1:Nat):Int) list[k]).Rows,(z4G g r o ((k+1:Nat):Int) list[k]).N)):=by
   unfold z0e
   dsimp only
   rw[List.getElem?_eq_getElem hR,bsS,j0Q h,bsS,ifP (by rw[← hsym];exact hv.2),k0S h hl ho];rfl
  have hlen:=j8W g r o ((k+1:Nat):Int) list[k]
  have ih:=j5c h hl hf m (k+1) (z4G g r o ((k+1:Nat):Int) list[k]) (by omega) (by rw[hlen];exact ho)
  rw[findL,findL,e1,e2,bsS,bsS,z2G]
  exact⟨ih.1,ih.2.1,ih.2.2.trans hlen⟩
noncomputable def locR (g:Gm_) (r:Rule):Rl_:=(q6v g r).getD ⟨0,[]⟩
theorem k5p {g:Gm_}{r:Rule}(h:Sz.szd g≤1048576)(hr:Sz.szd r≤1048576):q6v g r=some (locR g r)∧q7j g r=some (locR g r)∧(locR g r).Rows.length≤16:=by
 obtain⟨x,h1,h2,h3⟩:=j8O h hr
 unfold locR
 rw[h1,h2];exact⟨rfl,rfl,h3⟩
noncomputable def q8Z (g:Gm_) (r:Rule) (list:List Rl_):Rl_:=if 16<(occL g r).length then ⟨0,[]⟩ else q7c (z2G g r 0 list (locR g r))
theorem z6L {g:Gm_}{r:Rule}(h:Sz.szd g≤1048576)(hr:Sz.szd r≤1048576){list:List Rl_}(hf:FitL g r list):q6J g r list=some (q8Z g r list)∧q9p g r list=some (q8Z g r list)∧(q8Z g r list).Rows.length≤16:=by
 have hg:=z0A h
 have hl:=q7C hr
 obtain⟨l1,l2,l3⟩:=k5p h hr
 have hn:(list.length:Int)=(r.Right.length:Int):=by rw[hf.1]
 unfold q6J q9p
 rw[k0Q hg hl,j6w hg hl]
 simp only[bsS]
 rw[ifP hn,ifP hn]
 simp only[bsS]
 by_cases h16:16<(occL g r).length
 ·have hi:(16:Int)<((occL g r).length:Int):=by omega
  have hc:q8Z g r list=⟨0,[]⟩:=ifP h16
  rw[hc,decide_eq_true hi,ifP rfl,ifP hi]
  exact⟨rfl,rfl,by simp⟩
 ·have hi:¬ (16:Int)<((occL g r).length:Int):=by omega
  have hc:q8Z g r list=q7c (z2G g r 0 list (locR g r)):=ifN h16
  rw[hc,decide_eq_false hi,ifN (by simp),ifN hi,l1,l2,bsS,bsS]
  have key:=j5c hg hl hf list.length 0 (locR g r) (by omega) (by omega)
  rw[List.drop_zero] at key
  have hlen:(z2G g r 0 list (locR g r)).Rows.length≤16:=by rw[key.2.2];exact l3
  rw[key.1,key.2.1,bsS,bsS,z2c,z2c]
  dsimp only
  rw[j4P (r:=⟨(z2G g r 0 list (locR g r)).N,(z2G g r 0 list (locR g r)).Rows⟩) (by show (z2G g r 0 list (locR g r)).Rows.length≤_;omega),j4Q (r:=⟨(z2G g r 0 list (locR g r)).N,(z2G g r 0 list (locR g r)).Rows⟩) (by show (z2G g r 0 list (locR g r)).Rows.length≤_;omega)]
  exact⟨rfl,rfl,by rw[(z5W _).1];exact hlen⟩
section
variable {α β ρ σ:Type}{Q:β→Prop}{b:List UInt8}
theorem Ok.bif {c:Prop}[Decidable c]{A B:Option α}{k:α→Option β}(h1:c→Ok Q (A.bind k))(h2:¬ c→Ok Q (B.bind k)):Ok Q ((if c then A else B).bind k):=by
 by_cases hc:c
 ·rw[ifP hc];exact h1 hc
 ·rw[ifN hc];exact h2 hc
theorem Ok.bso {x:α}{k:α→Option β}(h:Ok Q (k x)):Ok Q ((some x).bind k):=h
theorem Ok.bbi {γ:Type}{A:Option α}{B:α→Option γ}{k:γ→Option β}(h:Ok Q (A.bind fun x=>(B x).bind k)):Ok Q ((A.bind B).bind k):=by
 rw[Option.bind_assoc];exact h
theorem Ok.bgr {c:Prop}[Decidable c]{A:Option α}{k:α→Option β}(hc:c)(h:Ok Q (A.bind k)):Ok Q ((Go.E.grd c A).bind k):=by rw[q3P hc];exact h
theorem Ok.get {l:List α}{j:Nat}{k:α→Option β}(hj:j<l.length)(h:∀ x,x∈l→Ok Q (k x)):Ok Q ((l[j]?).bind k):=by
 obtain⟨x,hx⟩:∃ x,l[j]?=some x:=⟨_,List.getElem?_eq_getElem hj⟩
 rw[hx];exact h x (List.mem_of_getElem? hx)
theorem Ok.eq {A:Option α}{x:α}{k:α→Option β}(hA:A=some x)(h:Ok Q (k x)):Ok Q (A.bind k):=by rw[hA];exact h
theorem drK {P:α→Prop}{o:Option (α×l1Cur)}(ho:Dr b P o){k:α×l1Cur→Option β}(hk:∀ y i' h',P y→0≤i'→Ok Q (k (y,⟨b,i',h'⟩))):Ok Q (o.bind k):=by
 obtain⟨⟨y,z⟩,rfl,hy,hz,he⟩:=ho
 obtain⟨zb,zi,zh⟩:=z
 dsimp only at he hz hy
 subst he
 exact hk y zi zh hy hz
theorem cb {i h:Int}(hi:0≤i):CB b ⟨b,i,h⟩:=⟨hi,rfl⟩
theorem Dr.re {P:α→Prop}{y:α}{i h:Int}(hy:P y)(hi:0≤i):Dr b P (some (y,(⟨b,i,h⟩:l1Cur))):=⟨_,rfl,hy,hi,rfl⟩
theorem j3v {P:σ→Prop}{Q:ρ→Prop}{f:σ→Option (σ ⊕ ρ)}(μ:σ→Nat)(hf:∀ s,P s→Ok (fun z=>match z with|.inl s'=>P s'∧μ s'<μ s|.inr r=>Q r) (f s)):∀ s,P s→Ok Q (q5s f s):=by
 have key:∀ n s,μ s<n→P s→Ok Q (q5s f s):=by
  intro n
  induction n with
  | zero=>intro s h;omega
  | succ n ih=>
   intro s h hp
   obtain⟨z,hz,hq⟩:=hf s hp
   cases z with
   | inl s'=>rw[q4G hz];exact ih s' (by have:=hq.2;omega) hq.1
   | inr r=>exact⟨r,q3U hz,hq⟩
 exact fun s hs=>key _ s (Nat.lt_succ_self _) hs
end
theorem j6x {α β:Type}{Q:β→Prop}(P:Nat→List α→Prop){f:Nat→Int×Int×List α→Option (Int×Int×List α)}{k:Int×Int×List α→Option β}{n:Nat}{i h:Int}{l:List α}(hi:0≤i)(h0:P 0 l)
  (hf:∀ j l i h,j<n→0≤i→P j l→Ok (fun s:Int×Int×List α=>0≤s.1∧P (j+1) s.2.2) (f j (i,h,l))) (hk:∀ l i h,0≤i→P n l→Ok Q (k (i,h,l))):Ok Q ((eachN f 0 n (i,h,l)).bind k):=by
 obtain⟨s,e,h1⟩:=j3l (P:=fun k (s:Int×Int×List α)=>0≤s.1∧P k s.2.2) (f:=f) (n:=n) (i:=0) (s:=(i,h,l)) ⟨hi,h0⟩ fun j s _ hj hs=>hf j _ _ _ (by omega) hs.1 hs.2
 rw[e]
 rw[Nat.zero_add] at h1
 exact hk _ _ _ h1.1 h1.2
theorem k4D {γ α β:Type}{Q:β→Prop}(P:Nat→List α→Prop){f:Nat→γ→Int×Int×List α→Option (Int×Int×List α)}{k:Int×Int×List α→Option β}{xs:List γ}{i h:Int}{l:List α}(hi:0≤i)(h0:P 0 l)
  (hf:∀ j x l i h,x∈xs→j<xs.length→0≤i→P j l→Ok (fun s:Int×Int×List α=>0≤s.1∧P (j+1) s.2.2) (f j x (i,h,l))) (hk:∀ l i h,0≤i→P xs.length l→Ok Q (k (i,h,l))):Ok Q ((eachL f 0 xs (i,h,l)).bind k):=by
 obtain⟨s,e,h1⟩:=j3m (P:=fun k (s:Int×Int×List α)=>0≤s.1∧P k s.2.2) (f:=f) (xs:=xs) (i:=0) (s:=(i,h,l)) ⟨hi,h0⟩ fun j x s hx _ hj hs=>hf j x _ _ _ hx (by omega) hs.1 hs.2
 rw[e]
 rw[Nat.zero_add] at h1
 exact hk _ _ _ h1.1 h1.2
def SB (s:Symbol):Prop:=s.Name.size≤8∧1≤s.Attributes.length∧s.Attributes.length≤5∧∀ a∈s.Attributes,a.Name.size≤8
def RB (r:Rule):Prop:=r.Name.size≤8∧r.Left.size≤8∧r.Right.length≤5∧(∀ x∈r.Right,x.size≤8)
def SBs (l:List Symbol):Prop:=1≤l.length∧l.length≤3∧∀ s∈l,SB s
theorem j5d {α:Type}[Sz α]{m:Nat}:∀ {l:List α},(∀ x∈l,Sz.szd x≤m)→szL l≤l.length*(m+1)
 | [],_=>by simp[szL]
 | x::l,h=>by
  have h1:=j5d (m:=m) (l:=l) fun y hy=>h y (by simp[hy])
  have h2:=h x (by simp)
  simp only[szL,lnC,Nat.add_mul];omega
theorem RB.rok {r:Rule}(h:RB r):ROk r:=by have:=h.2.2.1;show r.Right.length≤1048576;omega
section
variable {b:List UInt8}(hb:b.length≤1048576)
include hb
theorem k5q {x:ByteArray}(h:x∈[(⟨#[97]⟩:ByteArray),(⟨#[98]⟩:ByteArray),(⟨#[99]⟩:ByteArray),(⟨#[100]⟩:ByteArray)]):x.size≤8:=by
 simp only[List.mem_cons,List.not_mem_nil,or_false] at h
 rcases h with h|h|h|h<;>rw[h]<;>decide
theorem k3n {nm:ByteArray}(hn:nm.size≤8)(a2 a3:Bool){i h:Int}(hi:0≤i):Dr b SB (z3o nm a2 a3 ⟨b,i,h⟩):=by
 unfold z3o
 refine drK (q4E hb 4 ⟨hi,rfl⟩) fun y i1 h1 hy hi1=>?_
 have h4:=hy.2.1 (by omega)
 refine .grd (by constructor<;>omega) ?_
 refine j6x (fun k l=>l.length=k∧∀ a∈l,a.Name.size≤8) hi1 ⟨rfl,by simp⟩ (fun k s1 s2 s3 hk hs1 hs=>?_) fun s1 i2 h2 p1 hs=>?_
 ·obtain⟨hs2,hs3⟩:=hs
  unfold j1L
  dsimp only
  refine .bbi (.get (by simp;omega) fun x1 hx1=>?_)
  have hx1:=k5q hb hx1
  have fin:∀ (t m:Int) (i' h' : Int),0≤i'→Ok (fun s:Int×Int×List At_=>0≤s.1∧(s.2.2.length=k+1∧∀ a∈s.2.2,a.Name.size≤8)) (some (i',h',s1++[(⟨x1,t,m,false⟩:At_)])):=fun t m i' h' hi'=>by
   refine .ret ⟨hi',by simp[hs2],fun a ha=>?_⟩
   simp only[List.mem_append,List.mem_cons,List.not_mem_nil,or_false] at ha
   rcases ha with ha|ha
   ·exact hs3 a ha
   ·rw[ha];exact hx1
  refine .bbi (drK (q9I hb (by simp) ⟨hs1,rfl⟩) fun t i2 h2 _ hi2=>?_)
  refine .bbi (drK (q9I hb (by simp) ⟨hi2,rfl⟩) fun m i3 h3 _ hi3=>?_)
  cases a2<;>cases a3<;>dsimp only
  all_goals
   repeat' first
    | ((with_reducible refine .bso ?_);try dsimp only)
    | (with_reducible exact fin _ _ _ _ (by assumption))
    | ((with_reducible refine .bbi ?_);try dsimp only)
    | (with_reducible refine .bif (fun _=>?_) fun _=>?_)
    | (with_reducible refine .ite (fun _=>?_) fun _=>?_)
    | ((with_reducible refine drK (q9e hb _ (cb (by assumption))) fun _ _ _ _ _=>?_);try dsimp only)
    | ((with_reducible refine drK (q9I hb (by simp) (cb (by assumption))) fun _ _ _ _ _=>?_);try dsimp only)
    | ((with_reducible refine drK (q4E hb _ (cb (by assumption))) fun _ _ _ _ _=>?_);try dsimp only)
    | (refine .bgr (by constructor<;>omega) ?_)
    | (refine .grd (by constructor<;>omega) ?_)
 ·obtain⟨p2,p3⟩:=hs
  dsimp only
  exact Dr.re ⟨hn,by dsimp only;omega,by dsimp only;omega,p3⟩ p1
end
theorem j3w {g:Gm_}(h:SBs g.Symbols)(nm:ByteArray):(q6l g nm).1.Attributes.length≤5∧∀ a∈(q6l g nm).1.Attributes,a.Name.size≤8:=by
 unfold q6l
 split
 ·rename_i y hy
  have:=h.2.2 y (List.mem_of_find?_eq_some hy)
  exact⟨this.2.2.1,this.2.2.2⟩
 ·exact⟨by simp[zS],by simp[zS]⟩
theorem k2C {y:Symbol}(h:∀ a∈y.Attributes,a.Name.size≤8)(nm:ByteArray):q5B y nm=some (z2z y nm):=by
 unfold q5B z2z
 rw[z1b (p:=fun a=>decide (a.Name=nm)) (r:=fun a=>(a,true)) fun k x _=>⟨fun hp=>by unfold z0G;rw[ifP (by simpa using hp)],fun hp=>by unfold z0G;rw[ifN (by simpa using hp)]⟩]
 cases y.Attributes.find? fun a=>decide (a.Name=nm)<;>rfl
theorem SBs.g {g:Gm_}(h:SBs g.Symbols):GOk g:=fun y hy=>by have:=(h.2.2 y hy).2.2.1;omega
theorem k2D {g:Gm_}(hs:SBs g.Symbols){r:Rule}(hr:r.Right.length≤5)(k:Int):Ok (fun q=>∀ o∈q,o.Name.size≤8) (z1g g r k):=by
 unfold z1g
 refine Ok.bind (Q:=fun q=>∀ o∈q,o.Name.size≤8) (j3v (P:=fun s:List Oc×Int=>0≤s.2∧s.2≤r.Right.length+1∧(s.1.length:Int)≤5*s.2∧∀ o∈s.1,o.Name.size≤8) (fun s=>(r.Right.length+1-s.2).toNat) ?_ _ ⟨by simp,by simp;omega,by simp,by simp⟩) fun q hq=>.ret hq
 rintro⟨q,p⟩ ⟨h1,h2,h3,h4⟩
 dsimp only at h1 h2 h3 h4
 unfold j4p
 dsimp only
 refine .ite (fun hp=>?_) fun _=>.ret h4
 refine .eq (z4s (show r.Right.length≤1048576 by omega) p) ?_
 refine .eq (z1A hs.g _) ?_
 have hff:=j3w hs (q8n r p)
 generalize q6l g (q8n r p)=fs at hff
 obtain⟨y,yb⟩:=fs
 obtain⟨f1,f2⟩:=hff
 dsimp only at f1 f2 ⊢
 refine Ok.bind (Q:=fun q'=>q'.length≤q.length+5∧∀ o∈q',o.Name.size≤8) ((j3m (P:=fun k q'=>q'.length≤q.length+k∧∀ o∈q',o.Name.size≤8) (i:=0) ⟨by omega,h4⟩ ?_).mono fun q' hq=>⟨by omega,hq.2⟩) fun q' hq=>.grd (by constructor<;>omega) (.ret ⟨⟨by dsimp only;omega,by dsimp only;omega,by dsimp only;omega,hq.2⟩,by dsimp only;omega⟩)
 intro j a l ha _ hj hl
 have hl1:=hl.1
 have hl2:=hl.2
 have ha:=f2 a ha
 unfold j4o
 dsimp only
 have e1:Ok (fun q' : List Oc=>q'.length≤q.length+(j+1)∧∀ o∈q',o.Name.size≤8) (some l):=.ret ⟨by omega,hl2⟩
 have e2:Ok (fun q' : List Oc=>q'.length≤q.length+(j+1)∧∀ o∈q',o.Name.size≤8) (some (l++[(⟨p,a.Name⟩:Oc)])):=.ret ⟨by simp;omega,fun o ho=>by
  simp only[List.mem_append,List.mem_cons,List.not_mem_nil,or_false] at ho
  rcases ho with ho|ho
  ·exact hl2 o ho
  ·rw[ho];exact ha⟩
 have hb:([]:List UInt8).length≤1048576:=by simp
 repeat' first
  | ((with_reducible refine .bso ?_);try dsimp only)
  | (with_reducible exact e1)
  | (with_reducible exact e2)
  | ((with_reducible refine .bbi ?_);try dsimp only)
  | (with_reducible refine .bif (fun _=>?_) fun _=>?_)
  | (with_reducible refine .ite (fun _=>?_) fun _=>?_)
  | ((with_reducible refine drK (q9e hb _ (cb (by assumption))) fun _ _ _ _ _=>?_);try dsimp only)
  | ((with_reducible refine drK (q9I hb (by simp) (cb (by assumption))) fun _ _ _ _ _=>?_);try dsimp only)
  | ((with_reducible refine drK (q4E hb _ (cb (by assumption))) fun _ _ _ _ _=>?_);try dsimp only)
  | (refine .bgr (by constructor<;>omega) ?_)
  | (refine .grd (by constructor<;>omega) ?_)
theorem k5O (a:Int):Ok (fun _=>True) (q4S a):=by
 unfold q4S
 rw[q8Y,bsS,q8Y,bsS]
 repeat' first
  | exact .ret trivial
  | refine .ite (fun _=>?_) fun _=>?_
theorem k5P (a:Int)(x y:Expr):z2f a x y=some (⟨4,a,0,0,(⟨#[]⟩:ByteArray),(⟨#[]⟩:ByteArray),[x,y]⟩:Expr):=rfl
theorem k4E (g:Gm_)(r:Rule)(rem:Bool):∀ (m n1 n2:Nat),m<n1→m<n2→∀ (k d:Int) (o:l1Cur),d≤m+1→q6d n1 g r k d rem o=q6d n2 g r k d rem o:=by
 intro m
 induction m with
 | zero=>
  intro n1 n2 h1 h2 k d o hd
  obtain⟨n1,rfl⟩:∃ q,n1=q+1:=⟨n1-1,by omega⟩
  obtain⟨n2,rfl⟩:∃ q,n2=q+1:=⟨n2-1,by omega⟩
  show q6L (q6d n1) g r k d rem o=q6L (q6d n2) g r k d rem o
  unfold q6L
  simp only[ifP (show d<2 by omega),bsS,if_true]
 | succ m ih=>
  intro n1 n2 h1 h2 k d o hd
  obtain⟨n1,rfl⟩:∃ q,n1=q+1:=⟨n1-1,by omega⟩
  obtain⟨n2,rfl⟩:∃ q,n2=q+1:=⟨n2-1,by omega⟩
  show q6L (q6d n1) g r k d rem o=q6L (q6d n2) g r k d rem o
  have h:∀ k o,q6d n1 g r k (d-1) rem o=q6d n2 g r k (d-1) rem o:=fun k o=>ih n1 n2 (by omega) (by omega) k (d-1) o (by omega)
  unfold q6L
  simp only[h]
section
variable {b:List UInt8}(hb:b.length≤1048576)
include hb
theorem k2E {g:Gm_}(hs:SBs g.Symbols){r:Rule}(hr:r.Right.length≤5)(rem:Bool):∀ (m n:Nat),m<n→∀ (k d i h:Int),d≤m+1→-1000+m≤d→d≤1000→0≤i→Dr b (fun e=>Sz.szd e≤fb m) (q6d n g r k d rem ⟨b,i,h⟩):=by
 intro m
 induction m with
 | zero=>
  intro n hn k d i h hd hd0 hd1 hi
  obtain⟨n,rfl⟩:∃ q,n=q+1:=⟨n-1,by omega⟩
  show Dr b _ (q6L (q6d n) g r k d rem ⟨b,i,h⟩)
  unfold q6L
  rw[ifP (show d<2 by omega)]
  dsimp only
  rw[bsS]
  dsimp only
  rw[ifP rfl]
  unfold Dr
  have hf:=j2d hb 0
  repeat' first
   | ((with_reducible refine .bso ?_);try dsimp only)
   | ((with_reducible refine .bind (k2D hs hr _) fun _ _=>?_))
   | ((with_reducible refine drK (z8g hb _ (by assumption) (cb (by assumption))) fun _ _ _ _ _=>?_);try dsimp only)
   | ((with_reducible refine .bbi ?_);try dsimp only)
   | (with_reducible refine .bif (fun _=>?_) fun _=>?_)
   | (with_reducible refine .ite (fun _=>?_) fun _=>?_)
   | ((with_reducible refine drK (q9e hb _ (cb (by assumption))) fun _ _ _ _ _=>?_);try dsimp only)
   | ((with_reducible refine drK (q9I hb (by simp) (cb (by assumption))) fun _ _ _ _ _=>?_);try dsimp only)
   | ((with_reducible refine drK (q4E hb _ (cb (by assumption))) fun _ _ _ _ _=>?_);try dsimp only)
   | (refine .bgr (by constructor<;>omega) ?_)
   | (refine .grd (by constructor<;>omega) ?_)
  all_goals refine⟨_,rfl,?_,by assumption,rfl⟩
  all_goals dsimp only
  all_goals first
   | (rw[j2c hb,z1P hb];omega)
   | omega
 | succ m ih=>
  intro n hn k d i h hd hd0 hd1 hi
  obtain⟨n,rfl⟩:∃ q,n=q+1:=⟨n-1,by omega⟩
  have hr1:∀ k i h,0≤i→Dr b (fun e=>Sz.szd e≤fb m) (q6d n g r k (d-1) rem ⟨b,i,h⟩):=fun k i h hi=>ih n (by omega) k (d-1) i h (by omega) (by omega) (by omega) hi
  show Dr b _ (q6L (q6d n) g r k d rem ⟨b,i,h⟩)
  unfold q6L Dr
  dsimp only
  have hl:=hs.1
  have hf:=j2d hb m
  have hg:=k0g hb m
  have hid:I64 (d-1):=by constructor<;>omega
  repeat' first
   | ((with_reducible refine .bso ?_);try dsimp only)
   | ((with_reducible refine .bind (k2D hs hr _) fun _ _=>?_))
   | ((with_reducible refine drK (z8g hb _ (by assumption) (cb (by assumption))) fun _ _ _ _ _=>?_);try dsimp only)
   | ((with_reducible refine drK (hr1 _ _ _ (by assumption)) fun _ _ _ _ _=>?_);try dsimp only)
   | ((with_reducible refine .bind (k5O _) fun _ _=>?_);try dsimp only)
   | ((with_reducible refine .eq (k5P _ _ _) ?_);try dsimp only)
   | ((with_reducible refine .grd hid ?_))
   | ((with_reducible refine .grd (by omega) ?_))
   | ((with_reducible refine .get (l:=g.Symbols) (by omega) fun x hx=>?_);obtain⟨_,_,_,hat⟩:=hs.2.2 x hx)
   | ((with_reducible refine .get (by omega) fun x hx=>?_);have hxn:=hat x hx)
   | ((with_reducible refine .bbi ?_);try dsimp only)
   | (with_reducible refine .bif (fun _=>?_) fun _=>?_)
   | (with_reducible refine .ite (fun _=>?_) fun _=>?_)
   | ((with_reducible refine drK (q9e hb _ (cb (by assumption))) fun _ _ _ _ _=>?_);try dsimp only)
   | ((with_reducible refine drK (q9I hb (by simp) (cb (by assumption))) fun _ _ _ _ _=>?_);try dsimp only)
   | ((with_reducible refine drK (q4E hb _ (cb (by assumption))) fun _ _ _ _ _=>?_);try dsimp only)
   | (refine .bgr (by constructor<;>omega) ?_)
   | (refine .grd (by constructor<;>omega) ?_)
  all_goals refine⟨_,rfl,?_,by assumption,rfl⟩
  all_goals dsimp only at *
  all_goals first
   | (rw[j2c hb,z1P hb];omega)
   | (rw[k3h hb];omega)
   | (rw[k0f hb,z1P hb];omega)
   | (rw[j7m hb,z1P hb];omega)
   | omega
theorem k4F {g:Gm_}(hs:SBs g.Symbols){r:Rule}(hr:r.Right.length≤5)(rem:Bool)(k d i h:Int)(h0:0≤d)(h3:d≤3)(hi:0≤i):Dr b (fun e=>Sz.szd e≤320) (z7Q g r k d rem ⟨b,i,h⟩):=
 k0e (N:=3) (fun n hn=>k4E g r rem 2 (n+1) n (by omega) (by omega) k d _ (by omega)) (k2E hb hs hr rem 2 3 (by omega) k d i h (by omega) (by omega) (by omega) hi)
end
theorem j7E {α β:Type}{f:α→List β}{C:Nat}(h:∀ x,(f x).length≤C):∀ l:List α,(l.flatMap f).length≤l.length*C
 | []=>by simp
 | x::l=>by
  have h1:=j7E h l
  have h2:=h x
  simp only[List.flatMap_cons,List.length_append,lnC,Nat.add_mul];omega
theorem k0T {g:Gm_}(hs:SBs g.Symbols)(r:Rule)(k:Nat):(reqK g r k).length≤5∧∀ o∈reqK g r k,o.Name.size≤8:=by
 obtain⟨f1,f2⟩:=j3w hs (q8n r (k:Int))
 unfold reqK
 refine⟨by rw[lnM];exact Nat.le_trans (List.length_filter_le _ _) f1,fun o ho=>?_⟩
 obtain⟨a,ha,rfl⟩:=List.mem_map.1 ho
 exact f2 a (List.mem_filter.1 ha).1
theorem k4G {g:Gm_}(hs:SBs g.Symbols){r:Rule}(hr:r.Right.length≤5):(reqL g r).length≤30∧∀ o∈reqL g r,o.Name.size≤8:=by
 unfold reqL
 refine⟨?_,fun o ho=>?_⟩
 ·have:=j7E (C:=5) (fun k=>(k0T hs r k).1) (List.range' 0 (r.Right.length+1))
  rw[List.length_range'] at this
  omega
 ·obtain⟨k,_,hk⟩:=List.mem_flatMap.1 ho
  exact (k0T hs r k).2 o hk
theorem z7E {α:Type}[Sz α](l:List α)(x:α):szL (l++[x])=szL l+(1+Sz.szd x):=by rw[z7K];rfl
theorem j5e (o:Oc)(e:Expr):Sz.szd (⟨o,e⟩:Eqn)=o.Name.size+Sz.szd e:=by rw[z8G,q6o];dsimp only;omega
theorem k3o (s m:ByteArray)(e f:Expr):Sz.szd (⟨s,m,e,f⟩:Cn)=s.size+m.size+Sz.szd e+Sz.szd f:=by rw[z4D,q6o,q6o];dsimp only;omega
section
variable {b:List UInt8}(hb:b.length≤1048576)
include hb
theorem k4H {g:Gm_}(hs:SBs g.Symbols){r:Rule}(hr:RB r)(he:r.Equations=[])(rem:Bool){i h:Int}(hi:0≤i):Dr b (fun q=>RB q∧(szL q.Equations≤12000∧q.Equations.length≤30)∧q.Contributions=r.Contributions) (z3q g r rem ⟨b,i,h⟩):=by
 have h5:=hr.2.2.1
 obtain⟨q1,q2⟩:=k4G hs h5
 unfold z3q
 refine .eq (j6l hs.g hr.rok) ?_
 refine k4D (fun j (l:List Eqn)=>l.length=j∧szL l≤j*400) hi (by rw[he];exact⟨rfl,by simp[szL]⟩) (fun j x l i h hx hj hi hl=>?_) fun l i h hi hl=>?_
 ·obtain⟨hl1,hl2⟩:=hl
  have hx:=q2 x hx
  have fin:∀ (e:Expr) (i' h' : Int),Sz.szd e≤320→0≤i'→Ok (fun s:Int×Int×List Eqn=>0≤s.1∧(s.2.2.length=j+1∧szL s.2.2≤(j+1)*400)) (some (i',h',l++[(⟨x,e⟩:Eqn)])):=fun e i' h' h1 hi'=>.ret ⟨hi',by simp[hl1],by dsimp only;rw[z7E,j5e];omega⟩
  unfold z9T
  dsimp only
  refine .bbi (.eq (z4s (show r.Right.length≤1048576 by omega) _) ?_)
  refine .bbi (.eq (z1A hs.g _) ?_)
  have hff:=j3w hs (q8n r x.Pos)
  generalize q6l g (q8n r x.Pos)=fs at hff
  obtain⟨y,yb⟩:=fs
  obtain⟨f1,f2⟩:=hff
  dsimp only at f1 f2 ⊢
  refine .bbi (.eq (k2C f2 _) ?_)
  generalize z2z y x.Name=fa
  obtain⟨a,ab⟩:=fa
  dsimp only
  refine .bbi (drK (q4E hb 3 (cb hi)) fun d i1 h1 hd hi1=>?_)
  have hd3:=hd.2.1 (by omega)
  refine .bgr (by constructor<;>omega) ?_
  refine .bbi (drK (k4F hb hs (r:=⟨r.Name,r.Left,r.Right,r.Literal,l,r.Contributions⟩) h5 rem _ _ _ _ (by omega) (by omega) hi1) fun e i2 h2 he2 hi2=>?_)
  dsimp only at he2 ⊢
  refine .bbi (.eq (z7z (by have:=k0i hb he2;omega)) ?_)
  refine .bif (fun _=>?_) fun _=>?_
  ·refine .bgr (by constructor<;>omega) ?_
   exact fin _ _ _ he2 hi2
  ·refine .bbi (drK (z8g hb _ (by simp) (cb hi2)) fun e3 i3 h3 he3 hi3=>?_)
   refine .bgr (by constructor<;>omega) ?_
   exact fin _ _ _ (by show Sz.szd e3≤320;have:Sz.szd e3≤8:=he3;omega) hi3
 ·exact⟨_,rfl,⟨hr,⟨by have:=hl.2;dsimp only;omega,by have:=hl.1;dsimp only;omega⟩,rfl⟩,hi,rfl⟩
theorem k5r {g:Gm_}(hs:SBs g.Symbols){r:Rule}(hr:RB r)(hc:r.Contributions=[]){i h:Int}(hi:0≤i):Dr b (fun q=>RB q∧q.Equations=r.Equations∧szL q.Contributions≤200) (z4V g r ⟨b,i,h⟩):=by
 have h5:=hr.2.2.1
 unfold z4V
 refine k4D (fun _ (l:List Cn)=>l.length≤2∧szL l≤l.length*40) hi (by rw[hc];simp[szL]) (fun j x l i h hx hj hi hl=>?_) fun l i h hi hl=>?_
 ·obtain⟨s1,_,_,s2⟩:=hs.2.2 x hx
  unfold j1N
  dsimp only
  refine k4D (fun _ (l:List Cn)=>l.length≤2∧szL l≤l.length*40) hi hl (fun j2 a l i h ha hj hi hl=>?_) fun l i h hi hl=>.ret ⟨hi,hl⟩
  have ha:=s2 a ha
  unfold j1M
  dsimp only
  refine .bbi ?_
  refine .bif (fun _=>.bso ?_) fun _=>.bso ?_
  ·refine .bbi ?_
   refine .bif (fun h2=>?_) fun _=>.bso ?_
   ·have hl2:l.length<2:=by have:=of_decide_eq_true h2;omega
    refine .bbi (drK (q9e hb _ (cb hi)) fun y i1 h1 _ hi1=>?_)
    refine .bso ?_
    dsimp only
    refine .bif (fun _=>?_) fun _=>.bso ?_
    ·refine .bbi (.bind (k2D hs (r:=⟨r.Name,r.Left,r.Right,r.Literal,r.Equations,l⟩) h5 _) fun q hq=>?_)
     refine .bbi (drK (z8g hb _ hq (cb hi1)) fun e i2 h2 he hi2=>?_)
     refine .bbi (.bind (k2D hs (r:=⟨r.Name,r.Left,r.Right,r.Literal,r.Equations,l⟩) h5 _) fun q3 hq3=>?_)
     refine .bbi (drK (z8g hb _ hq3 (cb hi2)) fun e3 i3 h3 he3 hi3=>?_)
     refine .bgr (by constructor<;>omega) ?_
     refine .bso (.ret ⟨hi3,by dsimp only;simp;omega,?_⟩)
     dsimp only at he he3 ⊢
     rw[z7E,k3o,List.length_append,List.length_singleton]
     have:=hl.2
     omega
    ·exact .ret ⟨hi1,hl⟩
   ·dsimp only
    refine .bif (fun h=>by cases h) fun _=>.bso (.ret ⟨hi,hl⟩)
  ·refine .bbi ?_
   refine .bif (fun h=>by cases h) fun _=>.bso ?_
   dsimp only
   refine .bif (fun h=>by cases h) fun _=>.bso (.ret ⟨hi,hl⟩)
 ·refine⟨_,rfl,⟨hr,rfl,?_⟩,hi,rfl⟩
  have:=hl.1
  have:=hl.2
  dsimp only
  have h80:l.length*40≤80:=by omega
  omega
end
theorem k5s {k:Nat}(hk:k<2):Ok (fun x=>x.size≤1) (q9D (k:Int)):=by
 have:k=0∨k=1:=by omega
 rcases this with rfl|rfl
 ·exact⟨⟨#[48]⟩,by unfold q9D;rfl,by decide⟩
 ·refine⟨⟨#[49]⟩,?_,by decide⟩
  unfold q9D
  rw[ifN (by decide)]
  have h1:z1J (((1:Nat):Int),(⟨#[]⟩:ByteArray))=some (.inl (0,⟨#[49]⟩)):=by
   unfold z1J
   dsimp only
   rw[ifN (by decide),ifN (by decide),q3P (by constructor<;>decide),q3P (by decide),q3P (by constructor<;>decide)]
   rfl
  have h2:z1J (0,(⟨#[49]⟩:ByteArray))=some (.inr ⟨#[49]⟩):=rfl
  rw[q4G h1,q3U h2]
  rfl
def R0 (r:Rule):Prop:=RB r∧r.Equations=[]∧r.Contributions=[]
def R1 (r:Rule):Prop:=RB r∧(szL r.Equations≤12000∧r.Equations.length≤30)∧szL r.Contributions≤200
theorem R0.r1 {r:Rule}(h:R0 r):R1 r:=⟨h.1,⟨by rw[h.2.1];simp[szL],by rw[h.2.1];simp⟩,by rw[h.2.2];simp[szL]⟩
def GB (g:Gm_):Prop:=SBs g.Symbols∧1≤g.Rules.length∧g.Rules.length≤8∧∀ r∈g.Rules,R1 r
theorem stu {x:ByteArray}{n:Nat}(h:x∈[(⟨#[115]⟩:ByteArray),(⟨#[116]⟩:ByteArray),(⟨#[117]⟩:ByteArray)].take n):x.size=1:=by
 have h:=List.mem_of_mem_take h
 simp only[List.mem_cons,List.not_mem_nil,or_false] at h
 rcases h with h|h|h<;>rw[h]<;>rfl
theorem bsz (x y:ByteArray):(x++y).size=x.size+y.size:=ByteArray.size_append
section
variable {b:List UInt8}(hb:b.length≤1048576)
include hb
theorem j5f (pl:Bool){i h:Int}(hi:0≤i):Dr b GB (z1S pl ⟨b,i,h⟩):=by
 unfold z1S
 refine drK (q4E hb 3 (cb hi)) fun y i1 h1 hy hi1=>?_
 have h3:=hy.2.1 (by omega)
 have h0:=hy.1
 dsimp only
 refine .grd (by constructor<;>omega) (.grd (by omega) (.grd (by simp;omega) ?_))
 have hlen:([(⟨#[115]⟩:ByteArray),(⟨#[116]⟩:ByteArray),(⟨#[117]⟩:ByteArray)].take ((1+y).toNat)).length=(1+y).toNat:=by rw[List.length_take];simp;omega
 refine j6x (fun k (l:List Symbol)=>l.length=k∧∀ s∈l,SB s) hi1 ⟨rfl,by simp⟩ (fun j l i h hj hi hl=>?_) fun syms i2 h2 hi2 hsyms=>?_
 ·unfold z9U
  dsimp only
  refine .get (by rw[hlen];exact hj) fun x hx=>?_
  have hx:=stu hx
  refine drK (k3n hb (by omega) _ _ hi) fun s i1 h1 hs hi1=>?_
  refine .grd (by have:=hl.1;constructor<;>omega) (.ret ⟨hi1,by simp[hl.1],fun a ha=>?_⟩)
  simp only[List.mem_append,List.mem_cons,List.not_mem_nil,or_false] at ha
  rcases ha with ha|ha
  ·exact hl.2 a ha
  ·rw[ha];exact hs
 have hS:SBs syms:=⟨by rw[hsyms.1];omega,by rw[hsyms.1];omega,hsyms.2⟩
 dsimp only
 refine j6x (fun k (l:List Rule)=>k≤l.length∧l.length≤3*k∧∀ r∈l,R0 r) hi2 ⟨by simp,by simp,by simp⟩ (fun j l i h hj hi hl=>?_) fun rules i3 h3 hi3 hr=>?_
 ·unfold z9X
  dsimp only
  refine .get (by rw[hlen];exact hj) fun x hx=>?_
  have hx:=stu hx
  refine .grd (by rw[hx];decide) ?_
  refine drK (q9e hb _ (cb hi)) fun y3 i1 h1 _ hi1=>?_
  have hl1:=hl.1
  have hl2:=hl.2.1
  refine .grd (by constructor<;>omega) ?_
  refine drK (q4E hb 2 (cb hi1)) fun y4 i4 h4 hy4 hi4=>?_
  have h42:=hy4.2.1 (by omega)
  have h40:=hy4.1
  refine .grd (by constructor<;>omega) ?_
  dsimp only
  refine j6x (fun k (q:List Rule)=>q.length=l.length+1+k∧∀ r∈q,R0 r) hi4 ⟨by simp,fun a ha=>?_⟩ (fun j2 q i h hj2 hi hq=>?_) fun q i6 h6 hi6 hq=>?_
  ·simp only[List.mem_append,List.mem_cons,List.not_mem_nil,or_false] at ha
   rcases ha with ha|ha
   ·exact hl.2.2 a ha
   ·rw[ha]
    exact⟨⟨by dsimp only;rw[bsz,hx];decide,by dsimp only;omega,by simp,by simp⟩,rfl,rfl⟩
  ·unfold z9W
   dsimp only
   refine .grd (by rw[hx];decide) ?_
   refine .bind (k5s (by omega)) fun nm hnm=>?_
   refine .grd (by rw[bsz,hx];have:(⟨#[112]⟩:ByteArray).size=1:=rfl;omega) ?_
   refine drK (q9e hb _ (cb hi)) fun y6 i1 h1 _ hi1=>?_
   refine drK (q4E hb 3 (cb hi1)) fun y7 i7 h7 hy7 hi7=>?_
   have h72:=hy7.2.1 (by omega)
   have h70:=hy7.1
   refine .grd (by constructor<;>omega) ?_
   dsimp only
   refine j6x (fun k (q:List ByteArray)=>q.length=k∧∀ x∈q,x.size≤8) hi7 ⟨rfl,by simp⟩ (fun j4 q4 i h hj4 hi hq4=>?_) fun q4 i8 h8 hi8 hq4=>?_
   ·unfold z9V
    dsimp only
    refine drK (z2x hb (by intro h;have:=congrArg List.length h;rw[hlen] at this;simp at this;omega) (cb hi)) fun z i1 h1 hz hi1=>?_
    have hz:=stu hz
    refine .grd (by have:=hq4.1;constructor<;>omega) (.ret ⟨hi1,by simp[hq4.1],fun a ha=>?_⟩)
    simp only[List.mem_append,List.mem_cons,List.not_mem_nil,or_false] at ha
    rcases ha with ha|ha
    ·exact hq4.2 a ha
    ·rw[ha];omega
   ·have hq41:=hq4.1
    have hq1:=hq.1
    refine .grd (by constructor<;>omega) (.ret ⟨hi8,by simp;omega,fun a ha=>?_⟩)
    simp only[List.mem_append,List.mem_cons,List.not_mem_nil,or_false] at ha
    rcases ha with ha|ha
    ·exact hq.2 a ha
    ·rw[ha]
     exact⟨⟨by dsimp only;rw[bsz,bsz,hx];have:(⟨#[112]⟩:ByteArray).size=1:=rfl;omega,by dsimp only;omega,by dsimp only;omega,hq4.2⟩,rfl,rfl⟩
  ·exact .ret ⟨hi6,by dsimp only;have:=hq.1;omega,by dsimp only;have:=hq.1;omega,hq.2⟩
 dsimp only
 have hr1:=hr.1
 have hr2:=hr.2.1
 have key:∀ rs:List Rule,1≤rs.length→rs.length≤8→(∀ r∈rs,R0 r)→Ok (fun r=>GB r.1∧CB b r.2) ((q5s (z6o pl ⟨b,i,h⟩ syms) (0,i3,h3,rs)).bind fun (s14,s15,s16)=>some ((⟨syms,s16⟩:Gm_),(⟨b,s14,s15⟩:l1Cur))):=by
  intro rs g1 g2 g3
  refine Ok.bind (Q:=fun s:Int×Int×List Rule=>0≤s.1∧s.2.2.length=rs.length∧∀ r∈s.2.2,R1 r) (j3v (P:=fun s:Int×Int×Int×List Rule=>0≤s.1∧s.1≤rs.length∧0≤s.2.1∧s.2.2.2.length=rs.length∧∀ (k:Nat) x,s.2.2.2[k]?=some x→R1 x∧(s.1≤(k:Int)→R0 x)) (fun s=>(rs.length-s.1).toNat) ?_ _ ⟨Int.le_refl _,by dsimp only;omega,hi3,rfl,fun k x hx=>⟨(g3 x (List.mem_of_getElem? hx)).r1,fun _=>g3 x (List.mem_of_getElem? hx)⟩⟩) ?_
  ·rintro⟨p,i5,h5,q⟩ ⟨a1,a2,a3,a4,a5⟩
   dsimp only at a1 a2 a3 a4 a5
   unfold z6o
   dsimp only
   refine .ite (fun hp=>?_) fun _=>.ret ⟨a3,a4,fun r hr=>?_⟩
   ·obtain⟨x,hx⟩:∃ x,q[p.toNat]?=some x:=⟨_,List.getElem?_eq_getElem (by omega)⟩
    have hx0:=(a5 _ _ hx).2 (by omega)
    rw[hx]
    have fin:∀ (y:Rule) (i' h' : Int),R1 y→0≤i'→(0≤p+1∧p+1≤rs.length∧0≤i'∧(List.set q p.toNat y).length=rs.length∧∀ (k:Nat) x,(List.set q p.toNat y)[k]?=some x→R1 x∧(p+1≤(k:Int)→R0 x))∧(rs.length-(p+1)).toNat<(rs.length-p).toNat:=fun y i' h' hy hi'=>by
     refine⟨⟨by omega,by omega,hi',by rw[List.length_set];exact a4,fun k x hk=>?_⟩,by omega⟩
     rw[List.getElem?_set] at hk
     by_cases e:p.toNat=k
     ·rw[ifP e] at hk
      split at hk
      ·cases hk;exact⟨hy,fun h=>by omega⟩
      ·cases hk
     ·rw[ifN e] at hk
      exact⟨(a5 _ _ hk).1,fun h=>(a5 _ _ hk).2 (by omega)⟩
    refine .bgr a1 (.bbi (.bso ?_))
    refine .bbi (drK (k4H hb (g:=⟨syms,q⟩) hS hx0.1 hx0.2.1 _ a3) fun y i6 h6 hy hi6=>?_)
    obtain⟨b1,b2,b3⟩:=hy
    rw[hx0.2.2] at b3
    dsimp only
    refine .bif (fun _=>.bso ?_) fun _=>?_
    ·exact .grd (by constructor<;>omega) (.ret (fin _ _ h6 ⟨b1,b2,by rw[b3];simp[szL]⟩ hi6))
    ·refine .bbi (drK (k5r hb (g:=⟨syms,q⟩) hS b1 b3 hi6) fun y2 i7 h7 hy2 hi7=>?_)
     refine .bso ?_
     exact .grd (by constructor<;>omega) (.ret (fin _ _ h7 ⟨hy2.1,by rw[hy2.2.1];exact b2,hy2.2.2⟩ hi7))
   ·obtain⟨k,hk⟩:=List.getElem?_of_mem hr
    exact (a5 _ _ hk).1
  ·rintro⟨s1,s2,s3⟩ ⟨c1,c2,c3⟩
   exact⟨_,rfl,⟨hS,by dsimp only at c2 ⊢;omega,by dsimp only at c2 ⊢;omega,c3⟩,c1,rfl⟩
 refine .bif (fun h8=>.bgr (by omega) (.bso ?_)) fun h8=>.bso ?_
 ·exact key _ (by rw[List.length_take];omega) (by rw[List.length_take];omega) fun r hr'=>hr.2.2 r (List.mem_of_mem_take hr')
 ·exact key _ (by omega) (by omega) hr.2.2
end
theorem z9q {α β:Type}{p:α→Bool}{g:α→β}{B:Nat}{f:Nat→α→List β→Option (List β)}:∀ (xs:List α) (i:Nat) (s:List β),(∀ k x s,x∈xs→s.length<B→f k x s=some (if p x=true then s++[g x] else s))→s.length+xs.length≤B →
  eachL f i xs s=some (s++(xs.filter p).map g)
 | [],i,s,_,_=>by simp[eachL]
 | x::xs,i,s,hf,h=>by
  simp only[lnC] at h
  by_cases hp:p x=true
  ·have ih:=z9q xs (i+1) (s++[g x]) (fun k y s hy=>hf k y s (by simp[hy])) (by simp;omega)
   simp[eachL,hf i x s (by simp) (by omega),hp,ih]
  ·have ih:=z9q xs (i+1) s (fun k y s hy=>hf k y s (by simp[hy])) (by omega)
   simp[eachL,hf i x s (by simp) (by omega),hp,ih]
theorem z5Y {α β:Type}{g:α→β}{B:Nat}{f:Nat→α→List β→Option (List β)}(xs:List α)(i:Nat)(s:List β)(hf:∀ k x s,x∈xs→s.length<B→f k x s=some (s++[g x]))(h:s.length+xs.length≤B) :
  eachL f i xs s=some (s++xs.map g):=by
 have:=z9q (p:=fun _=>true) (g:=g) (B:=B) (f:=f) xs i s (fun k x s hx hs=>by rw[hf k x s hx hs,ifP rfl]) h
 rw[this];congr 2;congr 1;simp
theorem j7F {g:Gm_}{n:ByteArray}(h:(q6l g n).2=true):∃ j y,atS g n=some j∧g.Symbols[j]?=some y∧q6l g n=(y,true)∧y.Name=n:=by
 unfold q6l at h ⊢
 cases hf:g.Symbols.find? fun y=>decide (y.Name=n) with
 | none=>rw[hf] at h;cases h
 | some y=>
  have hn:y.Name=n:=by simpa using List.find?_some (p:=fun y:Symbol=>decide (y.Name=n)) hf
  unfold atS
  cases he:g.Symbols.findIdx? fun y=>decide (y.Name=n) with
  | none=>
   rw[List.findIdx?_eq_none_iff] at he
   have:=he y (List.mem_of_find?_eq_some hf)
   simp[hn] at this
  | some j=>
   refine⟨j,y,rfl,?_,rfl,hn⟩
   rw[List.findIdx?_eq_some_iff_getElem] at he
   obtain⟨hj,h1,h2⟩:=he
   rw[List.find?_eq_some_iff_getElem] at hf
   obtain⟨_,i,hi,hy,h3⟩:=hf
   have:i=j:=by
    rcases Nat.lt_trichotomy i j with hlt|heq|hgt
    ·have:=h2 i hlt;rw[hy] at this;simp[hn] at this
    ·exact heq
    ·have:=h3 j hgt;simp at this;simp at h1;exact absurd h1 this
   subst this
   rw[List.getElem?_eq_getElem hi,hy]
theorem Shape.known {g:Gm_}(h:Shape g){r:Rule}(hr:r∈g.Rules){k:Nat}(hk:k≤r.Right.length):(q6l g (q8n r (k:Int))).2=true:=by
 have h3:=h.brk 3 (by omega) (by omega) r hr
 unfold z3S at h3
 rw[ifP rfl,Bool.not_eq_false'] at h3
 unfold j2g at h3
 rw[List.all_eq_true] at h3
 exact h3 k (by rw[List.mem_range'_1];omega)
theorem Shape.right {g:Gm_}(h:Shape g){r:Rule}(hr:r∈g.Rules){n:ByteArray}(hn:n∈r.Right):(q6l g n).2=true:=by
 obtain⟨k,hk⟩:=List.getElem?_of_mem hn
 have hlt:=(List.getElem?_eq_some_iff.1 hk).1
 have:=h.known hr (k:=k+1) (by omega)
 rwa[z4t hk] at this
theorem Shape.left {g:Gm_}(h:Shape g){r:Rule}(hr:r∈g.Rules):(q6l g r.Left).2=true:=by
 have:=h.known hr (k:=0) (by omega)
 unfold q8n at this
 rwa[ifP (by rfl)] at this
theorem Shape.attrs {g:Gm_}(h:Shape g){y:Symbol}(hy:y∈g.Symbols):y.Attributes.length≤4:=by
 have:=h.symB hy
 unfold Go.Proofs.YtomdlgffolbdkaaGreat.symB at this
 simp only[Bool.and_eq_true,decide_eq_true_eq] at this
 exact this.2.2.1
theorem Shape.plain {g:Gm_}(h:Shape g)(n:ByteArray):(q5n g n).length≤4:=by
 refine Nat.le_trans (List.length_filter_le _ _) ?_
 unfold q6l
 cases hf:g.Symbols.find? fun y=>decide (y.Name=n) with
 | none=>simp[zS]
 | some y=>exact h.attrs (List.mem_of_find?_eq_some hf)
theorem j7G (g:Gm_)(n:ByteArray):q8o g n=some (atI g n):=by
 unfold q8o q4D atI atS
 rw[z5H (q:=fun y:Symbol=>decide (y.Name=n)) (c:=fun k=>(k:Int)) fun j x hx=>by
  unfold q5Z q9t
  rw[bsS,← apply_ite some]]
 cases g.Symbols.findIdx? fun y=>decide (y.Name=n) with
 | none=>rfl
 | some j=>dsimp only;rw[Nat.zero_add];rfl
def Inv (g:Gm_)(all:List Rl_):Prop:=all.length=g.Symbols.length∧∀ (k:Nat) (y:Symbol) (a:Rl_),g.Symbols[k]?=some y→all[k]?=some a→Valid a∧a.N=((q5n g y.Name).length:Int)
def zR:Rl_:=⟨0,[]⟩
def z3U (g:Gm_)(all:List Rl_)(n:ByteArray):Rl_:=all.getD ((atS g n).getD 0) zR
theorem Inv.at_ {g:Gm_}{all:List Rl_}(h:Inv g all){n:ByteArray}(hn:(q6l g n).2=true):∃ j,atS g n=some j∧j<g.Symbols.length∧all[j]?=some (z3U g all n)∧Valid (z3U g all n)∧(z3U g all n).N=((q5n g n).length:Int):=by
 obtain⟨j,y,h1,h2,h3,h4⟩:=j7F hn
 have hj:=(List.getElem?_eq_some_iff.1 h2).1
 have e:all[j]?=some (z3U g all n):=by
  unfold z3U
  rw[h1,Option.getD_some,List.getD_eq_getElem?_getD,List.getElem?_eq_getElem (by rw[h.1];exact hj)];rfl
 have:=h.2 j y _ h2 e
 rw[h4] at this
 exact⟨j,h1,hj,e,this⟩
def z1H (g:Gm_)(r:Rule)(all:List Rl_):List Rl_:=r.Right.map (z3U g all)
theorem z7F {g:Gm_}(hS:Shape g){r:Rule}(hr:r∈g.Rules){all:List Rl_}(h:Inv g all):FitL g r (z1H g r all):=by
 refine⟨by unfold z1H;simp,fun k own hk=>?_⟩
 unfold z1H at hk
 rw[List.getElem?_map] at hk
 cases hx:r.Right[k]? with
 | none=>rw[hx] at hk;cases hk
 | some x=>
  rw[hx] at hk;cases hk
  obtain⟨j,_,_,_,h4,h5⟩:=h.at_ (hS.right hr (List.mem_of_getElem? hx))
  rw[z4t hx]
  exact⟨h4,h5⟩
theorem j5g {g:Gm_}(hS:Shape g){r:Rule}(hr:r∈g.Rules):r.Right.length≤3:=by
 have:=hS.ruleB hr
 unfold Go.Proofs.YtomdlgffolbdkaaGreat.ruleB at this
 simp only[Bool.and_eq_true,decide_eq_true_eq] at this
 exact this.2.1.1
theorem j3x {g:Gm_}(hS:Shape g){r:Rule}(hr:r∈g.Rules){all:List Rl_}(h:Inv g all):z1X g r all=some (z1H g r all):=by
 have h3:=j5g hS hr
 unfold z1X z1H
 rw[z5Y (g:=z3U g all) (B:=1048576) r.Right 0 [] (fun k x s hx hs=>by
  obtain⟨j,h1,h2,h4,_⟩:=h.at_ (hS.right hr hx)
  unfold j0e q8L
  rw[j4Y,bsS]
  have ha:atI g x=(j:Int):=by unfold atI;rw[h1]
  rw[ha]
  by_cases hj:(j:Int)<0
  ·omega
  ·rw[ifN hj,bsS,q3P (by omega),tnC,h4,bsS,q3P (by constructor<;>omega)]) (by simp;omega)]
 simp
theorem j7H {g:Gm_}(h0:Sz.szd g≤1048576)(hS:Shape g){r:Rule}(hr:r∈g.Rules){all:List Rl_}(h:Inv g all):q7I g r all=some (q8Z g r (z1H g r all)):=by
 have h3:=j5g hS hr
 unfold q7I
 rw[z5Y (g:=z3U g all) (B:=1048576) r.Right 0 [] (fun k x s hx hs=>by
  obtain⟨j,h1,h2,h4,_⟩:=h.at_ (hS.right hr hx)
  unfold z4y
  rw[j7G,bsS]
  have ha:atI g x=(j:Int):=by unfold atI;rw[h1]
  rw[ha,q3P (by omega),tnC,h4,bsS,q3P (by constructor<;>omega)]) (by simp;omega),bsS,List.nil_append,show r.Right.map (z3U g all)=z1H g r all from rfl,(z6L h0 (Nat.le_trans (z1c hr) h0) (z7F hS hr h)).2.1];rfl
noncomputable def sumS (g:Gm_) (r:Rule) (c:Rl_):Rl_:=(q5x g r c).getD ⟨0,[]⟩
theorem j6y {g:Gm_}(h:GOk g){r:Rule}(hl:ROk r)(c:Rl_):q5x g r c=some (sumS g r c)∧q9G g r c=some (sumS g r c):=by
 obtain⟨x,h1,h2,_⟩:=j4R (c:=c) h hl
 unfold sumS
 rw[h1,h2];exact⟨rfl,rfl⟩
def sumA (all:List Rl_):Nat:=(all.map sumR).sum
theorem j7I:∀ (all:List Rl_) (k:Nat) (x a:Rl_),all[k]?=some a→sumA (all.set k x)+sumR a=sumA all+sumR x
 | [],k,x,a,h=>by simp at h
 | b::all,0,x,a,h=>by simp at h;subst h;unfold sumA;simp;omega
 | b::all,k+1,x,a,h=>by
  have ih:=j7I all k x a (by simpa using h)
  unfold sumA at ih ⊢
  simp only[List.set_cons_succ,List.map_cons,List.sum_cons];omega
theorem Inv.bound {g:Gm_}{all:List Rl_}(h:Inv g all):sumA all≤all.length*(16*65535):=by
 have key:∀ l:List Rl_,(∀ a∈l,Valid a)→sumA l≤l.length*(16*65535):=by
  intro l
  induction l with
  | nil=>intro _;simp[sumA]
  | cons a l ih=>
   intro hv
   have h1:=k0O (hv a (by simp))
   have h2:=ih fun b hb=>hv b (by simp[hb])
   unfold sumA at h2 ⊢
   simp only[List.map_cons,List.sum_cons,lnC]
   omega
 refine key all fun a ha=>?_
 obtain⟨k,hk⟩:=List.getElem?_of_mem ha
 have hlt:=(List.getElem?_eq_some_iff.1 hk).1
 exact (h.2 k _ a (List.getElem?_eq_getElem (by rw[← h.1];exact hlt)) hk).1
theorem Valid.len {a:Rl_}(h:Valid a):a.Rows.length≤16:=by have:=h.2.2.1;have:=h.2.1;omega
theorem z7G {g:Gm_}(h0:Sz.szd g≤1048576)(hS:Shape g){r:Rule}(hr:r∈g.Rules){all:List Rl_}(h:Inv g all)(c:Bool)(i:Nat) :
  ∃ c' all',q8A g i r (c,all)=some (c',all')∧q5y g i r (c,all)=some (c',all')∧Inv g all'∧sumA all≤sumA all'∧(c'=true→c=true∨sumA all<sumA all'):=by
 obtain⟨j,h1,h2,h4,h5,h6⟩:=h.at_ (hS.left hr)
 have hs:=Nat.le_trans (z1c hr) h0
 have hA:atI g r.Left=(j:Int):=by unfold atI;rw[h1]
 generalize hold:z3U g all r.Left=old at h4 h5 h6
 have hsum:=j6y (z0A h0) (q7C hs) (q8Z g r (z1H g r all))
 have hcs:=(z6L h0 hs (z7F hS hr h)).1
 generalize hnew:uniR old (sumS g r (q8Z g r (z1H g r all)))=new
 have hlen:=h5.len
 have hv:=k0N (a:=old) (b:=sumS g r (q8Z g r (z1H g r all))) h5
 have hm:=k4y (a:=old) (b:=sumS g r (q8Z g r (z1H g r all))) h5
 rw[hnew] at hv hm
 have hset:=j7I all j new old h4
 have hInv:Inv g (all.set j new):=by
  refine⟨by simpa using h.1,fun k y a hk ha=>?_⟩
  rw[List.getElem?_set] at ha
  by_cases hjk:j=k
  ·subst hjk
   rw[ifP rfl,ifP (by rw[h.1];exact h2)] at ha
   cases ha
   have:=(h.2 j y old hk h4).2
   exact⟨hv.1,hv.2.trans this⟩
  ·rw[ifN hjk] at ha;exact h.2 k y a hk ha
 refine⟨c || !decide (new=old),all.set j new,?_,?_,hInv,by omega,fun hc=>?_⟩
 ·unfold q8A
  dsimp only
  rw[j7G,bsS,hA,q3P (by omega),tnC,h4,bsS,j7H h0 hS hr h,bsS,hsum.2,bsS,k4x (by omega),bsS,hnew]
  cases c with
  | true=>rfl
  | false=>rw[ifN (by simp),k4z];rfl
 ·unfold q5y
  dsimp only
  rw[j4Y,bsS,hA,q3P (by omega),tnC,h4,bsS,j3x hS hr h,bsS,hcs,bsS,hsum.1,bsS,j6v (by omega),bsS,hnew]
  cases c with
  | true=>first|rfl|(rw[bsS,ifP rfl,q3P (by omega),bsS];rfl)
  | false=>first|(rw[ifN (by simp),z6K];rfl)|(rw[bsS,ifN (by simp),q3P (by omega),bsS,z6K];rfl)
 ·rw[Bool.or_eq_true] at hc
  rcases hc with hc|hc
  ·exact .inl hc
  ·right
   have:new≠old:=by simpa using hc
   have h7:sumR old≠sumR new:=fun he=>this (hm.2 he)
   have:=hm.1
   omega
theorem j0S {g:Gm_}(h0:Sz.szd g≤1048576)(hS:Shape g):∀ (rs:List Rule) (i:Nat) (c:Bool) (all:List Rl_),(∀ r∈rs,r∈g.Rules)→Inv g all →
  ∃ c' all',eachL (q8A g) i rs (c,all)=some (c',all')∧eachL (q5y g) i rs (c,all)=some (c',all')∧Inv g all'∧sumA all≤sumA all'∧(c'=true→c=true∨sumA all<sumA all')
 | [],i,c,all,_,h=>⟨c,all,rfl,rfl,h,Nat.le_refl _,fun hc=>.inl hc⟩
 | r::rs,i,c,all,hr,h=>by
  obtain⟨c1,a1,e1,e2,e3,e4,e5⟩:=z7G h0 hS (hr r (by simp)) h c i
  obtain⟨c2,a2,f1,f2,f3,f4,f5⟩:=j0S h0 hS rs (i+1) c1 a1 (fun x hx=>hr x (by simp[hx])) e3
  refine⟨c2,a2,by rw[eachL,e1,bsS,f1],by rw[eachL,e2,bsS,f2],f3,by omega,fun hc=>?_⟩
  rcases f5 hc with h1|h1
  ·rcases e5 h1 with h2|h2
   ·exact .inl h2
   ·right;omega
  ·right;omega
theorem k2F {g:Gm_}(h0:Sz.szd g≤1048576)(hS:Shape g):∀ (d:Nat) (all:List Rl_),Inv g all→g.Symbols.length*(16*65535)-sumA all≤d→∃ q,q5s (q4w g) (all,true)=some q∧q5s (q4M g) all=some (q,true)∧Inv g q:=by
 intro d
 induction d with
 | zero=>
  intro all h hd
  obtain⟨c,a,e1,e2,e3,e4,e5⟩:=j0S h0 hS g.Rules 0 false all (fun _ h=>h) h
  have hb:=e3.bound
  rw[e3.1] at hb
  have hc:c=false:=by
   cases c with
   | false=>rfl
   | true=>
     rcases e5 rfl with h|h;· cases h
     omega
  subst hc
  refine⟨a,?_,?_,e3⟩
  ·have s1:q4w g (all,true)=some (.inl (a,false)):=by unfold q4w;dsimp only;rw[ifP rfl,e1];rfl
   have s2:q4w g (a,false)=some (.inr a):=by unfold q4w;dsimp only;rw[ifN (by simp)]
   rw[q4G s1,q3U s2]
  ·exact q3U (by unfold q4M;rw[e2,bsS];rfl)
 | succ d ih=>
  intro all h hd
  obtain⟨c,a,e1,e2,e3,e4,e5⟩:=j0S h0 hS g.Rules 0 false all (fun _ h=>h) h
  cases c with
  | false=>
   refine⟨a,?_,?_,e3⟩
   ·have s1:q4w g (all,true)=some (.inl (a,false)):=by unfold q4w;dsimp only;rw[ifP rfl,e1];rfl
    have s2:q4w g (a,false)=some (.inr a):=by unfold q4w;dsimp only;rw[ifN (by simp)]
    rw[q4G s1,q3U s2]
   ·exact q3U (by unfold q4M;rw[e2,bsS];rfl)
  | true=>
   have hlt:sumA all<sumA a:=by
     rcases e5 rfl with h|h;· cases h
     exact h
   have hb:=e3.bound
   rw[e3.1] at hb
   obtain⟨q,q1,q2,q3⟩:=ih a e3 (by omega)
   refine⟨q,?_,?_,q3⟩
   ·have s1:q4w g (all,true)=some (.inl (a,true)):=by unfold q4w;dsimp only;rw[ifP rfl,e1];rfl
    rw[q4G s1];exact q1
   ·have s1:q4M g all=some (.inl a):=by unfold q4M;rw[e2,bsS];rfl
    rw[q4G s1];exact q2
def z6i (g:Gm_):List Rl_:=g.Symbols.map fun y=>⟨((q5n g y.Name).length:Int),List.replicate (q5n g y.Name).length 0⟩
theorem j5h {g:Gm_}(hS:Shape g):Inv g (z6i g):=by
 refine⟨by unfold z6i;simp,fun k y a hk ha=>?_⟩
 unfold z6i at ha
 rw[List.getElem?_map,hk] at ha
 cases ha
 have h4:=hS.plain y.Name
 refine⟨⟨by show (0:Int)≤((q5n g y.Name).length:Int);omega,by show ((q5n g y.Name).length:Int)≤16;omega,by simp,fun x hx=>?_⟩,rfl⟩
 rw[List.mem_replicate] at hx
 have:=Nat.one_le_two_pow (n:=((q5n g y.Name).length:Int).toNat)
 show 0≤x∧x≤((2 ^ ((q5n g y.Name).length:Int).toNat:Nat):Int)-1
 omega
theorem j6z {g:Gm_}(h0:Sz.szd g≤1048576)(hS:Shape g):q7G g=some (z6i g):=by
 have hl:=hS.syms
 unfold q7G z6i
 rw[z5Y (g:=fun y:Symbol=>(⟨((q5n g y.Name).length:Int),List.replicate (q5n g y.Name).length 0⟩:Rl_)) (B:=1048576) g.Symbols 0 [] (fun k y s hy hs=>by
  unfold z2K
  have:=hS.plain y.Name
  rw[j0Q (z0A h0),bsS,z8h,z7A (by omega) (by omega),bsS,q3P (by constructor<;>omega),tnC]) (by simp;omega)]
 simp
theorem j0T {g:Gm_}(h0:Sz.szd g≤1048576)(hS:Shape g):eachL (z0t g) 0 g.Symbols []=some (z6i g):=by
 have hl:=hS.syms
 unfold z6i
 rw[z5Y (g:=fun y:Symbol=>(⟨((q5n g y.Name).length:Int),List.replicate (q5n g y.Name).length 0⟩:Rl_)) (B:=1048576) g.Symbols 0 [] (fun k y s hy hs=>by
  unfold z0t
  have:=hS.plain y.Name
  rw[z5J (z0A h0),bsS,z7A (by omega) (by omega),bsS,q3P (by constructor<;>omega),tnC]) (by simp;omega)]
 simp
theorem z8q {g:Gm_}(h0:Sz.szd g≤1048576):∃ q b,q6e g=some (q,b)∧q5d g=some (q,b)∧b=z5I g∧(z5I g=true→Inv g q)∧(z5I g=false→q=[]):=by
 unfold q6e q5d
 rw[j7y h0,z7D h0]
 cases hg:z5I g with
 | false=>exact⟨[],false,rfl,rfl,rfl,fun h=>(by cases h),fun _=>rfl⟩
 | true=>
  have hS:=z3T hg
  obtain⟨q,q1,q2,q3⟩:=k2F h0 hS _ (z6i g) (j5h hS) (Nat.le_refl _)
  refine⟨q,true,?_,?_,rfl,fun _=>q3,fun h=>(by cases h)⟩
  ·rw[bsS,ifP rfl,j6z h0 hS,bsS,q1];rfl
  ·rw[bsS,ifP rfl,j0T h0 hS,bsS,q2];rfl
noncomputable def uniL (g:Gm_):List Rl_:=((q5d g).getD ([],false)).1
noncomputable def j0U (g:Gm_) (r:Rule):Bool:=j1w (q8Z g r (z1H g r (uniL g)))
noncomputable def z8M (g:Gm_):List ByteArray:=if z5I g=true then (g.Rules.filter (j0U g)).map fun r=>r.Name else []
theorem j6A {α β:Type}{p:α→Bool}{g:α→β}{xs:List α}{f:(List β×Int)→Option ((List β×Int) ⊕ List β)}(hf:∀ (k:Nat) x s,xs[k]?=some x→s.length≤k→f (s,(k:Int))=some (.inl (if p x=true then s++[g x] else s,((k+1:Nat):Int))))(he:∀ s,f (s,(xs.length:Int))=some (.inr s)) :
  ∀ (m k:Nat) (s:List β),k+m=xs.length→s.length≤k→q5s f (s,(k:Int))=some (s++((xs.drop k).filter p).map g)
 | 0,k,s,hk,_=>by
  obtain rfl:k=xs.length:=by omega
  rw[q3U (he s)];simp
 | m+1,k,s,hk,hs=>by
  have hk' : k<xs.length:=by omega
  have h1:=hf k xs[k] s (List.getElem?_eq_getElem hk') hs
  rw[q4G h1,List.drop_eq_getElem_cons hk']
  by_cases hp:p xs[k]=true
  ·rw[ifP hp,j6A hf he m (k+1) _ (by omega) (by simp;omega),List.filter_cons,ifP hp];simp
  ·rw[ifN hp,j6A hf he m (k+1) _ (by omega) (by omega),List.filter_cons,ifN hp]
theorem j2k {g:Gm_}(h0:Sz.szd g≤1048576):q8l g=some (z8M g)∧q7o g=some (z8M g):=by
 obtain⟨q,b,h1,h2,h3,h4,h5⟩:=z8q h0
 have hq:uniL g=q:=by unfold uniL;rw[h2];rfl
 unfold q8l q7o z8M
 rw[h1,h2,bsS,bsS]
 try dsimp only
 subst h3
 cases hg:z5I g with
 | false=>
  rw[h5 hg]
  refine⟨?_,rfl⟩
  have:q6f g [] false ([],0)=some (.inr []):=by
   unfold q6f
   dsimp only
   split
   ·rfl
   ·rfl
  rw[q3U this];rfl
 | true=>
  have hS:=z3T hg
  have hI:=h4 hg
  have hR:=hS.rules
  rw[ifP rfl,ifP rfl]
  have hloop:∀ r∈g.Rules,z0T (q8Z g r (z1H g r q))=some (j0U g r)∧z0S (q8Z g r (z1H g r q))=some (j0U g r):=fun r hr=>by
   have hl:=(z6L h0 (Nat.le_trans (z1c hr) h0) (z7F hS hr hI)).2.2
   unfold j0U
   rw[hq]
   exact⟨j7A (by omega),k2B (by omega)⟩
  constructor
  ·have key:=j6A (p:=j0U g) (g:=fun r:Rule=>r.Name) (xs:=g.Rules) (f:=q6f g q true) (fun k r s hr hs=>by
    have hk:=(List.getElem?_eq_some_iff.1 hr).1
    have hm:=List.mem_of_getElem? hr
    unfold q6f
    dsimp only
    rw[ifP (by omega),ifP rfl,q3P (by omega),tnC,hr,bsS,j3x hS hm hI,bsS,(z6L h0 (Nat.le_trans (z1c hm) h0) (z7F hS hm hI)).1,bsS,(hloop r hm).1,bsS]
    cases j0U g r with
    | true=>rw[ifP rfl,q3P (by constructor<;>omega),bsS,q3P (by constructor<;>omega)];rfl
    | false=>rw[ifN (by simp),bsS,q3P (by constructor<;>omega)];rfl) (fun s=>by
    unfold q6f;dsimp only;rw[ifN (by omega)]) g.Rules.length 0 [] (by omega) (by simp)
   rw[show q5s (q6f g q true) ([],0)=_ from key]
   simp
  ·rw[z9q (p:=j0U g) (g:=fun r:Rule=>r.Name) (B:=1048576) g.Rules 0 [] (fun k r s hr hs=>by
    unfold z3C
    rw[j7H h0 hS hr hI,bsS,(hloop r hr).2,bsS]
    cases j0U g r with
    | true=>rw[ifP rfl,ifP rfl,q3P (by constructor<;>omega)];rfl
    | false=>rfl) (by simp;omega)]
   simp
theorem k0U {α:Type}[Sz α](x:α):∀ (l:List α) (j:Nat),szL (l.set j x)≤szL l+Sz.szd x
 | [],_=>by simp[szL]
 | y::l,0=>by simp only[List.set,szL];omega
 | y::l,j+1=>by have:=k0U x l j;simp only[List.set,szL];omega
theorem k0V {α:Type}[Sz α](l:List α):szL (l.drop 1)≤szL l:=by
 cases l with
 | nil=>simp
 | cons x l=>simp only[List.drop,szL];omega
theorem j2l (a:Int):∀ (l:List Expr) (i:Nat),(∀ x∈l,∃ v,∀ m,fuE x≤m→q6S m x a=some v)→∃ r,∀ m,(∀ x∈l,fuE x≤m)→findL (q8F (q6S m) a) i l ()=some r
 | [],i,_=>⟨.inl (),fun m _=>rfl⟩
 | x::l,i,h=>by
  obtain⟨v,hv⟩:=h x (by simp)
  obtain⟨r,hr⟩:=j2l a l (i+1) fun y hy=>h y (by simp[hy])
  cases v with
  | true=>
   refine⟨r,fun m hm=>?_⟩
   have h1:=hr m fun y hy=>hm y (by simp[hy])
   have h2:q8F (q6S m) a i x ()=some (.inl ()):=by unfold q8F;rw[hv m (hm x (by simp))];rfl
   rw[findL,h2];exact h1
  | false=>
   refine⟨.inr false,fun m hm=>?_⟩
   have h2:q8F (q6S m) a i x ()=some (.inr false):=by unfold q8F;rw[hv m (hm x (by simp))];rfl
   rw[findL,h2];rfl
theorem k0W (e:Expr)(a:Int):∃ v,z4c e a=some v:=by
 have key:∀ e:Expr,∃ v,∀ m,fuE e≤m→q6S m e a=some v:=by
  intro e
  induction e using z1s with
  | h e ih=>
   obtain⟨r,hr⟩:=j2l a e.Args 0 ih
   have:∃ v,∀ m,fuE e≤m+1→q8G (q6S m) e a=some v:=by
    cases r with
    | inl u=>exact⟨_,fun m hm=>by unfold q8G;rw[hr m fun x hx=>by have:=z4E hx;omega];rfl⟩
    | inr q=>exact⟨_,fun m hm=>by unfold q8G;rw[hr m fun x hx=>by have:=z4E hx;omega];rfl⟩
   obtain⟨v,hv⟩:=this
   refine⟨v,fun m hm=>?_⟩
   obtain⟨m,rfl⟩:∃ q,m=q+1:=⟨m-1,by have:=z5x e;omega⟩
   exact hv m hm
 obtain⟨v,hv⟩:=key e
 exact⟨v,q9N (fuE e) hv⟩
def R2 (r:Rule):Prop:=RB r∧szL r.Equations≤60000∧szL r.Contributions≤200
def GC2 (g:Gm_):Prop:=SBs g.Symbols∧1≤g.Rules.length∧g.Rules.length≤8∧∀ r∈g.Rules,R2 r
theorem SB.set {s:Symbol}(h:SB s){x:At_}(hx:x.Name.size≤8):SB ⟨s.Name,List.set s.Attributes 0 x⟩:=by
 refine⟨h.1,by dsimp only;rw[List.length_set];exact h.2.1,by dsimp only;rw[List.length_set];exact h.2.2.1,fun a ha=>?_⟩
 rcases List.mem_or_eq_of_mem_set ha with ha|ha
 ·exact h.2.2.2 a ha
 ·rw[ha];exact hx
theorem GC2.set {ss:List Symbol}{rs:List Rule}(h:GC2 ⟨ss,rs⟩)(k:Nat){x:Rule}(hx:R2 x):GC2 ⟨ss,rs.set k x⟩:=by
 refine⟨h.1,by dsimp only;rw[List.length_set];exact h.2.1,by dsimp only;rw[List.length_set];exact h.2.2.1,fun a ha=>?_⟩
 rcases List.mem_or_eq_of_mem_set ha with ha|ha
 ·exact h.2.2.2 a ha
 ·rw[ha];exact hx
section
variable {b:List UInt8}(hb:b.length≤1048576)
include hb
theorem k2G {e:Expr}{n:Nat}(h:Sz.szd e≤n)(hn:n≤1048576)(a:Int):Ok (fun _=>True) (q9j e a):=by
 unfold q9j
 refine .eq (z7z (by have:=k0i hb h;omega)) ?_
 obtain⟨v,hv⟩:=k0W e a
 exact .ite (fun _=>.eq hv (.ret trivial)) fun _=>.ret trivial
theorem k2H {i h:Int}(hi:0≤i):Dr b (fun r=>RB r∧r.Right.length≤3∧szL r.Equations≤1200∧szL r.Contributions≤200) (z4W ⟨b,i,h⟩):=by
 unfold z4W
 refine drK (z2x hb (by simp) (cb hi)) fun y1 i1 h1 hy1 hi1=>?_
 refine drK (z2x hb (by simp) (cb hi1)) fun y2 i2 h2 hy2 hi2=>?_
 refine drK (q9e hb _ (cb hi2)) fun y3 i3 h3 _ hi3=>?_
 refine drK (q4E hb 4 (cb hi3)) fun y4 i4 h4 hy4 hi4=>?_
 have h44:=hy4.2.1 (by omega)
 have h40:=hy4.1
 have n1:y1.size≤8:=by
  simp only[List.mem_cons,List.not_mem_nil,or_false] at hy1
  rcases hy1 with h|h|h<;>subst h<;>(try dsimp only)<;>decide
 have n2:y2.size≤8:=by
  simp only[List.mem_cons,List.not_mem_nil,or_false] at hy2
  rcases hy2 with h|h<;>subst h<;>(try dsimp only)<;>decide
 dsimp only
 refine j6x (fun k (q:List ByteArray)=>q.length=k∧∀ x∈q,x.size≤8) hi4 ⟨rfl,by simp⟩ (fun j4 q4 i h hj4 hi hq4=>?_) fun q4 i8 h8 hi8 hq4=>?_
 ·unfold j1O
  dsimp only
  refine drK (z2x hb (by simp) (cb hi)) fun z i1 h1 hz hi1=>?_
  refine .grd (by have:=hq4.1;constructor<;>omega) (.ret ⟨hi1,by simp[hq4.1],fun a ha=>?_⟩)
  simp only[List.mem_append,List.mem_cons,List.not_mem_nil,or_false] at ha hz
  rcases ha with ha|ha
  ·exact hq4.2 a ha
  ·rw[ha];rcases hz with h|h|h<;>subst h<;>(try dsimp only)<;>decide
 ·refine drK (q4E hb 4 (cb hi8)) fun y6 i6 h6 hy6 hi6=>?_
  have h64:=hy6.2.1 (by omega)
  dsimp only
  refine j6x (fun k (q:List Eqn)=>q.length≤k∧szL q≤k*400) hi6 ⟨by simp,by simp[szL]⟩ (fun j q i h hj hi hq=>?_) fun q i9 h9 hi9 hq=>?_
  ·have hq1:=hq.1
   have hq2:=hq.2
   unfold j1P
   dsimp only
   refine .bbi (drK (q4E hb 3 (cb hi)) fun y7 i7 h7 hy7 hi7=>?_)
   have h73:=hy7.2.1 (by omega)
   have h70:=hy7.1
   refine .bgr (by constructor<;>omega) (.bbi (drK (k0h hb 2 (by omega) (by omega) (by omega) (cb hi7)) fun e i8 h8 he hi8=>?_))
   have he:Sz.szd e≤320:=he
   refine .bbi (.bind (k2G hb he (by omega) y4) fun v _=>?_)
   refine .bif (fun _=>?_) fun _=>.bso (.ret ⟨hi8,Nat.le_trans hq1 (Nat.le_succ _),Nat.le_trans hq2 (Nat.mul_le_mul_right 400 (Nat.le_succ j))⟩)
   refine .bgr (by constructor<;>omega) (.bbi (drK (q4E hb _ (cb hi8)) fun y10 i9 h9 _ hi9=>?_))
   refine .bbi (drK (j6h hb (cb hi9)) fun nm i10 h10 hnm hi10=>?_)
   refine .bgr (by constructor<;>omega) (.bso (.ret ⟨hi10,by dsimp only;simp;omega,?_⟩))
   dsimp only
   rw[z7E,j5e]
   have hnm:nm.size=1:=hnm
   dsimp only
   omega
  ·have hq2:=hq.2
   have hR:RB ⟨y1,y2,q4,y3,q,[]⟩:=⟨n1,n2,by have:=hq4.1;dsimp only;omega,hq4.2⟩
   refine drK (q9e hb _ (cb hi9)) fun y12 i12 h12 _ hi12=>?_
   refine .ite (fun _=>?_) fun _=>⟨_,rfl,⟨hR,by have:=hq4.1;dsimp only;omega,by dsimp only;omega,by simp[szL]⟩,hi12,rfl⟩
   refine drK (q4E hb _ (cb hi12)) fun y13 i13 h13 _ hi13=>?_
   refine .eq rfl ?_
   refine .grd (by simp only[List.length_nil];constructor<;>omega) ⟨_,rfl,⟨hR,by have:=hq4.1;dsimp only;omega,by dsimp only;omega,?_⟩,hi13,rfl⟩
   dsimp only
   rw[List.nil_append]
   show 1+Sz.szd (⟨(⟨#[115]⟩:ByteArray),(⟨#[99]⟩:ByteArray),_,_⟩:Cn)+0≤200
   rw[k3o,j2c hb,j2c hb,z1P hb]
   decide
theorem k2I {i h:Int}(hi:0≤i):Dr b R2 (z4Y ⟨b,i,h⟩):=by
 unfold z4Y
 refine drK (k2H hb hi) fun r i1 h1 hr hi1=>?_
 obtain⟨r1,r2,r3,r4⟩:=hr
 refine drK (q4E hb 12 (cb hi1)) fun y2 i2 h2 _ hi2=>?_
 dsimp only
 refine .ite (fun _=>?_) fun _=>.ite (fun _=>?_) fun _=>.ite (fun _=>?_) fun _=>.ite (fun _=>?_) fun _=>.ite (fun _=>?_) fun _=>?_
 ·refine drK (z2x hb (by simp) (cb hi2)) fun z i3 h3 hz hi3=>⟨_,rfl,⟨⟨?_,r1.2.1,r1.2.2.1,r1.2.2.2⟩,by dsimp only;omega,r4⟩,hi3,rfl⟩
  simp only[List.mem_cons,List.not_mem_nil,or_false] at hz
  rcases hz with h|h|h<;>subst h<;>(try dsimp only)<;>decide
 ·refine .grd (by simp only[lnC,List.length_nil];constructor<;>omega) ⟨_,rfl,⟨⟨r1.1,r1.2.1,by simp;omega,fun x hx=>?_⟩,by dsimp only;omega,r4⟩,hi2,rfl⟩
  simp only[List.mem_append,List.mem_cons,List.not_mem_nil,or_false] at hx
  rcases hx with h|h|h
  ·exact r1.2.2.2 x h
  ·rw[h];decide
  ·rw[h];decide
 ·refine drK (q4E hb 5 (cb hi2)) fun y4 i4 h4 hy4 hi4=>?_
  have h40:=hy4.1
  have h44:=hy4.2.1 (by omega)
  refine .grd (by constructor<;>omega) ?_
  refine drK (k4k hb (cb hi4)) fun e i5 h5 he hi5=>?_
  have he:Sz.szd e≤30000:=he
  have hl:=q7f r.Equations
  refine .grd (by constructor<;>omega) ⟨_,rfl,⟨r1,?_,r4⟩,hi5,rfl⟩
  dsimp only
  rw[z7E,j5e]
  have:(⟨#[97]⟩:ByteArray).size=1:=rfl
  dsimp only
  omega
 ·exact⟨_,rfl,⟨⟨r1.1,by dsimp only;decide,r1.2.2.1,r1.2.2.2⟩,by dsimp only;omega,r4⟩,hi2,rfl⟩
 ·refine .grd (by constructor<;>omega) ?_
  refine drK (q4E hb _ (cb hi2)) fun y6 i6 h6 hy6 hi6=>?_
  have h60:=hy6.1
  have h61:=hy6.2.1 (by omega)
  refine .grd h60 (.grd (by omega) ⟨_,rfl,⟨⟨r1.1,r1.2.1,by dsimp only;rw[List.length_take];omega,fun x hx=>r1.2.2.2 x (List.mem_of_mem_take hx)⟩,by dsimp only;omega,r4⟩,hi6,rfl⟩)
 ·exact⟨_,rfl,⟨r1,by dsimp only;omega,r4⟩,hi2,rfl⟩
theorem k2J {i h:Int}(hi:0≤i):Dr b SB (z4Z ⟨b,i,h⟩):=by
 unfold z4Z
 refine drK (z2x hb (by simp) (cb hi)) fun nm i1 h1 hnm hi1=>?_
 have hnm:nm.size≤8:=by
  simp only[List.mem_cons,List.not_mem_nil,or_false] at hnm
  rcases hnm with h|h|h|h<;>subst h<;>(try dsimp only)<;>decide
 refine drK (k3n hb hnm _ _ hi1) fun s i2 h2 hs hi2=>?_
 refine drK (q4E hb 10 (cb hi2)) fun y3 i3 h3 _ hi3=>?_
 have hl:=hs.2.1
 dsimp only
 refine .ite (fun _=>?_) fun _=>.ite (fun _=>?_) fun _=>.ite (fun _=>?_) fun _=>.ite (fun _=>?_) fun _=>.ite (fun _=>?_) fun _=>?_
 ·exact .get (by omega) fun x hx=>⟨_,rfl,hs.set (by exact hs.2.2.2 x hx),hi3,rfl⟩
 ·exact drK (q4E hb 5 (cb hi3)) fun y4 i4 h4 _ hi4=>.get (by omega) fun x hx=>⟨_,rfl,hs.set (by exact hs.2.2.2 x hx),hi4,rfl⟩
 ·exact drK (q4E hb 6 (cb hi3)) fun y4 i4 h4 _ hi4=>.get (by omega) fun x hx=>⟨_,rfl,hs.set (by exact hs.2.2.2 x hx),hi4,rfl⟩
 ·refine drK (z2x hb (by simp) (cb hi3)) fun z i4 h4 hz hi4=>.get (by omega) fun x hx=>⟨_,rfl,hs.set ?_,hi4,rfl⟩
  simp only[List.mem_cons,List.not_mem_nil,or_false] at hz
  rcases hz with h|h|h<;>subst h<;>(try dsimp only)<;>decide
 ·refine Ok.bind (Q:=fun l:List At_=>1≤l.length∧l.length≤5∧∀ a∈l,a.Name.size≤8) (j3v (P:=fun l:List At_=>1≤l.length∧l.length≤5∧∀ a∈l,a.Name.size≤8) (fun l=>5-l.length) (fun l hl=>?_) _ ⟨hs.2.1,hs.2.2.1,hs.2.2.2⟩) fun l hl=>⟨_,rfl,⟨hs.1,hl.1,hl.2.1,hl.2.2⟩,hi3,rfl⟩
  unfold j1Q
  refine .ite (fun h5=>?_) fun _=>.ret hl
  refine .get (by simp;omega) fun x hx=>.grd (by constructor<;>omega) (.ret ⟨⟨by simp,by simp;omega,fun a ha=>?_⟩,by simp;omega⟩)
  simp only[List.mem_append,List.mem_cons,List.not_mem_nil,or_false] at ha hx
  rcases ha with ha|ha
  ·exact hl.2.2 a ha
  ·rw[ha];dsimp only;rcases hx with h|h|h|h|h<;>subst h<;>(try dsimp only)<;>decide
 ·exact⟨_,rfl,hs,hi3,rfl⟩
theorem k0X {i h:Int}(hi:0≤i):Dr b GC2 (z3s ⟨b,i,h⟩):=by
 unfold z3s
 refine drK (q9e hb _ (cb hi)) fun y1 i1 h1 _ hi1=>?_
 refine drK (j5f hb y1 hi1) fun g i2 h2 hg hi2=>?_
 obtain⟨ss,rs⟩:=g
 obtain⟨g1,g2,g3,g4⟩:=hg
 dsimp only at g1 g2 g3 g4
 have hG:GC2 ⟨ss,rs⟩:=⟨g1,g2,g3,fun r hr=>by obtain⟨a,c,d⟩:=g4 r hr;exact⟨a,by omega,d⟩⟩
 refine drK (q4E hb _ (cb hi2)) fun y3 i3 h3 hy3 hi3=>?_
 have h30:=hy3.1
 have h31:=hy3.2.1 (by dsimp only;omega)
 dsimp only at h31
 refine drK (q4E hb 14 (cb hi3)) fun y4 i4 h4 _ hi4=>?_
 have hk:y3.toNat<rs.length:=by omega
 dsimp only
 have same:Ok (fun r:Gm_×l1Cur=>GC2 r.1∧CB b r.2) (some ((⟨ss,rs⟩:Gm_),(⟨b,i4,h4⟩:l1Cur))):=⟨_,rfl,hG,hi4,rfl⟩
 refine .ite (fun _=>?_) fun _=>.ite (fun _=>?_) fun _=>.ite (fun _=>?_) fun _=>.ite (fun _=>?_) fun _=>.ite (fun _=>?_) fun _=>.ite (fun _=>?_) fun _=>.ite (fun _=>?_) fun _=>same
 ·exact drK (k2I hb hi4) fun r i5 h5 hr hi5=>.grd h30 (.get hk fun x hx=>⟨_,rfl,hG.set _ hr,hi5,rfl⟩)
 ·refine drK (k2J hb hi4) fun s i5 h5 hs hi5=>.get (by have:=g1.1;omega) fun x hx=>⟨_,rfl,⟨⟨by dsimp only;rw[List.length_set];exact g1.1,by dsimp only;rw[List.length_set];exact g1.2.1,fun a ha=>?_⟩,g2,g3,hG.2.2.2⟩,hi5,rfl⟩
  rcases List.mem_or_eq_of_mem_set ha with ha|ha
  ·exact g1.2.2 a ha
  ·rw[ha];exact hs
 ·refine .get (by omega) fun x hx=>.grd h30 (.get hk fun r hr=>⟨_,rfl,hG.set _ ?_,hi4,rfl⟩)
  have a:=hG.2.2.2 r hr
  exact⟨⟨(g4 x hx).1.1,a.1.2.1,a.1.2.2.1,a.1.2.2.2⟩,a.2.1,a.2.2⟩
 ·refine .grd h30 (.get hk fun r hr=>.ite (fun h0=>.grd (by omega) ⟨_,rfl,hG.set _ ?_,hi4,rfl⟩) fun _=>same)
  have a:=hG.2.2.2 r hr
  exact⟨a.1,by have:=k0V r.Equations;have:=a.2.1;dsimp only;omega,a.2.2⟩
 ·refine .grd h30 (.get hk fun r hr=>.ite (fun h0=>?_) fun _=>same)
  have a:=g4 r hr
  have hl:=q7f r.Equations
  have a2:=a.2.1
  refine .get (by omega) fun x hx=>.grd (by constructor<;>omega) ⟨_,rfl,hG.set _ ⟨a.1,?_,a.2.2⟩,hi4,rfl⟩
  have:=j3p hx
  dsimp only
  rw[z7E]
  omega
 ·refine drK (z2x hb (by simp) (cb hi4)) fun z i5 h5 hz hi5=>.grd h30 (.get hk fun r hr=>⟨_,rfl,hG.set _ ?_,hi5,rfl⟩)
  have a:=hG.2.2.2 r hr
  refine⟨⟨a.1.1,?_,a.1.2.2.1,a.1.2.2.2⟩,a.2.1,a.2.2⟩
  simp only[List.mem_cons,List.not_mem_nil,or_false] at hz
  rcases hz with h|h<;>subst h<;>(try dsimp only)<;>decide
 ·refine .grd h30 (.get hk fun r hr=>.ite (fun h0=>?_) fun _=>same)
  refine drK (k0j hb (cb hi4)) fun e i5 h5 he hi5=>?_
  have he:Sz.szd e≤20480:=he
  have a:=g4 r hr
  have a2:=a.2.1
  refine .get (by omega) fun x hx=>⟨_,rfl,hG.set _ ⟨a.1,?_,a.2.2⟩,hi5,rfl⟩
  have h1:=j3p hx
  have h2:=k0U (⟨x.At,e⟩:Eqn) r.Equations 0
  have h3:Sz.szd x=x.At.Name.size+Sz.szd x.Expr:=j5e x.At x.Expr
  rw[j5e] at h2
  dsimp only
  omega
end
theorem szR {r:Rule}(h:R2 r):Sz.szd r≤60300:=by
 have h1:=j5d (m:=8) h.1.2.2.2
 have:=h.1.2.2.1
 have:=h.1.1
 have:=h.1.2.1
 have:=h.2.1
 have:=h.2.2
 have h9:r.Right.length*(8+1)≤45:=by omega
 rw[z7u];omega
theorem szS {s:Symbol}(h:SB s):Sz.szd s≤60:=by
 have h1:=j5d (m:=8) (l:=s.Attributes) fun a ha=>by rw[j3d];exact h.2.2.2 a ha
 have:=h.2.2.1
 have:=h.1
 have h9:s.Attributes.length*(8+1)≤45:=by omega
 rw[j1W];omega
theorem szG {g:Gm_}(h:GC2 g):Sz.szd g≤1048576:=by
 have h1:=j5d (m:=60) (l:=g.Symbols) fun s hs=>szS (h.1.2.2 s hs)
 have h2:=j5d (m:=60300) (l:=g.Rules) fun r hr=>szR (h.2.2.2 r hr)
 have h3:g.Symbols.length*(60+1)≤183:=by have:=h.1.2.1;omega
 have h4:g.Rules.length*(60300+1)≤482408:=by have:=h.2.2.1;omega
 rw[z4n];omega
theorem z5Z {r:Rl_}(h:Valid r)(i k:Int):Valid (addP r i k):=by
 unfold addP
 by_cases hc:Valid r∧inN r i∧inN r k
 ·rw[ifP hc]
  obtain⟨_,hi,hk⟩:=hc
  unfold j0E
  refine⟨h.1,h.2.1,by dsimp only;rw[List.length_set];exact h.2.2.1,fun x hx=>?_⟩
  rcases List.mem_or_eq_of_mem_set hx with hx|hx
  ·exact h.2.2.2 x hx
  ·rw[hx]
   have h1:=h.1
   have hk1:=hk.1
   have hk2:=hk.2
   refine k3m ?_ ?_
   ·unfold z4N
    rw[List.getD_eq_getElem?_getD]
    cases hq:r.Rows[i.toNat]? with
    | none=>show (0:Int)≤0∧(0:Int)≤((2 ^ r.N.toNat:Nat):Int)-1;have:=Nat.two_pow_pos r.N.toNat;omega
    | some y=>exact h.2.2.2 y (List.mem_of_getElem? hq)
   ·have h2:2 ^ k.toNat<2 ^ r.N.toNat:=Nat.pow_lt_pow_right (by decide) (by omega)
    constructor
    ·exact Int.natCast_nonneg _
    ·dsimp only;omega
 ·rw[ifN hc];exact h
theorem k2K {r:Rl_}(h:¬ Valid r)(i k:Int):addP r i k=r:=ifN fun hc=>h hc.1
theorem j3y {r:Rl_}(h:Valid r)(i k:Int)(a c:Nat):Rl (addP r i k).Rows a c↔Rl r.Rows a c∨(inN r i∧inN r k∧(a:Int)=i∧(c:Int)=k):=by
 unfold addP
 by_cases hc:Valid r∧inN r i∧inN r k
 ·rw[ifP hc]
  obtain⟨_,hi,hk⟩:=hc
  have hi1:=hi.1
  have hi2:=hi.2
  have hk1:=hk.1
  have hl:=h.2.2.1
  unfold j0E Rl
  dsimp only
  rw[List.getD_eq_getElem?_getD,List.getElem?_set]
  by_cases e:i.toNat=a
  ·rw[ifP e,ifP (by omega),Option.getD_some,j0G,Nat.testBit_or,tnC,Nat.testBit_two_pow]
   unfold z4N
   rw[e]
   simp only[Bool.or_eq_true,decide_eq_true_eq]
   constructor
   ·rintro (h1|h1)
    ·exact .inl h1
    ·exact .inr ⟨hi,hk,by omega,by omega⟩
   ·rintro (h1|⟨_,_,_,h1⟩)
    ·exact .inl h1
    ·exact .inr (by omega)
  ·rw[ifN e,← List.getD_eq_getElem?_getD]
   constructor
   ·exact fun h1=>.inl h1
   ·rintro (h1|⟨_,_,h1,_⟩)
    ·exact h1
    ·omega
 ·rw[ifN hc]
  constructor
  ·exact fun h1=>.inl h1
  ·rintro (h1|⟨h1,h2,_⟩)
   ·exact h1
   ·exact absurd ⟨h,h1,h2⟩ hc
def Sub (a b:Rl_):Prop:=Valid a∧Valid b∧a.N=b.N∧∀ i j:Nat,Rl a.Rows i j→Rl b.Rows i j
theorem Sub.refl {a:Rl_}(h:Valid a):Sub a a:=⟨h,h,rfl,fun _ _ h=>h⟩
theorem Sub.trans {a b c:Rl_}(h:Sub a b)(k:Sub b c):Sub a c:=⟨h.1,k.2.1,h.2.2.1.trans k.2.2.1,fun i j x=>k.2.2.2 i j (h.2.2.2 i j x)⟩
theorem k3p {a b:Rl_}(h:a.N=b.N)(i:Int):inN a i→inN b i:=fun ⟨h1,h2⟩=>⟨h1,by omega⟩
theorem Sub.add2 {a b:Rl_}(h:Sub a b)(i k:Int):Sub (addP a i k) (addP b i k):=by
 refine⟨z5Z h.1 i k,z5Z h.2.1 i k,by rw[(z5V _ _ _).2,(z5V _ _ _).2];exact h.2.2.1,fun x y hx=>?_⟩
 rw[j3y h.2.1]
 rcases (j3y h.1 i k x y).1 hx with hx|⟨h1,h2,h3⟩
 ·exact .inl (h.2.2.2 x y hx)
 ·exact .inr ⟨k3p h.2.2.1 _ h1,k3p h.2.2.1 _ h2,h3⟩
theorem Sub.add {a b:Rl_}(h:Sub a b)(i k:Int):Sub a (addP b i k):=
 h.trans ⟨h.2.1,z5Z h.2.1 i k,(z5V _ _ _).2.symm,fun x y hx=>(j3y h.2.1 i k x y).2 (.inl hx)⟩
theorem k2L {x y:Int}(hx:0≤x)(h:∀ j,y.toNat.testBit j=true→x.toNat.testBit j=true):orI x y=x:=by
 have:x.toNat ||| y.toNat=x.toNat:=by
  apply Nat.eq_of_testBit_eq
  intro j
  rw[Nat.testBit_or]
  cases hy:y.toNat.testBit j with
  | false=>rw[Bool.or_false]
  | true=>rw[h j hy];rfl
 unfold orI;rw[this];omega
theorem Sub.uni {a b:Rl_}(h:Sub a b):uniR b a=b:=by
 unfold uniR
 rw[ifP ⟨h.2.1,h.1,h.2.2.1.symm⟩]
 obtain⟨n,rows⟩:=b
 have:(rows.mapIdx fun j x=>orI x (a.Rows.getD j 0))=rows:=by
  apply List.ext_getElem?
  intro j
  rw[List.getElem?_mapIdx]
  cases hj:rows[j]? with
  | none=>rfl
  | some x=>
   rw[Option.map_some]
   congr 1
   refine k2L (h.2.1.2.2.2 x (List.mem_of_getElem? hj)).1 fun c hc=>?_
   have:=h.2.2.2 j c hc
   unfold Rl at this
   dsimp only at this
   rwa[List.getD_eq_getElem?_getD,hj,Option.getD_some] at this
 rw[this]
theorem k5t {a b:Rl_}(hb:b.Rows.length≤1048576)(h:uniR b a=b):z5r a b=some true:=by
 unfold z5r
 rw[j6v hb,bsS,h,j6i];rfl
theorem j0V {n:Nat}{s t:List Int}(hs:z4F n s)(ht:z4F n t)(h:∀ i j,Rl s i j→Rl t i j):∀ m i j,Rl (z5B s m) i j→Rl (z5B t m) i j
 | 0,i,j,hx=>h i j hx
 | m+1,i,j,hx=>by
  have hi:=k3k (j7p (z0z hs m)) hx
  have ih:=j0V hs ht h m
  rw[z5B,k0m (z0z ht m) hi]
  rw[z5B,k0m (z0z hs m) hi] at hx
  rcases hx with hx|⟨h1,h2⟩
  ·exact .inl (ih i j hx)
  ·exact .inr ⟨ih i m h1,ih m j h2⟩
theorem Sub.close2 {a b:Rl_}(h:Sub a b):Sub (q7c a) (q7c b):=by
 refine⟨z8I h.1,z8I h.2.1,by rw[(z5W _).2,(z5W _).2];exact h.2.2.1,fun i j hx=>?_⟩
 have h1:=(z4r h.1).1
 have h2:=(z4r h.2.1).1
 unfold q7c at hx ⊢
 rw[ifP h.1] at hx
 rw[ifP h.2.1]
 dsimp only at hx ⊢
 rw[← h.2.2.1] at h2 ⊢
 exact j0V h1 h2 h.2.2.2 _ i j hx
theorem j0W {own:Rl_}(a:Nat)(x:Int):∀ (ys:List Int) (i:Nat) (o:Rl_),(¬ Valid o∨∀ i:Nat,¬ hasP own (a:Int) (i:Int))→q9b own a x i ys o=o
 | [],i,o,h=>rfl
 | y::ys,i,o,h=>by
  rw[q9b]
  by_cases hp:hasP own (a:Int) (i:Int)
  ·rcases h with h|h
   ·rw[ifP hp,k2K h];exact j0W a x ys (i+1) o (.inl h)
   ·exact absurd hp (h i)
  ·rw[ifN hp];exact j0W a x ys (i+1) o h
theorem j2m {own:Rl_}(at' : List Int):∀ (xs:List Int) (a:Nat) (o:Rl_),(¬ Valid o∨∀ a i:Nat,¬ hasP own (a:Int) (i:Int))→q9g own at' a xs o=o
 | [],a,o,h=>rfl
 | x::xs,a,o,h=>by
  rw[q9g,j0W a x at' 0 o (h.imp id fun h i=>h a i)]
  exact j2m at' xs (a+1) o h
theorem j3z (g:Gm_)(r:Rule):∀ (l:List Rl_) (k:Nat) (o:Rl_),(¬ Valid o∨∀ own∈l,∀ a i:Nat,¬ hasP own (a:Int) (i:Int))→z2G g r k l o=o
 | [],k,o,h=>rfl
 | own::l,k,o,h=>by
  rw[z2G]
  have h1:z4G g r o ((k+1:Nat):Int) own=o:=j2m _ _ 0 o (h.imp id fun h=>h own (by simp))
  rw[h1]
  exact j3z g r l (k+1) o (h.imp id fun h w hw=>h w (by simp[hw]))
theorem j0X {n:Int}(h0:0≤n)(h1:n≤16):Valid ⟨n,List.replicate n.toNat 0⟩:=by
 refine⟨h0,h1,by simp;omega,fun x hx=>?_⟩
 have:=(List.mem_replicate.1 hx).2
 have h2:=Nat.two_pow_pos n.toNat
 dsimp only
 omega
theorem j0Y {α σ τ:Type}{R:σ→τ→Prop}{f:Nat→α→σ→Option σ}{g:Nat→α→τ→Option τ}(h:∀ k x s t,R s t→∃ s' t',f k x s=some s'∧g k x t=some t'∧R s' t'):∀ (xs:List α) (i:Nat) (s:σ) (t:τ),R s t→∃ s' t',eachL f i xs s=some s'∧eachL g i xs t=some t'∧R s' t'
 | [],i,s,t,hr=>⟨s,t,rfl,rfl,hr⟩
 | x::xs,i,s,t,hr=>by
  obtain⟨s1,t1,e1,e2,hr1⟩:=h i x s t hr
  obtain⟨s2,t2,e3,e4,hr2⟩:=j0Y h xs (i+1) s1 t1 hr1
  exact⟨s2,t2,by rw[eachL,e1];exact e3,by rw[eachL,e2];exact e4,hr2⟩
theorem k2M {g:Gm_}(hg:GOk g){r:Rule}(hn:(q5n g r.Left).length≤16){c d:Rl_}(h:c=d∨Sub c d):∃ x y,q5x g r c=some x∧q5x g r d=some y∧Sub x y:=by
 have hp:∀ i k:Nat,hasP c (i:Int) (k:Int)→hasP d (i:Int) (k:Int):=fun i k hx=>by
  rcases h with rfl|h
  ·exact hx
  ·exact (z8i h.2.1 i k).2 (h.2.2.2 i k ((z8i h.1 i k).1 hx))
 have hv:=j0X (n:=((q5n g r.Left).length:Int)) (by omega) (by omega)
 have key:=j0Y (R:=fun (s t:List Int×Int)=>Sub ⟨s.2,s.1⟩ ⟨t.2,t.1⟩) (f:=q6G c (q5n g r.Left)) (g:=q6G d (q5n g r.Left)) (fun k x s t hst=>by
  obtain⟨s1,s2⟩:=s
  obtain⟨t1,t2⟩:=t
  obtain⟨s',t',e1,e2,e3⟩:=j0Y (R:=fun (s t:List Int×Int)=>Sub ⟨s.2,s.1⟩ ⟨t.2,t.1⟩) (f:=q6F c k x) (g:=q6F d k x) (fun k2 x2 s t hst=>by
   obtain⟨s1,s2⟩:=s
   obtain⟨t1,t2⟩:=t
   dsimp only at hst
   have l1:s1.length≤1048576:=by have:=hst.1.2.2.1;have:=hst.1.2.1;dsimp only at *;omega
   have l2:t1.length≤1048576:=by have:=hst.2.1.2.2.1;have:=hst.2.1.2.1;dsimp only at *;omega
   unfold q6F
   dsimp only
   rw[q8K,q8K,j4O (r:=⟨s2,s1⟩) l1,j4O (r:=⟨t2,t1⟩) l2]
   simp only[bsS]
   by_cases m1:x.Mode=1
   ·by_cases m2:x2.Mode=2
    ·by_cases p1:hasP c (k:Int) (k2:Int)
     ·have p2:=hp k k2 p1
      simp only[m1,m2,p1,p2,if_true,decide_true,bsS]
      exact⟨_,_,rfl,rfl,hst.add2 _ _⟩
     ·by_cases p2:hasP d (k:Int) (k2:Int)
      ·simp only[m1,m2,p1,p2,if_true,if_false,decide_true,decide_false,bsS,Bool.false_eq_true]
       exact⟨_,_,rfl,rfl,hst.add _ _⟩
      ·simp only[m1,m2,p1,p2,if_true,if_false,decide_true,decide_false,bsS,Bool.false_eq_true]
       exact⟨_,_,rfl,rfl,hst⟩
    ·simp only[m1,m2,if_true,if_false,decide_false,bsS,Bool.false_eq_true]
     exact⟨_,_,rfl,rfl,hst⟩
   ·simp only[m1,if_false,bsS,Bool.false_eq_true]
    exact⟨_,_,rfl,rfl,hst⟩) (q5n g r.Left) 0 (s1,s2) (t1,t2) hst
  exact⟨s',t',by unfold q6G;dsimp only;rw[e1];rfl,by unfold q6G;dsimp only;rw[e2];rfl,e3⟩) (q5n g r.Left) 0 (List.replicate ((q5n g r.Left).length:Int).toNat 0,((q5n g r.Left).length:Int)) (List.replicate ((q5n g r.Left).length:Int).toNat 0,((q5n g r.Left).length:Int)) (Sub.refl hv)
 obtain⟨⟨s1,s2⟩,⟨t1,t2⟩,e1,e2,e3⟩:=key
 refine⟨⟨s2,s1⟩,⟨t2,t1⟩,?_,?_,e3⟩
 ·unfold q5x
  rw[z5J hg,bsS,z7A (by omega) (by omega),bsS]
  dsimp only
  rw[e1];rfl
 ·unfold q5x
  rw[z5J hg,bsS,z7A (by omega) (by omega),bsS]
  dsimp only
  rw[e2];rfl
theorem z4u {own own' : Rl_}(h:∀ a i:Nat,hasP own (a:Int) (i:Int)→hasP own' (a:Int) (i:Int))(a:Nat)(x:Int):∀ (ys:List Int) (i:Nat) (o o' : Rl_),Sub o o'→Sub (q9b own a x i ys o) (q9b own' a x i ys o')
 | [],i,o,o',hs=>hs
 | y::ys,i,o,o',hs=>by
  rw[q9b,q9b]
  by_cases hp:hasP own (a:Int) (i:Int)
  ·rw[ifP hp,ifP (h a i hp)];exact z4u h a x ys (i+1) _ _ (hs.add2 x y)
  ·rw[ifN hp]
   by_cases hp' : hasP own' (a:Int) (i:Int)
   ·rw[ifP hp'];exact z4u h a x ys (i+1) _ _ (hs.add x y)
   ·rw[ifN hp'];exact z4u h a x ys (i+1) _ _ hs
theorem z8N {own own' : Rl_}(h:∀ a i:Nat,hasP own (a:Int) (i:Int)→hasP own' (a:Int) (i:Int))(at' : List Int):∀ (xs:List Int) (a:Nat) (o o' : Rl_),Sub o o'→Sub (q9g own at' a xs o) (q9g own' at' a xs o')
 | [],a,o,o',hs=>hs
 | x::xs,a,o,o',hs=>by
  rw[q9g,q9g]
  exact z8N h at' xs (a+1) _ _ (z4u h a x at' 0 o o' hs)
theorem j8X {own own' : Rl_}(h:∀ a i:Nat,hasP own (a:Int) (i:Int)→hasP own' (a:Int) (i:Int))(g:Gm_)(r:Rule)(pos:Int){o o' : Rl_}(hs:Sub o o'):Sub (z4G g r o pos own) (z4G g r o' pos own'):=z8N h _ _ 0 o o' hs
theorem k2N {a b:Rl_}(ha:Valid a)(hb:Valid b)(hN:a.N=b.N)(h:uniR a b=a):Sub b a:=by
 have hr:(a.Rows.mapIdx fun j x=>orI x (b.Rows.getD j 0))=a.Rows:=by
  unfold uniR at h
  rw[ifP ⟨ha,hb,hN⟩] at h
  exact congrArg Rl_.Rows h
 refine⟨hb,ha,hN.symm,fun i j hj=>?_⟩
 unfold Rl at hj ⊢
 have hl:a.Rows.length=b.Rows.length:=by have:=ha.2.2.1;have:=hb.2.2.1;omega
 by_cases hi:i<a.Rows.length
 ·have h1:(a.Rows.mapIdx fun j x=>orI x (b.Rows.getD j 0))[i]?=a.Rows[i]?:=by rw[hr]
  rw[List.getElem?_mapIdx,List.getElem?_eq_getElem hi,Option.map_some] at h1
  have h1:=Option.some.inj h1
  rw[List.getD_eq_getElem?_getD,List.getElem?_eq_getElem hi,Option.getD_some,← h1]
  unfold orI
  rw[tnC,Nat.testBit_or,hj,Bool.or_true]
 ·rw[List.getD_eq_getElem?_getD,List.getElem?_eq_none (by omega)] at hj
  simp at hj
theorem k2O {c x:Rl_}(h:Sub c x)(hx:j1w x=false):j1w c=false:=by
 unfold j1w at hx ⊢
 rw[decide_eq_false_iff_not] at hx ⊢
 rintro⟨k,hk,hp⟩
 have h2:=h.close2
 refine hx ⟨k,?_,(z8i h2.2.1 k k).2 (h2.2.2.2 k k ((z8i h2.1 k k).1 hp))⟩
 have h3:=h.1.2.2.1
 have h4:=h.2.1.2.2.1
 have h5:=h.2.2.1
 omega
end Go.Proofs.YtomdlgffolbdkaaGreat
set_option maxRecDepth 100000
set_option maxHeartbeats 4000000
namespace Go.Proofs.YtomdlgffolbdkaaGreat
open Go Go.E
theorem j3A:∀ (n:Nat) (l:List Nat),l.Nodup→(∀ x∈l,x<n)→l.length≤n
 | 0,[],_,_=>Nat.le_refl _
 | 0,x::l,_,h=>absurd (h x List.mem_cons_self) (Nat.not_lt_zero _)
 | n+1,l,hd,h=>by
  by_cases hn:n∈l
  ·have h1:=j3A n (l.erase n) (hd.erase n) fun x hx=>by
    have h2:=(List.Nodup.mem_erase_iff hd).1 hx
    have:=h x h2.2
    have:=h2.1
    omega
   rw[List.length_erase_of_mem hn] at h1
   omega
  ·have:=j3A n l hd fun x hx=>by
    have h2:=h x hx
    have:x≠n:=fun e=>hn (e▸hx)
    omega
   omega
def j5i:List Bool→Nat
 | []=>0
 | b::bs=>(if b=true then 1 else 0)+2*j5i bs
theorem k0Y:∀ l:List Bool,j5i l<2 ^ l.length
 | []=>by decide
 | b::bs=>by
  have:=k0Y bs
  rw[j5i,lnC,Nat.pow_succ]
  split<;>omega
theorem j3B:∀ {l m:List Bool},l.length=m.length→j5i l=j5i m→l=m
 | [],[],_,_=>rfl
 | [],_::_,h,_=>by simp at h
 | _::_,[],h,_=>by simp at h
 | b::bs,c::cs,h,e=>by
  rw[j5i,j5i] at e
  have h' : bs.length=cs.length:=by simpa using h
  cases b<;>cases c<;>simp at e
  ·rw[j3B h' (by omega)]
  ·omega
  ·omega
  ·rw[j3B h' (by omega)]
theorem k0Z {α:Type}{p q:α→Bool}(h:∀ x,p x=true→q x=true→False):∀ l:List α,(l.filter p).length+(l.filter q).length≤l.length
 | []=>Nat.le_refl _
 | x::l=>by
  have:=k0Z h l
  rw[List.filter_cons,List.filter_cons,lnC]
  cases hp:p x<;>cases hq:q x
  ·simp;omega
  ·simp;omega
  ·simp;omega
  ·exact absurd hq (fun hq=>h x hp hq)
theorem k4I {a b:Rl_}(ha:Valid a)(hb:Valid b)(hN:a.N=b.N)(h:∀ i j:Nat,Rl a.Rows i j↔Rl b.Rows i j):a=b:=by
 obtain⟨n,xs⟩:=a
 obtain⟨m,ys⟩:=b
 have h1:=ha.2.2.1
 have h2:=hb.2.2.1
 dsimp only at h1 h2 hN
 have e:xs=ys:=by
  apply List.ext_getElem?
  intro i
  by_cases hi:i<xs.length
  ·obtain⟨x,hx⟩:∃ x,xs[i]?=some x:=⟨_,List.getElem?_eq_getElem hi⟩
   obtain⟨y,hy⟩:∃ y,ys[i]?=some y:=⟨_,List.getElem?_eq_getElem (by omega)⟩
   have hx0:=(ha.2.2.2 x (List.mem_of_getElem? hx)).1
   have hy0:=(hb.2.2.2 y (List.mem_of_getElem? hy)).1
   have:x.toNat=y.toNat:=by
    apply Nat.eq_of_testBit_eq
    intro j
    have:=h i j
    unfold Rl at this
    dsimp only at this
    rw[List.getD_eq_getElem?_getD,List.getD_eq_getElem?_getD,hx,hy,Option.getD_some,Option.getD_some] at this
    exact Bool.eq_iff_iff.2 this
   rw[hx,hy]
   congr 1
   omega
  ·rw[List.getElem?_eq_none (by omega),List.getElem?_eq_none (by omega)]
 rw[e,hN]
def z9e (L:List At_)(s:Rl_):Prop:=Valid s∧s.N=(L.length:Int)∧∀ a b:Nat,Rl s.Rows a b→∃ x y,L[a]?=some x∧x.Mode=1∧L[b]?=some y∧y.Mode=2
def z3h (L:List At_)(m:Int)(a:Nat):Bool:=decide ((L[a]?).map (·.Mode)=some m)
def z7H (L:List At_):List (Nat×Nat):=((List.range L.length).filter (z3h L 1)).flatMap fun a=>((List.range L.length).filter (z3h L 2)).map fun b=>(a,b)
theorem z8r {α β:Type}{f:α→List β}{n:Nat}(h:∀ x,(f x).length=n):∀ l:List α,(l.flatMap f).length=l.length*n
 | []=>by simp
 | x::l=>by rw[List.flatMap_cons,List.length_append,h,z8r h l,lnC,Nat.succ_mul];omega
theorem k1a {L:List At_}(h:L.length≤4):(z7H L).length≤4:=by
 unfold z7H
 rw[z8r (n:=((List.range L.length).filter (z3h L 2)).length) fun x=>by rw[lnM]]
 have h1:=k0Z (p:=z3h L 1) (q:=z3h L 2) (fun x h1 h2=>by
  unfold z3h at h1 h2
  have h1:=of_decide_eq_true h1
  have h2:=of_decide_eq_true h2
  rw[h1] at h2
  cases h2) (List.range L.length)
 rw[List.length_range] at h1
 generalize ((List.range L.length).filter (z3h L 1)).length=x at h1
 generalize ((List.range L.length).filter (z3h L 2)).length=y at h1
 have:x=0∨x=1∨x=2∨x=3∨x=4:=by omega
 rcases this with e|e|e|e|e<;>subst e<;>omega
noncomputable def k1b (L:List At_) (s:Rl_):Nat:=j5i ((z7H L).map fun p=>s.Rows.getD p.1 0 |>.toNat.testBit p.2)
theorem k4J {L:List At_}(h:L.length≤4)(s:Rl_):k1b L s<16:=by
 have h1:=k0Y ((z7H L).map fun p=>s.Rows.getD p.1 0 |>.toNat.testBit p.2)
 have h2:=k1a h
 rw[lnM] at h1
 have h3:2 ^ (z7H L).length≤2 ^ 4:=Nat.pow_le_pow_right (by decide) h2
 unfold k1b
 omega
theorem k2P {L:List At_}{s t:Rl_}(hs:z9e L s)(ht:z9e L t)(h:k1b L s=k1b L t):s=t:=by
 have e:=j3B (by simp) h
 have key:∀ {s t:Rl_},z9e L s→((z7H L).map fun p=>(s.Rows.getD p.1 0).toNat.testBit p.2)=((z7H L).map fun p=>(t.Rows.getD p.1 0).toNat.testBit p.2)→∀ i j:Nat,Rl s.Rows i j→Rl t.Rows i j:=by
  intro s t hs e i j h
  obtain⟨x,y,h1,h2,h3,h4⟩:=hs.2.2 i j h
  have hm:(i,j)∈z7H L:=by
   unfold z7H
   refine List.mem_flatMap.2 ⟨i,List.mem_filter.2 ⟨List.mem_range.2 (List.getElem?_eq_some_iff.1 h1).1,by unfold z3h;rw[h1];simp[h2]⟩,?_⟩
   exact List.mem_map.2 ⟨j,List.mem_filter.2 ⟨List.mem_range.2 (List.getElem?_eq_some_iff.1 h3).1,by unfold z3h;rw[h3];simp[h4]⟩,rfl⟩
  have:=(List.map_inj_left.1 e) (i,j) hm
  unfold Rl at h ⊢
  dsimp only at this
  rw[← this];exact h
 exact k4I hs.1 ht.1 (hs.2.1.trans ht.2.1.symm) fun i j=>⟨key hs e i j,key ht e.symm i j⟩
theorem z6M {L:List At_}(h:L.length≤4){l:List Rl_}(hn:l.Nodup)(hl:∀ s∈l,z9e L s):l.length≤16:=by
 have:=j3A 16 (l.map (k1b L)) (by
  rw[List.Nodup,List.pairwise_map]
  refine List.Pairwise.imp_of_mem ?_ hn
  intro a b ha hb hne hc
  exact hne (k2P (hl a ha) (hl b hb) hc)) fun x hx=>by
  obtain⟨s,_,rfl⟩:=List.mem_map.1 hx
  exact k4J h s
 rwa[lnM] at this
theorem k1c {g:Gm_}(hg:GOk g){r:Rule}(hn:(q5n g r.Left).length≤16)(c:Rl_):∃ s,q5x g r c=some s∧z9e (q5n g r.Left) s:=by
 have hv:=j0X (n:=((q5n g r.Left).length:Int)) (by omega) (by omega)
 have P0:∀ s:List Int×Int,z9e (q5n g r.Left) ⟨s.2,s.1⟩→s.1.length≤1048576:=fun s h=>by have:=h.1.2.2.1;have:=h.1.2.1;dsimp only at *;omega
 obtain⟨s',e,h3⟩:=z5U (P:=fun _ (s:List Int×Int)=>z9e (q5n g r.Left) ⟨s.2,s.1⟩) (f:=q6G c (q5n g r.Left)) (xs:=q5n g r.Left) (i:=0) (s:=(List.replicate ((q5n g r.Left).length:Int).toNat 0,((q5n g r.Left).length:Int))) ⟨hv,rfl,fun a b h=>by
   exfalso
   unfold Rl at h
   rw[List.getD_eq_getElem?_getD,List.getElem?_replicate] at h
   split at h<;>simp at h⟩ fun k x s hx hs=>by
  rw[Nat.zero_add]
  obtain⟨s1,s2⟩:=s
  obtain⟨s',e,h3⟩:=z5U (P:=fun _ (s:List Int×Int)=>z9e (q5n g r.Left) ⟨s.2,s.1⟩) (f:=q6F c k x) (xs:=q5n g r.Left) (i:=0) (s:=(s1,s2)) hs fun k2 x2 s hx2 hs=>by
   rw[Nat.zero_add]
   obtain⟨t1,t2⟩:=s
   have hl:=P0 _ hs
   dsimp only at hs hl
   unfold q6F
   dsimp only
   rw[q8K,j4O (r:=⟨t2,t1⟩) hl]
   simp only[bsS]
   by_cases p1:hasP c (k:Int) (k2:Int)
   ·by_cases m1:x.Mode=1
    ·by_cases m2:x2.Mode=2
     ·simp only[m1,m2,p1,if_true,decide_true,bsS]
      refine⟨_,rfl,z5Z hs.1 _ _,(z5V _ _ _).2.trans hs.2.1,fun a b h=>?_⟩
      rcases (j3y hs.1 _ _ a b).1 h with h|⟨_,_,h1,h2⟩
      ·exact hs.2.2 a b h
      ·have e1:a=k:=by omega
       have e2:b=k2:=by omega
       subst e1;subst e2
       exact⟨x,x2,hx,m1,hx2,m2⟩
     ·simp only[m1,m2,if_true,if_false,decide_false,bsS,Bool.false_eq_true];exact⟨_,rfl,hs⟩
    ·simp only[m1,if_false,bsS,Bool.false_eq_true];exact⟨_,rfl,hs⟩
   ·by_cases m1:x.Mode=1
    ·by_cases m2:x2.Mode=2
     ·simp only[m1,m2,p1,if_true,if_false,decide_true,decide_false,bsS,Bool.false_eq_true];exact⟨_,rfl,hs⟩
     ·simp only[m1,m2,if_true,if_false,decide_false,bsS,Bool.false_eq_true];exact⟨_,rfl,hs⟩
    ·simp only[m1,if_false,bsS,Bool.false_eq_true];exact⟨_,rfl,hs⟩
  exact⟨s',by unfold q6G;dsimp only;rw[e];rfl,h3⟩
 obtain⟨s1,s2⟩:=s'
 refine⟨⟨s2,s1⟩,?_,h3⟩
 unfold q5x
 rw[z5J hg,bsS,z7A (by omega) (by omega),bsS]
 dsimp only
 rw[e];rfl
def z2H:List Nat→Nat
 | []=>1
 | c::cs=>c*z2H cs
def digL:List Nat→Nat→List Nat
 | [],_=>[]
 | _::cs,n=>(n / z2H cs)::digL cs (n % z2H cs)
theorem j6B:∀ (cs:List Nat) (n:Nat),(digL cs n).length=cs.length
 | [],_=>rfl
 | _::cs,n=>by rw[digL,lnC,j6B cs,lnC]
theorem j0Z:∀ (cs:List Nat) (n:Nat),z2H (cs++[n])=z2H cs*n
 | [],n=>by simp[z2H]
 | c::cs,n=>by rw[List.cons_append,z2H,z2H,j0Z cs,Nat.mul_assoc]
theorem j7J (n:Nat):∀ (cs:List Nat) (m:Nat),m<z2H cs*n→digL (cs++[n]) m=digL cs (m / n)++[m % n]
 | [],m,h=>by
  rw[z2H,Nat.one_mul] at h
  show [m / 1]=[m % n]
  rw[Nat.div_one,Nat.mod_eq_of_lt h]
 | c::cs,m,h=>by
  rw[z2H] at h
  have hP:0<z2H cs*n:=Nat.pos_of_ne_zero fun e=>by rw[Nat.mul_assoc,e] at h;omega
  rw[List.cons_append,digL,digL,j0Z,j7J n cs _ (Nat.mod_lt _ hP),Nat.mod_mul_left_div_self,Nat.mod_mul_left_mod,Nat.div_div_eq_div_mul,Nat.mul_comm n]
  rfl
def chL (cs:List Nat):List (List Nat):=(List.range (z2H cs)).map (digL cs)
theorem j5j (n:Nat):∀ p:Nat,List.range (p*n)=(List.range p).flatMap fun i=>(List.range n).map fun j=>i*n+j
 | 0=>by simp
 | p+1=>by
  rw[Nat.succ_mul,List.range_add,j5j n p,List.range_succ,List.flatMap_append]
  simp
theorem z8O {α β:Type}{f g:α→List β}:∀ {l:List α},(∀ x∈l,f x=g x)→l.flatMap f=l.flatMap g
 | [],_=>rfl
 | x::l,h=>by rw[List.flatMap_cons,List.flatMap_cons,h x List.mem_cons_self,z8O fun y hy=>h y (List.mem_cons_of_mem _ hy)]
theorem k4K (cs:List Nat)(n:Nat):chL (cs++[n])=(chL cs).flatMap fun c=>(List.range n).map fun j=>c++[j]:=by
 unfold chL
 rw[j0Z,j5j,List.map_flatMap,List.flatMap_map]
 refine z8O fun i hi=>?_
 rw[List.map_map]
 refine List.map_congr_left fun j hj=>?_
 have h1:=List.mem_range.1 hi
 have h2:=List.mem_range.1 hj
 have hlt:i*n+j<z2H cs*n:=by
  have:(i+1)*n≤z2H cs*n:=Nat.mul_le_mul_right _ h1
  rw[Nat.succ_mul] at this
  omega
 show digL (cs++[n]) (i*n+j)=digL cs i++[j]
 have hn:0<n:=by omega
 rw[j7J n cs _ hlt]
 rw[show i*n+j=j+n*i by rw[Nat.mul_comm,Nat.add_comm],Nat.add_mul_div_left _ _ hn,Nat.div_eq_of_lt h2,Nat.zero_add,Nat.add_mul_mod_self_left,Nat.mod_eq_of_lt h2]
theorem k1d {b:Nat}:∀ {cs:List Nat},(∀ c∈cs,c≤b)→z2H cs≤b ^ cs.length
 | [],_=>Nat.le_refl _
 | c::cs,h=>by
  rw[z2H,lnC,Nat.pow_succ,Nat.mul_comm]
  exact Nat.mul_le_mul (k1d fun x hx=>h x (List.mem_cons_of_mem _ hx)) (h c List.mem_cons_self)
theorem k3q:∀ {cs:List Nat} {n:Nat},n<z2H cs→∀ (i d c:Nat),(digL cs n)[i]?=some d→cs[i]?=some c→d<c
 | [],n,h,i,d,c,h1,h2=>by rw[List.getElem?_nil] at h2;cases h2
 | x::cs,n,h,0,d,c,h1,h2=>by
  cases h1
  cases h2
  rw[z2H] at h
  have hP:0<z2H cs:=Nat.pos_of_ne_zero fun e=>by rw[e] at h;omega
  exact (Nat.div_lt_iff_lt_mul hP).2 h
 | x::cs,n,h,i+1,d,c,h1,h2=>by
  rw[z2H] at h
  have hP:0<z2H cs:=Nat.pos_of_ne_zero fun e=>by rw[e] at h;omega
  exact k3q (Nat.mod_lt _ hP) i d c h1 h2
def nzR:Rl_:=⟨0,[]⟩
def atN (g:Gm_)(n:ByteArray):Nat:=(atS g n).getD 0
def InvS (g:Gm_)(A:List (List Rl_)):Prop:=A.length=g.Symbols.length∧∀ (k:Nat) (y:Symbol) (L:List Rl_),g.Symbols[k]?=some y→A[k]?=some L→L.Nodup∧∀ a∈L,z9e (q5n g y.Name) a
def lsA (g:Gm_)(A:List (List Rl_))(n:ByteArray):List Rl_:=A.getD (atN g n) []
theorem z9r {g:Gm_}{n:ByteArray}(hn:(q6l g n).2=true):∃ y,atI g n=(atN g n:Int)∧g.Symbols[atN g n]?=some y∧y.Name=n:=by
 obtain⟨j,y,h1,h2,h3,h4⟩:=j7F hn
 have e:atN g n=j:=by unfold atN;rw[h1];rfl
 refine⟨y,?_,by rw[e];exact h2,h4⟩
 unfold atI;rw[h1,e]
theorem InvS.at_ {g:Gm_}{A:List (List Rl_)}(h:InvS g A){n:ByteArray}(hn:(q6l g n).2=true):atI g n=(atN g n:Int)∧atN g n<A.length∧A[atN g n]?=some (lsA g A n)∧(lsA g A n).Nodup∧∀ a∈lsA g A n,z9e (q5n g n) a:=by
 obtain⟨y,h1,h2,h3⟩:=z9r hn
 have hj:=(List.getElem?_eq_some_iff.1 h2).1
 have e:A[atN g n]?=some (lsA g A n):=by
  unfold lsA
  rw[List.getD_eq_getElem?_getD,List.getElem?_eq_getElem (by rw[h.1];exact hj)];rfl
 have:=h.2 _ y _ h2 e
 rw[h3] at this
 exact⟨h1,by rw[h.1];exact hj,e,this⟩
theorem InvS.le {g:Gm_}(hS:Shape g){A:List (List Rl_)}(h:InvS g A){n:ByteArray}(hn:(q6l g n).2=true):(lsA g A n).length≤16:=
 z6M (hS.plain n) (h.at_ hn).2.2.2.1 (h.at_ hn).2.2.2.2
def z2I (g:Gm_)(r:Rule)(A:List (List Rl_)):List Nat:=r.Right.map fun n=>(lsA g A n).length
def z3V (g:Gm_)(r:Rule)(A:List (List Rl_))(c:List Nat):List Rl_:=(r.Right.zip c).map fun p=>(lsA g A p.1).getD p.2 nzR
def iL (l:List Nat):List Int:=l.map (fun n:Nat=>((n:Nat):Int))
def Ch (g:Gm_)(r:Rule)(A:List (List Rl_))(c:List Nat):Prop:=c.length=r.Right.length∧∀ (i:Nat) (n:ByteArray) (d:Nat),r.Right[i]?=some n→c[i]?=some d→d<(lsA g A n).length
theorem k2Q {g:Gm_}{r:Rule}{A:List (List Rl_)}{c:List Nat}(h:c∈chL (z2I g r A)):Ch g r A c:=by
 unfold chL at h
 obtain⟨m,hm,rfl⟩:=List.mem_map.1 h
 refine⟨by rw[j6B];unfold z2I;rw[lnM],fun i n d h1 h2=>?_⟩
 refine k3q (List.mem_range.1 hm) i d _ h2 ?_
 unfold z2I
 rw[List.getElem?_map,h1];rfl
theorem z7I {g:Gm_}{r:Rule}{A:List (List Rl_)}{c:List Nat}(h:Ch g r A c):(z3V g r A c).length=r.Right.length:=by
 unfold z3V
 rw[lnM,List.length_zip,h.1,Nat.min_self]
theorem j3C {g:Gm_}{r:Rule}{A:List (List Rl_)}{c:List Nat}(h:Ch g r A c){i:Nat}{n:ByteArray}{d:Nat}(h1:r.Right[i]?=some n)(h2:c[i]?=some d) :
  ∃ own,(z3V g r A c)[i]?=some own∧(lsA g A n)[d]?=some own:=by
 have hd:=h.2 i n d h1 h2
 refine⟨(lsA g A n)[d],?_,List.getElem?_eq_getElem hd⟩
 unfold z3V
 have hz:(r.Right.zip c)[i]?=some (n,d):=List.getElem?_zip_eq_some.2 ⟨h1,h2⟩
 rw[List.getElem?_map,hz]
 simp only[Option.map_some]
 rw[List.getD_eq_getElem?_getD,List.getElem?_eq_getElem hd];rfl
theorem j5k {g:Gm_}(hS:Shape g){r:Rule}(hr:r∈g.Rules){A:List (List Rl_)}(hA:InvS g A){c:List Nat}(h:Ch g r A c):FitL g r (z3V g r A c):=by
 refine⟨z7I h,fun k own hk=>?_⟩
 have hlt:=(List.getElem?_eq_some_iff.1 hk).1
 rw[z7I h] at hlt
 obtain⟨n,hn⟩:∃ n,r.Right[k]?=some n:=⟨_,List.getElem?_eq_getElem hlt⟩
 obtain⟨d,hd⟩:∃ d,c[k]?=some d:=⟨_,List.getElem?_eq_getElem (by rw[h.1];exact hlt)⟩
 obtain⟨own',h1,h2⟩:=j3C h hn hd
 rw[hk] at h1;cases h1
 have:=(hA.at_ (hS.right hr (List.mem_of_getElem? hn))).2.2.2.2 own (List.mem_of_getElem? h2)
 rw[z4t hn]
 exact⟨this.1,this.2.1⟩
noncomputable def ownR (g:Gm_) (r:Rule) (A:List (List Rl_)) (c:List Nat):Rl_:=sumS g r (q8Z g r (z3V g r A c))
theorem j7K {g:Gm_}(h0:Sz.szd g≤1048576)(hS:Shape g)(r:Rule)(x:Rl_):z9e (q5n g r.Left) (sumS g r x):=by
 obtain⟨s,h1,h2⟩:=k1c (z0A h0) (r:=r) (by have:=hS.plain r.Left;omega) x
 unfold sumS
 rw[h1];exact h2
noncomputable def stA (w:Nat) (s:Rl_) (q:List (List Rl_)×Bool):List (List Rl_)×Bool:=if s∈q.1.getD w [] then q else (q.1.set w (q.1.getD w []++[s]),true)
def Ext (A B:List (List Rl_)):Prop:=B.length=A.length∧∀ (k:Nat) (L:List Rl_),A[k]?=some L→∃ t,B[k]?=some (L++t)
theorem Ext.rfl' (A:List (List Rl_)):Ext A A:=⟨rfl,fun k L h=>⟨[],by rw[List.append_nil];exact h⟩⟩
def tot (A:List (List Rl_)):Nat:=(A.map (·.length)).sum
theorem k1e:∀ (A:List (List Rl_)) (k:Nat) (x a:List Rl_),A[k]?=some a→tot (A.set k x)+a.length=tot A+x.length
 | [],k,x,a,h=>by simp at h
 | b::A,0,x,a,h=>by simp at h;subst h;unfold tot;simp;omega
 | b::A,k+1,x,a,h=>by
  have ih:=k1e A k x a (by simpa using h)
  unfold tot at ih ⊢
  simp only[List.set_cons_succ,List.map_cons,List.sum_cons];omega
theorem InvS.bound {g:Gm_}(hS:Shape g){A:List (List Rl_)}(h:InvS g A):tot A≤g.Symbols.length*16:=by
 have key:∀ l:List (List Rl_),(∀ a∈l,a.length≤16)→tot l≤l.length*16:=by
  intro l
  induction l with
  | nil=>intro _;simp[tot]
  | cons a l ih=>
   intro hv
   have h1:=hv a (by simp)
   have h2:=ih fun b hb=>hv b (by simp[hb])
   unfold tot at h2 ⊢
   simp only[List.map_cons,List.sum_cons,lnC]
   omega
 rw[← h.1]
 refine key A fun L hL=>?_
 obtain⟨k,hk⟩:=List.getElem?_of_mem hL
 have hlt:=(List.getElem?_eq_some_iff.1 hk).1
 obtain⟨y,hy⟩:∃ y,g.Symbols[k]?=some y:=⟨_,List.getElem?_eq_getElem (by rw[← h.1];exact hlt)⟩
 exact z6M (hS.plain y.Name) (h.2 k y L hy hk).1 (h.2 k y L hy hk).2
structure Mv (g:Gm_) (A:List (List Rl_)) (q q' : List (List Rl_)×Bool):Prop where
 inv:InvS g q'.1
 ext:Ext A q'.1
 le:tot q.1≤tot q'.1
 up:q'.2=true→q.2=true∨tot q.1<tot q'.1
 no:q'.2=false→q'=q
theorem Mv.refl {g:Gm_}{A:List (List Rl_)}{q:List (List Rl_)×Bool}(h:InvS g q.1)(he:Ext A q.1):Mv g A q q:=⟨h,he,Nat.le_refl _,fun h=>.inl h,fun _=>rfl⟩
theorem Mv.trans {g:Gm_}{A:List (List Rl_)}{p q s:List (List Rl_)×Bool}(h1:Mv g A p q)(h2:Mv g A q s):Mv g A p s:=
 ⟨h2.inv,h2.ext,Nat.le_trans h1.le h2.le,fun h=>by
  rcases h2.up h with h|h
  ·rcases h1.up h with h|h
   ·exact .inl h
   ·exact .inr (Nat.lt_of_lt_of_le h h2.le)
  ·exact .inr (Nat.lt_of_le_of_lt h1.le h),fun h=>by
  have e:=h2.no h
  rw[e] at h ⊢
  exact h1.no h⟩
theorem k4L {g:Gm_}(hS:Shape g){r:Rule}(hr:r∈g.Rules){A:List (List Rl_)}{q:List (List Rl_)×Bool}(h:InvS g q.1)(he:Ext A q.1){s:Rl_}(hs:z9e (q5n g r.Left) s):Mv g A q (stA (atN g r.Left) s q):=by
 unfold stA
 have hk:=hS.left hr
 obtain⟨h1,h2,h3,h4,h5⟩:=h.at_ hk
 have hg:q.1.getD (atN g r.Left) []=lsA g q.1 r.Left:=rfl
 rw[hg]
 by_cases hm:s∈lsA g q.1 r.Left
 ·rw[ifP hm];exact .refl h he
 ·rw[ifN hm]
  have ht:=k1e q.1 (atN g r.Left) (lsA g q.1 r.Left++[s]) _ h3
  rw[List.length_append,List.length_singleton] at ht
  refine⟨⟨by rw[List.length_set];exact h.1,fun k y L hy hL=>?_⟩,⟨by rw[List.length_set];exact he.1,fun k L hL=>?_⟩,by dsimp only;omega,fun _=>.inr (by dsimp only;omega),fun h=>by cases h⟩
  ·dsimp only at hL
   by_cases e:atN g r.Left=k
   ·subst e
    rw[List.getElem?_set_self h2] at hL
    cases hL
    obtain⟨y',_,h7,h8⟩:=z9r hk
    rw[hy] at h7;cases h7
    rw[h8]
    refine⟨List.nodup_append.2 ⟨h4,by simp,fun a ha b hb e=>?_⟩,fun a ha=>?_⟩
    ·rw[List.mem_singleton] at hb;subst hb;subst e;exact hm ha
    ·rcases List.mem_append.1 ha with ha|ha
     ·exact h5 a ha
     ·rw[List.mem_singleton] at ha;subst ha;exact hs
   ·rw[List.getElem?_set_ne e] at hL
    exact h.2 k y L hy hL
  ·obtain⟨t,e2⟩:=he.2 k L hL
   by_cases e:atN g r.Left=k
   ·subst e
    rw[h3] at e2
    refine⟨t++[s],?_⟩
    dsimp only
    rw[List.getElem?_set_self h2,Option.some.inj e2,List.append_assoc]
   ·exact⟨t,by dsimp only;rw[List.getElem?_set_ne e];exact e2⟩
theorem Mv.fold {α:Type}{g:Gm_}{A:List (List Rl_)}{f:List (List Rl_)×Bool→α→List (List Rl_)×Bool}:∀ (l:List α) (q:List (List Rl_)×Bool),InvS g q.1→Ext A q.1→(∀ q x,x∈l→InvS g q.1→Ext A q.1→Mv g A q (f q x))→Mv g A q (l.foldl f q)
 | [],q,h,he,_=>.refl h he
 | x::l,q,h,he,hf=>by
  have h1:=hf q x (by simp) h he
  exact h1.trans (Mv.fold l _ h1.inv h1.ext fun q y hy=>hf q y (by simp[hy]))
noncomputable def runR (g:Gm_) (A:List (List Rl_)) (q:List (List Rl_)×Bool) (r:Rule):List (List Rl_)×Bool:=(chL (z2I g r A)).foldl (fun q c=>stA (atN g r.Left) (ownR g r A c) q) q
theorem k3r {g:Gm_}(h0:Sz.szd g≤1048576)(hS:Shape g){r:Rule}(hr:r∈g.Rules){A:List (List Rl_)}{q:List (List Rl_)×Bool}(h:InvS g q.1)(he:Ext A q.1):Mv g A q (runR g A q r):=
 Mv.fold _ q h he fun q c _ h he=>k4L hS hr h he (j7K h0 hS r _)
theorem k3s (l:List Nat)(i:Nat):(iL l)[i]?=(l[i]?).map fun n:Nat=>(n:Int):=by unfold iL;rw[List.getElem?_map]
theorem k1f (l:List Nat):(iL l).length=l.length:=by unfold iL;rw[lnM]
theorem k5u (l m:List Nat):iL (l++m)=iL l++iL m:=by unfold iL;rw[List.map_append]
theorem k5v {g:Gm_}(hS:Shape g){r:Rule}(hr:r∈g.Rules){A:List (List Rl_)}(hA:InvS g A):∀ c∈z2I g r A,c≤16:=fun c hc=>by
 obtain⟨n,h1,rfl⟩:=List.mem_map.1 hc
 exact hA.le hS (hS.right hr h1)
theorem k1g (g:Gm_)(r:Rule)(A:List (List Rl_)):(z2I g r A).length=r.Right.length:=by unfold z2I;rw[lnM]
noncomputable def z6j (g:Gm_) (A:List (List Rl_)):List (List Rl_)×Bool:=g.Rules.foldl (runR g A) (A,false)
theorem j7L {g:Gm_}(h0:Sz.szd g≤1048576)(hS:Shape g){A:List (List Rl_)}(hA:InvS g A):Mv g A (A,false) (z6j g A):=
 Mv.fold _ _ hA (.rfl' A) fun q r hr h he=>k3r h0 hS hr h he
theorem j2n {A:List (List Rl_)}(h:A.length≤1048576):q9H A=some (iL (A.map (·.length))):=by
 unfold q9H
 rw[z5Y (g:=fun l:List Rl_=>(l.length:Int)) (B:=1048576) A 0 [] (fun k x s hx hs=>by
  unfold z7n
  rw[q3P (by constructor<;>omega)]) (by rw[List.length_nil];omega),bsS,List.nil_append]
 unfold iL
 rw[List.map_map];rfl
theorem k1h (n:Nat):q8L 0 (n:Int)=some (n:Int):=by
 rw[j6g]
 by_cases h:(n:Int) > 0
 ·rw[ifP h]
 ·rw[ifN h,show (n:Int)=0 by omega]
theorem j1a {g:Gm_}(hS:Shape g){r:Rule}(hr:r∈g.Rules){A:List (List Rl_)}(hA:InvS g A):q8S g r (iL (A.map (·.length)))=some ((chL (z2I g r A)).map iL):=by
 have h3:=j5g hS hr
 unfold q8S
 have key:∀ (k:Nat),k≤r.Right.length→(∀ c∈(z2I g r A).take k,c≤16)∧((z2I g r A).take k).length=k:=fun k hk=>by
  refine⟨fun c hc=>k5v hS hr hA c (List.mem_of_mem_take hc),?_⟩
  rw[List.length_take,k1g];omega
 obtain⟨s',e2,hp⟩:=z5U (P:=fun k (s:List (List Int))=>s=(chL ((z2I g r A).take k)).map iL) (f:=z3d g (iL (A.map (·.length)))) (xs:=r.Right) (i:=0) (s:=[[]]) (by rw[List.take_zero];rfl) fun k n s hn hs=>by
  rw[Nat.zero_add] at hs ⊢
  have hlt:=(List.getElem?_eq_some_iff.1 hn).1
  have hkn:=hS.right hr (List.mem_of_getElem? hn)
  obtain⟨k1,k2,k3,_,_⟩:=hA.at_ hkn
  have hle:=hA.le hS hkn
  have htk:(z2I g r A).take (k+1)=(z2I g r A).take k++[(lsA g A n).length]:=by
   rw[List.take_add_one]
   unfold z2I
   rw[List.getElem?_map,hn];rfl
  have hcl:(chL ((z2I g r A).take k)).length≤256:=by
   unfold chL
   rw[lnM,List.length_range]
   have h4:=k1d (key k (by omega)).1
   rw[(key k (by omega)).2] at h4
   have h5:16 ^ k≤16 ^ 2:=Nat.pow_le_pow_right (by omega) (by omega)
   omega
  refine⟨(chL ((z2I g r A).take (k+1))).map iL,?_,rfl⟩
  unfold z3d
  rw[j4Y,bsS,k1,k1h (atN g n),bsS,q3P (by omega),tnC,k3s,List.getElem?_map,k3]
  simp only[Option.map_some,bsS]
  rw[hs,htk,k4K]
  obtain⟨s2,e3,hp2⟩:=z5U (P:=fun j (s:List (List Int))=>s=(((chL ((z2I g r A).take k)).take j).flatMap fun c=>(List.range (lsA g A n).length).map fun d=>iL (c++[d]))) (f:=z3c ((lsA g A n).length:Int)) (xs:=(chL ((z2I g r A).take k)).map iL) (i:=0) (s:=[]) (by rw[List.take_zero];rfl) fun j x s hx hs2=>by
   rw[Nat.zero_add] at hs2 ⊢
   rw[List.getElem?_map] at hx
   cases hc:(chL ((z2I g r A).take k))[j]? with
   | none=>rw[hc] at hx;cases hx
   | some c=>
    rw[hc] at hx;cases hx
    have hj:=(List.getElem?_eq_some_iff.1 hc).1
    have hclen:c.length=k:=by
     obtain⟨m,hm,rfl⟩:=List.mem_map.1 (List.mem_of_getElem? hc)
     rw[j6B,(key k (by omega)).2]
    have hsl:s.length≤256*16:=by
     rw[hs2,z8r (n:=(lsA g A n).length) fun c=>by rw[lnM,List.length_range]]
     rw[List.length_take]
     exact Nat.mul_le_mul (by omega) hle
    unfold z3c
    rw[tnC]
    obtain⟨s3,e4,hp3⟩:=z7t (P:=fun d (t:List (List Int))=>t=s++(List.range d).map fun d=>iL (c++[d])) (f:=z3b (iL c)) (n:=(lsA g A n).length) (i:=0) (s:=s) (by rw[List.range_zero,List.map_nil,List.append_nil]) fun d t h1 h2 ht=>by
     have htl:t.length≤256*16+16:=by rw[ht,List.length_append,lnM,List.length_range];omega
     refine⟨_,by
      unfold z3b
      rw[q3P (by rw[List.length_nil,k1f];constructor<;>omega),q3P (by rw[k1f];constructor<;>omega),q3P (by constructor<;>omega)],?_⟩
     rw[ht,List.range_succ,List.map_append,List.append_assoc,List.map_cons,List.map_nil,k5u c [d]];rfl
    refine⟨s3,by rw[e4];rfl,?_⟩
    rw[hp3,Nat.zero_add,hs2,List.take_add_one,hc,List.flatMap_append]
    simp
  rw[e3]
  rw[Nat.zero_add,lnM,List.take_length] at hp2
  rw[hp2,List.map_flatMap]
  simp only[List.map_map,bsS]
  rfl
 rw[e2,hp,Nat.zero_add,List.take_of_length_le (by rw[k1g];omega)];rfl
theorem k5w {l:List Rl_}(h:l.length≤16):((l.length:Int)+1)*32≤140737488355328∧(l.length:Int)+1≤9223372036854775807:=by constructor<;>omega
theorem j8Y {g:Gm_}(hS:Shape g){r:Rule}(hr:r∈g.Rules){A:List (List Rl_)}(hA:InvS g A){c:List Nat}(h:Ch g r A c){k d:Nat}(hd:c[k]?=some d) :
  z4i g r A k (d:Int) ((z3V g r A c).take k)=some ((z3V g r A c).take (k+1)):=by
 have h3:=j5g hS hr
 have hlt:=(List.getElem?_eq_some_iff.1 hd).1
 rw[h.1] at hlt
 obtain⟨n,hn⟩:∃ n,r.Right[k]?=some n:=⟨_,List.getElem?_eq_getElem hlt⟩
 obtain⟨own,h1,h2⟩:=j3C h hn hd
 obtain⟨k1,k2,k3,_,_⟩:=hA.at_ (hS.right hr (List.mem_of_getElem? hn))
 have e1:(z3V g r A c).take (k+1)=(z3V g r A c).take k++[own]:=by rw[List.take_add_one,h1];rfl
 have b1:((z3V g r A c).take k).length≤16:=Nat.le_trans (List.length_take_le _ _) (by omega)
 rw[e1]
 generalize (z3V g r A c).take k=s at b1
 unfold z4i
 rw[hn,bsS,j4Y,bsS,k1,k1h,bsS,q3P (by omega),tnC,k3,bsS,q3P (by omega),tnC,h2,bsS,q3P (k5w b1)]
theorem j7M {g:Gm_}(hS:Shape g){r:Rule}(hr:r∈g.Rules){A:List (List Rl_)}(hA:InvS g A){c:List Nat}(h:Ch g r A c) :
  z1Y g r A (iL c)=some (z3V g r A c):=by
 unfold z1Y
 obtain⟨s',e,hp⟩:=z5U (P:=fun k s=>s=(z3V g r A c).take k) (f:=z4i g r A) (xs:=iL c) (i:=0) (s:=[]) (by rw[List.take_zero]) fun k x s hx hs=>by
  rw[Nat.zero_add] at hs ⊢
  rw[k3s] at hx
  cases hd:c[k]? with
  | none=>rw[hd] at hx;cases hx
  | some d=>
   rw[hd] at hx
   have hx:(d:Int)=x:=Option.some.inj hx
   rw[hs,← hx]
   exact⟨_,j8Y hS hr hA h hd,rfl⟩
 rw[e,hp,k1f,Nat.zero_add,h.1,← z7I h,List.take_length];rfl
theorem k4M (l:List Rl_)(s:Rl_):z5q l s=some (decide (s∈l)):=by
 unfold z5q
 rw[z5H (q:=fun f:Rl_=>decide (f=s)) (c:=fun _=>true) fun j x hx=>by
  unfold j1R
  rw[z6K,bsS,← apply_ite some]]
 cases e:l.findIdx? fun f=>decide (f=s) with
 | none=>
  rw[List.findIdx?_eq_none_iff] at e
  have:¬ s∈l:=fun h=>by
   have:=e s h
   simp at this
  rw[decide_eq_false this];rfl
 | some j=>
  rw[List.findIdx?_eq_some_iff_getElem] at e
  obtain⟨hj,h1,h2⟩:=e
  have h1:l[j]=s:=of_decide_eq_true h1
  have:s∈l:=h1▸List.getElem_mem hj
  rw[decide_eq_true this];rfl
theorem k4N {g:Gm_}(h0:Sz.szd g≤1048576)(hS:Shape g){r:Rule}(hr:r∈g.Rules){A:List (List Rl_)}(hA:InvS g A){q:List (List Rl_)×Bool}(hi:InvS g q.1){c:List Nat}(h:Ch g r A c)(k:Nat) :
  z2N g A r (atI g r.Left) k (iL c) q=some (stA (atN g r.Left) (ownR g r A c) q):=by
 obtain⟨B,b⟩:=q
 obtain⟨h1,h2,h3,h4,h5⟩:=hi.at_ (hS.left hr)
 have hle:=hi.le hS (hS.left hr)
 dsimp only at h1 h2 h3 h4 h5 hle
 have hgd:B.getD (atN g r.Left) []=lsA g B r.Left:=rfl
 obtain⟨e1,_,_⟩:=z6L h0 (Nat.le_trans (z1c hr) h0) (j5k hS hr hA h)
 have h3r:=j5g hS hr
 unfold z2N stA
 dsimp only
 rw[j7M hS hr hA h,bsS,e1,bsS,(j6y (z0A h0) (by show r.Right.length≤1048576;omega) _).1,bsS,h1,q3P (by omega),tnC,h3,bsS,k4M,bsS,hgd]
 rw[show sumS g r (q8Z g r (z3V g r A c))=ownR g r A c from rfl]
 by_cases hm:ownR g r A c∈lsA g B r.Left
 ·rw[ifP (decide_eq_true hm),ifP hm];rfl
 ·rw[decide_eq_false hm,ifN Bool.false_ne_true,ifN hm,q3P (k5w hle)];rfl
theorem k1i {g:Gm_}(h0:Sz.szd g≤1048576)(hS:Shape g){r:Rule}(hr:r∈g.Rules){A:List (List Rl_)}(hA:InvS g A):∀ (cs:List (List Nat)) (k:Nat) (q:List (List Rl_)×Bool),(∀ c∈cs,Ch g r A c)→InvS g q.1→Ext A q.1 →
  eachL (z2N g A r (atI g r.Left)) k (cs.map iL) q=some (cs.foldl (fun q c=>stA (atN g r.Left) (ownR g r A c) q) q)
 | [],k,q,_,_,_=>rfl
 | c::cs,k,q,hc,hi,he=>by
  have mv:=k4L (A:=A) hS hr (q:=q) hi he (j7K h0 hS r (q8Z g r (z3V g r A c)))
  rw[List.map_cons,eachL,k4N h0 hS hr hA hi (hc c (by simp)),bsS,List.foldl_cons]
  exact k1i h0 hS hr hA cs (k+1) _ (fun x hx=>hc x (by simp[hx])) mv.inv mv.ext
theorem k1j {g:Gm_}(h0:Sz.szd g≤1048576)(hS:Shape g){A:List (List Rl_)}(hA:InvS g A):∀ (rs:List Rule) (i:Nat) (q:List (List Rl_)×Bool),(∀ r∈rs,r∈g.Rules)→InvS g q.1→Ext A q.1 →
  eachL (z2O g A) i rs q=some (rs.foldl (runR g A) q)
 | [],i,q,_,_,_=>rfl
 | r::rs,i,q,hrs,hi,he=>by
  have hr:=hrs r (by simp)
  have mv:=k3r h0 hS hr hi he
  have hl:A.length≤1048576:=by have h1:=hA.1;have h2:=hS.syms.2;omega
  have e:z2O g A i r q=some (runR g A q r):=by
   unfold z2O
   obtain⟨B,b⟩:=q
   dsimp only
   rw[j2n hl,bsS,j1a hS hr hA,bsS,j4Y,bsS,k1i h0 hS hr hA _ 0 (B,b) (fun c hc=>k2Q hc) hi he,bsS]
   rfl
  rw[eachL,e,bsS,List.foldl_cons]
  exact k1j h0 hS hA rs (i+1) _ (fun x hx=>hrs x (by simp[hx])) mv.inv mv.ext
theorem j1b {g:Gm_}(h0:Sz.szd g≤1048576)(hS:Shape g){A:List (List Rl_)}(hA:InvS g A):z2q g A=some (z6j g A):=by
 have hl:A.length≤4:=by have h1:=hA.1;have h2:=hS.syms.2;omega
 unfold z2q
 rw[z5Y (g:=fun l:List Rl_=>l) (B:=1048576) A 0 [] (fun k x s hx hs=>by
  obtain⟨j,hj⟩:=List.getElem?_of_mem hx
  have hlt:=(List.getElem?_eq_some_iff.1 hj).1
  obtain⟨y,hy⟩:∃ y,g.Symbols[j]?=some y:=⟨_,List.getElem?_eq_getElem (by rw[← hA.1];exact hlt)⟩
  have hx16:x.length≤16:=z6M (hS.plain y.Name) (hA.2 j y x hy hj).1 (hA.2 j y x hy hj).2
  unfold z8C
  rw[q3P (by rw[List.length_nil];constructor<;>omega),q3P (by constructor<;>omega)]) (by rw[List.length_nil];omega),bsS,List.nil_append,List.map_id',k1j h0 hS hA g.Rules 0 (A,false) (fun _ h=>h) hA (.rfl' A),bsS]
 rfl
def Hp (A:List (List Rl_))(hs:List Int):Prop:=∀ j,hs.getD j 0≠0→A.getD j []≠[]
theorem Hp.set {A:List (List Rl_)}{hs:List Int}(h:Hp A hs){k:Nat}{v:Int}(hk:A.getD k []≠[]):Hp A (hs.set k v):=fun j hj=>by
 by_cases e:k=j
 ·rw[← e];exact hk
 ·refine h j ?_
  rw[List.getD_eq_getElem?_getD,List.getElem?_set_ne e,← List.getD_eq_getElem?_getD] at hj
  exact hj
theorem j2o {g:Gm_}{r:Rule}:∀ (l l' : List Rl_) (k:Nat) (o o' : Rl_),l.length=l'.length→(∀ (i:Nat) (x y:Rl_),l[i]?=some x→l'[i]?=some y→∀ a b:Nat,hasP x (a:Int) (b:Int)→hasP y (a:Int) (b:Int))→Sub o o'→Sub (z2G g r k l o) (z2G g r k l' o')
 | [],[],k,o,o',_,_,hs=>hs
 | [],_::_,k,o,o',hl,_,hs=>by simp at hl
 | _::_,[],k,o,o',hl,_,hs=>by simp at hl
 | x::l,y::l',k,o,o',hl,h,hs=>by
  rw[z2G,z2G]
  exact j2o l l' (k+1) _ _ (by simpa using hl) (fun i a b ha hb=>h (i+1) a b ha hb) (j8X (h 0 x y rfl rfl) g r _ hs)
theorem k1k {g:Gm_}{r:Rule}{l l' : List Rl_}(hl:l.length=l'.length)(h:∀ (i:Nat) (x y:Rl_),l[i]?=some x→l'[i]?=some y→∀ a b:Nat,hasP x (a:Int) (b:Int)→hasP y (a:Int) (b:Int)):q8Z g r l=q8Z g r l'∨Sub (q8Z g r l) (q8Z g r l'):=by
 unfold q8Z
 by_cases h16:16<(occL g r).length
 ·rw[ifP h16,ifP h16];exact .inl rfl
 ·rw[ifN h16,ifN h16]
  by_cases hv:Valid (locR g r)
  ·exact .inr ((j2o l l' 0 _ _ hl h (Sub.refl hv)).close2)
  ·rw[j3z g r l 0 _ (.inl hv),j3z g r l' 0 _ (.inl hv)];exact .inl rfl
def Bel (g:Gm_)(A:List (List Rl_))(u:List Rl_):Prop:=∀ n,(q6l g n).2=true→∀ s∈lsA g A n,Sub s (z3U g u n)
def fixU (g:Gm_)(u:List Rl_)(r:Rule):Prop:=uniR (z3U g u r.Left) (sumS g r (q8Z g r (z1H g r u)))=z3U g u r.Left
theorem j7N {g:Gm_}(hS:Shape g){r:Rule}(hr:r∈g.Rules){A:List (List Rl_)}{u:List Rl_}(hb:Bel g A u){c:List Nat}(h:Ch g r A c):q8Z g r (z3V g r A c)=q8Z g r (z1H g r u)∨Sub (q8Z g r (z3V g r A c)) (q8Z g r (z1H g r u)):=by
 refine k1k (by rw[z7I h];unfold z1H;rw[lnM]) fun i x y hx hy a b hp=>?_
 have hlt:=(List.getElem?_eq_some_iff.1 hx).1
 rw[z7I h] at hlt
 obtain⟨n,hn⟩:∃ n,r.Right[i]?=some n:=⟨_,List.getElem?_eq_getElem hlt⟩
 obtain⟨d,hd⟩:∃ d,c[i]?=some d:=⟨_,List.getElem?_eq_getElem (by rw[h.1];exact hlt)⟩
 obtain⟨own,h1,h2⟩:=j3C h hn hd
 rw[hx] at h1;cases h1
 have h3:=hb n (hS.right hr (List.mem_of_getElem? hn)) x (List.mem_of_getElem? h2)
 unfold z1H at hy
 rw[List.getElem?_map,hn] at hy
 cases hy
 exact (z8i h3.2.1 a b).2 (h3.2.2.2 a b ((z8i h3.1 a b).1 hp))
theorem k4O {g:Gm_}(h0:Sz.szd g≤1048576)(hS:Shape g){r:Rule}(hr:r∈g.Rules){A:List (List Rl_)}{u:List Rl_}(hu:Inv g u)(hf:fixU g u r)(hb:Bel g A u){c:List Nat}(h:Ch g r A c):Sub (ownR g r A c) (z3U g u r.Left):=by
 have hp:=hS.plain r.Left
 obtain⟨x,y,e1,e2,e3⟩:=k2M (z0A h0) (r:=r) (by omega) (j7N hS hr hb h)
 have ex:ownR g r A c=x:=by unfold ownR sumS;rw[e1];rfl
 have ey:sumS g r (q8Z g r (z1H g r u))=y:=by unfold sumS;rw[e2];rfl
 have ho:=j7K h0 hS r (q8Z g r (z1H g r u))
 obtain⟨j,h1,h2,h4,h5,h6⟩:=hu.at_ (hS.left hr)
 unfold fixU at hf
 rw[ey] at hf ho
 rw[ex]
 exact e3.trans (k2N h5 ho.1 (by rw[h6,ho.2.1]) hf)
theorem k5x {g:Gm_}(hS:Shape g){r:Rule}(hr:r∈g.Rules){u:List Rl_}{q:List (List Rl_)×Bool}(hi:InvS g q.1)(hb:Bel g q.1 u){s:Rl_}(hs:Sub s (z3U g u r.Left)):Bel g (stA (atN g r.Left) s q).1 u:=by
 unfold stA
 by_cases hm:s∈q.1.getD (atN g r.Left) []
 ·rw[ifP hm];exact hb
 ·rw[ifN hm]
  intro n hn t ht
  unfold lsA at ht
  dsimp only at ht
  rw[List.getD_eq_getElem?_getD,List.getElem?_set] at ht
  obtain⟨h1,h2,_⟩:=hi.at_ (hS.left hr)
  by_cases e:atN g r.Left=atN g n
  ·rw[ifP e,ifP h2,Option.getD_some] at ht
   obtain⟨y,_,h7,h8⟩:=z9r (hS.left hr)
   obtain⟨z,_,h9,h10⟩:=z9r hn
   rw[e,h9] at h7
   cases h7
   have en:n=r.Left:=by rw[← h10,h8]
   subst en
   rcases List.mem_append.1 ht with ht|ht
   ·exact hb _ hn t ht
   ·rw[List.mem_singleton] at ht;subst ht;exact hs
  ·rw[ifN e,← List.getD_eq_getElem?_getD] at ht
   exact hb n hn t ht
theorem j3D {α σ:Type}{P:σ→Prop}{f:σ→α→σ}:∀ (l:List α) (q:σ),P q→(∀ q x,x∈l→P q→P (f q x))→P (l.foldl f q)
 | [],q,h,_=>h
 | x::l,q,h,hf=>j3D l (f q x) (hf q x (by simp) h) fun q y hy=>hf q y (by simp[hy])
theorem k1l {g:Gm_}(h0:Sz.szd g≤1048576)(hS:Shape g){A:List (List Rl_)}{u:List Rl_}(hA:InvS g A)(hu:Inv g u)(hf:∀ r∈g.Rules,fixU g u r)(hb:Bel g A u):Bel g (z6j g A).1 u:=by
 have key:=j3D (P:=fun q:List (List Rl_)×Bool=>InvS g q.1∧Ext A q.1∧Bel g q.1 u) (f:=runR g A) g.Rules (A,false) ⟨hA,.rfl' A,hb⟩ fun q r hr hq=>
  j3D (P:=fun q:List (List Rl_)×Bool=>InvS g q.1∧Ext A q.1∧Bel g q.1 u) (f:=fun q c=>stA (atN g r.Left) (ownR g r A c) q) (chL (z2I g r A)) q hq fun q c hc hq=>by
   have mv:=k4L (A:=A) hS hr hq.1 hq.2.1 (j7K h0 hS r (q8Z g r (z3V g r A c)))
   exact⟨mv.inv,mv.ext,k5x hS hr hq.1 hq.2.2 (k4O h0 hS hr hu (hf r hr) hb (k2Q hc))⟩
 exact key.2.2
theorem sall {g:Gm_}(h0:Sz.szd g≤1048576)(hS:Shape g){u:List Rl_}(hu:Inv g u)(hf:∀ r∈g.Rules,fixU g u r):∀ (d:Nat) (A:List (List Rl_)),InvS g A→Bel g A u→g.Symbols.length*16-tot A≤d →
  ∃ A',q5s (q7Y g) A=some (A',true)∧InvS g A'∧Bel g A' u:=by
 intro d
 induction d with
 | zero=>
  intro A hi hb' hd
  have mv:=j7L h0 hS hi
  have hb:=mv.inv.bound hS
  have hc:(z6j g A).2=false:=by
   cases hq:(z6j g A).2 with
   | false=>rfl
   | true=>
    rcases mv.up hq with h|h
    ·cases h
    ·dsimp only at h;omega
  have hno:=mv.no hc
  exact⟨A,q3U (by unfold q7Y;rw[j1b h0 hS hi,bsS,hno];rfl),hi,hb'⟩
 | succ d ih=>
  intro A hi hb' hd
  have mv:=j7L h0 hS hi
  have hb:=mv.inv.bound hS
  cases hq:(z6j g A).2 with
  | false=>
   have hno:=mv.no hq
   exact⟨A,q3U (by unfold q7Y;rw[j1b h0 hS hi,bsS,hno];rfl),hi,hb'⟩
  | true=>
   have hlt:tot A<tot (z6j g A).1:=by
    rcases mv.up hq with h|h
    ·cases h
    ·exact h
   obtain⟨A',h2,h3,h4⟩:=ih (z6j g A).1 mv.inv (k1l h0 hS hi hu hf hb') (by omega)
   refine⟨A',?_,h3,h4⟩
   have s1:q7Y g A=some (.inl (z6j g A).1):=by
    unfold q7Y
    rw[j1b h0 hS hi,bsS]
    generalize hR:z6j g A=R at hq
    obtain⟨R1,R2⟩:=R
    dsimp only at hq ⊢
    subst hq;rfl
   rw[q4G s1];exact h2
theorem j8Z {g:Gm_}(h0:Sz.szd g≤1048576)(hS:Shape g){u:List Rl_}(hu:Inv g u)(hf:∀ r∈g.Rules,fixU g u r) :
  ∃ A,q5s (q7Y g) (List.replicate g.Symbols.length [])=some (A,true)∧InvS g A∧Bel g A u:=by
 refine sall h0 hS hu hf _ (List.replicate g.Symbols.length []) ⟨by rw[List.length_replicate],fun k y L _ hL=>?_⟩ (fun n _ s hs=>?_) (Nat.le_refl _)
 ·rw[List.getElem?_replicate] at hL
  split at hL
  ·cases hL;exact⟨List.nodup_nil,fun a ha=>by simp at ha⟩
  ·cases hL
 ·unfold lsA at hs
  rw[List.getD_eq_getElem?_getD,List.getElem?_replicate] at hs
  split at hs<;>simp at hs
theorem k1m {g:Gm_}(h0:Sz.szd g≤1048576)(hS:Shape g){r:Rule}(hr:r∈g.Rules){all:List Rl_}(h:Inv g all)(c:Bool)(i:Nat) :
  ∃ c' all',q5y g i r (c,all)=some (c',all')∧Inv g all'∧(c'=false→c=false∧all'=all∧fixU g all r):=by
 obtain⟨c',all',_,e2,e3,_,_⟩:=z7G h0 hS hr h c i
 refine⟨c',all',e2,e3,fun hc=>?_⟩
 subst hc
 obtain⟨j,h1,h2,h4,h5,h6⟩:=h.at_ (hS.left hr)
 have hs:=Nat.le_trans (z1c hr) h0
 have hA:atI g r.Left=(j:Int):=by unfold atI;rw[h1]
 have hsum:=j6y (z0A h0) (q7C hs) (q8Z g r (z1H g r all))
 have hcs:=(z6L h0 hs (z7F hS hr h)).1
 have hlen:=h5.len
 generalize hnew:uniR (z3U g all r.Left) (sumS g r (q8Z g r (z1H g r all)))=new
 have e:q5y g i r (c,all)=some (c || !decide (new=z3U g all r.Left),all.set j new):=by
  unfold q5y
  dsimp only
  rw[j4Y,bsS,hA,q3P (by omega),tnC,h4,bsS,j3x hS hr h,bsS,hcs,bsS,hsum.1,bsS,j6v (by omega),bsS,hnew]
  cases c with
  | true=>first|rfl|(rw[bsS,ifP rfl,q3P (by omega),bsS];rfl)
  | false=>first|(rw[ifN (by simp),z6K];rfl)|(rw[bsS,ifN (by simp),q3P (by omega),bsS,z6K];rfl)
 rw[e] at e2
 have e2:=Option.some.inj e2
 have ec:=congrArg Prod.fst e2
 have ea:=congrArg Prod.snd e2
 dsimp only at ec ea
 rw[Bool.or_eq_false_iff] at ec
 obtain⟨c0,c1⟩:=ec
 have hn:new=z3U g all r.Left:=by simpa using c1
 refine⟨c0,?_,by unfold fixU;rw[hnew,hn]⟩
 rw[← ea,hn]
 apply List.ext_getElem?
 intro k
 rw[List.getElem?_set]
 by_cases hk:j=k
 ·subst hk;rw[ifP rfl,ifP (by rw[h.1];exact h2),h4]
 ·rw[ifN hk]
theorem j2p {g:Gm_}(h0:Sz.szd g≤1048576)(hS:Shape g):∀ (rs:List Rule) (i:Nat) (c:Bool) (all:List Rl_),(∀ r∈rs,r∈g.Rules)→Inv g all →
  ∃ c' all',eachL (q5y g) i rs (c,all)=some (c',all')∧Inv g all'∧(c'=false→c=false∧all'=all∧∀ r∈rs,fixU g all r)
 | [],i,c,all,_,h=>⟨c,all,rfl,h,fun hc=>⟨hc,rfl,fun r hr=>by simp at hr⟩⟩
 | r::rs,i,c,all,hr,h=>by
  obtain⟨c1,a1,e2,e3,e4⟩:=k1m h0 hS (hr r (by simp)) h c i
  obtain⟨c2,a2,f2,f3,f4⟩:=j2p h0 hS rs (i+1) c1 a1 (fun x hx=>hr x (by simp[hx])) e3
  refine⟨c2,a2,by rw[eachL,e2,bsS,f2],f3,fun hc=>?_⟩
  obtain⟨g1,g2,g3⟩:=f4 hc
  obtain⟨k1,k2,k3⟩:=e4 g1
  subst k2
  refine⟨k1,g2,fun x hx=>?_⟩
  rcases List.mem_cons.1 hx with e|e
  ·rw[e];exact k3
  ·exact g3 x e
theorem j5l {g:Gm_}(h0:Sz.szd g≤1048576)(hS:Shape g):∀ (n:Nat) (s q:List Rl_),Inv g s→z6R (q4M g) n s=some (q,true)→Inv g q∧∀ r∈g.Rules,fixU g q r
 | 0,s,q,_,h=>by cases h
 | n+1,s,q,hs,h=>by
  obtain⟨c,a,e2,e3,e4⟩:=j2p h0 hS g.Rules 0 false s (fun _ h=>h) hs
  have e:q4M g s=some (if c=true then .inl a else .inr (a,true)):=by
   unfold q4M
   rw[e2,bsS]
   cases c<;>rfl
  rw[z6R,e,bsS] at h
  cases c with
  | true=>exact j5l h0 hS n a q e3 h
  | false=>
   cases h
   obtain⟨_,h2,h3⟩:=e4 rfl
   rw[h2]
   exact⟨hs,h3⟩
theorem k4P {g:Gm_}(h0:Sz.szd g≤1048576)(hg:z5I g=true):∃ u,q5d g=some (u,true)∧q6e g=some (u,true)∧Inv g u∧∀ r∈g.Rules,fixU g u r:=by
 have hS:=z3T hg
 obtain⟨u,b,h1,h2,h3,h4,_⟩:=z8q h0
 rw[hg] at h3
 subst h3
 refine⟨u,h2,h1,?_⟩
 have h2':=h2
 unfold q5d at h2'
 rw[z7D h0,hg,bsS,ifP rfl,j0T h0 hS,bsS] at h2'
 have h5:q5s (q4M g) (z6i g)=some (u,true):=by
  cases e:q5s (q4M g) (z6i g) with
  | none=>rw[e] at h2';cases h2'
  | some y=>rw[e] at h2';exact h2'
 obtain⟨n,hn⟩:=z3l.1 h5
 exact j5l h0 hS n _ _ (j5h hS) hn
theorem GB.gc2 {g:Gm_}(h:GB g):GC2 g:=⟨h.1,h.2.1,h.2.2.1,fun r hr=>by obtain⟨a,c,d⟩:=h.2.2.2 r hr;exact⟨a,by omega,d⟩⟩
theorem k1n {b:List UInt8}(hb:b.length≤1048576):Ok GC2 (q8h b):=by
 unfold q8h
 obtain⟨z,hz,hz1,hz2⟩:=k5m hb
 obtain⟨zb,zi,zh⟩:=z
 dsimp only at hz1 hz2
 subst hz2
 refine .eq hz ?_
 refine drK (q9e hb _ (cb hz1)) fun y i1 h1 _ hi1=>.ite (fun _=>?_) fun _=>?_
 ·exact drK (k0X hb hi1) fun g i2 h2 hg hi2=>.ret hg
 ·exact drK (j5f hb true hi1) fun g i2 h2 hg hi2=>.ret (GB.gc2 hg)
noncomputable def j1c (g:Gm_) (r:Rule) (A:List (List Rl_)) (c:List Nat):Bool:=j1w (q8Z g r (z3V g r A c))
noncomputable def j6C (g:Gm_) (A:List (List Rl_)) (r:Rule):Bool:=(chL (z2I g r A)).any (j1c g r A)
theorem j2q {g:Gm_}(h0:Sz.szd g≤1048576)(hS:Shape g){r:Rule}(hr:r∈g.Rules){A:List (List Rl_)}(hA:InvS g A):∀ (cs:List (List Nat)) (k:Nat),(∀ c∈cs,Ch g r A c) →
  findL (z1r g A r) k (cs.map iL) ()=some (if cs.any (j1c g r A)=true then .inr true else .inl ())
 | [],k,_=>rfl
 | c::cs,k,hc=>by
  have h:=hc c (by simp)
  obtain⟨e1,_,e3⟩:=z6L h0 (Nat.le_trans (z1c hr) h0) (j5k hS hr hA h)
  have e:z1r g A r k (iL c) ()=some (if j1c g r A c=true then .inr true else .inl ()):=by
   unfold z1r
   rw[j7M hS hr hA h,bsS,e1,bsS,j7A (by omega),bsS,← apply_ite some];rfl
  rw[List.map_cons,findL,e,bsS,List.any_cons]
  cases hl:j1c g r A c with
  | true=>rfl
  | false=>
   rw[Bool.false_or]
   exact j2q h0 hS hr hA cs (k+1) fun x hx=>hc x (by simp[hx])
theorem j2r {g:Gm_}(h0:Sz.szd g≤1048576)(hS:Shape g){A:List (List Rl_)}(hA:InvS g A):∀ (d i:Nat),g.Rules.length-i=d→i≤g.Rules.length →
  q5s (q8r g A true) (i:Int)=some (if (g.Rules.drop i).any (j6C g A)=true then .inr true else .inl ())
 | 0,i,hd,hi=>by
  have:g.Rules.drop i=[]:=List.drop_eq_nil_of_le (by omega)
  rw[this]
  exact q3U (by unfold q8r;rw[ifN (by omega)];rfl)
 | d+1,i,hd,hi=>by
  have hlt:i<g.Rules.length:=by omega
  have hl:A.length≤1048576:=by have h1:=hA.1;have h2:=hS.syms.2;omega
  have hrl:=hS.rules.2
  obtain⟨r,hr⟩:∃ r,g.Rules[i]?=some r:=⟨_,List.getElem?_eq_getElem hlt⟩
  have hm:=List.mem_of_getElem? hr
  have hdrop:g.Rules.drop i=r::g.Rules.drop (i+1):=by
   rw[List.drop_eq_getElem_cons hlt];rw[List.getElem?_eq_getElem hlt] at hr;rw[Option.some.inj hr]
  have e:q8r g A true (i:Int)=some (if j6C g A r=true then .inr (.inr true) else .inl ((i+1:Nat):Int)):=by
   unfold q8r
   rw[ifP (by omega),ifP rfl,q3P (by omega),tnC,hr,bsS,j2n hl,bsS,j1a hS hm hA,bsS,j2q h0 hS hm hA _ 0 fun c hc=>k2Q hc,bsS]
   rw[show ((chL (z2I g r A)).any (j1c g r A))=j6C g A r from rfl]
   cases j6C g A r with
   | true=>rfl
   | false=>rw[ifN Bool.false_ne_true,ifN Bool.false_ne_true,z2c];exact q3P ⟨by omega,by omega⟩
  rw[hdrop,List.any_cons]
  cases hc:j6C g A r with
  | true=>rw[hc] at e;exact q3U e
  | false=>
   rw[hc] at e
   rw[Bool.false_or,q4G e]
   exact j2r h0 hS hA d (i+1) (by omega) (by omega)
theorem k2R {g:Gm_}{k:Nat}{y:Symbol}(hk:g.Symbols[k]?=some y):(q6l g y.Name).2=true:=by
 unfold q6l
 cases e:g.Symbols.find? fun z=>decide (z.Name=y.Name) with
 | none=>exact absurd ((List.find?_eq_none.1 e) y (List.mem_of_getElem? hk)) (by simp)
 | some z=>rfl
theorem k1o {g:Gm_}(hS:Shape g){r:Rule}(hr:r∈g.Rules){A:List (List Rl_)}{u:List Rl_}(hb:Bel g A u)(hl:j1w (q8Z g r (z1H g r u))=false){c:List Nat}(h:Ch g r A c):j1c g r A c=false:=by
 unfold j1c
 rcases j7N hS hr hb h with e|e
 ·rw[e];exact hl
 ·exact k2O e hl
theorem k2S {g:Gm_}(h0:Sz.szd g≤1048576):q6b g=some (z5I g&&decide (((z8M g).length:Int)=0))∧q6a g=some (z5I g&&decide (((z8M g).length:Int)=0)):=by
 obtain⟨h1,h2⟩:=j2k h0
 unfold q6b q6a
 rw[j7y h0,z7D h0,bsS,bsS]
 cases z5I g with
 | false=>exact⟨rfl,rfl⟩
 | true=>rw[ifP rfl,ifP rfl,h1,h2];exact⟨rfl,rfl⟩
theorem k3t {x:Rl_}(hx:x.Rows.length≤1048576):∀ (xs:List Rl_) (k:Nat),(∀ s∈xs,Sub s x)→findL (z2P x) k xs ()=some (.inl ())
 | [],k,_=>rfl
 | s::xs,k,h=>by
  have e:z2P x k s ()=some (.inl ()):=by
   unfold z2P
   rw[k5t hx (h s (by simp)).uni,bsS,ifP rfl]
  rw[findL,e,bsS]
  exact k3t hx xs (k+1) fun t ht=>h t (by simp[ht])
theorem k3u {g:Gm_}(hS:Shape g){A:List (List Rl_)}{u:List Rl_}(hA:InvS g A)(hu:Inv g u)(hb:Bel g A u):∀ (xs:List Rl_) (k:Nat),(∀ j x,xs[j]?=some x→u[k+j]?=some x)→findL (z2Q u A) k xs ()=some (.inl ())
 | [],k,_=>rfl
 | x::xs,k,h=>by
  have hx:u[k]?=some x:=h 0 x rfl
  have hlt:=(List.getElem?_eq_some_iff.1 hx).1
  obtain⟨y,hy⟩:∃ y,g.Symbols[k]?=some y:=⟨_,List.getElem?_eq_getElem (by rw[← hu.1];exact hlt)⟩
  obtain⟨L,hL⟩:∃ L,A[k]?=some L:=⟨_,List.getElem?_eq_getElem (by rw[hA.1,← hu.1];exact hlt)⟩
  have hat:=hS.at_ hy
  have hk:=k2R hy
  have e1:z3U g u y.Name=x:=by
   unfold z3U
   rw[hat,Option.getD_some,List.getD_eq_getElem?_getD,hx];rfl
  have e2:lsA g A y.Name=L:=by
   unfold lsA atN
   rw[hat,Option.getD_some,List.getD_eq_getElem?_getD,hL];rfl
  have hv:=(hu.2 k y x hy hx).1
  have e:z2Q u A k x ()=some (.inl ()):=by
   unfold z2Q
   rw[hx,bsS,z6K,bsS,decide_eq_true rfl,ifP rfl,hL,bsS,k3t (by have:=hv.len;omega) L 0 fun s hs=>by
    have:=hb y.Name hk s (by rw[e2];exact hs)
    rwa[e1] at this];rfl
  rw[findL,e,bsS]
  exact k3u hS hA hu hb xs (k+1) fun j y hy=>by rw[show k+1+j=k+(j+1) by omega];exact h (j+1) y hy
theorem k1p {g:Gm_}(h0:Sz.szd g≤1048576)(hg:z5I g=true){A:List (List Rl_)}{u:List Rl_}(hu:q5d g=some (u,true))(hs:q7u g=some (A,true))(hA:InvS g A)(hb:Bel g A u)(hc:((z8M g).length:Int)=0):z0u g=some false:=by
 have hS:=z3T hg
 have hq:uniL g=u:=by unfold uniL;rw[hu];rfl
 have hno:∀ r∈g.Rules,j1w (q8Z g r (z1H g r u))=false:=fun r hr=>by
  unfold z8M at hc
  rw[ifP hg,lnM] at hc
  have h1:g.Rules.filter (j0U g)=[]:=List.length_eq_zero_iff.1 (by omega)
  have h2:=(List.filter_eq_nil_iff.1 h1) r hr
  have h3:j0U g r=false:=by simpa using h2
  unfold j0U at h3
  rwa[hq] at h3
 have hr:g.Rules.any (j6C g A)=false:=by
  rw[List.any_eq_false]
  intro r hr h
  unfold j6C at h
  obtain⟨c,h1,h2⟩:=List.any_eq_true.1 h
  rw[k1o hS hr hb (hno r hr) (k2Q h1)] at h2
  cases h2
 have key:=j2r h0 hS hA g.Rules.length 0 (by omega) (by omega)
 rw[List.drop_zero,hr,ifN Bool.false_ne_true] at key
 unfold z0u
 rw[hs,bsS]
 dsimp only
 rw[show q5s (q8r g A true) 0=_ from key]
 rfl
theorem j6D (a:List UInt8):z4j a=some true:=by
 unfold z4j j7g
 rw[bsS]
 by_cases hb:1048576<(a.length:Int)
 ·rw[ifP (by simpa using hb)]
 rw[ifN (by simpa using hb)]
 have hb:a.length≤1048576:=by omega
 obtain⟨g,e,hg⟩:=k1n hb
 have hG:=szG hg
 have hgd:j0g g=some (z5I g):=by
  unfold j0g
  rw[j7x hG,bsS];rfl
 obtain⟨v1,v2⟩:=k2S hG
 have c2:=(j2k hG).2
 unfold q7q
 rw[e,bsS,bsS]
 cases hgb:z5I g with
 | false=>
  obtain⟨q,b,h1,h2,h3,h4,h5⟩:=z8q hG
  rw[hgb] at h3
  subst h3
  rw[h5 hgb] at h1 h2
  have hs:q7u g=some ([],false):=by unfold q7u;rw[z7D hG,hgb,bsS];rfl
  rw[hgb] at v1 v2 hgd
  rw[h1,h2,hs,v1,v2,hgd]
  simp[findL,onr]
 | true=>
  have hS:=z3T hgb
  obtain⟨u,u1,u2,u3,u4⟩:=k4P hG hgb
  obtain⟨A,a1,a2,a3⟩:=j8Z hG hS u3 u4
  have hn:=hS.syms.2
  have hs:q7u g=some (A,true):=by
   unfold q7u
   rw[z7D hG,hgb,bsS,ifP rfl,q3P (by refine⟨?_,?_,?_⟩<;>omega),a1];rfl
  rw[hgb] at v1 v2 hgd
  have hO:=k3u hS a2 u3 a3 u 0 fun j x h=>by rw[Nat.zero_add];exact h
  have hcn:=k1p hG hgb u1 hs a2 a3
  rw[u2,u1,hs,v1,v2,hgd,c2]
  simp only[bsS,if_true,decide_true,Bool.not_true,Bool.false_eq_true,if_false,hO,z2c,Bool.true_and]
  by_cases hc:((z8M g).length:Int)=0
  ·rw[hcn hc]
   simp[hc]
  ·rw[decide_eq_false hc];rfl
end Go.Proofs.YtomdlgffolbdkaaGreat
