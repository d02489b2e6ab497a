/- What those partial functions come to: plain lemmas on data; each bears its conditions in its statement. -/
import Derived.Test.YtppbkkcekpbaiaaGreatMath1
set_option linter.unusedVariables false
set_option linter.unusedSimpArgs false
set_option linter.ambiguousOpen false
set_option linter.unusedSectionVars false
set_option linter.unnecessarySimpa false
namespace Go.Proofs.YtppbkkcekpbaiaaGreat
open Go Go.E
def q5N (g:Gm_)(s:ByteArray):List At_:=(q6Z g s).1.Attributes.filter j0h
theorem j0l {g:Gm_}(h:GOk g)(s:ByteArray):(q5N g s).length≤1048576:=Nat.le_trans (List.length_filter_le _ _) (z4F h s)
theorem j7o {l:List At_}(h:l.length≤1048576):eachL q6e 0 l []=some (l.filter j0h):=by
 have:=z5Q (p:=j0h) (g:=fun x:At_=>x) (B:=1048577) (f:=q6e) (fun k x s hs=>by
  have hg:((s.length:Int)+1)*40≤140737488355328∧(s.length:Int)+1≤9223372036854775807:=by constructor<;>omega
  unfold q6e j0h
  rw[q3E hg]
  by_cases m1:x.Mode=1
  ·rw[ifP m1,ifP (by simp[m1])];rfl
  ·rw[ifN m1]
   by_cases m2:x.Mode=2
   ·rw[ifP m2,ifP (by simp[m2])];rfl
   ·rw[ifN m2,ifN (by simp[m1,m2])];rfl) l 0 [] (by simp;omega)
 rw[this];simp
theorem j3f {g:Gm_}(h:GOk g)(s:ByteArray):q5z g s=some (q5N g s):=by
 unfold q5z q5N
 rw[z3m h,bsS]
 try dsimp only
 rw[j7o (z4F h s)];rfl
theorem z7J {g:Gm_}(h:GOk g)(s:ByteArray):q6u g s=some (q5N g s):=by
 unfold q6u q5N
 rw[z4E,bsS]
 try dsimp only
 rw[j4t,j7o (z4F h s)];rfl
def occK (g:Gm_)(r:Rule)(k:Nat):List Oc:=(q5N g (q5Y r (k:Int))).map fun x=>(⟨(k:Int),x.Name⟩:Oc)
def occL (g:Gm_)(r:Rule):List Oc:=(List.range' 0 (r.Right.length+1)).flatMap (occK g r)
theorem j9R {g:Gm_}(h:GOk g)(r:Rule)(k:Nat):(occK g r k).length≤1048576:=by unfold occK;rw[lnM];exact j0l h _
theorem j8L {g:Gm_}(h:GOk g){r:Rule}(hl:ROk r):q8l g r=some (occL g r):=by
 have hl' : r.Right.length≤1048576:=hl
 have key:=j0i (h:=occK g r) (C:=1048576) (n:=r.Right.length+1) (f:=q7M g r) (fun k s hk hs=>by
  unfold q7M
  rw[z8I hl,bsS,z7J h,bsS,j2V k _ 0 s (by have:=j0l h (q5Y r (k:Int));omega)];rfl)
  (fun k _=>j9R h r k) (r.Right.length+1) 0 [] (by omega) (by simp)
 unfold q8l
 rw[q3E (by constructor<;>omega),key];rfl
theorem k7b {g:Gm_}(h:GOk g){r:Rule}(hl:ROk r):q6B g r=some (occL g r):=by
 have hl' : r.Right.length≤1048576:=hl
 have key:=j2X (h:=occK g r) (C:=1048576) (n:=r.Right.length+1) (f:=q5t g r) (fun k s hk hs=>by
  unfold q5t
  dsimp only
  rw[ifP (by omega),z3v hl,bsS,j3f h,bsS,j9H,j2V k _ 0 s (by have:=j0l h (q5Y r (k:Int));omega),bsS,q3E (by constructor<;>omega)];rfl) (fun s=>by
  unfold q5t;dsimp only;rw[ifN (by omega)]) (fun k _=>j9R h r k) (r.Right.length+1) 0 [] (by omega) (by simp)
 unfold q6B
 have e:q4o (q5t g r) (([]:List Oc),0)=some ([]++(List.range' 0 (r.Right.length+1)).flatMap (occK g r)):=key
 rw[e];rfl
theorem j9S {g:Gm_}(h:GOk g){r:Rule}(hl:ROk r):(occL g r).length≤1099512676352:=by
 obtain⟨l,_,h2,h3⟩:=j9I h hl
 rw[j8L h hl] at h2
 cases h2;exact h3
def posL (g:Gm_)(r:Rule)(k:Int):List Int:=(((occL g r).zipIdx 0).filter fun q=>decide (q.1.Pos=k)).map fun q=>(q.2:Int)
theorem j9T (k:Int){l:List Oc}(h:l.length≤1099512676352):eachL (q7S k) 0 l []=some (((l.zipIdx 0).filter fun q=>decide (q.1.Pos=k)).map fun q=>(q.2:Int)):=by
 have:=j2W (p:=fun x:Oc=>decide (x.Pos=k)) (g:=fun i:Nat=>(i:Int)) (B:=4398046511104) (f:=q7S k) (fun i x s hs=>by
  have hg:((s.length:Int)+1)*8≤140737488355328∧(s.length:Int)+1≤9223372036854775807:=by constructor<;>omega
  unfold q7S
  rw[q3E hg]
  by_cases m1:x.Pos=k
  ·rw[ifP m1,ifP (by simp[m1])];rfl
  ·rw[ifN m1,ifN (by simp[m1])];rfl) l 0 [] (by simp;omega)
 rw[this];simp
theorem k3h {g:Gm_}(h:GOk g){r:Rule}(hl:ROk r)(k:Int):q7a g r k=some (posL g r k):=by
 unfold q7a posL
 rw[k7b h hl,bsS,j9T k (j9S h hl)];rfl
theorem k3i {g:Gm_}(h:GOk g){r:Rule}(hl:ROk r)(k:Int):q9I g r k=some (posL g r k):=by
 unfold q9I posL
 rw[j8L h hl,bsS,j3Q,j9T k (j9S h hl)];rfl
theorem j7p {α:Type}(p:α→Bool):∀ (l:List α) (i:Nat),((l.zipIdx i).filter fun q=>p q.1).length=l.countP p
 | [],i=>rfl
 | x::l,i=>by
  rw[List.zipIdx_cons,List.filter_cons,List.countP_cons]
  have ih:=j7p p l (i+1)
  by_cases hp:p x=true
  ·rw[ifP hp,ifP hp,lnC,ih]
  ·rw[ifN hp,ifN hp,ih];rfl
theorem k7c (g:Gm_){r:Rule}{k:Nat}(hk:k≤r.Right.length):(posL g r (k:Int)).length=(q5N g (q5Y r (k:Int))).length:=by
 unfold posL
 rw[lnM,j7p (fun x:Oc=>decide (x.Pos=(k:Int)))]
 unfold occL
 rw[List.countP_flatMap]
 have hK:∀ j:Nat,(occK g r j).countP (fun x=>decide (x.Pos=(k:Int)))=if j=k then (q5N g (q5Y r (k:Int))).length else 0:=by
  intro j
  unfold occK
  rw[List.countP_map]
  by_cases hj:j=k
  ·subst hj
   rw[ifP rfl,List.countP_eq_length.2 (by simp)]
  ·rw[ifN hj,List.countP_eq_zero.2]
   intro a _
   simp;omega
 have hsum:∀ m i,((List.range' i m).map (List.countP (fun x:Oc=>decide (x.Pos=(k:Int))) ∘ occK g r)).sum=if i≤k∧k<i+m then (q5N g (q5Y r (k:Int))).length else 0:=by
  intro m
  induction m with
  | zero=>intro i;rw[ifN (by omega)];rfl
  | succ m ih=>
   intro i
   rw[List.range'_succ,List.map_cons,List.sum_cons,ih (i+1),Function.comp,hK i]
   by_cases h1:i=k
   ·rw[ifP h1,ifN (by omega),ifP (by omega)];rfl
   ·rw[ifN h1,Nat.zero_add]
    by_cases h2:i+1≤k∧k<i+1+m
    ·rw[ifP h2,ifP (by omega)]
    ·rw[ifN h2,ifN (by omega)]
 rw[hsum,ifP (by omega)]
noncomputable def q9J (own:Rl_) (a:Nat) (x:Int):Nat→List Int→Rl_→Rl_
 | _,[],o=>o
 | i,y::ys,o=>q9J own a x (i+1) ys (if hasP own (a:Int) (i:Int) then addP o x y else o)
noncomputable def z0Y (own:Rl_) (at' : List Int):Nat→List Int→Rl_→Rl_
 | _,[],o=>o
 | a,x::xs,o=>z0Y own at' (a+1) xs (q9J own a x 0 at' o)
theorem z8d (own:Rl_)(a:Nat)(x:Int):∀ (ys:List Int) (i:Nat) (o:Rl_),(q9J own a x i ys o).Rows.length=o.Rows.length∧(q9J own a x i ys o).N=o.N
 | [],i,o=>⟨rfl,rfl⟩
 | y::ys,i,o=>by
  rw[q9J]
  have ih:=z8d own a x ys (i+1) (if hasP own (a:Int) (i:Int) then addP o x y else o)
  by_cases h:hasP own (a:Int) (i:Int)
  ·rw[ifP h] at ih ⊢
   have:=z8a o x y
   exact⟨ih.1.trans this.1,ih.2.trans this.2⟩
  ·rw[ifN h] at ih ⊢;exact ih
theorem z8K (own:Rl_)(at' : List Int):∀ (xs:List Int) (a:Nat) (o:Rl_),(z0Y own at' a xs o).Rows.length=o.Rows.length∧(z0Y own at' a xs o).N=o.N
 | [],a,o=>⟨rfl,rfl⟩
 | x::xs,a,o=>by
  rw[z0Y]
  have ih:=z8K own at' xs (a+1) (q9J own a x 0 at' o)
  have:=z8d own a x at' 0 o
  exact⟨ih.1.trans this.1,ih.2.trans this.2⟩
theorem k3j (own:Rl_)(a:Nat)(x:Int):∀ (ys:List Int) (i:Nat) (o:Rl_),o.Rows.length≤1048576 →
  eachL (z1H own a x) i ys (o.Rows,o.N)=some ((q9J own a x i ys o).Rows,(q9J own a x i ys o).N)∧eachL (z9s own a x) i ys (o.N,o.Rows)=some ((q9J own a x i ys o).N,(q9J own a x i ys o).Rows)
 | [],i,o,_=>⟨rfl,rfl⟩
 | y::ys,i,o,h=>by
  have e1:z1H own a x i y (o.Rows,o.N)=some ((if hasP own (a:Int) (i:Int) then addP o x y else o).Rows,(if hasP own (a:Int) (i:Int) then addP o x y else o).N):=by
   unfold z1H
   dsimp only
   rw[q9i,bsS]
   by_cases hp:hasP own (a:Int) (i:Int)
   ·rw[decide_eq_true hp,ifP rfl,ifP hp,j9F h];rfl
   ·rw[decide_eq_false hp,ifN (by simp),ifN hp];rfl
  have e2:z9s own a x i y (o.N,o.Rows)=some ((if hasP own (a:Int) (i:Int) then addP o x y else o).N,(if hasP own (a:Int) (i:Int) then addP o x y else o).Rows):=by
   unfold z9s
   dsimp only
   rw[z6y,bsS]
   by_cases hp:hasP own (a:Int) (i:Int)
   ·rw[decide_eq_true hp,ifP rfl,ifP hp,j5G,j9F h];rfl
   ·rw[decide_eq_false hp,ifN (by simp),ifN hp];rfl
  have hl:(if hasP own (a:Int) (i:Int) then addP o x y else o).Rows.length≤1048576:=by
   split
   ·rw[(z8a o x y).1];exact h
   ·exact h
  have ih:=k3j own a x ys (i+1) _ hl
  rw[eachL,eachL,e1,e2,bsS,bsS,q9J]
  exact ih
theorem j9U (own:Rl_)(at' : List Int):∀ (xs:List Int) (a:Nat) (o:Rl_),o.Rows.length≤1048576 →
  eachL (z4y own at') a xs (o.Rows,o.N)=some ((z0Y own at' a xs o).Rows,(z0Y own at' a xs o).N)∧eachL (z9t own at') a xs (o.N,o.Rows)=some ((z0Y own at' a xs o).N,(z0Y own at' a xs o).Rows)
 | [],a,o,_=>⟨rfl,rfl⟩
 | x::xs,a,o,h=>by
  have h1:=k3j own a x at' 0 o h
  have hl:(q9J own a x 0 at' o).Rows.length≤1048576:=by rw[(z8d own a x at' 0 o).1];exact h
  have ih:=j9U own at' xs (a+1) _ hl
  have e1:z4y own at' a x (o.Rows,o.N)=some ((q9J own a x 0 at' o).Rows,(q9J own a x 0 at' o).N):=by
   unfold z4y;dsimp only;rw[h1.1];rfl
  have e2:z9t own at' a x (o.N,o.Rows)=some ((q9J own a x 0 at' o).N,(q9J own a x 0 at' o).Rows):=by
   unfold z9t;dsimp only;rw[h1.2];rfl
  rw[eachL,eachL,e1,e2,bsS,bsS,z0Y]
  exact ih
noncomputable def z6N (g:Gm_) (r:Rule) (o:Rl_) (pos:Int) (own:Rl_):Rl_:=z0Y own (posL g r pos) 0 (posL g r pos) o
theorem k3k {g:Gm_}(h:GOk g){r:Rule}(hl:ROk r){o:Rl_}(ho:o.Rows.length≤1048576)(pos:Int)(own:Rl_):j5v g r o pos own=some (z6N g r o pos own):=by
 unfold j5v z6N
 rw[k3i h hl,bsS,(j9U own (posL g r pos) (posL g r pos) 0 o ho).2];rfl
theorem j8M {r:Rule}{k:Nat}{x:ByteArray}(h:r.Right[k]?=some x):q5Y r ((k+1:Nat):Int)=x:=by
 have hk:=(List.getElem?_eq_some_iff.1 h).1
 unfold q5Y
 rw[ifN (by omega),ifP (by omega),show (((k+1:Nat):Int)-1).toNat=k by omega,List.getD_eq_getElem?_getD,h];rfl
theorem j4x (g:Gm_)(r:Rule)(o:Rl_)(pos:Int)(own:Rl_):(z6N g r o pos own).Rows.length=o.Rows.length:=(z8K own _ _ 0 o).1
noncomputable def locR (g:Gm_) (r:Rule):Rl_:=(q7e g r).getD ⟨0,[]⟩
theorem k5Q {g:Gm_}{r:Rule}(h:Sz.szd g≤1048576)(hr:Sz.szd r≤1048576):q7e g r=some (locR g r)∧q9u g r=some (locR g r)∧(locR g r).Rows.length≤16:=by
 obtain⟨x,h1,h2,h3⟩:=k1g h hr
 unfold locR
 rw[h1,h2];exact⟨rfl,rfl,h3⟩
section
variable {α β ρ σ:Type}{Q:β→Prop}{b:List UInt8}
theorem Ok.bif {c:Prop}[Decidable c]{A B:Option α}{k:α→Option β}(h1:c→Ok Q (A.bind k))(h2:¬ c→Ok Q (B.bind k)):Ok Q ((if c then A else B).bind k):=by
 by_cases hc:c
 ·rw[ifP hc];exact h1 hc
 ·rw[ifN hc];exact h2 hc
theorem Ok.bso {x:α}{k:α→Option β}(h:Ok Q (k x)):Ok Q ((some x).bind k):=h
theorem Ok.bbi {γ:Type}{A:Option α}{B:α→Option γ}{k:γ→Option β}(h:Ok Q (A.bind fun x=>(B x).bind k)):Ok Q ((A.bind B).bind k):=by
 rw[Option.bind_assoc];exact h
theorem Ok.bgr {c:Prop}[Decidable c]{A:Option α}{k:α→Option β}(hc:c)(h:Ok Q (A.bind k)):Ok Q ((Go.E.grd c A).bind k):=by rw[q3E hc];exact h
theorem Ok.get {l:List α}{j:Nat}{k:α→Option β}(hj:j<l.length)(h:∀ x,x∈l→Ok Q (k x)):Ok Q ((l[j]?).bind k):=by
 obtain⟨x,hx⟩:∃ x,l[j]?=some x:=⟨_,List.getElem?_eq_getElem hj⟩
 rw[hx];exact h x (List.mem_of_getElem? hx)
theorem Ok.eq {A:Option α}{x:α}{k:α→Option β}(hA:A=some x)(h:Ok Q (k x)):Ok Q (A.bind k):=by rw[hA];exact h
theorem drK {P:α→Prop}{o:Option (α×l1Cur)}(ho:Dr b P o){k:α×l1Cur→Option β}(hk:∀ y i' h',P y→0≤i'→Ok Q (k (y,⟨b,i',h'⟩))):Ok Q (o.bind k):=by
 obtain⟨⟨y,z⟩,rfl,hy,hz,he⟩:=ho
 obtain⟨zb,zi,zh⟩:=z
 dsimp only at he hz hy
 subst he
 exact hk y zi zh hy hz
theorem cb {i h:Int}(hi:0≤i):CB b ⟨b,i,h⟩:=⟨hi,rfl⟩
theorem Dr.re {P:α→Prop}{y:α}{i h:Int}(hy:P y)(hi:0≤i):Dr b P (some (y,(⟨b,i,h⟩:l1Cur))):=⟨_,rfl,hy,hi,rfl⟩
theorem j9V {P:σ→Prop}{Q:ρ→Prop}{f:σ→Option (σ ⊕ ρ)}(μ:σ→Nat)(hf:∀ s,P s→Ok (fun z=>match z with|.inl s'=>P s'∧μ s'<μ s|.inr r=>Q r) (f s)):∀ s,P s→Ok Q (q4o f s):=by
 have key:∀ n s,μ s<n→P s→Ok Q (q4o f s):=by
  intro n
  induction n with
  | zero=>intro s h;omega
  | succ n ih=>
   intro s h hp
   obtain⟨z,hz,hq⟩:=hf s hp
   cases z with
   | inl s'=>rw[q3L hz];exact ih s' (by have:=hq.2;omega) hq.1
   | inr r=>exact⟨r,q3F hz,hq⟩
 exact fun s hs=>key _ s (Nat.lt_succ_self _) hs
end
theorem k3l {α β:Type}{Q:β→Prop}(P:Nat→List α→Prop){f:Nat→Int×Int×List α→Option (Int×Int×List α)}{k:Int×Int×List α→Option β}{n:Nat}{i h:Int}{l:List α}(hi:0≤i)(h0:P 0 l)
  (hf:∀ j l i h,j<n→0≤i→P j l→Ok (fun s:Int×Int×List α=>0≤s.1∧P (j+1) s.2.2) (f j (i,h,l))) (hk:∀ l i h,0≤i→P n l→Ok Q (k (i,h,l))):Ok Q ((eachN f 0 n (i,h,l)).bind k):=by
 obtain⟨s,e,h1⟩:=j9E (P:=fun k (s:Int×Int×List α)=>0≤s.1∧P k s.2.2) (f:=f) (n:=n) (i:=0) (s:=(i,h,l)) ⟨hi,h0⟩ fun j s _ hj hs=>hf j _ _ _ (by omega) hs.1 hs.2
 rw[e]
 rw[Nat.zero_add] at h1
 exact hk _ _ _ h1.1 h1.2
theorem k7d {γ α β:Type}{Q:β→Prop}(P:Nat→List α→Prop){f:Nat→γ→Int×Int×List α→Option (Int×Int×List α)}{k:Int×Int×List α→Option β}{xs:List γ}{i h:Int}{l:List α}(hi:0≤i)(h0:P 0 l)
  (hf:∀ j x l i h,x∈xs→j<xs.length→0≤i→P j l→Ok (fun s:Int×Int×List α=>0≤s.1∧P (j+1) s.2.2) (f j x (i,h,l))) (hk:∀ l i h,0≤i→P xs.length l→Ok Q (k (i,h,l))):Ok Q ((eachL f 0 xs (i,h,l)).bind k):=by
 obtain⟨s,e,h1⟩:=j5E (P:=fun k (s:Int×Int×List α)=>0≤s.1∧P k s.2.2) (f:=f) (xs:=xs) (i:=0) (s:=(i,h,l)) ⟨hi,h0⟩ fun j x s hx _ hj hs=>hf j x _ _ _ hx (by omega) hs.1 hs.2
 rw[e]
 rw[Nat.zero_add] at h1
 exact hk _ _ _ h1.1 h1.2
def SB (s:Symbol):Prop:=s.Name.size≤8∧1≤s.Attributes.length∧s.Attributes.length≤5∧∀ a∈s.Attributes,a.Name.size≤8
def RB (r:Rule):Prop:=r.Name.size≤8∧r.Left.size≤8∧r.Right.length≤5∧(∀ x∈r.Right,x.size≤8)
def SBs (l:List Symbol):Prop:=1≤l.length∧l.length≤3∧∀ s∈l,SB s
theorem j7q {α:Type}[Sz α]{m:Nat}:∀ {l:List α},(∀ x∈l,Sz.szd x≤m)→szL l≤l.length*(m+1)
 | [],_=>by simp[szL]
 | x::l,h=>by
  have h1:=j7q (m:=m) (l:=l) fun y hy=>h y (by simp[hy])
  have h2:=h x (by simp)
  simp only[szL,lnC,Nat.add_mul];omega
theorem RB.rok {r:Rule}(h:RB r):ROk r:=by have:=h.2.2.1;show r.Right.length≤1048576;omega
section
variable {b:List UInt8}(hb:b.length≤1048576)
include hb
theorem k7V {x:ByteArray}(h:x∈[(⟨#[97]⟩:ByteArray),(⟨#[98]⟩:ByteArray),(⟨#[99]⟩:ByteArray),(⟨#[100]⟩:ByteArray)]):x.size≤8:=by
 simp only[List.mem_cons,List.not_mem_nil,or_false] at h
 rcases h with h|h|h|h<;>rw[h]<;>decide
theorem k7W {nm:ByteArray}(hn:nm.size≤8)(a2 a3:Bool){i h:Int}(hi:0≤i):Dr b SB (z6W nm a2 a3 ⟨b,i,h⟩):=by
 unfold z6W
 refine drK (q6T hb 4 ⟨hi,rfl⟩) fun y i1 h1 hy hi1=>?_
 have h4:=hy.2.1 (by omega)
 refine .grd (by constructor<;>omega) ?_
 refine k3l (fun k l=>l.length=k∧∀ a∈l,a.Name.size≤8) hi1 ⟨rfl,by simp⟩ (fun k s1 s2 s3 hk hs1 hs=>?_) fun s1 i2 h2 p1 hs=>?_
 ·obtain⟨hs2,hs3⟩:=hs
  unfold j4h
  dsimp only
  refine .bbi (.get (by simp;omega) fun x1 hx1=>?_)
  have hx1:=k7V hb hx1
  have fin:∀ (t m:Int) (i' h' : Int),0≤i'→Ok (fun s:Int×Int×List At_=>0≤s.1∧(s.2.2.length=k+1∧∀ a∈s.2.2,a.Name.size≤8)) (some (i',h',s1++[(⟨x1,t,m,false⟩:At_)])):=fun t m i' h' hi'=>by
   refine .ret ⟨hi',by simp[hs2],fun a ha=>?_⟩
   simp only[List.mem_append,List.mem_cons,List.not_mem_nil,or_false] at ha
   rcases ha with ha|ha
   ·exact hs3 a ha
   ·rw[ha];exact hx1
  refine .bbi (drK (z3T hb (by simp) ⟨hs1,rfl⟩) fun t i2 h2 _ hi2=>?_)
  refine .bbi (drK (z3T hb (by simp) ⟨hi2,rfl⟩) fun m i3 h3 _ hi3=>?_)
  cases a2<;>cases a3<;>dsimp only
  all_goals
   repeat' first
    | ((with_reducible refine .bso ?_);try dsimp only)
    | (with_reducible exact fin _ _ _ _ (by assumption))
    | ((with_reducible refine .bbi ?_);try dsimp only)
    | (with_reducible refine .bif (fun _=>?_) fun _=>?_)
    | (with_reducible refine .ite (fun _=>?_) fun _=>?_)
    | ((with_reducible refine drK (z6x hb _ (cb (by assumption))) fun _ _ _ _ _=>?_);try dsimp only)
    | ((with_reducible refine drK (z3T hb (by simp) (cb (by assumption))) fun _ _ _ _ _=>?_);try dsimp only)
    | ((with_reducible refine drK (q6T hb _ (cb (by assumption))) fun _ _ _ _ _=>?_);try dsimp only)
    | (refine .bgr (by constructor<;>omega) ?_)
    | (refine .grd (by constructor<;>omega) ?_)
 ·obtain⟨p2,p3⟩:=hs
  dsimp only
  exact Dr.re ⟨hn,by dsimp only;omega,by dsimp only;omega,p3⟩ p1
end
theorem j5N {g:Gm_}(h:SBs g.Symbols)(nm:ByteArray):(q6Z g nm).1.Attributes.length≤5∧∀ a∈(q6Z g nm).1.Attributes,a.Name.size≤8:=by
 unfold q6Z
 split
 ·rename_i y hy
  have:=h.2.2 y (List.mem_of_find?_eq_some hy)
  exact⟨this.2.2.1,this.2.2.2⟩
 ·exact⟨by simp[zS],by simp[zS]⟩
theorem k5c {y:Symbol}(h:∀ a∈y.Attributes,a.Name.size≤8)(nm:ByteArray):q5Z y nm=some (z3l y nm):=by
 unfold q5Z z3l
 rw[z2w (p:=fun a=>decide (a.Name=nm)) (r:=fun a=>(a,true)) fun k x _=>⟨fun hp=>by unfold z1V;rw[ifP (by simpa using hp)],fun hp=>by unfold z1V;rw[ifN (by simpa using hp)]⟩]
 cases y.Attributes.find? fun a=>decide (a.Name=nm)<;>rfl
theorem SBs.g {g:Gm_}(h:SBs g.Symbols):GOk g:=fun y hy=>by have:=(h.2.2 y hy).2.2.1;omega
theorem k5d {g:Gm_}(hs:SBs g.Symbols){r:Rule}(hr:r.Right.length≤5)(k:Int):Ok (fun q=>∀ o∈q,o.Name.size≤8) (z2z g r k):=by
 unfold z2z
 refine Ok.bind (Q:=fun q=>∀ o∈q,o.Name.size≤8) (j9V (P:=fun s:List Oc×Int=>0≤s.2∧s.2≤r.Right.length+1∧(s.1.length:Int)≤5*s.2∧∀ o∈s.1,o.Name.size≤8) (fun s=>(r.Right.length+1-s.2).toNat) ?_ _ ⟨by simp,by simp;omega,by simp,by simp⟩) fun q hq=>.ret hq
 rintro⟨q,p⟩ ⟨h1,h2,h3,h4⟩
 dsimp only at h1 h2 h3 h4
 unfold j6D
 dsimp only
 refine .ite (fun hp=>?_) fun _=>.ret h4
 refine .eq (z3v (show r.Right.length≤1048576 by omega) p) ?_
 refine .eq (z3m hs.g _) ?_
 have hff:=j5N hs (q5Y r p)
 generalize q6Z g (q5Y r p)=fs at hff
 obtain⟨y,yb⟩:=fs
 obtain⟨f1,f2⟩:=hff
 dsimp only at f1 f2 ⊢
 refine Ok.bind (Q:=fun q'=>q'.length≤q.length+5∧∀ o∈q',o.Name.size≤8) ((j5E (P:=fun k q'=>q'.length≤q.length+k∧∀ o∈q',o.Name.size≤8) (i:=0) ⟨by omega,h4⟩ ?_).mono fun q' hq=>⟨by omega,hq.2⟩) fun q' hq=>.grd (by constructor<;>omega) (.ret ⟨⟨by dsimp only;omega,by dsimp only;omega,by dsimp only;omega,hq.2⟩,by dsimp only;omega⟩)
 intro j a l ha _ hj hl
 have hl1:=hl.1
 have hl2:=hl.2
 have ha:=f2 a ha
 unfold j6C
 dsimp only
 have e1:Ok (fun q' : List Oc=>q'.length≤q.length+(j+1)∧∀ o∈q',o.Name.size≤8) (some l):=.ret ⟨by omega,hl2⟩
 have e2:Ok (fun q' : List Oc=>q'.length≤q.length+(j+1)∧∀ o∈q',o.Name.size≤8) (some (l++[(⟨p,a.Name⟩:Oc)])):=.ret ⟨by simp;omega,fun o ho=>by
  simp only[List.mem_append,List.mem_cons,List.not_mem_nil,or_false] at ho
  rcases ho with ho|ho
  ·exact hl2 o ho
  ·rw[ho];exact ha⟩
 have hb:([]:List UInt8).length≤1048576:=by simp
 repeat' first
  | ((with_reducible refine .bso ?_);try dsimp only)
  | (with_reducible exact e1)
  | (with_reducible exact e2)
  | ((with_reducible refine .bbi ?_);try dsimp only)
  | (with_reducible refine .bif (fun _=>?_) fun _=>?_)
  | (with_reducible refine .ite (fun _=>?_) fun _=>?_)
  | ((with_reducible refine drK (z6x hb _ (cb (by assumption))) fun _ _ _ _ _=>?_);try dsimp only)
  | ((with_reducible refine drK (z3T hb (by simp) (cb (by assumption))) fun _ _ _ _ _=>?_);try dsimp only)
  | ((with_reducible refine drK (q6T hb _ (cb (by assumption))) fun _ _ _ _ _=>?_);try dsimp only)
  | (refine .bgr (by constructor<;>omega) ?_)
  | (refine .grd (by constructor<;>omega) ?_)
theorem k8z (a:Int):Ok (fun _=>True) (q5h a):=by
 unfold q5h
 rw[z0I,bsS,z0I,bsS]
 repeat' first
  | exact .ret trivial
  | refine .ite (fun _=>?_) fun _=>?_
theorem k8A (a:Int)(x y:Expr):z6f a x y=some (⟨4,a,0,0,(⟨#[]⟩:ByteArray),(⟨#[]⟩:ByteArray),[x,y]⟩:Expr):=rfl
theorem k7e (g:Gm_)(r:Rule)(rem:Bool):∀ (m n1 n2:Nat),m<n1→m<n2→∀ (k d:Int) (o:l1Cur),d≤m+1→q6K n1 g r k d rem o=q6K n2 g r k d rem o:=by
 intro m
 induction m with
 | zero=>
  intro n1 n2 h1 h2 k d o hd
  obtain⟨n1,rfl⟩:∃ q,n1=q+1:=⟨n1-1,by omega⟩
  obtain⟨n2,rfl⟩:∃ q,n2=q+1:=⟨n2-1,by omega⟩
  show q7G (q6K n1) g r k d rem o=q7G (q6K n2) g r k d rem o
  unfold q7G
  simp only[ifP (show d<2 by omega),bsS,if_true]
 | succ m ih=>
  intro n1 n2 h1 h2 k d o hd
  obtain⟨n1,rfl⟩:∃ q,n1=q+1:=⟨n1-1,by omega⟩
  obtain⟨n2,rfl⟩:∃ q,n2=q+1:=⟨n2-1,by omega⟩
  show q7G (q6K n1) g r k d rem o=q7G (q6K n2) g r k d rem o
  have h:∀ k o,q6K n1 g r k (d-1) rem o=q6K n2 g r k (d-1) rem o:=fun k o=>ih n1 n2 (by omega) (by omega) k (d-1) o (by omega)
  unfold q7G
  simp only[h]
section
variable {b:List UInt8}(hb:b.length≤1048576)
include hb
theorem k5e {g:Gm_}(hs:SBs g.Symbols){r:Rule}(hr:r.Right.length≤5)(rem:Bool):∀ (m n:Nat),m<n→∀ (k d i h:Int),d≤m+1→-1000+m≤d→d≤1000→0≤i→Dr b (fun e=>Sz.szd e≤fb m) (q6K n g r k d rem ⟨b,i,h⟩):=by
 intro m
 induction m with
 | zero=>
  intro n hn k d i h hd hd0 hd1 hi
  obtain⟨n,rfl⟩:∃ q,n=q+1:=⟨n-1,by omega⟩
  show Dr b _ (q7G (q6K n) g r k d rem ⟨b,i,h⟩)
  unfold q7G
  rw[ifP (show d<2 by omega)]
  dsimp only
  rw[bsS]
  dsimp only
  rw[ifP rfl]
  unfold Dr
  have hf:=k5K hb 0
  repeat' first
   | ((with_reducible refine .bso ?_);try dsimp only)
   | ((with_reducible refine .bind (k5d hs hr _) fun _ _=>?_))
   | ((with_reducible refine drK (j2P hb _ (by assumption) (cb (by assumption))) fun _ _ _ _ _=>?_);try dsimp only)
   | ((with_reducible refine .bbi ?_);try dsimp only)
   | (with_reducible refine .bif (fun _=>?_) fun _=>?_)
   | (with_reducible refine .ite (fun _=>?_) fun _=>?_)
   | ((with_reducible refine drK (z6x hb _ (cb (by assumption))) fun _ _ _ _ _=>?_);try dsimp only)
   | ((with_reducible refine drK (z3T hb (by simp) (cb (by assumption))) fun _ _ _ _ _=>?_);try dsimp only)
   | ((with_reducible refine drK (q6T hb _ (cb (by assumption))) fun _ _ _ _ _=>?_);try dsimp only)
   | (refine .bgr (by constructor<;>omega) ?_)
   | (refine .grd (by constructor<;>omega) ?_)
  all_goals refine⟨_,rfl,?_,by assumption,rfl⟩
  all_goals dsimp only
  all_goals first
   | (rw[k2z hb,z9C hb];omega)
   | omega
 | succ m ih=>
  intro n hn k d i h hd hd0 hd1 hi
  obtain⟨n,rfl⟩:∃ q,n=q+1:=⟨n-1,by omega⟩
  have hr1:∀ k i h,0≤i→Dr b (fun e=>Sz.szd e≤fb m) (q6K n g r k (d-1) rem ⟨b,i,h⟩):=fun k i h hi=>ih n (by omega) k (d-1) i h (by omega) (by omega) (by omega) hi
  show Dr b _ (q7G (q6K n) g r k d rem ⟨b,i,h⟩)
  unfold q7G Dr
  dsimp only
  have hl:=hs.1
  have hf:=k5K hb m
  have hg:=k6K hb m
  have hid:I64 (d-1):=by constructor<;>omega
  repeat' first
   | ((with_reducible refine .bso ?_);try dsimp only)
   | ((with_reducible refine .bind (k5d hs hr _) fun _ _=>?_))
   | ((with_reducible refine drK (j2P hb _ (by assumption) (cb (by assumption))) fun _ _ _ _ _=>?_);try dsimp only)
   | ((with_reducible refine drK (hr1 _ _ _ (by assumption)) fun _ _ _ _ _=>?_);try dsimp only)
   | ((with_reducible refine .bind (k8z _) fun _ _=>?_);try dsimp only)
   | ((with_reducible refine .eq (k8A _ _ _) ?_);try dsimp only)
   | ((with_reducible refine .grd hid ?_))
   | ((with_reducible refine .grd (by omega) ?_))
   | ((with_reducible refine .get (l:=g.Symbols) (by omega) fun x hx=>?_);obtain⟨_,_,_,hat⟩:=hs.2.2 x hx)
   | ((with_reducible refine .get (by omega) fun x hx=>?_);have hxn:=hat x hx)
   | ((with_reducible refine .bbi ?_);try dsimp only)
   | (with_reducible refine .bif (fun _=>?_) fun _=>?_)
   | (with_reducible refine .ite (fun _=>?_) fun _=>?_)
   | ((with_reducible refine drK (z6x hb _ (cb (by assumption))) fun _ _ _ _ _=>?_);try dsimp only)
   | ((with_reducible refine drK (z3T hb (by simp) (cb (by assumption))) fun _ _ _ _ _=>?_);try dsimp only)
   | ((with_reducible refine drK (q6T hb _ (cb (by assumption))) fun _ _ _ _ _=>?_);try dsimp only)
   | (refine .bgr (by constructor<;>omega) ?_)
   | (refine .grd (by constructor<;>omega) ?_)
  all_goals refine⟨_,rfl,?_,by assumption,rfl⟩
  all_goals dsimp only at *
  all_goals first
   | (rw[k2z hb,z9C hb];omega)
   | (rw[k7R hb];omega)
   | (rw[k7Q hb,z9C hb];omega)
   | (rw[k4C hb,z9C hb];omega)
   | omega
theorem k7f {g:Gm_}(hs:SBs g.Symbols){r:Rule}(hr:r.Right.length≤5)(rem:Bool)(k d i h:Int)(h0:0≤d)(h3:d≤3)(hi:0≤i):Dr b (fun e=>Sz.szd e≤320) (z9Q g r k d rem ⟨b,i,h⟩):=
 k6I (N:=3) (fun n hn=>k7e g r rem 2 (n+1) n (by omega) (by omega) k d _ (by omega)) (k5e hb hs hr rem 2 3 (by omega) k d i h (by omega) (by omega) (by omega) hi)
end
theorem z9H {α β:Type}{f:α→List β}{C:Nat}(h:∀ x,(f x).length≤C):∀ l:List α,(l.flatMap f).length≤l.length*C
 | []=>by simp
 | x::l=>by
  have h1:=z9H h l
  have h2:=h x
  simp only[List.flatMap_cons,List.length_append,lnC,Nat.add_mul];omega
theorem k3m {g:Gm_}(hs:SBs g.Symbols)(r:Rule)(k:Nat):(reqK g r k).length≤5∧∀ o∈reqK g r k,o.Name.size≤8:=by
 obtain⟨f1,f2⟩:=j5N hs (q5Y r (k:Int))
 unfold reqK
 refine⟨by rw[lnM];exact Nat.le_trans (List.length_filter_le _ _) f1,fun o ho=>?_⟩
 obtain⟨a,ha,rfl⟩:=List.mem_map.1 ho
 exact f2 a (List.mem_filter.1 ha).1
theorem k7g {g:Gm_}(hs:SBs g.Symbols){r:Rule}(hr:r.Right.length≤5):(reqL g r).length≤30∧∀ o∈reqL g r,o.Name.size≤8:=by
 unfold reqL
 refine⟨?_,fun o ho=>?_⟩
 ·have:=z9H (C:=5) (fun k=>(k3m hs r k).1) (List.range' 0 (r.Right.length+1))
  rw[List.length_range'] at this
  omega
 ·obtain⟨k,_,hk⟩:=List.mem_flatMap.1 ho
  exact (k3m hs r k).2 o hk
theorem j9W {α:Type}[Sz α](l:List α)(x:α):szL (l++[x])=szL l+(1+Sz.szd x):=by rw[j3S];rfl
theorem k7X (o:Oc)(e:Expr):Sz.szd (⟨o,e⟩:Eqn)=o.Name.size+Sz.szd e:=by rw[j0M,z0k];dsimp only;omega
theorem k7Y (s m:ByteArray)(e f:Expr):Sz.szd (⟨s,m,e,f⟩:Cn)=s.size+m.size+Sz.szd e+Sz.szd f:=by rw[z6J,z0k,z0k];dsimp only;omega
section
variable {b:List UInt8}(hb:b.length≤1048576)
include hb
theorem k7h {g:Gm_}(hs:SBs g.Symbols){r:Rule}(hr:RB r)(he:r.Equations=[])(rem:Bool){i h:Int}(hi:0≤i):Dr b (fun q=>RB q∧(szL q.Equations≤12000∧q.Equations.length≤30)∧q.Contributions=r.Contributions) (z5q g r rem ⟨b,i,h⟩):=by
 have h5:=hr.2.2.1
 obtain⟨q1,q2⟩:=k7g hs h5
 unfold z5q
 refine .eq (j0k hs.g hr.rok) ?_
 refine k7d (fun j (l:List Eqn)=>l.length=j∧szL l≤j*400) hi (by rw[he];exact⟨rfl,by simp[szL]⟩) (fun j x l i h hx hj hi hl=>?_) fun l i h hi hl=>?_
 ·obtain⟨hl1,hl2⟩:=hl
  have hx:=q2 x hx
  have fin:∀ (e:Expr) (i' h' : Int),Sz.szd e≤320→0≤i'→Ok (fun s:Int×Int×List Eqn=>0≤s.1∧(s.2.2.length=j+1∧szL s.2.2≤(j+1)*400)) (some (i',h',l++[(⟨x,e⟩:Eqn)])):=fun e i' h' h1 hi'=>.ret ⟨hi',by simp[hl1],by dsimp only;rw[j9W,k7X];omega⟩
  unfold j2b
  dsimp only
  refine .bbi (.eq (z3v (show r.Right.length≤1048576 by omega) _) ?_)
  refine .bbi (.eq (z3m hs.g _) ?_)
  have hff:=j5N hs (q5Y r x.Pos)
  generalize q6Z g (q5Y r x.Pos)=fs at hff
  obtain⟨y,yb⟩:=fs
  obtain⟨f1,f2⟩:=hff
  dsimp only at f1 f2 ⊢
  refine .bbi (.eq (k5c f2 _) ?_)
  generalize z3l y x.Name=fa
  obtain⟨a,ab⟩:=fa
  dsimp only
  refine .bbi (drK (q6T hb 3 (cb hi)) fun d i1 h1 hd hi1=>?_)
  have hd3:=hd.2.1 (by omega)
  refine .bgr (by constructor<;>omega) ?_
  refine .bbi (drK (k7f hb hs (r:=⟨r.Name,r.Left,r.Right,r.Literal,l,r.Contributions⟩) h5 rem _ _ _ _ (by omega) (by omega) hi1) fun e i2 h2 he2 hi2=>?_)
  dsimp only at he2 ⊢
  refine .bbi (.eq (j7c (by have:=k7S hb he2;omega)) ?_)
  refine .bif (fun _=>?_) fun _=>?_
  ·refine .bgr (by constructor<;>omega) ?_
   exact fin _ _ _ he2 hi2
  ·refine .bbi (drK (j2P hb _ (by simp) (cb hi2)) fun e3 i3 h3 he3 hi3=>?_)
   refine .bgr (by constructor<;>omega) ?_
   exact fin _ _ _ (by show Sz.szd e3≤320;have:Sz.szd e3≤8:=he3;omega) hi3
 ·exact⟨_,rfl,⟨hr,⟨by have:=hl.2;dsimp only;omega,by have:=hl.1;dsimp only;omega⟩,rfl⟩,hi,rfl⟩
theorem k7Z {g:Gm_}(hs:SBs g.Symbols){r:Rule}(hr:RB r)(hc:r.Contributions=[]){i h:Int}(hi:0≤i):Dr b (fun q=>RB q∧q.Equations=r.Equations∧szL q.Contributions≤200) (z7c g r ⟨b,i,h⟩):=by
 have h5:=hr.2.2.1
 unfold z7c
 refine k7d (fun _ (l:List Cn)=>l.length≤2∧szL l≤l.length*40) hi (by rw[hc];simp[szL]) (fun j x l i h hx hj hi hl=>?_) fun l i h hi hl=>?_
 ·obtain⟨s1,_,_,s2⟩:=hs.2.2 x hx
  unfold j4j
  dsimp only
  refine k7d (fun _ (l:List Cn)=>l.length≤2∧szL l≤l.length*40) hi hl (fun j2 a l i h ha hj hi hl=>?_) fun l i h hi hl=>.ret ⟨hi,hl⟩
  have ha:=s2 a ha
  unfold j4i
  dsimp only
  refine .bbi ?_
  refine .bif (fun _=>.bso ?_) fun _=>.bso ?_
  ·refine .bbi ?_
   refine .bif (fun h2=>?_) fun _=>.bso ?_
   ·have hl2:l.length<2:=by have:=of_decide_eq_true h2;omega
    refine .bbi (drK (z6x hb _ (cb hi)) fun y i1 h1 _ hi1=>?_)
    refine .bso ?_
    dsimp only
    refine .bif (fun _=>?_) fun _=>.bso ?_
    ·refine .bbi (.bind (k5d hs (r:=⟨r.Name,r.Left,r.Right,r.Literal,r.Equations,l⟩) h5 _) fun q hq=>?_)
     refine .bbi (drK (j2P hb _ hq (cb hi1)) fun e i2 h2 he hi2=>?_)
     refine .bbi (.bind (k5d hs (r:=⟨r.Name,r.Left,r.Right,r.Literal,r.Equations,l⟩) h5 _) fun q3 hq3=>?_)
     refine .bbi (drK (j2P hb _ hq3 (cb hi2)) fun e3 i3 h3 he3 hi3=>?_)
     refine .bgr (by constructor<;>omega) ?_
     refine .bso (.ret ⟨hi3,by dsimp only;simp;omega,?_⟩)
     dsimp only at he he3 ⊢
     rw[j9W,k7Y,List.length_append,List.length_singleton]
     have:=hl.2
     omega
    ·exact .ret ⟨hi1,hl⟩
   ·dsimp only
    refine .bif (fun h=>by cases h) fun _=>.bso (.ret ⟨hi,hl⟩)
  ·refine .bbi ?_
   refine .bif (fun h=>by cases h) fun _=>.bso ?_
   dsimp only
   refine .bif (fun h=>by cases h) fun _=>.bso (.ret ⟨hi,hl⟩)
 ·refine⟨_,rfl,⟨hr,rfl,?_⟩,hi,rfl⟩
  have:=hl.1
  have:=hl.2
  dsimp only
  have h80:l.length*40≤80:=by omega
  omega
end
theorem k8a {k:Nat}(hk:k<2):Ok (fun x=>x.size≤1) (z0Z (k:Int)):=by
 have:k=0∨k=1:=by omega
 rcases this with rfl|rfl
 ·exact⟨⟨#[48]⟩,by unfold z0Z;rfl,by decide⟩
 ·refine⟨⟨#[49]⟩,?_,by decide⟩
  unfold z0Z
  rw[ifN (by decide)]
  have h1:z3A (((1:Nat):Int),(⟨#[]⟩:ByteArray))=some (.inl (0,⟨#[49]⟩)):=by
   unfold z3A
   dsimp only
   rw[ifN (by decide),ifN (by decide),q3E (by constructor<;>decide),q3E (by decide),q3E (by constructor<;>decide)]
   rfl
  have h2:z3A (0,(⟨#[49]⟩:ByteArray))=some (.inr ⟨#[49]⟩):=rfl
  rw[q3L h1,q3F h2]
  rfl
def R0 (r:Rule):Prop:=RB r∧r.Equations=[]∧r.Contributions=[]
def R1 (r:Rule):Prop:=RB r∧(szL r.Equations≤12000∧r.Equations.length≤30)∧szL r.Contributions≤200
theorem R0.r1 {r:Rule}(h:R0 r):R1 r:=⟨h.1,⟨by rw[h.2.1];simp[szL],by rw[h.2.1];simp⟩,by rw[h.2.2];simp[szL]⟩
def GB (g:Gm_):Prop:=SBs g.Symbols∧1≤g.Rules.length∧g.Rules.length≤8∧∀ r∈g.Rules,R1 r
theorem stu {x:ByteArray}{n:Nat}(h:x∈[(⟨#[115]⟩:ByteArray),(⟨#[116]⟩:ByteArray),(⟨#[117]⟩:ByteArray)].take n):x.size=1:=by
 have h:=List.mem_of_mem_take h
 simp only[List.mem_cons,List.not_mem_nil,or_false] at h
 rcases h with h|h|h<;>rw[h]<;>rfl
theorem bsz (x y:ByteArray):(x++y).size=x.size+y.size:=ByteArray.size_append
section
variable {b:List UInt8}(hb:b.length≤1048576)
include hb
theorem j7r (pl:Bool){i h:Int}(hi:0≤i):Dr b GB (z3L pl ⟨b,i,h⟩):=by
 unfold z3L
 refine drK (q6T hb 3 (cb hi)) fun y i1 h1 hy hi1=>?_
 have h3:=hy.2.1 (by omega)
 have h0:=hy.1
 dsimp only
 refine .grd (by constructor<;>omega) (.grd (by omega) (.grd (by simp;omega) ?_))
 have hlen:([(⟨#[115]⟩:ByteArray),(⟨#[116]⟩:ByteArray),(⟨#[117]⟩:ByteArray)].take ((1+y).toNat)).length=(1+y).toNat:=by rw[List.length_take];simp;omega
 refine k3l (fun k (l:List Symbol)=>l.length=k∧∀ s∈l,SB s) hi1 ⟨rfl,by simp⟩ (fun j l i h hj hi hl=>?_) fun syms i2 h2 hi2 hsyms=>?_
 ·unfold j2c
  dsimp only
  refine .get (by rw[hlen];exact hj) fun x hx=>?_
  have hx:=stu hx
  refine drK (k7W hb (by omega) _ _ hi) fun s i1 h1 hs hi1=>?_
  refine .grd (by have:=hl.1;constructor<;>omega) (.ret ⟨hi1,by simp[hl.1],fun a ha=>?_⟩)
  simp only[List.mem_append,List.mem_cons,List.not_mem_nil,or_false] at ha
  rcases ha with ha|ha
  ·exact hl.2 a ha
  ·rw[ha];exact hs
 have hS:SBs syms:=⟨by rw[hsyms.1];omega,by rw[hsyms.1];omega,hsyms.2⟩
 dsimp only
 refine k3l (fun k (l:List Rule)=>k≤l.length∧l.length≤3*k∧∀ r∈l,R0 r) hi2 ⟨by simp,by simp,by simp⟩ (fun j l i h hj hi hl=>?_) fun rules i3 h3 hi3 hr=>?_
 ·unfold j2f
  dsimp only
  refine .get (by rw[hlen];exact hj) fun x hx=>?_
  have hx:=stu hx
  refine .grd (by rw[hx];decide) ?_
  refine drK (z6x hb _ (cb hi)) fun y3 i1 h1 _ hi1=>?_
  have hl1:=hl.1
  have hl2:=hl.2.1
  refine .grd (by constructor<;>omega) ?_
  refine drK (q6T hb 2 (cb hi1)) fun y4 i4 h4 hy4 hi4=>?_
  have h42:=hy4.2.1 (by omega)
  have h40:=hy4.1
  refine .grd (by constructor<;>omega) ?_
  dsimp only
  refine k3l (fun k (q:List Rule)=>q.length=l.length+1+k∧∀ r∈q,R0 r) hi4 ⟨by simp,fun a ha=>?_⟩ (fun j2 q i h hj2 hi hq=>?_) fun q i6 h6 hi6 hq=>?_
  ·simp only[List.mem_append,List.mem_cons,List.not_mem_nil,or_false] at ha
   rcases ha with ha|ha
   ·exact hl.2.2 a ha
   ·rw[ha]
    exact⟨⟨by dsimp only;rw[bsz,hx];decide,by dsimp only;omega,by simp,by simp⟩,rfl,rfl⟩
  ·unfold j2e
   dsimp only
   refine .grd (by rw[hx];decide) ?_
   refine .bind (k8a (by omega)) fun nm hnm=>?_
   refine .grd (by rw[bsz,hx];have:(⟨#[112]⟩:ByteArray).size=1:=rfl;omega) ?_
   refine drK (z6x hb _ (cb hi)) fun y6 i1 h1 _ hi1=>?_
   refine drK (q6T hb 3 (cb hi1)) fun y7 i7 h7 hy7 hi7=>?_
   have h72:=hy7.2.1 (by omega)
   have h70:=hy7.1
   refine .grd (by constructor<;>omega) ?_
   dsimp only
   refine k3l (fun k (q:List ByteArray)=>q.length=k∧∀ x∈q,x.size≤8) hi7 ⟨rfl,by simp⟩ (fun j4 q4 i h hj4 hi hq4=>?_) fun q4 i8 h8 hi8 hq4=>?_
   ·unfold j2d
    dsimp only
    refine drK (k6J hb (by intro h;have:=congrArg List.length h;rw[hlen] at this;simp at this;omega) (cb hi)) fun z i1 h1 hz hi1=>?_
    have hz:=stu hz
    refine .grd (by have:=hq4.1;constructor<;>omega) (.ret ⟨hi1,by simp[hq4.1],fun a ha=>?_⟩)
    simp only[List.mem_append,List.mem_cons,List.not_mem_nil,or_false] at ha
    rcases ha with ha|ha
    ·exact hq4.2 a ha
    ·rw[ha];omega
   ·have hq41:=hq4.1
    have hq1:=hq.1
    refine .grd (by constructor<;>omega) (.ret ⟨hi8,by simp;omega,fun a ha=>?_⟩)
    simp only[List.mem_append,List.mem_cons,List.not_mem_nil,or_false] at ha
    rcases ha with ha|ha
    ·exact hq.2 a ha
    ·rw[ha]
     exact⟨⟨by dsimp only;rw[bsz,bsz,hx];have:(⟨#[112]⟩:ByteArray).size=1:=rfl;omega,by dsimp only;omega,by dsimp only;omega,hq4.2⟩,rfl,rfl⟩
  ·exact .ret ⟨hi6,by dsimp only;have:=hq.1;omega,by dsimp only;have:=hq.1;omega,hq.2⟩
 dsimp only
 have hr1:=hr.1
 have hr2:=hr.2.1
 have key:∀ rs:List Rule,1≤rs.length→rs.length≤8→(∀ r∈rs,R0 r)→Ok (fun r=>GB r.1∧CB b r.2) ((q4o (z8t pl ⟨b,i,h⟩ syms) (0,i3,h3,rs)).bind fun (s14,s15,s16)=>some ((⟨syms,s16⟩:Gm_),(⟨b,s14,s15⟩:l1Cur))):=by
  intro rs g1 g2 g3
  refine Ok.bind (Q:=fun s:Int×Int×List Rule=>0≤s.1∧s.2.2.length=rs.length∧∀ r∈s.2.2,R1 r) (j9V (P:=fun s:Int×Int×Int×List Rule=>0≤s.1∧s.1≤rs.length∧0≤s.2.1∧s.2.2.2.length=rs.length∧∀ (k:Nat) x,s.2.2.2[k]?=some x→R1 x∧(s.1≤(k:Int)→R0 x)) (fun s=>(rs.length-s.1).toNat) ?_ _ ⟨Int.le_refl _,by dsimp only;omega,hi3,rfl,fun k x hx=>⟨(g3 x (List.mem_of_getElem? hx)).r1,fun _=>g3 x (List.mem_of_getElem? hx)⟩⟩) ?_
  ·rintro⟨p,i5,h5,q⟩ ⟨a1,a2,a3,a4,a5⟩
   dsimp only at a1 a2 a3 a4 a5
   unfold z8t
   dsimp only
   refine .ite (fun hp=>?_) fun _=>.ret ⟨a3,a4,fun r hr=>?_⟩
   ·obtain⟨x,hx⟩:∃ x,q[p.toNat]?=some x:=⟨_,List.getElem?_eq_getElem (by omega)⟩
    have hx0:=(a5 _ _ hx).2 (by omega)
    rw[hx]
    have fin:∀ (y:Rule) (i' h' : Int),R1 y→0≤i'→(0≤p+1∧p+1≤rs.length∧0≤i'∧(List.set q p.toNat y).length=rs.length∧∀ (k:Nat) x,(List.set q p.toNat y)[k]?=some x→R1 x∧(p+1≤(k:Int)→R0 x))∧(rs.length-(p+1)).toNat<(rs.length-p).toNat:=fun y i' h' hy hi'=>by
     refine⟨⟨by omega,by omega,hi',by rw[List.length_set];exact a4,fun k x hk=>?_⟩,by omega⟩
     rw[List.getElem?_set] at hk
     by_cases e:p.toNat=k
     ·rw[ifP e] at hk
      split at hk
      ·cases hk;exact⟨hy,fun h=>by omega⟩
      ·cases hk
     ·rw[ifN e] at hk
      exact⟨(a5 _ _ hk).1,fun h=>(a5 _ _ hk).2 (by omega)⟩
    refine .bgr a1 (.bbi (.bso ?_))
    refine .bbi (drK (k7h hb (g:=⟨syms,q⟩) hS hx0.1 hx0.2.1 _ a3) fun y i6 h6 hy hi6=>?_)
    obtain⟨b1,b2,b3⟩:=hy
    rw[hx0.2.2] at b3
    dsimp only
    refine .bif (fun _=>.bso ?_) fun _=>?_
    ·exact .grd (by constructor<;>omega) (.ret (fin _ _ h6 ⟨b1,b2,by rw[b3];simp[szL]⟩ hi6))
    ·refine .bbi (drK (k7Z hb (g:=⟨syms,q⟩) hS b1 b3 hi6) fun y2 i7 h7 hy2 hi7=>?_)
     refine .bso ?_
     exact .grd (by constructor<;>omega) (.ret (fin _ _ h7 ⟨hy2.1,by rw[hy2.2.1];exact b2,hy2.2.2⟩ hi7))
   ·obtain⟨k,hk⟩:=List.getElem?_of_mem hr
    exact (a5 _ _ hk).1
  ·rintro⟨s1,s2,s3⟩ ⟨c1,c2,c3⟩
   exact⟨_,rfl,⟨hS,by dsimp only at c2 ⊢;omega,by dsimp only at c2 ⊢;omega,c3⟩,c1,rfl⟩
 refine .bif (fun h8=>.bgr (by omega) (.bso ?_)) fun h8=>.bso ?_
 ·exact key _ (by rw[List.length_take];omega) (by rw[List.length_take];omega) fun r hr'=>hr.2.2 r (List.mem_of_mem_take hr')
 ·exact key _ (by omega) (by omega) hr.2.2
end
def R2 (r:Rule):Prop:=RB r∧szL r.Equations≤60000∧szL r.Contributions≤200
def GC2 (g:Gm_):Prop:=SBs g.Symbols∧1≤g.Rules.length∧g.Rules.length≤8∧∀ r∈g.Rules,R2 r
theorem SB.set {s:Symbol}(h:SB s){x:At_}(hx:x.Name.size≤8):SB ⟨s.Name,List.set s.Attributes 0 x⟩:=by
 refine⟨h.1,by dsimp only;rw[List.length_set];exact h.2.1,by dsimp only;rw[List.length_set];exact h.2.2.1,fun a ha=>?_⟩
 rcases List.mem_or_eq_of_mem_set ha with ha|ha
 ·exact h.2.2.2 a ha
 ·rw[ha];exact hx
theorem GC2.set {ss:List Symbol}{rs:List Rule}(h:GC2 ⟨ss,rs⟩)(k:Nat){x:Rule}(hx:R2 x):GC2 ⟨ss,rs.set k x⟩:=by
 refine⟨h.1,by dsimp only;rw[List.length_set];exact h.2.1,by dsimp only;rw[List.length_set];exact h.2.2.1,fun a ha=>?_⟩
 rcases List.mem_or_eq_of_mem_set ha with ha|ha
 ·exact h.2.2.2 a ha
 ·rw[ha];exact hx
section
variable {b:List UInt8}(hb:b.length≤1048576)
include hb
end
theorem szR {r:Rule}(h:R2 r):Sz.szd r≤60300:=by
 have h1:=j7q (m:=8) h.1.2.2.2
 have:=h.1.2.2.1
 have:=h.1.1
 have:=h.1.2.1
 have:=h.2.1
 have:=h.2.2
 have h9:r.Right.length*(8+1)≤45:=by omega
 rw[z9x];omega
theorem szS {s:Symbol}(h:SB s):Sz.szd s≤60:=by
 have h1:=j7q (m:=8) (l:=s.Attributes) fun a ha=>by rw[j5w];exact h.2.2.2 a ha
 have:=h.2.2.1
 have:=h.1
 have h9:s.Attributes.length*(8+1)≤45:=by omega
 rw[j4l];omega
theorem szG {g:Gm_}(h:GC2 g):Sz.szd g≤1048576:=by
 have h1:=j7q (m:=60) (l:=g.Symbols) fun s hs=>szS (h.1.2.2 s hs)
 have h2:=j7q (m:=60300) (l:=g.Rules) fun r hr=>szR (h.2.2.2 r hr)
 have h3:g.Symbols.length*(60+1)≤183:=by have:=h.1.2.1;omega
 have h4:g.Rules.length*(60300+1)≤482408:=by have:=h.2.2.1;omega
 rw[z6t];omega
theorem j0m {r:Rl_}(h:Valid r)(i k:Int):Valid (addP r i k):=by
 unfold addP
 by_cases hc:Valid r∧inN r i∧inN r k
 ·rw[ifP hc]
  obtain⟨_,hi,hk⟩:=hc
  unfold j2Q
  refine⟨h.1,h.2.1,by dsimp only;rw[List.length_set];exact h.2.2.1,fun x hx=>?_⟩
  rcases List.mem_or_eq_of_mem_set hx with hx|hx
  ·exact h.2.2.2 x hx
  ·rw[hx]
   have h1:=h.1
   have hk1:=hk.1
   have hk2:=hk.2
   refine k5P ?_ ?_
   ·unfold z6O
    rw[List.getD_eq_getElem?_getD]
    cases hq:r.Rows[i.toNat]? with
    | none=>show (0:Int)≤0∧(0:Int)≤((2 ^ r.N.toNat:Nat):Int)-1;have:=Nat.two_pow_pos r.N.toNat;omega
    | some y=>exact h.2.2.2 y (List.mem_of_getElem? hq)
   ·have h2:2 ^ k.toNat<2 ^ r.N.toNat:=Nat.pow_lt_pow_right (by decide) (by omega)
    constructor
    ·exact Int.natCast_nonneg _
    ·dsimp only;omega
 ·rw[ifN hc];exact h
theorem k3n {r:Rl_}(h:Valid r)(i k:Int)(a c:Nat):Rl (addP r i k).Rows a c↔Rl r.Rows a c∨(inN r i∧inN r k∧(a:Int)=i∧(c:Int)=k):=by
 unfold addP
 by_cases hc:Valid r∧inN r i∧inN r k
 ·rw[ifP hc]
  obtain⟨_,hi,hk⟩:=hc
  have hi1:=hi.1
  have hi2:=hi.2
  have hk1:=hk.1
  have hl:=h.2.2.1
  unfold j2Q Rl
  dsimp only
  rw[List.getD_eq_getElem?_getD,List.getElem?_set]
  by_cases e:i.toNat=a
  ·rw[ifP e,ifP (by omega),Option.getD_some,z9D,Nat.testBit_or,tnC,Nat.testBit_two_pow]
   unfold z6O
   rw[e]
   simp only[Bool.or_eq_true,decide_eq_true_eq]
   constructor
   ·rintro (h1|h1)
    ·exact .inl h1
    ·exact .inr ⟨hi,hk,by omega,by omega⟩
   ·rintro (h1|⟨_,_,_,h1⟩)
    ·exact .inl h1
    ·exact .inr (by omega)
  ·rw[ifN e,← List.getD_eq_getElem?_getD]
   constructor
   ·exact fun h1=>.inl h1
   ·rintro (h1|⟨_,_,h1,_⟩)
    ·exact h1
    ·omega
 ·rw[ifN hc]
  constructor
  ·exact fun h1=>.inl h1
  ·rintro (h1|⟨h1,h2,_⟩)
   ·exact h1
   ·exact absurd ⟨h,h1,h2⟩ hc
def Sub (a b:Rl_):Prop:=Valid a∧Valid b∧a.N=b.N∧∀ i j:Nat,Rl a.Rows i j→Rl b.Rows i j
theorem Sub.refl {a:Rl_}(h:Valid a):Sub a a:=⟨h,h,rfl,fun _ _ h=>h⟩
theorem Sub.trans {a b c:Rl_}(h:Sub a b)(k:Sub b c):Sub a c:=⟨h.1,k.2.1,h.2.2.1.trans k.2.2.1,fun i j x=>k.2.2.2 i j (h.2.2.2 i j x)⟩
theorem Sub.add {a b:Rl_}(h:Sub a b)(i k:Int):Sub a (addP b i k):=
 h.trans ⟨h.2.1,j0m h.2.1 i k,(z8a _ _ _).2.symm,fun x y hx=>(k3n h.2.1 i k x y).2 (.inl hx)⟩
theorem Sub.close {a:Rl_}(h:Valid a):Sub a (q6w a):=by
 refine⟨h,j7g h,(j4s _).2.symm,fun i j hx=>?_⟩
 unfold q6w
 rw[ifP h]
 exact k2C (z8b h).1 _ i j hx
theorem j0n (own:Rl_)(a:Nat)(x:Int):∀ (ys:List Int) (i:Nat) (o:Rl_),Valid o→Sub o (q9J own a x i ys o)
 | [],i,o,h=>Sub.refl h
 | y::ys,i,o,h=>by
  rw[q9J]
  by_cases hp:hasP own (a:Int) (i:Int)
  ·rw[ifP hp];exact ((Sub.refl h).add x y).trans (j0n own a x ys (i+1) _ (j0m h x y))
  ·rw[ifN hp];exact j0n own a x ys (i+1) _ h
theorem j3g (own:Rl_)(at' : List Int):∀ (xs:List Int) (a:Nat) (o:Rl_),Valid o→Sub o (z0Y own at' a xs o)
 | [],a,o,h=>Sub.refl h
 | x::xs,a,o,h=>by
  rw[z0Y]
  have h1:=j0n own a x at' 0 o h
  exact h1.trans (j3g own at' xs (a+1) _ h1.2.1)
theorem j8N {n:Int}(h0:0≤n)(h1:n≤16):Valid ⟨n,List.replicate n.toNat 0⟩:=by
 refine⟨h0,h1,by simp;omega,fun x hx=>?_⟩
 have:=(List.mem_replicate.1 hx).2
 have h2:=Nat.two_pow_pos n.toNat
 dsimp only
 omega
theorem k3o (g:Gm_)(r:Rule)(pos:Int)(own:Rl_){o:Rl_}(h:Valid o):Sub o (z6N g r o pos own):=j3g own _ _ 0 o h
noncomputable def indL (g:Gm_) (r:Rule) (all:ByteArray→Rl_):Nat→Nat→Rl_→Rl_
 | 0,_,o=>o
 | m+1,pos,o=>indL g r all m (pos+1) (z6N g r o (pos:Int) (all (q5Y r (pos:Int))))
noncomputable def indR (g:Gm_) (r:Rule) (all:ByteArray→Rl_):Rl_:=q6w (indL g r all (r.Right.length+1) 0 (locR g r))
theorem j9X (g:Gm_)(r:Rule)(all:ByteArray→Rl_):∀ (m pos:Nat) (o:Rl_),Valid o→Sub o (indL g r all m pos o)
 | 0,pos,o,h=>Sub.refl h
 | m+1,pos,o,h=>by
  rw[indL]
  have h1:=k3o g r (pos:Int) (all (q5Y r (pos:Int))) h
  exact h1.trans (j9X g r all m (pos+1) _ h1.2.1)
theorem k1o {α:Type}{nm:α→ByteArray}{xs:List α}(h:j8A nm xs=true):xs.Pairwise fun a b=>nm a≠nm b:=by
 unfold j8A at h
 rw[Option.isNone_iff_eq_none] at h
 rw[List.pairwise_iff_getElem]
 intro i j hi hj hij he
 have h1:=z5T xs [] h j xs[j] (List.getElem?_eq_getElem hj)
 unfold dupB at h1
 rw[List.nil_append,List.any_eq_false] at h1
 exact h1 xs[i] (List.mem_take_iff_getElem.2 ⟨i,by omega,rfl⟩) (by simpa using he)
theorem k3p {y:Symbol}(h:symB y=true){a:At_}(ha:a∈y.Attributes):z3l y a.Name=(a,true):=by
 unfold symB at h
 simp only[Bool.and_eq_true] at h
 have hd:=k1o h.2.2.2
 unfold z3l
 cases hf:y.Attributes.find? (fun b=>decide (b.Name=a.Name)) with
 | none=>rw[List.find?_eq_none] at hf;exact absurd (by simp) (hf a ha)
 | some b=>
  have hb:=List.mem_of_find?_eq_some hf
  have he:b.Name=a.Name:=by simpa using List.find?_some hf
  have:b=a:=by
   rcases List.getElem_of_mem hb with ⟨i,hi,rfl⟩
   rcases List.getElem_of_mem ha with ⟨j,hj,rfl⟩
   rw[List.pairwise_iff_getElem] at hd
   rcases Nat.lt_trichotomy i j with h|h|h
   ·exact absurd he (hd i j hi hj h)
   ·subst h;rfl
   ·exact absurd he.symm (hd j i hj hi h)
  rw[this]
theorem Shape.find {g:Gm_}(h:Shape g){r:Rule}(hr:r∈g.Rules){k:Nat}(hk:k<r.Right.length+1):Go.Proofs.YtppbkkcekpbaiaaGreat.symB (q6Z g (q5Y r (k:Int))).1=true:=by
 have hb:=h.brk 3 (by omega) (by omega) r hr
 unfold z4G at hb
 rw[ifP rfl] at hb
 simp only[Bool.not_eq_false'] at hb
 unfold j3b at hb
 rw[List.all_eq_true] at hb
 have h1:=hb k (by rw[List.mem_range'_1];omega)
 unfold q6Z at h1 ⊢
 cases hf:g.Symbols.find? (fun y=>decide (y.Name=q5Y r (k:Int))) with
 | none=>rw[hf] at h1;cases h1
 | some y=>exact h.symB (List.mem_of_find?_eq_some hf)
theorem Shape.may {g:Gm_}(h:Shape g){r:Rule}(hr:r∈g.Rules){q:Eqn}(hq:q∈r.Equations){u:Oc}(hu:u∈Go.Proofs.YtppbkkcekpbaiaaGreat.attrs q.Expr):mayB g r u=true∧u∉reqL g r:=by
 have hb:=h.brk 6 (by omega) (by omega) r hr
 unfold z4G at hb
 rw[ifN (by omega),ifN (by omega),ifN (by omega)] at hb
 unfold misB at hb
 simp only[Bool.not_eq_false'] at hb
 rw[List.all_eq_true] at hb
 have h1:=hb q.Expr (by unfold z4X;rw[List.mem_append];exact .inl (List.mem_map.2 ⟨q,hq,rfl⟩))
 unfold useB at h1
 rw[List.all_eq_true] at h1
 have hm:=h1 u hu
 refine⟨hm,fun hi=>?_⟩
 unfold reqL at hi
 obtain⟨k,hk,hi⟩:=List.mem_flatMap.1 hi
 rw[List.mem_range'_1] at hk
 unfold reqK at hi
 obtain⟨a,ha,rfl⟩:=List.mem_map.1 hi
 rw[List.mem_filter] at ha
 have hs:=h.find hr (k:=k) (by omega)
 unfold mayB z1O at hm
 rw[ifP (by dsimp only;omega)] at hm
 dsimp only at hm
 rw[k3p hs ha.1] at hm
 have h2:=ha.2
 simp only[decide_eq_true_eq,Bool.and_eq_true] at h2 hm
 rw[h2] at hm
 by_cases h0:(k:Int)=0
 ·rw[ifP h0,ifP h0] at hm;omega
 ·rw[ifN h0,ifN h0] at hm;omega
theorem k8b (l:List Oc)(o:Oc):q6v l o=some (ixF l o):=by
 have h:q3R l o=some (ixF l o):=by
  unfold q3R
  refine j2K fun k x=>⟨fun e=>?_,fun e=>?_⟩
  ·unfold q3K;rw[ifP e.symm]
  ·unfold q3K;rw[ifN (fun h=>e h.symm)]
 unfold q6v
 rw[h];rfl
theorem k8c {l:List Oc}{u:Oc}{a:Nat}(h:(a:Int)=ixF l u):l[a]?=some u:=by
 unfold ixF at h
 by_cases hm:u∈l
 ·rw[ifP hm] at h
  obtain rfl:a=l.idxOf u:=by omega
  have hl:=List.idxOf_lt_length_of_mem hm
  rw[List.getElem?_eq_getElem hl,List.getElem_idxOf]
 ·rw[ifN hm] at h;omega
theorem k8d {l:List Oc}{u:Oc}{a:Nat}(h:(a:Int)=ixF l u):a<l.length:=(List.getElem?_eq_some_iff.1 (k8c h)).1
theorem k5R (l:List Oc)(k:Nat)(hk:k<l.length):∀ (us:List Oc) (i:Nat) (o:Rl_),Valid o→o.N=(l.length:Int) →
  ∃ o',eachL (q6M l k) i us (o.Rows,o.N)=some (o'.Rows,o'.N)∧Valid o'∧o'.N=o.N∧∀ a c:Nat,Rl o'.Rows a c↔Rl o.Rows a c∨(c=k∧∃ u∈us,(a:Int)=ixF l u)
 | [],i,o,hv,hN=>⟨o,rfl,hv,rfl,fun a c=>by simp⟩
 | u::us,i,o,hv,hN=>by
  have hlen:o.Rows.length≤1048576:=by have:=hv.2.1;have:=hv.2.2.1;omega
  have e:q6M l k i u (o.Rows,o.N)=some ((addP o (ixF l u) (k:Int)).Rows,(addP o (ixF l u) (k:Int)).N):=by
   unfold q6M
   dsimp only
   rw[k8b,bsS,j5G,j9F hlen,bsS]
  obtain⟨o',h1,h2,h3,h4⟩:=k5R l k hk us (i+1) (addP o (ixF l u) (k:Int)) (j0m hv _ _) ((z8a _ _ _).2.trans hN)
  refine⟨o',by rw[eachL,e,bsS];exact h1,h2,h3.trans (z8a _ _ _).2,fun a c=>?_⟩
  rw[h4,k3n hv]
  have hin:(a:Int)=ixF l u→inN o (ixF l u):=fun h=>⟨by omega,by have:=k8d h;omega⟩
  constructor
  ·rintro ((h|⟨_,_,h1,h2⟩)|⟨h1,u',hu,h2⟩)
   ·exact .inl h
   ·exact .inr ⟨by omega,u,by simp,h1⟩
   ·exact .inr ⟨h1,u',by simp[hu],h2⟩
  ·rintro (h|⟨h1,u',hu,h2⟩)
   ·exact .inl (.inl h)
   ·rcases List.mem_cons.1 hu with rfl|hu
    ·exact .inl (.inr ⟨hin h2,⟨by omega,by omega⟩,h2,by omega⟩)
    ·exact .inr ⟨h1,u',hu,h2⟩
theorem k3q {r:Rule}(hr:Sz.szd r≤1048576)(l:List Oc):∀ (m k:Nat) (o:Rl_),k+m=l.length→Valid o→o.N=(l.length:Int) →
  ∃ o',eachL (q6N r l) k (l.drop k) (o.Rows,o.N)=some (o'.Rows,o'.N)∧Valid o'∧o'.N=o.N∧∀ a c:Nat,Rl o'.Rows a c↔Rl o.Rows a c∨(k≤c∧∃ x,l[c]?=some x∧∃ u∈attrs (eqAt r x).1,(a:Int)=ixF l u)
 | 0,k,o,hk,hv,hN=>by
  refine⟨o,by rw[List.drop_eq_nil_of_le (by omega)];rfl,hv,rfl,fun a c=>⟨.inl,?_⟩⟩
  rintro (h|⟨h1,x,h2,_⟩)
  ·exact h
  ·have:=(List.getElem?_eq_some_iff.1 h2).1;omega
 | m+1,k,o,hk,hv,hN=>by
  have hk' : k<l.length:=by omega
  have hsz:=j5I hr l[k]
  have hf:=j8z hr l[k]
  obtain⟨o1,h1,h2,h3,h4⟩:=k5R l k hk' (attrs (eqAt r l[k]).1) 0 o hv hN
  obtain⟨o',k1,k2,k3,k4⟩:=k3q hr l m (k+1) o1 (by omega) h2 (h3.trans hN)
  have e1:q6N r l k l[k] (o.Rows,o.N)=some (o1.Rows,o1.N):=by
   unfold q6N
   dsimp only
   generalize eqAt r l[k]=z at hsz hf h1
   obtain⟨E,B⟩:=z
   rw[hf.2,bsS]
   dsimp only
   rw[j1v hsz,bsS,h1];rfl
  refine⟨o',by rw[List.drop_eq_getElem_cons hk',eachL,e1,bsS];exact k1,k2,k3.trans h3,fun a c=>?_⟩
  rw[k4,h4]
  constructor
  ·rintro ((h|⟨rfl,u,hu,h⟩)|⟨hc,h⟩)
   ·exact .inl h
   ·exact .inr ⟨Nat.le_refl _,l[c],List.getElem?_eq_getElem hk',u,hu,h⟩
   ·exact .inr ⟨by omega,h⟩
  ·rintro (h|⟨hc,x,hx,u,hu,h⟩)
   ·exact .inl (.inl h)
   ·by_cases hck:c=k
    ·subst hck
     rw[List.getElem?_eq_getElem hk'] at hx
     cases hx
     exact .inl (.inr ⟨rfl,u,hu,h⟩)
    ·exact .inr ⟨by omega,x,hx,u,hu,h⟩
theorem k3r (n i j:Nat):¬ Rl (List.replicate n 0) i j:=by
 unfold Rl
 rw[List.getD_eq_getElem?_getD,List.getElem?_replicate]
 split<;>simp
theorem k3s {g:Gm_}{r:Rule}(hg:Sz.szd g≤1048576)(hr:Sz.szd r≤1048576)(hl:(occL g r).length≤16):Valid (locR g r)∧(locR g r).N=((occL g r).length:Int) ∧
  ∀ a c:Nat,Rl (locR g r).Rows a c↔∃ x,(occL g r)[c]?=some x∧∃ u∈attrs (eqAt r x).1,(a:Int)=ixF (occL g r) u:=by
 have h:=(k5Q hg hr).2.1
 unfold q9u at h
 rw[j8L (q7z hg) (q4E hr),bsS,z7Z,j1x (by omega) (by omega),bsS,ifN (by omega)] at h
 obtain⟨o',h1,h2,h3,h4⟩:=k3q hr (occL g r) (occL g r).length 0 ⟨((occL g r).length:Int),List.replicate (((occL g r).length:Int)).toNat 0⟩ (by omega) (j8N (by omega) (by omega)) rfl
 rw[List.drop_zero] at h1
 rw[h1,bsS] at h
 have e:locR g r=o':=(Option.some.inj h).symm
 rw[e]
 refine⟨h2,h3,fun a c=>?_⟩
 rw[h4]
 constructor
 ·rintro (h|⟨_,h⟩)
  ·exact absurd h (k3r _ _ _)
  ·exact h
 ·exact fun h=>.inr ⟨Nat.zero_le _,h⟩
theorem j5O {α β:Type}{p:α→Bool}{g:α→β}{B:Nat}{f:Nat→α→List β→Option (List β)}:∀ (xs:List α) (i:Nat) (s:List β),(∀ k x s,x∈xs→s.length<B→f k x s=some (if p x=true then s++[g x] else s))→s.length+xs.length≤B →
  eachL f i xs s=some (s++(xs.filter p).map g)
 | [],i,s,_,_=>by simp[eachL]
 | x::xs,i,s,hf,h=>by
  simp only[lnC] at h
  by_cases hp:p x=true
  ·have ih:=j5O xs (i+1) (s++[g x]) (fun k y s hy=>hf k y s (by simp[hy])) (by simp;omega)
   simp[eachL,hf i x s (by simp) (by omega),hp,ih]
  ·have ih:=j5O xs (i+1) s (fun k y s hy=>hf k y s (by simp[hy])) (by omega)
   simp[eachL,hf i x s (by simp) (by omega),hp,ih]
theorem j9Y {α β:Type}{g:α→β}{B:Nat}{f:Nat→α→List β→Option (List β)}(xs:List α)(i:Nat)(s:List β)(hf:∀ k x s,x∈xs→s.length<B→f k x s=some (s++[g x]))(h:s.length+xs.length≤B) :
  eachL f i xs s=some (s++xs.map g):=by
 have:=j5O (p:=fun _=>true) (g:=g) (B:=B) (f:=f) xs i s (fun k x s hx hs=>by rw[hf k x s hx hs,ifP rfl]) h
 rw[this];congr 2;congr 1;simp
theorem k5f {g:Gm_}{n:ByteArray}(h:(q6Z g n).2=true):∃ j y,atS g n=some j∧g.Symbols[j]?=some y∧q6Z g n=(y,true)∧y.Name=n:=by
 unfold q6Z at h ⊢
 cases hf:g.Symbols.find? fun y=>decide (y.Name=n) with
 | none=>rw[hf] at h;cases h
 | some y=>
  have hn:y.Name=n:=by simpa using List.find?_some (p:=fun y:Symbol=>decide (y.Name=n)) hf
  unfold atS
  cases he:g.Symbols.findIdx? fun y=>decide (y.Name=n) with
  | none=>
   rw[List.findIdx?_eq_none_iff] at he
   have:=he y (List.mem_of_find?_eq_some hf)
   simp[hn] at this
  | some j=>
   refine⟨j,y,rfl,?_,rfl,hn⟩
   rw[List.findIdx?_eq_some_iff_getElem] at he
   obtain⟨hj,h1,h2⟩:=he
   rw[List.find?_eq_some_iff_getElem] at hf
   obtain⟨_,i,hi,hy,h3⟩:=hf
   have:i=j:=by
    rcases Nat.lt_trichotomy i j with hlt|heq|hgt
    ·have:=h2 i hlt;rw[hy] at this;simp[hn] at this
    ·exact heq
    ·have:=h3 j hgt;simp at this;simp at h1;exact absurd h1 this
   subst this
   rw[List.getElem?_eq_getElem hi,hy]
theorem Shape.known {g:Gm_}(h:Shape g){r:Rule}(hr:r∈g.Rules){k:Nat}(hk:k≤r.Right.length):(q6Z g (q5Y r (k:Int))).2=true:=by
 have h3:=h.brk 3 (by omega) (by omega) r hr
 unfold z4G at h3
 rw[ifP rfl,Bool.not_eq_false'] at h3
 unfold j3b at h3
 rw[List.all_eq_true] at h3
 exact h3 k (by rw[List.mem_range'_1];omega)
theorem Shape.right {g:Gm_}(h:Shape g){r:Rule}(hr:r∈g.Rules){n:ByteArray}(hn:n∈r.Right):(q6Z g n).2=true:=by
 obtain⟨k,hk⟩:=List.getElem?_of_mem hn
 have hlt:=(List.getElem?_eq_some_iff.1 hk).1
 have:=h.known hr (k:=k+1) (by omega)
 rwa[j8M hk] at this
theorem Shape.left {g:Gm_}(h:Shape g){r:Rule}(hr:r∈g.Rules):(q6Z g r.Left).2=true:=by
 have:=h.known hr (k:=0) (by omega)
 unfold q5Y at this
 rwa[ifP (by rfl)] at this
theorem Shape.attrs {g:Gm_}(h:Shape g){y:Symbol}(hy:y∈g.Symbols):y.Attributes.length≤4:=by
 have:=h.symB hy
 unfold Go.Proofs.YtppbkkcekpbaiaaGreat.symB at this
 simp only[Bool.and_eq_true,decide_eq_true_eq] at this
 exact this.2.2.1
theorem Shape.plain {g:Gm_}(h:Shape g)(n:ByteArray):(q5N g n).length≤4:=by
 refine Nat.le_trans (List.length_filter_le _ _) ?_
 unfold q6Z
 cases hf:g.Symbols.find? fun y=>decide (y.Name=n) with
 | none=>simp[zS]
 | some y=>exact h.attrs (List.mem_of_find?_eq_some hf)
theorem j9Z (g:Gm_)(n:ByteArray):q6R g n=some (atI g n):=by
 unfold q6R q4k atI atS
 rw[z9G (q:=fun y:Symbol=>decide (y.Name=n)) (c:=fun k=>(k:Int)) fun j x hx=>by
  unfold q4H q9q
  rw[bsS,← apply_ite some]]
 cases g.Symbols.findIdx? fun y=>decide (y.Name=n) with
 | none=>rfl
 | some j=>dsimp only;rw[Nat.zero_add];rfl
def Inv (g:Gm_)(all:List Rl_):Prop:=all.length=g.Symbols.length∧∀ (k:Nat) (y:Symbol) (a:Rl_),g.Symbols[k]?=some y→all[k]?=some a→Valid a∧a.N=((q5N g y.Name).length:Int)
def zR:Rl_:=⟨0,[]⟩
def q7A (g:Gm_)(all:List Rl_)(n:ByteArray):Rl_:=all.getD ((atS g n).getD 0) zR
theorem Inv.at_ {g:Gm_}{all:List Rl_}(h:Inv g all){n:ByteArray}(hn:(q6Z g n).2=true):∃ j,atS g n=some j∧j<g.Symbols.length∧all[j]?=some (q7A g all n)∧Valid (q7A g all n)∧(q7A g all n).N=((q5N g n).length:Int):=by
 obtain⟨j,y,h1,h2,h3,h4⟩:=k5f hn
 have hj:=(List.getElem?_eq_some_iff.1 h2).1
 have e:all[j]?=some (q7A g all n):=by
  unfold q7A
  rw[h1,Option.getD_some,List.getD_eq_getElem?_getD,List.getElem?_eq_getElem (by rw[h.1];exact hj)];rfl
 have:=h.2 j y _ h2 e
 rw[h4] at this
 exact⟨j,h1,hj,e,this⟩
theorem j3h {g:Gm_}(hS:Shape g){r:Rule}(hr:r∈g.Rules):r.Right.length≤3:=by
 have:=hS.ruleB hr
 unfold Go.Proofs.YtppbkkcekpbaiaaGreat.ruleB at this
 simp only[Bool.and_eq_true,decide_eq_true_eq] at this
 exact this.2.1.1
def sumA (all:List Rl_):Nat:=(all.map sumR).sum
theorem k0a:∀ (all:List Rl_) (k:Nat) (x a:Rl_),all[k]?=some a→sumA (all.set k x)+sumR a=sumA all+sumR x
 | [],k,x,a,h=>by simp at h
 | b::all,0,x,a,h=>by simp at h;subst h;unfold sumA;simp;omega
 | b::all,k+1,x,a,h=>by
  have ih:=k0a all k x a (by simpa using h)
  unfold sumA at ih ⊢
  simp only[List.set_cons_succ,List.map_cons,List.sum_cons];omega
theorem Inv.bound {g:Gm_}{all:List Rl_}(h:Inv g all):sumA all≤all.length*(16*65535):=by
 have key:∀ l:List Rl_,(∀ a∈l,Valid a)→sumA l≤l.length*(16*65535):=by
  intro l
  induction l with
  | nil=>intro _;simp[sumA]
  | cons a l ih=>
   intro hv
   have h1:=k3d (hv a (by simp))
   have h2:=ih fun b hb=>hv b (by simp[hb])
   unfold sumA at h2 ⊢
   simp only[List.map_cons,List.sum_cons,lnC]
   omega
 refine key all fun a ha=>?_
 obtain⟨k,hk⟩:=List.getElem?_of_mem ha
 have hlt:=(List.getElem?_eq_some_iff.1 hk).1
 exact (h.2 k _ a (List.getElem?_eq_getElem (by rw[← h.1];exact hlt)) hk).1
theorem Valid.len {a:Rl_}(h:Valid a):a.Rows.length≤16:=by have:=h.2.2.1;have:=h.2.1;omega
def j0Q (g:Gm_):List Rl_:=g.Symbols.map fun y=>⟨((q5N g y.Name).length:Int),List.replicate (q5N g y.Name).length 0⟩
theorem k3t {g:Gm_}(hS:Shape g):Inv g (j0Q g):=by
 refine⟨by unfold j0Q;simp,fun k y a hk ha=>?_⟩
 unfold j0Q at ha
 rw[List.getElem?_map,hk] at ha
 cases ha
 have h4:=hS.plain y.Name
 refine⟨⟨by show (0:Int)≤((q5N g y.Name).length:Int);omega,by show ((q5N g y.Name).length:Int)≤16;omega,by simp,fun x hx=>?_⟩,rfl⟩
 rw[List.mem_replicate] at hx
 have:=Nat.one_le_two_pow (n:=((q5N g y.Name).length:Int).toNat)
 show 0≤x∧x≤((2 ^ ((q5N g y.Name).length:Int).toNat:Nat):Int)-1
 omega
theorem j3i {g:Gm_}(h0:Sz.szd g≤1048576)(hS:Shape g):z2t g=some (j0Q g):=by
 have hl:=hS.syms
 unfold z2t j0Q
 rw[j9Y (g:=fun y:Symbol=>(⟨((q5N g y.Name).length:Int),List.replicate (q5N g y.Name).length 0⟩:Rl_)) (B:=1048576) g.Symbols 0 [] (fun k y s hy hs=>by
  unfold z4T
  have:=hS.plain y.Name
  rw[z7J (q7z h0),bsS,z7Z,j1x (by omega) (by omega),bsS,q3E (by constructor<;>omega),tnC]) (by simp;omega)]
 simp
theorem k1p {n:Int}{s:List Int}(h0:0≤n)(h1:n≤16)(h:z4D n.toNat s):Valid ⟨n,s⟩:=by
 have hl:=h.1
 refine⟨h0,h1,by show (s.length:Int)=n;omega,fun x hx=>?_⟩
 have:=h.2 x hx
 have:=j5F n
 exact⟨(h.2 x hx).1,by show x≤((2 ^ n.toNat:Nat):Int)-1;omega⟩
theorem k1q {p:Rl_}{l:List Int}(hl:l.length≤16)(k1:Nat)(x1:Int){f:Nat→Int→List Int→Option (List Int)}(hf:∀ k2 x2 s2,f k2 x2 s2=((q8j p x1 x2).bind fun y3=>if y3=true then ((s2[k1]?).bind fun x3=>grd (0≤(k2:Int)∧(k2:Int)<63) <| grd (0≤x3∧0≤((2 ^ (k2:Int).toNat:Nat):Int)) <| some (List.set s2 k1 ((x3.toNat ||| ((2 ^ (k2:Int).toNat:Nat):Int).toNat:Nat):Int))) else some s2).bind fun s3=>some s3)
  {s:List Int} {v:Int} (hs:s[k1]?=some v) (hv:0≤v) :
  ∃ y:Int,eachL f 0 l s=some (s.set k1 y)∧0≤y∧∀ n,y.toNat.testBit n=true↔v.toNat.testBit n=true∨∃ x2,l[n]?=some x2∧hasP p x1 x2:=by
 have hk1:=(List.getElem?_eq_some_iff.1 hs).1
 have key:∀ (m k:Nat) (v:Int),k+m=l.length→0≤v→∃ y:Int,eachL f k (l.drop k) (s.set k1 v)=some (s.set k1 y)∧0≤y∧∀ n,y.toNat.testBit n=true↔v.toNat.testBit n=true∨(k≤n∧∃ x2,l[n]?=some x2∧hasP p x1 x2):=by
  intro m
  induction m with
  | zero=>
   intro k v hk hv
   refine⟨v,by rw[List.drop_eq_nil_of_le (by omega)];rfl,hv,fun n=>⟨.inl,fun h=>h.elim id fun ⟨h1,x2,h2,_⟩=>?_⟩⟩
   rw[List.getElem?_eq_none (by omega)] at h2;cases h2
  | succ m ih=>
   intro k v hk hv
   obtain⟨x2,hx2⟩:∃ x2,l[k]?=some x2:=⟨_,List.getElem?_eq_getElem (by omega)⟩
   have hd:l.drop k=x2::l.drop (k+1):=by
    rw[List.drop_eq_getElem_cons (by omega)]
    have:l[k]=x2:=by rw[List.getElem?_eq_getElem (by omega)] at hx2;exact Option.some.inj hx2
    rw[this]
   have hsv:(s.set k1 v)[k1]?=some v:=by rw[List.getElem?_set];simp[hk1]
   by_cases hp:hasP p x1 x2
   ·have e:f k x2 (s.set k1 v)=some (s.set k1 (orI v ((2 ^ k:Nat):Int))):=by
     rw[hf,q9i,bsS,ifP (by simpa using hp),hsv,bsS,q3E (by constructor<;>omega),q3E ⟨hv,Int.natCast_nonneg _⟩,bsS,List.set_set]
     rfl
    obtain⟨y,h1,h2,h3⟩:=ih (k+1) (orI v ((2 ^ k:Nat):Int)) (by omega) (j4r _ _)
    refine⟨y,by rw[hd];simp only[eachL,e,bsS];exact h1,h2,fun n=>?_⟩
    rw[h3,z9D,Nat.testBit_or,tnC,Nat.testBit_two_pow,Bool.or_eq_true,decide_eq_true_iff]
    constructor
    ·rintro ((h|h)|⟨h,h'⟩)
     ·exact .inl h
     ·subst h;exact .inr ⟨Nat.le_refl _,x2,hx2,hp⟩
     ·exact .inr ⟨by omega,h'⟩
    ·rintro (h|⟨h,h'⟩)
     ·exact .inl (.inl h)
     ·by_cases hn:k=n
      ·exact .inl (.inr hn)
      ·exact .inr ⟨by omega,h'⟩
   ·have e:f k x2 (s.set k1 v)=some (s.set k1 v):=by
     rw[hf,q9i,bsS,ifN (by simpa using hp),bsS]
    obtain⟨y,h1,h2,h3⟩:=ih (k+1) v (by omega) hv
    refine⟨y,by rw[hd];simp only[eachL,e,bsS];exact h1,h2,fun n=>?_⟩
    rw[h3]
    constructor
    ·rintro (h|⟨h,h'⟩)
     ·exact .inl h
     ·exact .inr ⟨by omega,h'⟩
    ·rintro (h|⟨h,x3,h4,h5⟩)
     ·exact .inl h
     ·by_cases hn:k=n
      ·subst hn;rw[hx2] at h4;cases h4;exact absurd h5 hp
      ·exact .inr ⟨by omega,x3,h4,h5⟩
 obtain⟨y,h1,h2,h3⟩:=key l.length 0 v (by omega) hv
 have e0:s.set k1 v=s:=by
  apply List.ext_getElem?
  intro q
  rw[List.getElem?_set]
  by_cases hq:k1=q
  ·subst hq;rw[ifP rfl,ifP hk1,hs]
  ·rw[ifN hq]
 rw[List.drop_zero,e0] at h1
 exact⟨y,h1,h2,fun n=>by rw[h3];simp⟩
theorem j7s:z1I=q5A:=by
 funext p l
 unfold z1I q5A
 rw[z0X,q6O,z7Z]
 have e:z0U p l=q6L p l:=by
  funext k x s
  unfold z0U q6L
  have e2:z0T p k x=q8Y p k x:=by
   funext k2 x2 s2
   unfold z0T q8Y
   rw[k4D]
  rw[e2]
 rw[e]
theorem j7t {p:Rl_}(hp:Valid p){l:List Int}(hl:l.length≤16):∃ q,q5A p l=some q∧Valid q∧q.N=l.length∧∀ (m n:Nat) (x y:Int),l[m]?=some x→l[n]?=some y→(hasP q (m:Int) (n:Int)↔hasP p x y):=by
 have key:∀ (m k:Nat) (s:List Int),k+m=l.length→z4D l.length s→(∀ i,k≤i→i<l.length→s[i]?=some 0)→(∀ i x,i<k→l[i]?=some x→∀ n,Rl s i n↔∃ y,l[n]?=some y∧hasP p x y) →
   ∃ s',eachL (q6L p l) k (l.drop k) s=some s'∧z4D l.length s'∧∀ i x,l[i]?=some x→∀ n,Rl s' i n↔∃ y,l[n]?=some y∧hasP p x y:=by
  intro m
  induction m with
  | zero=>
   intro k s hk hok _ h
   exact⟨s,by rw[List.drop_eq_nil_of_le (by omega)];rfl,hok,fun i x hx=>h i x (by have:=(List.getElem?_eq_some_iff.1 hx).1;omega) hx⟩
  | succ m ih=>
   intro k s hk hok h0 h
   obtain⟨x,hx⟩:∃ x,l[k]?=some x:=⟨_,List.getElem?_eq_getElem (by omega)⟩
   have hd:l.drop k=x::l.drop (k+1):=by
    rw[List.drop_eq_getElem_cons (by omega)]
    have:l[k]=x:=by rw[List.getElem?_eq_getElem (by omega)] at hx;exact Option.some.inj hx
    rw[this]
   obtain⟨y,h1,h2,h3⟩:=k1q (p:=p) hl k x (f:=q8Y p k x) (fun _ _ _=>rfl) (h0 k (Nat.le_refl _) (by omega)) (Int.le_refl _)
   have e:q6L p l k x s=some (s.set k y):=by
    unfold q6L;rw[h1];rfl
   have hks:k<s.length:=by rw[hok.1];omega
   have hget:∀ i,(s.set k y)[i]?=if k=i then some y else s[i]?:=fun i=>by
    rw[List.getElem?_set]
    by_cases hi:k=i
    ·subst hi;simp[hks]
    ·simp[hi]
   have hylt:y.toNat<2 ^ l.length:=by
    apply Nat.lt_pow_two_of_testBit
    intro n hn
    cases hb:y.toNat.testBit n with
    | false=>rfl
    | true=>
     rcases (h3 n).1 hb with h4|⟨x2,h4,_⟩
     ·simp at h4
     ·rw[List.getElem?_eq_none (by omega)] at h4;cases h4
   have hok' : z4D l.length (s.set k y):=by
    refine⟨by rw[List.length_set];exact hok.1,fun z hz=>?_⟩
    rcases List.mem_or_eq_of_mem_set hz with h4|h4
    ·exact hok.2 z h4
    ·subst h4;exact⟨h2,hylt⟩
   obtain⟨s',k1,k2,k3⟩:=ih (k+1) (s.set k y) (by omega) hok' (fun i hi hil=>by rw[hget,ifN (by omega)];exact h0 i (by omega) hil) (fun i x' hi hx' n=>by
    by_cases hik:k=i
    ·subst hik
     rw[hx] at hx';cases hx'
     have:(s.set k y).getD k 0=y:=by rw[List.getD_eq_getElem?_getD,hget,ifP rfl];rfl
     unfold Rl
     rw[this,h3];simp
    ·have:(s.set k y).getD i 0=s.getD i 0:=by rw[List.getD_eq_getElem?_getD,hget,ifN hik,List.getD_eq_getElem?_getD]
     have h5:=h i x' (by omega) hx' n
     unfold Rl at h5 ⊢
     rw[this];exact h5)
   exact⟨s',by rw[hd];simp only[eachL,e,bsS];exact k1,k2,k3⟩
 obtain⟨s',h1,h2,h3⟩:=key l.length 0 (List.replicate l.length 0) (by omega) ⟨by simp,fun x hx=>by
  rw[List.mem_replicate] at hx;rw[hx.2];exact⟨Int.le_refl _,Nat.two_pow_pos _⟩⟩ (fun i _ hi=>by rw[List.getElem?_replicate,ifP hi]) (fun i x hi=>absurd hi (Nat.not_lt_zero _))
 have hv:Valid ⟨(l.length:Int),s'⟩:=k1p (Int.natCast_nonneg _) (by omega) (by rw[tnC];exact h2)
 refine⟨⟨(l.length:Int),s'⟩,?_,hv,rfl,fun m n x y hx hy=>?_⟩
 ·unfold q5A
  rw[q6O,bsS,ifP (by simpa using hp),ifN (by omega),j1x (Int.natCast_nonneg _) (by omega),bsS]
  dsimp only
  rw[tnC]
  rw[List.drop_zero] at h1
  rw[h1];rfl
 ·rw[k6N hv,h3 m x hx n]
  constructor
  ·rintro⟨y',h4,h5⟩
   rw[hy] at h4;cases h4;exact h5
  ·intro h;exact⟨y,hy,h⟩
noncomputable def j5P (x:Rl_) (l:List Int):Rl_:=(q5A x l).getD ⟨0,[]⟩
theorem k5g {x:Rl_}(hx:Valid x){l:List Int}(hl:l.length≤16):q5A x l=some (j5P x l)∧Valid (j5P x l)∧(j5P x l).N=(l.length:Int)∧∀ (m n:Nat) (a b:Int),l[m]?=some a→l[n]?=some b→(hasP (j5P x l) (m:Int) (n:Int)↔hasP x a b):=by
 obtain⟨q,h1,h2,h3,h4⟩:=j7t hx hl
 unfold j5P
 rw[h1]
 exact⟨rfl,h2,h3,h4⟩
theorem Shape.occ16 {g:Gm_}(h:Shape g){r:Rule}(hr:r∈g.Rules):(occL g r).length≤16:=by
 have h3:=j3h h hr
 have:=z9H (C:=4) (f:=occK g r) (fun k=>by unfold occK;rw[lnM];exact h.plain _) (List.range' 0 (r.Right.length+1))
 rw[List.length_range'] at this
 unfold occL
 omega
theorem k5h (g:Gm_)(r:Rule)(o:Rl_)(pos:Int)(own:Rl_):(z6N g r o pos own).N=o.N:=(z8K own _ _ 0 o).2
theorem k3u (g:Gm_)(r:Rule)(all:ByteArray→Rl_):∀ (m pos:Nat) (o:Rl_),(indL g r all m pos o).N=o.N∧(indL g r all m pos o).Rows.length=o.Rows.length
 | 0,pos,o=>⟨rfl,rfl⟩
 | m+1,pos,o=>by
  rw[indL]
  have h1:=k3u g r all m (pos+1) (z6N g r o (pos:Int) (all (q5Y r (pos:Int))))
  exact⟨h1.1.trans (k5h _ _ _ _ _),h1.2.trans (j4x _ _ _ _ _)⟩
theorem k3v {g:Gm_}(h0:Sz.szd g≤1048576)(h:Shape g){r:Rule}(hr:r∈g.Rules)(all:ByteArray→Rl_):Valid (locR g r)∧Valid (indR g r all)∧(indR g r all).N=((occL g r).length:Int):=by
 obtain⟨v1,v2,_⟩:=k3s h0 (Nat.le_trans (z0s hr) h0) (h.occ16 hr)
 have hs:=j9X g r all (r.Right.length+1) 0 (locR g r) v1
 have hc:=Sub.close hs.2.1
 unfold indR
 exact⟨v1,hc.2.1,by rw[← hc.2.2.1,(k3u g r all _ 0 _).1,v2]⟩
theorem k3w {g:Gm_}(h:Shape g)(r:Rule){k:Nat}(hk:k≤r.Right.length):(posL g r (k:Int)).length≤16:=by
 rw[k7c g hk]
 have:=h.plain (q5Y r (k:Int))
 omega
def k3x (g:Gm_)(all:List Rl_)(r:Rule):Prop:=k3g (indR g r (q7A g all))=false∧∀ pos:Nat,pos≤r.Right.length→uniR (q7A g all (q5Y r (pos:Int))) (j5P (indR g r (q7A g all)) (posL g r (pos:Int)))=q7A g all (q5Y r (pos:Int))
def cirG (g:Gm_):Bool:=g.Symbols.any fun y=>y.Attributes.any fun a=>a.Circular
theorem k7i (g:Gm_):q5I g=some (cirG g):=by
 unfold q5I q3Q q3V
 rw[q5a (q:=fun y:Symbol=>y.Attributes.any fun a=>a.Circular) fun k y hy=>by
  unfold q5x q6b q4z q4P
  rw[q5a (q:=fun a:At_=>a.Circular) fun k a ha=>by
   unfold q6H z3D
   rw[bsS]
   cases a.Circular<;>rfl]
  rw[bsS,bsS,← apply_ite some]]
 rfl
noncomputable def j8O (g:Gm_):Bool:=z8J g&&(!(colG g||cirG g) && !g.Rules.any farR)
theorem k5i {g:Gm_}(hg:z8J g=true)(hc:colG g=false):(g.Rules.any fun r=>(z4X r).any farB)=g.Rules.any farR:=by
 have:∀ r∈g.Rules,(z4X r).any farB=farR r:=fun r hr=>by
  unfold z4X farR
  rw[k5b hg hc hr,List.flatMap_nil,List.append_nil,List.any_map];rfl
 rw[Bool.eq_iff_iff,List.any_eq_true,List.any_eq_true]
 exact⟨fun ⟨r,hr,hx⟩=>⟨r,hr,(this r hr)▸hx⟩,fun ⟨r,hr,hx⟩=>⟨r,hr,(this r hr).symm▸hx⟩⟩
theorem k0b {g:Gm_}(h:Sz.szd g≤1048576):z2h g=some (j8O g):=by
 unfold z2h j8O
 rw[k4V h,bsS]
 cases hg:z8J g with
 | false=>rfl
 | true=>
  rw[ifP rfl,k5a h]
  simp only[bsS]
  cases hc:colG g with
  | true=>cases g.Rules.any fun r=>(z4X r).any farB<;>simp[k3a,hc]
  | false=>
   rw[k5i hg hc]
   cases g.Rules.any farR<;>simp[k3a,hc,k7i]
theorem k0c {g:Gm_}(h:Sz.szd g≤1048576):z1X g=some (j8O g):=by
 unfold z1X j8O
 rw[q4K (c:=false) (q:=fun y:Symbol=>!y.Attributes.any fun a=>a.Circular||decide (a.Mode=3)) fun k y hy=>by
  unfold j0B
  rw[q4K (c:=false) (q:=fun a:At_=>!(a.Circular||decide (a.Mode=3))) fun k a ha=>by
   unfold j0A
   by_cases hm:a.Mode=3<;>cases hc:a.Circular<;>simp[hm]]
  have e:(y.Attributes.all fun a=>!(a.Circular||decide (a.Mode=3)))=!(y.Attributes.any fun a=>a.Circular||decide (a.Mode=3)):=by rw[List.not_any_eq_all_not]
  rw[e]
  cases y.Attributes.any fun a=>a.Circular||decide (a.Mode=3)<;>rfl]
 have e:(g.Symbols.all fun y=>!y.Attributes.any fun a=>a.Circular||decide (a.Mode=3))=!(colG g||cirG g):=by
  have e1:(g.Symbols.any fun y=>y.Attributes.any fun a=>a.Circular||decide (a.Mode=3))=(colG g||cirG g):=by
   unfold colG cirG
   rw[Bool.eq_iff_iff]
   simp only[List.any_eq_true,Bool.or_eq_true]
   constructor
   ·rintro⟨y,hy,a,ha,h|h⟩
    ·exact .inr ⟨y,hy,a,ha,h⟩
    ·exact .inl ⟨y,hy,a,ha,h⟩
   ·rintro (⟨y,hy,a,ha,h⟩|⟨y,hy,a,ha,h⟩)
    ·exact⟨y,hy,a,ha,.inr h⟩
    ·exact⟨y,hy,a,ha,.inl h⟩
  rw[← e1,List.not_any_eq_all_not]
 rw[e]
 cases colG g||cirG g with
 | true=>cases z8J g<;>rfl
 | false=>
  rw[Bool.not_false,ifP rfl,bsS,z3W]
  rw[q4K (c:=false) (q:=fun r=>!farR r) fun k r hr=>by
   unfold j0C
   rw[k4Z,bsS]
   cases farR r<;>rfl]
  have e:(g.Rules.all fun r=>!farR r)=!g.Rules.any farR:=by rw[List.not_any_eq_all_not]
  rw[e]
  cases g.Rules.any farR with
  | true=>cases z8J g<;>rfl
  | false=>rw[Bool.not_false,ifP rfl,bsS,z3W,k4W h];cases z8J g<;>rfl
theorem Inv.setU {g:Gm_}{all:List Rl_}(h:Inv g all){n:ByteArray}{j:Nat}(hj:atS g n=some j)(h2:j<g.Symbols.length)(h4:all[j]?=some (q7A g all n))(h5:Valid (q7A g all n))(b:Rl_) :
  Inv g (all.set j (uniR (q7A g all n) b))∧sumA all≤sumA (all.set j (uniR (q7A g all n) b))∧(uniR (q7A g all n) b≠q7A g all n→sumA all<sumA (all.set j (uniR (q7A g all n) b))):=by
 generalize q7A g all n=old at h4 h5
 have hv:=k3c (a:=old) (b:=b) h5
 have hm:=k6Z (a:=old) (b:=b) h5
 generalize uniR old b=new at hv hm
 have hset:=k0a all j new old h4
 refine⟨⟨by simpa using h.1,fun k y a hk ha=>?_⟩,by omega,fun hne=>?_⟩
 ·rw[List.getElem?_set] at ha
  by_cases hjk:j=k
  ·subst hjk
   rw[ifP rfl,ifP (by rw[h.1];exact h2)] at ha
   cases ha
   have:=(h.2 j y old hk h4).2
   exact⟨hv.1,hv.2.trans this⟩
  ·rw[ifN hjk] at ha;exact h.2 k y a hk ha
 ·have h7:sumR old≠sumR new:=fun he=>hne (hm.2 he)
  have:=hm.1
  omega
theorem k3y {α:Type}{l:List α}{j:Nat}{x:α}(h:l[j]?=some x):l.set j x=l:=by
 apply List.ext_getElem?
 intro i
 rw[List.getElem?_set]
 by_cases hi:j=i
 ·subst hi
  have:=(List.getElem?_eq_some_iff.1 h).1
  rw[ifP rfl,ifP this,h]
 ·rw[ifN hi]
theorem k0d {g:Gm_}(h0:Sz.szd g≤1048576)(hS:Shape g){r:Rule}(hr:r∈g.Rules){x:Rl_}(hx:Valid x):∀ (m k:Nat) (c:Bool) (all:List Rl_),k+m=r.Right.length+1→Inv g all →
  ∃ c' all',eachN (q8z g r x) k m (all,c)=some (all',c')∧q4o (q6x g r x) (all,c,(k:Int))=some (all',c')∧Inv g all'∧sumA all≤sumA all'∧(c'=true→c=true∨sumA all<sumA all') ∧
   (c'=false→c=false∧all'=all∧∀ pos:Nat,k≤pos→pos≤r.Right.length→uniR (q7A g all (q5Y r (pos:Int))) (j5P x (posL g r (pos:Int)))=q7A g all (q5Y r (pos:Int)))
 | 0,k,c,all,hk,h=>by
  refine⟨c,all,rfl,q3F ?_,h,Nat.le_refl _,fun hc=>.inl hc,fun hc=>⟨hc,rfl,fun pos h1 h2=>by omega⟩⟩
  unfold q6x
  dsimp only
  rw[ifN (by omega)]
 | m+1,k,c,all,hk,h=>by
  have hs:=Nat.le_trans (z0s hr) h0
  have h3:=j3h hS hr
  have hkn:k≤r.Right.length:=by omega
  obtain⟨j,h1,h2,h4,h5,h6⟩:=h.at_ (hS.known hr hkn)
  have hA:atI g (q5Y r (k:Int))=(j:Int):=by unfold atI;rw[h1]
  have hp:=k5g hx (k3w hS r hkn)
  obtain⟨i1,i2,i3⟩:=h.setU h1 h2 h4 h5 (j5P x (posL g r (k:Int)))
  have hlen:=h5.len
  generalize hnew:uniR (q7A g all (q5Y r (k:Int))) (j5P x (posL g r (k:Int)))=new at i1 i2 i3
  have e1:q8z g r x k (all,c)=some (all.set j new,c || !decide (new=q7A g all (q5Y r (k:Int)))):=by
   unfold q8z
   dsimp only
   rw[z8I (q4E hs),bsS,j9Z,bsS,hA,q3E (by omega),tnC,h4,bsS,k3i (q7z h0) (q4E hs),bsS,j7s,hp.1,bsS,k6Y (by omega),bsS,hnew]
   cases c with
   | true=>rfl
   | false=>rw[ifN (by simp),k7a];rfl
  have e2:q6x g r x (all,c,(k:Int))=some (.inl (all.set j new,c || !decide (new=q7A g all (q5Y r (k:Int))),((k+1:Nat):Int))):=by
   unfold q6x
   dsimp only
   rw[ifP (by omega),z3v (q4E hs),bsS,k2X,bsS,hA,q3E (by omega),tnC,h4,bsS,k3h (q7z h0) (q4E hs),bsS,hp.1,bsS,k6X (by omega),bsS,hnew]
   cases c with
   | true=>rw[ifP rfl,bsS,q3E (by constructor<;>omega)];rfl
   | false=>rw[ifN (by simp),k3f,bsS,bsS,q3E (by constructor<;>omega)];rfl
  obtain⟨c',all',f1,f2,f3,f4,f5,f6⟩:=k0d h0 hS hr hx m (k+1) (c || !decide (new=q7A g all (q5Y r (k:Int)))) (all.set j new) (by omega) i1
  refine⟨c',all',by rw[eachN,e1,bsS];exact f1,by rw[q3L e2];exact f2,f3,by omega,fun hc=>?_,fun hc=>?_⟩
  ·rcases f5 hc with q|q
   ·rw[Bool.or_eq_true] at q
    rcases q with q|q
    ·exact .inl q
    ·exact .inr (by have:=i3 (by simpa using q);omega)
   ·exact .inr (by omega)
  ·obtain⟨q1,q2,q3⟩:=f6 hc
   rw[Bool.or_eq_false_iff] at q1
   have hsame:new=q7A g all (q5Y r (k:Int)):=by simpa using q1.2
   have hset:all.set j new=all:=by rw[hsame];exact k3y h4
   rw[hset] at q2 q3
   refine⟨q1.1,q2,fun pos p1 p2=>?_⟩
   by_cases hpk:pos=k
   ·subst hpk;rw[hnew,hsame]
   ·exact q3 pos (by omega) p2
theorem j7u (own:Rl_)(a:Nat)(x:Int):∀ (ys:List Int) (i:Nat) (o:Rl_),o.Rows.length≤1048576→eachL (z6g own a x) i ys (o.Rows,o.N)=some ((q9J own a x i ys o).Rows,(q9J own a x i ys o).N)
 | [],i,o,_=>rfl
 | y::ys,i,o,h=>by
  have e1:z6g own a x i y (o.Rows,o.N)=some ((if hasP own (a:Int) (i:Int) then addP o x y else o).Rows,(if hasP own (a:Int) (i:Int) then addP o x y else o).N):=by
   unfold z6g
   dsimp only
   rw[q9i,bsS]
   by_cases hp:hasP own (a:Int) (i:Int)
   ·rw[decide_eq_true hp,ifP rfl,ifP hp,j9F h];rfl
   ·rw[decide_eq_false hp,ifN (by simp),ifN hp];rfl
  have hl:(if hasP own (a:Int) (i:Int) then addP o x y else o).Rows.length≤1048576:=by
   split
   ·rw[(z8a o x y).1];exact h
   ·exact h
  rw[eachL,e1,bsS,q9J]
  exact j7u own a x ys (i+1) _ hl
theorem j4y (own:Rl_)(at' : List Int):∀ (xs:List Int) (a:Nat) (o:Rl_),o.Rows.length≤1048576→eachL (z6h at' own) a xs (o.Rows,o.N)=some ((z0Y own at' a xs o).Rows,(z0Y own at' a xs o).N)
 | [],a,o,_=>rfl
 | x::xs,a,o,h=>by
  have hl:(q9J own a x 0 at' o).Rows.length≤1048576:=by rw[(z8d own a x at' 0 o).1];exact h
  have e1:z6h at' own a x (o.Rows,o.N)=some ((q9J own a x 0 at' o).Rows,(q9J own a x 0 at' o).N):=by
   unfold z6h;dsimp only;rw[j7u own a x at' 0 o h];rfl
  rw[eachL,e1,bsS,z0Y]
  exact j4y own at' xs (a+1) _ hl
theorem k3z {g:Gm_}(h0:Sz.szd g≤1048576)(hS:Shape g){r:Rule}(hr:r∈g.Rules){all:List Rl_}(h:Inv g all):∀ (m k:Nat) (o:Rl_),k+m=r.Right.length+1→o.Rows.length≤1048576 →
  eachN (q8y g all r) k m (o.Rows,o.N)=some ((indL g r (q7A g all) m k o).Rows,(indL g r (q7A g all) m k o).N)∧q4o (z1Z g r all) ((k:Int),o.Rows,o.N)=some ((indL g r (q7A g all) m k o).Rows,(indL g r (q7A g all) m k o).N)
 | 0,k,o,hk,_=>by
  refine⟨rfl,q3F ?_⟩
  unfold z1Z
  dsimp only
  rw[ifN (by omega)];rfl
 | m+1,k,o,hk,ho=>by
  have hs:=Nat.le_trans (z0s hr) h0
  have h3:=j3h hS hr
  have hkn:k≤r.Right.length:=by omega
  obtain⟨j,h1,h2,h4,h5,h6⟩:=h.at_ (hS.known hr hkn)
  have hA:atI g (q5Y r (k:Int))=(j:Int):=by unfold atI;rw[h1]
  have hlen:=j4x g r o (k:Int) (q7A g all (q5Y r (k:Int)))
  obtain⟨f1,f2⟩:=k3z h0 hS hr h m (k+1) (z6N g r o (k:Int) (q7A g all (q5Y r (k:Int)))) (by omega) (by rw[hlen];exact ho)
  have e1:q8y g all r k (o.Rows,o.N)=some ((z6N g r o (k:Int) (q7A g all (q5Y r (k:Int)))).Rows,(z6N g r o (k:Int) (q7A g all (q5Y r (k:Int)))).N):=by
   unfold q8y
   dsimp only
   rw[z8I (q4E hs),bsS,j9Z,bsS,hA,q3E (by omega),tnC,h4,bsS,k3k (q7z h0) (q4E hs) (o:=⟨o.N,o.Rows⟩) ho,bsS]
  have e2:z1Z g r all ((k:Int),o.Rows,o.N)=some (.inl (((k+1:Nat):Int),(z6N g r o (k:Int) (q7A g all (q5Y r (k:Int)))).Rows,(z6N g r o (k:Int) (q7A g all (q5Y r (k:Int)))).N)):=by
   unfold z1Z z2A
   dsimp only
   rw[ifP (by omega),k3h (q7z h0) (q4E hs),bsS,z3v (q4E hs),bsS,k2X,bsS,hA,ifN (by omega),bsS,q3E (by omega),tnC,h4,bsS,j4y (q7A g all (q5Y r (k:Int))) _ _ 0 o ho,bsS]
   dsimp only
   rw[q3E (by constructor<;>omega)]
   rfl
  rw[eachN,e1,bsS,q3L e2,indL]
  exact⟨f1,f2⟩
theorem j3j {g:Gm_}(h0:Sz.szd g≤1048576)(hS:Shape g):∀ (rs:List Rule) (i:Nat) (c:Bool) (all:List Rl_),(∀ r∈rs,r∈g.Rules)→Inv g all →
  (findL (q6z g) i rs (all,c)=some (.inr ([],false))∧findL (q6y g) i rs (all,c)=some (.inr ([],false))) ∨
  ∃ c' all',findL (q6z g) i rs (all,c)=some (.inl (all',c'))∧findL (q6y g) i rs (all,c)=some (.inl (all',c'))∧Inv g all'∧sumA all≤sumA all'∧(c'=true→c=true∨sumA all<sumA all')∧(c'=false→c=false∧all'=all∧∀ r∈rs,k3x g all r)
 | [],i,c,all,_,h=>.inr ⟨c,all,rfl,rfl,h,Nat.le_refl _,fun hc=>.inl hc,fun hc=>⟨hc,rfl,fun r hr=>by cases hr⟩⟩
 | r::rs,i,c,all,hrs,h=>by
  have hr:=hrs r (by simp)
  have hs:=Nat.le_trans (z0s hr) h0
  have h3:=j3h hS hr
  obtain⟨l1,l2,l3⟩:=k5Q h0 hs
  obtain⟨p1,p2⟩:=k3z h0 hS hr h (r.Right.length+1) 0 (locR g r) (by omega) (by omega)
  obtain⟨v1,v2,v3⟩:=k3v h0 hS hr (q7A g all)
  have hl:(indL g r (q7A g all) (r.Right.length+1) 0 (locR g r)).Rows.length≤1048576:=by rw[(k3u g r _ _ 0 _).2];omega
  have hcl:q6w (⟨(indL g r (q7A g all) (r.Right.length+1) 0 (locR g r)).N,(indL g r (q7A g all) (r.Right.length+1) 0 (locR g r)).Rows⟩:Rl_)=indR g r (q7A g all):=rfl
  have hxl:=v2.len
  have es:z5v g r all=some (indR g r (q7A g all)):=by
   unfold z5v
   rw[l1,bsS,show q4o (z1Z g r all) (0,(locR g r).Rows,(locR g r).N)=_ from p2,bsS]
   dsimp only
   rw[j2S (r:=⟨(indL g r (q7A g all) (r.Right.length+1) 0 (locR g r)).N,(indL g r (q7A g all) (r.Right.length+1) 0 (locR g r)).Rows⟩) hl,bsS,hcl]
  cases hlp:k3g (indR g r (q7A g all)) with
  | true=>
   left
   constructor
   ·rw[findL]
    unfold q6z
    dsimp only
    rw[l2,bsS,q3E (by constructor<;>omega),p1,bsS]
    dsimp only
    rw[j2T (r:=⟨(indL g r (q7A g all) (r.Right.length+1) 0 (locR g r)).N,(indL g r (q7A g all) (r.Right.length+1) 0 (locR g r)).Rows⟩) hl,bsS,hcl,j9P (by omega),hlp,bsS]
    rfl
   ·rw[findL]
    unfold q6y
    dsimp only
    rw[es,bsS,j9Q (by omega),hlp,bsS]
    rfl
  | false=>
   obtain⟨c1,a1,e1,e2,e3,e4,e5,e6⟩:=k0d h0 hS hr v2 (r.Right.length+1) 0 c all (by omega) h
   have g1:q6z g i r (all,c)=some (.inl (a1,c1)):=by
    unfold q6z
    dsimp only
    rw[l2,bsS,q3E (by constructor<;>omega),p1,bsS]
    dsimp only
    rw[j2T (r:=⟨(indL g r (q7A g all) (r.Right.length+1) 0 (locR g r)).N,(indL g r (q7A g all) (r.Right.length+1) 0 (locR g r)).Rows⟩) hl,bsS,hcl,j9P (by omega),hlp,bsS,ifN (by simp),q3E (by constructor<;>omega),e1]
    rfl
   have g2:q6y g i r (all,c)=some (.inl (a1,c1)):=by
    unfold q6y
    dsimp only
    rw[es,bsS,j9Q (by omega),hlp,bsS,ifN (by simp),show q4o (q6x g r (indR g r (q7A g all))) (all,c,0)=_ from e2]
    rfl
   rcases j3j h0 hS rs (i+1) c1 a1 (fun x hx=>hrs x (by simp[hx])) e3 with ⟨f1,f2⟩|⟨c2,a2,f1,f2,f3,f4,f5,f6⟩
   ·left
    exact⟨by rw[findL,g1,bsS];exact f1,by rw[findL,g2,bsS];exact f2⟩
   ·right
    refine⟨c2,a2,by rw[findL,g1,bsS];exact f1,by rw[findL,g2,bsS];exact f2,f3,by omega,fun hc=>?_,fun hc=>?_⟩
    ·rcases f5 hc with q|q
     ·rcases e5 q with q2|q2
      ·exact .inl q2
      ·exact .inr (by omega)
     ·exact .inr (by omega)
    ·obtain⟨q1,q2,q3⟩:=f6 hc
     obtain⟨w1,w2,w3⟩:=e6 q1
     subst w2
     refine⟨w1,q2,fun y hy=>?_⟩
     rcases List.mem_cons.1 hy with rfl|hy
     ·exact⟨hlp,fun pos hp=>w3 pos (Nat.zero_le _) hp⟩
     ·exact q3 y hy
theorem k5j {g:Gm_}(h0:Sz.szd g≤1048576)(hS:Shape g):∀ (d:Nat) (all:List Rl_),Inv g all→g.Symbols.length*(16*65535)-sumA all≤d →
  (q4o (q3M g) (all,true)=some (.inr ([],false))∧q4o (q5b g) all=some ([],false)) ∨
  ∃ q,q4o (q3M g) (all,true)=some (.inl q)∧q4o (q5b g) all=some (q,true)∧Inv g q∧∀ r∈g.Rules,k3x g q r:=by
 intro d
 induction d with
 | zero=>
  intro all h hd
  rcases j3j h0 hS g.Rules 0 false all (fun _ h=>h) h with ⟨f1,f2⟩|⟨c,a,f1,f2,f3,f4,f5,f6⟩
  ·left
   exact⟨q3F (by unfold q3M;dsimp only;rw[ifP rfl,f1];rfl),q3F (by unfold q5b;rw[f2];rfl)⟩
  ·right
   have hb:=f3.bound
   rw[f3.1] at hb
   have hc:c=false:=by
    cases c with
    | false=>rfl
    | true=>
     rcases f5 rfl with h|h
     ·cases h
     ·omega
   subst hc
   obtain⟨_,q2,q3⟩:=f6 rfl
   subst q2
   refine⟨a,?_,?_,f3,q3⟩
   ·have s1:q3M g (a,true)=some (.inl (a,false)):=by unfold q3M;dsimp only;rw[ifP rfl,f1];rfl
    have s2:q3M g (a,false)=some (.inr (.inl a)):=by unfold q3M;dsimp only;rw[ifN (by simp)]
    rw[q3L s1,q3F s2]
   ·exact q3F (by unfold q5b;rw[f2];rfl)
 | succ d ih=>
  intro all h hd
  rcases j3j h0 hS g.Rules 0 false all (fun _ h=>h) h with ⟨f1,f2⟩|⟨c,a,f1,f2,f3,f4,f5,f6⟩
  ·left
   exact⟨q3F (by unfold q3M;dsimp only;rw[ifP rfl,f1];rfl),q3F (by unfold q5b;rw[f2];rfl)⟩
  ·cases c with
   | false=>
    right
    obtain⟨_,q2,q3⟩:=f6 rfl
    subst q2
    refine⟨a,?_,?_,f3,q3⟩
    ·have s1:q3M g (a,true)=some (.inl (a,false)):=by unfold q3M;dsimp only;rw[ifP rfl,f1];rfl
     have s2:q3M g (a,false)=some (.inr (.inl a)):=by unfold q3M;dsimp only;rw[ifN (by simp)]
     rw[q3L s1,q3F s2]
    ·exact q3F (by unfold q5b;rw[f2];rfl)
   | true=>
    have hlt:sumA all<sumA a:=by
     rcases f5 rfl with h|h
     ·cases h
     ·exact h
    have hb:=f3.bound
    rw[f3.1] at hb
    have s1:q3M g (all,true)=some (.inl (a,true)):=by unfold q3M;dsimp only;rw[ifP rfl,f1];rfl
    have s2:q5b g all=some (.inl a):=by unfold q5b;rw[f2];rfl
    rw[q3L s1,q3L s2]
    exact ih a f3 (by omega)
theorem j4z {g:Gm_}(h0:Sz.szd g≤1048576)(hS:Shape g):eachL (z0m g) 0 g.Symbols []=some (j0Q g):=by
 have hl:=hS.syms
 unfold j0Q
 rw[j9Y (g:=fun y:Symbol=>(⟨((q5N g y.Name).length:Int),List.replicate (q5N g y.Name).length 0⟩:Rl_)) (B:=1048576) g.Symbols 0 [] (fun k y s hy hs=>by
  unfold z0m
  have:=hS.plain y.Name
  rw[j3f (q7z h0),bsS,j1x (by omega) (by omega),bsS,q3E (by constructor<;>omega),tnC]) (by simp;omega)]
 simp
theorem z7K {g:Gm_}(h0:Sz.szd g≤1048576):∃ q b,z0V g=some (q,b)∧q7T g=some (q,b)∧(b=false→q=[])∧(b=true→z8J g=true∧Inv g q∧∀ r∈g.Rules,k3x g q r):=by
 unfold z0V q7T
 rw[k0b h0,k0c h0]
 cases hst:j8O g with
 | false=>exact⟨[],false,rfl,rfl,fun _=>rfl,fun h=>by cases h⟩
 | true=>
  have hg:z8J g=true:=by
   unfold j8O at hst
   simp only[Bool.and_eq_true] at hst
   exact hst.1
  have hS:=z8c hg
  rcases k5j h0 hS _ (j0Q g) (k3t hS) (Nat.le_refl _) with ⟨f1,f2⟩|⟨q,f1,f2,f3,f4⟩
  ·refine⟨[],false,?_,?_,fun _=>rfl,fun h=>by cases h⟩
   ·rw[bsS,ifP rfl,j3i h0 hS,bsS,f1];rfl
   ·rw[bsS,ifP rfl,j4z h0 hS,bsS,f2];rfl
  ·refine⟨q,true,?_,?_,fun h=>(by cases h),fun _=>⟨hg,f3,f4⟩⟩
   ·rw[bsS,ifP rfl,j3i h0 hS,bsS,f1];rfl
   ·rw[bsS,ifP rfl,j4z h0 hS,bsS,f2];rfl
def k8e:At_:=⟨⟨#[]⟩,0,0,false⟩
def j3k (r:Rl_)(d:List Bool)(n k:Nat):Bool:=(List.range n).all fun i=>!decide (hasP r (i:Int) (k:Int))||d.getD i false
def okK (a:List At_)(r:Rl_)(d:List Bool)(m:Int)(k:Nat):Bool:=decide ((a.getD k k8e).Mode=m) && !d.getD k false&&j3k r d a.length k
def j1j (a:List At_)(r:Rl_)(d:List Bool)(m:Int):Option Nat:=(List.range a.length).find? (okK a r d m)
def q7B (a:List At_)(r:Rl_)(m:Int):Nat→List Bool→List Nat×List Bool
 | 0,d=>([],d)
 | f+1,d=>match j1j a r d m with
  | none=>([],d)
  | some k=>(k::(q7B a r m f (d.set k true)).1,(q7B a r m f (d.set k true)).2)
def nm (a:List At_)(k:Nat):ByteArray:=(a.getD k k8e).Name
theorem z5U {k:Nat}:∀ {d:List Bool},d[k]?=some false→(d.set k true).count false+1=d.count false
 | [],h=>by simp at h
 | x::d,h=>by
  cases k with
  | zero=>simp at h;subst h;simp
  | succ k=>
   have ih:=z5U (k:=k) (d:=d) (by simpa using h)
   simp only[List.set_cons_succ,List.count_cons]
   omega
theorem z0l {α:Type}{l:List α}{k:Nat}{x z:α}(h:l[k]?=some x):l.getD k z=x:=by rw[List.getD_eq_getElem?_getD,h];rfl
theorem k7j {a:List At_}{r:Rl_}{d:List Bool}(hd:d.length=a.length)(k:Nat):z3H (k:Int) a r d=some (j3k r d a.length k):=by
 unfold z3H
 have hany:=z4C (c:=false) (xs:=a) (i:=0) (p:=fun i _=>hasP r (i:Int) (k:Int)∧d.getD i false=false) (f:=z5i (k:Int) r d) fun i x hx=>by
  rw[Nat.zero_add]
  have hi:=(List.getElem?_eq_some_iff.1 hx).1
  obtain⟨b,hb⟩:∃ b,d[i]?=some b:=⟨_,List.getElem?_eq_getElem (by omega)⟩
  rw[z0l hb]
  unfold z5i
  rw[z6y,bsS]
  by_cases hp:hasP r (i:Int) (k:Int)
  ·rw[ifP (by simpa using hp),hb,bsS]
   cases b<;>simp[hp]
  ·rw[ifN (by simpa using hp)];simp[hp]
 cases hr:j3k r d a.length k with
 | true=>
  rw[hany.2 fun i x hx hp=>?_]
  ·rfl
  ·rw[Nat.zero_add] at hp
   have hi:=(List.getElem?_eq_some_iff.1 hx).1
   have:=List.all_eq_true.1 hr i (List.mem_range.2 hi)
   rw[decide_eq_true hp.1,hp.2] at this
   cases this
 | false=>
  have:∃ i,i<a.length∧hasP r (i:Int) (k:Int)∧d.getD i false=false:=by
   apply Classical.byContradiction
   intro hn
   have:j3k r d a.length k=true:=List.all_eq_true.2 fun i hi=>by
    have hi':=List.mem_range.1 hi
    by_cases hp:hasP r (i:Int) (k:Int)
    ·cases hb:d.getD i false with
     | true=>simp
     | false=>exact absurd ⟨i,hi',hp,hb⟩ hn
    ·simp[hp]
   rw[this] at hr;cases hr
  obtain⟨i,hi,hp⟩:=this
  rw[hany.1 ⟨i,_,List.getElem?_eq_getElem hi,by rw[Nat.zero_add];exact hp⟩];rfl
theorem k7k {a:List At_}{r:Rl_}{d:List Bool}(hd:d.length=a.length)(hN:r.N=a.length)(k:Nat):z2b r d (k:Int)=some (j3k r d a.length k):=by
 unfold z2b
 rw[hN,tnC]
 have hany:=z9w (c:=false) (n:=a.length) (i:=0) (p:=fun i=>hasP r (i:Int) (k:Int)∧d.getD i false=false) (f:=z7j r d (k:Int)) fun i hi=>by
  rw[Nat.zero_add]
  obtain⟨b,hb⟩:∃ b,d[i]?=some b:=⟨_,List.getElem?_eq_getElem (by omega)⟩
  rw[z0l hb]
  unfold z7j
  rw[q9i,bsS]
  by_cases hp:hasP r (i:Int) (k:Int)
  ·rw[ifP (by simpa using hp),hb,bsS]
   cases b<;>simp[hp]
  ·rw[ifN (by simpa using hp)];simp[hp]
 cases hr:j3k r d a.length k with
 | true=>
  rw[hany.2 fun i hi hp=>?_]
  ·rfl
  ·rw[Nat.zero_add] at hp
   have:=List.all_eq_true.1 hr i (List.mem_range.2 hi)
   rw[decide_eq_true hp.1,hp.2] at this
   cases this
 | false=>
  have:∃ i,i<a.length∧hasP r (i:Int) (k:Int)∧d.getD i false=false:=by
   apply Classical.byContradiction
   intro hn
   have:j3k r d a.length k=true:=List.all_eq_true.2 fun i hi=>by
    have hi':=List.mem_range.1 hi
    by_cases hp:hasP r (i:Int) (k:Int)
    ·cases hb:d.getD i false with
     | true=>simp
     | false=>exact absurd ⟨i,hi',hp,hb⟩ hn
    ·simp[hp]
   rw[this] at hr;cases hr
  obtain⟨i,hi,hp⟩:=this
  rw[hany.1 ⟨i,hi,by rw[Nat.zero_add];exact hp⟩];rfl
theorem j1k {p:Nat→Bool}{n k:Nat}(hk:k<n)(hp:p k=true)(hn:∀ i,i<k→p i=false):(List.range n).find? p=some k:=by
 have e:List.range n=List.range k++(k::(List.range' (k+1) (n-k-1))):=by
  rw[List.range_eq_range',List.range_eq_range',show k::List.range' (k+1) (n-k-1)=List.range' k (n-k) from by
   rw[show n-k=(n-k-1)+1 by omega,List.range'_succ];rfl]
  have:=List.range'_append (s:=0) (m:=k) (n:=n-k) (step:=1)
  simp only[Nat.one_mul,Nat.zero_add] at this
  rw[this];congr 1;omega
 rw[e,List.find?_append]
 have:(List.range k).find? p=none:=List.find?_eq_none.2 fun i hi=>by
  rw[hn i (List.mem_range.1 hi)];simp
 rw[this]
 simp[hp]
theorem j3l {p:Nat→Bool}{n:Nat}(hn:∀ i,i<n→p i=false):(List.range n).find? p=none:=
 List.find?_eq_none.2 fun i hi=>by rw[hn i (List.mem_range.1 hi)];simp
theorem z7L {a:List At_}{r:Rl_}{d:List Bool}{m:Int}{k:Nat}(h:j1j a r d m=some k):k<a.length∧okK a r d m k=true∧d.getD k false=false:=by
 have h1:=List.mem_of_find?_eq_some h
 have h2:=List.find?_some h
 refine⟨List.mem_range.1 h1,h2,?_⟩
 unfold okK at h2
 simp only[Bool.and_eq_true,Bool.not_eq_true'] at h2
 exact h2.1.2
theorem z5V {d:List Bool}{k:Nat}(hk:k<d.length)(h:d.getD k false=false):d[k]?=some false:=by
 obtain⟨b,hb⟩:∃ b,d[k]?=some b:=⟨_,List.getElem?_eq_getElem hk⟩
 rw[z0l hb] at h;rw[hb,h]
theorem j7v {a:List At_}{r:Rl_}{m:Int}{d:List Bool}(hd:d.length=a.length)(hn:a.length≤16)(acc:List ByteArray)(hacc:acc.length≤1000):∀ (j k:Nat),k+j=a.length→(∀ i,i<k→okK a r d m i=false) →
  q4o (q3J m a r) (acc,(k:Int),d)=match j1j a r d m with
   | none=>some (acc,d)
   | some q=>q4o (q3J m a r) (acc++[nm a q],0,d.set q true):=by
 intro j
 induction j with
 | zero=>
  intro k hk hno
  have hc:j1j a r d m=none:=j3l fun i hi=>hno i (by omega)
  rw[hc]
  exact q3F (by unfold q3J;dsimp only;rw[ifN (by omega)])
 | succ j ih=>
  intro k hk hno
  obtain⟨x,hx⟩:∃ x,a[k]?=some x:=⟨_,List.getElem?_eq_getElem (by omega)⟩
  obtain⟨b,hb⟩:∃ b,d[k]?=some b:=⟨_,List.getElem?_eq_getElem (by omega)⟩
  have hin:((if x.Mode=m then grd (0≤(k:Int)) <| (d[(k:Int).toNat]?).bind fun x2=>some (!x2) else some false).bind fun s9=>(if s9=true then (z3H (k:Int) a r d).bind fun y1=>some y1 else some false))=some (okK a r d m k):=by
   unfold okK
   rw[z0l hx,z0l hb,k7j hd]
   by_cases hm:x.Mode=m
   ·rw[ifP hm,q3E (by omega),tnC,hb]
    cases b<;>simp[hm]
   ·rw[ifN hm];simp[hm]
  cases hok:okK a r d m k with
  | true=>
   have hc:j1j a r d m=some k:=j1k (by omega) hok hno
   rw[hc]
   have e:q3J m a r (acc,(k:Int),d)=some (.inl (acc++[nm a k],0,d.set k true)):=by
    unfold q3J
    dsimp only
    rw[ifP (by omega),q3E (by omega),tnC,hx,bsS]
    rw[tnC] at hin
    have hin2:=hin
    rw[hok] at hin2
    obtain⟨s9,h1,h2⟩:=bd hin2
    rw[h1,bsS,h2,bsS,ifP rfl,q3E (by constructor<;>omega),q3E (by omega),hb,bsS,bsS]
    dsimp only
    rw[q3E (by constructor<;>omega)]
    unfold nm
    rw[z0l hx];rfl
   rw[q3L e]
  | false=>
   have e:q3J m a r (acc,(k:Int),d)=some (.inl (acc,((k+1:Nat):Int),d)):=by
    unfold q3J
    dsimp only
    rw[ifP (by omega),q3E (by omega),tnC,hx,bsS]
    rw[tnC] at hin
    have hin2:=hin
    rw[hok] at hin2
    obtain⟨s9,h1,h2⟩:=bd hin2
    rw[h1,bsS,h2,bsS,ifN (by simp),bsS]
    dsimp only
    rw[q3E (by constructor<;>omega)];rfl
   rw[q3L e]
   exact ih (k+1) (by omega) fun i hi=>by
    by_cases h:i=k
    ·rw[h];exact hok
    ·exact hno i (by omega)
theorem k0e {a:List At_}{r:Rl_}{m:Int}(hn:a.length≤16):∀ (f:Nat) (d:List Bool) (acc:List ByteArray),d.length=a.length→d.count false≤f→acc.length+f≤1000 →
  q4o (q3J m a r) (acc,0,d)=some (acc++(q7B a r m f d).1.map (nm a),(q7B a r m f d).2):=by
 intro f
 induction f with
 | zero=>
  intro d acc hd hc hb
  have hs:=j7v (m:=m) (r:=r) hd hn acc (by omega) a.length 0 (by omega) (fun i hi=>absurd hi (Nat.not_lt_zero _))
  have hcand:j1j a r d m=none:=by
   cases h:j1j a r d m with
   | none=>rfl
   | some k=>
    obtain⟨h1,_,h3⟩:=z7L h
    have:=z5U (z5V (by omega) h3)
    omega
  rw[hcand] at hs
  have hs' : q4o (q3J m a r) (acc,0,d)=some (acc,d):=hs
  rw[hs'];simp[q7B]
 | succ f ih=>
  intro d acc hd hc hb
  have hs:=j7v (m:=m) (r:=r) hd hn acc (by omega) a.length 0 (by omega) (fun i hi=>absurd hi (Nat.not_lt_zero _))
  cases h:j1j a r d m with
  | none=>
   rw[h] at hs
   have hs' : q4o (q3J m a r) (acc,0,d)=some (acc,d):=hs
   rw[hs'];simp[q7B,h]
  | some k=>
   rw[h] at hs
   have hs' : q4o (q3J m a r) (acc,0,d)=q4o (q3J m a r) (acc++[nm a k],0,d.set k true):=hs
   obtain⟨h1,_,h3⟩:=z7L h
   have hcs:=z5U (z5V (by omega) h3)
   rw[hs',ih _ _ (by simp[hd]) (by omega) (by simp;omega)]
   simp[q7B,h]
theorem j3m {a:List At_}{r:Rl_}{m:Int}{d:List Bool}(hd:d.length=a.length)(hN:r.N=a.length)(hn:a.length≤16):∀ (j:Nat) (at_:Int),j≤a.length →
  q4o (z0P a r m d) (at_,(j:Int)-1)=some (match (List.range j).find? (okK a r d m) with
   | none=>at_
   | some k=>(k:Int)):=by
 intro j
 induction j with
 | zero=>
  intro at_ _
  exact q3F (by unfold z0P;dsimp only;rw[ifN (by omega)];rfl)
 | succ j ih=>
  intro at_ hj
  have ej:((j+1:Nat):Int)-1=(j:Int):=by omega
  rw[ej]
  obtain⟨x,hx⟩:∃ x,a[j]?=some x:=⟨_,List.getElem?_eq_getElem (by omega)⟩
  obtain⟨b,hb⟩:∃ b,d[j]?=some b:=⟨_,List.getElem?_eq_getElem (by omega)⟩
  have hin:((if x.Mode=m then grd (0≤(j:Int)) <| (d[(j:Int).toNat]?).bind fun x2=>some (!x2) else some false).bind fun s7=>(if s7=true then (z2b r d (j:Int)).bind fun y1=>some y1 else some false))=some (okK a r d m j):=by
   unfold okK
   rw[z0l hx,z0l hb,k7k hd hN]
   by_cases hm:x.Mode=m
   ·rw[ifP hm,q3E (by omega),tnC,hb]
    cases b<;>simp[hm]
   ·rw[ifN hm];simp[hm]
  have e:z0P a r m d (at_,(j:Int))=some (.inl ((if okK a r d m j=true then (j:Int) else at_),(j:Int)-1)):=by
   unfold z0P
   dsimp only
   rw[ifP (by omega),q3E (by omega),tnC,hx,bsS]
   rw[tnC] at hin
   obtain⟨s9,h1,h2⟩:=bd hin
   rw[h1,bsS,h2,bsS]
   cases okK a r d m j with
   | true=>rw[ifP rfl,ifP rfl,bsS,q3E (by constructor<;>omega)]
   | false=>rw[ifN (by simp),ifN (by simp),bsS,q3E (by constructor<;>omega)]
  rw[q3L e,ih _ (by omega),List.range_succ,List.find?_append]
  cases hf:(List.range j).find? (okK a r d m) with
  | some k=>rfl
  | none=>
   cases hok:okK a r d m j<;>simp[hok]
theorem k0f {a:List At_}{r:Rl_}{m:Int}(hN:r.N=a.length)(hn:a.length≤16):∀ (f:Nat) (d:List Bool) (acc:List ByteArray),d.length=a.length→d.count false≤f→acc.length+f≤1000 →
  q4o (z2c a r m) (acc,d)=some (acc++(q7B a r m f d).1.map (nm a),(q7B a r m f d).2):=by
 intro f
 induction f with
 | zero=>
  intro d acc hd hc hb
  have hcand:j1j a r d m=none:=by
   cases h:j1j a r d m with
   | none=>rfl
   | some k=>
    obtain⟨h1,_,h3⟩:=z7L h
    have:=z5U (z5V (by omega) h3)
    omega
  have hs:=j3m (m:=m) hd hN hn a.length (-1) (Nat.le_refl _)
  have hcand' : (List.range a.length).find? (okK a r d m)=none:=hcand
  rw[hcand'] at hs
  have hs' : q4o (z0P a r m d) (-1,(a.length:Int)-1)=some (-1):=hs
  rw[q3F (r:=(acc,d)) (by unfold z2c;dsimp only;rw[hs',bsS,ifP (by omega)])]
  simp[q7B]
 | succ f ih=>
  intro d acc hd hc hb
  have hs:=j3m (m:=m) hd hN hn a.length (-1) (Nat.le_refl _)
  cases h:j1j a r d m with
  | none=>
   have hcand' : (List.range a.length).find? (okK a r d m)=none:=h
   rw[hcand'] at hs
   have hs' : q4o (z0P a r m d) (-1,(a.length:Int)-1)=some (-1):=hs
   rw[q3F (r:=(acc,d)) (by unfold z2c;dsimp only;rw[hs',bsS,ifP (by omega)])]
   simp[q7B,h]
  | some k=>
   obtain⟨h1,_,h3⟩:=z7L h
   have hcand' : (List.range a.length).find? (okK a r d m)=some k:=h
   rw[hcand'] at hs
   obtain⟨x,hx⟩:∃ x,a[k]?=some x:=⟨_,List.getElem?_eq_getElem h1⟩
   have hdk:=z5V (by omega) h3
   have hcs:=z5U hdk
   have e:z2c a r m (acc,d)=some (.inl (acc++[nm a k],d.set k true)):=by
    unfold z2c
    dsimp only
    rw[hs,bsS]
    dsimp only
    rw[ifN (by omega),q3E (by omega),tnC,hdk,bsS,q3E (by omega),hx,bsS,q3E (by constructor<;>omega)]
    unfold nm
    rw[z0l hx]
   rw[q3L e,ih _ _ (by simp[hd]) (by omega) (by simp;omega)]
   simp[q7B,h]
theorem k0g {a:List At_}{r:Rl_}{m:Int}:∀ (f:Nat) (d:List Bool),d.length=a.length→(q7B a r m f d).2.length=a.length∧(q7B a r m f d).2.count false+(q7B a r m f d).1.length=d.count false:=by
 intro f
 induction f with
 | zero=>intro d hd;simp[q7B,hd]
 | succ f ih=>
  intro d hd
  cases h:j1j a r d m with
  | none=>simp[q7B,h,hd]
  | some k=>
   obtain⟨h1,_,h3⟩:=z7L h
   have hcs:=z5U (z5V (by omega) h3)
   have:=ih (d.set k true) (by simp[hd])
   simp only[q7B,h,lnC]
   refine⟨this.1,by omega⟩
def runP (a:List At_)(r:Rl_):Nat→List (List Nat×List Nat)→List Bool→Option (List (List Nat×List Nat))
 | 0,out,_=>some out
 | f+1,out,d=>
  if out=[]∨0<d.count false then
   if 0<a.length∧(q7B a r 1 a.length d).1=[]∧(q7B a r 2 a.length (q7B a r 1 a.length d).2).1=[] then none
   else runP a r f (out++[((q7B a r 1 a.length d).1,(q7B a r 2 a.length (q7B a r 1 a.length d).2).1)]) (q7B a r 2 a.length (q7B a r 1 a.length d).2).2
  else some out
def toPh (a:List At_)(q:List Nat×List Nat):Phase:=⟨q.1.map (nm a),q.2.map (nm a)⟩
theorem z9I {d:List Bool}:d.count false≤d.length:=List.count_le_length
theorem z5j (d:List Bool):q8d d false=some (decide (0<d.count false)):=by
 have h:z0W d false=some (ixF d false):=by
  unfold z0W
  refine j2K fun k x=>⟨fun e=>?_,fun e=>?_⟩
  ·unfold z0r;rw[ifP e.symm]
  ·unfold z0r;rw[ifN (fun h=>e h.symm)]
 unfold q8d
 rw[h,bsS]
 congr 1
 unfold ixF
 by_cases hm:false∈d
 ·rw[ifP hm]
  have:=List.count_pos_iff.2 hm
  simp[this]
 ·rw[ifN hm]
  have:¬ 0<d.count false:=fun h=>hm (List.count_pos_iff.1 h)
  simp[this]
theorem k5k {a:List At_}{r:Rl_}(hN:r.N=a.length)(hn:a.length≤16):∀ (f:Nat) (out:List (List Nat×List Nat)) (d:List Bool),d.length=a.length→(out=[]→d.count false=a.length)→d.count false+(if out=[] then 1 else 0)≤f→out.length+f≤1000 →
  (∃ d',q4o (z1g a r) (out.map (toPh a),d)=some (match runP a r f out d with|none=>.inr ([],false)|some l=>.inl (l.map (toPh a),d'))) ∧
  ∃ d',q4o (z1c a r) (out.map (toPh a),d,((d.count false:Nat):Int))=some (match runP a r f out d with|none=>.inr ([],false)|some l=>.inl (l.map (toPh a),d')):=by
 intro f
 induction f with
 | zero=>
  intro out d hd hnil hc hb
  have ho:out≠[]:=fun e=>by rw[ifP e] at hc;omega
  rw[ifN ho] at hc
  have h0:d.count false=0:=by omega
  have hol:¬ ((out.map (toPh a)).length:Int)=0:=by
   have:=List.length_pos_iff.2 ho
   simp;exact fun e=>ho e
  refine⟨⟨d,q3F ?_⟩,⟨d,q3F ?_⟩⟩
  ·unfold z1g;dsimp only
   rw[ifN hol,z5j,bsS,bsS,ifN (by simp[h0])];rfl
  ·unfold z1c;dsimp only
   rw[h0,ifN (by omega),bsS,ifN (by simpa using hol)];rfl
 | succ f ih=>
  intro out d hd hnil hc hb
  by_cases hgo:out=[]∨0<d.count false
  ·have hi1:q5w 1 a r d=some ((q7B a r 1 a.length d).1.map (nm a),(q7B a r 1 a.length d).2):=by
    unfold q5w
    rw[k0e hn a.length d [] hd (by have:=z9I (d:=d);omega) (by simp;omega)];rfl
   have hl1:=k0g (a:=a) (r:=r) (m:=1) a.length d hd
   have hi2:q5w 2 a r (q7B a r 1 a.length d).2=some ((q7B a r 2 a.length (q7B a r 1 a.length d).2).1.map (nm a),(q7B a r 2 a.length (q7B a r 1 a.length d).2).2):=by
    unfold q5w
    rw[k0e hn a.length _ [] hl1.1 (by have:=z9I (d:=(q7B a r 1 a.length d).2);omega) (by simp;omega)];rfl
   have hl2:=k0g (a:=a) (r:=r) (m:=2) a.length _ hl1.1
   have hs1:z1b a r d 1=some ((q7B a r 1 a.length d).1.map (nm a),(q7B a r 1 a.length d).2):=by
    unfold z1b
    rw[k0f hN hn a.length d [] hd (by have:=z9I (d:=d);omega) (by simp;omega)];rfl
   have hs2:z1b a r (q7B a r 1 a.length d).2 2=some ((q7B a r 2 a.length (q7B a r 1 a.length d).2).1.map (nm a),(q7B a r 2 a.length (q7B a r 1 a.length d).2).2):=by
    unfold z1b
    rw[k0f hN hn a.length _ [] hl1.1 (by have:=z9I (d:=(q7B a r 1 a.length d).2);omega) (by simp;omega)];rfl
   have hdl:=z9I (d:=d)
   generalize hq1:(q7B a r 1 a.length d).1=q1 at *
   generalize hd1:(q7B a r 1 a.length d).2=d1 at *
   generalize hq2:(q7B a r 2 a.length d1).1=q2 at *
   generalize hd2:(q7B a r 2 a.length d1).2=d2 at *
   have hrun:runP a r (f+1) out d=if 0<a.length∧q1=[]∧q2=[] then none else runP a r f (out++[(q1,q2)]) d2:=by
    simp only[runP,hq1,hd1,hq2,hd2]
    rw[ifP hgo]
   have hci:(if ((out.map (toPh a)).length:Int)=0 then some true else (q8d d false).bind fun y3=>some y3)=some true:=by
    rcases hgo with h|h
    ·rw[h,ifP (by simp)]
    ·by_cases h2:((out.map (toPh a)).length:Int)=0
     ·rw[ifP h2]
     ·rw[ifN h2,z5j,bsS,decide_eq_true h]
   have hcs:(if 0<((d.count false:Nat):Int) then some true else some (decide (((out.map (toPh a)).length:Int)=0)))=some true:=by
    by_cases h:0<d.count false
    ·rw[ifP (by omega)]
    ·rw[ifN (by omega)]
     have:out=[]:=hgo.resolve_right h
     rw[this];simp
   have hlen:((q1.map (nm a)).length+(q2.map (nm a)).length:Nat)=q1.length+q2.length:=by simp
   by_cases hstop:0<a.length∧q1=[]∧q2=[]
   ·rw[hrun,ifP hstop]
    obtain⟨hp,e1,e2⟩:=hstop
    have hcd:0<d.count false∨out=[]:=hgo.symm
    refine⟨⟨d,q3F ?_⟩,⟨d,q3F ?_⟩⟩
    ·unfold z1g;dsimp only
     rw[hci,bsS,ifP rfl,hi1,bsS]
     dsimp only
     rw[hi2,bsS]
     dsimp only
     rw[hlen,ifP (by omega),q3E (by constructor<;>omega),bsS,ifP (by simp[e1,e2])]
    ·unfold z1c;dsimp only
     rw[hcs,bsS,ifP rfl,hs1,bsS]
     dsimp only
     rw[hs2,bsS]
     dsimp only
     rw[hlen,q3E (by constructor<;>omega)]
     have hcp:0<d.count false:=by
      rcases hgo with h|h
      ·rw[hnil h];exact hp
      ·exact h
     have hz:((q1.length+q2.length:Nat):Int)=0:=by simp[e1,e2]
     rw[ifP hz,bsS,ifP (decide_eq_true (by omega))]
   ·rw[hrun,ifN hstop]
    have hne:0<a.length→¬ ((q1.length+q2.length:Nat):Int)=0:=fun hp h=>hstop ⟨hp,List.length_eq_zero_iff.1 (by omega),List.length_eq_zero_iff.1 (by omega)⟩
    have hex:a.length=0→q1.length+q2.length=0∧d.count false=0:=fun h=>by omega
    have hol:(out++[(q1,q2)]).map (toPh a)=out.map (toPh a)++[toPh a (q1,q2)]:=by simp
    have hle:(if out=[] then 1 else 0)≤1:=by split<;>omega
    have hcount:d2.count false+(if out++[(q1,q2)]=[] then 1 else 0)≤f:=by
     rw[ifN (by simp)]
     by_cases ha:0<a.length
     ·have:=hne ha
      omega
     ·have:out=[]∨¬ out=[]:=Classical.em _
      rcases this with h|h
      ·have:=hnil h;rw[ifP h] at hc;omega
      ·have:=hgo.resolve_left h;omega
    have hih:=ih (out++[(q1,q2)]) d2 hl2.1 (fun h=>absurd h (by simp)) hcount (by rw[List.length_append];simp;omega)
    obtain⟨⟨di,hi⟩,⟨ds,hs⟩⟩:=hih
    refine⟨⟨di,?_⟩,⟨ds,?_⟩⟩
    ·rw[← hi,hol]
     refine q3L ?_
     unfold z1g;dsimp only
     rw[hci,bsS,ifP rfl,hi1,bsS]
     dsimp only
     rw[hi2,bsS]
     dsimp only
     rw[hlen]
     have hc8:(if 0<(a.length:Int) then grd (I64 ((q1.length+q2.length:Nat):Int)) <| some (decide (((q1.length+q2.length:Nat):Int)=0)) else some false)=some false:=by
      by_cases ha:0<a.length
      ·rw[ifP (by omega),q3E (by constructor<;>omega),decide_eq_false (hne ha)]
      ·rw[ifN (by omega)]
     rw[hc8,bsS,ifN (by simp),lnM,q3E (by constructor<;>omega)]
     rfl
    ·have hcz:((d2.count false:Nat):Int)=((d.count false:Nat):Int)-((q1.length+q2.length:Nat):Int):=by omega
     rw[← hs,hol,hcz]
     refine q3L ?_
     unfold z1c;dsimp only
     rw[hcs,bsS,ifP rfl,hs1,bsS]
     dsimp only
     rw[hs2,bsS]
     dsimp only
     rw[hlen,q3E (by constructor<;>omega)]
     have hc9:(if ((q1.length+q2.length:Nat):Int)=0 then some (decide (0<((d.count false:Nat):Int))) else some false)=some false:=by
      by_cases ha:0<a.length
      ·rw[ifN (hne ha)]
      ·rw[ifP (by omega),decide_eq_false (by omega)]
     rw[hc9,bsS,ifN (by simp),q3E (by constructor<;>omega),lnM,q3E (by constructor<;>omega)]
     rfl
  ·have ho:out≠[]:=fun e=>hgo (.inl e)
   have h0:¬ 0<d.count false:=fun h=>hgo (.inr h)
   have hol:¬ ((out.map (toPh a)).length:Int)=0:=by
    simp;exact ho
   have hrun:runP a r (f+1) out d=some out:=by simp only[runP];rw[ifN hgo]
   rw[hrun]
   refine⟨⟨d,q3F ?_⟩,⟨d,q3F ?_⟩⟩
   ·unfold z1g;dsimp only
    rw[ifN hol,z5j,bsS,bsS,ifN (by simpa using h0)]
   ·unfold z1c;dsimp only
    rw[ifN (by omega),bsS,ifN (fun h=>hol (of_decide_eq_true h))]
theorem j8P {r:Rl_}(h:Valid r):z1a r=some (decide (∃ k:Nat,k<r.Rows.length∧hasP (q6w r) (k:Int) (k:Int))):=by
 have hl:r.Rows.length≤1048576:=by have:=h.2.1;have:=h.2.2.1;omega
 have hN:r.N.toNat=r.Rows.length:=by have:=h.1;have:=h.2.2.1;omega
 unfold z1a
 rw[q6O,bsS,ifP (by simpa using h),j2S hl,bsS,hN]
 have hf:∀ (k:Nat),(hasP (q6w r) (k:Int) (k:Int)→z2a (q6w r) k ()=some (.inr true))∧(¬ hasP (q6w r) (k:Int) (k:Int)→z2a (q6w r) k ()=some (.inl ())):=fun k=>by
  unfold z2a
  rw[q9i,bsS]
  exact⟨fun hp=>ifP (by simpa using hp),fun hp=>ifN (by simpa using hp)⟩
 have hany:=z9w (c:=true) (n:=r.Rows.length) (i:=0) (p:=fun k=>hasP (q6w r) (k:Int) (k:Int)) (f:=z2a (q6w r)) fun k _=>by
  rw[Nat.zero_add];exact hf k
 by_cases hp:∃ k:Nat,k<r.Rows.length∧hasP (q6w r) (k:Int) (k:Int)
 ·rw[decide_eq_true hp]
  obtain⟨k,hk,hpk⟩:=hp
  rw[hany.1 ⟨k,hk,by rw[Nat.zero_add];exact hpk⟩];rfl
 ·rw[decide_eq_false hp]
  rw[hany.2 fun k hx hpk=>hp ⟨k,hx,by rw[Nat.zero_add] at hpk;exact hpk⟩];rfl
def phR (a:List At_)(r:Rl_):Option (List (List Nat×List Nat)):=
 if Valid r∧r.N=a.length∧¬ (∃ k:Nat,k<r.Rows.length∧hasP (q6w r) (k:Int) (k:Int)) then runP a r (a.length+1) [] (List.replicate a.length false) else none
def phO (a:List At_)(r:Rl_):List Phase×Bool:=match phR a r with
 | none=>([],false)
 | some l=>(l.map (toPh a),true)
theorem k3A (n:Nat):(List.replicate n false).count false=n:=by simp
theorem j5Q {a:List At_}{r:Rl_}(h:phR a r=none):phO a r=([],false):=by unfold phO;rw[h]
theorem j3n {a:List At_}{r:Rl_}(hn:a.length≤16)(hr:r.Rows.length≤1048576):z6s a r=some (phO a r)∧z4m a r=some (phO a r):=by
 have hb:=fun h=>k5k (a:=a) (r:=r) h hn (a.length+1) [] (List.replicate a.length false) (by simp) (fun _=>by simp) (by simp) (by simp;omega)
 unfold z6s z4m
 rw[z0X,q6O,bsS,bsS]
 by_cases hv:Valid r
 ·rw[decide_eq_true hv,ifP rfl]
  rw[bsS,bsS]
  by_cases hN:r.N=a.length
  ·have e:(!decide (r.N=(a.length:Int)))=false:=by simp[hN]
   rw[e,ifN (by simp),ifN (by simp),j2U hr,j8P hv]
   by_cases hlp:∃ k:Nat,k<r.Rows.length∧hasP (q6w r) (k:Int) (k:Int)
   ·rw[j5Q (ifN (fun h=>h.2.2 hlp)),decide_eq_true hlp,bsS,bsS,bsS,ifP rfl,ifP rfl]
    exact⟨rfl,rfl⟩
   ·have ep:phR a r=runP a r (a.length+1) [] (List.replicate a.length false):=ifP ⟨hv,hN,hlp⟩
    unfold phO
    rw[ep,decide_eq_false hlp,bsS,bsS,bsS,ifN (by simp),ifN (by simp),q3E (by constructor<;>omega),q3E (by constructor<;>omega)]
    obtain⟨⟨d1,h1⟩,⟨d2,h2⟩⟩:=hb hN
    rw[k3A] at h2
    simp only[List.map_nil] at h1 h2
    rw[h1,h2]
    cases runP a r (a.length+1) [] (List.replicate a.length false) with
    | none=>exact⟨rfl,rfl⟩
    | some l=>exact⟨rfl,rfl⟩
  ·have e:(!decide (r.N=(a.length:Int)))=true:=by simp[hN]
   rw[j5Q (ifN (fun h=>hN h.2.1)),e,ifP rfl,ifP rfl,bsS,ifP rfl]
   exact⟨rfl,rfl⟩
 ·rw[j5Q (ifN (fun h=>hv h.1)),decide_eq_false hv]
  exact⟨rfl,rfl⟩
end Go.Proofs.YtppbkkcekpbaiaaGreat
set_option maxRecDepth 100000
set_option maxHeartbeats 4000000
namespace Go.Proofs.YtppbkkcekpbaiaaGreat
open Go Go.E
def PB (x:Phase):Prop:=x.Inherited.length≤16∧x.Synthesized.length≤16
def PS (x:List Phase):Prop:=x.length≤17∧∀ y∈x,PB y
theorem j5R {a:List At_}{r:Rl_}{m:Int}:∀ (f:Nat) (d:List Bool),(q7B a r m f d).1.length≤f
 | 0,d=>by simp[q7B]
 | f+1,d=>by
  rw[q7B]
  split
  ·simp
  ·rename_i k _
   simp only[lnC];have:=j5R (a:=a) (r:=r) (m:=m) f (d.set k true);omega
theorem k3B {a:List At_}{r:Rl_}(ha:a.length≤16):∀ (f:Nat) (out:List (List Nat×List Nat)) (d:List Bool) (l:List (List Nat×List Nat)),runP a r f out d=some l→(∀ p∈out,p.1.length≤16∧p.2.length≤16)→l.length≤out.length+f∧∀ p∈l,p.1.length≤16∧p.2.length≤16
 | 0,out,d,l,h,ho=>by rw[runP] at h;cases h;exact⟨by omega,ho⟩
 | f+1,out,d,l,h,ho=>by
  rw[runP] at h
  split at h
  ·split at h
   ·cases h
   ·have h1:=k3B ha f _ _ l h fun p hp=>by
     rcases List.mem_append.1 hp with hp|hp
     ·exact ho p hp
     ·rw[List.mem_singleton] at hp
      subst hp
      exact⟨Nat.le_trans (j5R _ _) ha,Nat.le_trans (j5R _ _) ha⟩
    exact⟨by have:=h1.1;simp only[List.length_append,List.length_singleton] at this;omega,h1.2⟩
  ·cases h;exact⟨by omega,ho⟩
theorem k8f {a:List At_}{r:Rl_}(ha:a.length≤16):PS (phO a r).1:=by
 unfold phO
 cases hp:phR a r with
 | none=>exact⟨Nat.zero_le _,fun y hy=>nomatch hy⟩
 | some l=>
  have h:=hp
  unfold phR at h
  split at h
  ·obtain⟨h1,h2⟩:=k3B ha _ _ _ _ h (fun p hp=>nomatch hp)
   refine⟨by simp only[lnM];simp only[List.length_nil] at h1;omega,fun y hy=>?_⟩
   obtain⟨p,hp,rfl⟩:=List.mem_map.1 hy
   obtain⟨h3,h4⟩:=h2 p hp
   exact⟨by simpa[toPh] using h3,by simpa[toPh] using h4⟩
  ·cases h
theorem j4A {g:Gm_}(h0:Sz.szd g≤1048576):∃ ps c,q5M g=some (ps,c)∧q8E g=some (ps,c)∧ps.length≤4∧(∀ p∈ps,PS p):=by
 obtain⟨q,b,e1,e2,hn,hi⟩:=z7K h0
 unfold q5M q8E
 rw[e1,e2,bsS,bsS]
 dsimp only
 cases b with
 | false=>
  refine⟨[],false,rfl,?_,by simp,fun p hp=>(nomatch hp)⟩
  rw[q3F (r:=(.inl [])) (by
   unfold q7f
   dsimp only
   split
   ·rfl
   ·rfl)]
  rfl
 | true=>
  obtain⟨hg,hI,_⟩:=hi rfl
  have hS:=z8c hg
  have hl:=hS.syms
  rw[ifP rfl]
  have key:∀ (xs:List Symbol) (i:Nat) (s:List (List Phase)),g.Symbols.drop i=xs→s.length=i→i≤g.Symbols.length→(∀ p∈s,PS p)→(∃ s',findL (q5g g q) i xs s=some (.inl s')∧q4o (q7f g q true) (s,(i:Int))=some (.inl s')∧s'.length=g.Symbols.length∧∀ p∈s',PS p)∨(findL (q5g g q) i xs s=some (.inr ([],false))∧q4o (q7f g q true) (s,(i:Int))=some (.inr ([],false))):=by
   intro xs
   induction xs with
   | nil=>
    intro i s hx hs hi hp
    left
    have:g.Symbols.length-i=0:=by rw[← List.length_drop,hx];rfl
    exact⟨s,rfl,q3F (by unfold q7f;dsimp only;exact ifN (by omega)),by omega,hp⟩
   | cons x xs ih=>
    intro i s hx hs hi hps
    have hlt:i<g.Symbols.length:=by
     have:g.Symbols.length-i=xs.length+1:=by rw[← List.length_drop,hx];rfl
     omega
    have hd:=List.drop_eq_getElem_cons hlt
    rw[hx] at hd
    injection hd with d1 d2
    have hgi:g.Symbols[i]?=some x:=by rw[d1];exact List.getElem?_eq_getElem hlt
    have hIl:q.length=g.Symbols.length:=hI.1
    obtain⟨y,hq⟩:∃ y,q[i]?=some y:=⟨_,List.getElem?_eq_getElem (by omega)⟩
    obtain⟨v1,v2⟩:=hI.2 i x _ hgi hq
    have h4:=hS.plain x.Name
    have hv:=v1.len
    obtain⟨hp,hp'⟩:=(j3n (a:=q5N g x.Name) (r:=y) (by omega) (by omega))
    have hb2:=k8f (a:=q5N g x.Name) (r:=y) (by omega)
    have hsl:s.length≤4:=by omega
    have e:q5g g q i x s=if (phO (q5N g x.Name) y).2=true then some (.inl (s++[(phO (q5N g x.Name) y).1])) else some (.inr ([],false)):=by
     unfold q5g
     rw[z7J (q7z h0),bsS,hq,bsS,hp,bsS]
     generalize phO (q5N g x.Name) y=z
     obtain⟨ps,c⟩:=z
     cases c with
     | false=>exact (ifN Bool.false_ne_true).trans (ifN Bool.false_ne_true).symm
     | true=>exact (ifP rfl).trans ((q3E (by constructor<;>omega)).trans (ifP rfl).symm)
    have e' : q7f g q true (s,(i:Int))=if (phO (q5N g x.Name) y).2=true then some (.inl (s++[(phO (q5N g x.Name) y).1],((i+1:Nat):Int))) else some (.inr (.inr ([],false))):=by
     unfold q7f
     dsimp only
     rw[ifP (by omega),ifP rfl,q3E (by omega),tnC,hgi,bsS,j3f (q7z h0),bsS,q3E (by omega),hq,bsS,hp',bsS]
     generalize phO (q5N g x.Name) y=z
     obtain⟨ps,c⟩:=z
     cases c with
     | false=>exact (ifN Bool.false_ne_true).trans (ifN Bool.false_ne_true).symm
     | true=>exact (ifP rfl).trans ((q3E (by constructor<;>omega)).trans ((q3E (by constructor<;>omega)).trans (ifP rfl).symm))
    rw[findL,e]
    by_cases hb:(phO (q5N g x.Name) y).2=true
    ·rw[ifP hb] at e' ⊢
     rw[bsS,q3L e']
     exact ih (i+1) _ d2.symm (by simp[hs]) (by omega) fun p hp=>by
      rcases List.mem_append.1 hp with hp|hp
      ·exact hps p hp
      ·rw[List.mem_singleton] at hp;subst hp;exact hb2
    ·rw[ifN hb] at e' ⊢
     exact .inr ⟨rfl,q3F e'⟩
  rcases key g.Symbols 0 [] rfl rfl (Nat.zero_le _) (fun p hp=>nomatch hp) with ⟨s',e,e',h1,h2⟩|⟨e,e'⟩
  ·rw[show ((0:Nat):Int)=0 from rfl] at e'
   rw[e,e'];exact⟨s',true,rfl,rfl,by omega,h2⟩
  ·rw[show ((0:Nat):Int)=0 from rfl] at e'
   rw[e,e'];exact⟨[],false,rfl,rfl,by simp,fun p hp=>(nomatch hp)⟩
theorem z7M {α ρ:Type}{c:ρ}{q:α→Bool}:∀ {xs:List α} {i:Nat} {f:Nat→α→Unit→Option (Unit ⊕ ρ)},(∀ k x,x∈xs→f k x ()=some (if q x=true then .inl () else .inr c))→findL f i xs ()=some (if xs.all q=true then .inl () else .inr c)
 | [],i,f,_=>rfl
 | x::xs,i,f,h=>by
  rw[findL,h i x List.mem_cons_self,bsS]
  cases hq:q x with
  | true=>
   show findL f (i+1) xs ()=_
   rw[z7M fun k y hy=>h k y (List.mem_cons_of_mem _ hy)]
   simp[hq]
  | false=>simp[hq]
theorem z5W {α:Type}{q:α→Bool}:∀ {xs:List α} {i:Nat} {f:Nat→α→Unit→Option (Unit ⊕ Int)},(∀ k x,x∈xs→f k x ()=some (if q x=true then .inr (k:Int) else .inl ())) →
  ∃ z:Int,(findL f i xs ()).bind (onr (fun r1=>some r1) fun _=>some (-1))=some z∧decide (0≤z)=xs.any q
 | [],i,f,_=>⟨-1,rfl,rfl⟩
 | x::xs,i,f,h=>by
  rw[findL,h i x List.mem_cons_self,bsS]
  cases hq:q x with
  | true=>exact⟨(i:Int),rfl,by simp[hq]⟩
  | false=>
   obtain⟨z,h1,h2⟩:=z5W (xs:=xs) (i:=i+1) fun k y hy=>h k y (List.mem_cons_of_mem _ hy)
   exact⟨z,h1,by simp[hq,h2]⟩
theorem j7w {α ρ:Type}:∀ {xs:List α} {i:Nat} {f:Nat→α→Unit→Option (Unit ⊕ ρ)},(∀ k x,∃ z,f k x ()=some z)→∃ z,findL f i xs ()=some z
 | [],i,f,_=>⟨_,rfl⟩
 | x::xs,i,f,h=>by
  obtain⟨z,hz⟩:=h i x
  rw[findL,hz,bsS]
  cases z with
  | inl u=>exact j7w (xs:=xs) (i:=i+1) h
  | inr r=>exact⟨_,rfl⟩
theorem j0o {α β:Type}{g:α→β}{B:Nat}{f:Nat→α→List β→Option (List β)}(hf:∀ k x s,s.length<B→f k x s=some (s++[g x])):∀ (xs:List α) (i:Nat) (s:List β),s.length+xs.length≤B→eachL f i xs s=some (s++xs.map g)
 | [],i,s,_=>by simp[eachL]
 | x::xs,i,s,h=>by
  simp only[lnC] at h
  rw[eachL,hf i x s (by omega),bsS,j0o hf xs (i+1) _ (by simp;omega)]
  simp
theorem k1r (g:Gm_)(n:ByteArray):q6R g n=z0a g n:=by
 have e:q4H n=z5s n:=by
  funext k x u
  unfold q4H z5s q9q
  rw[bsS]
  by_cases h:x.Name=n<;>simp[h]
 unfold q6R q4k z0a
 rw[e]
 exact Option.bind_fun_some _
theorem j4B (g:Gm_)(n:ByteArray):∃ k,z0a g n=some k:=by
 obtain⟨z,hz⟩:=j7w (xs:=g.Symbols) (i:=0) (f:=z5s n) fun k x=>by
  unfold z5s;by_cases h:x.Name=n
  ·exact⟨_,ifP h⟩
  ·exact⟨_,ifN h⟩
 unfold z0a
 rw[hz]
 cases z with
 | inl u=>exact⟨_,rfl⟩
 | inr r=>exact⟨_,rfl⟩
noncomputable def phS (g:Gm_) (ph:List (List Phase)) (n:ByteArray):List Phase:=(q6h g ph n).getD []
theorem j3o (g:Gm_)(ph:List (List Phase))(n:ByteArray):q6h g ph n=some (phS g ph n)∧(phS g ph n=[]∨phS g ph n∈ph):=by
 have:∃ p,q6h g ph n=some p∧(p=[]∨p∈ph):=by
  obtain⟨k,hk⟩:=j4B g n
  unfold q6h
  rw[hk,bsS,z3k,bsS]
  by_cases h:0≤k∧k≤(ph.length:Int)-1
  ·rw[ifP (by simpa using h),q3E h.1]
   obtain⟨x,hx⟩:∃ x,ph[k.toNat]?=some x:=⟨_,List.getElem?_eq_getElem (by omega)⟩
   rw[hx]
   exact⟨x,rfl,.inr (List.mem_of_getElem? hx)⟩
  ·rw[ifN (by simpa using h)]
   exact⟨[],rfl,.inl rfl⟩
 obtain⟨p,h1,h2⟩:=this
 unfold phS
 rw[h1]
 exact⟨rfl,h2⟩
noncomputable def symS (r:Rule) (k:Int):ByteArray:=(q4w r k).getD ⟨#[]⟩
theorem k3C {r:Rule}(hl:r.Right.length≤1048576)(k:Int):q4w r k=some (symS r k):=by
 have:∃ x,q4w r k=some x:=by
  unfold q4w
  by_cases h0:k=0
  ·exact⟨_,ifP h0⟩
  ·rw[ifN h0,z3k,bsS]
   by_cases h:1≤k∧k≤(r.Right.length:Int)
   ·rw[ifP (by simpa using h),q3E (by constructor<;>omega),q3E (by omega)]
    obtain⟨x,hx⟩:∃ x,r.Right[(k-1).toNat]?=some x:=⟨_,List.getElem?_eq_getElem (by omega)⟩
    exact⟨x,by rw[hx];rfl⟩
   ·exact⟨_,ifN (by simpa using h)⟩
 obtain⟨x,hx⟩:=this
 unfold symS
 rw[hx];rfl
theorem j3p (r:Rule):symS r 0=r.Left:=by unfold symS q4w;rw[ifP rfl];rfl
theorem j0p {r:Rule}(hl:r.Right.length≤1048576){k:Int}(h1:1≤k)(h2:k≤(r.Right.length:Int)):r.Right[(k-1).toNat]?=some (symS r k):=by
 obtain⟨x,hx⟩:∃ x,r.Right[(k-1).toNat]?=some x:=⟨_,List.getElem?_eq_getElem (by omega)⟩
 unfold symS q4w
 rw[ifN (by omega),z3k,bsS,ifP (by simp;omega),q3E (by constructor<;>omega),q3E (by omega),hx];rfl
noncomputable def phP (g:Gm_) (ph:List (List Phase)) (r:Rule) (k:Int):List Phase:=phS g ph (symS r k)
theorem q9W {g:Gm_}{ph:List (List Phase)}{r:Rule}(hl:r.Right.length≤1048576)(due K:List Oc)(V:List Int)(k:Int):q5k k ⟨g,ph,r,due,K,V⟩=some (phP g ph r k):=by
 unfold q5k
 dsimp only
 rw[j0g,k3C hl,bsS,k1r]
 have h:=(j3o g ph (symS r k)).1
 unfold q6h at h
 obtain⟨j,hj⟩:=j4B g (symS r k)
 rw[hj,bsS,z3k] at h
 rw[hj,bsS,z8o]
 exact h
theorem z8e (K:List Oc)(o:Oc):q6q K o=some (decide (o∈K)):=by
 unfold q6q
 have hany:=z4C (c:=true) (xs:=K) (i:=0) (p:=fun _ x=>x=o) (f:=z4M o) fun k x _=>by
  unfold z4M
  exact⟨fun h=>ifP h,fun h=>ifN h⟩
 by_cases h:o∈K
 ·obtain⟨j,hj,e⟩:=List.getElem_of_mem h
  rw[hany.1 ⟨j,o,by rw[List.getElem?_eq_getElem hj,e],rfl⟩,decide_eq_true h];rfl
 ·rw[hany.2 fun k x hx e=>h (e▸List.mem_of_getElem? hx),decide_eq_false h];rfl
theorem z9J (K:List Oc)(o:Oc):q3I K o=some (decide (o∈K)):=by
 unfold q3I q3R
 obtain⟨z,h1,h2⟩:=z5W (q:=fun x=>decide (x=o)) (xs:=K) (i:=0) (f:=q3K o) fun k x _=>by
  unfold q3K
  by_cases h:x=o
  ·rw[ifP h.symm,decide_eq_true h,ifP rfl]
  ·rw[ifN (fun e=>h e.symm),decide_eq_false h,ifN (by simp)]
 rw[h1,bsS,h2]
 congr 1
 by_cases h:o∈K
 ·rw[decide_eq_true h,List.any_eq_true];exact⟨o,h,by simp⟩
 ·rw[decide_eq_false h]
  rw[List.any_eq_false]
  intro x hx e
  exact h (of_decide_eq_true e▸hx)
def z1P (K:List Oc)(pos:Int)(names:List ByteArray):Bool:=names.all fun n=>decide ((⟨pos,n⟩:Oc)∈K)
theorem j5S {α:Type}(q:α→Bool)(xs:List α):(!xs.any fun x=>!q x)=xs.all q:=by
 induction xs with
 | nil=>rfl
 | cons x xs ih=>simp only[List.any_cons,List.all_cons,← ih];cases q x<;>simp
theorem z9K (z:l28Work)(pos:Int)(names:List ByteArray):q8r z pos names=some (z1P z.known pos names):=by
 unfold q8r z1P
 rw[z7M (c:=false) (q:=fun n=>decide ((⟨pos,n⟩:Oc)∈z.known)) fun k x _=>by
  unfold j0E
  rw[z8e,bsS]
  by_cases h:(⟨pos,x⟩:Oc)∈z.known<;>simp[h]]
 cases names.all fun n=>decide ((⟨pos,n⟩:Oc)∈z.known)<;>rfl
theorem j3q (v:visits)(pos:Int)(names:List ByteArray):q7Y v pos names=some (z1P v.known pos names):=by
 unfold q7Y q4u q4I
 obtain⟨z,h1,h2⟩:=z5W (q:=fun n=>!decide ((⟨pos,n⟩:Oc)∈v.known)) (xs:=names) (i:=0) (f:=q5o v pos) fun k x _=>by
  unfold q5o z0c
  rw[z9J,bsS,bsS]
  split<;>rfl
 rw[h1,bsS,h2,bsS,j5S]
 rfl
theorem z7N {z:l28Work}(pos:Int)(names:List ByteArray)(h:z.known.length+names.length≤4398046511104):q8Z pos names z=some ⟨z.g,z.r,z.phases,z.known++names.map (fun n=>(⟨pos,n⟩:Oc)),z.visits,z.steps⟩:=by
 unfold q8Z
 rw[j0o (g:=fun n=>(⟨pos,n⟩:Oc)) (B:=4398046511104) (fun k x s hs=>by
  unfold j0D;rw[q3E (by constructor<;>omega)];try rfl) names 0 z.known h];rfl
theorem z7O {v:visits}(pos:Int)(names:List ByteArray)(h:v.known.length+names.length≤4398046511104):q6V pos names v=some ⟨v.g,v.phases,v.r,v.due,v.known++names.map (fun n=>(⟨pos,n⟩:Oc)),v.next⟩:=by
 unfold q6V
 rw[j0o (g:=fun n=>(⟨pos,n⟩:Oc)) (B:=4398046511104) (fun k x s hs=>by
  unfold z6F;rw[q3E (by constructor<;>omega)]) names 0 v.known h];rfl
noncomputable def q9F (r:Rule) (K:List Oc) (o:Oc):Bool:=(eqAt r o).2&&(attrs (eqAt r o).1).all fun u=>decide (u∈K)
theorem j4C {z:l28Work}(h:Sz.szd z.r≤1048576)(o:Oc):z1d z o=some (q9F z.r z.known o):=by
 unfold z1d q9F
 rw[j1z h o,bsS]
 dsimp only
 rw[j5D (j5I h o),bsS,z7M (c:=false) (q:=fun u=>decide (u∈z.known)) fun k x _=>by
  unfold z9g
  rw[z8e,bsS]
  by_cases h:x∈z.known<;>simp[h]]
 cases (attrs (eqAt z.r o).1).all fun u=>decide (u∈z.known) with
 | true=>simp
 | false=>simp
theorem j4D {v:visits}(h:Sz.szd v.r≤1048576)(o:Oc):q7J v o=some (decide (o∈v.due)&&(!decide (o∈v.known)&&q9F v.r v.known o)):=by
 unfold q7J q9F
 rw[z9J,bsS]
 by_cases h1:o∈v.due
 ·rw[ifP (by simpa using h1),z9J,bsS]
  by_cases h2:o∈v.known
  ·rw[ifP (by simpa using h2)];simp[h2]
  ·rw[ifN (by simpa using h2),(j8z h o).2,bsS]
   dsimp only
   cases h3:(eqAt v.r o).2 with
   | false=>simp
   | true=>
    rw[ifP rfl,j1v (j5I h o),bsS]
    unfold q4a q4m
    obtain⟨z,e1,e2⟩:=z5W (q:=fun u=>!decide (u∈v.known)) (xs:=attrs (eqAt v.r o).1) (i:=0) (f:=q4W v) fun k x _=>by
     unfold q4W q9d
     rw[z9J,bsS,bsS]
     split<;>rfl
    rw[e1,bsS,e2,bsS,j5S]
    simp[h1,h2]
 ·rw[ifN (by simpa using h1)];simp[h1]
def oS (x:Step):Oc:=⟨x.Pos,x.Name⟩
def at0 (V:List Int)(k:Int):Int:=V.getD k.toNat 0
def zP:Phase:=⟨[],[]⟩
def addN (K:List Oc)(pos:Int)(names:List ByteArray):List Oc:=K++names.map fun n=>(⟨pos,n⟩:Oc)
noncomputable def j3R (r:Rule) (R K:List Oc) (x:Step):Bool:=decide (x.Visit=0)&&(decide (oS x∈R)&&(!decide (oS x∈K)&&q9F r K (oS x)))
noncomputable def phAt (g:Gm_) (ph:List (List Phase)) (r:Rule) (k v:Int):Phase:=(phP g ph r k).getD v.toNat zP
noncomputable def visB (g:Gm_) (ph:List (List Phase)) (r:Rule) (K:List Oc) (V:List Int) (x:Step):Bool:=
 decide (x.Name=(⟨#[]⟩:ByteArray))&&(decide (1≤x.Pos∧x.Pos≤(r.Right.length:Int))&&(decide (x.Visit=at0 V x.Pos+1)&&(decide (at0 V x.Pos<((phP g ph r x.Pos).length:Int))&&z1P K x.Pos (phAt g ph r x.Pos (at0 V x.Pos)).Inherited)))
noncomputable def z1Q (g:Gm_) (ph:List (List Phase)) (r:Rule) (K:List Oc) (V:List Int) (x:Step):Bool:=
 decide (x.Pos=0)&&(decide (x.Name=(⟨#[]⟩:ByteArray))&&(decide (at0 V 0<((phP g ph r 0).length:Int))&&(decide (x.Visit=at0 V 0+1)&&z1P K 0 (phAt g ph r 0 (at0 V 0)).Synthesized)))
noncomputable def j0q (g:Gm_) (ph:List (List Phase)) (r:Rule) (R K:List Oc) (V:List Int) (x:Step):Option (List Oc×List Int):=
 if x.Kind=1 then (if j3R r R K x=true then some (K++[oS x],V) else none)
 else if x.Kind=2 then (if visB g ph r K V x=true then some (addN K x.Pos (phAt g ph r x.Pos (at0 V x.Pos)).Synthesized,V.set x.Pos.toNat (at0 V x.Pos+1)) else none)
 else if x.Kind=3 then (if z1Q g ph r K V x=true then some ((if at0 V 0+1<((phP g ph r 0).length:Int) then addN K 0 (phAt g ph r 0 (at0 V 0+1)).Inherited else K),V.set 0 (at0 V 0+1)) else none)
 else none
structure Iv (g:Gm_) (ph:List (List Phase)) (r:Rule) (K:List Oc) (V:List Int) (B:Nat):Prop where
 len:V.length=r.Right.length+1
 rng:∀ k:Nat,k≤r.Right.length→0≤V.getD k 0∧V.getD k 0≤((phP g ph r (k:Int)).length:Int)
 kn:K.length≤B
theorem j8Q (g:Gm_)(ph:List (List Phase))(r:Rule)(k:Int):phP g ph r k=[]∨phP g ph r k∈ph:=(j3o g ph (symS r k)).2
def LenP (ph:List (List Phase)):Prop:=∀ p∈ph,p.length≤1048576∧∀ y∈p,y.Inherited.length≤1048576∧y.Synthesized.length≤1048576
theorem j3r {ph:List (List Phase)}(h:LenP ph)(g:Gm_)(r:Rule)(k:Int):(phP g ph r k).length≤1048576:=by
 rcases j8Q g ph r k with e|e
 ·rw[e];simp
 ·exact (h _ e).1
theorem z4Y {ph:List (List Phase)}(h:LenP ph)(g:Gm_)(r:Rule)(k v:Int):(phAt g ph r k v).Inherited.length≤1048576∧(phAt g ph r k v).Synthesized.length≤1048576:=by
 unfold phAt
 rw[List.getD_eq_getElem?_getD]
 cases hx:(phP g ph r k)[v.toNat]? with
 | none=>exact⟨Nat.zero_le _,Nat.zero_le _⟩
 | some p=>
  show p.Inherited.length≤_∧p.Synthesized.length≤_
  have hm:=List.mem_of_getElem? hx
  rcases j8Q g ph r k with e|e
  ·rw[e] at hm;simp at hm
  ·exact (h _ e).2 _ hm
theorem q8N {g:Gm_}{ph:List (List Phase)}{r:Rule}{k v:Int}(h0:0≤v)(h1:v<((phP g ph r k).length:Int)):(phP g ph r k)[v.toNat]?=some (phAt g ph r k v):=by
 unfold phAt
 obtain⟨x,hx⟩:∃ x,(phP g ph r k)[v.toNat]?=some x:=⟨_,List.getElem?_eq_getElem (by omega)⟩
 rw[List.getD_eq_getElem?_getD,hx];rfl
section
variable {g:Gm_}{ph:List (List Phase)}{r:Rule}{R K K' : List Oc}{V V' : List Int}{B:Nat}{x:Step}
theorem Iv.at' (H:Iv g ph r K V B){k:Int}(h0:0≤k)(h1:k≤(r.Right.length:Int)):0≤at0 V k∧at0 V k≤((phP g ph r k).length:Int)∧V[k.toNat]?=some (at0 V k):=by
 have h:=H.rng k.toNat (by omega)
 have e:((k.toNat:Nat):Int)=k:=by omega
 rw[e] at h
 refine⟨h.1,h.2,?_⟩
 unfold at0
 obtain⟨y,hy⟩:∃ y,V[k.toNat]?=some y:=⟨_,List.getElem?_eq_getElem (by rw[H.len];omega)⟩
 rw[List.getD_eq_getElem?_getD,hy];rfl
theorem k0h {k:Int}{y:Int}(hk:k.toNat<V.length)(j:Int):at0 (V.set k.toNat y) j=if k.toNat=j.toNat then y else at0 V j:=by
 unfold at0
 rw[List.getD_eq_getElem?_getD,List.getElem?_set,List.getD_eq_getElem?_getD]
 by_cases h:k.toNat=j.toNat
 ·rw[ifP h,ifP h,ifP (by omega)];rfl
 ·rw[ifN h,ifN h]
theorem Iv.set (H:Iv g ph r K V B){k:Int}{y:Int}(h0:0≤k)(h1:k≤(r.Right.length:Int))(y0:0≤y)(y1:y≤((phP g ph r k).length:Int)){K' : List Oc}{B' : Nat}(hK:K'.length≤B'):Iv g ph r K' (V.set k.toNat y) B':=by
 refine⟨by simp[H.len],fun j hj=>?_,hK⟩
 have hkl:k.toNat<V.length:=by rw[H.len];omega
 have:=k0h (y:=y) hkl (j:Int)
 have hj' : at0 (V.set k.toNat y) (j:Int)=(V.set k.toNat y).getD j 0:=by unfold at0;rw[tnC]
 rw[← hj',this]
 by_cases h:k.toNat=((j:Nat):Int).toNat
 ·rw[ifP h]
  have e:((j:Nat):Int)=k:=by omega
  rw[e];exact⟨y0,y1⟩
 ·rw[ifN h]
  have:=H.rng j hj
  unfold at0;rw[tnC];exact this
theorem j1A (hph:LenP ph)(H:Iv g ph r K V B)(hs:j0q g ph r R K V x=some (K',V')):Iv g ph r K' V' (B+1048576):=by
 have hkn:=H.kn
 unfold j0q at hs
 by_cases k1:x.Kind=1
 ·rw[ifP k1] at hs
  split at hs
  ·cases hs
   exact⟨H.len,H.rng,by simp;omega⟩
  ·cases hs
 rw[ifN k1] at hs
 by_cases k2:x.Kind=2
 ·rw[ifP k2] at hs
  split at hs
  ·rename_i hv
   cases hs
   unfold visB at hv
   simp only[Bool.and_eq_true,decide_eq_true_eq] at hv
   obtain⟨_,⟨p1,p2⟩,_,p3,_⟩:=hv
   obtain⟨a1,a2,_⟩:=H.at' (k:=x.Pos) (by omega) p2
   have:=(z4Y hph g r x.Pos (at0 V x.Pos)).2
   exact H.set (by omega) p2 (by omega) (by omega) (by simp[addN];omega)
  ·cases hs
 rw[ifN k2] at hs
 by_cases k3:x.Kind=3
 ·rw[ifP k3] at hs
  split at hs
  ·rename_i hv
   cases hs
   unfold z1Q at hv
   simp only[Bool.and_eq_true,decide_eq_true_eq] at hv
   obtain⟨_,_,p3,_⟩:=hv
   obtain⟨a1,a2,_⟩:=H.at' (k:=0) (by omega) (by omega)
   have:=(z4Y hph g r 0 (at0 V 0+1)).1
   refine H.set (k:=0) (by omega) (by omega) (by omega) (by omega) ?_
   split
   ·simp[addN];omega
   ·omega
  ·cases hs
 ·rw[ifN k3] at hs;cases hs
theorem k5l (hr:Sz.szd r≤1048576)(hR:q3G g r=some R)(hK:K.length≤2199023255552)(vs:List Int):z5C x ⟨g,r,ph,K,vs,[]⟩=some (if j3R r R K x=true then (true,⟨g,r,ph,K++[oS x],vs,[]⟩) else (false,⟨g,r,ph,K,vs,[]⟩)):=by
 unfold z5C
 dsimp only
 have hE:j3R r R K x=(decide (x.Visit=0)&&(decide ((⟨x.Pos,x.Name⟩:Oc)∈R)&&(!decide ((⟨x.Pos,x.Name⟩:Oc)∈K)&&q9F r K ⟨x.Pos,x.Name⟩))):=rfl
 by_cases h0:x.Visit=0
 ·rw[ifP h0,hR,bsS,z8e,bsS]
  by_cases h1:(⟨x.Pos,x.Name⟩:Oc)∈R
  ·rw[ifP (by simpa using h1),z8e,bsS]
   by_cases h2:(⟨x.Pos,x.Name⟩:Oc)∈K
   ·rw[ifP (by simpa using h2)]
    have:j3R r R K x=false:=by rw[hE];simp[h2]
    rw[this,ifN (by simp)]
   ·rw[ifN (by simpa using h2),j4C hr,bsS]
    dsimp only
    cases hi:q9F r K (⟨x.Pos,x.Name⟩:Oc) with
    | true=>
     have:j3R r R K x=true:=by rw[hE];simp[h0,h1,h2,hi]
     rw[this,ifP rfl,ifP rfl,q3E (by constructor<;>omega)];rfl
    | false=>
     have:j3R r R K x=false:=by rw[hE];simp[hi]
     rw[this,ifN (by simp),ifN (by simp)]
  ·rw[ifN (by simpa using h1)]
   have:j3R r R K x=false:=by rw[hE];simp[h1]
   rw[this,ifN (by simp)]
 ·rw[ifN h0]
  have:j3R r R K x=false:=by rw[hE];simp[h0]
  rw[this,ifN (by simp)]
theorem j8R (H:Iv g ph r K V B){k:Int}(h0:1≤k)(h1:k≤(r.Right.length:Int)):(V.drop 1)[(k-1).toNat]?=some (at0 V k):=by
 rw[List.getElem?_drop,show 1+(k-1).toNat=k.toNat by omega]
 exact (H.at' (by omega) h1).2.2
theorem k3D (hph:LenP ph)(hr:Sz.szd r≤1048576)(H:Iv g ph r K V B)(hB:B≤2199023255552):z4s x ⟨g,r,ph,K,V.drop 1,[]⟩=some (if visB g ph r K V x=true then (true,⟨g,r,ph,addN K x.Pos (phAt g ph r x.Pos (at0 V x.Pos)).Synthesized,(V.set x.Pos.toNat (at0 V x.Pos+1)).drop 1,[]⟩) else (false,⟨g,r,ph,K,V.drop 1,[]⟩)):=by
 have hl:=q4E hr
 have hkn:=H.kn
 unfold z4s
 dsimp only
 rw[z3k,bsS]
 by_cases hp:1≤x.Pos∧x.Pos≤(r.Right.length:Int)
 ·rw[ifP (by simpa using hp)]
  by_cases hn:x.Name=(⟨#[]⟩:ByteArray)
  ·obtain⟨a1,a2,a3⟩:=H.at' (k:=x.Pos) (by omega) hp.2
   have hpl:=j3r hph g r x.Pos
   rw[ifP hn,q3E (by constructor<;>omega),q3E (by omega),j0p hl hp.1 hp.2,bsS,(j3o g ph (symS r x.Pos)).1,bsS,q3E (by constructor<;>omega),q3E (by omega),j8R H hp.1 hp.2,bsS,q3E (by constructor<;>omega)]
   by_cases hv:x.Visit=at0 V x.Pos+1
   ·rw[ifP hv]
    by_cases hc:at0 V x.Pos<((phP g ph r x.Pos).length:Int)
    ·have hc' : ¬ ((phS g ph (symS r x.Pos)).length:Int)≤at0 V x.Pos:=by
      have:((phP g ph r x.Pos).length:Int)=((phS g ph (symS r x.Pos)).length:Int):=rfl
      omega
     have hx:(phS g ph (symS r x.Pos))[(at0 V x.Pos).toNat]?=some (phAt g ph r x.Pos (at0 V x.Pos)):=q8N a1 hc
     rw[ifN hc',q3E a1,hx,bsS,z9K,bsS]
     dsimp only
     cases hk:z1P K x.Pos (phAt g ph r x.Pos (at0 V x.Pos)).Inherited with
     | true=>
      have hB:visB g ph r K V x=true:=by unfold visB;simp[hn,hp.1,hp.2,hv,hc,hk]
      have hlen:=(z4Y hph g r x.Pos (at0 V x.Pos)).2
      rw[ifP rfl,ifP hB,q3E (by constructor<;>omega),q3E (by constructor<;>omega),z7N _ _ (by dsimp only;omega),bsS]
      dsimp only
      rw[List.set_drop,show 1+(x.Pos-1).toNat=x.Pos.toNat by omega];rfl
     | false=>
      have hB:visB g ph r K V x=false:=by unfold visB;simp[hk]
      rw[ifN (by simp),hB,ifN (by simp)]
    ·have hc' : ((phS g ph (symS r x.Pos)).length:Int)≤at0 V x.Pos:=by
      have:((phP g ph r x.Pos).length:Int)=((phS g ph (symS r x.Pos)).length:Int):=rfl
      omega
     have hB:visB g ph r K V x=false:=by unfold visB;simp[hc]
     rw[ifP hc',hB,ifN (by simp)]
   ·have hB:visB g ph r K V x=false:=by unfold visB;simp[hv]
    rw[ifN hv,hB,ifN (by simp)]
  ·have hB:visB g ph r K V x=false:=by unfold visB;simp[hn]
   rw[ifN hn,hB,ifN (by simp)]
 ·have hB:visB g ph r K V x=false:=by unfold visB;simp[hp]
  rw[ifN (by simpa using hp),hB,ifN (by simp)]
abbrev stS (r:Rule)(K:List Oc)(V:List Int):(List Int)×ByteArray×ByteArray×Bool×(List Oc)×(List Step)×Int:=(V.drop 1,r.Name,r.Left,r.Literal,K,[],at0 V 0)
theorem k8B (hph:LenP ph)(hr:Sz.szd r≤1048576)(hR:q3G g r=some R)(H:Iv g ph r K V B)(hB:B≤2199023255552)(k:Nat) :
  z0e g ph r (phP g ph r 0) k x (stS r K V)=some (if at0 V 0<((phP g ph r 0).length:Int) then (match j0q g ph r R K V x with|some (K',V')=>.inl (stS r K' V')|none=>.inr false) else .inr false):=by
 have hl:=q4E hr
 have hkn:=H.kn
 obtain⟨a1,a2,a3⟩:=H.at' (k:=0) (by omega) (by omega)
 have hpl:=j3r hph g r 0
 unfold z0e j0q
 dsimp only
 by_cases k1:x.Kind=1
 ·rw[ifP k1,ifP k1]
  by_cases hv:at0 V 0<((phP g ph r 0).length:Int)
  ·rw[ifP hv,ifP hv,k5l hr hR (by omega),bsS]
   cases j3R r R K x with
   | true=>rfl
   | false=>rfl
  ·rw[ifN hv,ifN hv];rfl
 rw[ifN k1,ifN k1]
 by_cases k2:x.Kind=2
 ·rw[ifP k2,ifP k2]
  by_cases hv:at0 V 0<((phP g ph r 0).length:Int)
  ·rw[ifP hv,ifP hv,k3D hph hr H hB,bsS]
   cases hb:visB g ph r K V x with
   | true=>
    have hp:1≤x.Pos∧x.Pos≤(r.Right.length:Int):=by
     unfold visB at hb;simp only[Bool.and_eq_true,decide_eq_true_eq] at hb;exact hb.2.1
    have e0:at0 (V.set x.Pos.toNat (at0 V x.Pos+1)) 0=at0 V 0:=by
     rw[k0h (by rw[H.len];omega),ifN (by omega)]
    rw[ifP rfl,ifP rfl,bsS]
    dsimp only
    rw[ifP rfl]
    have:stS r (addN K x.Pos (phAt g ph r x.Pos (at0 V x.Pos)).Synthesized) (V.set x.Pos.toNat (at0 V x.Pos+1))=((V.set x.Pos.toNat (at0 V x.Pos+1)).drop 1,r.Name,r.Left,r.Literal,addN K x.Pos (phAt g ph r x.Pos (at0 V x.Pos)).Synthesized,[],at0 V 0):=by unfold stS;rw[e0]
    exact congrArg (fun s=>some (Sum.inl s)) this.symm
   | false=>rfl
  ·rw[ifN hv,ifN hv];rfl
 rw[ifN k2,ifN k2]
 by_cases k3:x.Kind=3
 ·rw[ifP k3,ifP k3]
  have hc:((if at0 V 0<((phP g ph r 0).length:Int) then some (decide (x.Pos=0)) else some false).bind fun s22=>(if s22=true then some (decide (x.Name=(⟨#[]⟩:ByteArray))) else some false).bind fun s23=>(if s23=true then grd (I64 (at0 V 0+1)) <| some (decide (x.Visit=at0 V 0+1)) else some false).bind fun s24=>(if s24=true then grd (0≤at0 V 0) <| ((phP g ph r 0)[(at0 V 0).toNat]?).bind fun x3=>(q8r (⟨g,r,ph,K,V.drop 1,[]⟩:l28Work) 0 x3.Synthesized).bind fun y4=>some y4 else some false))=some (z1Q g ph r K V x):=by
   unfold z1Q
   by_cases hv:at0 V 0<((phP g ph r 0).length:Int)
   ·rw[ifP hv,bsS]
    by_cases h1:x.Pos=0
    ·rw[ifP (by simpa using h1),bsS]
     by_cases h2:x.Name=(⟨#[]⟩:ByteArray)
     ·rw[ifP (by simpa using h2),q3E (by constructor<;>omega),bsS]
      by_cases h3:x.Visit=at0 V 0+1
      ·rw[ifP (by simpa using h3),q3E a1,q8N a1 hv,bsS,z9K,bsS]
       simp[h1,h2,h3,hv]
      ·rw[ifN (by simpa using h3)];simp[h3]
     ·rw[ifN (by simpa using h2)];simp[h2]
    ·rw[ifN (by simpa using h1)];simp[h1]
   ·rw[ifN hv];simp[hv]
  have hsplit:∀ {γ:Type} (F:Bool→Option γ),(((if at0 V 0<((phP g ph r 0).length:Int) then some (decide (x.Pos=0)) else some false).bind fun s22=>(if s22=true then some (decide (x.Name=(⟨#[]⟩:ByteArray))) else some false).bind fun s23=>(if s23=true then grd (I64 (at0 V 0+1)) <| some (decide (x.Visit=at0 V 0+1)) else some false).bind fun s24=>(if s24=true then grd (0≤at0 V 0) <| ((phP g ph r 0)[(at0 V 0).toNat]?).bind fun x3=>(q8r (⟨g,r,ph,K,V.drop 1,[]⟩:l28Work) 0 x3.Synthesized).bind fun y4=>some y4 else some false).bind F):Option γ)=F (z1Q g ph r K V x):=fun F=>by
   have:=congrArg (fun o=>Option.bind o F) hc
   simp only[Option.bind_assoc,bsS] at this
   exact this
  refine (hsplit _).trans ?_
  rw[q3E (by constructor<;>omega)]
  cases hb:z1Q g ph r K V x with
  | true=>
   have hv:at0 V 0<((phP g ph r 0).length:Int):=by
    unfold z1Q at hb;simp only[Bool.and_eq_true,decide_eq_true_eq] at hb;exact hb.2.2.1
   have e0:at0 (V.set 0 (at0 V 0+1)) 0=at0 V 0+1:=by
    have:=k0h (V:=V) (k:=0) (y:=at0 V 0+1) (by rw[H.len];omega) 0
    rw[ifP rfl] at this;exact this
   have e1:(V.set 0 (at0 V 0+1)).drop 1=V.drop 1:=by rw[List.drop_set,ifP (by omega)]
   rw[ifP hv,ifP rfl,bsS]
   by_cases hw:at0 V 0+1<((phP g ph r 0).length:Int)
   ·have hlen:=(z4Y hph g r 0 (at0 V 0+1)).1
    rw[ifP (by simpa using hw),ifP hw,q3E (by omega),q8N (by omega) hw,bsS,z7N _ _ (by dsimp only;omega),bsS,ifP rfl]
    rw[ifP rfl]
    have:stS r (addN K 0 (phAt g ph r 0 (at0 V 0+1)).Inherited) (V.set 0 (at0 V 0+1))=(V.drop 1,r.Name,r.Left,r.Literal,addN K 0 (phAt g ph r 0 (at0 V 0+1)).Inherited,[],at0 V 0+1):=by unfold stS;rw[e0,e1]
    exact congrArg (fun s=>some (Sum.inl s)) this.symm
   ·rw[ifN (by simpa using hw),ifN hw,ifP rfl,ifP rfl]
    have:stS r K (V.set 0 (at0 V 0+1))=(V.drop 1,r.Name,r.Left,r.Literal,K,[],at0 V 0+1):=by unfold stS;rw[e0,e1]
    exact congrArg (fun s=>some (Sum.inl s)) this.symm
  | false=>
   by_cases hv:at0 V 0<((phP g ph r 0).length:Int)
   ·rw[ifP hv];rfl
   ·rw[ifN hv];rfl
 ·rw[ifN k3,ifN k3]
  dsimp only
  split<;>rfl
end
section
variable {g:Gm_}{ph:List (List Phase)}{r:Rule}{R K K' : List Oc}{V V' : List Int}{B:Nat}{x:Step}
theorem z8L (hr:Sz.szd r≤1048576)(H:Iv g ph r K V B)(k:Int):q7c ⟨g,ph,r,R,K,V⟩ k=some (decide (1≤k∧k≤(r.Right.length:Int))&&(decide (at0 V k<((phP g ph r k).length:Int))&&z1P K k (phAt g ph r k (at0 V k)).Inherited)):=by
 have hl:=q4E hr
 unfold q7c
 rw[q9W hl,bsS,z8o,bsS]
 dsimp only
 by_cases hp:1≤k∧k≤(r.Right.length:Int)
 ·obtain⟨a1,a2,a3⟩:=H.at' (k:=k) (by omega) hp.2
  rw[ifP (by simpa using hp),q3E (by omega),a3,bsS,bsS]
  by_cases hc:at0 V k<((phP g ph r k).length:Int)
  ·rw[ifP (by simpa using hc),q3E (by omega),bsS,q3E a1,q8N a1 hc,bsS,j3q,bsS,bsS]
   simp[hp,hc]
  ·rw[ifN (by simpa using hc)];simp[hc]
 ·rw[ifN (by simpa using hp)];simp[hp]
theorem k5m (hph:LenP ph)(hr:Sz.szd r≤1048576)(H:Iv g ph r K V B)(hB:B≤2199023255552){k:Int}(hp:1≤k∧k≤(r.Right.length:Int))(hc:at0 V k<((phP g ph r k).length:Int)) :
  q6W k ⟨g,ph,r,R,K,V⟩=some ⟨g,ph,r,R,addN K k (phAt g ph r k (at0 V k)).Synthesized,V.set k.toNat (at0 V k+1)⟩:=by
 have hl:=q4E hr
 have hkn:=H.kn
 obtain⟨a1,a2,a3⟩:=H.at' (k:=k) (by omega) hp.2
 have hpl:=j3r hph g r k
 have hlen:=(z4Y hph g r k (at0 V k)).2
 unfold q6W
 rw[q9W hl,bsS]
 dsimp only
 rw[q3E (by omega),a3,bsS,q3E a1,q8N a1 hc,bsS,z7O _ _ (by dsimp only;omega),bsS]
 dsimp only
 rw[q3E (by omega),a3,bsS,q3E (by constructor<;>omega)];rfl
theorem k1s (hph:LenP ph)(hr:Sz.szd r≤1048576)(H:Iv g ph r K V B)(hB:B≤2199023255552):q8G x ⟨g,ph,r,R,K,V⟩=some (match j0q g ph r R K V x with|some (K',V')=>(true,⟨g,ph,r,R,K',V'⟩)|none=>(false,⟨g,ph,r,R,K,V⟩)):=by
 have hl:=q4E hr
 have hkn:=H.kn
 unfold q8G j0q
 dsimp only
 by_cases k1:x.Kind=1
 ·rw[ifP k1,ifP k1]
  unfold j3R
  by_cases h0:x.Visit=0
  ·rw[ifP h0,j4D hr,bsS]
   dsimp only
   have e:(decide (x.Visit=0)&&(decide (oS x∈R)&&(!decide (oS x∈K)&&q9F r K (oS x))))=(decide ((⟨x.Pos,x.Name⟩:Oc)∈R)&&(!decide ((⟨x.Pos,x.Name⟩:Oc)∈K)&&q9F r K (⟨x.Pos,x.Name⟩:Oc))):=by unfold oS;simp[h0]
   rw[e]
   cases (decide ((⟨x.Pos,x.Name⟩:Oc)∈R)&&(!decide ((⟨x.Pos,x.Name⟩:Oc)∈K)&&q9F r K (⟨x.Pos,x.Name⟩:Oc))) with
   | true=>rw[ifP rfl,ifP rfl,q3E (by constructor<;>omega)];rfl
   | false=>rfl
  ·have e:(decide (x.Visit=0)&&(decide (oS x∈R)&&(!decide (oS x∈K)&&q9F r K (oS x))))=false:=by simp[h0]
   rw[ifN h0,e];rfl
 rw[ifN k1,ifN k1]
 by_cases k2:x.Kind=2
 ·rw[ifP k2,ifP k2]
  by_cases hn:x.Name=(⟨#[]⟩:ByteArray)
  ·rw[ifP hn,z8L hr H,bsS]
   by_cases hm:(decide (1≤x.Pos∧x.Pos≤(r.Right.length:Int))&&(decide (at0 V x.Pos<((phP g ph r x.Pos).length:Int))&&z1P K x.Pos (phAt g ph r x.Pos (at0 V x.Pos)).Inherited))=true
   ·rw[ifP hm]
    have hm':=hm
    simp only[Bool.and_eq_true,decide_eq_true_eq] at hm'
    obtain⟨hp,hc,hk⟩:=hm'
    obtain⟨a1,a2,a3⟩:=H.at' (k:=x.Pos) (by omega) hp.2
    have hpl:=j3r hph g r x.Pos
    rw[q3E (by omega),a3,bsS,q3E (by constructor<;>omega)]
    by_cases hv:x.Visit=at0 V x.Pos+1
    ·have hb:visB g ph r K V x=true:=by unfold visB;simp[hn,hp.1,hp.2,hv,hc,hk]
     rw[ifP hv,k5m hph hr H hB hp hc,bsS,hb,ifP rfl]
    ·have hb:visB g ph r K V x=false:=by unfold visB;simp[hv]
     rw[ifN hv,hb,ifN (by simp)]
   ·have hb:visB g ph r K V x=false:=by
     cases hq:visB g ph r K V x with
     | false=>rfl
     | true=>
      unfold visB at hq
      simp only[Bool.and_eq_true,decide_eq_true_eq] at hq
      exact absurd (by simp only[Bool.and_eq_true,decide_eq_true_eq];exact⟨hq.2.1,hq.2.2.2.1,hq.2.2.2.2⟩) hm
    rw[ifN hm,hb,ifN (by simp)]
  ·have hb:visB g ph r K V x=false:=by unfold visB;simp[hn]
   rw[ifN hn,hb,ifN (by simp)]
 rw[ifN k2,ifN k2]
 by_cases k3:x.Kind=3
 ·obtain⟨a1,a2,a3⟩:=H.at' (k:=0) (by omega) (by omega)
  have hpl:=j3r hph g r 0
  have a3' : V[0]?=some (at0 V 0):=a3
  rw[ifP k3,ifP k3,q9W hl,bsS]
  by_cases h1:x.Pos=0
  ·rw[ifP h1]
   by_cases h2:x.Name=(⟨#[]⟩:ByteArray)
   ·rw[ifP h2,a3',bsS]
    by_cases hv:at0 V 0<((phP g ph r 0).length:Int)
    ·rw[ifN (by omega),q3E (by constructor<;>omega)]
     by_cases h3:x.Visit=at0 V 0+1
     ·rw[ifP h3,q3E a1,q8N a1 hv,bsS,j3q,bsS]
      dsimp only
      cases hk:z1P K 0 (phAt g ph r 0 (at0 V 0)).Synthesized with
      | true=>
       have hb:z1Q g ph r K V x=true:=by unfold z1Q;simp[h1,h2,hv,h3,hk]
       have e0:(V.set 0 (at0 V 0+1))[0]?=some (at0 V 0+1):=by rw[List.getElem?_set,ifP rfl,ifP (by rw[H.len];omega)]
       rw[hb,ifP rfl,ifP rfl,q3E (by constructor<;>omega),e0,bsS]
       by_cases hw:at0 V 0+1<((phP g ph r 0).length:Int)
       ·have hlen:=(z4Y hph g r 0 (at0 V 0+1)).1
        rw[ifP hw,ifP hw,q3E (by omega),q8N (by omega) hw,bsS,z7O _ _ (by dsimp only;omega),bsS];rfl
       ·rw[ifN hw,ifN hw]
      | false=>
       have hb:z1Q g ph r K V x=false:=by unfold z1Q;simp[hk]
       rw[hb,ifN (by simp),ifN (by simp)]
     ·have hb:z1Q g ph r K V x=false:=by unfold z1Q;simp[h3]
      rw[ifN h3,hb,ifN (by simp)]
    ·have hb:z1Q g ph r K V x=false:=by unfold z1Q;simp[hv]
     rw[ifP (by omega),hb,ifN (by simp)]
   ·have hb:z1Q g ph r K V x=false:=by unfold z1Q;simp[h2]
    rw[ifN h2,hb,ifN (by simp)]
  ·have hb:z1Q g ph r K V x=false:=by unfold z1Q;simp[h1]
   rw[ifN h1,hb,ifN (by simp)]
 ·rw[ifN k3,ifN k3]
noncomputable def runS (g:Gm_) (ph:List (List Phase)) (r:Rule) (R:List Oc):List Step→List Oc→List Int→Option (List Oc×List Int)
 | [],K,V=>some (K,V)
 | x::xs,K,V=>if at0 V 0<((phP g ph r 0).length:Int) then (match j0q g ph r R K V x with
  | some (K',V')=>runS g ph r R xs K' V'
  | none=>none) else none
theorem j8S (hph:LenP ph):∀ (xs:List Step) {K:List Oc} {V:List Int} {B:Nat},Iv g ph r K V B→∀ {K' V'},runS g ph r R xs K V=some (K',V')→Iv g ph r K' V' (B+xs.length*1048576)
 | [],K,V,B,H,K',V',h=>by cases h;simpa using H
 | x::xs,K,V,B,H,K',V',h=>by
  rw[runS] at h
  split at h
  ·cases hs:j0q g ph r R K V x with
   | none=>rw[hs] at h;cases h
   | some q=>
    obtain⟨K1,V1⟩:=q
    rw[hs] at h
    have:=j8S hph xs (j1A hph H hs) h
    rw[lnC]
    exact⟨this.len,this.rng,by have:=this.kn;omega⟩
  ·cases h
theorem sRun (hph:LenP ph)(hr:Sz.szd r≤1048576)(hR:q3G g r=some R):∀ (xs:List Step) (i:Nat) {K:List Oc} {V:List Int} {B:Nat},Iv g ph r K V B→B+xs.length*1048576≤2199023255552 →
  findL (z0e g ph r (phP g ph r 0)) i xs (stS r K V)=some (match runS g ph r R xs K V with|some (K',V')=>.inl (stS r K' V')|none=>.inr false)
 | [],i,K,V,B,H,hB=>rfl
 | x::xs,i,K,V,B,H,hB=>by
  rw[lnC] at hB
  rw[findL,k8B hph hr hR H (by omega),bsS,runS]
  by_cases hv:at0 V 0<((phP g ph r 0).length:Int)
  ·rw[ifP hv,ifP hv]
   cases hs:j0q g ph r R K V x with
   | none=>rfl
   | some q=>
    obtain⟨K1,V1⟩:=q
    exact sRun hph hr hR xs (i+1) (j1A hph H hs) (by omega)
  ·rw[ifN hv,ifN hv]
abbrev stI (r:Rule)(R K:List Oc)(V:List Int):ByteArray×ByteArray×Bool×(List Oc)×(List Oc)×(List Int):=(r.Name,r.Left,r.Literal,R,K,V)
theorem iRun (hph:LenP ph)(hr:Sz.szd r≤1048576)(a3:List Step)(y1:visits)(hy:y1.g=g∧y1.phases=ph∧y1.r.Right=r.Right∧y1.r.Equations=r.Equations∧y1.r.Contributions=r.Contributions)(ha:a3.length≤1048576):∀ (xs:List Step) (i:Nat) {K:List Oc} {V:List Int} {B:Nat},i+xs.length=a3.length→Iv g ph r K V B→B+xs.length*1048576≤2199023255552→(xs=[]∨at0 V 0<((phP g ph r 0).length:Int)) →
  findL (z0d a3 y1 (phP g ph r 0)) i xs (stI r R K V)=some (match runS g ph r R xs K V with|some (K',V')=>.inl (stI r R K' V')|none=>.inr false)
 | [],i,K,V,B,hi,H,hB,hv=>rfl
 | x::xs,i,K,V,B,hi,H,hB,hv=>by
  rw[lnC] at hB hi
  have hv:=hv.resolve_left (by simp)
  have hrec:(⟨y1.g,y1.phases,(⟨r.Name,r.Left,y1.r.Right,r.Literal,y1.r.Equations,y1.r.Contributions⟩:Rule),R,K,V⟩:visits)=⟨g,ph,r,R,K,V⟩:=by
   obtain⟨h1,h2,h3,h4,h5⟩:=hy
   rw[h1,h2,h3,h4,h5]
  rw[findL,runS,ifP hv]
  have hstep:z0d a3 y1 (phP g ph r 0) i x (stI r R K V)=some (match j0q g ph r R K V x with|some (K',V')=>(if at0 V' 0=((phP g ph r 0).length:Int)∧xs≠[] then .inr false else .inl (stI r R K' V'))|none=>.inr false):=by
   unfold z0d
   dsimp only
   rw[hrec,k1s hph hr H (by omega),bsS]
   cases hs:j0q g ph r R K V x with
   | none=>rfl
   | some q=>
    obtain⟨K1,V1⟩:=q
    have H1:=j1A hph H hs
    obtain⟨a1,a2,a3'⟩:=H1.at' (k:=0) (by omega) (by omega)
    have a3'' : V1[0]?=some (at0 V1 0):=a3'
    dsimp only
    rw[ifP rfl,a3'',bsS]
    by_cases he:at0 V1 0=((phP g ph r 0).length:Int)
    ·rw[ifP he,bsS]
     dsimp only
     rw[bsS]
     dsimp only
     cases xs with
     | nil=>
      simp only[List.length_nil] at hi
      rw[ifN (by simp;omega),ifN (by simp)]
     | cons z zs=>
      simp only[lnC] at hi
      rw[ifP (by simp;omega),ifP ⟨he,by simp⟩]
    ·rw[ifN he,bsS]
     dsimp only
     rw[bsS]
     dsimp only
     rw[ifN (by simp),ifN (fun h=>he h.1)]
  rw[hstep,bsS]
  cases hs:j0q g ph r R K V x with
  | none=>rfl
  | some q=>
   obtain⟨K1,V1⟩:=q
   have H1:=j1A hph H hs
   obtain⟨a1,a2,a3'⟩:=H1.at' (k:=0) (by omega) (by omega)
   dsimp only
   by_cases hc:at0 V1 0=((phP g ph r 0).length:Int)∧xs≠[]
   ·rw[ifP hc]
    cases xs with
    | nil=>exact absurd rfl hc.2
    | cons z zs=>rw[runS,ifN (by omega)]
   ·rw[ifN hc]
    refine iRun hph hr a3 y1 hy ha xs (i+1) (by omega) H1 (by omega) ?_
    by_cases hx:xs=[]
    ·exact .inl hx
    ·exact .inr (by have:¬ at0 V1 0=((phP g ph r 0).length:Int):=fun h=>hc ⟨h,hx⟩;omega)
end
section
variable {g:Gm_}{ph:List (List Phase)}{r:Rule}{R K K' : List Oc}{V V' : List Int}{B:Nat}
noncomputable def j0R (g:Gm_) (ph:List (List Phase)) (r:Rule) (R K:List Oc) (V:List Int):Bool:=
 R.all (fun o=>decide (o∈K))&&(List.range r.Right.length).all fun j=>decide (V.getD (j+1) 0=((phP g ph r ((j+1:Nat):Int)).length:Int))
theorem j7x (hr:Sz.szd r≤1048576)(hR:q3G g r=some R)(H:Iv g ph r K V B):q9a ⟨g,r,ph,K,V.drop 1,[]⟩=some (j0R g ph r R K V):=by
 have hl:=q4E hr
 unfold q9a j0R
 dsimp only
 rw[hR,bsS,z7M (c:=false) (q:=fun o=>decide (o∈K)) fun k x _=>by
  unfold j0G
  rw[z8e,bsS]
  by_cases h:x∈K<;>simp[h]]
 cases R.all (fun o=>decide (o∈K)) with
 | false=>rfl
 | true=>
  rw[ifP rfl,bsS]
  show ((findL (z4P ⟨g,r,ph,K,V.drop 1,[]⟩) 0 r.Right ()).bind _:Option Bool)=_
  have hany:=z4C (c:=false) (xs:=r.Right) (i:=0) (p:=fun j _=>V.getD (j+1) 0≠((phP g ph r ((j+1:Nat):Int)).length:Int)) (f:=z4P ⟨g,r,ph,K,V.drop 1,[]⟩) fun j y hy=>by
   rw[Nat.zero_add]
   have hj:=(List.getElem?_eq_some_iff.1 hy).1
   have h1:=j8R H (k:=((j+1:Nat):Int)) (by omega) (by omega)
   have h2:=j0p hl (k:=((j+1:Nat):Int)) (by omega) (by omega)
   have e:(((j+1:Nat):Int)-1).toNat=j:=by omega
   rw[e] at h1 h2
   rw[hy] at h2
   cases h2
   have h3:at0 V ((j+1:Nat):Int)=V.getD (j+1) 0:=by unfold at0;rw[tnC]
   unfold z4P
   dsimp only
   rw[h1,bsS,(j3o g ph _).1,bsS,h3]
   exact⟨fun h=>ifN h,fun h=>ifP (Classical.not_not.1 h)⟩
  cases hb:(List.range r.Right.length).all fun j=>decide (V.getD (j+1) 0=((phP g ph r ((j+1:Nat):Int)).length:Int)) with
  | true=>
   rw[hany.2 fun j y hy hp=>?_]
   ·rfl
   ·rw[Nat.zero_add] at hp
    have hj:=(List.getElem?_eq_some_iff.1 hy).1
    have:=List.all_eq_true.1 hb j (List.mem_range.2 hj)
    exact hp (of_decide_eq_true this)
  | false=>
   have:∃ j,j<r.Right.length∧V.getD (j+1) 0≠((phP g ph r ((j+1:Nat):Int)).length:Int):=by
    apply Classical.byContradiction
    intro hn
    have:((List.range r.Right.length).all fun j=>decide (V.getD (j+1) 0=((phP g ph r ((j+1:Nat):Int)).length:Int)))=true:=List.all_eq_true.2 fun j hj=>decide_eq_true (Classical.not_not.1 fun h=>hn ⟨j,List.mem_range.1 hj,h⟩)
    rw[this] at hb;cases hb
   obtain⟨j,hj,hp⟩:=this
   rw[hany.1 ⟨j,_,List.getElem?_eq_getElem hj,by rw[Nat.zero_add];exact hp⟩];rfl
theorem j3s (hr:Sz.szd r≤1048576)(H:Iv g ph r K V B):q5C ⟨g,ph,r,R,K,V⟩=some (j0R g ph r R K V):=by
 have hl:=q4E hr
 have hR:q3H R ⟨g,ph,r,R,K,V⟩=some (!R.all fun o=>decide (o∈K)):=by
  unfold q3H q4h
  obtain⟨z,h1,h2⟩:=z5W (q:=fun u=>!decide (u∈K)) (xs:=R) (i:=0) (f:=q4Q ⟨g,ph,r,R,K,V⟩) fun k x _=>by
   unfold q4Q q8x
   rw[z9J,bsS,bsS]
   split<;>rfl
  rw[h1,bsS,h2,← j5S,Bool.not_not]
 have hloop:∀ m j:Nat,j+m=r.Right.length→(∀ q,q<j→V.getD (q+1) 0=((phP g ph r ((q+1:Nat):Int)).length:Int))→q4o (q7Z ⟨g,ph,r,R,K,V⟩) ((j+1:Nat):Int)=some (if ((List.range r.Right.length).all fun j=>decide (V.getD (j+1) 0=((phP g ph r ((j+1:Nat):Int)).length:Int)))=true then .inl () else .inr false):=by
  intro m
  induction m with
  | zero=>
   intro j hj hq
   have hb:((List.range r.Right.length).all fun j=>decide (V.getD (j+1) 0=((phP g ph r ((j+1:Nat):Int)).length:Int)))=true:=List.all_eq_true.2 fun q h=>decide_eq_true (hq q (by have:=List.mem_range.1 h;omega))
   rw[hb,ifP rfl]
   exact q3F (by unfold q7Z;dsimp only;rw[ifN (by omega)])
  | succ m ih=>
   intro j hj hq
   have h3:at0 V ((j+1:Nat):Int)=V.getD (j+1) 0:=by unfold at0;rw[tnC]
   obtain⟨a1,a2,a3⟩:=H.at' (k:=((j+1:Nat):Int)) (by omega) (by omega)
   rw[h3] at a1 a2 a3
   by_cases hc:V.getD (j+1) 0<((phP g ph r ((j+1:Nat):Int)).length:Int)
   ·have hb:((List.range r.Right.length).all fun j=>decide (V.getD (j+1) 0=((phP g ph r ((j+1:Nat):Int)).length:Int)))=false:=by
     rw[List.all_eq_false]
     exact⟨j,List.mem_range.2 (by omega),by rw[decide_eq_false (by omega)];exact Bool.false_ne_true⟩
    rw[hb,ifN (by simp)]
    refine q3F ?_
    unfold q7Z
    dsimp only
    rw[ifP (by omega),q3E (by omega),a3,bsS,q9W hl,bsS,ifP hc]
   ·rw[q3L (s':=((j+1+1:Nat):Int)) (by
     unfold q7Z
     dsimp only
     rw[ifP (by omega),q3E (by omega),a3,bsS,q9W hl,bsS,ifN hc,q3E (by constructor<;>omega)];rfl)]
    refine ih (j+1) (by omega) fun q hq'=>?_
    by_cases e:q=j
    ·rw[e];exact Int.le_antisymm a2 (Int.not_lt.1 hc)
    ·exact hq q (by omega)
 have h0:=hloop r.Right.length 0 (by omega) (fun q hq=>by omega)
 have e1:((0+1:Nat):Int)=1:=rfl
 rw[e1] at h0
 unfold q5C j0R
 rw[h0,bsS]
 cases (List.range r.Right.length).all fun j=>decide (V.getD (j+1) 0=((phP g ph r ((j+1:Nat):Int)).length:Int)) with
 | false=>simp
 | true=>
  show (q3H R ⟨g,ph,r,R,K,V⟩).bind _=_
  rw[hR,bsS,Bool.not_not,Bool.and_true]
end
noncomputable def j1l (g:Gm_) (ph:List (List Phase)) (r:Rule) (R:List Oc) (st:List Step):Bool:=
 if (phP g ph r 0).length=0 then false else match runS g ph r R st (addN [] 0 (phAt g ph r 0 0).Inherited) (List.replicate (r.Right.length+1) 0) with
  | none=>false
  | some (K,V)=>decide (at0 V 0=((phP g ph r 0).length:Int))&&j0R g ph r R K V
theorem k5n {g:Gm_}{ph:List (List Phase)}{r:Rule}{st:List Step}(hg:Sz.szd g≤1048576)(hph:LenP ph)(hr:Sz.szd r≤1048576)(hs:st.length≤1048576):q6D g ph r st=some (j1l g ph r (reqL g r) st):=by
 have hl:=q4E hr
 have hR:=j0k (q7z hg) hl
 have hR':=j2Z (q7z hg) hl
 generalize reqL g r=R at hR hR' ⊢
 have hlen:=(z4Y hph g r 0 0).1
 have hI:Iv g ph r (addN [] 0 (phAt g ph r 0 0).Inherited) (List.replicate (r.Right.length+1) 0) 1048576:=by
  refine⟨by simp,fun k hk=>?_,by simp[addN];omega⟩
  rw[List.getD_eq_getElem?_getD,List.getElem?_replicate,ifP (by omega)]
  exact⟨Int.le_refl _,by show (0:Int)≤_;omega⟩
 have h00:at0 (List.replicate (r.Right.length+1) 0) 0=0:=by unfold at0;rw[List.getD_eq_getElem?_getD,List.getElem?_replicate,ifP (by simp)];rfl
 have hdrop:(List.replicate (r.Right.length+1) (0:Int)).drop 1=List.replicate r.Right.length 0:=by rw[List.drop_replicate];rfl
 have hp0:phS g ph r.Left=phP g ph r 0:=by unfold phP;rw[j3p]
 ·unfold q6D j1l
  rw[q3E (by constructor<;>omega),(j3o g ph r.Left).1,bsS,hp0]
  by_cases h0:(phP g ph r 0).length=0
  ·rw[ifP (by omega),ifP h0]
  ·have hx:=q8N (g:=g) (ph:=ph) (r:=r) (k:=0) (v:=0) (by omega) (by omega)
   have hx' : (phP g ph r 0)[0]?=some (phAt g ph r 0 0):=hx
   rw[ifN (by omega),ifN h0,hx',bsS,z7N _ _ (by dsimp only;simp;omega),bsS]
   dsimp only
   have hst:((List.replicate r.Right.length (0:Int)),r.Name,r.Left,r.Literal,[]++(phAt g ph r 0 0).Inherited.map (fun n=>(⟨0,n⟩:Oc)),([]:List Step),(0:Int))=stS r (addN [] 0 (phAt g ph r 0 0).Inherited) (List.replicate (r.Right.length+1) 0):=by
    unfold stS;rw[h00,hdrop];rfl
   rw[hst,sRun hph hr hR st 0 hI (by omega),bsS]
   cases hrun:runS g ph r R st (addN [] 0 (phAt g ph r 0 0).Inherited) (List.replicate (r.Right.length+1) 0) with
   | none=>rfl
   | some q=>
    obtain⟨K,V⟩:=q
    have HI:=j8S hph st hI hrun
    show ((if at0 V 0=((phP g ph r 0).length:Int) then (q9a ⟨g,r,ph,K,V.drop 1,[]⟩).bind fun y5=>some y5 else some false).bind fun s27=>some s27)=_
    by_cases he:at0 V 0=((phP g ph r 0).length:Int)
    ·rw[ifP he,j7x hr hR HI,bsS,bsS];simp[he]
    ·rw[ifN he];simp[he]
theorem k5o {g:Gm_}{ph:List (List Phase)}{r:Rule}{st:List Step}(hg:Sz.szd g≤1048576)(hph:LenP ph)(hr:Sz.szd r≤1048576)(hs:st.length≤1048576):q6c g ph r st=some (j1l g ph r (reqL g r) st):=by
 have hl:=q4E hr
 have hR:=j0k (q7z hg) hl
 have hR':=j2Z (q7z hg) hl
 generalize reqL g r=R at hR hR' ⊢
 have hlen:=(z4Y hph g r 0 0).1
 have hI:Iv g ph r (addN [] 0 (phAt g ph r 0 0).Inherited) (List.replicate (r.Right.length+1) 0) 1048576:=by
  refine⟨by simp,fun k hk=>?_,by simp[addN];omega⟩
  rw[List.getD_eq_getElem?_getD,List.getElem?_replicate,ifP (by omega)]
  exact⟨Int.le_refl _,by show (0:Int)≤_;omega⟩
 have h00:at0 (List.replicate (r.Right.length+1) 0) 0=0:=by unfold at0;rw[List.getD_eq_getElem?_getD,List.getElem?_replicate,ifP (by simp)];rfl
 have hdrop:(List.replicate (r.Right.length+1) (0:Int)).drop 1=List.replicate r.Right.length 0:=by rw[List.drop_replicate];rfl
 have hp0:phS g ph r.Left=phP g ph r 0:=by unfold phP;rw[j3p]
 ·unfold q6c j1l z2i
  rw[hR',bsS,q3E (by constructor<;>omega),q3E (by constructor<;>omega),bsS,q9W hl,bsS]
  by_cases h0:(phP g ph r 0).length=0
  ·rw[ifP (by omega),bsS,ifP rfl,ifP h0]
  ·have hx:=q8N (g:=g) (ph:=ph) (r:=r) (k:=0) (v:=0) (by omega) (by omega)
   have hx' : (phP g ph r 0)[0]?=some (phAt g ph r 0 0):=hx
   rw[ifN (by omega),bsS,ifN h0]
   by_cases hst0:st.length=0
   ·obtain rfl:=List.eq_nil_of_length_eq_zero hst0
    rw[ifP (by simp),runS]
    have:¬ (0:Int)=((phP g ph r 0).length:Int):=by omega
    dsimp only
    rw[h00];simp[this]
   ·rw[ifN (by simp;exact fun e=>hst0 (by rw[e];rfl)),hx',bsS,z7O _ _ (by dsimp only;simp;omega),bsS]
    dsimp only
    have hst:(r.Name,r.Left,r.Literal,R,[]++(phAt g ph r 0 0).Inherited.map (fun n=>(⟨0,n⟩:Oc)),(List.replicate (r.Right.length+1) (0:Int)))=stI r R (addN [] 0 (phAt g ph r 0 0).Inherited) (List.replicate (r.Right.length+1) 0):=rfl
    rw[hst,iRun (g:=g) (ph:=ph) (r:=r) hph hr st _ ⟨rfl,rfl,rfl,rfl,rfl⟩ hs st 0 (by omega) hI (by omega) (.inr (by rw[h00];omega)),bsS]
    cases hrun:runS g ph r R st (addN [] 0 (phAt g ph r 0 0).Inherited) (List.replicate (r.Right.length+1) 0) with
    | none=>rfl
    | some q=>
     obtain⟨K,V⟩:=q
     have HI:=j8S hph st hI hrun
     obtain⟨a1,a2,a3⟩:=HI.at' (k:=0) (by omega) (by omega)
     have a3' : V[0]?=some (at0 V 0):=a3
     show ((V[0]?).bind fun x4=>(if x4=((phP g ph r 0).length:Int) then (q5C ⟨g,ph,r,R,K,V⟩).bind fun y4=>some y4 else some false).bind fun s11=>some s11)=_
     rw[a3',bsS]
     by_cases he:at0 V 0=((phP g ph r 0).length:Int)
     ·rw[ifP he,j3s hr HI,bsS,bsS];simp[he]
     ·rw[ifN he];simp[he]
theorem j8T {g:Gm_}{ph:List (List Phase)}{r:Rule}{st:List Step}(hg:Sz.szd g≤1048576)(hph:LenP ph)(hr:Sz.szd r≤1048576)(hs:st.length≤1048576):q6D g ph r st=some (j1l g ph r (reqL g r) st)∧q6c g ph r st=some (j1l g ph r (reqL g r) st):=⟨k5n hg hph hr hs,k5o hg hph hr hs⟩
theorem j3t {α ρ:Type}{q:α→Bool}{h:α→ρ}:∀ {xs:List α} {i:Nat} {f:Nat→α→Unit→Option (Unit ⊕ ρ)},(∀ k x,x∈xs→f k x ()=some (if q x=true then .inr (h x) else .inl ()))→findL f i xs ()=some (match xs.find? q with|some x=>.inr (h x)|none=>.inl ())
 | [],i,f,_=>rfl
 | x::xs,i,f,hf=>by
  rw[findL,hf i x List.mem_cons_self,bsS,List.find?_cons]
  cases hq:q x with
  | true=>rfl
  | false=>exact j3t (xs:=xs) (i:=i+1) fun k y hy=>hf k y (List.mem_cons_of_mem _ hy)
def fndN (q:Nat→Bool):Nat→Nat→Option Nat
 | _,0=>none
 | i,n+1=>if q i=true then some i else fndN q (i+1) n
theorem j7y {q:Nat→Bool}{k:Nat}:∀ {n i:Nat},fndN q i n=some k→i≤k∧k<i+n∧q k=true
 | 0,i,h=>by cases h
 | n+1,i,h=>by
  rw[fndN] at h
  by_cases hq:q i=true
  ·rw[ifP hq] at h;cases h;exact⟨Nat.le_refl _,by omega,hq⟩
  ·rw[ifN hq] at h
   obtain⟨a,b,c⟩:=j7y (n:=n) h
   exact⟨by omega,by omega,c⟩
theorem j4E {α ρ:Type}{q:Nat→Bool}{h:Nat→ρ}:∀ {xs:List α} {i:Nat} {f:Nat→α→Unit→Option (Unit ⊕ ρ)},(∀ k x,xs[k]?=some x→f (i+k) x ()=some (if q (i+k)=true then .inr (h (i+k)) else .inl ()))→findL f i xs ()=some (match fndN q i xs.length with|some k=>.inr (h k)|none=>.inl ())
 | [],i,f,_=>rfl
 | x::xs,i,f,hf=>by
  rw[findL,show f i x ()=some (if q i=true then .inr (h i) else .inl ()) from hf 0 x rfl,bsS,lnC,fndN]
  by_cases hq:q i=true
  ·rw[ifP hq,ifP hq]
  ·rw[ifN hq,ifN hq]
   refine j4E (xs:=xs) (i:=i+1) fun k y hy=>?_
   have:=hf (k+1) y hy
   rw[show i+1+k=i+(k+1) by omega];exact this
theorem j3u {ph:List (List Phase)}(h:∀ p∈ph,PS p)(g:Gm_)(r:Rule)(k:Int):PS (phP g ph r k):=by
 rcases j8Q g ph r k with e|e
 ·rw[e];exact⟨by simp,fun x hx=>nomatch hx⟩
 ·exact h _ e
theorem k3E {ph:List (List Phase)}(h:∀ p∈ph,PS p)(g:Gm_)(r:Rule){k v:Int}(h0:0≤v)(h1:v<((phP g ph r k).length:Int)):PB (phAt g ph r k v):=
 (j3u h g r k).2 _ (List.mem_of_getElem? (q8N h0 h1))
section
variable {g:Gm_}{ph:List (List Phase)}{r:Rule}{R K K' : List Oc}{V V' : List Int}{B:Nat}{x:Step}
noncomputable def nxE (r:Rule) (R K:List Oc):Option Oc:=R.find? fun o=>!decide (o∈K)&&q9F r K o
noncomputable def vsB (g:Gm_) (ph:List (List Phase)) (r:Rule) (K:List Oc) (V:List Int) (j:Nat):Bool:=decide (at0 V ((j+1:Nat):Int)<((phP g ph r ((j+1:Nat):Int)).length:Int))&&z1P K ((j+1:Nat):Int) (phAt g ph r ((j+1:Nat):Int) (at0 V ((j+1:Nat):Int))).Inherited
noncomputable def nxV (g:Gm_) (ph:List (List Phase)) (r:Rule) (K:List Oc) (V:List Int):Option Nat:=fndN (vsB g ph r K V) 0 r.Right.length
noncomputable def vsK (g:Gm_) (ph:List (List Phase)) (r:Rule) (K:List Oc) (V:List Int) (j:Nat):List Oc:=addN K ((j+1:Nat):Int) (phAt g ph r ((j+1:Nat):Int) (at0 V ((j+1:Nat):Int))).Synthesized
def vsV (V:List Int)(j:Nat):List Int:=V.set (j+1) (at0 V ((j+1:Nat):Int)+1)
def vsS (V:List Int)(j:Nat):Step:=⟨2,((j+1:Nat):Int),at0 V ((j+1:Nat):Int)+1,(⟨#[]⟩:ByteArray)⟩
def evS (o:Oc):Step:=⟨1,o.Pos,0,o.Name⟩
theorem j5T (hr:Sz.szd r≤1048576)(hR:q3G g r=some R)(hK:K.length<3000000000000)(vs:List Int)(st:List Step)(hs:st.length<3000000000000):z5w ⟨g,r,ph,K,vs,st⟩=some (match nxE r R K with|some o=>(true,⟨g,r,ph,K++[o],vs,st++[evS o]⟩)|none=>(false,⟨g,r,ph,K,vs,st⟩)):=by
 unfold z5w nxE
 dsimp only
 rw[hR,bsS,j3t (q:=fun o=>!decide (o∈K)&&q9F r K o) (h:=fun o=>((true,⟨g,r,ph,K++[o],vs,st++[evS o]⟩):Bool×l28Work)) fun k x _=>by
  unfold j2k
  dsimp only
  rw[z8e,bsS]
  by_cases h:x∈K
  ·rw[ifP (by simpa using h)];simp[h]
  ·rw[ifN (by simpa using h),j4C hr,bsS]
   dsimp only
   cases hi:q9F r K x with
   | true=>rw[ifP rfl,q3E (by constructor<;>omega),q3E (by constructor<;>omega)];simp[h,evS]
   | false=>simp]
 cases R.find? (fun o=>!decide (o∈K)&&q9F r K o)<;>rfl
theorem j3v (hph:∀ p∈ph,PS p)(hr:Sz.szd r≤1048576)(H:Iv g ph r K V B)(hB:B≤3000000000000)(st:List Step)(hs:st.length<3000000000000):z4n ⟨g,r,ph,K,V.drop 1,st⟩=some (match nxV g ph r K V with|some j=>(true,⟨g,r,ph,vsK g ph r K V j,(vsV V j).drop 1,st++[vsS V j]⟩)|none=>(false,⟨g,r,ph,K,V.drop 1,st⟩)):=by
 have hl:=q4E hr
 have hkn:=H.kn
 unfold z4n nxV
 dsimp only
 rw[j4E (q:=vsB g ph r K V) (h:=fun j=>((true,⟨g,r,ph,vsK g ph r K V j,(vsV V j).drop 1,st++[vsS V j]⟩):Bool×l28Work)) fun j y hy=>by
  rw[Nat.zero_add]
  have hj:=(List.getElem?_eq_some_iff.1 hy).1
  have h1:=j8R H (k:=((j+1:Nat):Int)) (by omega) (by omega)
  have h2:=j0p hl (k:=((j+1:Nat):Int)) (by omega) (by omega)
  have e:(((j+1:Nat):Int)-1).toNat=j:=by omega
  rw[e] at h1 h2
  rw[hy] at h2
  obtain⟨a1,a2,a3⟩:=H.at' (k:=((j+1:Nat):Int)) (by omega) (by omega)
  have hlen:=(j3u hph g r ((j+1:Nat):Int)).1
  have hy2:y=symS r ((j+1:Nat):Int):=Option.some.inj h2
  unfold j0F
  dsimp only
  rw[hy2,(j3o g ph _).1,bsS,h1,bsS]
  show (if at0 V ((j+1:Nat):Int)<((phP g ph r ((j+1:Nat):Int)).length:Int) then _ else _)=_
  by_cases hc:at0 V ((j+1:Nat):Int)<((phP g ph r ((j+1:Nat):Int)).length:Int)
  ·have hx:(phS g ph (symS r ((j+1:Nat):Int)))[(at0 V ((j+1:Nat):Int)).toNat]?=some (phAt g ph r ((j+1:Nat):Int) (at0 V ((j+1:Nat):Int))):=q8N a1 hc
   have hpb:=k3E hph g r a1 hc
   rw[ifP hc,q3E a1,hx,bsS,z9K,bsS]
   dsimp only
   unfold vsB
   cases hk:z1P K ((j+1:Nat):Int) (phAt g ph r ((j+1:Nat):Int) (at0 V ((j+1:Nat):Int))).Inherited with
   | true=>
    rw[ifP rfl,q3E (by constructor<;>omega),q3E (by constructor<;>omega),q3E (by constructor<;>omega),z7N _ _ (by dsimp only;have:=hpb.2;omega),bsS]
    dsimp only
    rw[ifP (by rw[decide_eq_true hc];rfl),List.set_drop,show 1+j=j+1 by omega];rfl
   | false=>rw[ifN (by simp),ifN (by simp)]
  ·rw[ifN hc,ifN (by unfold vsB;rw[decide_eq_false hc];simp)]]
 cases fndN (vsB g ph r K V) 0 r.Right.length<;>rfl
theorem k3F (hph:∀ p∈ph,PS p)(hr:Sz.szd r≤1048576)(H:Iv g ph r K V B)(hB:B≤3000000000000){k:Int}(hp:1≤k∧k≤(r.Right.length:Int))(hc:at0 V k<((phP g ph r k).length:Int)) :
  q6W k ⟨g,ph,r,R,K,V⟩=some ⟨g,ph,r,R,addN K k (phAt g ph r k (at0 V k)).Synthesized,V.set k.toNat (at0 V k+1)⟩:=by
 have hl:=q4E hr
 have hkn:=H.kn
 obtain⟨a1,a2,a3⟩:=H.at' (k:=k) (by omega) hp.2
 have hpl:=(j3u hph g r k).1
 have hlen:=(k3E hph g r a1 hc).2
 unfold q6W
 rw[q9W hl,bsS]
 dsimp only
 rw[q3E (by omega),a3,bsS,q3E a1,q8N a1 hc,bsS,z7O _ _ (by dsimp only;omega),bsS]
 dsimp only
 rw[q3E (by omega),a3,bsS,q3E (by constructor<;>omega)];rfl
noncomputable def nxS (g:Gm_) (ph:List (List Phase)) (r:Rule) (R K:List Oc) (V:List Int):Option (Step×List Oc×List Int):=
 match nxE r R K with
 | some o=>some (evS o,K++[o],V)
 | none=>match nxV g ph r K V with
  | some j=>some (vsS V j,vsK g ph r K V j,vsV V j)
  | none=>none
theorem k0i (hph:∀ p∈ph,PS p)(hr:Sz.szd r≤1048576)(H:Iv g ph r K V B)(hB:B<3000000000000):z0E ⟨g,ph,r,R,K,V⟩=some (match nxS g ph r R K V with|some (x,K',V')=>(x,true,⟨g,ph,r,R,K',V'⟩)|none=>(⟨0,0,0,(⟨#[]⟩:ByteArray)⟩,false,⟨g,ph,r,R,K,V⟩)):=by
 have hl:=q4E hr
 have hkn:=H.kn
 unfold z0E nxS nxE
 dsimp only
 rw[j3t (q:=fun o=>!decide (o∈K)&&q9F r K o) (h:=fun o=>((evS o,true,⟨g,ph,r,R,K++[o],V⟩):Step×Bool×visits)) fun k x hx=>by
  unfold z7B
  rw[j4D hr,bsS]
  dsimp only
  rw[decide_eq_true hx,Bool.true_and]
  cases (!decide (x∈K)&&q9F r K x) with
  | true=>rw[ifP rfl,q3E (by constructor<;>omega)];rfl
  | false=>rfl]
 cases R.find? (fun o=>!decide (o∈K)&&q9F r K o) with
 | some o=>rfl
 | none=>
  have hloop:∀ m j:Nat,j+m=r.Right.length→q4o (q8M ⟨g,ph,r,R,K,V⟩) ((j+1:Nat):Int)=some (match fndN (vsB g ph r K V) j m with|some j=>.inr (vsS V j,true,⟨g,ph,r,R,vsK g ph r K V j,vsV V j⟩)|none=>.inl ()):=by
   intro m
   induction m with
   | zero=>
    intro j hj
    exact q3F (by unfold q8M;dsimp only;rw[ifN (by omega)];rfl)
   | succ m ih=>
    intro j hj
    rw[fndN]
    obtain⟨a1,a2,a3⟩:=H.at' (k:=((j+1:Nat):Int)) (by omega) (by omega)
    have hin:decide (1≤((j+1:Nat):Int)∧((j+1:Nat):Int)≤(r.Right.length:Int))=true:=decide_eq_true (by omega)
    by_cases hv:vsB g ph r K V j=true
    ·rw[ifP hv]
     refine q3F ?_
     have hc:at0 V ((j+1:Nat):Int)<((phP g ph r ((j+1:Nat):Int)).length:Int):=by
      unfold vsB at hv;simp only[Bool.and_eq_true,decide_eq_true_eq] at hv;exact hv.1
     unfold q8M
     dsimp only
     rw[ifP (by omega),z8L hr H,hin,Bool.true_and,bsS,show (decide (at0 V ((j+1:Nat):Int)<((phP g ph r ((j+1:Nat):Int)).length:Int))&&z1P K ((j+1:Nat):Int) (phAt g ph r ((j+1:Nat):Int) (at0 V ((j+1:Nat):Int))).Inherited)=true from hv,ifP rfl,k3F hph hr H (by omega) (by omega) hc,bsS,q3E (by omega)]
     dsimp only
     rw[List.getElem?_set_self (by rw[H.len];omega),bsS]
     rfl
    ·rw[ifN hv]
     rw[q3L (s':=((j+1+1:Nat):Int)) (by
      unfold q8M
      dsimp only
      rw[ifP (by omega),z8L hr H,hin,Bool.true_and,bsS,show (decide (at0 V ((j+1:Nat):Int)<((phP g ph r ((j+1:Nat):Int)).length:Int))&&z1P K ((j+1:Nat):Int) (phAt g ph r ((j+1:Nat):Int) (at0 V ((j+1:Nat):Int))).Inherited)=false from Bool.eq_false_iff.2 hv,ifN (by simp),q3E (by constructor<;>omega)];rfl)]
     exact ih (j+1) (by omega)
  have h0:=hloop r.Right.length 0 (by omega)
  have e1:((0+1:Nat):Int)=1:=rfl
  rw[e1] at h0
  dsimp only
  rw[bsS]
  show (q4o (q8M ⟨g,ph,r,R,K,V⟩) 1).bind _=_
  rw[h0,bsS]
  unfold nxV
  cases fndN (vsB g ph r K V) 0 r.Right.length<;>rfl
end
def nK (R K:List Oc):Nat:=R.countP fun o=>!decide (o∈K)
theorem j8U {R K K' : List Oc}(h:∀ o∈K,o∈K'):nK R K'≤nK R K:=by
 unfold nK
 refine List.countP_mono_left fun o _ ho=>?_
 by_cases h1:o∈K
 ·simp[h o h1] at ho
 ·simp[h1]
theorem k3G {K:List Oc}{o:Oc}(hk:o∉K):∀ {R:List Oc},o∈R→nK R (K++[o])+1≤nK R K
 | x::R,ho=>by
  have hm:nK R (K++[o])≤nK R K:=j8U fun y hy=>List.mem_append_left _ hy
  unfold nK at hm ⊢
  rw[List.countP_cons,List.countP_cons]
  by_cases he:o=x
  ·subst he
   have ho' : o∈K++[o]:=by simp
   rw[ifN (by rw[decide_eq_true ho'];simp),ifP (by rw[decide_eq_false hk];rfl)]
   omega
  ·have ih:=k3G hk (R:=R) ((List.mem_cons.1 ho).resolve_left he)
   unfold nK at ih
   by_cases hx:x∈K
   ·have hx' : x∈K++[o]:=List.mem_append_left _ hx
    simp only[hx,hx',decide_true,Bool.not_true,Bool.false_eq_true,if_false]
    omega
   ·have hx' : x∉K++[o]:=fun h=>by
     rcases List.mem_append.1 h with h|h
     ·exact hx h
     ·exact he (List.mem_singleton.1 h).symm
    simp only[hx,hx',decide_false,Bool.not_false,if_true]
    omega
def sumN (f:Nat→Nat):Nat→Nat
 | 0=>0
 | n+1=>sumN f n+f n
theorem j8V {f:Nat→Nat}{C:Nat}:∀ {n:Nat},(∀ i,i<n→f i≤C)→sumN f n≤n*C
 | 0,_=>Nat.zero_le _
 | n+1,h=>by
  have h1:=j8V (n:=n) fun i hi=>h i (by omega)
  have h2:=h n (by omega)
  rw[sumN,Nat.succ_mul];omega
theorem k3H {f f' : Nat→Nat}:∀ {n:Nat},(∀ i,i<n→f' i=f i)→sumN f' n=sumN f n
 | 0,_=>rfl
 | n+1,h=>by rw[sumN,sumN,k3H (n:=n) fun i hi=>h i (by omega),h n (by omega)]
theorem k0j {f f' : Nat→Nat}{j c:Nat}:∀ {n:Nat},j<n→(∀ i,i<n→i≠j→f' i=f i)→f' j+c≤f j→sumN f' n+c≤sumN f n
 | n+1,hj,h,hc=>by
  rw[sumN,sumN]
  by_cases e:j=n
  ·subst e
   rw[k3H (n:=j) fun i hi=>h i (by omega) (by omega)];omega
  ·have h1:=k0j (n:=n) (by omega) (fun i hi hn=>h i (by omega) hn) hc
   rw[h n (by omega) (fun h=>e h.symm)];omega
def wP:List Phase→Nat
 | []=>0
 | p::l=>p.Synthesized.length+1+wP l
theorem k7l:∀ {l:List Phase},(∀ x∈l,PB x)→wP l≤17*l.length
 | [],_=>Nat.zero_le _
 | p::l,h=>by
  have h1:=k7l (l:=l) fun x hx=>h x (List.mem_cons_of_mem _ hx)
  have h2:=(h p List.mem_cons_self).2
  rw[wP,lnC];omega
theorem k7m {l:List Phase}{v:Nat}{p:Phase}(h:l[v]?=some p):wP (l.drop (v+1))+(p.Synthesized.length+1)≤wP (l.drop v):=by
 obtain⟨h1,h2⟩:=List.getElem?_eq_some_iff.1 h
 rw[List.drop_eq_getElem_cons h1,h2,wP];omega
def wI:List Phase→Nat
 | []=>0
 | p::l=>p.Inherited.length+1+wI l
theorem k7n:∀ {l:List Phase},(∀ x∈l,PB x)→wI l≤17*l.length
 | [],_=>Nat.zero_le _
 | p::l,h=>by
  have h1:=k7n (l:=l) fun x hx=>h x (List.mem_cons_of_mem _ hx)
  have h2:=(h p List.mem_cons_self).1
  rw[wI,lnC];omega
section
variable {g:Gm_}{ph:List (List Phase)}{r:Rule}{R K K' : List Oc}{V V' : List Int}{B:Nat}{x:Step}
noncomputable def muV (g:Gm_) (ph:List (List Phase)) (r:Rule) (V:List Int):Nat:=sumN (fun j=>wP ((phP g ph r ((j+1:Nat):Int)).drop (at0 V ((j+1:Nat):Int)).toNat)) r.Right.length
noncomputable def Phi (g:Gm_) (ph:List (List Phase)) (r:Rule) (R K:List Oc) (V:List Int):Nat:=K.length+2*nK R K+muV g ph r V
theorem k3I (pos:Int)(ns:List ByteArray):Phi g ph r R (addN K pos ns) V≤Phi g ph r R K V+ns.length:=by
 have h1:nK R (addN K pos ns)≤nK R K:=j8U fun o ho=>List.mem_append_left _ ho
 have h2:(addN K pos ns).length=K.length+ns.length:=by simp[addN]
 unfold Phi;omega
theorem j8W (hph:∀ p∈ph,PS p)(H:Iv g ph r K V B)(h:nxS g ph r R K V=some (x,K',V')):Iv g ph r K' V' K'.length∧Phi g ph r R K' V'+1≤Phi g ph r R K V:=by
 unfold nxS at h
 cases he:nxE r R K with
 | some o=>
  rw[he] at h
  cases h
  refine⟨⟨H.len,H.rng,Nat.le_refl _⟩,?_⟩
  have h1:=List.find?_some he
  have h2:=List.mem_of_find?_eq_some he
  have h3:o∉K:=by
   simp only[Bool.and_eq_true,Bool.not_eq_true',decide_eq_false_iff_not] at h1
   exact h1.1
  have:=k3G h3 h2
  have e:(K++[o]).length=K.length+1:=by simp
  unfold Phi
  omega
 | none=>
  rw[he] at h
  cases hv:nxV g ph r K V with
  | none=>rw[hv] at h;cases h
  | some j=>
   rw[hv] at h
   cases h
   obtain⟨_,h1,h2⟩:=j7y hv
   have hc:at0 V ((j+1:Nat):Int)<((phP g ph r ((j+1:Nat):Int)).length:Int):=by
    unfold vsB at h2;simp only[Bool.and_eq_true,decide_eq_true_eq] at h2;exact h2.1
   obtain⟨a1,a2,a3⟩:=H.at' (k:=((j+1:Nat):Int)) (by omega) (by omega)
   have hkl:((j+1:Nat):Int).toNat<V.length:=by rw[H.len];omega
   refine⟨H.set (k:=((j+1:Nat):Int)) (by omega) (by omega) (by omega) (by omega) (Nat.le_refl _),?_⟩
   have hx:=q8N (g:=g) (ph:=ph) (r:=r) a1 hc
   have hw:=k7m hx
   have hs:∀ i:Int,at0 (vsV V j) i=if ((j+1:Nat):Int).toNat=i.toNat then at0 V ((j+1:Nat):Int)+1 else at0 V i:=fun i=>k0h hkl i
   have hmu:muV g ph r (vsV V j)+((phAt g ph r ((j+1:Nat):Int) (at0 V ((j+1:Nat):Int))).Synthesized.length+1)≤muV g ph r V:=by
    unfold muV
    refine k0j (j:=j) (by omega) (fun i hi hn=>?_) ?_
    ·rw[hs,ifN (by omega)]
    ·rw[hs,ifP rfl,show (at0 V ((j+1:Nat):Int)+1).toNat=(at0 V ((j+1:Nat):Int)).toNat+1 by omega]
     exact hw
   have h3:nK R (vsK g ph r K V j)≤nK R K:=j8U fun o ho=>List.mem_append_left _ ho
   have h4:(vsK g ph r K V j).length=K.length+(phAt g ph r ((j+1:Nat):Int) (at0 V ((j+1:Nat):Int))).Synthesized.length:=by simp[vsK,addN]
   unfold Phi
   omega
inductive Blt (g:Gm_) (ph:List (List Phase)) (r:Rule) (R:List Oc):List Oc→List Int→List Step→List Oc→List Int→Prop
 | nil (K:List Oc) (V:List Int):Blt g ph r R K V [] K V
 | cons {K:List Oc} {V:List Int} {x:Step} {K1:List Oc} {V1:List Int} {xs:List Step} {K2:List Oc} {V2:List Int}:nxS g ph r R K V=some (x,K1,V1)→Blt g ph r R K1 V1 xs K2 V2→Blt g ph r R K V (x::xs) K2 V2
abbrev tupI (q:Step×Bool×visits)(st:List Step):Step×Bool×ByteArray×ByteArray×Bool×(List Oc)×(List Oc)×(List Int)×(List Step):=(q.1,q.2.1,q.2.2.r.Name,q.2.2.r.Left,q.2.2.r.Literal,q.2.2.due,q.2.2.known,q.2.2.next,st)
noncomputable def stp (g:Gm_) (ph:List (List Phase)) (r:Rule) (R K:List Oc) (V:List Int):Step×Bool×visits:=match nxS g ph r R K V with|some (x,K',V')=>(x,true,⟨g,ph,r,R,K',V'⟩)|none=>(⟨0,0,0,(⟨#[]⟩:ByteArray)⟩,false,⟨g,ph,r,R,K,V⟩)
theorem k3J (hph:∀ p∈ph,PS p)(hr:Sz.szd r≤1048576)(hR:q3G g r=some R)(K0:List Oc)(V0:List Int):∀ (n:Nat) {K:List Oc} {V:List Int} {st:List Step},Phi g ph r R K V≤n→Iv g ph r K V K.length→st.length+Phi g ph r R K V≤10000000 →
  ∃ K' V' st',(∃ xs,st'=st++xs∧Blt g ph r R K V xs K' V')∧Iv g ph r K' V' K'.length∧st'.length+Phi g ph r R K' V'≤st.length+Phi g ph r R K V ∧
   q4o (z2d g ph r) (V.drop 1,r.Name,r.Left,r.Literal,K,st)=some (V'.drop 1,r.Name,r.Left,r.Literal,K',st',false) ∧
   q4o (z5N ⟨g,ph,r,R,K0,V0⟩) (tupI (stp g ph r R K V) st)=some (r.Name,r.Left,r.Literal,R,K',V',st',0,0,0,(⟨#[]⟩:ByteArray)):=by
 intro n
 induction n with
 | zero=>
  intro K V st hn H hN
  cases hx:nxS g ph r R K V with
  | some q=>
   obtain⟨x,K1,V1⟩:=q
   have:=(j8W hph H hx).2
   omega
  | none=>
   have hk:K.length≤Phi g ph r R K V:=by unfold Phi;omega
   refine⟨K,V,st,⟨[],(List.append_nil _).symm,.nil _ _⟩,H,Nat.le_refl _,q3F ?_,q3F ?_⟩
   ·unfold z2d
    unfold nxS at hx
    cases he:nxE r R K with
    | some o=>rw[he] at hx;cases hx
    | none=>
     rw[he] at hx
     cases hv:nxV g ph r K V with
     | some j=>rw[hv] at hx;cases hx
     | none=>
      have e1:=j5T (ph:=ph) hr hR (K:=K) (by omega) (V.drop 1) st (by omega)
      have e2:=j3v hph hr H (by omega) st (by omega)
      rw[he] at e1
      rw[hv] at e2
      dsimp only
      rw[show (⟨g,(⟨r.Name,r.Left,r.Right,r.Literal,r.Equations,r.Contributions⟩:Rule),ph,K,V.drop 1,st⟩:l28Work)=⟨g,r,ph,K,V.drop 1,st⟩ from rfl,e1,bsS]
      dsimp only
      rw[ifN (by simp),show (⟨g,(⟨r.Name,r.Left,r.Right,r.Literal,r.Equations,r.Contributions⟩:Rule),ph,K,V.drop 1,st⟩:l28Work)=⟨g,r,ph,K,V.drop 1,st⟩ from rfl,e2,bsS]
      rfl
   ·unfold stp z5N
    rw[hx]
    rfl
 | succ n ih=>
  intro K V st hn H hN
  have hk:K.length≤Phi g ph r R K V:=by unfold Phi;omega
  cases hx:nxS g ph r R K V with
  | none=>
   refine⟨K,V,st,⟨[],(List.append_nil _).symm,.nil _ _⟩,H,Nat.le_refl _,q3F ?_,q3F ?_⟩
   ·unfold z2d
    unfold nxS at hx
    cases he:nxE r R K with
    | some o=>rw[he] at hx;cases hx
    | none=>
     rw[he] at hx
     cases hv:nxV g ph r K V with
     | some j=>rw[hv] at hx;cases hx
     | none=>
      have e1:=j5T (ph:=ph) hr hR (K:=K) (by omega) (V.drop 1) st (by omega)
      have e2:=j3v hph hr H (by omega) st (by omega)
      rw[he] at e1
      rw[hv] at e2
      dsimp only
      rw[show (⟨g,(⟨r.Name,r.Left,r.Right,r.Literal,r.Equations,r.Contributions⟩:Rule),ph,K,V.drop 1,st⟩:l28Work)=⟨g,r,ph,K,V.drop 1,st⟩ from rfl,e1,bsS]
      dsimp only
      rw[ifN (by simp),show (⟨g,(⟨r.Name,r.Left,r.Right,r.Literal,r.Equations,r.Contributions⟩:Rule),ph,K,V.drop 1,st⟩:l28Work)=⟨g,r,ph,K,V.drop 1,st⟩ from rfl,e2,bsS]
      rfl
   ·unfold stp z5N
    rw[hx]
    rfl
  | some q=>
   obtain⟨x,K1,V1⟩:=q
   obtain⟨H1,hd⟩:=j8W hph H hx
   have hk1:K1.length≤Phi g ph r R K1 V1:=by unfold Phi;omega
   have hst:(st++[x]).length=st.length+1:=by simp
   obtain⟨K',V',st',⟨ys,hys,hbl⟩,i1,i2,i3,i4⟩:=ih (K:=K1) (V:=V1) (st:=st++[x]) (by omega) H1 (by omega)
   refine⟨K',V',st',⟨x::ys,by rw[hys];simp,.cons hx hbl⟩,i1,by omega,?_,?_⟩
   ·rw[q3L (s':=(V1.drop 1,r.Name,r.Left,r.Literal,K1,st++[x])) ?_]
    ·exact i3
    ·unfold z2d
     have e1:=j5T (ph:=ph) hr hR (K:=K) (by omega) (V.drop 1) st (by omega)
     have e2:=j3v hph hr H (by omega) st (by omega)
     unfold nxS at hx
     dsimp only
     rw[show (⟨g,(⟨r.Name,r.Left,r.Right,r.Literal,r.Equations,r.Contributions⟩:Rule),ph,K,V.drop 1,st⟩:l28Work)=⟨g,r,ph,K,V.drop 1,st⟩ from rfl,e1,bsS]
     cases he:nxE r R K with
     | some o=>
      rw[he] at hx
      cases hx
      rfl
     | none=>
      rw[he] at hx
      dsimp only
      rw[ifN (by simp),show (⟨g,(⟨r.Name,r.Left,r.Right,r.Literal,r.Equations,r.Contributions⟩:Rule),ph,K,V.drop 1,st⟩:l28Work)=⟨g,r,ph,K,V.drop 1,st⟩ from rfl,e2,bsS]
      cases hv:nxV g ph r K V with
      | none=>rw[hv] at hx;cases hx
      | some j=>
       rw[hv] at hx
       cases hx
       rfl
   ·rw[q3L (s':=tupI (stp g ph r R K1 V1) (st++[x])) ?_]
    ·exact i4
    ·have e:=k0i (R:=R) hph hr H1 (by omega)
     unfold stp z5N
     rw[hx]
     dsimp only
     rw[ifP rfl,q3E (by constructor<;>omega),show (⟨g,ph,(⟨r.Name,r.Left,r.Right,r.Literal,r.Equations,r.Contributions⟩:Rule),R,K1,V1⟩:visits)=⟨g,ph,r,R,K1,V1⟩ from rfl,e]
     cases nxS g ph r R K1 V1<;>rfl
end
section
variable {g:Gm_}{ph:List (List Phase)}{r:Rule}{R K K' : List Oc}{V V' : List Int}{B:Nat}{x:Step}
def fin (i:Nat):Step:=⟨3,0,((i+1:Nat):Int),(⟨#[]⟩:ByteArray)⟩
inductive Pst (g:Gm_) (ph:List (List Phase)) (r:Rule) (R:List Oc):Nat→List Phase→List Oc→List Int→List Step→List Oc→List Int→Prop
 | nil (i:Nat) (K:List Oc) (V:List Int):Pst g ph r R i [] K V [] K V
 | cons {i:Nat} {p:Phase} {ps:List Phase} {K:List Oc} {V:List Int} {ys zs:List Step} {K1:List Oc} {V1:List Int} {K2:List Oc} {V2:List Int}:Blt g ph r R (addN K 0 p.Inherited) V ys K1 V1→Iv g ph r (addN K 0 p.Inherited) V (addN K 0 p.Inherited).length→z1P K1 0 p.Synthesized=true→Pst g ph r R (i+1) ps K1 V1 zs K2 V2→Pst g ph r R i (p::ps) K V (ys++fin i::zs) K2 V2
theorem k0k (hph:∀ p∈ph,PS p)(hr:Sz.szd r≤1048576)(hR:q3G g r=some R)(K0:List Oc)(V0:List Int):∀ (xs:List Phase) (i:Nat) {K:List Oc} {V:List Int} {st:List Step},i+xs.length≤1048576→Iv g ph r K V K.length→st.length+Phi g ph r R K V+wI xs≤10000000 →
  (∃ K' V' st',(∃ zs,st'=st++zs∧Pst g ph r R i xs K V zs K' V')∧Iv g ph r K' V' K'.length∧st'.length≤10000000∧findL (z2e g ph r) i xs (V.drop 1,r.Name,r.Left,r.Literal,K,st)=some (.inl (V'.drop 1,r.Name,r.Left,r.Literal,K',st')) ∧
   findL (z3S ⟨g,ph,r,R,K0,V0⟩) i xs (r.Name,r.Left,r.Literal,R,K,V,st)=some (.inl (r.Name,r.Left,r.Literal,R,K',V',st'))) ∨
  (findL (z2e g ph r) i xs (V.drop 1,r.Name,r.Left,r.Literal,K,st)=some (.inr ([],false))∧findL (z3S ⟨g,ph,r,R,K0,V0⟩) i xs (r.Name,r.Left,r.Literal,R,K,V,st)=some (.inr ((⟨(⟨#[]⟩:ByteArray),[]⟩:RPl_),false)))
 | [],i,K,V,st,hi,H,hN=>.inl ⟨K,V,st,⟨[],(List.append_nil _).symm,.nil _ _ _⟩,H,by omega,rfl,rfl⟩
 | x::xs,i,K,V,st,hi,H,hN=>by
  rw[wI] at hN
  rw[lnC] at hi
  have hk:K.length≤Phi g ph r R K V:=by unfold Phi;omega
  have hadd:=k3I (g:=g) (ph:=ph) (r:=r) (R:=R) (K:=K) (V:=V) 0 x.Inherited
  have H1:Iv g ph r (addN K 0 x.Inherited) V (addN K 0 x.Inherited).length:=⟨H.len,H.rng,Nat.le_refl _⟩
  obtain⟨K1,V1,st1,⟨ys,hys,hbl⟩,i1,i2,i3,i4⟩:=k3J hph hr hR K0 V0 _ (K:=addN K 0 x.Inherited) (V:=V) (st:=st) (Nat.le_refl _) H1 (by omega)
  have hk1:(addN K 0 x.Inherited).length≤Phi g ph r R (addN K 0 x.Inherited) V:=by unfold Phi;omega
  have es:z2e g ph r i x (V.drop 1,r.Name,r.Left,r.Literal,K,st)=some (if z1P K1 0 x.Synthesized=true then .inl (V1.drop 1,r.Name,r.Left,r.Literal,K1,st1++[(⟨3,0,((i+1:Nat):Int),(⟨#[]⟩:ByteArray)⟩:Step)]) else .inr ([],false)):=by
   unfold z2e
   dsimp only
   rw[z7N _ _ (by dsimp only;omega),bsS]
   dsimp only
   have i3' : q4o (z2d g ph r) (V.drop 1,r.Name,r.Left,r.Literal,K++x.Inherited.map (fun n=>(⟨0,n⟩:Oc)),st)=some (V1.drop 1,r.Name,r.Left,r.Literal,K1,st1,false):=i3
   rw[i3',bsS]
   dsimp only
   rw[z9K,bsS]
   dsimp only
   by_cases hb:z1P K1 0 x.Synthesized=true
   ·rw[ifP hb,ifP hb,q3E (by constructor<;>omega)]
   ·rw[ifN hb,ifN hb]
  have ei:z3S ⟨g,ph,r,R,K0,V0⟩ i x (r.Name,r.Left,r.Literal,R,K,V,st)=some (if z1P K1 0 x.Synthesized=true then .inl (r.Name,r.Left,r.Literal,R,K1,V1,st1++[(⟨3,0,((i+1:Nat):Int),(⟨#[]⟩:ByteArray)⟩:Step)]) else .inr ((⟨(⟨#[]⟩:ByteArray),[]⟩:RPl_),false)):=by
   unfold z3S
   dsimp only
   rw[z7O _ _ (by dsimp only;omega),bsS]
   dsimp only
   have e:z0E ⟨g,ph,r,R,K++x.Inherited.map (fun n=>(⟨0,n⟩:Oc)),V⟩=some (stp g ph r R (addN K 0 x.Inherited) V):=k0i (R:=R) hph hr H1 (by omega)
   rw[show (⟨g,ph,(⟨r.Name,r.Left,r.Right,r.Literal,r.Equations,r.Contributions⟩:Rule),R,K++x.Inherited.map (fun n=>(⟨0,n⟩:Oc)),V⟩:visits)=⟨g,ph,r,R,K++x.Inherited.map (fun n=>(⟨0,n⟩:Oc)),V⟩ from rfl,e,bsS]
   generalize stp g ph r R (addN K 0 x.Inherited) V=q at i4
   obtain⟨q1,q2,q3⟩:=q
   dsimp only at i4 ⊢
   rw[i4,bsS]
   dsimp only
   rw[j3q,bsS]
   dsimp only
   by_cases hb:z1P K1 0 x.Synthesized=true
   ·rw[ifP hb,ifP hb,q3E (by constructor<;>omega)]
   ·rw[ifN hb,ifN hb]
  rw[findL,findL,es,ei]
  by_cases hb:z1P K1 0 x.Synthesized=true
  ·rw[ifP hb,ifP hb,bsS,bsS]
   have hl:(st1++[(⟨3,0,((i+1:Nat):Int),(⟨#[]⟩:ByteArray)⟩:Step)]).length=st1.length+1:=by simp
   rcases k0k hph hr hR K0 V0 xs (i+1) (st:=st1++[(⟨3,0,((i+1:Nat):Int),(⟨#[]⟩:ByteArray)⟩:Step)]) (by omega) i1 (by omega) with ⟨K2,V2,st2,⟨zs,hzs,hp⟩,j1,j2,j3,j4⟩|h
   ·exact .inl ⟨K2,V2,st2,⟨ys++fin i::zs,by rw[hzs,hys];simp[fin],.cons hbl H1 hb hp⟩,j1,j2,j3,j4⟩
   ·exact .inr h
  ·rw[ifN hb,ifN hb]
   exact .inr ⟨rfl,rfl⟩
theorem k3K (hph:∀ p∈ph,PS p)(hr:Sz.szd r≤1048576)(hR:q3G g r=some R)(hR' : q9S g r=some R)(h3:r.Right.length≤3)(hRl:R.length≤4194304) :
  ∃ st b pl,st.length≤10000000∧z3O g ph r=some (st,b)∧z9v g ph r=some (pl,b)∧(b=true→pl=⟨r.Name,st⟩∧∃ K' V',Pst g ph r R 0 (phP g ph r 0) [] (List.replicate (r.Right.length+1) 0) st K' V'∧j0R g ph r R K' V'=true):=by
 have hl:=q4E hr
 have hp0:phS g ph r.Left=phP g ph r 0:=by unfold phP;rw[j3p]
 have hdrop:(List.replicate (r.Right.length+1) (0:Int)).drop 1=List.replicate r.Right.length 0:=by rw[List.drop_replicate];rfl
 have hps:=j3u hph g r 0
 have hI:Iv g ph r [] (List.replicate (r.Right.length+1) 0) ([]:List Oc).length:=by
  refine⟨by simp,fun k hk=>?_,Nat.le_refl _⟩
  rw[List.getD_eq_getElem?_getD,List.getElem?_replicate,ifP (by omega)]
  exact⟨Int.le_refl _,by show (0:Int)≤_;omega⟩
 have hmu:muV g ph r (List.replicate (r.Right.length+1) 0)≤r.Right.length*289:=by
  unfold muV
  refine j8V fun j hj=>?_
  have h1:at0 (List.replicate (r.Right.length+1) (0:Int)) ((j+1:Nat):Int)=0:=by
   unfold at0
   rw[tnC,List.getD_eq_getElem?_getD,List.getElem?_replicate,ifP (by omega)];rfl
  have h2:=j3u hph g r ((j+1:Nat):Int)
  rw[h1]
  have:=k7l h2.2
  have:=h2.1
  show wP (phP g ph r ((j+1:Nat):Int))≤289
  omega
 have hnk:nK R []≤R.length:=List.countP_le_length
 have hPhi:Phi g ph r R [] (List.replicate (r.Right.length+1) 0)≤9000000:=by
  unfold Phi
  simp only[List.length_nil]
  omega
 have hw:=k7n hps.2
 have hpl:=hps.1
 have hrun:=k0k hph hr hR [] (List.replicate (r.Right.length+1) 0) (phP g ph r 0) 0 (K:=[]) (V:=List.replicate (r.Right.length+1) 0) (st:=[]) (by omega) hI (by simp only[List.length_nil];omega)
 have eS:z3O g ph r=(findL (z2e g ph r) 0 (phP g ph r 0) ((List.replicate (r.Right.length+1) (0:Int)).drop 1,r.Name,r.Left,r.Literal,[],[])).bind (onr (fun r1=>some r1) fun (s3,s4,s5,s6,s1,s2)=>(q9a (⟨g,(⟨s4,s5,r.Right,s6,r.Equations,r.Contributions⟩:Rule),ph,s1,s3,s2⟩:l28Work)).bind fun y5=>some (s2,y5)):=by
  unfold z3O
  rw[q3E (by constructor<;>omega),(j3o g ph r.Left).1,bsS,hp0,hdrop]
 have eI:z9v g ph r=(findL (z3S ⟨g,ph,r,R,[],List.replicate (r.Right.length+1) 0⟩) 0 (phP g ph r 0) (r.Name,r.Left,r.Literal,R,[],List.replicate (r.Right.length+1) 0,[])).bind (onr (fun r1=>some r1) fun (s3,s4,s5,s6,s1,s7,s2)=>(q5C (⟨g,ph,(⟨s3,s4,r.Right,s5,r.Equations,r.Contributions⟩:Rule),s6,s1,s7⟩:visits)).bind fun y8=>some ((⟨r.Name,s2⟩:RPl_),y8)):=by
  unfold z9v z2i
  rw[hR',bsS,q3E (by constructor<;>omega),q3E (by constructor<;>omega),bsS,q9W hl,bsS]
 rcases hrun with ⟨K',V',st',⟨zs,hzs,hp⟩,i1,i2,e1,e2⟩|⟨e1,e2⟩
 ·refine⟨st',j0R g ph r R K' V',⟨r.Name,st'⟩,i2,?_,?_,fun hb=>⟨rfl,K',V',by rw[hzs];exact hp,hb⟩⟩
  ·rw[eS,e1,bsS]
   have:=j7x hr hR i1
   show ((q9a ⟨g,r,ph,K',V'.drop 1,[]⟩).bind fun y5=>some (st',y5))=_
   rw[this,bsS]
  ·rw[eI,e2,bsS]
   show ((q5C ⟨g,ph,r,R,K',V'⟩).bind fun y8=>some ((⟨r.Name,st'⟩:RPl_),y8))=_
   rw[j3s hr i1,bsS]
 ·refine⟨[],false,⟨(⟨#[]⟩:ByteArray),[]⟩,by simp,?_,?_,fun h=>nomatch h⟩
  ·rw[eS,e1];rfl
  ·rw[eI,e2];rfl
end
theorem z6z {g:Gm_}(h0:Sz.szd g≤1048576){ps:List (List Phase)}(e:q5M g=some (ps,true)):Shape g:=by
 obtain⟨q,b,e1,e2,hn,hi⟩:=z7K h0
 cases b with
 | false=>
  unfold q5M at e
  rw[e1,bsS] at e
  dsimp only at e
  rw[ifN (by simp)] at e
  cases e
 | true=>
  obtain⟨hg,hI,_⟩:=hi rfl
  exact z8c hg
def PL (p:RPl_):Prop:=p.Steps.length≤10000000
def GP (g:Gm_)(ps:List (List Phase))(r:Rule)(p:RPl_):Prop:=p.Rule=r.Name∧∃ K V,Pst g ps r (reqL g r) 0 (phP g ps r 0) [] (List.replicate (r.Right.length+1) 0) p.Steps K V∧j0R g ps r (reqL g r) K V=true
theorem j4F {g:Gm_}(h0:Sz.szd g≤1048576):∃ pl c,j0L g=some (pl,c)∧z1e g=some (pl,c)∧pl.length≤8∧(∀ p∈pl,PL p)∧(c=false→pl=[])∧(c=true→∃ ps,q5M g=some (ps,true)∧(∀ p∈ps,PS p)∧pl.length=g.Rules.length∧∀ (j:Nat) p,pl[j]?=some p→∃ r,g.Rules[j]?=some r∧GP g ps r p):=by
 obtain⟨ps,c,e1,e2,hn,hps⟩:=j4A h0
 unfold j0L z1e
 rw[e1,e2,bsS,bsS]
 dsimp only
 cases c with
 | false=>
  refine⟨[],false,rfl,?_,by simp,fun p hp=>(nomatch hp),fun _=>rfl,fun h=>nomatch h⟩
  rw[q3F (r:=(.inl [])) (by
   unfold q9b
   dsimp only
   split
   ·rfl
   ·rfl)]
  rfl
 | true=>
  have hS:=z6z h0 e1
  have hl:=hS.rules
  rw[ifP rfl]
  have key:∀ (xs:List Rule) (i:Nat) (s:List RPl_),g.Rules.drop i=xs→s.length=i→i≤g.Rules.length→(∀ p∈s,PL p)→(∀ (j:Nat) p,s[j]?=some p→∃ r,g.Rules[j]?=some r∧GP g ps r p)→(∃ s',findL (z1J g ps) i xs s=some (.inl s')∧q4o (q9b g ps true) (s,(i:Int))=some (.inl s')∧s'.length=g.Rules.length∧(∀ p∈s',PL p)∧∀ (j:Nat) p,s'[j]?=some p→∃ r,g.Rules[j]?=some r∧GP g ps r p)∨(findL (z1J g ps) i xs s=some (.inr ([],false))∧q4o (q9b g ps true) (s,(i:Int))=some (.inr ([],false))):=by
   intro xs
   induction xs with
   | nil=>
    intro i s hx hs hi hp hgp
    left
    have:g.Rules.length-i=0:=by rw[← List.length_drop,hx];rfl
    exact⟨s,rfl,q3F (by unfold q9b;dsimp only;exact ifN (by omega)),by omega,hp,hgp⟩
   | cons x xs ih=>
    intro i s hx hs hi hpp hgp
    have hlt:i<g.Rules.length:=by
     have:g.Rules.length-i=xs.length+1:=by rw[← List.length_drop,hx];rfl
     omega
    have hd:=List.drop_eq_getElem_cons hlt
    rw[hx] at hd
    injection hd with d1 d2
    have hgi:g.Rules[i]?=some x:=by rw[d1];exact List.getElem?_eq_getElem hlt
    have hxm:x∈g.Rules:=List.mem_of_getElem? hgi
    have hxs:Sz.szd x≤1048576:=Nat.le_trans (z0s hxm) h0
    have h3:=j3h hS hxm
    have hRl:(reqL g x).length≤4194304:=by
     have:=z9H (C:=1048576) (f:=reqK g x) (j5J (q7z h0) x) (List.range' 0 (x.Right.length+1))
     rw[List.length_range'] at this
     unfold reqL
     omega
    obtain⟨st,b,pl,r1,r2,r3,r4⟩:=k3K (ph:=ps) hps hxs (j0k (q7z h0) (q4E hxs)) (j2Z (q7z h0) (q4E hxs)) h3 hRl
    have hsl:s.length≤8:=by omega
    have e:z1J g ps i x s=if b=true then some (.inl (s++[(⟨x.Name,st⟩:RPl_)])) else some (.inr ([],false)):=by
     unfold z1J
     rw[r3,bsS]
     cases b with
     | false=>
      dsimp only
      rw[ifN (by simp),ifN (by simp)]
     | true=>
      dsimp only
      rw[(r4 rfl).1,ifP rfl,ifP rfl,q3E (by constructor<;>omega)]
    have e' : q9b g ps true (s,(i:Int))=if b=true then some (.inl (s++[(⟨x.Name,st⟩:RPl_)],((i+1:Nat):Int))) else some (.inr (.inr ([],false))):=by
     unfold q9b
     dsimp only
     rw[ifP (by omega),ifP rfl,q3E (by omega),tnC,hgi,bsS,r2,bsS]
     cases b with
     | false=>
      dsimp only
      rw[ifN (by simp),ifN (by simp)]
     | true=>
      dsimp only
      rw[ifP rfl,ifP rfl,q3E (by constructor<;>omega),q3E (by constructor<;>omega)]
      rfl
    rw[findL,e]
    by_cases hb:b=true
    ·rw[ifP hb] at e' ⊢
     rw[bsS,q3L e']
     refine ih (i+1) _ d2.symm (by simp[hs]) (by omega) (fun p hp=>?_) fun j p hj=>?_
     ·rcases List.mem_append.1 hp with hp|hp
      ·exact hpp p hp
      ·rw[List.mem_singleton] at hp;subst hp;exact r1
     ·rcases Nat.lt_or_ge j s.length with h|h
      ·rw[List.getElem?_append_left h] at hj;exact hgp j p hj
      ·have h':=(List.getElem?_eq_some_iff.1 hj).1
       rw[List.length_append,List.length_singleton] at h'
       rw[List.getElem?_append_right h,show j-s.length=0 by omega] at hj
       cases hj
       exact⟨x,by rw[show j=i by omega];exact hgi,rfl,(r4 hb).2⟩
    ·rw[ifN hb] at e' ⊢
     exact .inr ⟨rfl,q3F e'⟩
  rcases key g.Rules 0 [] rfl rfl (Nat.zero_le _) (fun p hp=>nomatch hp) (fun j p hj=>nomatch hj) with ⟨s',e,e',h1,h2,h3⟩|⟨e,e'⟩
  ·rw[show ((0:Nat):Int)=0 from rfl] at e'
   rw[e,e'];exact⟨s',true,rfl,rfl,by omega,h2,(fun h=>nomatch h),fun _=>⟨ps,rfl,hps,h1,h3⟩⟩
  ·rw[show ((0:Nat):Int)=0 from rfl] at e'
   rw[e,e'];exact⟨[],false,rfl,rfl,by simp,fun p hp=>(nomatch hp),fun _=>rfl,fun h=>nomatch h⟩
theorem k3L {a:List At_}{r:Rl_}:∀ (f:Nat) (out:List (List Nat×List Nat)) (d:List Bool) (l:List (List Nat×List Nat)),runP a r f out d=some l→(out≠[]∨0<f)→l≠[]
 | 0,out,d,l,h,hne=>by
  rw[runP] at h
  cases h
  exact hne.resolve_right (by omega)
 | f+1,out,d,l,h,hne=>by
  rw[runP] at h
  split at h
  ·split at h
   ·cases h
   ·exact k3L f _ _ l h (.inl (by simp))
  ·rename_i hn
   cases h
   exact fun e=>hn (.inl e)
theorem k8g {a:List At_}{r:Rl_}(h:(phO a r).2=true):(phO a r).1≠[]:=by
 unfold phO at h ⊢
 cases hp:phR a r with
 | none=>rw[hp] at h;cases h
 | some l=>
  have hq:=hp
  unfold phR at hq
  split at hq
  ·have:=k3L _ _ _ _ hq (.inr (by omega))
   simpa using this
  ·cases hq
theorem k1t {g:Gm_}(h0:Sz.szd g≤1048576){ps:List (List Phase)}(e:q5M g=some (ps,true)):∀ (j:Nat) (x:Symbol),g.Symbols[j]?=some x→∃ y,ps[j]?=some (phO (q5N g x.Name) y).1∧(phO (q5N g x.Name) y).2=true:=by
 obtain⟨q,b,e1,e2,hn,hi⟩:=z7K h0
 unfold q5M at e
 rw[e1,bsS] at e
 dsimp only at e
 cases b with
 | false=>
  rw[ifN (by simp)] at e
  cases e
 | true=>
  obtain⟨hg,hI,_⟩:=hi rfl
  have hS:=z8c hg
  have hl:=hS.syms
  rw[ifP rfl] at e
  have key:∀ (xs:List Symbol) (i:Nat) (s s' : List (List Phase)),g.Symbols.drop i=xs→s.length=i→findL (q5g g q) i xs s=some (.inl s')→(∀ (j:Nat) (x:Symbol),j<i→g.Symbols[j]?=some x→∃ y,s[j]?=some (phO (q5N g x.Name) y).1∧(phO (q5N g x.Name) y).2=true)→∀ (j:Nat) (x:Symbol),g.Symbols[j]?=some x→∃ y,s'[j]?=some (phO (q5N g x.Name) y).1∧(phO (q5N g x.Name) y).2=true:=by
   intro xs
   induction xs with
   | nil=>
    intro i s s' hx hs hf hp j x hj
    have:g.Symbols.length-i=0:=by rw[← List.length_drop,hx];rfl
    cases hf
    exact hp j x (by have:=(List.getElem?_eq_some_iff.1 hj).1;omega) hj
   | cons x xs ih=>
    intro i s s' hx hs hf hp
    have hlt:i<g.Symbols.length:=by
     have:g.Symbols.length-i=xs.length+1:=by rw[← List.length_drop,hx];rfl
     omega
    have hd:=List.drop_eq_getElem_cons hlt
    rw[hx] at hd
    injection hd with d1 d2
    have hgi:g.Symbols[i]?=some x:=by rw[d1];exact List.getElem?_eq_getElem hlt
    have hIl:q.length=g.Symbols.length:=hI.1
    obtain⟨y,hq⟩:∃ y,q[i]?=some y:=⟨_,List.getElem?_eq_getElem (by omega)⟩
    obtain⟨v1,v2⟩:=hI.2 i x _ hgi hq
    have h4:=hS.plain x.Name
    have hv:=v1.len
    have hph:=(j3n (a:=q5N g x.Name) (r:=y) (by omega) (by omega)).1
    have hsl:s.length≤4:=by omega
    have e' : q5g g q i x s=if (phO (q5N g x.Name) y).2=true then some (.inl (s++[(phO (q5N g x.Name) y).1])) else some (.inr ([],false)):=by
     unfold q5g
     rw[z7J (q7z h0),bsS,hq,bsS,hph,bsS]
     generalize phO (q5N g x.Name) y=z
     obtain⟨ps,c⟩:=z
     cases c with
     | false=>exact (ifN Bool.false_ne_true).trans (ifN Bool.false_ne_true).symm
     | true=>exact (ifP rfl).trans ((q3E (by constructor<;>omega)).trans (ifP rfl).symm)
    rw[findL,e'] at hf
    by_cases hb:(phO (q5N g x.Name) y).2=true
    ·rw[ifP hb,bsS] at hf
     refine ih (i+1) _ s' d2.symm (by simp[hs]) hf fun j z hj hz=>?_
     by_cases hji:j=i
     ·subst hji
      rw[hgi] at hz
      cases hz
      exact⟨y,by rw[List.getElem?_append_right (by omega),hs,Nat.sub_self];rfl,hb⟩
     ·obtain⟨y',h1,h2⟩:=hp j z (by omega) hz
      exact⟨y',by rw[List.getElem?_append_left (by omega)];exact h1,h2⟩
    ·rw[ifN hb,bsS] at hf
     cases hf
  cases hf:findL (q5g g q) 0 g.Symbols [] with
  | none=>rw[hf] at e;cases e
  | some z=>
   rw[hf,bsS] at e
   cases z with
   | inr c=>obtain⟨c1,c2⟩:=c;cases e;exact absurd hf (by
     intro hf
     have:∀ (xs:List Symbol) (i:Nat) (s:List (List Phase)),findL (q5g g q) i xs s≠some (.inr (ps,true)):=by
      intro xs
      induction xs with
      | nil=>intro i s h;cases h
      | cons x xs ih=>
       intro i s h
       rw[findL] at h
       cases hk:q5g g q i x s with
       | none=>rw[hk] at h;cases h
       | some w=>
        rw[hk,bsS] at h
        cases w with
        | inl s1=>exact ih _ _ h
        | inr w=>
         cases h
         unfold q5g at hk
         rw[z7J (q7z h0),bsS] at hk
         cases hq:q[i]? with
         | none=>rw[hq] at hk;cases hk
         | some y=>
          rw[hq,bsS] at hk
          cases hz:z6s (q5N g x.Name) y with
          | none=>rw[hz] at hk;cases hk
          | some z=>
           obtain⟨z1,z2⟩:=z
           rw[hz,bsS] at hk
           dsimp only at hk
           split at hk
           ·unfold grd at hk
            split at hk<;>cases hk
           ·cases hk
     exact this _ _ _ hf)
   | inl s'=>
    cases e
    exact key g.Symbols 0 [] ps rfl rfl hf fun j x hj=>absurd hj (by omega)
theorem k7o {r:Rule}(hl:r.Right.length≤1048576)(k:Int):symS r k=q5Y r k:=by
 have h1:=k3C hl k
 rw[z3v hl k] at h1
 exact (Option.some.inj h1).symm
theorem k5p {g:Gm_}(h0:Sz.szd g≤1048576){ps:List (List Phase)}(e:q5M g=some (ps,true)){n:ByteArray}(hn:(q6Z g n).2=true):∃ y,phS g ps n=(phO (q5N g n) y).1∧(phO (q5N g n) y).2=true:=by
 have hS:=z6z h0 e
 unfold q6Z at hn
 cases hf:g.Symbols.find? (fun y=>decide (y.Name=n)) with
 | none=>rw[hf] at hn;cases hn
 | some x=>
  have h1:x.Name=n:=by have:=List.find?_some hf;simpa using this
  obtain⟨k,hk⟩:=List.getElem?_of_mem (List.mem_of_find?_eq_some hf)
  obtain⟨y,h2,h3⟩:=k1t h0 e k x hk
  have h4:=hS.at_ hk
  rw[h1] at h2 h3 h4
  refine⟨y,?_,h3⟩
  have hkl:=(List.getElem?_eq_some_iff.1 h2).1
  have ha:atI g n=(k:Int):=by unfold atI;rw[h4]
  unfold phS q6h
  rw[k2X,bsS,ha,z3k,bsS,ifP (by simp;omega),q3E (by omega),tnC,h2]
  rfl
theorem k5q {g:Gm_}(h0:Sz.szd g≤1048576){ps:List (List Phase)}(e:q5M g=some (ps,true)){r:Rule}(hr:r∈g.Rules){k:Nat}(hk:k≤r.Right.length):∃ y,phP g ps r (k:Int)=(phO (q5N g (q5Y r (k:Int))) y).1∧(phO (q5N g (q5Y r (k:Int))) y).2=true:=by
 have hS:=z6z h0 e
 have hl:=q4E (Nat.le_trans (z0s hr) h0)
 unfold phP
 rw[k7o hl]
 exact k5p h0 e (hS.known hr hk)
theorem k8h {g:Gm_}(h0:Sz.szd g≤1048576){ps:List (List Phase)}(e:q5M g=some (ps,true)){r:Rule}(hr:r∈g.Rules){k:Nat}(hk:k≤r.Right.length):(phP g ps r (k:Int)).length≠0:=by
 obtain⟨y,h1,h2⟩:=k5q h0 e hr hk
 rw[h1]
 exact fun h=>k8g h2 (List.eq_nil_of_length_eq_zero h)
section
variable {g:Gm_}{ph:List (List Phase)}{r:Rule}{R K K' K1 K2:List Oc}{V V' V1 V2:List Int}{B:Nat}{x:Step}
structure NoR (g:Gm_) (ph:List (List Phase)) (r:Rule) (R:List Oc):Prop where
 nd:R.Nodup
 inh:∀ p∈phP g ph r 0,∀ n∈p.Inherited,(⟨0,n⟩:Oc)∉R
 syn:∀ j,j<r.Right.length→∀ p∈phP g ph r ((j+1:Nat):Int),∀ n∈p.Synthesized,(⟨((j+1:Nat):Int),n⟩:Oc)∉R
end
section
variable {g:Gm_}{ph:List (List Phase)}{r:Rule}{R K K' K1 K2:List Oc}{V V' V1 V2:List Int}{x:Step}
theorem k7p (hph:∀ p∈ph,PS p){ys:List Step}(h:Blt g ph r R K V ys K1 V1):∀ {B:Nat},Iv g ph r K V B→Iv g ph r K1 V1 (B+K1.length)∧ys.length+Phi g ph r R K1 V1≤Phi g ph r R K V:=by
 induction h with
 | nil K V=>intro B H;exact⟨⟨H.len,H.rng,by omega⟩,by simp⟩
 | cons hx hb ih=>
  intro B H
  obtain⟨H1,hd⟩:=j8W hph H hx
  obtain⟨i1,i2⟩:=ih H1
  exact⟨⟨i1.len,i1.rng,by omega⟩,by rw[lnC];omega⟩
theorem k7q (hph:∀ p∈ph,PS p){i:Nat}{ps:List Phase}{zs:List Step}(h:Pst g ph r R i ps K V zs K2 V2):∀ {B:Nat},Iv g ph r K V B→zs.length+Phi g ph r R K2 V2≤Phi g ph r R K V+wI ps:=by
 induction h with
 | nil i K V=>intro B H;simp
 | @cons i p ps K V ys zs K1 V1 K2 V2 hbl HI hk hp ih=>
  intro B H
  obtain⟨i1,i2⟩:=k7p hph hbl HI
  have i3:=ih i1
  have i4:=k3I (g:=g) (ph:=ph) (r:=r) (R:=R) (K:=K) (V:=V) 0 p.Inherited
  rw[wI,List.length_append,lnC]
  omega
theorem k5r (hph:∀ p∈ph,PS p)(h3:r.Right.length≤3){st:List Step}(h:Pst g ph r R 0 (phP g ph r 0) [] (List.replicate (r.Right.length+1) 0) st K' V'):st.length≤2*R.length+1200:=by
 have hps:=j3u hph g r 0
 have hI:Iv g ph r [] (List.replicate (r.Right.length+1) 0) ([]:List Oc).length:=by
  refine⟨by simp,fun k hk=>?_,Nat.le_refl _⟩
  rw[List.getD_eq_getElem?_getD,List.getElem?_replicate,ifP (by omega)]
  exact⟨Int.le_refl _,by show (0:Int)≤_;omega⟩
 have hmu:muV g ph r (List.replicate (r.Right.length+1) 0)≤r.Right.length*289:=by
  unfold muV
  refine j8V fun j hj=>?_
  have h1:at0 (List.replicate (r.Right.length+1) (0:Int)) ((j+1:Nat):Int)=0:=by
   unfold at0
   rw[tnC,List.getD_eq_getElem?_getD,List.getElem?_replicate,ifP (by omega)];rfl
  have h2:=j3u hph g r ((j+1:Nat):Int)
  rw[h1]
  have:=k7l h2.2
  have:=h2.1
  show wP (phP g ph r ((j+1:Nat):Int))≤289
  omega
 have hnk:nK R []≤R.length:=List.countP_le_length
 have hPhi:Phi g ph r R [] (List.replicate (r.Right.length+1) 0)≤2*R.length+r.Right.length*289:=by
  unfold Phi
  simp only[List.length_nil]
  omega
 have hw:=k7n hps.2
 have hl:=hps.1
 have:=k7q hph h hI
 omega
theorem k5s {g:Gm_}(h:Shape g){r:Rule}(hr:r∈g.Rules):(reqL g r).length≤16:=by
 have h1:∀ k,(reqK g r k).length≤4:=fun k=>by
  unfold reqK
  rw[lnM]
  refine Nat.le_trans (List.length_filter_le _ _) ?_
  unfold q6Z
  cases hf:g.Symbols.find? fun y=>decide (y.Name=q5Y r (k:Int)) with
  | none=>simp[zS]
  | some y=>exact h.attrs (List.mem_of_find?_eq_some hf)
 have h2:=z9H h1 (List.range' 0 (r.Right.length+1))
 have h3:=j3h h hr
 unfold reqL
 rw[List.length_range'] at h2
 omega
end
section
variable {g:Gm_}{ph:List (List Phase)}{r:Rule}{R:List Oc}
theorem k0l:∀ (ys:List Step) {x:Step} {K:List Oc} {V:List Int} {q:List Oc×List Int},runS g ph r R (ys++[x]) K V=some q→∃ K1 V1,runS g ph r R ys K V=some (K1,V1)∧at0 V1 0<((phP g ph r 0).length:Int)
 | [],x,K,V,q,h=>by
  rw[List.nil_append,runS] at h
  split at h
  ·rename_i hv;exact⟨K,V,rfl,hv⟩
  ·cases h
 | y::ys,x,K,V,q,h=>by
  rw[List.cons_append,runS] at h
  split at h
  ·rename_i hv
   cases hs:j0q g ph r R K V y with
   | none=>rw[hs] at h;cases h
   | some w=>
    obtain⟨K2,V2⟩:=w
    rw[hs] at h
    obtain⟨K1,V1,e,h2⟩:=k0l ys h
    exact⟨K1,V1,by rw[runS,ifP hv,hs];exact e,h2⟩
  ·cases h
theorem k1u {st:List Step}(h:j1l g ph r R st=true):1≤st.length∧j1l g ph r R (st.take (st.length-1))=false:=by
 unfold j1l at h ⊢
 by_cases h0:(phP g ph r 0).length=0
 ·rw[ifP h0] at h;cases h
 rw[ifN h0] at h ⊢
 rcases List.eq_nil_or_concat st with e|⟨ys,x,e⟩
 ·subst e
  rw[runS] at h
  dsimp only at h
  have h00:at0 (List.replicate (r.Right.length+1) 0) 0=0:=by unfold at0;rw[List.getD_eq_getElem?_getD,List.getElem?_replicate,ifP (by simp)];rfl
  rw[h00,decide_eq_false (by omega)] at h
  cases h
 ·rw[List.concat_eq_append] at e
  subst e
  have e1:(ys++[x]).take ((ys++[x]).length-1)=ys:=by simp
  rw[e1]
  refine⟨by simp,?_⟩
  cases hr:runS g ph r R (ys++[x]) (addN [] 0 (phAt g ph r 0 0).Inherited) (List.replicate (r.Right.length+1) 0) with
  | none=>rw[hr] at h;cases h
  | some q=>
   obtain⟨K1,V1,e2,e3⟩:=k0l ys hr
   rw[e2]
   dsimp only
   rw[decide_eq_false (by omega)];rfl
theorem k8i {i:Nat}{ps:List Phase}{K K' : List Oc}{V V' : List Int}{zs:List Step}(h:Pst g ph r R i ps K V zs K' V')(hp:ps≠[]):1≤zs.length:=by
 cases h with
 | nil=>exact absurd rfl hp
 | cons=>rw[List.length_append,lnC];omega
end
theorem GB.gc2 {g:Gm_}(h:GB g):GC2 g:=⟨h.1,h.2.1,h.2.2.1,fun r hr=>by obtain⟨a,c,d⟩:=h.2.2.2 r hr;exact⟨a,by omega,d⟩⟩
structure A29 (g:Gm_) (ps:List (List Phase)) (pl:List RPl_):Prop where
 gc:GC2 g
 ps:∀ p∈ps,PS p
 ln:pl.length≤8
 st:∀ p∈pl,p.Steps.length≤2001
theorem A29.set {g:Gm_}{ps:List (List Phase)}{pl:List RPl_}(h:A29 g ps pl){k:Nat}{x:RPl_}(hx:x.Steps.length≤2001):A29 g ps (pl.set k x):=
 ⟨h.gc,h.ps,by rw[List.length_set];exact h.ln,fun p hp=>by
  rcases List.mem_or_eq_of_mem_set hp with h1|h1
  ·exact h.st p h1
  ·rw[h1];exact hx⟩
theorem k5S {b:List UInt8}(hb:b.length≤1048576){i0 h0:Int}:∀ (n:Nat) (s i h:Int) (ss:List Symbol) (rs:List Rule),s+n=4→0≤s→0≤i→GC2 ⟨ss,rs⟩→∃ i' h' ss' rs',q4o (z4o ⟨b,i0,h0⟩) (s,i,h,ss,rs)=some (i',h',ss',rs')∧0≤i'∧GC2 ⟨ss',rs'⟩
 | 0,s,i,h,ss,rs,hs,hs0,hi,hg=>⟨i,h,ss,rs,q3F (by unfold z4o;dsimp only;rw[ifN (by omega)]),hi,hg⟩
 | n+1,s,i,h,ss,rs,hs,hs0,hi,hg=>by
  obtain⟨pl,c,e1,e2,_⟩:=j4F (szG hg)
  cases c with
  | true=>exact⟨i,h,ss,rs,q3F (by unfold z4o;dsimp only;rw[ifP (by omega),e2,bsS];exact ifP rfl),hi,hg⟩
  | false=>
   obtain⟨⟨g',z⟩,e3,e4,e5,e6⟩:=j7r (i:=i) (h:=h) hb true hi
   obtain⟨ss1,rs1⟩:=g'
   obtain⟨zb,zi,zh⟩:=z
   dsimp only at e4 e5 e6
   obtain⟨i',h',ss',rs',f1,f2,f3⟩:=k5S hb n (s+1) zi zh ss1 rs1 (by omega) (by omega) e5 (GB.gc2 e4)
   refine⟨i',h',ss',rs',?_,f2,f3⟩
   rw[q3L (s':=(s+1,zi,zh,ss1,rs1)) ?_]
   ·exact f1
   ·unfold z4o
    dsimp only
    rw[ifP (by omega),e2,bsS]
    dsimp only
    rw[ifN (by simp),e3,bsS,q3E (by constructor<;>omega)]
theorem k5T {b:List UInt8}(hb:b.length≤1048576):∃ g ps pl,z3P b=some (g,ps,pl)∧A29 g ps pl:=by
 obtain⟨z,hz,hz1,hz2⟩:=k5J hb
 obtain⟨zb,zi,zh⟩:=z
 dsimp only at hz1 hz2
 subst hz2
 obtain⟨⟨g',y⟩,e3,e4,e5,e6⟩:=j7r (i:=zi) (h:=zh) hb true hz1
 obtain⟨ss1,rs1⟩:=g'
 obtain⟨yb,yi,yh⟩:=y
 dsimp only at e4 e5 e6
 obtain⟨i',h',ss,rs,f1,f2,f3⟩:=k5S hb (i0:=zi) (h0:=zh) 4 0 yi yh ss1 rs1 (by omega) (by omega) e5 (GB.gc2 e4)
 have hG:=szG f3
 obtain⟨ps,cp,p1,p2,p3,p4⟩:=j4A hG
 obtain⟨pl,c,e1,e2,hl,hi,hf,ht⟩:=j4F hG
 have base:pl.length≠0→c=true:=fun hn=>by
  cases c with
  | true=>rfl
  | false=>exact absurd (by rw[hf rfl];rfl) hn
 have hst:∀ p∈pl,1≤p.Steps.length∧p.Steps.length≤2000:=fun p hp=>by
  obtain⟨ps',q1,q2,q3,q4⟩:=ht (base fun h=>by rw[List.eq_nil_of_length_eq_zero h] at hp;exact nomatch hp)
  obtain⟨j,hj⟩:=List.getElem?_of_mem hp
  obtain⟨r,hr,hgp⟩:=q4 j p hj
  obtain⟨_,K,V,hp',hw⟩:=hgp
  have hS:=z6z hG q1
  have hrm:=List.mem_of_getElem? hr
  have h1:=k5r q2 (j3h hS hrm) hp'
  have h2:=k5s hS hrm
  have h3:=k8h hG q1 hrm (k:=0) (by omega)
  exact⟨k8i hp' fun e=>h3 (by show (phP _ ps' r 0).length=0;rw[e];rfl),by omega⟩
 have hA:A29 ⟨ss,rs⟩ ps pl:=⟨f3,p4,hl,fun p hp=>by have:=hst p hp;omega⟩
 unfold z3P
 rw[hz,bsS,e3,bsS]
 dsimp only
 rw[f1,bsS]
 dsimp only
 rw[p2,bsS]
 dsimp only
 rw[e2,bsS]
 dsimp only
 by_cases h0:pl.length=0
 ·exact⟨_,_,_,ifP (by omega),hA⟩
 rw[ifN (by omega)]
 obtain⟨⟨y10,z3⟩,b1,⟨b2,b3,_⟩,b4,b5⟩:=q6T hb (pl.length:Int) (cb (h:=h') f2)
 obtain⟨z3b,z3i,z3h⟩:=z3
 dsimp only at b2 b3 b4 b5
 have b3:=b3 (by omega)
 rw[b1,bsS]
 dsimp only
 obtain⟨x1,hx1⟩:∃ x1,pl[y10.toNat]?=some x1:=⟨_,List.getElem?_eq_getElem (by omega)⟩
 rw[q3E b2,hx1,bsS]
 obtain⟨s1,s2⟩:=hst x1 (List.mem_of_getElem? hx1)
 obtain⟨⟨y11,z4⟩,c1,_,c4,c5⟩:=q6T hb 6 (cb (h:=z3h) b4)
 obtain⟨z4b,z4i,z4h⟩:=z4
 dsimp only at c4 c5
 rw[c1,bsS]
 dsimp only
 by_cases k0:y11=0
 ·rw[ifP k0]
  by_cases k1:1<(x1.Steps.length:Int)
  ·rw[ifP k1]
   obtain⟨⟨y12,z5⟩,d1,⟨d2,d3,_⟩,d4,d5⟩:=q6T hb ((x1.Steps.length:Int)-1) (cb (h:=z4h) c4)
   dsimp only at d2 d3
   have d3:=d3 (by omega)
   obtain⟨x2,hx2⟩:∃ x2,x1.Steps[y12.toNat]?=some x2:=⟨_,List.getElem?_eq_getElem (by omega)⟩
   obtain⟨x3,hx3⟩:∃ x3,x1.Steps[(y12+1).toNat]?=some x3:=⟨_,List.getElem?_eq_getElem (by omega)⟩
   obtain⟨x4,hx4⟩:∃ x4,(List.set x1.Steps y12.toNat x3)[(y12+1).toNat]?=some x4:=⟨_,List.getElem?_eq_getElem (by rw[List.length_set];omega)⟩
   have hI:I64 (y12+1):=by constructor<;>omega
   rw[d1,bsS]
   dsimp only
   rw[q3E d2,hx2,bsS,q3E hI,q3E (by omega),hx3,bsS,q3E hI,q3E (by omega),hx4,bsS]
   exact⟨_,_,_,rfl,hA.set (by simp only[List.length_set];omega)⟩
  ·rw[ifN k1];exact⟨_,_,_,rfl,hA⟩
 ·rw[ifN k0]
  by_cases k1:y11=1
  ·rw[ifP k1]
   obtain⟨⟨y12,z5⟩,d1,⟨d2,d3,_⟩,d4,d5⟩:=q6T hb (x1.Steps.length:Int) (cb (h:=z4h) c4)
   dsimp only at d2 d3
   have d3:=d3 (by omega)
   have l1:((x1.Steps.drop 0).take y12.toNat).length≤2000:=by rw[List.length_take];simp;omega
   have l2:(x1.Steps.drop ((y12+1).toNat)).length+y12.toNat+1≤2000:=by rw[List.length_drop];omega
   rw[d1,bsS]
   dsimp only
   rw[q3E d2,q3E (by omega),q3E (by simp only[List.length_nil];constructor<;>omega),q3E (by constructor<;>omega),q3E (by omega),q3E (by omega),q3E (by constructor<;>omega)]
   refine⟨_,_,_,rfl,hA.set ?_⟩
   dsimp only
   rw[List.length_append,List.length_take]
   omega
  ·rw[ifN k1]
   by_cases k2:y11=2
   ·rw[ifP k2]
    obtain⟨⟨y12,z5⟩,d1,⟨d2,d3,_⟩,d4,d5⟩:=q6T hb (x1.Steps.length:Int) (cb (h:=z4h) c4)
    dsimp only at d2 d3
    have d3:=d3 (by omega)
    have l1:((x1.Steps.drop 0).take ((y12+1).toNat)).length≤2000:=by rw[List.length_take];simp;omega
    have l2:(x1.Steps.drop y12.toNat).length+y12.toNat≤2000:=by rw[List.length_drop];omega
    rw[d1,bsS]
    dsimp only
    rw[q3E (by constructor<;>omega),q3E (by omega),q3E (by omega),q3E (by simp only[List.length_nil];constructor<;>omega),q3E d2,q3E (by omega),q3E (by constructor<;>omega)]
    refine⟨_,_,_,rfl,hA.set ?_⟩
    dsimp only
    rw[List.length_append,List.length_take]
    omega
   ·rw[ifN k2];exact⟨_,_,_,rfl,hA⟩
theorem A29.len {g:Gm_}{ps:List (List Phase)}{pl:List RPl_}(h:A29 g ps pl):LenP ps:=fun q hq=>by
 have h1:=h.ps q hq
 refine⟨Nat.le_trans h1.1 (by omega),fun y hy=>?_⟩
 have h2:=h1.2 y hy
 exact⟨Nat.le_trans h2.1 (by omega),Nat.le_trans h2.2 (by omega)⟩
def okPl (g:Gm_)(ps:List (List Phase))(pl:List RPl_)(k:Nat):Prop:=∀ r p,g.Rules[k]?=some r→pl[k]?=some p→p.Rule=r.Name∧j1l g ps r (reqL g r) p.Steps=true
theorem k7r (ps:List (List Phase)):q4j ps=some (ps.any fun q=>decide ((q.length:Int)=0)):=by
 unfold q4j q5f
 obtain⟨z,h1,h2⟩:=z5W (q:=fun q:List Phase=>decide ((q.length:Int)=0)) (xs:=ps) (i:=0) (f:=q5Q) fun k x _=>by
  unfold q5Q z2O
  rw[bsS]
  split<;>rfl
 rw[h1,bsS,h2]
theorem k5t (ps:List (List Phase)):findL z6n 0 ps ()=some (if (ps.any fun q=>decide ((q.length:Int)=0))=true then (.inr false:Unit ⊕ Bool) else .inl ()):=by
 rw[z7M (c:=false) (q:=fun q:List Phase=>!decide ((q.length:Int)=0)) fun k x _=>by
  unfold z6n
  by_cases h:(x.length:Int)=0
  ·rw[ifP h,decide_eq_true h];rfl
  ·rw[ifN h,decide_eq_false h];rfl]
 have e:=j5S (fun q:List Phase=>!decide ((q.length:Int)=0)) ps
 simp only[Bool.not_not] at e
 rw[← e]
 cases ps.any fun q=>decide ((q.length:Int)=0)<;>rfl
theorem k5u {g:Gm_}{ps:List (List Phase)}{pl:List RPl_}(h:A29 g ps pl):∃ b,z3c g ps pl=some b∧z3d g ps pl=some b∧(b=true→pl.length=g.Rules.length∧∀ k,okPl g ps pl k):=by
 have hG:=szG h.gc
 have hrule:∀ r∈g.Rules,∀ p∈pl,q6D g ps r p.Steps=some (j1l g ps r (reqL g r) p.Steps)∧q6c g ps r p.Steps=some (j1l g ps r (reqL g r) p.Steps):=fun r hr p hp=>j8T hG h.len (Nat.le_trans (z0s hr) hG) (by have:=h.st p hp;omega)
 unfold z3c z3d
 rw[k0b hG,k0c hG,bsS,bsS]
 cases hs:j8O g with
 | false=>exact⟨false,rfl,rfl,fun h=>nomatch h⟩
 | true=>
  rw[ifP rfl,bsS]
  by_cases h1:(ps.length:Int)=(g.Symbols.length:Int)
  ·simp only[decide_eq_true h1,Bool.not_true,Bool.false_eq_true,if_false,bsS]
   by_cases h2:(pl.length:Int)=(g.Rules.length:Int)
   ·simp only[decide_eq_true h2,Bool.not_true,Bool.false_eq_true,if_false,bsS,k7r,k5t]
    cases he:ps.any fun q=>decide ((q.length:Int)=0) with
    | true=>exact⟨false,rfl,rfl,fun h=>nomatch h⟩
    | false=>
     simp only[Bool.false_eq_true,if_false,z3W]
     have hi:=z4C (c:=false) (xs:=g.Rules) (i:=0) (p:=fun k _=>¬ okPl g ps pl k) (f:=z6m g ps pl) fun k r hr=>by
      rw[Nat.zero_add]
      have hk:=(List.getElem?_eq_some_iff.1 hr).1
      obtain⟨p,hp⟩:∃ p,pl[k]?=some p:=⟨_,List.getElem?_eq_getElem (by omega)⟩
      have hc:=(hrule r (List.mem_of_getElem? hr) p (List.mem_of_getElem? hp)).2
      unfold z6m
      rw[hp,bsS]
      refine⟨fun hn=>?_,fun hn=>?_⟩
      ·by_cases hm:p.Rule=r.Name
       ·rw[ifP hm,hc,bsS]
        exact ifN fun hb=>hn fun r' p' hr' hp'=>by rw[hr] at hr';rw[hp] at hp';cases hr';cases hp';exact⟨hm,hb⟩
       ·rw[ifN hm]
      ·obtain⟨hm,hb⟩:=(Classical.not_not.1 hn) r p hr hp
       rw[ifP hm,hc,bsS,ifP hb]
     have hsp:=z4C (c:=false) (xs:=pl) (i:=0) (p:=fun k _=>¬ okPl g ps pl k) (f:=z6o g ps) fun k p hp=>by
      rw[Nat.zero_add]
      have hk:=(List.getElem?_eq_some_iff.1 hp).1
      obtain⟨r,hr⟩:∃ r,g.Rules[k]?=some r:=⟨_,List.getElem?_eq_getElem (by omega)⟩
      have hc:=(hrule r (List.mem_of_getElem? hr) p (List.mem_of_getElem? hp)).1
      unfold z6o
      rw[hr,bsS]
      refine⟨fun hn=>?_,fun hn=>?_⟩
      ·by_cases hm:p.Rule=r.Name
       ·rw[ifP hm,hc,bsS]
        exact ifN fun hb=>hn fun r' p' hr' hp'=>by rw[hr] at hr';rw[hp] at hp';cases hr';cases hp';exact⟨hm,hb⟩
       ·rw[ifN hm]
      ·obtain⟨hm,hb⟩:=(Classical.not_not.1 hn) r p hr hp
       rw[ifP hm,hc,bsS,ifP hb]
     by_cases hall:∀ k,okPl g ps pl k
     ·rw[hi.2 fun k x _ hn=>hn (by rw[Nat.zero_add];exact hall k),hsp.2 fun k x _ hn=>hn (by rw[Nat.zero_add];exact hall k)]
      exact⟨true,rfl,rfl,fun _=>⟨by omega,hall⟩⟩
     ·obtain⟨k,hk⟩:=Classical.not_forall.1 hall
      obtain⟨r,hk1⟩:=Classical.not_forall.1 hk
      obtain⟨p,hk2⟩:=Classical.not_forall.1 hk1
      have hr:g.Rules[k]?=some r:=Classical.byContradiction fun hn=>hk2 fun hr=>absurd hr hn
      have hp:pl[k]?=some p:=Classical.byContradiction fun hn=>hk2 fun _ hp=>absurd hp hn
      rw[hi.1 ⟨k,r,hr,by rw[Nat.zero_add];exact hk⟩,hsp.1 ⟨k,p,hp,by rw[Nat.zero_add];exact hk⟩]
      exact⟨false,rfl,rfl,fun h=>nomatch h⟩
   ·rw[decide_eq_false h2]
    exact⟨false,rfl,rfl,fun h=>nomatch h⟩
  ·rw[decide_eq_false h1]
   exact⟨false,rfl,rfl,fun h=>nomatch h⟩
theorem k3M {pl:List RPl_}(h:∀ p∈pl,p.Steps.length≤2001)(n:ByteArray):∃ st,z5D pl n=some st∧st.length≤2001:=by
 unfold z5D
 have key:∀ (xs:List RPl_) (i:Nat),(∀ p∈xs,p.Steps.length≤2001)→∃ z,findL (z6p n) i xs ()=some z∧∀ st,z=.inr st→st.length≤2001:=by
  intro xs
  induction xs with
  | nil=>intro i _;exact⟨_,rfl,fun st h=>by cases h⟩
  | cons x xs ih=>
   intro i hx
   rw[findL]
   unfold z6p
   have h1:=hx x List.mem_cons_self
   by_cases hn:x.Rule=n
   ·rw[ifP hn,q3E (by simp only[List.length_nil];constructor<;>omega),bsS]
    exact⟨_,rfl,fun st h=>by cases h;exact h1⟩
   ·rw[ifN hn,bsS]
    have:=ih (i+1) fun p hp=>hx p (List.mem_cons_of_mem _ hp)
    unfold z6p at this
    exact this
 obtain⟨z,e,hz⟩:=key pl 0 h
 rw[e,bsS]
 cases z with
 | inl u=>exact⟨[],rfl,by simp⟩
 | inr st=>exact⟨st,rfl,hz st rfl⟩
theorem k1v {b:List UInt8}(hb:b.length≤1048576):∃ g ps r st,q7s b=some (g,ps,r,st)∧GC2 g∧LenP ps∧r∈g.Rules∧st.length≤2001:=by
 obtain⟨g,ps,pl,e,hA⟩:=k5T hb
 obtain⟨z,hz,hz1,hz2⟩:=k5J hb
 obtain⟨zb,zi,zh⟩:=z
 dsimp only at hz1 hz2
 subst hz2
 obtain⟨⟨y,z3⟩,b1,⟨b2,b3,_⟩,b4,b5⟩:=q6T hb (g.Rules.length:Int) (cb (h:=zh) hz1)
 dsimp only at b2 b3
 have hr1:=hA.gc.2.1
 have b3:=b3 (by omega)
 obtain⟨r,hr⟩:∃ r,g.Rules[y.toNat]?=some r:=⟨_,List.getElem?_eq_getElem (by omega)⟩
 obtain⟨st,s1,s2⟩:=k3M hA.st r.Name
 refine⟨g,ps,r,st,?_,hA.gc,hA.len,List.mem_of_getElem? hr,s2⟩
 unfold q7s
 rw[e,bsS]
 dsimp only
 rw[hz,bsS,b1,bsS]
 dsimp only
 rw[q3E b2,hr,bsS,s1,bsS]
theorem j4G {g:Gm_}{ps:List (List Phase)}{pl:List RPl_}(h:A29 g ps pl){b:Bool}(hb:b=true→pl.length=g.Rules.length∧∀ k,okPl g ps pl k):∀ (m k:Nat),k+m=pl.length→q4o (q8H g ps pl b) (k:Int)=some (.inl ())
 | 0,k,hk=>q3F (by unfold q8H;rw[ifN (by omega)])
 | m+1,k,hk=>by
  have hG:=szG h.gc
  cases b with
  | false=>exact q3F (by unfold q8H;rw[ifP (by omega),ifN (by simp)])
  | true=>
   obtain⟨hl,hall⟩:=hb rfl
   obtain⟨p,hp⟩:∃ p,pl[k]?=some p:=⟨_,List.getElem?_eq_getElem (by omega)⟩
   obtain⟨r,hr⟩:∃ r,g.Rules[k]?=some r:=⟨_,List.getElem?_eq_getElem (by omega)⟩
   obtain⟨_,hpb⟩:=hall k r p hr hp
   obtain⟨s1,s2⟩:=k1u hpb
   have hst:=h.st p (List.mem_of_getElem? hp)
   have hn:((p.Steps.length:Int)-1).toNat=p.Steps.length-1:=by omega
   have hlen8:=h.ln
   rw[q3L (s':=((k+1:Nat):Int)) ?_]
   ·exact j4G h hb m (k+1) (by omega)
   ·unfold q8H
    rw[ifP (by omega),ifP rfl,q3E (by omega),tnC,hp,bsS,q3E (by simp only[List.length_nil];constructor<;>omega),q3E (by omega),hn,q3E (by omega),q3E (by omega),hr,bsS,(j8T (st:=p.Steps.take (p.Steps.length-1)) hG h.len (Nat.le_trans (z0s (List.mem_of_getElem? hr)) hG) (by rw[List.length_take];omega)).2,s2,bsS,ifN (by simp),q3E (by constructor<;>omega)]
    rfl
theorem j7z (a:List UInt8):z0G a=some true:=by
 unfold z0G j9A
 rw[bsS]
 by_cases hb:1048576<(a.length:Int)
 ·rw[ifP (by simpa using hb)]
 rw[ifN (by simpa using hb)]
 have hb:a.length≤1048576:=by omega
 obtain⟨g,ps,pl,e,hA⟩:=k5T hb
 obtain⟨b,c1,c2,c3⟩:=k5u hA
 obtain⟨g',ps',r,st,d1,d2,d3,d4,d5⟩:=k1v hb
 have hp:=j8T (st:=st) (szG d2) d3 (Nat.le_trans (z0s d4) (szG d2)) (by omega)
 have hd:q9o a=some (g,ps,pl):=by unfold q9o;rw[e];rfl
 rw[hd,bsS]
 dsimp only
 rw[c1,bsS,c2,bsS,ifP rfl,d1,bsS]
 dsimp only
 rw[hp.2,bsS,hp.1,bsS,ifP rfl,show (0:Int)=((0:Nat):Int) from rfl,j4G hA c3 pl.length 0 (by omega)]
 rfl
end Go.Proofs.YtppbkkcekpbaiaaGreat
