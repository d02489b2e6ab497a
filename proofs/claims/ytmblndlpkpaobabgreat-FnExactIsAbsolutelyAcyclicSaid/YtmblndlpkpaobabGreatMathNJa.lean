/- What those partial functions come to: plain lemmas on data; each bears its conditions in its statement. -/
import Derived.Test.YtmblndlpkpaobabGreatMathNIa
set_option linter.unusedVariables false
set_option linter.unusedSimpArgs false
set_option linter.ambiguousOpen false
set_option linter.unusedSectionVars false
set_option linter.unnecessarySimpa false
set_option linter.unusedVariables false
set_option linter.unusedSimpArgs false
namespace Go.Proofs.YtmblndlpkpaobabGreat
open Go Go.E
def q7F (g:Grammar)(s:ByteArray):List Attribute:=(q6z g s).1.Attributes.filter z6Z
theorem z7i {g:Grammar}(h:GOk g)(s:ByteArray):(q7F g s).length≤1048576:=Nat.le_trans (List.length_filter_le _ _) (z1C h s)
theorem j2q {l:List Attribute}(h:l.length≤1048576):q2G q4w 0 l []=some (l.filter z6Z):=by
 have:=z2I (p:=z6Z) (g:=fun x:Attribute=>x) (B:=1048577) (f:=q4w) (fun k x s hs=>by
  have hg:((s.length:Int)+1)*40≤140737488355328∧(s.length:Int)+1≤9223372036854775807:=by constructor<;>omega
  unfold q4w z6Z
  rw [q2B hg]
  by_cases m1:x.Mode=1
  ·rw [if_pos m1,if_pos (by simp [m1])]; rfl
  ·rw [if_neg m1]
   by_cases m2:x.Mode=2
   ·rw [if_pos m2,if_pos (by simp [m2])]; rfl
   ·rw [if_neg m2,if_neg (by simp [m1,m2])]; rfl) l 0 [] (by simp; omega)
 rw [this]; simp
theorem j2r {g:Grammar}(h:GOk g)(s:ByteArray):q4l g s=some (q7F g s):=by
 unfold q4l q7F
 rw [z2K h,Option.bind_some]
 try dsimp only
 rw [j2q (z1C h s)]; rfl
theorem z9u {g:Grammar}(h:GOk g)(s:ByteArray):q3h g s=some (q7F g s):=by
 unfold q3h q7F
 rw [z1B,Option.bind_some]
 try dsimp only
 rw [j0e,j2q (z1C h s)]; rfl
def occK (g:Grammar)(r:Rule)(k:Nat):List Occurrence:=(q7F g (q7W r (k:Int))).map fun x=>(⟨(k:Int),x.Name⟩:Occurrence)
def occL (g:Grammar)(r:Rule):List Occurrence:=(List.range' 0 (r.Right.length+1)).flatMap (occK g r)
theorem j4m {g:Grammar}(h:GOk g)(r:Rule)(k:Nat):(occK g r k).length≤1048576:=by unfold occK; rw [List.length_map]; exact z7i h _
theorem j3A {g:Grammar}(h:GOk g){r:Rule}(hl:ROk r):q4e g r=some (occL g r):=by
 have hl' : r.Right.length≤1048576:=hl
 have key:=z7g (h:=occK g r) (C:=1048576) (n:=r.Right.length+1) (f:=q2Z g r) (fun k s hk hs=>by
  unfold q2Z
  rw [z9n hl,Option.bind_some,z9u h,Option.bind_some,z4p k _ 0 s (by have:=z7i h (q7W r (k:Int)); omega)]; rfl)
  (fun k _=>j4m h r k) (r.Right.length+1) 0 [] (by omega) (by simp)
 unfold q4e
 rw [q2B (by constructor<;>omega),key]; rfl
theorem j7a {g:Grammar}(h:GOk g){r:Rule}(hl:ROk r):q4V g r=some (occL g r):=by
 have hl' : r.Right.length≤1048576:=hl
 have key:=z9l (h:=occK g r) (C:=1048576) (n:=r.Right.length+1) (f:=q3J g r) (fun k s hk hs=>by
  unfold q3J
  dsimp only
  rw [if_pos (by omega),z5B hl,Option.bind_some,j2r h,Option.bind_some,j3T,z4p k _ 0 s (by have:=z7i h (q7W r (k:Int)); omega),Option.bind_some,q2B (by constructor<;>omega)]; rfl) (fun s=>by
  unfold q3J; dsimp only; rw [if_neg (by omega)]) (fun k _=>j4m h r k) (r.Right.length+1) 0 [] (by omega) (by simp)
 unfold q4V
 have e:q5u (q3J g r) (([]:List Occurrence),0)=some ([]++(List.range' 0 (r.Right.length+1)).flatMap (occK g r)):=key
 rw [e]; rfl
theorem j4n {g:Grammar}(h:GOk g){r:Rule}(hl:ROk r):(occL g r).length≤1099512676352:=by
 obtain⟨l,_,h2,h3⟩:=z8e h hl
 rw [j3A h hl] at h2
 cases h2; exact h3
def posL (g:Grammar)(r:Rule)(k:Int):List Int:=(((occL g r).zipIdx 0).filter fun q=>decide (q.1.Pos=k)).map fun q=>(q.2:Int)
theorem j4o (k:Int){l:List Occurrence}(h:l.length≤1099512676352):q2G (q4y k) 0 l []=some (((l.zipIdx 0).filter fun q=>decide (q.1.Pos=k)).map fun q=>(q.2:Int)):=by
 have:=z9k (p:=fun x:Occurrence=>decide (x.Pos=k)) (g:=fun i:Nat=>(i:Int)) (B:=4398046511104) (f:=q4y k) (fun i x s hs=>by
  have hg:((s.length:Int)+1)*8≤140737488355328∧(s.length:Int)+1≤9223372036854775807:=by constructor<;>omega
  unfold q4y
  rw [q2B hg]
  by_cases m1:x.Pos=k
  ·rw [if_pos m1,if_pos (by simp [m1])]; rfl
  ·rw [if_neg m1,if_neg (by simp [m1])]; rfl) l 0 [] (by simp; omega)
 rw [this]; simp
theorem k0z {g:Grammar}(h:GOk g){r:Rule}(hl:ROk r)(k:Int):q5q g r k=some (posL g r k):=by
 unfold q5q posL
 rw [j7a h hl,Option.bind_some,j4o k (j4n h hl)]; rfl
theorem k0A {g:Grammar}(h:GOk g){r:Rule}(hl:ROk r)(k:Int):q3P g r k=some (posL g r k):=by
 unfold q3P posL
 rw [j3A h hl,Option.bind_some,z4S,j4o k (j4n h hl)]; rfl
theorem j2s {α:Type}(p:α→Bool):∀ (l:List α) (i:Nat),((l.zipIdx i).filter fun q=>p q.1).length=l.countP p
 | [],i=>rfl
 | x :: l,i=>by
  rw [List.zipIdx_cons,List.filter_cons,List.countP_cons]
  have ih:=j2s p l (i+1)
  by_cases hp:p x=true
  ·rw [if_pos hp,if_pos hp,List.length_cons,ih]
  ·rw [if_neg hp,if_neg hp,ih]; rfl
theorem k0B (g:Grammar){r:Rule}{k:Nat}(hk:k≤r.Right.length):(posL g r (k:Int)).length=(q7F g (q7W r (k:Int))).length:=by
 unfold posL
 rw [List.length_map,j2s (fun x:Occurrence=>decide (x.Pos=(k:Int)))]
 unfold occL
 rw [List.countP_flatMap]
 have hK:∀ j:Nat,(occK g r j).countP (fun x=>decide (x.Pos=(k:Int)))=if j=k then (q7F g (q7W r (k:Int))).length else 0:=by
  intro j
  unfold occK
  rw [List.countP_map]
  by_cases hj:j=k
  ·subst hj
   rw [if_pos rfl,List.countP_eq_length.2 (by simp)]
  ·rw [if_neg hj,List.countP_eq_zero.2]
   intro a _
   simp; omega
 have hsum:∀ m i,((List.range' i m).map (List.countP (fun x:Occurrence=>decide (x.Pos=(k:Int))) ∘ occK g r)).sum=if i≤k∧k < i+m then (q7F g (q7W r (k:Int))).length else 0:=by
  intro m
  induction m with
  | zero=>intro i; rw [if_neg (by omega)]; rfl
  | succ m ih=>
   intro i
   rw [List.range'_succ,List.map_cons,List.sum_cons,ih (i+1),Function.comp,hK i]
   by_cases h1:i=k
   ·rw [if_pos h1,if_neg (by omega),if_pos (by omega)]; rfl
   ·rw [if_neg h1,Nat.zero_add]
    by_cases h2:i+1≤k∧k < i+1+m
    ·rw [if_pos h2,if_pos (by omega)]
    ·rw [if_neg h2,if_neg (by omega)]
 rw [hsum,if_pos (by omega)]
noncomputable def z0t (own:Relation) (a:Nat) (x:Int):Nat→List Int→Relation→Relation
 | _,[],o=>o
 | i,y :: ys,o=>z0t own a x (i+1) ys (if hasP own (a:Int) (i:Int) then addP o x y else o)
noncomputable def z2j (own:Relation) (at' : List Int):Nat→List Int→Relation→Relation
 | _,[],o=>o
 | a,x :: xs,o=>z2j own at' (a+1) xs (z0t own a x 0 at' o)
theorem z7j (own:Relation)(a:Nat)(x:Int):∀ (ys:List Int) (i:Nat) (o:Relation),(z0t own a x i ys o).Rows.length=o.Rows.length∧(z0t own a x i ys o).N=o.N
 | [],i,o=>⟨rfl,rfl⟩
 | y :: ys,i,o=>by
  rw [z0t]
  have ih:=z7j own a x ys (i+1) (if hasP own (a:Int) (i:Int) then addP o x y else o)
  by_cases h:hasP own (a:Int) (i:Int)
  ·rw [if_pos h] at ih ⊢
   have:=j3W o x y
   exact⟨ih.1.trans this.1,ih.2.trans this.2⟩
  ·rw [if_neg h] at ih ⊢; exact ih
theorem z9v (own:Relation)(at' : List Int):∀ (xs:List Int) (a:Nat) (o:Relation),(z2j own at' a xs o).Rows.length=o.Rows.length∧(z2j own at' a xs o).N=o.N
 | [],a,o=>⟨rfl,rfl⟩
 | x :: xs,a,o=>by
  rw [z2j]
  have ih:=z9v own at' xs (a+1) (z0t own a x 0 at' o)
  have:=z7j own a x at' 0 o
  exact⟨ih.1.trans this.1,ih.2.trans this.2⟩
theorem j7b (own:Relation)(a:Nat)(x:Int):∀ (ys:List Int) (i:Nat) (o:Relation),o.Rows.length≤1048576 →
  q2G (q8K own a x) i ys (o.Rows,o.N)=some ((z0t own a x i ys o).Rows,(z0t own a x i ys o).N)∧q2G (z3Z own a x) i ys (o.N,o.Rows)=some ((z0t own a x i ys o).N,(z0t own a x i ys o).Rows)
 | [],i,o,_=>⟨rfl,rfl⟩
 | y :: ys,i,o,h=>by
  have e1:q8K own a x i y (o.Rows,o.N)=some ((if hasP own (a:Int) (i:Int) then addP o x y else o).Rows,(if hasP own (a:Int) (i:Int) then addP o x y else o).N):=by
   unfold q8K
   dsimp only
   rw [z1A,Option.bind_some]
   by_cases hp:hasP own (a:Int) (i:Int)
   ·rw [decide_eq_true hp,if_pos rfl,if_pos hp,j9l h]; rfl
   ·rw [decide_eq_false hp,if_neg (by simp),if_neg hp]; rfl
  have e2:z3Z own a x i y (o.N,o.Rows)=some ((if hasP own (a:Int) (i:Int) then addP o x y else o).N,(if hasP own (a:Int) (i:Int) then addP o x y else o).Rows):=by
   unfold z3Z
   dsimp only
   rw [z5z,Option.bind_some]
   by_cases hp:hasP own (a:Int) (i:Int)
   ·rw [decide_eq_true hp,if_pos rfl,if_pos hp,j1f,j9l h]; rfl
   ·rw [decide_eq_false hp,if_neg (by simp),if_neg hp]; rfl
  have hl:(if hasP own (a:Int) (i:Int) then addP o x y else o).Rows.length≤1048576:=by
   split
   ·rw [(j3W o x y).1]; exact h
   ·exact h
  have ih:=j7b own a x ys (i+1) _ hl
  rw [q2G,q2G,e1,e2,Option.bind_some,Option.bind_some,z0t]
  exact ih
theorem j1p (own:Relation)(at' : List Int):∀ (xs:List Int) (a:Nat) (o:Relation),o.Rows.length≤1048576 →
  q2G (q8L own at') a xs (o.Rows,o.N)=some ((z2j own at' a xs o).Rows,(z2j own at' a xs o).N)∧q2G (z4a own at') a xs (o.N,o.Rows)=some ((z2j own at' a xs o).N,(z2j own at' a xs o).Rows)
 | [],a,o,_=>⟨rfl,rfl⟩
 | x :: xs,a,o,h=>by
  have h1:=j7b own a x at' 0 o h
  have hl:(z0t own a x 0 at' o).Rows.length≤1048576:=by rw [(z7j own a x at' 0 o).1]; exact h
  have ih:=j1p own at' xs (a+1) _ hl
  have e1:q8L own at' a x (o.Rows,o.N)=some ((z0t own a x 0 at' o).Rows,(z0t own a x 0 at' o).N):=by
   unfold q8L; dsimp only; rw [h1.1]; rfl
  have e2:z4a own at' a x (o.N,o.Rows)=some ((z0t own a x 0 at' o).N,(z0t own a x 0 at' o).Rows):=by
   unfold z4a; dsimp only; rw [h1.2]; rfl
  rw [q2G,q2G,e1,e2,Option.bind_some,Option.bind_some,z2j]
  exact ih
noncomputable def z6x (g:Grammar) (r:Rule) (o:Relation) (pos:Int) (own:Relation):Relation:=z2j own (posL g r pos) 0 (posL g r pos) o
theorem j7c {g:Grammar}(h:GOk g){r:Rule}(hl:ROk r){o:Relation}(ho:o.Rows.length≤1048576)(pos:Int)(own:Relation):z8d g r o pos own=some (z6x g r o pos own):=by
 unfold z8d z6x
 rw [k0A h hl,Option.bind_some,(j1p own (posL g r pos) (posL g r pos) 0 o ho).2]; rfl
theorem z5C {r:Rule}{k:Nat}{x:ByteArray}(h:r.Right[k]? = some x):q7W r ((k+1:Nat):Int)=x:=by
 have hk:=(List.getElem?_eq_some_iff.1 h).1
 unfold q7W
 rw [if_neg (by omega),if_pos (by omega),show (((k+1:Nat):Int) - 1).toNat=k by omega,List.getD_eq_getElem?_getD,h]; rfl
noncomputable def z4N (g:Grammar) (r:Rule):Nat→List Relation→Relation→Relation
 | _,[],o=>o
 | k,own :: l,o=>z4N g r (k+1) l (z6x g r o ((k+1:Nat):Int) own)
theorem j5w (g:Grammar)(r:Rule)(o:Relation)(pos:Int)(own:Relation):(z6x g r o pos own).Rows.length=o.Rows.length:=(z9v own _ _ 0 o).1
def FitL (g:Grammar)(r:Rule)(list:List Relation):Prop:=list.length=r.Right.length∧∀ k own,list[k]? = some own→Valid own∧own.N=((q7F g (q7W r ((k+1:Nat):Int))).length:Int)
theorem j2t {g:Grammar}(h:GOk g){r:Rule}(hl:ROk r){list:List Relation}(hf:FitL g r list):∀ (m k:Nat) (o:Relation),k+m=list.length→o.Rows.length≤1048576 →
  q2I (q8M g r) k (list.drop k) (o.Rows,o.N)=some (.inl ((z4N g r k (list.drop k) o).Rows,(z4N g r k (list.drop k) o).N)) ∧
  q2I (q7D g r) k (list.drop k) (o.N,o.Rows)=some (.inl ((z4N g r k (list.drop k) o).N,(z4N g r k (list.drop k) o).Rows))∧(z4N g r k (list.drop k) o).Rows.length=o.Rows.length
 | 0,k,o,hk,_=>by rw [List.drop_eq_nil_of_le (by omega)]; exact⟨rfl,rfl,rfl⟩
 | m+1,k,o,hk,ho=>by
  have hk' : k < list.length:=by omega
  rw [List.drop_eq_getElem_cons hk']
  have hv:=hf.2 k list[k] (List.getElem?_eq_getElem hk')
  have hR:k < r.Right.length:=by rw [← hf.1]; exact hk'
  have hsym:=z5C (r:=r) (k:=k) (List.getElem?_eq_getElem hR)
  have hpl:=k0B g (r:=r) (k:=k+1) (by omega)
  have e1:q8M g r k list[k] (o.Rows,o.N)=some (.inl ((z6x g r o ((k+1:Nat):Int) list[k]).Rows,(z6x g r o ((k+1:Nat):Int) list[k]).N)):=by
   unfold q8M
   dsimp only
   rw [k0z h hl,Option.bind_some,q6g,Option.bind_some,decide_eq_true hv.1,if_pos rfl,if_pos (by rw [hpl]; exact hv.2),(j1p list[k] _ _ 0 o ho).1]; rfl
  have e2:q7D g r k list[k] (o.N,o.Rows)=some (.inl ((z6x g r o ((k+1:Nat):Int) list[k]).N,(z6x g r o ((k+1:Nat):Int) list[k]).Rows)):=by
   unfold q7D
   dsimp only
   rw [List.getElem?_eq_getElem hR,Option.bind_some,z9u h,Option.bind_some,if_pos (by rw [← hsym]; exact hv.2),j7c h hl ho]; rfl
  have hlen:=j5w g r o ((k+1:Nat):Int) list[k]
  have ih:=j2t h hl hf m (k+1) (z6x g r o ((k+1:Nat):Int) list[k]) (by omega) (by rw [hlen]; exact ho)
  rw [q2I,q2I,e1,e2,Option.bind_some,Option.bind_some,z4N]
  exact⟨ih.1,ih.2.1,ih.2.2.trans hlen⟩
noncomputable def locR (g:Grammar) (r:Rule):Relation:=(q5V g r).getD ⟨0,[]⟩
theorem k1E {g:Grammar}{r:Rule}(h:Sz.szd g≤1048576)(hr:Sz.szd r≤1048576):q5V g r=some (locR g r)∧q6Z g r=some (locR g r)∧(locR g r).Rows.length≤16:=by
 obtain⟨x,h1,h2,h3⟩:=j5l h hr
 unfold locR
 rw [h1,h2]; exact⟨rfl,rfl,h3⟩
noncomputable def z7k (g:Grammar) (r:Rule) (list:List Relation):Relation:=if 16 < (occL g r).length then ⟨0,[]⟩ else q7b (z4N g r 0 list (locR g r))
theorem j1q {g:Grammar}{r:Rule}(h:Sz.szd g≤1048576)(hr:Sz.szd r≤1048576){list:List Relation}(hf:FitL g r list):q8a g r list=some (z7k g r list)∧q9X g r list=some (z7k g r list)∧(z7k g r list).Rows.length≤16:=by
 have hg:=z2h h
 have hl:=q6R hr
 obtain⟨l1,l2,l3⟩:=k1E h hr
 have hn:(list.length:Int)=(r.Right.length:Int):=by rw [hf.1]
 unfold q8a q9X
 rw [j7a hg hl,j3A hg hl]
 simp only [Option.bind_some]
 rw [if_pos hn,if_pos hn]
 simp only [Option.bind_some]
 by_cases h16:16 < (occL g r).length
 ·have hi:(16:Int) < ((occL g r).length:Int):=by omega
  have hc:z7k g r list=⟨0,[]⟩:=if_pos h16
  rw [hc,decide_eq_true hi,if_pos rfl,if_pos hi]
  exact⟨rfl,rfl,by simp⟩
 ·have hi:¬ (16:Int) < ((occL g r).length:Int):=by omega
  have hc:z7k g r list=q7b (z4N g r 0 list (locR g r)):=if_neg h16
  rw [hc,decide_eq_false hi,if_neg (by simp),if_neg hi,l1,l2,Option.bind_some,Option.bind_some]
  have key:=j2t hg hl hf list.length 0 (locR g r) (by omega) (by omega)
  rw [List.drop_zero] at key
  have hlen:(z4N g r 0 list (locR g r)).Rows.length≤16:=by rw [key.2.2]; exact l3
  rw [key.1,key.2.1,Option.bind_some,Option.bind_some,q3q,q3q]
  dsimp only
  rw [j2c (r:=⟨(z4N g r 0 list (locR g r)).N,(z4N g r 0 list (locR g r)).Rows⟩) (by show (z4N g r 0 list (locR g r)).Rows.length≤_; omega),j2d (r:=⟨(z4N g r 0 list (locR g r)).N,(z4N g r 0 list (locR g r)).Rows⟩) (by show (z4N g r 0 list (locR g r)).Rows.length≤_; omega)]
  exact⟨rfl,rfl,by rw [(j0h _).1]; exact hlen⟩
end Go.Proofs.YtmblndlpkpaobabGreat
