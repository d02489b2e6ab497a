/- What those partial functions come to: plain lemmas on data; each bears its conditions in its statement. -/
import Derived.Test.YtmblndlpkpaobabGreatMathM3a
import Derived.Test.YtmblndlpkpaobabGreatMathMAa
set_option linter.unusedVariables false
set_option linter.unusedSimpArgs false
set_option linter.ambiguousOpen false
set_option linter.unusedSectionVars false
set_option linter.unnecessarySimpa false
set_option linter.unusedVariables false
set_option linter.unusedSimpArgs false
namespace Go.Proofs.YtmblndlpkpaobabGreat
open Go Go.E
theorem z7v {α σ:Type}{f:Nat→α→σ→Option σ}:∀ (xs ys:List α) (i:Nat) (s:σ),q2G f i (xs++ys) s=(q2G f i xs s).bind fun t=>q2G f (i+xs.length) ys t
 | [],ys,i,s=>rfl
 | x :: xs,ys,i,s=>by
  simp only [List.cons_append,q2G]
  cases f i x s with
  | none=>rfl
  | some t=>simp only [Option.bind_some]; rw [z7v xs ys (i+1) t,List.length_cons,show i+1+xs.length=i+(xs.length+1) by omega]
theorem z4p (k:Nat):∀ (l:List Attribute) (i:Nat) (s:List Occurrence),s.length+l.length≤4398046511104→q2G (q4E k) i l s=some (s++l.map fun x=>(⟨(k:Int),x.Name⟩:Occurrence))
 | [],i,s,_=>by simp [q2G]
 | x :: l,i,s,h=>by
  simp only [List.length_cons] at h
  have hg:((s.length:Int)+1)*24≤140737488355328∧(s.length:Int)+1≤9223372036854775807:=by constructor<;>omega
  have e:q4E k i x s=some (s++[(⟨(k:Int),x.Name⟩:Occurrence)]):=by unfold q4E; rw [q2B hg]
  simp only [q2G,e,Option.bind_some]
  rw [z4p k l (i+1) _ (by simp; omega)]; simp
theorem j9T {g:Grammar}{r:Rule}(h:∀ y∈g.Symbols,y.Attributes.length≤1048576)(hr:r.Right.length≤1048576){l:List Attribute}{o:List Occurrence}(hl:q3h g r.Left=some l)(ho:q4e g r=some o) :
  ∃ ys,o=(l.map fun x=>(⟨0,x.Name⟩:Occurrence))++ys:=by
 have key:∀ m k (s:List Occurrence),k+m=r.Right.length+1→s.length≤k*1048576→∀ q,q7u (q2Z g r) k m s=some q→∃ ys,q=s++ys:=by
  intro m
  induction m with
  | zero=>intro k s _ _ q hq; cases hq; exact⟨[],by simp⟩
  | succ m ih=>
   intro k s hk hs q hq
   obtain⟨x,hx⟩:=j0f r k (by omega) hr
   obtain⟨p,hp1,hp2,hp3⟩:=z2E h x
   have hy:=z4p k p 0 s (by omega)
   have e:q2Z g r k s=some (s++p.map fun x=>(⟨(k:Int),x.Name⟩:Occurrence)):=by
    unfold q2Z; rw [z6Y,hx,Option.bind_some,hp2,Option.bind_some,hy]; rfl
   simp only [q7u,e,Option.bind_some] at hq
   obtain⟨ys,hys⟩:=ih (k+1) _ (by omega) (by simp; omega) q hq
   exact⟨_,by rw [hys,List.append_assoc]⟩
 unfold q4e at ho
 rw [q2B (by constructor<;>omega)] at ho
 have e1:q7u (q2Z g r) 0 (r.Right.length+1) []=some o:=by
  cases hq:q7u (q2Z g r) 0 (r.Right.length+1) [] with
  | none=>rw [hq] at ho; cases ho
  | some q=>rw [hq] at ho; exact ho
 have hl3:l.length≤1048576:=by
  obtain⟨p,_,h2,h3⟩:=z2E h r.Left
  rw [hl] at h2; cases h2; exact h3
 have hx:q6f r ((0:Nat):Int)=some r.Left:=by unfold q6f; exact if_pos rfl
 have e:q2Z g r 0 []=some ([]++l.map fun x=>(⟨((0:Nat):Int),x.Name⟩:Occurrence)):=by
  unfold q2Z; rw [hx,Option.bind_some,hl,Option.bind_some,z4p 0 l 0 [] (by simp; omega)]; rfl
 simp only [q7u,e,Option.bind_some] at e1
 obtain⟨ys,hys⟩:=key r.Right.length 1 _ (by omega) (by simp; omega) o e1
 exact⟨ys,by simpa using hys⟩
theorem j6f:∀ (xs:List Occurrence) (i:Nat) (s:List Int),s.length+xs.length≤4398046511104→(∀ x∈xs,x.Pos=0)→q2G (q3B 0) i xs s=some (s++(List.range' i xs.length).map fun (j:Nat)=>(j:Int))
 | [],i,s,_,_=>by simp [q2G]
 | x :: xs,i,s,h,h0=>by
  simp only [List.length_cons] at h
  have hg:((s.length:Int)+1)*8≤140737488355328∧(s.length:Int)+1≤9223372036854775807:=by constructor<;>omega
  have e:q3B 0 i x s=some (s++[(i:Int)]):=by
   unfold q3B; rw [if_pos (h0 x (by simp)),q2B hg]; rfl
  simp only [q2G,e,Option.bind_some]
  rw [j6f xs (i+1) _ (by simp; omega) fun y hy=>h0 y (by simp [hy])]
  simp [List.range'_succ]
theorem j9U {g:Grammar}{r:Rule}(h:∀ y∈g.Symbols,y.Attributes.length≤1048576)(hr:r.Right.length≤1048576){l:List Attribute}{y:List Int}(hl:q3h g r.Left=some l)(hy:q3P g r 0=some y):∀ k:Nat,k < l.length→y[k]? = some (k:Int):=by
 obtain⟨o,_,ho,ho3⟩:=z8e h hr
 obtain⟨ys,hys⟩:=j9T h hr hl ho
 have hl3:l.length≤1048576:=by
  obtain⟨p,_,h2,h3⟩:=z2E h r.Left
  rw [hl] at h2; cases h2; exact h3
 unfold q3P at hy
 rw [ho,Option.bind_some] at hy
 have hy' : q2G (q3B 0) 0 o []=some y:=by
  cases hq:q2G (q3B 0) 0 o [] with
  | none=>rw [hq] at hy; cases hy
  | some q=>rw [hq] at hy; exact hy
 have hlen:=congrArg List.length hys
 simp only [List.length_append,List.length_map] at hlen
 rw [hys,z7v,j6f _ 0 [] (by simp; omega) (by intro x hx; obtain⟨a,_,rfl⟩:=List.mem_map.1 hx; rfl),Option.bind_some] at hy'
 obtain⟨zs,h4,h5⟩:=q8B (p:=fun x:Occurrence=>decide (x.Pos=0)) (g:=fun i _=>((i:Nat):Int)) (B:=4398046511104) (f:=q3B 0) (fun i x s hs=>by
  have hg:((s.length:Int)+1)*8≤140737488355328∧(s.length:Int)+1≤9223372036854775807:=by constructor<;>omega
  unfold q3B
  rw [q2B hg]
  by_cases m1:x.Pos=0
  ·rw [if_pos m1,if_pos (by simp [m1])]; rfl
  ·rw [if_neg m1,if_neg (by simp [m1])]; rfl) ys (0+(l.map fun x=>(⟨0,x.Name⟩:Occurrence)).length) ([]++(List.range' 0 (l.map fun x=>(⟨0,x.Name⟩:Occurrence)).length).map fun (j:Nat)=>(j:Int)) (by simp; omega)
 rw [h4] at hy'
 cases hy'
 intro k hk
 rw [List.getElem?_append_left (by simpa using hk)]
 simp [hk]
theorem z7b {α σ:Type}{P:σ→Prop}{f g:Nat→α→σ→Option σ}:∀ (xs:List α) (i:Nat) (s:σ),P s→(∀ k x s,k < i+xs.length→x∈xs→P s→∃ s',f k x s=some s'∧g k x s=some s'∧P s')→∃ s',q2G f i xs s=some s'∧q2G g i xs s=some s'∧P s'
 | [],i,s,hs,_=>⟨s,rfl,rfl,hs⟩
 | x :: xs,i,s,hs,h=>by
  obtain⟨t,h1,h2,h3⟩:=h i x s (by simp) (by simp) hs
  obtain⟨u,h4,h5,h6⟩:=z7b xs (i+1) t h3 fun k y s hk hy=>h k y s (by simp; omega) (by simp [hy])
  exact⟨u,by simp only [q2G,h1,Option.bind_some,h4],by simp only [q2G,h2,Option.bind_some,h5],h6⟩
theorem j2b {g:Grammar}{r:Rule}{c:Relation}(h:∀ y∈g.Symbols,y.Attributes.length≤1048576)(hr:r.Right.length≤1048576):∃ x,q8z g r c=some x∧z0e g r c=some x∧x.Rows.length≤16:=by
 obtain⟨l,l1,l2,l3⟩:=z2E h r.Left
 obtain⟨y,_,y2,_⟩:=j7P 0 h hr
 have hy:=j9U h hr l2 y2
 obtain⟨e,e1,e2⟩:=j5a l.length
 have step:∀ k1 x1,k1 < l.length→∀ k2 x2 s,k2 < l.length→s.1.length≤16→∃ s',z0D c k1 x1 k2 x2 s=some s'∧z0L c y k1 x1 k2 x2 s=some s'∧s'.1.length≤16:=by
  intro k1 x1 hk1 k2 x2 ⟨s3,s4⟩ hk2 hs
  dsimp only at hs
  obtain⟨z,z1,z2⟩:=j3U (r:=⟨s4,s3⟩) (by show s3.length≤_; omega) (k1:Int) (k2:Int)
  unfold z0D z0L
  rw [j7R,j1f,hy k1 hk1,hy k2 hk2]
  simp only [Option.bind_some,z1A,z1,decide_eq_true_eq]
  by_cases m1:x1.Mode=1
  ·by_cases m2:x2.Mode=2
   ·by_cases m3:hasP c (k1:Int) (k2:Int)
    ·simp only [m1,m2,m3,if_true,decide_true,Option.bind_some]; exact⟨_,rfl,rfl,by rw [z2]; exact hs⟩
    ·simp only [m1,m2,m3,if_true,if_false,decide_true,decide_false,Option.bind_some]; exact⟨_,rfl,rfl,hs⟩
   ·simp [m1,m2,hs]
  ·simp [m1,hs]
 obtain⟨⟨s1,s2⟩,h1,h2,h3⟩:=z7b (P:=fun s:List Int × Int=>s.1.length≤16) (f:=z2Z c l) (g:=z3g c l y) l 0 (e.Rows,e.N) e2 fun k x s hk _ hs=>by
  obtain⟨s',t1,t2,t3⟩:=z7b (P:=fun s:List Int × Int=>s.1.length≤16) (f:=z0D c k x) (g:=z0L c y k x) l 0 s hs fun k2 x2 s hk2 _ hs=>step k x (by omega) k2 x2 s (by omega) hs
  obtain⟨s3,s4⟩:=s
  exact⟨s',by unfold z2Z; dsimp only; rw [t1]; rfl,by unfold z3g; dsimp only; rw [t2]; rfl,t3⟩
 refine⟨⟨s2,s1⟩,?_,?_,h3⟩
 ·unfold q8z; rw [l1,Option.bind_some,e1,Option.bind_some,h1]; rfl
 ·unfold z0e; rw [l2,Option.bind_some,y2,Option.bind_some,z7a,e1,Option.bind_some,h2]; rfl
end Go.Proofs.YtmblndlpkpaobabGreat
