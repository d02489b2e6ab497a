/- What those partial functions come to: plain lemmas on data; each bears its conditions in its statement. -/
import Derived.Test.YteefempppabmkacGreatMathNCc
set_option linter.unusedVariables false
set_option linter.unusedSimpArgs false
set_option linter.ambiguousOpen false
set_option linter.unusedSectionVars false
set_option linter.unnecessarySimpa false
set_option linter.unusedVariables false
set_option linter.unusedSimpArgs false
namespace Go.Proofs.YteefempppabmkacGreat
open Go Go.E
theorem j2G {ρ:Type}{c:ρ}{q:Nat→Bool}{n:Nat}{f:Nat→Unit→Option (Unit ⊕ ρ)}(h:∀ k,k < n→f k ()=some (if q k=true then .inl () else .inr c)):∀ (m k:Nat),k+m=n→z4P f k m ()=some (if (List.range' k m).all q=true then .inl () else .inr c)
 | 0,k,_=>rfl
 | m+1,k,hk=>by
  have ih:=j2G h m (k+1) (by omega)
  rw [z4P,h k (by omega),Option.bind_some]
  by_cases hq:q k=true
  ·rw [if_pos hq,show (List.range' k (m+1)).all q=(List.range' (k+1) m).all q by simp [List.range'_succ,hq]]
   exact ih
  ·rw [if_neg hq,show (List.range' k (m+1)).all q=false by simp [List.range'_succ,hq]]; rfl
theorem j4H {ρ:Type}{c:ρ}{q:Nat→Bool}{n:Nat}{f:Int→Option (Int ⊕ (Unit ⊕ ρ))}(h:∀ k:Nat,k < n→f (k:Int)=some (if q k=true then .inl ((k+1:Nat):Int) else .inr (.inr c)))(he:f (n:Int)=some (.inr (.inl ()))):∀ (m k:Nat),k+m=n→q7k f (k:Int)=some (if (List.range' k m).all q=true then .inl () else .inr c)
 | 0,k,hk=>by
  obtain rfl:k=n:=by omega
  exact q3X he
 | m+1,k,hk=>by
  have ih:=j4H h he m (k+1) (by omega)
  have h1:=h k (by omega)
  by_cases hq:q k=true
  ·rw [if_pos hq] at h1
   rw [q5h h1,show (List.range' k (m+1)).all q=(List.range' (k+1) m).all q by simp [List.range'_succ,hq]]
   exact ih
  ·rw [if_neg hq] at h1
   rw [q3X h1,show (List.range' k (m+1)).all q=false by simp [List.range'_succ,hq]]; rfl
def j2H (g:Grammar)(r:Rule):Bool:=(List.range' 0 (r.Right.length+1)).all fun k=>(q7V g (z1u r (k:Int))).2
theorem j3X (g:Grammar){r:Rule}(hl:ROk r):z4I g r=some (!j2H g r):=by
 have hl' : r.Right.length≤1048576:=hl
 unfold z4I
 rw [q2q (by constructor<;>omega),j2G (c:=true) (n:=r.Right.length+1) (q:=fun k=>(q7V g (z1u r (k:Int))).2) (fun k hk=>by
  unfold z9j
  rw [j1E hl,Option.bind_some,z2u,Option.bind_some]
  dsimp only
  rw [← apply_ite some]) (r.Right.length+1) 0 (by omega)]
 unfold j2H
 cases (List.range' 0 (r.Right.length+1)).all fun k=>(q7V g (z1u r (k:Int))).2<;>rfl
theorem j3Y {g:Grammar}(h:GOk g){r:Rule}(hl:ROk r):z0u g r=some (j2H g r):=by
 have hl' : r.Right.length≤1048576:=hl
 unfold z0u
 have e:=j4H (c:=false) (q:=fun k=>(q7V g (z1u r (k:Int))).2) (n:=r.Right.length+1) (f:=q8d g r) (fun k hk=>by
  unfold q8d
  rw [if_pos (by omega),z7p hl,Option.bind_some,z4q h,Option.bind_some]
  dsimp only
  rw [q2q (by constructor<;>omega),← apply_ite some]; rfl) (by
  unfold q8d; rw [if_neg (by omega)]) (r.Right.length+1) 0 (by omega)
 rw [show q7k (q8d g r) 0=_ from e]
 unfold j2H
 cases (List.range' 0 (r.Right.length+1)).all fun k=>(q7V g (z1u r (k:Int))).2<;>rfl
theorem k0H (K:List Occurrence)(o:Occurrence):q2w K o=some (decide (o∈K)):=by
 unfold q2w q4U
 rw [q3d (q:=fun x=>decide (o=x)) fun k x hx=>by
  unfold q4E
  by_cases h:o=x
  ·rw [if_pos h,if_pos (by simpa using h)]
  ·rw [if_neg h,if_neg (by simpa using h)]]
 congr 1
 by_cases h:o∈K
 ·rw [decide_eq_true h,List.any_eq_true]; exact⟨o,h,by simp⟩
 ·rw [decide_eq_false h,List.any_eq_false]; intro x hx he; simp at he; exact h (he▸hx)
theorem j6X (K:List Occurrence)(o:Occurrence):q4y K o=some (decide (o∈K)):=by
 unfold q4y
 rw [q2P (c:=true) (q:=fun x=>!decide (x=o)) fun k x hx=>by
  unfold z1D
  by_cases h:x=o
  ·rw [if_pos h,if_neg (by simp [h])]
  ·rw [if_neg h,if_pos (by simp [h])]]
 by_cases h:o∈K
 ·rw [decide_eq_true h,if_neg]; · rfl
  rw [List.all_eq_true]; intro hh; have:=hh o h; simp at this
 ·rw [decide_eq_false h,if_pos]; · rfl
  rw [List.all_eq_true]; intro x hx; simp; exact fun e=>h (e▸hx)
def j2I (r:Rule)(o:Occurrence):Bool:=r.Equations.any fun q=>decide (q.At=o)
theorem j8E (r:Rule)(o:Occurrence):(eqAt r o).2=j2I r o:=by
 unfold eqAt j2I
 cases hf:r.Equations.find? (fun q=>decide (q.At=o)) with
 | none=>rw [List.find?_eq_none] at hf; symm; rw [List.any_eq_false]; exact hf
 | some q=>symm; rw [List.any_eq_true]; exact⟨q,List.mem_of_find?_eq_some hf,List.find?_some (p:=fun q:Equation=>decide (q.At=o)) hf⟩
def j6Y (g:Grammar)(r:Rule):Bool:=(reqL g r).any fun o=>!j2I r o
theorem j8F {g:Grammar}(h:GOk g){r:Rule}(hl:ROk r):z4J g r=some (j6Y g r):=by
 unfold z4J j6Y
 rw [j3S h hl,Option.bind_some]
 unfold q3w q3K
 rw [q3d (q:=fun o=>!j2I r o) fun k o ho=>by
  unfold q4J z1J q3v q3J
  rw [q3d (q:=fun q:Equation=>decide (q.At=o)) fun k y hy=>by
   unfold q4I q9P
   rw [Option.bind_some]
   by_cases h:y.At=o
   ·rw [decide_eq_true h]; rfl
   ·rw [decide_eq_false h]; rfl]
  rw [Option.bind_some,Option.bind_some,← apply_ite some]; rfl]
 rfl
theorem j8G {g:Grammar}(h:GOk g){r:Rule}(hr:Sz.szd r≤1048576):z0v g r=some (j6Y g r):=by
 unfold z0v j6Y
 rw [j3T h (q5o hr),Option.bind_some,q2P (c:=true) (q:=j2I r) fun k o ho=>by
  unfold z4W
  rw [z8s hr o,Option.bind_some]
  dsimp only
  rw [j8E,← apply_ite some]]
 have e:((reqL g r).all (j2I r))=!((reqL g r).any fun o=>!j2I r o):=by rw [z9A]
 rw [e]
 cases (reqL g r).any fun o=>!j2I r o<;>rfl
def j2J (g:Grammar)(r:Rule):Bool:=(q3e (fun p (x:Equation)=>!decide (x.At∈reqL g r)||p.any fun o=>decide (o.At=x.At)) [] r.Equations).isSome
theorem j6Z {g:Grammar}(h:GOk g){r:Rule}(hl:ROk r):z8r g r=some (j2J g r):=by
 unfold z8r j2J
 rw [j3S h hl,Option.bind_some]
 rw [show q2u (z6q r (reqL g r)) 0 r.Equations ()=_ from z4r (bad:=fun p (x:Equation)=>!decide (x.At∈reqL g r)||p.any fun o=>decide (o.At=x.At)) (c:=fun _=>true) (all:=r.Equations) (f:=z6q r (reqL g r)) (fun pre x post e=>by
  unfold z6q
  rw [k0H,Option.bind_some]
  cases decide (x.At∈reqL g r) with
  | false=>rfl
  | true=>
   rw [if_pos rfl,q2q (by rw [e]; simp),show r.Equations.take pre.length=pre by rw [e]; simp]
   unfold q3T q4i
   rw [q3d (q:=fun o:Equation=>decide (o.At=x.At)) fun k y hy=>by
    unfold q5x z4K
    rw [Option.bind_some]
    by_cases h:y.At=x.At
    ·rw [decide_eq_true h]; rfl
    ·rw [decide_eq_false h]; rfl]
   rw [Option.bind_some,← apply_ite some]; rfl) r.Equations [] rfl]
 cases q3e (fun p (x:Equation)=>!decide (x.At∈reqL g r)||p.any fun o=>decide (o.At=x.At)) [] r.Equations<;>rfl
theorem j7a {g:Grammar}(h:GOk g){r:Rule}(hr:Sz.szd r≤1048576):z2P g r=some (j2J g r):=by
 have hl:=(j9H hr).1
 unfold z2P j2J
 rw [j3T h (q5o hr),Option.bind_some]
 have h1:=(z2v (bad:=fun p (x:Equation)=>!decide (x.At∈reqL g r)||p.any fun o=>decide (o.At=x.At)) (nm:=fun y:Equation=>y.At) (c:=fun _=>true) (all:=r.Equations)
  (f:=fun k x _=>some (if (!decide (x.At∈reqL g r)||(r.Equations.take k).any fun o=>decide (o.At=x.At))=true then .inr true else .inl ())) (h:=z1E (reqL g r)) (fun pre x post e=>by
   rw [show r.Equations.take pre.length=pre by rw [e]; simp]) (fun pre x post e=>by
  unfold z1E
  rw [j6X,Option.bind_some]
  cases decide (x.At∈reqL g r) with
  | false=>rfl
  | true=>
   have hp:pre.length≤1048576:=by
     have:r.Equations.length=pre.length+(post.length+1):=by rw [e]; simp
     omega
   have e2:decide (x.At∈pre.map fun y:Equation=>y.At)=pre.any fun o=>decide (o.At=x.At):=by
    by_cases hm:x.At∈pre.map fun y:Equation=>y.At
    ·rw [decide_eq_true hm]; symm; rw [List.any_eq_true]
     obtain⟨y,hy,he⟩:=List.mem_map.1 hm
     exact⟨y,hy,by simpa using he⟩
    ·rw [decide_eq_false hm]; symm; rw [List.any_eq_false]
     intro y hy he
     exact hm (List.mem_map.2 ⟨y,hy,by simpa using he⟩)
   rw [if_pos rfl,j6X,Option.bind_some,e2,q2q (by rw [List.length_map]; constructor<;>omega),List.map_append,← apply_ite some]; rfl) r.Equations [] rfl).2
 rw [show q2u (z1E (reqL g r)) 0 r.Equations []=_ from h1]
 cases q3e (fun p (x:Equation)=>!decide (x.At∈reqL g r)||p.any fun o=>decide (o.At=x.At)) [] r.Equations<;>rfl
def useB (g:Grammar)(r:Rule)(e:Expr):Bool:=(z8i e).all (mayB g r)
theorem j1H {g:Grammar}(h:GOk g){r:Rule}(hl:ROk r){e:Expr}(he:Sz.szd e≤1048576):z0M g r e=some (useB g r e):=by
 unfold z0M useB
 rw [j4B he,Option.bind_some,q2P (c:=false) (q:=mayB g r) fun k x hx=>by
  unfold z8Z
  rw [k0G h hl,Option.bind_some,← apply_ite some]]
 cases (z8i e).all (mayB g r)<;>rfl
theorem j8H (g:Grammar){r:Rule}(hl:ROk r){e:Expr}(he:Sz.szd e≤1048576):z0e e g r=some (!useB g r e):=by
 unfold z0e useB
 rw [j4A he,Option.bind_some]
 unfold q3m q3A
 rw [q3d (q:=fun o=>!mayB g r o) fun k o ho=>by
  unfold q4B q9Q
  rw [k0F g hl,Option.bind_some,Option.bind_some,← apply_ite some]]
 rw [Option.bind_some,← z9A,Bool.not_not]
def z2x (r:Rule):List Expr:=r.Equations.map (fun q=>q.Expr)++r.Contributions.flatMap fun q=>[q.Target,q.Value]
theorem j4I {r:Rule}(hr:Sz.szd r≤1048576):q8f r=some (z2x r):=by
 have hl:=j9H hr
 have h1:∀ (xs:List Equation) (i:Nat) (s:List Expr),s.length+xs.length≤1048576→q2J q7G i xs s=some (s++xs.map fun q=>q.Expr):=by
  intro xs
  induction xs with
  | nil=>intro i s _; simp [q2J]
  | cons x xs ih=>
   intro i s hs
   simp only [List.length_cons] at hs
   have e:q7G i x s=some (s++[x.Expr]):=by unfold q7G; rw [q2q (by constructor<;>omega)]
   rw [q2J,e,Option.bind_some,ih _ _ (by simp; omega)]; simp
 have h2:∀ (xs:List Contribution) (i:Nat) (s:List Expr),s.length+2*xs.length≤4194304→q2J q7H i xs s=some (s++xs.flatMap fun q=>[q.Target,q.Value]):=by
  intro xs
  induction xs with
  | nil=>intro i s _; simp [q2J]
  | cons x xs ih=>
   intro i s hs
   simp only [List.length_cons] at hs
   have e:q7H i x s=some (s++[x.Target,x.Value]):=by
    unfold q7H; rw [q2q (by simp only [List.length_cons,List.length_nil]; constructor<;>omega)]
   rw [q2J,e,Option.bind_some,ih _ _ (by simp; omega)]; simp
 unfold q8f z2x
 rw [h1 _ _ _ (by simpa using hl.1),Option.bind_some,h2 _ _ _ (by simp; omega)]; simp
theorem j8I {r:Rule}{e:Expr}(h:e∈z2x r):Sz.szd e≤Sz.szd r:=by
 unfold z2x at h
 rcases List.mem_append.1 h with h | h
 ·obtain⟨q,hq,rfl⟩:=List.mem_map.1 h; exact z5C hq
 ·obtain⟨q,hq,he⟩:=List.mem_flatMap.1 h
  have:=z6E hq
  simp at he
  rcases he with rfl | rfl
  ·exact this.1
  ·exact this.2
def misB (g:Grammar)(r:Rule):Bool:=!(z2x r).all (useB g r)
theorem k0I (g:Grammar){r:Rule}(hr:Sz.szd r≤1048576):z4L g r=some (misB g r):=by
 unfold z4L misB
 rw [j4I hr,Option.bind_some]
 unfold q4c q4s
 rw [q3d (q:=fun e=>!useB g r e) fun k e he=>by
  unfold q5P
  rw [j8H g (q5o hr) (Nat.le_trans (j8I he) hr),Option.bind_some,← apply_ite some]]
 rw [Option.bind_some,← z9A,Bool.not_not]
theorem k0J {g:Grammar}(h:GOk g){r:Rule}(hr:Sz.szd r≤1048576):z1F g r=some (misB g r):=by
 unfold z1F misB
 rw [q2P (c:=true) (q:=fun q:Equation=>useB g r q.Expr) fun k x hx=>by
  unfold z6j
  rw [j1H h (q5o hr) (Nat.le_trans (z5C hx) hr),Option.bind_some,← apply_ite some]]
 rw [q2P (c:=true) (q:=fun q:Contribution=>useB g r q.Target&&useB g r q.Value) fun k x hx=>by
  have hs:=z6E hx
  unfold z6k
  rw [j1H h (q5o hr) (Nat.le_trans hs.1 hr),Option.bind_some]
  cases useB g r x.Target with
  | false=>rfl
  | true=>rw [if_pos rfl,j1H h (q5o hr) (Nat.le_trans hs.2 hr),Option.bind_some,← apply_ite some]; rfl]
 have e:(z2x r).all (useB g r)=((r.Equations.all fun q=>useB g r q.Expr)&&r.Contributions.all fun q=>useB g r q.Target&&useB g r q.Value):=by
  unfold z2x
  rw [List.all_append,List.all_map,List.all_flatMap]
  congr 1
  congr 1; funext q; simp
 rw [e]
 cases r.Equations.all fun q=>useB g r q.Expr with
 | false=>rfl
 | true=>cases r.Contributions.all fun q=>useB g r q.Target&&useB g r q.Value<;>rfl
end Go.Proofs.YteefempppabmkacGreat
