/- What those partial functions come to: plain lemmas on data; each bears its conditions in its statement. -/
import Derived.Test.YtmblndlpkpaobaaGreatMathNCw
set_option linter.unusedVariables false
set_option linter.unusedSimpArgs false
set_option linter.ambiguousOpen false
set_option linter.unusedSectionVars false
set_option linter.unnecessarySimpa false
set_option linter.unusedVariables false
set_option linter.unusedSimpArgs false
namespace Go.Proofs.YtmblndlpkpaobaaGreat
open Go Go.E
theorem z5l {ρ:Type}{c:ρ}{q:Nat→Bool}{n:Nat}{f:Nat→Unit→Option (Unit ⊕ ρ)}(h:∀ k,k < n→f k ()=some (if q k=true then .inl () else .inr c)):∀ (m k:Nat),k+m=n→findN f k m ()=some (if (List.range' k m).all q=true then .inl () else .inr c)
 | 0,k,_=>rfl
 | m+1,k,hk=>by
  have ih:=z5l h m (k+1) (by omega)
  rw [findN,h k (by omega),Option.bind_some]
  by_cases hq:q k=true
  ·rw [if_pos hq,show (List.range' k (m+1)).all q=(List.range' (k+1) m).all q by simp [List.range'_succ,hq]]
   exact ih
  ·rw [if_neg hq,show (List.range' k (m+1)).all q=false by simp [List.range'_succ,hq]]; rfl
theorem z6N {ρ:Type}{c:ρ}{q:Nat→Bool}{n:Nat}{f:Int→Option (Int ⊕ (Unit ⊕ ρ))}(h:∀ k:Nat,k < n→f (k:Int)=some (if q k=true then .inl ((k+1:Nat):Int) else .inr (.inr c)))(he:f (n:Int)=some (.inr (.inl ()))):∀ (m k:Nat),k+m=n→iterO f (k:Int)=some (if (List.range' k m).all q=true then .inl () else .inr c)
 | 0,k,hk=>by
  obtain rfl:k=n:=by omega
  exact q1t he
 | m+1,k,hk=>by
  have ih:=z6N h he m (k+1) (by omega)
  have h1:=h k (by omega)
  by_cases hq:q k=true
  ·rw [if_pos hq] at h1
   rw [q2b h1,show (List.range' k (m+1)).all q=(List.range' (k+1) m).all q by simp [List.range'_succ,hq]]
   exact ih
  ·rw [if_neg hq] at h1
   rw [q1t h1,show (List.range' k (m+1)).all q=false by simp [List.range'_succ,hq]]; rfl
def knownB (g:Grammar)(r:Rule):Bool:=(List.range' 0 (r.Right.length+1)).all fun k=>(findS g (symAt r (k:Int))).2
theorem z6h (g:Grammar){r:Rule}(hl:ROk r):q9m g r=some (!knownB g r):=by
 have hl' : r.Right.length≤1048576:=hl
 unfold q9m
 rw [q0d (by constructor<;>omega),z5l (c:=true) (n:=r.Right.length+1) (q:=fun k=>(findS g (symAt r (k:Int))).2) (fun k hk=>by
  unfold z2y
  rw [z4q hl,Option.bind_some,q7N,Option.bind_some]
  dsimp only
  rw [← apply_ite some]) (r.Right.length+1) 0 (by omega)]
 unfold knownB
 cases (List.range' 0 (r.Right.length+1)).all fun k=>(findS g (symAt r (k:Int))).2<;>rfl
theorem z6i {g:Grammar}(h:GOk g){r:Rule}(hl:ROk r):q6p g r=some (knownB g r):=by
 have hl' : r.Right.length≤1048576:=hl
 unfold q6p
 have e:=z6N (c:=false) (q:=fun k=>(findS g (symAt r (k:Int))).2) (n:=r.Right.length+1) (f:=q4N g r) (fun k hk=>by
  unfold q4N
  rw [if_pos (by omega),z1i hl,Option.bind_some,q9a h,Option.bind_some]
  dsimp only
  rw [q0d (by constructor<;>omega),← apply_ite some]; rfl) (by
  unfold q4N; rw [if_neg (by omega)]) (r.Right.length+1) 0 (by omega)
 rw [show iterO (q4N g r) 0=_ from e]
 unfold knownB
 cases (List.range' 0 (r.Right.length+1)).all fun k=>(findS g (symAt r (k:Int))).2<;>rfl
theorem z8t (K:List Occurrence)(o:Occurrence):q0o K o=some (decide (o∈K)):=by
 unfold q0o q1E
 rw [q1e (q:=fun x=>decide (o=x)) fun k x hx=>by
  unfold q2e
  by_cases h:o=x
  ·rw [if_pos h,if_pos (by simpa using h)]
  ·rw [if_neg h,if_neg (by simpa using h)]]
 congr 1
 by_cases h:o∈K
 ·rw [decide_eq_true h,List.any_eq_true]; exact⟨o,h,by simp⟩
 ·rw [decide_eq_false h,List.any_eq_false]; intro x hx he; simp at he; exact h (he▸hx)
theorem z6j (K:List Occurrence)(o:Occurrence):q3L K o=some (decide (o∈K)):=by
 unfold q3L
 rw [q0v (c:=true) (q:=fun x=>!decide (x=o)) fun k x hx=>by
  unfold q6f
  by_cases h:x=o
  ·rw [if_pos h,if_neg (by simp [h])]
  ·rw [if_neg h,if_pos (by simp [h])]]
 by_cases h:o∈K
 ·rw [decide_eq_true h,if_neg]; · rfl
  rw [List.all_eq_true]; intro hh; have:=hh o h; simp at this
 ·rw [decide_eq_false h,if_pos]; · rfl
  rw [List.all_eq_true]; intro x hx; simp; exact fun e=>h (e▸hx)
def hasEq (r:Rule)(o:Occurrence):Bool:=r.Equations.any fun q=>decide (q.At=o)
theorem z9p (r:Rule)(o:Occurrence):(eqAt r o).2=hasEq r o:=by
 unfold eqAt hasEq
 cases hf:r.Equations.find? (fun q=>decide (q.At=o)) with
 | none=>rw [List.find?_eq_none] at hf; symm; rw [List.any_eq_false]; exact hf
 | some q=>symm; rw [List.any_eq_true]; exact⟨q,List.mem_of_find?_eq_some hf,List.find?_some (p:=fun q:Equation=>decide (q.At=o)) hf⟩
def missB (g:Grammar)(r:Rule):Bool:=(reqL g r).any fun o=>!hasEq r o
theorem z9q {g:Grammar}(h:GOk g){r:Rule}(hl:ROk r):q9n g r=some (missB g r):=by
 unfold q9n missB
 rw [z8l h hl,Option.bind_some]
 unfold q0Z q1k
 rw [q1e (q:=fun o=>!hasEq r o) fun k o ho=>by
  unfold q2i q8V q0Y q1j
  rw [q1e (q:=fun q:Equation=>decide (q.At=o)) fun k y hy=>by
   unfold q2h q7A
   rw [Option.bind_some]
   by_cases h:y.At=o
   ·rw [decide_eq_true h]; rfl
   ·rw [decide_eq_false h]; rfl]
  rw [Option.bind_some,Option.bind_some,← apply_ite some]; rfl]
 rfl
theorem z9r {g:Grammar}(h:GOk g){r:Rule}(hr:Sz.szd r≤1048576):q6q g r=some (missB g r):=by
 unfold q6q missB
 rw [z8m h (q4i hr),Option.bind_some,q0v (c:=true) (q:=hasEq r) fun k o ho=>by
  unfold q9x
  rw [z8V hr o,Option.bind_some]
  dsimp only
  rw [z9p,← apply_ite some]]
 have e:((reqL g r).all (hasEq r))=!((reqL g r).any fun o=>!hasEq r o):=by rw [z2O]
 rw [e]
 cases (reqL g r).any fun o=>!hasEq r o<;>rfl
def extraB (g:Grammar)(r:Rule):Bool:=(q0K (fun p (x:Equation)=>!decide (x.At∈reqL g r)||p.any fun o=>decide (o.At=x.At)) [] r.Equations).isSome
theorem z8u {g:Grammar}(h:GOk g){r:Rule}(hl:ROk r):z1R g r=some (extraB g r):=by
 unfold z1R extraB
 rw [z8l h hl,Option.bind_some]
 rw [show findL (z0s r (reqL g r)) 0 r.Equations ()=_ from q9b (bad:=fun p (x:Equation)=>!decide (x.At∈reqL g r)||p.any fun o=>decide (o.At=x.At)) (c:=fun _=>true) (all:=r.Equations) (f:=z0s r (reqL g r)) (fun pre x post e=>by
  unfold z0s
  rw [z8t,Option.bind_some]
  cases decide (x.At∈reqL g r) with
  | false=>rfl
  | true=>
   rw [if_pos rfl,q0d (by rw [e]; simp),show r.Equations.take pre.length=pre by rw [e]; simp]
   unfold q1q q1F
   rw [q1e (q:=fun o:Equation=>decide (o.At=x.At)) fun k y hy=>by
    unfold q2E z0T
    rw [Option.bind_some]
    by_cases h:y.At=x.At
    ·rw [decide_eq_true h]; rfl
    ·rw [decide_eq_false h]; rfl]
   rw [Option.bind_some,← apply_ite some]; rfl) r.Equations [] rfl]
 cases q0K (fun p (x:Equation)=>!decide (x.At∈reqL g r)||p.any fun o=>decide (o.At=x.At)) [] r.Equations<;>rfl
theorem z8v {g:Grammar}(h:GOk g){r:Rule}(hr:Sz.szd r≤1048576):q8e g r=some (extraB g r):=by
 have hl:=(eqs_le hr).1
 unfold q8e extraB
 rw [z8m h (q4i hr),Option.bind_some]
 have h1:=(q7O (bad:=fun p (x:Equation)=>!decide (x.At∈reqL g r)||p.any fun o=>decide (o.At=x.At)) (nm:=fun y:Equation=>y.At) (c:=fun _=>true) (all:=r.Equations)
  (f:=fun k x _=>some (if (!decide (x.At∈reqL g r)||(r.Equations.take k).any fun o=>decide (o.At=x.At))=true then .inr true else .inl ())) (h:=q7j (reqL g r)) (fun pre x post e=>by
   rw [show r.Equations.take pre.length=pre by rw [e]; simp]) (fun pre x post e=>by
  unfold q7j
  rw [z6j,Option.bind_some]
  cases decide (x.At∈reqL g r) with
  | false=>rfl
  | true=>
   have hp:pre.length≤1048576:=by
     have:r.Equations.length=pre.length+(post.length+1):=by rw [e]; simp
     omega
   have e2:decide (x.At∈pre.map fun y:Equation=>y.At)=pre.any fun o=>decide (o.At=x.At):=by
    by_cases hm:x.At∈pre.map fun y:Equation=>y.At
    ·rw [decide_eq_true hm]; symm; rw [List.any_eq_true]
     obtain⟨y,hy,he⟩:=List.mem_map.1 hm
     exact⟨y,hy,by simpa using he⟩
    ·rw [decide_eq_false hm]; symm; rw [List.any_eq_false]
     intro y hy he
     exact hm (List.mem_map.2 ⟨y,hy,by simpa using he⟩)
   rw [if_pos rfl,z6j,Option.bind_some,e2,q0d (by rw [List.length_map]; constructor<;>omega),List.map_append,← apply_ite some]; rfl) r.Equations [] rfl).2
 rw [show findL (q7j (reqL g r)) 0 r.Equations []=_ from h1]
 cases q0K (fun p (x:Equation)=>!decide (x.At∈reqL g r)||p.any fun o=>decide (o.At=x.At)) [] r.Equations<;>rfl
def useB (g:Grammar)(r:Rule)(e:Expr):Bool:=(attrs e).all (mayB g r)
theorem z4t {g:Grammar}(h:GOk g){r:Rule}(hl:ROk r){e:Expr}(he:Sz.szd e≤1048576):q6I g r e=some (useB g r e):=by
 unfold q6I useB
 rw [z8U he,Option.bind_some,q0v (c:=false) (q:=mayB g r) fun k x hx=>by
  unfold z2n
  rw [j0r h hl,Option.bind_some,← apply_ite some]]
 cases (attrs e).all (mayB g r)<;>rfl
theorem z9s (g:Grammar){r:Rule}(hl:ROk r){e:Expr}(he:Sz.szd e≤1048576):q7n e g r=some (!useB g r e):=by
 unfold q7n useB
 rw [z6F he,Option.bind_some]
 unfold q0T q1c
 rw [q1e (q:=fun o=>!mayB g r o) fun k o ho=>by
  unfold q2a q7B
  rw [j0q g hl,Option.bind_some,Option.bind_some,← apply_ite some]]
 rw [Option.bind_some,← z2O,Bool.not_not]
def exprsL (r:Rule):List Expr:=r.Equations.map (fun q=>q.Expr)++r.Contributions.flatMap fun q=>[q.Target,q.Value]
theorem z6O {r:Rule}(hr:Sz.szd r≤1048576):q4P r=some (exprsL r):=by
 have hl:=eqs_le hr
 have h1:∀ (xs:List Equation) (i:Nat) (s:List Expr),s.length+xs.length≤1048576→eachL q5u i xs s=some (s++xs.map fun q=>q.Expr):=by
  intro xs
  induction xs with
  | nil=>intro i s _; simp [eachL]
  | cons x xs ih=>
   intro i s hs
   simp only [List.length_cons] at hs
   have e:q5u i x s=some (s++[x.Expr]):=by unfold q5u; rw [q0d (by constructor<;>omega)]
   rw [eachL,e,Option.bind_some,ih _ _ (by simp; omega)]; simp
 have h2:∀ (xs:List Contribution) (i:Nat) (s:List Expr),s.length+2*xs.length≤4194304→eachL q5v i xs s=some (s++xs.flatMap fun q=>[q.Target,q.Value]):=by
  intro xs
  induction xs with
  | nil=>intro i s _; simp [eachL]
  | cons x xs ih=>
   intro i s hs
   simp only [List.length_cons] at hs
   have e:q5v i x s=some (s++[x.Target,x.Value]):=by
    unfold q5v; rw [q0d (by simp only [List.length_cons,List.length_nil]; constructor<;>omega)]
   rw [eachL,e,Option.bind_some,ih _ _ (by simp; omega)]; simp
 unfold q4P exprsL
 rw [h1 _ _ _ (by simpa using hl.1),Option.bind_some,h2 _ _ _ (by simp; omega)]; simp
theorem z9t {r:Rule}{e:Expr}(h:e∈exprsL r):Sz.szd e≤Sz.szd r:=by
 unfold exprsL at h
 rcases List.mem_append.1 h with h | h
 ·obtain⟨q,hq,rfl⟩:=List.mem_map.1 h; exact q8Y hq
 ·obtain⟨q,hq,he⟩:=List.mem_flatMap.1 h
  have:=z0z hq
  simp at he
  rcases he with rfl | rfl
  ·exact this.1
  ·exact this.2
def misB (g:Grammar)(r:Rule):Bool:=!(exprsL r).all (useB g r)
theorem j0s (g:Grammar){r:Rule}(hr:Sz.szd r≤1048576):q9o g r=some (misB g r):=by
 unfold q9o misB
 rw [z6O hr,Option.bind_some]
 unfold q1y q1Q
 rw [q1e (q:=fun e=>!useB g r e) fun k e he=>by
  unfold q2Z
  rw [z9s g (q4i hr) (Nat.le_trans (z9t he) hr),Option.bind_some,← apply_ite some]]
 rw [Option.bind_some,← z2O,Bool.not_not]
theorem j0t {g:Grammar}(h:GOk g){r:Rule}(hr:Sz.szd r≤1048576):q7k g r=some (misB g r):=by
 unfold q7k misB
 rw [q0v (c:=true) (q:=fun q:Equation=>useB g r q.Expr) fun k x hx=>by
  unfold z0o
  rw [z4t h (q4i hr) (Nat.le_trans (q8Y hx) hr),Option.bind_some,← apply_ite some]]
 rw [q0v (c:=true) (q:=fun q:Contribution=>useB g r q.Target&&useB g r q.Value) fun k x hx=>by
  have hs:=z0z hx
  unfold z0p
  rw [z4t h (q4i hr) (Nat.le_trans hs.1 hr),Option.bind_some]
  cases useB g r x.Target with
  | false=>rfl
  | true=>rw [if_pos rfl,z4t h (q4i hr) (Nat.le_trans hs.2 hr),Option.bind_some,← apply_ite some]; rfl]
 have e:(exprsL r).all (useB g r)=((r.Equations.all fun q=>useB g r q.Expr)&&r.Contributions.all fun q=>useB g r q.Target&&useB g r q.Value):=by
  unfold exprsL
  rw [List.all_append,List.all_map,List.all_flatMap]
  congr 1
  congr 1; funext q; simp
 rw [e]
 cases r.Equations.all fun q=>useB g r q.Expr with
 | false=>rfl
 | true=>cases r.Contributions.all fun q=>useB g r q.Target&&useB g r q.Value<;>rfl
end Go.Proofs.YtmblndlpkpaobaaGreat
