/- What those partial functions come to: plain lemmas on data; each bears its conditions in its statement. -/
import Derived.Test.YtmblndlpkpaobabGreatMathNCa
set_option linter.unusedVariables false
set_option linter.unusedSimpArgs false
set_option linter.ambiguousOpen false
set_option linter.unusedSectionVars false
set_option linter.unnecessarySimpa false
set_option linter.unusedVariables false
set_option linter.unusedSimpArgs false
namespace Go.Proofs.YtmblndlpkpaobabGreat
open Go Go.E
theorem z9o {ρ:Type}{c:ρ}{q:Nat→Bool}{n:Nat}{f:Nat→Unit→Option (Unit ⊕ ρ)}(h:∀ k,k < n→f k ()=some (if q k=true then .inl () else .inr c)):∀ (m k:Nat),k+m=n→z1D f k m ()=some (if (List.range' k m).all q=true then .inl () else .inr c)
 | 0,k,_=>rfl
 | m+1,k,hk=>by
  have ih:=z9o h m (k+1) (by omega)
  rw [z1D,h k (by omega),Option.bind_some]
  by_cases hq:q k=true
  ·rw [if_pos hq,show (List.range' k (m+1)).all q=(List.range' (k+1) m).all q by simp [List.range'_succ,hq]]
   exact ih
  ·rw [if_neg hq,show (List.range' k (m+1)).all q=false by simp [List.range'_succ,hq]]; rfl
theorem j4g {ρ:Type}{c:ρ}{q:Nat→Bool}{n:Nat}{f:Int→Option (Int ⊕ (Unit ⊕ ρ))}(h:∀ k:Nat,k < n→f (k:Int)=some (if q k=true then .inl ((k+1:Nat):Int) else .inr (.inr c)))(he:f (n:Int)=some (.inr (.inl ()))):∀ (m k:Nat),k+m=n→q5u f (k:Int)=some (if (List.range' k m).all q=true then .inl () else .inr c)
 | 0,k,hk=>by
  obtain rfl:k=n:=by omega
  exact q2X he
 | m+1,k,hk=>by
  have ih:=j4g h he m (k+1) (by omega)
  have h1:=h k (by omega)
  by_cases hq:q k=true
  ·rw [if_pos hq] at h1
   rw [q3V h1,show (List.range' k (m+1)).all q=(List.range' (k+1) m).all q by simp [List.range'_succ,hq]]
   exact ih
  ·rw [if_neg hq] at h1
   rw [q2X h1,show (List.range' k (m+1)).all q=false by simp [List.range'_succ,hq]]; rfl
def j0m (g:Grammar)(r:Rule):Bool:=(List.range' 0 (r.Right.length+1)).all fun k=>(q6z g (q7W r (k:Int))).2
theorem j3u (g:Grammar){r:Rule}(hl:ROk r):z4F g r=some (!j0m g r):=by
 have hl' : r.Right.length≤1048576:=hl
 unfold z4F
 rw [q2B (by constructor<;>omega),z9o (c:=true) (n:=r.Right.length+1) (q:=fun k=>(q6z g (q7W r (k:Int))).2) (fun k hk=>by
  unfold z8L
  rw [z9n hl,Option.bind_some,z1B,Option.bind_some]
  dsimp only
  rw [← apply_ite some]) (r.Right.length+1) 0 (by omega)]
 unfold j0m
 cases (List.range' 0 (r.Right.length+1)).all fun k=>(q6z g (q7W r (k:Int))).2<;>rfl
theorem j3v {g:Grammar}(h:GOk g){r:Rule}(hl:ROk r):z0x g r=some (j0m g r):=by
 have hl' : r.Right.length≤1048576:=hl
 unfold z0x
 have e:=j4g (c:=false) (q:=fun k=>(q6z g (q7W r (k:Int))).2) (n:=r.Right.length+1) (f:=q7Z g r) (fun k hk=>by
  unfold q7Z
  rw [if_pos (by omega),z5B hl,Option.bind_some,z2K h,Option.bind_some]
  dsimp only
  rw [q2B (by constructor<;>omega),← apply_ite some]; rfl) (by
  unfold q7Z; rw [if_neg (by omega)]) (r.Right.length+1) 0 (by omega)
 rw [show q5u (q7Z g r) 0=_ from e]
 unfold j0m
 cases (List.range' 0 (r.Right.length+1)).all fun k=>(q6z g (q7W r (k:Int))).2<;>rfl
theorem k0s (K:List Occurrence)(o:Occurrence):q4H K o=some (decide (o∈K)):=by
 unfold q4H q3n
 rw [q5o (q:=fun x=>decide (o=x)) fun k x hx=>by
  unfold q3d
  by_cases h:o=x
  ·rw [if_pos h,if_pos (by simpa using h)]
  ·rw [if_neg h,if_neg (by simpa using h)]]
 congr 1
 by_cases h:o∈K
 ·rw [decide_eq_true h,List.any_eq_true]; exact⟨o,h,by simp⟩
 ·rw [decide_eq_false h,List.any_eq_false]; intro x hx he; simp at he; exact h (he▸hx)
theorem j6K (K:List Occurrence)(o:Occurrence):z1c K o=some (decide (o∈K)):=by
 unfold z1c
 rw [q3L (c:=true) (q:=fun x=>!decide (x=o)) fun k x hx=>by
  unfold z7n
  by_cases h:x=o
  ·rw [if_pos h,if_neg (by simp [h])]
  ·rw [if_neg h,if_pos (by simp [h])]]
 by_cases h:o∈K
 ·rw [decide_eq_true h,if_neg]; · rfl
  rw [List.all_eq_true]; intro hh; have:=hh o h; simp at this
 ·rw [decide_eq_false h,if_pos]; · rfl
  rw [List.all_eq_true]; intro x hx; simp; exact fun e=>h (e▸hx)
def j2l (r:Rule)(o:Occurrence):Bool:=r.Equations.any fun q=>decide (q.At=o)
theorem j8m (r:Rule)(o:Occurrence):(eqAt r o).2=j2l r o:=by
 unfold eqAt j2l
 cases hf:r.Equations.find? (fun q=>decide (q.At=o)) with
 | none=>rw [List.find?_eq_none] at hf; symm; rw [List.any_eq_false]; exact hf
 | some q=>symm; rw [List.any_eq_true]; exact⟨q,List.mem_of_find?_eq_some hf,List.find?_some (p:=fun q:Equation=>decide (q.At=o)) hf⟩
def j6L (g:Grammar)(r:Rule):Bool:=(reqL g r).any fun o=>!j2l r o
theorem j8n {g:Grammar}(h:GOk g){r:Rule}(hl:ROk r):z4G g r=some (j6L g r):=by
 unfold z4G j6L
 rw [j6A h hl,Option.bind_some]
 unfold q3A q3S
 rw [q5o (q:=fun o=>!j2l r o) fun k o ho=>by
  unfold q5a z1P q3z q3R
  rw [q5o (q:=fun q:Equation=>decide (q.At=o)) fun k y hy=>by
   unfold q4Z q9S
   rw [Option.bind_some]
   by_cases h:y.At=o
   ·rw [decide_eq_true h]; rfl
   ·rw [decide_eq_false h]; rfl]
  rw [Option.bind_some,Option.bind_some,← apply_ite some]; rfl]
 rfl
theorem j8o {g:Grammar}(h:GOk g){r:Rule}(hr:Sz.szd r≤1048576):z0y g r=some (j6L g r):=by
 unfold z0y j6L
 rw [j6B h (q6R hr),Option.bind_some,q3L (c:=true) (q:=j2l r) fun k o ho=>by
  unfold z4P
  rw [j1h hr o,Option.bind_some]
  dsimp only
  rw [j8m,← apply_ite some]]
 have e:((reqL g r).all (j2l r))=!((reqL g r).any fun o=>!j2l r o):=by rw [z9i]
 rw [e]
 cases (reqL g r).any fun o=>!j2l r o<;>rfl
def j2m (g:Grammar)(r:Rule):Bool:=(q3i (fun p (x:Equation)=>!decide (x.At∈reqL g r)||p.any fun o=>decide (o.At=x.At)) [] r.Equations).isSome
theorem j6M {g:Grammar}(h:GOk g){r:Rule}(hl:ROk r):z8c g r=some (j2m g r):=by
 unfold z8c j2m
 rw [j6A h hl,Option.bind_some]
 rw [show q2I (z6f r (reqL g r)) 0 r.Equations ()=_ from z4t (bad:=fun p (x:Equation)=>!decide (x.At∈reqL g r)||p.any fun o=>decide (o.At=x.At)) (c:=fun _=>true) (all:=r.Equations) (f:=z6f r (reqL g r)) (fun pre x post e=>by
  unfold z6f
  rw [k0s,Option.bind_some]
  cases decide (x.At∈reqL g r) with
  | false=>rfl
  | true=>
   rw [if_pos rfl,q2B (by rw [e]; simp),show r.Equations.take pre.length=pre by rw [e]; simp]
   unfold q4c q4s
   rw [q5o (q:=fun o:Equation=>decide (o.At=x.At)) fun k y hy=>by
    unfold q5z z4H
    rw [Option.bind_some]
    by_cases h:y.At=x.At
    ·rw [decide_eq_true h]; rfl
    ·rw [decide_eq_false h]; rfl]
   rw [Option.bind_some,← apply_ite some]; rfl) r.Equations [] rfl]
 cases q3i (fun p (x:Equation)=>!decide (x.At∈reqL g r)||p.any fun o=>decide (o.At=x.At)) [] r.Equations<;>rfl
theorem j6N {g:Grammar}(h:GOk g){r:Rule}(hr:Sz.szd r≤1048576):z2W g r=some (j2m g r):=by
 have hl:=(j9n hr).1
 unfold z2W j2m
 rw [j6B h (q6R hr),Option.bind_some]
 have h1:=(z2L (bad:=fun p (x:Equation)=>!decide (x.At∈reqL g r)||p.any fun o=>decide (o.At=x.At)) (nm:=fun y:Equation=>y.At) (c:=fun _=>true) (all:=r.Equations)
  (f:=fun k x _=>some (if (!decide (x.At∈reqL g r)||(r.Equations.take k).any fun o=>decide (o.At=x.At))=true then .inr true else .inl ())) (h:=z1L (reqL g r)) (fun pre x post e=>by
   rw [show r.Equations.take pre.length=pre by rw [e]; simp]) (fun pre x post e=>by
  unfold z1L
  rw [j6K,Option.bind_some]
  cases decide (x.At∈reqL g r) with
  | false=>rfl
  | true=>
   have hp:pre.length≤1048576:=by
     have:r.Equations.length=pre.length+(post.length+1):=by rw [e]; simp
     omega
   have e2:decide (x.At∈pre.map fun y:Equation=>y.At)=pre.any fun o=>decide (o.At=x.At):=by
    by_cases hm:x.At∈pre.map fun y:Equation=>y.At
    ·rw [decide_eq_true hm]; symm; rw [List.any_eq_true]
     obtain⟨y,hy,he⟩:=List.mem_map.1 hm
     exact⟨y,hy,by simpa using he⟩
    ·rw [decide_eq_false hm]; symm; rw [List.any_eq_false]
     intro y hy he
     exact hm (List.mem_map.2 ⟨y,hy,by simpa using he⟩)
   rw [if_pos rfl,j6K,Option.bind_some,e2,q2B (by rw [List.length_map]; constructor<;>omega),List.map_append,← apply_ite some]; rfl) r.Equations [] rfl).2
 rw [show q2I (z1L (reqL g r)) 0 r.Equations []=_ from h1]
 cases q3i (fun p (x:Equation)=>!decide (x.At∈reqL g r)||p.any fun o=>decide (o.At=x.At)) [] r.Equations<;>rfl
def useB (g:Grammar)(r:Rule)(e:Expr):Bool:=(attrs e).all (mayB g r)
theorem j1o {g:Grammar}(h:GOk g){r:Rule}(hl:ROk r){e:Expr}(he:Sz.szd e≤1048576):z0R g r e=some (useB g r e):=by
 unfold z0R useB
 rw [j4a he,Option.bind_some,q3L (c:=false) (q:=mayB g r) fun k x hx=>by
  unfold z8y
  rw [k0r h hl,Option.bind_some,← apply_ite some]]
 cases (attrs e).all (mayB g r)<;>rfl
theorem j8p (g:Grammar){r:Rule}(hl:ROk r){e:Expr}(he:Sz.szd e≤1048576):z0d e g r=some (!useB g r e):=by
 unfold z0d useB
 rw [j3Z he,Option.bind_some]
 unfold q3u q3G
 rw [q5o (q:=fun o=>!mayB g r o) fun k o ho=>by
  unfold q4T q9U
  rw [k0q g hl,Option.bind_some,Option.bind_some,← apply_ite some]]
 rw [Option.bind_some,← z9i,Bool.not_not]
def z9p (r:Rule):List Expr:=r.Equations.map (fun q=>q.Expr)++r.Contributions.flatMap fun q=>[q.Target,q.Value]
theorem j8q {r:Rule}(hr:Sz.szd r≤1048576):q9T r=some (z9p r):=by
 have hl:=j9n hr
 have h1:∀ (xs:List Equation) (i:Nat) (s:List Expr),s.length+xs.length≤1048576→q2G q7A i xs s=some (s++xs.map fun q=>q.Expr):=by
  intro xs
  induction xs with
  | nil=>intro i s _; simp [q2G]
  | cons x xs ih=>
   intro i s hs
   simp only [List.length_cons] at hs
   have e:q7A i x s=some (s++[x.Expr]):=by unfold q7A; rw [q2B (by constructor<;>omega)]
   rw [q2G,e,Option.bind_some,ih _ _ (by simp; omega)]; simp
 have h2:∀ (xs:List Contribution) (i:Nat) (s:List Expr),s.length+2*xs.length≤4194304→q2G q7B i xs s=some (s++xs.flatMap fun q=>[q.Target,q.Value]):=by
  intro xs
  induction xs with
  | nil=>intro i s _; simp [q2G]
  | cons x xs ih=>
   intro i s hs
   simp only [List.length_cons] at hs
   have e:q7B i x s=some (s++[x.Target,x.Value]):=by
    unfold q7B; rw [q2B (by simp only [List.length_cons,List.length_nil]; constructor<;>omega)]
   rw [q2G,e,Option.bind_some,ih _ _ (by simp; omega)]; simp
 unfold q9T z9p
 rw [h1 _ _ _ (by simpa using hl.1),Option.bind_some,h2 _ _ _ (by simp; omega)]; simp
theorem j8r {r:Rule}{e:Expr}(h:e∈z9p r):Sz.szd e≤Sz.szd r:=by
 unfold z9p at h
 rcases List.mem_append.1 h with h | h
 ·obtain⟨q,hq,rfl⟩:=List.mem_map.1 h; exact z5A hq
 ·obtain⟨q,hq,he⟩:=List.mem_flatMap.1 h
  have:=z6v hq
  simp at he
  rcases he with rfl | rfl
  ·exact this.1
  ·exact this.2
def misB (g:Grammar)(r:Rule):Bool:=!(z9p r).all (useB g r)
theorem k0t (g:Grammar){r:Rule}(hr:Sz.szd r≤1048576):z4I g r=some (misB g r):=by
 unfold z4I misB
 rw [j8q hr,Option.bind_some]
 unfold q4j q4I
 rw [q5o (q:=fun e=>!useB g r e) fun k e he=>by
  unfold q5K
  rw [j8p g (q6R hr) (Nat.le_trans (j8r he) hr),Option.bind_some,← apply_ite some]]
 rw [Option.bind_some,← z9i,Bool.not_not]
theorem k0u {g:Grammar}(h:GOk g){r:Rule}(hr:Sz.szd r≤1048576):z1M g r=some (misB g r):=by
 unfold z1M misB
 rw [q3L (c:=true) (q:=fun q:Equation=>useB g r q.Expr) fun k x hx=>by
  unfold z6b
  rw [j1o h (q6R hr) (Nat.le_trans (z5A hx) hr),Option.bind_some,← apply_ite some]]
 rw [q3L (c:=true) (q:=fun q:Contribution=>useB g r q.Target&&useB g r q.Value) fun k x hx=>by
  have hs:=z6v hx
  unfold z6c
  rw [j1o h (q6R hr) (Nat.le_trans hs.1 hr),Option.bind_some]
  cases useB g r x.Target with
  | false=>rfl
  | true=>rw [if_pos rfl,j1o h (q6R hr) (Nat.le_trans hs.2 hr),Option.bind_some,← apply_ite some]; rfl]
 have e:(z9p r).all (useB g r)=((r.Equations.all fun q=>useB g r q.Expr)&&r.Contributions.all fun q=>useB g r q.Target&&useB g r q.Value):=by
  unfold z9p
  rw [List.all_append,List.all_map,List.all_flatMap]
  congr 1
  congr 1; funext q; simp
 rw [e]
 cases r.Equations.all fun q=>useB g r q.Expr with
 | false=>rfl
 | true=>cases r.Contributions.all fun q=>useB g r q.Target&&useB g r q.Value<;>rfl
end Go.Proofs.YtmblndlpkpaobabGreat
