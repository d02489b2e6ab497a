/- What those partial functions come to: plain lemmas on data; each bears its conditions in its statement. -/
import Derived.Test.YtipikecbeganoaaGreatMath3
set_option linter.unusedVariables false
set_option linter.unusedSimpArgs false
set_option linter.ambiguousOpen false
set_option linter.unusedSectionVars false
set_option linter.unnecessarySimpa false
namespace Go.Proofs.YtipikecbeganoaaGreat
open Go Go.E
theorem j3w {ρ:Type}{c:ρ}{q:Nat→Bool}{n:Nat}{f:Nat→Unit→Option (Unit ⊕ ρ)}(h:∀ k,k<n→f k ()=some (if q k=true then .inl () else .inr c)):∀ (m k:Nat),k+m=n→findN f k m ()=some (if (List.range' k m).all q=true then .inl () else .inr c)
 | 0,k,_=>rfl
 | m+1,k,hk=>by
  have ih:=j3w h m (k+1) (by omega)
  rw[findN,h k (by omega),bsS]
  by_cases hq:q k=true
  ·rw[ifP hq,show (List.range' k (m+1)).all q=(List.range' (k+1) m).all q by simp[List.range'_succ,hq]]
   exact ih
  ·rw[ifN hq,show (List.range' k (m+1)).all q=false by simp[List.range'_succ,hq]];rfl
theorem k0U {ρ:Type}{c:ρ}{q:Nat→Bool}{n:Nat}{f:Int→Option (Int ⊕ (Unit ⊕ ρ))}(h:∀ k:Nat,k<n→f (k:Int)=some (if q k=true then .inl ((k+1:Nat):Int) else .inr (.inr c)))(he:f (n:Int)=some (.inr (.inl ()))):∀ (m k:Nat),k+m=n→q5g f (k:Int)=some (if (List.range' k m).all q=true then .inl () else .inr c)
 | 0,k,hk=>by
  obtain rfl:k=n:=by omega
  exact q3U he
 | m+1,k,hk=>by
  have ih:=k0U h he m (k+1) (by omega)
  have h1:=h k (by omega)
  by_cases hq:q k=true
  ·rw[ifP hq] at h1
   rw[q4Q h1,show (List.range' k (m+1)).all q=(List.range' (k+1) m).all q by simp[List.range'_succ,hq]]
   exact ih
  ·rw[ifN hq] at h1
   rw[q3U h1,show (List.range' k (m+1)).all q=false by simp[List.range'_succ,hq]];rfl
def j4O (g:Gm_)(r:Rule):Bool:=(List.range' 0 (r.Right.length+1)).all fun k=>(q7v g (q9r r (k:Int))).2
theorem j9H (g:Gm_){r:Rule}(hl:ROk r):z4U g r=some (!j4O g r):=by
 have hl' : r.Right.length≤1048576:=hl
 unfold z4U
 rw[q3N (by constructor<;>omega),j3w (c:=true) (n:=r.Right.length+1) (q:=fun k=>(q7v g (q9r r (k:Int))).2) (fun k hk=>by
  unfold j2C
  rw[j3r hl,bsS,z3L,bsS]
  dsimp only
  rw[← apply_ite some]) (r.Right.length+1) 0 (by omega)]
 unfold j4O
 cases (List.range' 0 (r.Right.length+1)).all fun k=>(q7v g (q9r r (k:Int))).2<;>rfl
theorem j9I {g:Gm_}(h:GOk g){r:Rule}(hl:ROk r):z0w g r=some (j4O g r):=by
 have hl' : r.Right.length≤1048576:=hl
 unfold z0w
 have e:=k0U (c:=false) (q:=fun k=>(q7v g (q9r r (k:Int))).2) (n:=r.Right.length+1) (f:=q9y g r) (fun k hk=>by
  unfold q9y
  rw[ifP (by omega),z8J hl,bsS,z5m h,bsS]
  dsimp only
  rw[q3N (by constructor<;>omega),← apply_ite some];rfl) (by
  unfold q9y;rw[ifN (by omega)]) (r.Right.length+1) 0 (by omega)
 rw[show q5g (q9y g r) 0=_ from e]
 unfold j4O
 cases (List.range' 0 (r.Right.length+1)).all fun k=>(q7v g (q9r r (k:Int))).2<;>rfl
theorem k8F (K:List Oc)(o:Oc):q5l K o=some (decide (o∈K)):=by
 unfold q5l q4u
 rw[q6m (q:=fun x=>decide (o=x)) fun k x hx=>by
  unfold q4G
  by_cases h:o=x
  ·rw[ifP h,ifP (by simpa using h)]
  ·rw[ifN h,ifN (by simpa using h)]]
 congr 1
 by_cases h:o∈K
 ·rw[decide_eq_true h,List.any_eq_true];exact⟨o,h,by simp⟩
 ·rw[decide_eq_false h,List.any_eq_false];intro x hx he;simp at he;exact h (he▸hx)
theorem k4k (K:List Oc)(o:Oc):z1l K o=some (decide (o∈K)):=by
 unfold z1l
 rw[q5j (c:=true) (q:=fun x=>!decide (x=o)) fun k x hx=>by
  unfold j0M
  by_cases h:x=o
  ·rw[ifP h,ifN (by simp[h])]
  ·rw[ifN h,ifP (by simp[h])]]
 by_cases h:o∈K
 ·rw[decide_eq_true h,ifN];· rfl
  rw[List.all_eq_true];intro hh;have:=hh o h;simp at this
 ·rw[decide_eq_false h,ifP];· rfl
  rw[List.all_eq_true];intro x hx;simp;exact fun e=>h (e▸hx)
def j7V (r:Rule)(o:Oc):Bool:=r.Equations.any fun q=>decide (q.At=o)
theorem k6q (r:Rule)(o:Oc):(eqAt r o).2=j7V r o:=by
 unfold eqAt j7V
 cases hf:r.Equations.find? (fun q=>decide (q.At=o)) with
 | none=>rw[List.find?_eq_none] at hf;symm;rw[List.any_eq_false];exact hf
 | some q=>symm;rw[List.any_eq_true];exact⟨q,List.mem_of_find?_eq_some hf,List.find?_some (p:=fun q:Eqn=>decide (q.At=o)) hf⟩
def k4l (g:Gm_)(r:Rule):Bool:=(reqL g r).any fun o=>!j7V r o
theorem k6r {g:Gm_}(h:GOk g){r:Rule}(hl:ROk r):z4V g r=some (k4l g r):=by
 unfold z4V k4l
 rw[k3O h hl,bsS]
 unfold q4s q4F
 rw[q6m (q:=fun o=>!j7V r o) fun k o ho=>by
  unfold q6f z4b q4r q4E
  rw[q6m (q:=fun q:Eqn=>decide (q.At=o)) fun k y hy=>by
   unfold q6e z1S
   rw[bsS]
   by_cases h:y.At=o
   ·rw[decide_eq_true h];rfl
   ·rw[decide_eq_false h];rfl]
  rw[bsS,bsS,← apply_ite some];rfl]
 rfl
theorem k6s {g:Gm_}(h:GOk g){r:Rule}(hr:Sz.szd r≤1048576):z0y g r=some (k4l g r):=by
 unfold z0y k4l
 rw[k3P h (q8F hr),bsS,q5j (c:=true) (q:=j7V r) fun k o ho=>by
  unfold z7R
  rw[j6f hr o,bsS]
  dsimp only
  rw[k6q,← apply_ite some]]
 have e:((reqL g r).all (j7V r))=!((reqL g r).any fun o=>!j7V r o):=by rw[j3u]
 rw[e]
 cases (reqL g r).any fun o=>!j7V r o<;>rfl
def j7W (g:Gm_)(r:Rule):Bool:=(q4M (fun p (x:Eqn)=>!decide (x.At∈reqL g r)||p.any fun o=>decide (o.At=x.At)) [] r.Equations).isSome
theorem k4m {g:Gm_}(h:GOk g){r:Rule}(hl:ROk r):z9q g r=some (j7W g r):=by
 unfold z9q j7W
 rw[k3O h hl,bsS]
 rw[show findL (z9p r (reqL g r)) 0 r.Equations ()=_ from z7i (bad:=fun p (x:Eqn)=>!decide (x.At∈reqL g r)||p.any fun o=>decide (o.At=x.At)) (c:=fun _=>true) (all:=r.Equations) (f:=z9p r (reqL g r)) (fun pre x post e=>by
  unfold z9p
  rw[k8F,bsS]
  cases decide (x.At∈reqL g r) with
  | false=>rfl
  | true=>
   rw[ifP rfl,q3N (by rw[e];simp),show r.Equations.take pre.length=pre by rw[e];simp]
   unfold q4J q4X
   rw[q6m (q:=fun o:Eqn=>decide (o.At=x.At)) fun k y hy=>by
    unfold q6x z7H
    rw[bsS]
    by_cases h:y.At=x.At
    ·rw[decide_eq_true h];rfl
    ·rw[decide_eq_false h];rfl]
   rw[bsS,← apply_ite some];rfl) r.Equations [] rfl]
 cases q4M (fun p (x:Eqn)=>!decide (x.At∈reqL g r)||p.any fun o=>decide (o.At=x.At)) [] r.Equations<;>rfl
theorem k4n {g:Gm_}(h:GOk g){r:Rule}(hr:Sz.szd r≤1048576):z3s g r=some (j7W g r):=by
 have hl:=(k7z hr).1
 unfold z3s j7W
 rw[k3P h (q8F hr),bsS]
 have h1:=(z5n (bad:=fun p (x:Eqn)=>!decide (x.At∈reqL g r)||p.any fun o=>decide (o.At=x.At)) (nm:=fun y:Eqn=>y.At) (c:=fun _=>true) (all:=r.Equations)
  (f:=fun k x _=>some (if (!decide (x.At∈reqL g r)||(r.Equations.take k).any fun o=>decide (o.At=x.At))=true then .inr true else .inl ())) (h:=z3Y (reqL g r)) (fun pre x post e=>by
   rw[show r.Equations.take pre.length=pre by rw[e];simp]) (fun pre x post e=>by
  unfold z3Y
  rw[k4k,bsS]
  cases decide (x.At∈reqL g r) with
  | false=>rfl
  | true=>
   have hp:pre.length≤1048576:=by
     have:r.Equations.length=pre.length+(post.length+1):=by rw[e];simp
     omega
   have e2:decide (x.At∈pre.map fun y:Eqn=>y.At)=pre.any fun o=>decide (o.At=x.At):=by
    by_cases hm:x.At∈pre.map fun y:Eqn=>y.At
    ·rw[decide_eq_true hm];symm;rw[List.any_eq_true]
     obtain⟨y,hy,he⟩:=List.mem_map.1 hm
     exact⟨y,hy,by simpa using he⟩
    ·rw[decide_eq_false hm];symm;rw[List.any_eq_false]
     intro y hy he
     exact hm (List.mem_map.2 ⟨y,hy,by simpa using he⟩)
   rw[ifP rfl,k4k,bsS,e2,q3N (by rw[lnM];constructor<;>omega),List.map_append,← apply_ite some];rfl) r.Equations [] rfl).2
 rw[show findL (z3Y (reqL g r)) 0 r.Equations []=_ from h1]
 cases q4M (fun p (x:Eqn)=>!decide (x.At∈reqL g r)||p.any fun o=>decide (o.At=x.At)) [] r.Equations<;>rfl
def useB (g:Gm_)(r:Rule)(e:Expr):Bool:=(attrs e).all (mayB g r)
theorem j6o {g:Gm_}(h:GOk g){r:Rule}(hl:ROk r){e:Expr}(he:Sz.szd e≤1048576):z1m g r e=some (useB g r e):=by
 unfold z1m useB
 rw[k0M he,bsS,q5j (c:=false) (q:=mayB g r) fun k x hx=>by
  unfold j2y
  rw[k8r h hl,bsS,← apply_ite some]]
 cases (attrs e).all (mayB g r)<;>rfl
theorem k6t (g:Gm_){r:Rule}(hl:ROk r){e:Expr}(he:Sz.szd e≤1048576):z2g e g r=some (!useB g r e):=by
 unfold z2g useB
 rw[k0L he,bsS]
 unfold q4n q4y
 rw[q6m (q:=fun o=>!mayB g r o) fun k o ho=>by
  unfold q5X z1T
  rw[k8q g hl,bsS,bsS,← apply_ite some]]
 rw[bsS,← j3u,Bool.not_not]
def j3x (r:Rule):List Expr:=r.Equations.map (fun q=>q.Expr)++r.Contributions.flatMap fun q=>[q.Target,q.Value]
theorem k6u {r:Rule}(hr:Sz.szd r≤1048576):q9E r=some (j3x r):=by
 have hl:=k7z hr
 have h1:∀ (xs:List Eqn) (i:Nat) (s:List Expr),s.length+xs.length≤1048576→eachL z0O i xs s=some (s++xs.map fun q=>q.Expr):=by
  intro xs
  induction xs with
  | nil=>intro i s _;simp[eachL]
  | cons x xs ih=>
   intro i s hs
   simp only[lnC] at hs
   have e:z0O i x s=some (s++[x.Expr]):=by unfold z0O;rw[q3N (by constructor<;>omega)]
   rw[eachL,e,bsS,ih _ _ (by simp;omega)];simp
 have h2:∀ (xs:List Cn) (i:Nat) (s:List Expr),s.length+2*xs.length≤4194304→eachL z0P i xs s=some (s++xs.flatMap fun q=>[q.Target,q.Value]):=by
  intro xs
  induction xs with
  | nil=>intro i s _;simp[eachL]
  | cons x xs ih=>
   intro i s hs
   simp only[lnC] at hs
   have e:z0P i x s=some (s++[x.Target,x.Value]):=by
    unfold z0P;rw[q3N (by simp only[lnC,List.length_nil];constructor<;>omega)]
   rw[eachL,e,bsS,ih _ _ (by simp;omega)];simp
 unfold q9E j3x
 rw[h1 _ _ _ (by simpa using hl.1),bsS,h2 _ _ _ (by simp;omega)];simp
theorem k6v {r:Rule}{e:Expr}(h:e∈j3x r):Sz.szd e≤Sz.szd r:=by
 unfold j3x at h
 rcases List.mem_append.1 h with h|h
 ·obtain⟨q,hq,rfl⟩:=List.mem_map.1 h;exact z8I hq
 ·obtain⟨q,hq,he⟩:=List.mem_flatMap.1 h
  have:=z9M hq
  simp at he
  rcases he with rfl|rfl
  ·exact this.1
  ·exact this.2
def misB (g:Gm_)(r:Rule):Bool:=!(j3x r).all (useB g r)
theorem k8G (g:Gm_){r:Rule}(hr:Sz.szd r≤1048576):z4W g r=some (misB g r):=by
 unfold z4W misB
 rw[k6u hr,bsS]
 unfold q4U q5e
 rw[q6m (q:=fun e=>!useB g r e) fun k e he=>by
  unfold q6S
  rw[k6t g (q8F hr) (Nat.le_trans (k6v he) hr),bsS,← apply_ite some]]
 rw[bsS,← j3u,Bool.not_not]
theorem k8H {g:Gm_}(h:GOk g){r:Rule}(hr:Sz.szd r≤1048576):z2d g r=some (misB g r):=by
 unfold z2d misB
 rw[q5j (c:=true) (q:=fun q:Eqn=>useB g r q.Expr) fun k x hx=>by
  unfold z9k
  rw[j6o h (q8F hr) (Nat.le_trans (z8I hx) hr),bsS,← apply_ite some]]
 rw[q5j (c:=true) (q:=fun q:Cn=>useB g r q.Target&&useB g r q.Value) fun k x hx=>by
  have hs:=z9M hx
  unfold z9l
  rw[j6o h (q8F hr) (Nat.le_trans hs.1 hr),bsS]
  cases useB g r x.Target with
  | false=>rfl
  | true=>rw[ifP rfl,j6o h (q8F hr) (Nat.le_trans hs.2 hr),bsS,← apply_ite some];rfl]
 have e:(j3x r).all (useB g r)=((r.Equations.all fun q=>useB g r q.Expr)&&r.Contributions.all fun q=>useB g r q.Target&&useB g r q.Value):=by
  unfold j3x
  rw[List.all_append,List.all_map,List.all_flatMap]
  congr 1
  congr 1;funext q;simp
 rw[e]
 cases r.Equations.all fun q=>useB g r q.Expr with
 | false=>rfl
 | true=>cases r.Contributions.all fun q=>useB g r q.Target&&useB g r q.Value<;>rfl
def z5p (g:Gm_)(r:Rule)(k:Int):Bool:=if k=3 then !j4O g r else if k=4 then k4l g r else if k=5 then j7W g r else misB g r
theorem k4o {g:Gm_}(h:GOk g){r:Rule}(hr:Sz.szd r≤1048576)(k:Int):z2e g r k=some (z5p g r k):=by
 unfold z2e z5p
 by_cases h3:k=3
 ·rw[ifP h3,ifP h3,j9I h (q8F hr)];rfl
 ·rw[ifN h3,ifN h3]
  by_cases h4:k=4
  ·rw[ifP h4,ifP h4,k6s h hr];rfl
  ·rw[ifN h4,ifN h4]
   by_cases h5:k=5
   ·rw[ifP h5,ifP h5,k4n h hr];rfl
   ·rw[ifN h5,ifN h5,k8H h hr];rfl
theorem j7X {g:Gm_}(h:GOk g){r:Rule}(hr:Sz.szd r≤1048576)(k:Int)(i:Nat):z1U g k i r ()=some (if z5p g r k=true then .inr (k,(i:Int)) else .inl ()):=by
 unfold z1U z5p
 by_cases h3:k=3
 ·rw[ifP h3,ifP h3,j9H g (q8F hr),bsS,← apply_ite some]
 ·rw[ifN h3,ifN h3]
  by_cases h4:k=4
  ·rw[ifP h4,ifP h4,k6r h (q8F hr),bsS,← apply_ite some]
  ·rw[ifN h4,ifN h4]
   by_cases h5:k=5
   ·rw[ifP h5,ifP h5,k4m h (q8F hr),bsS,← apply_ite some]
   ·rw[ifN h5,ifN h5,k8G g hr,bsS,← apply_ite some]
theorem k4p {g:Gm_}(h:GOk g){r:Rule}(hr:Sz.szd r≤1048576)(k:Int)(i:Nat):z1N g k i r ()=some (if z5p g r k=true then .inr (k,(i:Int)) else .inl ()):=by
 unfold z1N
 rw[k4o h hr,bsS,← apply_ite some]
theorem j3y {α σ ρ:Type}{f g:Nat→α→σ→Option (σ ⊕ ρ)}:∀ {xs:List α} {i:Nat} {s:σ},(∀ k x s,x∈xs→f k x s=g k x s)→findL f i xs s=findL g i xs s
 | [],_,_,_=>rfl
 | x::xs,i,s,h=>by
  rw[findL,findL,h i x s (by simp)]
  congr 1;funext z
  cases z with
  | inl s'=>exact j3y fun k y s hy=>h k y s (by simp[hy])
  | inr r=>rfl
theorem j9J {g:Gm_}(h:Sz.szd g≤1048576)(k:Int):z1O g k=q6k g k:=by
 unfold z1O q6k
 have e:findL (z1N g k) 0 g.Rules ()=findL (z1U g k) 0 g.Rules ():=j3y fun i x _ hx=>by
  have hr:=Nat.le_trans (z3N hx) h
  rw[k4p (z4C h) hr,j7X (z4C h) hr]
 rw[e]
def q7S (g:Gm_)(k:Int):Option (Int×Int):=match g.Rules.findIdx? fun r=>z5p g r k with
 | some i=>some (k,(i:Int))
 | none=>none
theorem z7j {α ρ:Type}{q:α→Bool}{c:Nat→ρ}:∀ {xs:List α} {i:Nat} {f:Nat→α→Unit→Option (Unit ⊕ ρ)},(∀ k x,x∈xs→f k x ()=some (if q x=true then .inr (c k) else .inl ())) →
  findL f i xs ()=some (match xs.findIdx? q with|some j=>.inr (c (i+j))|none=>.inl ())
 | [],_,_,_=>rfl
 | x::xs,i,f,h=>by
  rw[findL,h i x (by simp),bsS,List.findIdx?_cons]
  by_cases hq:q x=true
  ·rw[ifP hq,ifP hq];rfl
  ·rw[ifN hq,ifN hq]
   have ih:=z7j (q:=q) (c:=c) (xs:=xs) (i:=i+1) (f:=f) fun k y hy=>h k y (by simp[hy])
   dsimp only
   rw[ih]
   cases xs.findIdx? q with
   | none=>rfl
   | some j=>simp only[Option.map_some];rw[show i+1+j=i+(j+1) by omega]
def z7k (g:Gm_):Int×Int:=
 if !decide (1≤g.Symbols.length∧g.Symbols.length≤4) || !decide (1≤g.Rules.length∧g.Rules.length≤8) then (1,0)
 else if 0≤z7Y g then (1,z7Y g)
 else if (g.Symbols.getD 0 zS).Attributes.any fun a=>decide (a.Mode=1) then (2,0)
 else (q7S g 3 <|> (q7S g 4 <|> (q7S g 5 <|> q7S g 6))).getD (0,0)
theorem j3z {g:Gm_}(h:Sz.szd g≤1048576):(q5g (q6k g) 3).bind (onr (fun r2=>some r2) fun ()=>some (0,0))=some ((q7S g 3 <|> (q7S g 4 <|> (q7S g 5 <|> q7S g 6))).getD (0,0)):=by
 have hstep:∀ k:Int,3≤k→k≤6→q6k g k=match q7S g k with|some z=>some (.inr (.inr z))|none=>some (.inl (k+1)):=by
  intro k h3 h6
  unfold q6k q7S
  rw[ifP h6,z7j (q:=fun r=>z5p g r k) (c:=fun i=>(k,(i:Int))) fun i x hx=>j7X (z4C h) (Nat.le_trans (z3N hx) h) k i]
  cases g.Rules.findIdx? fun r=>z5p g r k with
  | some i=>simp
  | none=>rw[bsS];dsimp only[onr];rw[q3N (by constructor<;>omega)]
 have hend:q6k g 7=some (.inr (.inl ())):=by unfold q6k;rw[ifN (by omega)]
 have h3:=hstep 3 (by omega) (by omega)
 have h4:=hstep 4 (by omega) (by omega)
 have h5:=hstep 5 (by omega) (by omega)
 have h6:=hstep 6 (by omega) (by omega)
 cases s3:q7S g 3 with
 | some z=>rw[s3] at h3;rw[q3U h3];rfl
 | none=>
  rw[s3] at h3
  rw[q4Q h3,show (3:Int)+1=4 by rfl]
  cases s4:q7S g 4 with
  | some z=>rw[s4] at h4;rw[q3U h4];rfl
  | none=>
   rw[s4] at h4
   rw[q4Q h4,show (4:Int)+1=5 by rfl]
   cases s5:q7S g 5 with
   | some z=>rw[s5] at h5;rw[q3U h5];rfl
   | none=>
    rw[s5] at h5
    rw[q4Q h5,show (5:Int)+1=6 by rfl]
    cases s6:q7S g 6 with
    | some z=>rw[s6] at h6;rw[q3U h6];rfl
    | none=>
     rw[s6] at h6
     rw[q4Q h6,show (6:Int)+1=7 by rfl,q3U hend];rfl
theorem k4q {g:Gm_}(h:Sz.szd g≤1048576):z0Q g=some (z7k g):=by
 unfold z0Q z7k
 rw[j0W,bsS]
 by_cases h1:1≤g.Symbols.length∧g.Symbols.length≤4
 ·rw[decide_eq_true (by omega),ifP rfl,j0W,bsS,decide_eq_true h1]
  by_cases h2:1≤g.Rules.length∧g.Rules.length≤8
  ·rw[decide_eq_true (by omega),ifP rfl,k4i h,bsS,decide_eq_true h2]
   simp only[Bool.not_true,Bool.or_self,Bool.false_eq_true,if_false]
   by_cases h3:0≤z7Y g
   ·rw[ifP h3,ifP h3]
   ·rw[ifN h3,ifN h3,List.getD_eq_getElem?_getD,List.getElem?_eq_getElem (by omega:0<g.Symbols.length),bsS,Option.getD_some]
    unfold q4m q4x
    rw[q6m (q:=fun a:At_=>decide (a.Mode=1)) fun k y hy=>by
     unfold q5W z0N
     rw[bsS,← apply_ite some]]
    rw[bsS]
    by_cases h4:(g.Symbols[0].Attributes.any fun a=>decide (a.Mode=1))=true
    ·rw[ifP h4,ifP h4]
    ·rw[ifN h4,ifN h4]
     exact j3z h
  ·rw[decide_eq_false (by omega),decide_eq_false h2];rfl
 ·rw[decide_eq_false (by omega),decide_eq_false h1];rfl
theorem k4r {g:Gm_}(h:Sz.szd g≤1048576):z0z g=some (z7k g):=by
 unfold z0z z7k
 rw[z7b,bsS]
 by_cases h1:1≤g.Symbols.length∧g.Symbols.length≤4
 ·rw[decide_eq_true (by omega),ifP rfl,z7b,bsS,decide_eq_true h1]
  by_cases h2:1≤g.Rules.length∧g.Rules.length≤8
  ·rw[decide_eq_true (by omega),ifP rfl,k4j h,bsS,decide_eq_true h2]
   simp only[Bool.not_true,Bool.or_self,Bool.false_eq_true,if_false]
   by_cases h3:0≤z7Y g
   ·rw[ifP h3,ifP h3]
   ·rw[ifN h3,ifN h3,List.getD_eq_getElem?_getD,List.getElem?_eq_getElem (by omega:0<g.Symbols.length),bsS,Option.getD_some]
    rw[q5j (c:=((2:Int),(0:Int))) (q:=fun a:At_=>!decide (a.Mode=1)) fun k y hy=>by
     unfold z7S
     by_cases hm:y.Mode=1
     ·rw[ifP hm,ifN (by simp[hm])]
     ·rw[ifN hm,ifP (by simp[hm])]]
    have e:(g.Symbols[0].Attributes.all fun a=>!decide (a.Mode=1))=!(g.Symbols[0].Attributes.any fun a=>decide (a.Mode=1)):=by rw[List.not_any_eq_all_not]
    rw[e]
    cases (g.Symbols[0].Attributes.any fun a=>decide (a.Mode=1)) with
    | true=>rfl
    | false=>
     rw[Bool.not_false,ifP rfl,bsS,z4q,ifN (by simp),show z1O g=q6k g from funext fun k=>j9J h k]
     exact j3z h
  ·rw[decide_eq_false (by omega),decide_eq_false h2];rfl
 ·rw[decide_eq_false (by omega),decide_eq_false h1];rfl
theorem z5q {α:Type}{bad:List α→α→Bool}:∀ (xs pre:List α),q4M bad pre xs=none→∀ k x,xs[k]?=some x→bad (pre++xs.take k) x=false
 | [],pre,h,k,x,hx=>by simp at hx
 | y::xs,pre,h,k,x,hx=>by
  rw[q4M] at h
  by_cases hb:bad pre y=true
  ·rw[ifP hb] at h;cases h
  ·rw[ifN hb] at h
   cases k with
   | zero=>simp at hx;subst hx;simpa using hb
   | succ k=>
    have:=z5q xs (pre++[y]) h k x (by simpa using hx)
    simpa using this
structure Shape (g:Gm_):Prop where
 syms:1≤g.Symbols.length∧g.Symbols.length≤4
 rules:1≤g.Rules.length∧g.Rules.length≤8
 sym:q4M z5o [] g.Symbols=none
 rule:q4M z1F [] g.Rules=none
 brk:∀ k:Int,3≤k→k≤6→∀ r∈g.Rules,z5p g r k=false
 j6X:∀ y a,g.Symbols[0]?=some y→a∈y.Attributes→a.Mode≠1
theorem k0V {g:Gm_}(h:(z7k g).1=0):Shape g:=by
 unfold z7k at h
 by_cases h1:1≤g.Symbols.length∧g.Symbols.length≤4
 ·by_cases h2:1≤g.Rules.length∧g.Rules.length≤8
  ·rw[decide_eq_true h1,decide_eq_true h2] at h
   simp only[Bool.not_true,Bool.or_self,Bool.false_eq_true,if_false] at h
   by_cases h3:0≤z7Y g
   ·rw[ifP h3] at h;simp at h
   ·rw[ifN h3] at h
    by_cases h4:((g.Symbols.getD 0 zS).Attributes.any fun a=>decide (a.Mode=1))=true
    ·rw[ifP h4] at h;simp at h
    ·rw[ifN h4] at h
     have hf:q4M z5o [] g.Symbols=none∧q4M z1F [] g.Rules=none:=by
      unfold z7Y at h3
      cases e1:q4M z5o [] g.Symbols with
      | some k=>rw[e1] at h3;exact absurd (Int.natCast_nonneg k) h3
      | none=>
       cases e2:q4M z1F [] g.Rules with
       | some k=>rw[e1,e2] at h3;exact absurd (Int.natCast_nonneg k) h3
       | none=>exact⟨rfl,rfl⟩
     have hk:∀ k:Int,q7S g k=none→∀ r∈g.Rules,z5p g r k=false:=by
      intro k hk r hr
      unfold q7S at hk
      cases e:g.Rules.findIdx? fun r=>z5p g r k with
      | some i=>rw[e] at hk;cases hk
      | none=>
       rw[List.findIdx?_eq_none_iff] at e
       exact e r hr
     have hc:∀ k:Int,3≤k→∀ z,q7S g k=some z→z.1≠0:=by
      intro k h3 z hz
      unfold q7S at hz
      cases e:g.Rules.findIdx? fun r=>z5p g r k with
      | none=>rw[e] at hz;cases hz
      | some i=>rw[e] at hz;cases hz;show k≠0;omega
     have n3:q7S g 3=none:=by
      cases e:q7S g 3 with
      | none=>rfl
      | some z=>rw[e] at h;exact absurd h (hc 3 (by omega) z e)
     rw[n3] at h
     have n4:q7S g 4=none:=by
      cases e:q7S g 4 with
      | none=>rfl
      | some z=>rw[e] at h;exact absurd h (hc 4 (by omega) z e)
     rw[n4] at h
     have n5:q7S g 5=none:=by
      cases e:q7S g 5 with
      | none=>rfl
      | some z=>rw[e] at h;exact absurd h (hc 5 (by omega) z e)
     rw[n5] at h
     have n6:q7S g 6=none:=by
      cases e:q7S g 6 with
      | none=>rfl
      | some z=>rw[e] at h;exact absurd h (hc 6 (by omega) z e)
     refine⟨h1,h2,hf.1,hf.2,fun k k3 k6=>?_,fun y a hy ha hm=>h4 ?_⟩
     ·have:k=3∨k=4∨k=5∨k=6:=by omega
      rcases this with rfl|rfl|rfl|rfl
      ·exact hk _ n3
      ·exact hk _ n4
      ·exact hk _ n5
      ·exact hk _ n6
     ·rw[List.getD_eq_getElem?_getD,hy,List.any_eq_true]
      exact⟨a,ha,by simpa using hm⟩
  ·rw[decide_eq_false h2] at h;simp at h
 ·rw[decide_eq_false h1] at h;simp at h
theorem Shape.ruleB {g:Gm_}(h:Shape g){r:Rule}(hr:r∈g.Rules):ruleB r=true:=by
 obtain⟨k,hk⟩:=List.getElem?_of_mem hr
 have:=z5q _ _ h.rule k r hk
 unfold z1F at this
 rw[Bool.or_eq_false_iff] at this
 simpa using this.1
theorem Shape.symB {g:Gm_}(h:Shape g){y:Symbol}(hy:y∈g.Symbols):symB y=true:=by
 obtain⟨k,hk⟩:=List.getElem?_of_mem hy
 have:=z5q _ _ h.sym k y hk
 unfold z5o at this
 rw[Bool.or_eq_false_iff] at this
 simpa using this.1
theorem Shape.pos {g:Gm_}(h:Shape g){r:Rule}(hr:r∈g.Rules){q:Eqn}(hq:q∈r.Equations):0≤q.At.Pos∧q.At.Pos≤(r.Right.length:Int):=by
 have:=h.ruleB hr
 unfold Go.Proofs.YtipikecbeganoaaGreat.ruleB at this
 simp only[Bool.and_eq_true,List.all_eq_true] at this
 have:=this.2.2.2.1 q hq
 unfold eqnB at this
 simp only[Bool.and_eq_true,decide_eq_true_eq] at this
 exact this.2.2
def typK (g:Gm_)(r:Rule)(k n p t:Int)(sy nm:ByteArray)(ts:List Int):Int:=
 if k=1 then t else if k=2 then (if r.Literal=true then 1 else 0) else if k=3 then (z1j g r ⟨p,nm⟩).1.Type_
 else if k=4 then (if ts.length=2∧ts.getD 0 0=(opT n).1∧ts.getD 1 0=(opT n).2.1 then (opT n).2.2 else 0)
 else if k=5 then (if ts.length=3∧ts.getD 0 0=3∧ts.getD 1 0=ts.getD 2 0 then ts.getD 1 0 else 0)
 else if k=6 then (if 0≤p∧p≤(r.Right.length:Int) then 4 else 0) else if k=7 then 4
 else if k=8 then (if ts.length=1∧ts.getD 0 0=4 then (z5l (q7v g sy).1 nm).1.Type_ else 0) else 0
mutual
def typE (g:Gm_)(r:Rule):Expr→Int
 | ⟨k,n,p,t,sy,nm,a⟩=>typK g r k n p t sy nm (k6w g r a)
def k6w (g:Gm_)(r:Rule):List Expr→List Int
 | []=>[]
 | x::xs=>typE g r x::k6w g r xs
end
theorem k0W (g:Gm_)(r:Rule):∀ l,k6w g r l=l.map (typE g r)
 | []=>rfl
 | x::xs=>by rw[k6w,k0W g r xs];rfl
theorem k4s (g:Gm_)(r:Rule)(e:Expr):typE g r e=typK g r e.Kind e.N e.Pos e.Type_ e.Symbol e.Name (e.Args.map (typE g r)):=by
 cases e;rw[typE,k0W]
theorem j7Y {y:Symbol}{s:ByteArray}(h:(z5l y s).2≠true):(z5l y s).1=zA:=by
 unfold z5l at h ⊢
 cases hf:y.Attributes.find? (fun a=>decide (a.Name=s)) with
 | none=>rfl
 | some a=>rw[hf] at h;exact absurd rfl h
theorem j9K {g:Gm_}(h:GOk g)(s nm:ByteArray):q6O g s nm=some (z5l (q7v g s).1 nm).1.Type_:=by
 unfold q6O
 rw[z5m h,bsS]
 try dsimp only
 rw[j3q,bsS]
 try dsimp only
 by_cases hb:(z5l (q7v g s).1 nm).2=true
 ·rw[ifP hb]
 ·rw[ifN hb,j7Y hb];rfl
theorem k6x (g:Gm_){r:Rule}(hl:ROk r)(e:Expr):∀ m,fuE e≤m→Sz.szd e≤1048576→q7W m g r e=some (typE g r e):=by
 induction e using z2M with
 | h e ih=>
  intro m hm hs
  obtain⟨m,rfl⟩:∃ q,m=q+1:=⟨m-1,by have:=z7W e;omega⟩
  show z0R (q7W m) g r e=_
  have hlen:e.Args.length≤1048576:=by have:=q6X e;have:=q4P e.Args;omega
  have hloop:∀ (xs:List Expr) (i:Nat) (s:List Int),(∀ x∈xs,x∈e.Args)→s.length+xs.length≤1048576→eachL (z1V (q7W m) g r) i xs s=some (s++xs.map (typE g r)):=by
   intro xs
   induction xs with
   | nil=>intro i s _ _;simp[eachL]
   | cons x xs ihx=>
    intro i s hx hn
    simp only[lnC] at hn
    have e1:z1V (q7W m) g r i x s=some (s++[typE g r x]):=by
     unfold z1V
     have hxe:=hx x (by simp)
     rw[ih x hxe m (by have:=z7X hxe;omega) (by have:=k3H hxe;omega),bsS,q3N (by constructor<;>omega)]
    rw[eachL,e1,bsS,ihx _ _ (fun y hy=>hx y (by simp[hy])) (by simp;omega)];simp
  unfold z0R
  rw[hloop e.Args 0 [] (fun _ h=>h) (by simpa using hlen),bsS,List.nil_append,k4s]
  generalize e.Args.map (typE g r)=ts
  unfold typK
  by_cases k1:e.Kind=1
  ·rw[ifP k1,ifP k1]
  rw[ifN k1,ifN k1]
  by_cases k2:e.Kind=2
  ·rw[ifP k2,ifP k2,bsS]
   by_cases hL:r.Literal=true
   ·rw[ifP hL,ifP hL]
   ·rw[ifN hL,ifN hL]
    simp[k2]
  rw[ifN k2,ifN k2,bsS,ifN (by simp)]
  by_cases k3:e.Kind=3
  ·rw[ifP k3,ifP k3,j0v g hl];rfl
  rw[ifN k3,ifN k3]
  by_cases k4:e.Kind=4
  ·rw[ifP k4,ifP k4,bsS]
   by_cases hn:ts.length=2
   ·obtain⟨a,b,rfl⟩:∃ a b,ts=[a,b]:=by
     match ts,hn with
     | [a,b],_=>exact⟨a,b,rfl⟩
    rw[ifP (by simp),k8y,bsS]
    simp only[List.getElem?_cons_zero,List.getElem?_cons_succ,bsS,List.getD_cons_zero,List.getD_cons_succ]
    by_cases ha:a=(opT e.N).1
    ·rw[ifP ha,bsS]
     by_cases hb:b=(opT e.N).2.1
     ·rw[ifP (by simp[hb]),ifP ⟨hn,ha,hb⟩]
     ·rw[ifN (by simp[hb]),ifN fun h=>hb h.2.2]
    ·rw[ifN ha,bsS,ifN (by simp),ifN fun h=>ha h.2.1]
   ·have hz:(if ts.length=2∧ts.getD 0 0=(opT e.N).1∧ts.getD 1 0=(opT e.N).2.1 then (opT e.N).2.2 else 0)=0:=ifN fun h=>hn h.1
    rw[hz,ifN (by simp;omega)]
    simp[k4]
  rw[ifN k4,ifN k4,bsS,ifN (by simp)]
  by_cases k5:e.Kind=5
  ·rw[ifP k5,ifP k5,bsS]
   by_cases hn:ts.length=3
   ·obtain⟨a,b,c,rfl⟩:∃ a b c,ts=[a,b,c]:=by
     match ts,hn with
     | [a,b,c],_=>exact⟨a,b,c,rfl⟩
    rw[ifP (by simp)]
    simp only[List.getElem?_cons_zero,List.getElem?_cons_succ,bsS,List.getD_cons_zero,List.getD_cons_succ]
    by_cases ha:a=3
    ·rw[ifP ha]
     by_cases hb:b=c
     ·rw[ifP hb,ifP ⟨hn,ha,hb⟩]
     ·rw[ifN hb,ifN fun h=>hb h.2.2]
    ·rw[ifN ha,ifN fun h=>ha h.2.1]
   ·have hz:(if ts.length=3∧ts.getD 0 0=3∧ts.getD 1 0=ts.getD 2 0 then ts.getD 1 0 else 0)=0:=ifN fun h=>hn h.1
    rw[hz,ifN (by simp;omega)]
    simp[k5]
  rw[ifN k5,ifN k5,bsS,ifN (by simp)]
  by_cases k6:e.Kind=6
  ·rw[ifP k6,ifP k6,j0W,bsS,bsS]
   by_cases hp:0≤e.Pos∧e.Pos≤(r.Right.length:Int)
   ·rw[decide_eq_true hp,ifP hp];rfl
   ·rw[decide_eq_false hp,ifN hp]
    simp[k6]
  rw[ifN k6,ifN k6,bsS,ifN (by simp),bsS]
  by_cases k7:e.Kind=7
  ·rw[ifP (by simp[k7]),ifP k7]
  rw[ifN (by simp[k7]),ifN k7]
  by_cases k8:e.Kind=8
  ·rw[ifP k8,ifP k8,bsS]
   by_cases hn:ts.length=1
   ·obtain⟨a,rfl⟩:∃ a,ts=[a]:=by
     match ts,hn with
     | [a],_=>exact⟨a,rfl⟩
    rw[ifP (by simp)]
    simp only[List.getElem?_cons_zero,bsS,List.getD_cons_zero]
    by_cases ha:a=4
    ·rw[ifP (by simp[ha]),ifP ⟨hn,ha⟩,z3L,bsS]
     try dsimp only
     rw[z9K];rfl
    ·rw[ifN (by simp[ha]),ifN fun h=>ha h.2]
   ·rw[ifN (by simp;omega),ifN fun h=>hn h.1];rfl
  rw[ifN k8,ifN k8];rfl
theorem j9L (g:Gm_){r:Rule}(hl:ROk r){e:Expr}(hs:Sz.szd e≤1048576):z0S g r e=some (typE g r e):=q8s (fuE e) fun m hm=>k6x g hl e m hm hs
theorem k6y {g:Gm_}(h:GOk g){r:Rule}(hl:ROk r)(e:Expr):∀ m,fuE e≤m→q9a m g r e=some (typE g r e):=by
 induction e using z2M with
 | h e ih=>
  intro m hm
  obtain⟨m,rfl⟩:∃ q,m=q+1:=⟨m-1,by have:=z7W e;omega⟩
  show z0A (q9a m) g r e=_
  have hx:∀ x∈e.Args,q9a m g r x=some (typE g r x):=fun x hxe=>ih x hxe m (by have:=z7X hxe;omega)
  unfold z0A
  rw[k4s]
  unfold typK
  by_cases k1:e.Kind=1
  ·rw[ifP k1,ifP k1]
  rw[ifN k1,ifN k1]
  by_cases k2:e.Kind=2
  ·rw[ifP k2,ifP k2,← apply_ite some]
  rw[ifN k2,ifN k2]
  by_cases k3:e.Kind=3
  ·rw[ifP k3,ifP k3,z7b,bsS]
   unfold z1j
   by_cases hp:0≤e.Pos∧e.Pos≤(r.Right.length:Int)
   ·rw[ifP (by simpa using hp),ifP hp,z8J hl,bsS,j9K h];rfl
   ·rw[ifN (by simpa using hp),ifN hp];rfl
  rw[ifN k3,ifN k3]
  by_cases k4:e.Kind=4
  ·rw[ifP k4,ifP k4]
   unfold j1L
   rw[k8z,bsS]
   try dsimp only
   by_cases hn:e.Args.length=2
   ·obtain⟨a,b,hab⟩:∃ a b,e.Args=[a,b]:=by
     match e.Args,hn with
     | [a,b],_=>exact⟨a,b,rfl⟩
    rw[hab] at hx
    rw[hab,ifP (by simp)]
    simp only[List.getElem?_cons_zero,List.getElem?_cons_succ,bsS,List.map_cons,List.map_nil,List.getD_cons_zero,List.getD_cons_succ]
    rw[hx a (by simp),bsS]
    by_cases ha:typE g r a=(opT e.N).1
    ·rw[ifP ha,hx b (by simp),bsS]
     by_cases hb:typE g r b=(opT e.N).2.1
     ·rw[ifP hb,ifP ⟨by simp,ha,hb⟩];rfl
     ·rw[ifN hb,ifN fun h=>hb h.2.2];rfl
    ·rw[ifN ha,ifN fun h=>ha h.2.1];rfl
   ·rw[ifN (by omega),ifN fun h=>hn (by simpa using h.1)];rfl
  rw[ifN k4,ifN k4]
  by_cases k5:e.Kind=5
  ·rw[ifP k5,ifP k5]
   unfold j1M
   by_cases hn:e.Args.length=3
   ·obtain⟨a,b,c,hab⟩:∃ a b c,e.Args=[a,b,c]:=by
     match e.Args,hn with
     | [a,b,c],_=>exact⟨a,b,c,rfl⟩
    rw[hab] at hx
    rw[hab,ifP (by simp)]
    simp only[List.getElem?_cons_zero,List.getElem?_cons_succ,bsS,List.map_cons,List.map_nil,List.getD_cons_zero,List.getD_cons_succ]
    rw[hx a (by simp),bsS]
    by_cases ha:typE g r a=3
    ·rw[ifP ha,hx b (by simp),bsS,hx c (by simp),bsS]
     by_cases hb:typE g r b=typE g r c
     ·rw[ifP hb,ifP ⟨by simp,ha,hb⟩];rfl
     ·rw[ifN hb,ifN fun h=>hb h.2.2];rfl
    ·rw[ifN ha,ifN fun h=>ha h.2.1];rfl
   ·rw[ifN (by omega),ifN fun h=>hn (by simpa using h.1)];rfl
  rw[ifN k5,ifN k5]
  by_cases k6:e.Kind=6
  ·rw[ifP k6,ifP k6,z7b,bsS]
   by_cases hp:0≤e.Pos∧e.Pos≤(r.Right.length:Int)
   ·rw[ifP (by simpa using hp),ifP hp]
   ·rw[ifN (by simpa using hp),ifN hp]
  rw[ifN k6,ifN k6]
  by_cases k7:e.Kind=7
  ·rw[ifP k7,ifP k7]
  rw[ifN k7,ifN k7]
  by_cases k8:e.Kind=8
  ·rw[ifP k8,ifP k8]
   by_cases hn:e.Args.length=1
   ·obtain⟨a,hab⟩:∃ a,e.Args=[a]:=by
     match e.Args,hn with
     | [a],_=>exact⟨a,rfl⟩
    rw[hab] at hx
    rw[hab,ifP (by simp)]
    simp only[List.getElem?_cons_zero,bsS,List.map_cons,List.map_nil,List.getD_cons_zero]
    rw[hx a (by simp),bsS]
    by_cases ha:typE g r a=4
    ·rw[ifP ha,ifP ⟨by simp,ha⟩,j9K h];rfl
    ·rw[ifN ha,ifN fun h=>ha h.2]
   ·rw[ifN (by omega),ifN fun h=>hn (by simpa using h.1)]
  rw[ifN k8,ifN k8]
theorem j9M {g:Gm_}(h:GOk g){r:Rule}(hl:ROk r)(e:Expr):z0B g r e=some (typE g r e):=q8s (fuE e) fun m hm=>k6y h hl e m hm
def conT (g:Gm_)(r:Rule)(q:Cn):Bool:=(decide (typE g r q.Target=4)&&decide (typE g r q.Value=2))&&decide ((z5l (q7v g q.Symbol).1 q.Name).1.Mode=3)
def typR (g:Gm_)(r:Rule):Bool:=(r.Equations.all fun q=>decide (typE g r q.Expr=(z1j g r q.At).1.Type_))&&r.Contributions.all (conT g r)
theorem k6z (g:Gm_){r:Rule}(hr:Sz.szd r≤1048576):z3y g r=some (!typR g r):=by
 have hl:=q8F hr
 unfold z3y typR
 rw[q5j (c:=true) (q:=fun q:Eqn=>decide (typE g r q.Expr=(z1j g r q.At).1.Type_)) fun k x hx=>by
  unfold j0N
  rw[j0v g hl,bsS]
  try dsimp only
  rw[j9L g hl (Nat.le_trans (z8I hx) hr),bsS]
  by_cases hp:typE g r x.Expr=(z1j g r x.At).1.Type_
  ·rw[ifP hp,ifP (by simpa using hp)]
  ·rw[ifN hp,ifN (by simpa using hp)]]
 rw[q5j (c:=true) (q:=conT g r) fun k x hx=>by
  have hs:=z9M hx
  unfold j0O conT
  rw[z3L,bsS]
  try dsimp only
  rw[z9K,bsS]
  try dsimp only
  rw[j9L g hl (Nat.le_trans hs.1 hr),bsS]
  by_cases h1:typE g r x.Target=4
  ·rw[ifP h1,j9L g hl (Nat.le_trans hs.2 hr),bsS,bsS,decide_eq_true h1]
   cases decide (typE g r x.Value=2) with
   | false=>rfl
   | true=>
    rw[Bool.not_true,ifN (by simp),bsS]
    cases decide ((z5l (q7v g x.Symbol).1 x.Name).1.Mode=3)<;>rfl
  ·rw[ifN h1,decide_eq_false h1];rfl]
 cases r.Equations.all fun q=>decide (typE g r q.Expr=(z1j g r q.At).1.Type_) with
 | false=>rfl
 | true=>cases r.Contributions.all (conT g r)<;>rfl
theorem k6A {g:Gm_}(h:GOk g){r:Rule}(hr:Sz.szd r≤1048576)(hp:∀ q∈r.Equations,0≤q.At.Pos∧q.At.Pos≤(r.Right.length:Int)):z4O g r=some (typR g r):=by
 have hl:=q8F hr
 unfold z4O typR
 rw[q5j (c:=false) (q:=fun q:Eqn=>decide (typE g r q.Expr=(z1j g r q.At).1.Type_)) fun k x hx=>by
  unfold j2z
  rw[j9M h hl,bsS,z8J hl,bsS,j9K h,bsS]
  have e:(z5l (q7v g (q9r r x.At.Pos)).1 x.At.Name).1.Type_=(z1j g r x.At).1.Type_:=by unfold z1j;rw[ifP (hp x hx)]
  rw[e]
  by_cases hp:typE g r x.Expr=(z1j g r x.At).1.Type_
  ·rw[ifP hp,ifP (by simpa using hp)]
  ·rw[ifN hp,ifN (by simpa using hp)]]
 rw[q5j (c:=false) (q:=conT g r) fun k x hx=>by
  unfold j2A conT
  rw[z5m h,bsS]
  try dsimp only
  rw[j3q,bsS]
  try dsimp only
  have e:(if (z5l (q7v g x.Symbol).1 x.Name).2=true then some (!decide ((z5l (q7v g x.Symbol).1 x.Name).1.Mode=3)) else some true)=some (!decide ((z5l (q7v g x.Symbol).1 x.Name).1.Mode=3)):=by
   by_cases hb:(z5l (q7v g x.Symbol).1 x.Name).2=true
   ·rw[ifP hb]
   ·rw[ifN hb,j7Y hb];rfl
  rw[e,bsS]
  cases decide ((z5l (q7v g x.Symbol).1 x.Name).1.Mode=3) with
  | false=>rw[Bool.and_false];rfl
  | true=>
   rw[Bool.not_true,ifN (by simp),j9M h hl,bsS,bsS]
   cases decide (typE g r x.Target=4) with
   | false=>rfl
   | true=>
    rw[Bool.not_true,ifN (by simp),j9M h hl,bsS,bsS]
    cases decide (typE g r x.Value=2)<;>rfl]
 cases r.Equations.all fun q=>decide (typE g r q.Expr=(z1j g r q.At).1.Type_) with
 | false=>rfl
 | true=>cases r.Contributions.all (conT g r)<;>rfl
def atS (g:Gm_)(n:ByteArray):Option Nat:=g.Symbols.findIdx? fun y=>decide (y.Name=n)
def atI (g:Gm_)(n:ByteArray):Int:=match atS g n with
 | some j=>(j:Int)
 | none=>-1
theorem z3O {α ρ:Type}{q:α→Bool}{c:Nat→ρ}:∀ {xs:List α} {i:Nat} {f:Nat→α→Unit→Option (Unit ⊕ ρ)},(∀ j x,xs[j]?=some x→f (i+j) x ()=some (if q x=true then .inr (c (i+j)) else .inl ())) →
  findL f i xs ()=some (match xs.findIdx? q with|some j=>.inr (c (i+j))|none=>.inl ())
 | [],_,_,_=>rfl
 | x::xs,i,f,h=>by
  rw[findL,show f i x ()=_ from h 0 x rfl,bsS,List.findIdx?_cons]
  by_cases hq:q x=true
  ·rw[ifP hq,ifP hq]
  ·rw[ifN hq,ifN hq]
   have ih:=z3O (q:=q) (c:=c) (xs:=xs) (i:=i+1) (f:=f) fun j y hy=>by
    have:=h (j+1) y (by simpa using hy)
    rw[show i+1+j=i+(j+1) by omega];exact this
   dsimp only
   rw[ih]
   cases xs.findIdx? q with
   | none=>rfl
   | some j=>simp only[Option.map_some];rw[show i+1+j=i+(j+1) by omega]
theorem j9N (g:Gm_)(n:ByteArray):z0s g n=some (atI g n):=by
 unfold z0s atI atS
 rw[z3O (q:=fun y:Symbol=>decide (y.Name=n)) (c:=fun k=>(k:Int)) fun j x hx=>by
  unfold j7p
  by_cases hn:x.Name=n
  ·rw[ifP hn,ifP (by simpa using hn)]
  ·rw[ifN hn,ifN (by simpa using hn)]]
 cases g.Symbols.findIdx? fun y=>decide (y.Name=n) with
 | none=>rfl
 | some j=>dsimp only;rw[Nat.zero_add];rfl
theorem k9M {g:Gm_}{n:ByteArray}{j:Nat}(h:atS g n=some j):j<g.Symbols.length:=by
 unfold atS at h
 rw[List.findIdx?_eq_some_iff_getElem] at h
 exact h.1
def okAt (g:Gm_)(hs:List Int)(n:ByteArray):Bool:=match atS g n with
 | some j=>decide (0<hs.getD j 0)
 | none=>false
def j4P (g:Gm_)(hs:List Int)(n:ByteArray):Bool:=g.Rules.any fun r=>decide (r.Left=n)&&r.Right.all (okAt g hs)
theorem j3A {α:Type}{q:α→Bool}{f:Nat→α→Bool→Option Bool}:∀ (xs:List α) (i:Nat) (b:Bool),(∀ k x s,x∈xs→f k x s=some (s&&q x))→eachL f i xs b=some (b&&xs.all q)
 | [],_,b,_=>by simp[eachL]
 | x::xs,i,b,h=>by
  rw[eachL,h i x b (by simp),bsS,j3A xs (i+1) _ fun k y s hy=>h k y s (by simp[hy]),List.all_cons,Bool.and_assoc]
theorem getD_some {hs:List Int}{j:Nat}(h:j<hs.length):hs[j]?=some (hs.getD j 0):=by
 rw[List.getD_eq_getElem?_getD,List.getElem?_eq_getElem h];rfl
theorem k9N {g:Gm_}{hs:List Int}(hl:hs.length=g.Symbols.length)(n:ByteArray):z2h n g hs=some (match atS g n with|some j=>hs.getD j 0|none=>0):=by
 unfold z2h atS
 rw[z3O (q:=fun y:Symbol=>decide (y.Name=n)) (c:=fun k=>hs.getD k 0) fun j x hx=>by
  unfold z9r
  have hj:j<g.Symbols.length:=(List.getElem?_eq_some_iff.1 hx).1
  by_cases hn:x.Name=n
  ·rw[ifP hn,ifP (by simpa using hn),Nat.zero_add,getD_some (by omega)];rfl
  ·rw[ifN hn,ifN (by simpa using hn)]]
 cases g.Symbols.findIdx? fun y=>decide (y.Name=n) with
 | none=>rfl
 | some j=>dsimp only;rw[Nat.zero_add];rfl
theorem k2B {g:Gm_}{hs:List Int}(hl:hs.length=g.Symbols.length)(xs:List ByteArray)(b:Bool):eachL (z8m g hs) 0 xs b=some (b&&xs.all (okAt g hs)):=
 j3A xs 0 b fun k x s _=>by
  unfold z8m okAt
  cases s with
  | false=>rfl
  | true=>
   rw[ifP rfl,k9N hl,bsS,bsS,Bool.true_and]
   cases atS g x<;>rfl
theorem k2C {g:Gm_}{hs:List Int}(hl:hs.length=g.Symbols.length)(xs:List ByteArray)(b:Bool):eachL (z4t g hs) 0 xs b=some (b&&xs.all (okAt g hs)):=
 j3A xs 0 b fun k x s _=>by
  unfold z4t okAt
  rw[j9N,bsS]
  unfold atI
  cases s with
  | false=>rfl
  | true=>
   cases hj:atS g x with
   | none=>rfl
   | some j=>
    have:=k9M hj
    dsimp only
    rw[ifP rfl,bsS,decide_eq_true (Int.natCast_nonneg j),ifP rfl]
    unfold z0v
    by_cases h0:(0:Int)<(j:Int)
    ·rw[ifP h0,bsS,q3N (Int.natCast_nonneg j),tnC,getD_some (by omega)];rfl
    ·obtain rfl:j=0:=by omega
     rw[ifN h0,bsS,q3N (by omega),show (0:Int).toNat=0 from rfl,getD_some (by omega)];rfl
theorem k4t {g:Gm_}{hs:List Int}(hl:hs.length=g.Symbols.length)(n:ByteArray):z0C g n hs=some (j4P g hs n):=by
 unfold z0C j4P
 rw[q5j (c:=true) (q:=fun r:Rule=>!(decide (r.Left=n)&&r.Right.all (okAt g hs))) fun k x hx=>by
  unfold z7T
  rw[k2C hl,bsS]
  cases (decide (x.Left=n)&&x.Right.all (okAt g hs))<;>rfl]
 have e:(g.Rules.all fun r=>!(decide (r.Left=n)&&r.Right.all (okAt g hs)))=!(g.Rules.any fun r=>decide (r.Left=n)&&r.Right.all (okAt g hs)):=by rw[List.not_any_eq_all_not]
 rw[e]
 cases g.Rules.any fun r=>decide (r.Left=n)&&r.Right.all (okAt g hs)<;>rfl
def HsOk (g:Gm_)(hs:List Int):Prop:=hs.length=g.Symbols.length∧∀ j,0≤hs.getD j 0
theorem HsOk.set {g:Gm_}{hs:List Int}(h:HsOk g hs){k:Nat}{v:Int}(hv:0≤v):HsOk g (hs.set k v):=by
 refine⟨by simpa using h.1,fun j=>?_⟩
 rw[List.getD_eq_getElem?_getD,List.getElem?_set]
 split
 ·split
  ·exact hv
  ·simp
 ·rw[← List.getD_eq_getElem?_getD];exact h.2 j
theorem k4u {g:Gm_}{hs:List Int}(hl:hs.length=g.Symbols.length){v:Int}(k:Nat)(x:Symbol)(hk:k<g.Symbols.length):∀ (rs:List Rule) (i:Nat) (s:List Int),s.length=g.Symbols.length →
  eachL (z5B g v hs k x) i rs s=some (if (rs.any fun r=>decide (r.Left=x.Name)&&r.Right.all (okAt g hs))=true then s.set k v else s)
 | [],i,s,_=>by simp[eachL]
 | r::rs,i,s,hs'=>by
  have e:z5B g v hs k x i r s=some (if (decide (r.Left=x.Name)&&r.Right.all (okAt g hs))=true then s.set k v else s):=by
   unfold z5B
   rw[k2B hl,bsS]
   cases (decide (r.Left=x.Name)&&r.Right.all (okAt g hs)) with
   | false=>rfl
   | true=>rw[ifP rfl,ifP rfl,List.getElem?_eq_getElem (by omega)];rfl
  rw[eachL,e,bsS]
  by_cases hb:(decide (r.Left=x.Name)&&r.Right.all (okAt g hs))=true
  ·rw[ifP hb,k4u hl k x hk rs (i+1) (s.set k v) (by simpa using hs')]
   have:(r::rs).any (fun r=>decide (r.Left=x.Name)&&r.Right.all (okAt g hs))=true:=by rw[List.any_cons,hb];rfl
   rw[ifP this,List.set_set,ite_self]
  ·rw[ifN hb,k4u hl k x hk rs (i+1) s hs']
   have:(r::rs).any (fun r=>decide (r.Left=x.Name)&&r.Right.all (okAt g hs))=rs.any (fun r=>decide (r.Left=x.Name)&&r.Right.all (okAt g hs)):=by rw[List.any_cons,Bool.eq_false_iff.2 hb];rfl
   rw[this]
theorem x0t {g:Gm_}{hs:List Int}(h:HsOk g hs){v:Int}{k:Nat}{x:Symbol}(hk:k<g.Symbols.length){s:List Int}(hs' : s.length=g.Symbols.length) :
  z5C g v hs k x s=some (if (decide (hs.getD k 0=0)&&j4P g hs x.Name)=true then s.set k v else s):=by
 have h0:=h.2 k
 unfold z5C
 rw[getD_some (by rw[h.1];exact hk),bsS]
 by_cases hz:hs.getD k 0=0
 ·rw[ifN (by omega),decide_eq_true hz,k4u h.1 k x hk _ _ _ hs'];rfl
 ·rw[ifP (by omega),decide_eq_false hz];rfl
theorem x0u {g:Gm_}{hs:List Int}(h:HsOk g hs){v:Int}{k:Nat}{x:Symbol}(hk:k<g.Symbols.length){s:List Int}(hs' : s.length=g.Symbols.length) :
  z1P g hs v k x s=some (if (decide (hs.getD k 0=0)&&j4P g hs x.Name)=true then s.set k v else s):=by
 unfold z1P
 rw[getD_some (by rw[h.1];exact hk),bsS]
 by_cases hz:hs.getD k 0=0
 ·rw[ifP hz,decide_eq_true hz,k4t h.1,bsS,Bool.true_and]
  cases j4P g hs x.Name with
  | false=>rfl
  | true=>rw[ifP rfl,ifP rfl,List.getElem?_eq_getElem (by omega)];rfl
 ·rw[ifN hz,decide_eq_false hz];rfl
theorem j4Q {g:Gm_}{hs:List Int}(h:HsOk g hs){v:Int}(hv:0≤v):∀ (xs:List Symbol) (i:Nat) (s:List Int),i+xs.length=g.Symbols.length→HsOk g s →
  ∃ t,eachL (z5C g v hs) i xs s=some t∧eachL (z1P g hs v) i xs s=some t∧HsOk g t
 | [],i,s,_,hs'=>⟨s,rfl,rfl,hs'⟩
 | x::xs,i,s,hi,hs'=>by
  simp only[lnC] at hi
  have e1:=x0t (x:=x) h (v:=v) (k:=i) (by omega) hs'.1
  have e2:=x0u (x:=x) h (v:=v) (k:=i) (by omega) hs'.1
  have hn:HsOk g (if (decide (hs.getD i 0=0)&&j4P g hs x.Name)=true then s.set i v else s):=by
   split
   ·exact hs'.set hv
   ·exact hs'
  obtain⟨t,h1,h2,h3⟩:=j4Q h hv xs (i+1) _ (by omega) hn
  exact⟨t,by rw[eachL,e1,bsS,h1],by rw[eachL,e2,bsS,h2],h3⟩
theorem j0Y {g:Gm_}(hn:g.Symbols.length≤1048576):∃ l,z2W g=some l∧z0D g=some l∧HsOk g l:=by
 have key:∀ (m k:Nat) (hs:List Int),k+m=g.Symbols.length+1→1≤k→HsOk g hs→∃ t,q5g (z1q g) ((k:Int),hs)=some t∧q5g (q8l g) (hs,(k:Int))=some t∧HsOk g t:=by
  intro m
  induction m with
  | zero=>
   intro k hs hk _ h
   refine⟨hs,q3U ?_,q3U ?_,h⟩
   ·unfold z1q;dsimp only;rw[ifN (by omega)]
   ·unfold q8l;dsimp only;rw[ifN (by omega)]
  | succ m ih=>
   intro k hs hk h1 h
   have hl:=h.1
   obtain⟨t,e1,e2,e3⟩:=j4Q h (v:=(k:Int)) (by omega) g.Symbols 0 hs (by omega) h
   obtain⟨q,f1,f2,f3⟩:=ih (k+1) t (by omega) (by omega) e3
   refine⟨q,?_,?_,f3⟩
   ·have e:z1q g ((k:Int),hs)=some (.inl (((k+1:Nat):Int),t)):=by
     unfold z1q;dsimp only
     rw[ifP (by omega),q3N (by refine⟨?_,?_,?_⟩<;>omega),q3N (by simp),e1,bsS,q3N (by constructor<;>omega)];rfl
    rw[q4Q e];exact f1
   ·have e:q8l g (hs,(k:Int))=some (.inl (t,((k+1:Nat):Int))):=by
     unfold q8l;dsimp only
     rw[ifP (by omega),q3N (by simp only[List.length_nil];constructor<;>omega),e2,bsS,q3N (by constructor<;>omega)];rfl
    rw[q4Q e];exact f2
 have h0:HsOk g (List.replicate g.Symbols.length (0:Int)):=⟨by simp,fun j=>by rw[List.getD_eq_getElem?_getD,List.getElem?_replicate];split<;>simp⟩
 obtain⟨t,f1,f2,f3⟩:=key g.Symbols.length 1 (List.replicate g.Symbols.length 0) (by omega) (by omega) h0
 refine⟨t,?_,?_,f3⟩
 ·unfold z2W
  rw[q3N (by refine⟨?_,?_,?_⟩<;>omega),show q5g (z1q g) (1,List.replicate g.Symbols.length 0)=some t from f1];rfl
 ·unfold z0D
  rw[q3N (by refine⟨?_,?_,?_⟩<;>omega),show q5g (q8l g) (List.replicate g.Symbols.length 0,1)=some t from f2];rfl
theorem Shape.names {g:Gm_}(h:Shape g){k j:Nat}{x y:Symbol}(hk:g.Symbols[k]?=some x)(hj:g.Symbols[j]?=some y)(hn:x.Name=y.Name):k=j:=by
 have key:∀ {k j:Nat} {x y:Symbol},g.Symbols[k]?=some x→g.Symbols[j]?=some y→x.Name=y.Name→¬ k<j:=by
  intro k j x y hk hj hn hlt
  have:=z5q _ _ h.sym j y hj
  unfold z5o at this
  rw[Bool.or_eq_false_iff] at this
  have h2:=this.2
  unfold dupB at h2
  rw[List.nil_append,List.any_eq_false] at h2
  exact h2 x (List.mem_of_getElem? (i:=k) (by rw[List.getElem?_take,ifP hlt];exact hk)) (by simpa using hn)
 have h1:=key hk hj hn
 have h2:=key hj hk hn.symm
 omega
theorem Shape.at_ {g:Gm_}(h:Shape g){k:Nat}{x:Symbol}(hk:g.Symbols[k]?=some x):atS g x.Name=some k:=by
 unfold atS
 cases he:g.Symbols.findIdx? fun y=>decide (y.Name=x.Name) with
 | none=>
  rw[List.findIdx?_eq_none_iff] at he
  have:=he x (List.mem_of_getElem? hk)
  simp at this
 | some j=>
  rw[List.findIdx?_eq_some_iff_getElem] at he
  obtain⟨hj,h1,_⟩:=he
  rw[h.names (List.getElem?_eq_getElem hj) hk (by simpa using h1)]
noncomputable def hgtL (g:Gm_):List Int:=(z2W g).getD []
noncomputable def k2D (g:Gm_):Int×Int:=
 if (z7k g).1=0 then
  match g.Rules.findIdx? fun r=>!typR g r with
  | some k=>(7,(k:Int))
  | none=>match (hgtL g).findIdx? fun x=>decide (x=0) with
   | some k=>(8,(k:Int))
   | none=>(0,0)
 else z7k g
theorem k6B {g:Gm_}(h:Sz.szd g≤1048576):q8Q g=some (k2D g):=by
 unfold q8Q k2D
 rw[k4q h,bsS]
 dsimp only
 by_cases h0:(z7k g).1=0
 ·rw[ifP h0,ifP h0]
  rw[z7j (q:=fun r=>!typR g r) (c:=fun k=>((7:Int),(k:Int))) fun k r hr=>by
   unfold z5W
   rw[k6z g (Nat.le_trans (z3N hr) h),bsS,← apply_ite some]]
  cases g.Rules.findIdx? fun r=>!typR g r with
  | some k=>dsimp only;rw[Nat.zero_add];rfl
  | none=>
   obtain⟨l,e1,e2,e3⟩:=j0Y (g:=g) (j9G h).1
   rw[bsS,z4q,e1,bsS]
   unfold hgtL
   rw[e1,Option.getD_some]
   rw[z7j (q:=fun x:Int=>decide (x=0)) (c:=fun k=>((8:Int),(k:Int))) fun k x hx=>by
    unfold z5X
    by_cases hz:x=0
    ·rw[ifP hz,ifP (by simpa using hz)]
    ·rw[ifN hz,ifN (by simpa using hz)]]
   dsimp only
   cases l.findIdx? fun x=>decide (x=0) with
   | some k=>dsimp only;rw[Nat.zero_add];rfl
   | none=>rfl
 ·rw[ifN h0,ifN h0]
theorem k6C {g:Gm_}(h:Sz.szd g≤1048576):q8N g=some (k2D g):=by
 unfold q8N k2D
 rw[k4r h,bsS]
 dsimp only
 by_cases h0:(z7k g).1=0
 ·have hS:=k0V h0
  rw[ifP h0,ifP h0]
  rw[z7j (q:=fun r=>!typR g r) (c:=fun k=>((7:Int),(k:Int))) fun k r hr=>by
   unfold z5V
   rw[k6A (z4C h) (Nat.le_trans (z3N hr) h) fun q hq=>hS.pos hr hq,bsS]
   cases typR g r<;>rfl]
  cases g.Rules.findIdx? fun r=>!typR g r with
  | some k=>dsimp only;rw[Nat.zero_add];rfl
  | none=>
   obtain⟨l,e1,e2,e3⟩:=j0Y (g:=g) (j9G h).1
   rw[bsS,z4q]
   unfold hgtL
   rw[e1,Option.getD_some]
   have hprod:∀ k x,g.Symbols[k]?=some x→q8M g x.Name=some (!decide (l.getD k 0=0)):=by
    intro k x hk
    have hk' : k<g.Symbols.length:=(List.getElem?_eq_some_iff.1 hk).1
    have ha:atI g x.Name=(k:Int):=by unfold atI;rw[hS.at_ hk]
    unfold q8M z3Z
    rw[j9N,ha,bsS,ifN (by omega),e2,bsS,q3N (by omega),tnC,getD_some (by rw[e3.1];exact hk'),bsS,bsS]
    have:=e3.2 k
    congr 1
    by_cases hz:l.getD k 0=0
    ·rw[decide_eq_true hz,decide_eq_false (by omega)];rfl
    ·rw[decide_eq_false hz,decide_eq_true (by omega)];rfl
   have hrun:∀ (xs:List Symbol) (ys:List Int) (i:Nat),(∀ j x,xs[j]?=some x→g.Symbols[i+j]?=some x)→ys.length=xs.length→(∀ j y,ys[j]?=some y→l.getD (i+j) 0=y) →
     findL (q9I g) i xs ()=some (match ys.findIdx? fun x=>decide (x=0) with|some j=>.inr (8,((i+j:Nat):Int))|none=>.inl ()):=by
    intro xs
    induction xs with
    | nil=>
     intro ys i _ hl _
     obtain rfl:=List.eq_nil_of_length_eq_zero hl
     rfl
    | cons x xs ih=>
     intro ys i hx hl hy
     cases ys with
     | nil=>simp at hl
     | cons y ys=>
      have h1:=hprod i x (by simpa using hx 0 x rfl)
      have h2:l.getD i 0=y:=by simpa using hy 0 y rfl
      have ih:=ih ys (i+1) (fun j z hz=>by rw[show i+1+j=i+(j+1) by omega];exact hx (j+1) z (by simpa using hz)) (by simpa using hl) fun j z hz=>by
       rw[show i+1+j=i+(j+1) by omega];exact hy (j+1) z (by simpa using hz)
      rw[h2] at h1
      have e:q9I g i x ()=some (if y=0 then .inr (8,(i:Int)) else .inl ()):=by
       unfold q9I
       rw[h1,bsS]
       by_cases hz:y=0
       ·rw[decide_eq_true hz,ifP hz];rfl
       ·rw[decide_eq_false hz,ifN hz];rfl
      rw[findL,e,bsS,List.findIdx?_cons]
      by_cases hz:y=0
      ·rw[ifP hz,ifP (by simpa using hz)];rfl
      ·rw[ifN hz,ifN (by simpa using hz)]
       dsimp only
       rw[ih]
       cases ys.findIdx? fun x=>decide (x=0) with
       | none=>rfl
       | some j=>simp only[Option.map_some];rw[show i+1+j=i+(j+1) by omega]
   rw[hrun g.Symbols l 0 (fun j x hx=>by rw[Nat.zero_add];exact hx) e3.1 fun j y hy=>by rw[Nat.zero_add,List.getD_eq_getElem?_getD,hy];rfl]
   dsimp only
   cases l.findIdx? fun x=>decide (x=0) with
   | some k=>dsimp only;rw[Nat.zero_add];rfl
   | none=>rfl
 ·rw[ifN h0,ifN h0]
noncomputable def k2E (g:Gm_):Bool:=decide ((k2D g).1=0)
theorem k0X {g:Gm_}(h:Sz.szd g≤1048576):z1r g=some (k2E g):=by
 unfold z1r;rw[k6B h];rfl
theorem k0Y {g:Gm_}(h:Sz.szd g≤1048576):z2T g=some (k2E g):=by
 unfold z2T;rw[k6C h];rfl
theorem j4R {g:Gm_}(h:k2E g=true):Shape g:=by
 refine k0V ?_
 unfold k2E at h
 rw[decide_eq_true_eq] at h
 unfold k2D at h
 by_cases h0:(z7k g).1=0
 ·exact h0
 ·rw[ifN h0] at h;exact h
end Go.Proofs.YtipikecbeganoaaGreat
