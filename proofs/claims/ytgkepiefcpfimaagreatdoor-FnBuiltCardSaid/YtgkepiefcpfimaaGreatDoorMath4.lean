/- What those partial functions come to: plain lemmas on data; each bears its conditions in its statement. -/
import Derived.Test.YtgkepiefcpfimaaGreatDoorMath3
set_option linter.unusedVariables false
set_option linter.unusedSimpArgs false
set_option linter.ambiguousOpen false
set_option linter.unusedSectionVars false
set_option linter.unnecessarySimpa false
open List renaming range'→Dhz,range'_succ→Efz,any_eq_true→Egz,any_eq_false→Ehz,all_eq_true→Eiz,findIdx?_cons→Ejz,getD_eq_getElem?_getD→Cwz,getElem?_eq_getElem→Cmz,not_any_eq_all_not→Ekz,findIdx?_eq_none_iff→Elz,getElem?_of_mem→Emz,getElem?_cons_zero→Enz,getElem?_cons_succ→Apz,getD_cons_zero→Eoz,getD_cons_succ→Epz,map_cons→Blz,map_nil→Ddz,findIdx?_eq_some_iff_getElem→Eqz,replicate→Bqz,mem_of_getElem?→Bvz
open Nat renaming le_trans→Bgz,zero_add→Adz
open Option renaming map_some→Byz,getD_some→Cbz
open Bool renaming not_true→Edz,or_self→Erz,false_eq_true→Dyz,or_eq_false_iff→Dmz
open Int renaming natCast_nonneg→Dpz
namespace Go.Proofs.YtgkepiefcpfimaaGreatDoor
open Go Go.E
theorem j3P {ρ:Type}{c:ρ}{q:Nat→Bool}{n:Nat}{f:Nat→Unit→Option (Unit ⊕ ρ)}(h:∀ k,k<n→f k ()=some (if q k=true then .inl () else .inr c)):∀ (m k:Nat),k+m=n→findN f k m ()=some (if (Dhz k m).all q=true then .inl () else .inr c)
 | 0,k,_=>rfl
 | m+1,k,hk=>by
  have ih:=j3P h m (k+1) (by omega)
  rw[findN,h k (by omega),bsS]
  by_cases hq:q k=true
  ·rw[ifP hq,show (Dhz k (m+1)).all q=(Dhz (k+1) m).all q by simp[Efz,hq]]
   exact ih
  ·rw[ifN hq,show (Dhz k (m+1)).all q=false by simp[Efz,hq]];rfl
theorem k0L {ρ:Type}{c:ρ}{q:Nat→Bool}{n:Nat}{f:Int→Option (Int ⊕ (Unit ⊕ ρ))}(h:∀ k:Nat,k<n→f (k:Int)=some (if q k=true then .inl ((k+1:Nat):Int) else .inr (.inr c)))(he:f (n:Int)=some (.inr (.inl ()))):∀ (m k:Nat),k+m=n→q4D f (k:Int)=some (if (Dhz k m).all q=true then .inl () else .inr c)
 | 0,k,hk=>by
  obtain rfl:k=n:=by omega
  exact q3Q he
 | m+1,k,hk=>by
  have ih:=k0L h he m (k+1) (by omega)
  have h1:=h k (by omega)
  by_cases hq:q k=true
  ·rw[ifP hq] at h1
   rw[q4a h1,show (Dhz k (m+1)).all q=(Dhz (k+1) m).all q by simp[Efz,hq]]
   exact ih
  ·rw[ifN hq] at h1
   rw[q3Q h1,show (Dhz k (m+1)).all q=false by simp[Efz,hq]];rfl
def j3Q (g:Gm_)(r:Rule):Bool:=(Dhz 0 (r.rt_.length+1)).all fun k=>(q7C g (q6q r (k:Int))).2
theorem j9J (g:Gm_){r:Rule}(hl:ROk r):z5R g r=some (!j3Q g r):=by
 have hl' : r.rt_.length≤1048576:=hl
 unfold z5R
 rw[q3P (by constructor<;>omega),j3P (c:=true) (n:=r.rt_.length+1) (q:=fun k=>(q7C g (q6q r (k:Int))).2) (fun k hk=>by
  unfold j2Y
  rw[z9q hl,bsS,z4Y,bsS]
  dsimp only
  rw[← apply_ite some]) (r.rt_.length+1) 0 (by omega)]
 unfold j3Q
 cases (Dhz 0 (r.rt_.length+1)).all fun k=>(q7C g (q6q r (k:Int))).2<;>rfl
theorem j9K {g:Gm_}(h:GOk g){r:Rule}(hl:ROk r):z2a g r=some (j3Q g r):=by
 have hl' : r.rt_.length≤1048576:=hl
 unfold z2a
 have e:=k0L (c:=false) (q:=fun k=>(q7C g (q6q r (k:Int))).2) (n:=r.rt_.length+1) (f:=z1b g r) (fun k hk=>by
  unfold z1b
  rw[ifP (by omega),z3O hl,bsS,z3H h,bsS]
  dsimp only
  rw[q3P (by constructor<;>omega),← apply_ite some];rfl) (by
  unfold z1b;rw[ifN (by omega)]) (r.rt_.length+1) 0 (by omega)
 rw[show q4D (z1b g r) 0=_ from e]
 unfold j3Q
 cases (Dhz 0 (r.rt_.length+1)).all fun k=>(q7C g (q6q r (k:Int))).2<;>rfl
theorem k8p (K:List Oc)(o:Oc):q3U K o=some (decide (o∈K)):=by
 unfold q3U q4d
 rw[q5p (q:=fun x=>decide (o=x)) fun k x hx=>by
  unfold q3X
  by_cases h:o=x
  ·rw[ifP h,ifP (by simpa using h)]
  ·rw[ifN h,ifN (by simpa using h)]]
 congr 1
 by_cases h:o∈K
 ·rw[decide_eq_true h,Egz];exact⟨o,h,by simp⟩
 ·rw[decide_eq_false h,Ehz];intro x hx he;simp at he;exact h (he▸hx)
theorem k3V (K:List Oc)(o:Oc):q7x K o=some (decide (o∈K)):=by
 unfold q7x
 rw[q4X (c:=true) (q:=fun x=>!decide (x=o)) fun k x hx=>by
  unfold z5j
  by_cases h:x=o
  ·rw[ifP h,ifN (by simp[h])]
  ·rw[ifN h,ifP (by simp[h])]]
 by_cases h:o∈K
 ·rw[decide_eq_true h,ifN];· rfl
  rw[Eiz];intro hh;have:=hh o h;simp at this
 ·rw[decide_eq_false h,ifP];· rfl
  rw[Eiz];intro x hx;simp;exact fun e=>h (e▸hx)
def j8h (r:Rule)(o:Oc):Bool:=r.es_.any fun q=>decide (q.At=o)
theorem k5Z (r:Rule)(o:Oc):(eqAt r o).2=j8h r o:=by
 unfold eqAt j8h
 cases hf:r.es_.find? (fun q=>decide (q.At=o)) with
 | none=>rw[List.find?_eq_none] at hf;symm;rw[Ehz];exact hf
 | some q=>symm;rw[Egz];exact⟨q,List.mem_of_find?_eq_some hf,List.find?_some (p:=fun q:Eqn=>decide (q.At=o)) hf⟩
def k3W (g:Gm_)(r:Rule):Bool:=(reqL g r).any fun o=>!j8h r o
theorem k6a {g:Gm_}(h:GOk g){r:Rule}(hl:ROk r):z5S g r=some (k3W g r):=by
 unfold z5S k3W
 rw[j9E h hl,bsS]
 unfold q4M q5b
 rw[q5p (q:=fun o=>!j8h r o) fun k o ho=>by
  unfold q6T z5h q4L q5a
  rw[q5p (q:=fun q:Eqn=>decide (q.At=o)) fun k y hy=>by
   unfold q6S z3c
   rw[bsS]
   by_cases h:y.At=o
   ·rw[decide_eq_true h];rfl
   ·rw[decide_eq_false h];rfl]
  rw[bsS,bsS,← apply_ite some];rfl]
 rfl
theorem k6b {g:Gm_}(h:GOk g){r:Rule}(hr:Sz.szd r≤1048576):z2c g r=some (k3W g r):=by
 unfold z2c k3W
 rw[j6G h (q5y hr),bsS,q4X (c:=true) (q:=j8h r) fun k o ho=>by
  unfold z8M
  rw[j2l hr o,bsS]
  dsimp only
  rw[k5Z,← apply_ite some]]
 have e:((reqL g r).all (j8h r))=!((reqL g r).any fun o=>!j8h r o):=by rw[j3E]
 rw[e]
 cases (reqL g r).any fun o=>!j8h r o<;>rfl
def j8i (g:Gm_)(r:Rule):Bool:=(q5m (fun p (x:Eqn)=>!decide (x.At∈reqL g r)||p.any fun o=>decide (o.At=x.At)) [] r.es_).isSome
theorem k3X {g:Gm_}(h:GOk g){r:Rule}(hl:ROk r):z9N g r=some (j8i g r):=by
 unfold z9N j8i
 rw[j9E h hl,bsS]
 rw[show findL (z9M r (reqL g r)) 0 r.es_ ()=_ from z8b (bad:=fun p (x:Eqn)=>!decide (x.At∈reqL g r)||p.any fun o=>decide (o.At=x.At)) (c:=fun _=>true) (all:=r.es_) (f:=z9M r (reqL g r)) (fun pre x post e=>by
  unfold z9M
  rw[k8p,bsS]
  cases decide (x.At∈reqL g r) with
  | false=>rfl
  | true=>
   rw[ifP rfl,q3P (by rw[e];simp),show r.es_.take pre.length=pre by rw[e];simp]
   unfold q5i q5w
   rw[q5p (q:=fun o:Eqn=>decide (o.At=x.At)) fun k y hy=>by
    unfold q7G z8q
    rw[bsS]
    by_cases h:y.At=x.At
    ·rw[decide_eq_true h];rfl
    ·rw[decide_eq_false h];rfl]
   rw[bsS,← apply_ite some];rfl) r.es_ [] rfl]
 cases q5m (fun p (x:Eqn)=>!decide (x.At∈reqL g r)||p.any fun o=>decide (o.At=x.At)) [] r.es_<;>rfl
theorem k3Y {g:Gm_}(h:GOk g){r:Rule}(hr:Sz.szd r≤1048576):z4G g r=some (j8i g r):=by
 have hl:=(k7d hr).1
 unfold z4G j8i
 rw[j6G h (q5y hr),bsS]
 have h1:=(z6p (bad:=fun p (x:Eqn)=>!decide (x.At∈reqL g r)||p.any fun o=>decide (o.At=x.At)) (nm:=fun y:Eqn=>y.At) (c:=fun _=>true) (all:=r.es_)
  (f:=fun k x _=>some (if (!decide (x.At∈reqL g r)||(r.es_.take k).any fun o=>decide (o.At=x.At))=true then .inr true else .inl ())) (h:=z5k (reqL g r)) (fun pre x post e=>by
   rw[show r.es_.take pre.length=pre by rw[e];simp]) (fun pre x post e=>by
  unfold z5k
  rw[k3V,bsS]
  cases decide (x.At∈reqL g r) with
  | false=>rfl
  | true=>
   have hp:pre.length≤1048576:=by
     have:r.es_.length=pre.length+(post.length+1):=by rw[e];simp
     omega
   have e2:decide (x.At∈pre.map fun y:Eqn=>y.At)=pre.any fun o=>decide (o.At=x.At):=by
    by_cases hm:x.At∈pre.map fun y:Eqn=>y.At
    ·rw[decide_eq_true hm];symm;rw[Egz]
     obtain⟨y,hy,he⟩:=List.mem_map.1 hm
     exact⟨y,hy,by simpa using he⟩
    ·rw[decide_eq_false hm];symm;rw[Ehz]
     intro y hy he
     exact hm (List.mem_map.2 ⟨y,hy,by simpa using he⟩)
   rw[ifP rfl,k3V,bsS,e2,q3P (by rw[lnM];constructor<;>omega),List.map_append,← apply_ite some];rfl) r.es_ [] rfl).2
 rw[show findL (z5k (reqL g r)) 0 r.es_ []=_ from h1]
 cases q5m (fun p (x:Eqn)=>!decide (x.At∈reqL g r)||p.any fun o=>decide (o.At=x.At)) [] r.es_<;>rfl
def useB (g:Gm_)(r:Rule)(e:Expr):Bool:=(attrs e).all (mayB g r)
theorem j6J {g:Gm_}(h:GOk g){r:Rule}(hl:ROk r){e:Expr}(he:Sz.szd e≤1048576):z2x g r e=some (useB g r e):=by
 unfold z2x useB
 rw[j6x he,bsS,q4X (c:=false) (q:=mayB g r) fun k x hx=>by
  unfold j3a
  rw[k8o h hl,bsS,← apply_ite some]]
 cases (attrs e).all (mayB g r)<;>rfl
theorem k6c (g:Gm_){r:Rule}(hl:ROk r){e:Expr}(he:Sz.szd e≤1048576):z3o e g r=some (!useB g r e):=by
 unfold z3o useB
 rw[j2h he,bsS]
 unfold q4C q4R
 rw[q5p (q:=fun o=>!mayB g r o) fun k o ho=>by
  unfold q6E z3d
  rw[k8n g hl,bsS,bsS,← apply_ite some]]
 rw[bsS,← j3E,Bool.not_not]
def z5r (r:Rule):List Expr:=r.es_.map (fun q=>q.Expr)++r.cs_.flatMap fun q=>[q.Target,q.Value]
theorem k0M {r:Rule}(hr:Sz.szd r≤1048576):q9V r=some (z5r r):=by
 have hl:=k7d hr
 have h1:∀ (xs:List Eqn) (i:Nat) (s:List Expr),s.length+xs.length≤1048576→eachL z1S i xs s=some (s++xs.map fun q=>q.Expr):=by
  intro xs
  induction xs with
  | nil=>intro i s _;simp[eachL]
  | cons x xs ih=>
   intro i s hs
   simp only[lnC] at hs
   have e:z1S i x s=some (s++[x.Expr]):=by unfold z1S;rw[q3P (by constructor<;>omega)]
   rw[eachL,e,bsS,ih _ _ (by simp;omega)];simp
 have h2:∀ (xs:List Cn) (i:Nat) (s:List Expr),s.length+2*xs.length≤4194304→eachL z1T i xs s=some (s++xs.flatMap fun q=>[q.Target,q.Value]):=by
  intro xs
  induction xs with
  | nil=>intro i s _;simp[eachL]
  | cons x xs ih=>
   intro i s hs
   simp only[lnC] at hs
   have e:z1T i x s=some (s++[x.Target,x.Value]):=by
    unfold z1T;rw[q3P (by simp only[lnC,List.length_nil];constructor<;>omega)]
   rw[eachL,e,bsS,ih _ _ (by simp;omega)];simp
 unfold q9V z5r
 rw[h1 _ _ _ (by simpa using hl.1),bsS,h2 _ _ _ (by simp;omega)];simp
theorem k6d {r:Rule}{e:Expr}(h:e∈z5r r):Sz.szd e≤Sz.szd r:=by
 unfold z5r at h
 rcases List.mem_append.1 h with h|h
 ·obtain⟨q,hq,rfl⟩:=List.mem_map.1 h;exact z9p hq
 ·obtain⟨q,hq,he⟩:=List.mem_flatMap.1 h
  have:=j0q hq
  simp at he
  rcases he with rfl|rfl
  ·exact this.1
  ·exact this.2
def misB (g:Gm_)(r:Rule):Bool:=!(z5r r).all (useB g r)
theorem k8q (g:Gm_){r:Rule}(hr:Sz.szd r≤1048576):z5T g r=some (misB g r):=by
 unfold z5T misB
 rw[k0M hr,bsS]
 unfold q5r q5E
 rw[q5p (q:=fun e=>!useB g r e) fun k e he=>by
  unfold q8f
  rw[k6c g (q5y hr) (Bgz (k6d he) hr),bsS,← apply_ite some]]
 rw[bsS,← j3E,Bool.not_not]
theorem k8r {g:Gm_}(h:GOk g){r:Rule}(hr:Sz.szd r≤1048576):z3x g r=some (misB g r):=by
 unfold z3x misB
 rw[q4X (c:=true) (q:=fun q:Eqn=>useB g r q.Expr) fun k x hx=>by
  unfold z9W
  rw[j6J h (q5y hr) (Bgz (z9p hx) hr),bsS,← apply_ite some]]
 rw[q4X (c:=true) (q:=fun q:Cn=>useB g r q.Target&&useB g r q.Value) fun k x hx=>by
  have hs:=j0q hx
  unfold z9X
  rw[j6J h (q5y hr) (Bgz hs.1 hr),bsS]
  cases useB g r x.Target with
  | false=>rfl
  | true=>rw[ifP rfl,j6J h (q5y hr) (Bgz hs.2 hr),bsS,← apply_ite some];rfl]
 have e:(z5r r).all (useB g r)=((r.es_.all fun q=>useB g r q.Expr)&&r.cs_.all fun q=>useB g r q.Target&&useB g r q.Value):=by
  unfold z5r
  rw[List.all_append,List.all_map,List.all_flatMap]
  congr 1
  congr 1;funext q;simp
 rw[e]
 cases r.es_.all fun q=>useB g r q.Expr with
 | false=>rfl
 | true=>cases r.cs_.all fun q=>useB g r q.Target&&useB g r q.Value<;>rfl
def z5a (g:Gm_)(r:Rule)(k:Int):Bool:=if k=3 then !j3Q g r else if k=4 then k3W g r else if k=5 then j8i g r else misB g r
theorem k3Z {g:Gm_}(h:GOk g){r:Rule}(hr:Sz.szd r≤1048576)(k:Int):z3y g r k=some (z5a g r k):=by
 unfold z3y z5a
 by_cases h3:k=3
 ·rw[ifP h3,ifP h3,j9K h (q5y hr)];rfl
 ·rw[ifN h3,ifN h3]
  by_cases h4:k=4
  ·rw[ifP h4,ifP h4,k6b h hr];rfl
  ·rw[ifN h4,ifN h4]
   by_cases h5:k=5
   ·rw[ifP h5,ifP h5,k3Y h hr];rfl
   ·rw[ifN h5,ifN h5,k8r h hr];rfl
theorem j8j {g:Gm_}(h:GOk g){r:Rule}(hr:Sz.szd r≤1048576)(k:Int)(i:Nat):z3e g k i r ()=some (if z5a g r k=true then .inr (k,(i:Int)) else .inl ()):=by
 unfold z3e z5a
 by_cases h3:k=3
 ·rw[ifP h3,ifP h3,j9J g (q5y hr),bsS,← apply_ite some]
 ·rw[ifN h3,ifN h3]
  by_cases h4:k=4
  ·rw[ifP h4,ifP h4,k6a h (q5y hr),bsS,← apply_ite some]
  ·rw[ifN h4,ifN h4]
   by_cases h5:k=5
   ·rw[ifP h5,ifP h5,k3X h (q5y hr),bsS,← apply_ite some]
   ·rw[ifN h5,ifN h5,k8q g hr,bsS,← apply_ite some]
theorem k4a {g:Gm_}(h:GOk g){r:Rule}(hr:Sz.szd r≤1048576)(k:Int)(i:Nat):z3j g k i r ()=some (if z5a g r k=true then .inr (k,(i:Int)) else .inl ()):=by
 unfold z3j
 rw[k3Z h hr,bsS,← apply_ite some]
theorem j3R {α σ ρ:Type}{f g:Nat→α→σ→Option (σ ⊕ ρ)}:∀ {xs:List α} {i:Nat} {s:σ},(∀ k x s,x∈xs→f k x s=g k x s)→findL f i xs s=findL g i xs s
 | [],_,_,_=>rfl
 | x::xs,i,s,h=>by
  rw[findL,findL,h i x s (by simp)]
  congr 1;funext z
  cases z with
  | inl s'=>exact j3R fun k y s hy=>h k y s (by simp[hy])
  | inr r=>rfl
theorem j9L {g:Gm_}(h:Sz.szd g≤1048576)(k:Int):z3k g k=q7e g k:=by
 unfold z3k q7e
 have e:findL (z3j g k) 0 g.rs_ ()=findL (z3e g k) 0 g.rs_ ():=j3R fun i x _ hx=>by
  have hr:=Bgz (z2R hx) h
  rw[k4a (q9I h) hr,j8j (q9I h) hr]
 rw[e]
def q9s (g:Gm_)(k:Int):Option (Int×Int):=match g.rs_.findIdx? fun r=>z5a g r k with
 | some i=>some (k,(i:Int))
 | none=>none
theorem z8c {α ρ:Type}{q:α→Bool}{c:Nat→ρ}:∀ {xs:List α} {i:Nat} {f:Nat→α→Unit→Option (Unit ⊕ ρ)},(∀ k x,x∈xs→f k x ()=some (if q x=true then .inr (c k) else .inl ())) →
  findL f i xs ()=some (match xs.findIdx? q with|some j=>.inr (c (i+j))|none=>.inl ())
 | [],_,_,_=>rfl
 | x::xs,i,f,h=>by
  rw[findL,h i x (by simp),bsS,Ejz]
  by_cases hq:q x=true
  ·rw[ifP hq,ifP hq];rfl
  ·rw[ifN hq,ifN hq]
   have ih:=z8c (q:=q) (c:=c) (xs:=xs) (i:=i+1) (f:=f) fun k y hy=>h k y (by simp[hy])
   dsimp only
   rw[ih]
   cases xs.findIdx? q with
   | none=>rfl
   | some j=>simp only[Byz];rw[show i+1+j=i+(j+1) by omega]
def z7c (g:Gm_):Int×Int:=
 if !decide (1≤g.ss_.length∧g.ss_.length≤4) || !decide (1≤g.rs_.length∧g.rs_.length≤8) then (1,0)
 else if 0≤z8S g then (1,z8S g)
 else if (g.ss_.getD 0 zS).as_.any fun a=>decide (a.Mode=1) then (2,0)
 else (q9s g 3 <|> (q9s g 4 <|> (q9s g 5 <|> q9s g 6))).getD (0,0)
theorem j3S {g:Gm_}(h:Sz.szd g≤1048576):(q4D (q7e g) 3).bind (onr (fun r2=>some r2) fun ()=>some (0,0))=some ((q9s g 3 <|> (q9s g 4 <|> (q9s g 5 <|> q9s g 6))).getD (0,0)):=by
 have hstep:∀ k:Int,3≤k→k≤6→q7e g k=match q9s g k with|some z=>some (.inr (.inr z))|none=>some (.inl (k+1)):=by
  intro k h3 h6
  unfold q7e q9s
  rw[ifP h6,z8c (q:=fun r=>z5a g r k) (c:=fun i=>(k,(i:Int))) fun i x hx=>j8j (q9I h) (Bgz (z2R hx) h) k i]
  cases g.rs_.findIdx? fun r=>z5a g r k with
  | some i=>simp
  | none=>rw[bsS];dsimp only[onr];rw[q3P (by constructor<;>omega)]
 have hend:q7e g 7=some (.inr (.inl ())):=by unfold q7e;rw[ifN (by omega)]
 have h3:=hstep 3 (by omega) (by omega)
 have h4:=hstep 4 (by omega) (by omega)
 have h5:=hstep 5 (by omega) (by omega)
 have h6:=hstep 6 (by omega) (by omega)
 cases s3:q9s g 3 with
 | some z=>rw[s3] at h3;rw[q3Q h3];rfl
 | none=>
  rw[s3] at h3
  rw[q4a h3,show (3:Int)+1=4 by rfl]
  cases s4:q9s g 4 with
  | some z=>rw[s4] at h4;rw[q3Q h4];rfl
  | none=>
   rw[s4] at h4
   rw[q4a h4,show (4:Int)+1=5 by rfl]
   cases s5:q9s g 5 with
   | some z=>rw[s5] at h5;rw[q3Q h5];rfl
   | none=>
    rw[s5] at h5
    rw[q4a h5,show (5:Int)+1=6 by rfl]
    cases s6:q9s g 6 with
    | some z=>rw[s6] at h6;rw[q3Q h6];rfl
    | none=>
     rw[s6] at h6
     rw[q4a h6,show (6:Int)+1=7 by rfl,q3Q hend];rfl
theorem k4b {g:Gm_}(h:Sz.szd g≤1048576):z1U g=some (z7c g):=by
 unfold z1U z7c
 rw[z8R,bsS]
 by_cases h1:1≤g.ss_.length∧g.ss_.length≤4
 ·rw[decide_eq_true (by omega),ifP rfl,z8R,bsS,decide_eq_true h1]
  by_cases h2:1≤g.rs_.length∧g.rs_.length≤8
  ·rw[decide_eq_true (by omega),ifP rfl,k3T h,bsS,decide_eq_true h2]
   simp only[Edz,Erz,Dyz,if_false]
   by_cases h3:0≤z8S g
   ·rw[ifP h3,ifP h3]
   ·rw[ifN h3,ifN h3,Cwz,Cmz (by omega:0<g.ss_.length),bsS,Cbz]
    unfold q4B q4Q
    rw[q5p (q:=fun a:At_=>decide (a.Mode=1)) fun k y hy=>by
     unfold q6D z1R
     rw[bsS,← apply_ite some]]
    rw[bsS]
    by_cases h4:(g.ss_[0].as_.any fun a=>decide (a.Mode=1))=true
    ·rw[ifP h4,ifP h4]
    ·rw[ifN h4,ifN h4]
     exact j3S h
  ·rw[decide_eq_false (by omega),decide_eq_false h2];rfl
 ·rw[decide_eq_false (by omega),decide_eq_false h1];rfl
theorem k4c {g:Gm_}(h:Sz.szd g≤1048576):z2d g=some (z7c g):=by
 unfold z2d z7c
 rw[z3P,bsS]
 by_cases h1:1≤g.ss_.length∧g.ss_.length≤4
 ·rw[decide_eq_true (by omega),ifP rfl,z3P,bsS,decide_eq_true h1]
  by_cases h2:1≤g.rs_.length∧g.rs_.length≤8
  ·rw[decide_eq_true (by omega),ifP rfl,k3U h,bsS,decide_eq_true h2]
   simp only[Edz,Erz,Dyz,if_false]
   by_cases h3:0≤z8S g
   ·rw[ifP h3,ifP h3]
   ·rw[ifN h3,ifN h3,Cwz,Cmz (by omega:0<g.ss_.length),bsS,Cbz]
    rw[q4X (c:=((2:Int),(0:Int))) (q:=fun a:At_=>!decide (a.Mode=1)) fun k y hy=>by
     unfold z8N
     by_cases hm:y.Mode=1
     ·rw[ifP hm,ifN (by simp[hm])]
     ·rw[ifN hm,ifP (by simp[hm])]]
    have e:(g.ss_[0].as_.all fun a=>!decide (a.Mode=1))=!(g.ss_[0].as_.any fun a=>decide (a.Mode=1)):=by rw[Ekz]
    rw[e]
    cases (g.ss_[0].as_.any fun a=>decide (a.Mode=1)) with
    | true=>rfl
    | false=>
     rw[Bool.not_false,ifP rfl,bsS,z4p,ifN (by simp),show z3k g=q7e g from funext fun k=>j9L h k]
     exact j3S h
  ·rw[decide_eq_false (by omega),decide_eq_false h2];rfl
 ·rw[decide_eq_false (by omega),decide_eq_false h1];rfl
theorem z4m {α:Type}{bad:List α→α→Bool}:∀ (xs pre:List α),q5m bad pre xs=none→∀ k x,xs[k]?=some x→bad (pre++xs.take k) x=false
 | [],pre,h,k,x,hx=>by simp at hx
 | y::xs,pre,h,k,x,hx=>by
  rw[q5m] at h
  by_cases hb:bad pre y=true
  ·rw[ifP hb] at h;cases h
  ·rw[ifN hb] at h
   cases k with
   | zero=>simp at hx;subst hx;simpa using hb
   | succ k=>
    have:=z4m xs (pre++[y]) h k x (by simpa using hx)
    simpa using this
structure Shape (g:Gm_):Prop where
 syms:1≤g.ss_.length∧g.ss_.length≤4
 rules:1≤g.rs_.length∧g.rs_.length≤8
 sym:q5m z6q [] g.ss_=none
 rule:q5m z2S [] g.rs_=none
 brk:∀ k:Int,3≤k→k≤6→∀ r∈g.rs_,z5a g r k=false
 z9A:∀ y a,g.ss_[0]?=some y→a∈y.as_→a.Mode≠1
theorem k0N {g:Gm_}(h:(z7c g).1=0):Shape g:=by
 unfold z7c at h
 by_cases h1:1≤g.ss_.length∧g.ss_.length≤4
 ·by_cases h2:1≤g.rs_.length∧g.rs_.length≤8
  ·rw[decide_eq_true h1,decide_eq_true h2] at h
   simp only[Edz,Erz,Dyz,if_false] at h
   by_cases h3:0≤z8S g
   ·rw[ifP h3] at h;simp at h
   ·rw[ifN h3] at h
    by_cases h4:((g.ss_.getD 0 zS).as_.any fun a=>decide (a.Mode=1))=true
    ·rw[ifP h4] at h;simp at h
    ·rw[ifN h4] at h
     have hf:q5m z6q [] g.ss_=none∧q5m z2S [] g.rs_=none:=by
      unfold z8S at h3
      cases e1:q5m z6q [] g.ss_ with
      | some k=>rw[e1] at h3;exact absurd (Dpz k) h3
      | none=>
       cases e2:q5m z2S [] g.rs_ with
       | some k=>rw[e1,e2] at h3;exact absurd (Dpz k) h3
       | none=>exact⟨rfl,rfl⟩
     have hk:∀ k:Int,q9s g k=none→∀ r∈g.rs_,z5a g r k=false:=by
      intro k hk r hr
      unfold q9s at hk
      cases e:g.rs_.findIdx? fun r=>z5a g r k with
      | some i=>rw[e] at hk;cases hk
      | none=>
       rw[Elz] at e
       exact e r hr
     have hc:∀ k:Int,3≤k→∀ z,q9s g k=some z→z.1≠0:=by
      intro k h3 z hz
      unfold q9s at hz
      cases e:g.rs_.findIdx? fun r=>z5a g r k with
      | none=>rw[e] at hz;cases hz
      | some i=>rw[e] at hz;cases hz;show k≠0;omega
     have n3:q9s g 3=none:=by
      cases e:q9s g 3 with
      | none=>rfl
      | some z=>rw[e] at h;exact absurd h (hc 3 (by omega) z e)
     rw[n3] at h
     have n4:q9s g 4=none:=by
      cases e:q9s g 4 with
      | none=>rfl
      | some z=>rw[e] at h;exact absurd h (hc 4 (by omega) z e)
     rw[n4] at h
     have n5:q9s g 5=none:=by
      cases e:q9s g 5 with
      | none=>rfl
      | some z=>rw[e] at h;exact absurd h (hc 5 (by omega) z e)
     rw[n5] at h
     have n6:q9s g 6=none:=by
      cases e:q9s g 6 with
      | none=>rfl
      | some z=>rw[e] at h;exact absurd h (hc 6 (by omega) z e)
     refine⟨h1,h2,hf.1,hf.2,fun k k3 k6=>?_,fun y a hy ha hm=>h4 ?_⟩
     ·have:k=3∨k=4∨k=5∨k=6:=by omega
      rcases this with rfl|rfl|rfl|rfl
      ·exact hk _ n3
      ·exact hk _ n4
      ·exact hk _ n5
      ·exact hk _ n6
     ·rw[Cwz,hy,Egz]
      exact⟨a,ha,by simpa using hm⟩
  ·rw[decide_eq_false h2] at h;simp at h
 ·rw[decide_eq_false h1] at h;simp at h
theorem Shape.ruleB {g:Gm_}(h:Shape g){r:Rule}(hr:r∈g.rs_):ruleB r=true:=by
 obtain⟨k,hk⟩:=Emz hr
 have:=z4m _ _ h.rule k r hk
 unfold z2S at this
 rw[Dmz] at this
 simpa using this.1
theorem Shape.symB {g:Gm_}(h:Shape g){y:Symbol}(hy:y∈g.ss_):symB y=true:=by
 obtain⟨k,hk⟩:=Emz hy
 have:=z4m _ _ h.sym k y hk
 unfold z6q at this
 rw[Dmz] at this
 simpa using this.1
theorem Shape.pos {g:Gm_}(h:Shape g){r:Rule}(hr:r∈g.rs_){q:Eqn}(hq:q∈r.es_):0≤q.At.Pos∧q.At.Pos≤(r.rt_.length:Int):=by
 have:=h.ruleB hr
 unfold Go.Proofs.YtgkepiefcpfimaaGreatDoor.ruleB at this
 simp only[Bool.and_eq_true,Eiz] at this
 have:=this.2.2.2.1 q hq
 unfold eqnB at this
 simp only[Bool.and_eq_true,decide_eq_true_eq] at this
 exact this.2.2
def typK (g:Gm_)(r:Rule)(k n p t:Int)(sy nm:BA_)(ts:List Int):Int:=
 if k=1 then t else if k=2 then (if r.ll_=true then 1 else 0) else if k=3 then (z2n g r ⟨p,nm⟩).1.t__
 else if k=4 then (if ts.length=2∧ts.getD 0 0=(opT n).1∧ts.getD 1 0=(opT n).2.1 then (opT n).2.2 else 0)
 else if k=5 then (if ts.length=3∧ts.getD 0 0=3∧ts.getD 1 0=ts.getD 2 0 then ts.getD 1 0 else 0)
 else if k=6 then (if 0≤p∧p≤(r.rt_.length:Int) then 4 else 0) else if k=7 then 4
 else if k=8 then (if ts.length=1∧ts.getD 0 0=4 then (z3G (q7C g sy).1 nm).1.t__ else 0) else 0
mutual
def typE (g:Gm_)(r:Rule):Expr→Int
 | ⟨k,n,p,t,sy,nm,a⟩=>typK g r k n p t sy nm (k6e g r a)
def k6e (g:Gm_)(r:Rule):List Expr→List Int
 | []=>[]
 | x::xs=>typE g r x::k6e g r xs
end
theorem k0O (g:Gm_)(r:Rule):∀ l,k6e g r l=l.map (typE g r)
 | []=>rfl
 | x::xs=>by rw[k6e,k0O g r xs];rfl
theorem k4d (g:Gm_)(r:Rule)(e:Expr):typE g r e=typK g r e.Kind e.N e.Pos e.t__ e.Symbol e.Name (e.Args.map (typE g r)):=by
 cases e;rw[typE,k0O]
theorem j8k {y:Symbol}{s:BA_}(h:(z3G y s).2≠true):(z3G y s).1=zA:=by
 unfold z3G at h ⊢
 cases hf:y.as_.find? (fun a=>decide (a.Name=s)) with
 | none=>rfl
 | some a=>rw[hf] at h;exact absurd rfl h
theorem j9M {g:Gm_}(h:GOk g)(s nm:BA_):q8n g s nm=some (z3G (q7C g s).1 nm).1.t__:=by
 unfold q8n
 rw[z3H h,bsS]
 try dsimp only
 rw[j3O,bsS]
 try dsimp only
 by_cases hb:(z3G (q7C g s).1 nm).2=true
 ·rw[ifP hb]
 ·rw[ifN hb,j8k hb];rfl
theorem k6f (g:Gm_){r:Rule}(hl:ROk r)(e:Expr):∀ m,fuE e≤m→Sz.szd e≤1048576→q9w m g r e=some (typE g r e):=by
 induction e using z1f with
 | h e ih=>
  intro m hm hs
  obtain⟨m,rfl⟩:∃ q,m=q+1:=⟨m-1,by have:=z6l e;omega⟩
  show z1V (q9w m) g r e=_
  have hlen:e.Args.length≤1048576:=by have:=q7o e;have:=q8w e.Args;omega
  have hloop:∀ (xs:List Expr) (i:Nat) (s:List Int),(∀ x∈xs,x∈e.Args)→s.length+xs.length≤1048576→eachL (z3f (q9w m) g r) i xs s=some (s++xs.map (typE g r)):=by
   intro xs
   induction xs with
   | nil=>intro i s _ _;simp[eachL]
   | cons x xs ihx=>
    intro i s hx hn
    simp only[lnC] at hn
    have e1:z3f (q9w m) g r i x s=some (s++[typE g r x]):=by
     unfold z3f
     have hxe:=hx x (by simp)
     rw[ih x hxe m (by have:=z5p hxe;omega) (by have:=k6X hxe;omega),bsS,q3P (by constructor<;>omega)]
    rw[eachL,e1,bsS,ihx _ _ (fun y hy=>hx y (by simp[hy])) (by simp;omega)];simp
  unfold z1V
  rw[hloop e.Args 0 [] (fun _ h=>h) (by simpa using hlen),bsS,List.nil_append,k4d]
  generalize e.Args.map (typE g r)=ts
  unfold typK
  by_cases k1:e.Kind=1
  ·rw[ifP k1,ifP k1]
  rw[ifN k1,ifN k1]
  by_cases k2:e.Kind=2
  ·rw[ifP k2,ifP k2,bsS]
   by_cases hL:r.ll_=true
   ·rw[ifP hL,ifP hL]
   ·rw[ifN hL,ifN hL]
    simp[k2]
  rw[ifN k2,ifN k2,bsS,ifN (by simp)]
  by_cases k3:e.Kind=3
  ·rw[ifP k3,ifP k3,j1e g hl];rfl
  rw[ifN k3,ifN k3]
  by_cases k4:e.Kind=4
  ·rw[ifP k4,ifP k4,bsS]
   by_cases hn:ts.length=2
   ·obtain⟨a,b,rfl⟩:∃ a b,ts=[a,b]:=by
     match ts,hn with
     | [a,b],_=>exact⟨a,b,rfl⟩
    rw[ifP (by simp),k7Y,bsS]
    simp only[Enz,Apz,bsS,Eoz,Epz]
    by_cases ha:a=(opT e.N).1
    ·rw[ifP ha,bsS]
     by_cases hb:b=(opT e.N).2.1
     ·rw[ifP (by simp[hb]),ifP ⟨hn,ha,hb⟩]
     ·rw[ifN (by simp[hb]),ifN fun h=>hb h.2.2]
    ·rw[ifN ha,bsS,ifN (by simp),ifN fun h=>ha h.2.1]
   ·have hz:(if ts.length=2∧ts.getD 0 0=(opT e.N).1∧ts.getD 1 0=(opT e.N).2.1 then (opT e.N).2.2 else 0)=0:=ifN fun h=>hn h.1
    rw[hz,ifN (by simp;omega)]
    simp[k4]
  rw[ifN k4,ifN k4,bsS,ifN (by simp)]
  by_cases k5:e.Kind=5
  ·rw[ifP k5,ifP k5,bsS]
   by_cases hn:ts.length=3
   ·obtain⟨a,b,c,rfl⟩:∃ a b c,ts=[a,b,c]:=by
     match ts,hn with
     | [a,b,c],_=>exact⟨a,b,c,rfl⟩
    rw[ifP (by simp)]
    simp only[Enz,Apz,bsS,Eoz,Epz]
    by_cases ha:a=3
    ·rw[ifP ha]
     by_cases hb:b=c
     ·rw[ifP hb,ifP ⟨hn,ha,hb⟩]
     ·rw[ifN hb,ifN fun h=>hb h.2.2]
    ·rw[ifN ha,ifN fun h=>ha h.2.1]
   ·have hz:(if ts.length=3∧ts.getD 0 0=3∧ts.getD 1 0=ts.getD 2 0 then ts.getD 1 0 else 0)=0:=ifN fun h=>hn h.1
    rw[hz,ifN (by simp;omega)]
    simp[k5]
  rw[ifN k5,ifN k5,bsS,ifN (by simp)]
  by_cases k6:e.Kind=6
  ·rw[ifP k6,ifP k6,z8R,bsS,bsS]
   by_cases hp:0≤e.Pos∧e.Pos≤(r.rt_.length:Int)
   ·rw[decide_eq_true hp,ifP hp];rfl
   ·rw[decide_eq_false hp,ifN hp]
    simp[k6]
  rw[ifN k6,ifN k6,bsS,ifN (by simp),bsS]
  by_cases k7:e.Kind=7
  ·rw[ifP (by simp[k7]),ifP k7]
  rw[ifN (by simp[k7]),ifN k7]
  by_cases k8:e.Kind=8
  ·rw[ifP k8,ifP k8,bsS]
   by_cases hn:ts.length=1
   ·obtain⟨a,rfl⟩:∃ a,ts=[a]:=by
     match ts,hn with
     | [a],_=>exact⟨a,rfl⟩
    rw[ifP (by simp)]
    simp only[Enz,bsS,Eoz]
    by_cases ha:a=4
    ·rw[ifP (by simp[ha]),ifP ⟨hn,ha⟩,z4Y,bsS]
     try dsimp only
     rw[j0p];rfl
    ·rw[ifN (by simp[ha]),ifN fun h=>ha h.2]
   ·rw[ifN (by simp;omega),ifN fun h=>hn h.1];rfl
  rw[ifN k8,ifN k8];rfl
theorem j9N (g:Gm_){r:Rule}(hl:ROk r){e:Expr}(hs:Sz.szd e≤1048576):z1W g r e=some (typE g r e):=z0K (fuE e) fun m hm=>k6f g hl e m hm hs
theorem k6g {g:Gm_}(h:GOk g){r:Rule}(hl:ROk r)(e:Expr):∀ m,fuE e≤m→z0A m g r e=some (typE g r e):=by
 induction e using z1f with
 | h e ih=>
  intro m hm
  obtain⟨m,rfl⟩:∃ q,m=q+1:=⟨m-1,by have:=z6l e;omega⟩
  show z2e (z0A m) g r e=_
  have hx:∀ x∈e.Args,z0A m g r x=some (typE g r x):=fun x hxe=>ih x hxe m (by have:=z5p hxe;omega)
  unfold z2e
  rw[k4d]
  unfold typK
  by_cases k1:e.Kind=1
  ·rw[ifP k1,ifP k1]
  rw[ifN k1,ifN k1]
  by_cases k2:e.Kind=2
  ·rw[ifP k2,ifP k2,← apply_ite some]
  rw[ifN k2,ifN k2]
  by_cases k3:e.Kind=3
  ·rw[ifP k3,ifP k3,z3P,bsS]
   unfold z2n
   by_cases hp:0≤e.Pos∧e.Pos≤(r.rt_.length:Int)
   ·rw[ifP (by simpa using hp),ifP hp,z3O hl,bsS,j9M h];rfl
   ·rw[ifN (by simpa using hp),ifN hp];rfl
  rw[ifN k3,ifN k3]
  by_cases k4:e.Kind=4
  ·rw[ifP k4,ifP k4]
   unfold j2e
   rw[k7Z,bsS]
   try dsimp only
   by_cases hn:e.Args.length=2
   ·obtain⟨a,b,hab⟩:∃ a b,e.Args=[a,b]:=by
     match e.Args,hn with
     | [a,b],_=>exact⟨a,b,rfl⟩
    rw[hab] at hx
    rw[hab,ifP (by simp)]
    simp only[Enz,Apz,bsS,Blz,Ddz,Eoz,Epz]
    rw[hx a (by simp),bsS]
    by_cases ha:typE g r a=(opT e.N).1
    ·rw[ifP ha,hx b (by simp),bsS]
     by_cases hb:typE g r b=(opT e.N).2.1
     ·rw[ifP hb,ifP ⟨by simp,ha,hb⟩];rfl
     ·rw[ifN hb,ifN fun h=>hb h.2.2];rfl
    ·rw[ifN ha,ifN fun h=>ha h.2.1];rfl
   ·rw[ifN (by omega),ifN fun h=>hn (by simpa using h.1)];rfl
  rw[ifN k4,ifN k4]
  by_cases k5:e.Kind=5
  ·rw[ifP k5,ifP k5]
   unfold j2f
   by_cases hn:e.Args.length=3
   ·obtain⟨a,b,c,hab⟩:∃ a b c,e.Args=[a,b,c]:=by
     match e.Args,hn with
     | [a,b,c],_=>exact⟨a,b,c,rfl⟩
    rw[hab] at hx
    rw[hab,ifP (by simp)]
    simp only[Enz,Apz,bsS,Blz,Ddz,Eoz,Epz]
    rw[hx a (by simp),bsS]
    by_cases ha:typE g r a=3
    ·rw[ifP ha,hx b (by simp),bsS,hx c (by simp),bsS]
     by_cases hb:typE g r b=typE g r c
     ·rw[ifP hb,ifP ⟨by simp,ha,hb⟩];rfl
     ·rw[ifN hb,ifN fun h=>hb h.2.2];rfl
    ·rw[ifN ha,ifN fun h=>ha h.2.1];rfl
   ·rw[ifN (by omega),ifN fun h=>hn (by simpa using h.1)];rfl
  rw[ifN k5,ifN k5]
  by_cases k6:e.Kind=6
  ·rw[ifP k6,ifP k6,z3P,bsS]
   by_cases hp:0≤e.Pos∧e.Pos≤(r.rt_.length:Int)
   ·rw[ifP (by simpa using hp),ifP hp]
   ·rw[ifN (by simpa using hp),ifN hp]
  rw[ifN k6,ifN k6]
  by_cases k7:e.Kind=7
  ·rw[ifP k7,ifP k7]
  rw[ifN k7,ifN k7]
  by_cases k8:e.Kind=8
  ·rw[ifP k8,ifP k8]
   by_cases hn:e.Args.length=1
   ·obtain⟨a,hab⟩:∃ a,e.Args=[a]:=by
     match e.Args,hn with
     | [a],_=>exact⟨a,rfl⟩
    rw[hab] at hx
    rw[hab,ifP (by simp)]
    simp only[Enz,bsS,Blz,Ddz,Eoz]
    rw[hx a (by simp),bsS]
    by_cases ha:typE g r a=4
    ·rw[ifP ha,ifP ⟨by simp,ha⟩,j9M h];rfl
    ·rw[ifN ha,ifN fun h=>ha h.2]
   ·rw[ifN (by omega),ifN fun h=>hn (by simpa using h.1)]
  rw[ifN k8,ifN k8]
theorem j9O {g:Gm_}(h:GOk g){r:Rule}(hl:ROk r)(e:Expr):z2f g r e=some (typE g r e):=z0K (fuE e) fun m hm=>k6g h hl e m hm
def conT (g:Gm_)(r:Rule)(q:Cn):Bool:=(decide (typE g r q.Target=4)&&decide (typE g r q.Value=2))&&decide ((z3G (q7C g q.Symbol).1 q.Name).1.Mode=3)
def typR (g:Gm_)(r:Rule):Bool:=(r.es_.all fun q=>decide (typE g r q.Expr=(z2n g r q.At).1.t__))&&r.cs_.all (conT g r)
theorem k6h (g:Gm_){r:Rule}(hr:Sz.szd r≤1048576):z4z g r=some (!typR g r):=by
 have hl:=q5y hr
 unfold z4z typR
 rw[q4X (c:=true) (q:=fun q:Eqn=>decide (typE g r q.Expr=(z2n g r q.At).1.t__)) fun k x hx=>by
  unfold j1p
  rw[j1e g hl,bsS]
  try dsimp only
  rw[j9N g hl (Bgz (z9p hx) hr),bsS]
  by_cases hp:typE g r x.Expr=(z2n g r x.At).1.t__
  ·rw[ifP hp,ifP (by simpa using hp)]
  ·rw[ifN hp,ifN (by simpa using hp)]]
 rw[q4X (c:=true) (q:=conT g r) fun k x hx=>by
  have hs:=j0q hx
  unfold j1q conT
  rw[z4Y,bsS]
  try dsimp only
  rw[j0p,bsS]
  try dsimp only
  rw[j9N g hl (Bgz hs.1 hr),bsS]
  by_cases h1:typE g r x.Target=4
  ·rw[ifP h1,j9N g hl (Bgz hs.2 hr),bsS,bsS,decide_eq_true h1]
   cases decide (typE g r x.Value=2) with
   | false=>rfl
   | true=>
    rw[Edz,ifN (by simp),bsS]
    cases decide ((z3G (q7C g x.Symbol).1 x.Name).1.Mode=3)<;>rfl
  ·rw[ifN h1,decide_eq_false h1];rfl]
 cases r.es_.all fun q=>decide (typE g r q.Expr=(z2n g r q.At).1.t__) with
 | false=>rfl
 | true=>cases r.cs_.all (conT g r)<;>rfl
theorem k6i {g:Gm_}(h:GOk g){r:Rule}(hr:Sz.szd r≤1048576)(hp:∀ q∈r.es_,0≤q.At.Pos∧q.At.Pos≤(r.rt_.length:Int)):z5Y g r=some (typR g r):=by
 have hl:=q5y hr
 unfold z5Y typR
 rw[q4X (c:=false) (q:=fun q:Eqn=>decide (typE g r q.Expr=(z2n g r q.At).1.t__)) fun k x hx=>by
  unfold j3b
  rw[j9O h hl,bsS,z3O hl,bsS,j9M h,bsS]
  have e:(z3G (q7C g (q6q r x.At.Pos)).1 x.At.Name).1.t__=(z2n g r x.At).1.t__:=by unfold z2n;rw[ifP (hp x hx)]
  rw[e]
  by_cases hp:typE g r x.Expr=(z2n g r x.At).1.t__
  ·rw[ifP hp,ifP (by simpa using hp)]
  ·rw[ifN hp,ifN (by simpa using hp)]]
 rw[q4X (c:=false) (q:=conT g r) fun k x hx=>by
  unfold j3c conT
  rw[z3H h,bsS]
  try dsimp only
  rw[j3O,bsS]
  try dsimp only
  have e:(if (z3G (q7C g x.Symbol).1 x.Name).2=true then some (!decide ((z3G (q7C g x.Symbol).1 x.Name).1.Mode=3)) else some true)=some (!decide ((z3G (q7C g x.Symbol).1 x.Name).1.Mode=3)):=by
   by_cases hb:(z3G (q7C g x.Symbol).1 x.Name).2=true
   ·rw[ifP hb]
   ·rw[ifN hb,j8k hb];rfl
  rw[e,bsS]
  cases decide ((z3G (q7C g x.Symbol).1 x.Name).1.Mode=3) with
  | false=>rw[Bool.and_false];rfl
  | true=>
   rw[Edz,ifN (by simp),j9O h hl,bsS,bsS]
   cases decide (typE g r x.Target=4) with
   | false=>rfl
   | true=>
    rw[Edz,ifN (by simp),j9O h hl,bsS,bsS]
    cases decide (typE g r x.Value=2)<;>rfl]
 cases r.es_.all fun q=>decide (typE g r q.Expr=(z2n g r q.At).1.t__) with
 | false=>rfl
 | true=>cases r.cs_.all (conT g r)<;>rfl
def atS (g:Gm_)(n:BA_):Option Nat:=g.ss_.findIdx? fun y=>decide (y.Name=n)
def atI (g:Gm_)(n:BA_):Int:=match atS g n with
 | some j=>(j:Int)
 | none=>-1
theorem j0r {α ρ:Type}{q:α→Bool}{c:Nat→ρ}:∀ {xs:List α} {i:Nat} {f:Nat→α→Unit→Option (Unit ⊕ ρ)},(∀ j x,xs[j]?=some x→f (i+j) x ()=some (if q x=true then .inr (c (i+j)) else .inl ())) →
  findL f i xs ()=some (match xs.findIdx? q with|some j=>.inr (c (i+j))|none=>.inl ())
 | [],_,_,_=>rfl
 | x::xs,i,f,h=>by
  rw[findL,show f i x ()=_ from h 0 x rfl,bsS,Ejz]
  by_cases hq:q x=true
  ·rw[ifP hq,ifP hq]
  ·rw[ifN hq,ifN hq]
   have ih:=j0r (q:=q) (c:=c) (xs:=xs) (i:=i+1) (f:=f) fun j y hy=>by
    have:=h (j+1) y (by simpa using hy)
    rw[show i+1+j=i+(j+1) by omega];exact this
   dsimp only
   rw[ih]
   cases xs.findIdx? q with
   | none=>rfl
   | some j=>simp only[Byz];rw[show i+1+j=i+(j+1) by omega]
theorem k4e (g:Gm_)(n:BA_):z0B g n=some (atI g n):=by
 unfold z0B atI atS
 rw[j0r (q:=fun y:Symbol=>decide (y.Name=n)) (c:=fun k=>(k:Int)) fun j x hx=>by
  unfold z5Z
  by_cases hn:x.Name=n
  ·rw[ifP hn,ifP (by simpa using hn)]
  ·rw[ifN hn,ifN (by simpa using hn)]]
 cases g.ss_.findIdx? fun y=>decide (y.Name=n) with
 | none=>rfl
 | some j=>dsimp only;rw[Adz];rfl
theorem k9j {g:Gm_}{n:BA_}{j:Nat}(h:atS g n=some j):j<g.ss_.length:=by
 unfold atS at h
 rw[Eqz] at h
 exact h.1
def okAt (g:Gm_)(hs:List Int)(n:BA_):Bool:=match atS g n with
 | some j=>decide (0<hs.getD j 0)
 | none=>false
def j5p (g:Gm_)(hs:List Int)(n:BA_):Bool:=g.rs_.any fun r=>decide (r.Left=n)&&r.rt_.all (okAt g hs)
theorem j3T {α:Type}{q:α→Bool}{f:Nat→α→Bool→Option Bool}:∀ (xs:List α) (i:Nat) (b:Bool),(∀ k x s,x∈xs→f k x s=some (s&&q x))→eachL f i xs b=some (b&&xs.all q)
 | [],_,b,_=>by simp[eachL]
 | x::xs,i,b,h=>by
  rw[eachL,h i x b (by simp),bsS,j3T xs (i+1) _ fun k y s hy=>h k y s (by simp[hy]),List.all_cons,Bool.and_assoc]
theorem getD_some {hs:List Int}{j:Nat}(h:j<hs.length):hs[j]?=some (hs.getD j 0):=by
 rw[Cwz,Cmz h];rfl
theorem k9k {g:Gm_}{hs:List Int}(hl:hs.length=g.ss_.length)(n:BA_):z3p n g hs=some (match atS g n with|some j=>hs.getD j 0|none=>0):=by
 unfold z3p atS
 rw[j0r (q:=fun y:Symbol=>decide (y.Name=n)) (c:=fun k=>hs.getD k 0) fun j x hx=>by
  unfold z9O
  have hj:j<g.ss_.length:=(List.getElem?_eq_some_iff.1 hx).1
  by_cases hn:x.Name=n
  ·rw[ifP hn,ifP (by simpa using hn),Adz,getD_some (by omega)];rfl
  ·rw[ifN hn,ifN (by simpa using hn)]]
 cases g.ss_.findIdx? fun y=>decide (y.Name=n) with
 | none=>rfl
 | some j=>dsimp only;rw[Adz];rfl
theorem k2h {g:Gm_}{hs:List Int}(hl:hs.length=g.ss_.length)(xs:List BA_)(b:Bool):eachL (z8Y g hs) 0 xs b=some (b&&xs.all (okAt g hs)):=
 j3T xs 0 b fun k x s _=>by
  unfold z8Y okAt
  cases s with
  | false=>rfl
  | true=>
   rw[ifP rfl,k9k hl,bsS,bsS,Bool.true_and]
   cases atS g x<;>rfl
theorem k2i {g:Gm_}{hs:List Int}(hl:hs.length=g.ss_.length)(xs:List BA_)(b:Bool):eachL (z5y g hs) 0 xs b=some (b&&xs.all (okAt g hs)):=
 j3T xs 0 b fun k x s _=>by
  unfold z5y okAt
  rw[k4e,bsS]
  unfold atI
  cases s with
  | false=>rfl
  | true=>
   cases hj:atS g x with
   | none=>rfl
   | some j=>
    have:=k9j hj
    dsimp only
    rw[ifP rfl,bsS,decide_eq_true (Dpz j),ifP rfl]
    unfold z2Y
    by_cases h0:(0:Int)<(j:Int)
    ·rw[ifP h0,bsS,q3P (Dpz j),tnC,getD_some (by omega)];rfl
    ·obtain rfl:j=0:=by omega
     rw[ifN h0,bsS,q3P (by omega),show (0:Int).toNat=0 from rfl,getD_some (by omega)];rfl
theorem k4f {g:Gm_}{hs:List Int}(hl:hs.length=g.ss_.length)(n:BA_):z2g g n hs=some (j5p g hs n):=by
 unfold z2g j5p
 rw[q4X (c:=true) (q:=fun r:Rule=>!(decide (r.Left=n)&&r.rt_.all (okAt g hs))) fun k x hx=>by
  unfold z8O
  rw[k2i hl,bsS]
  cases (decide (x.Left=n)&&x.rt_.all (okAt g hs))<;>rfl]
 have e:(g.rs_.all fun r=>!(decide (r.Left=n)&&r.rt_.all (okAt g hs)))=!(g.rs_.any fun r=>decide (r.Left=n)&&r.rt_.all (okAt g hs)):=by rw[Ekz]
 rw[e]
 cases g.rs_.any fun r=>decide (r.Left=n)&&r.rt_.all (okAt g hs)<;>rfl
def HsOk (g:Gm_)(hs:List Int):Prop:=hs.length=g.ss_.length∧∀ j,0≤hs.getD j 0
theorem HsOk.set {g:Gm_}{hs:List Int}(h:HsOk g hs){k:Nat}{v:Int}(hv:0≤v):HsOk g (hs.set k v):=by
 refine⟨by simpa using h.1,fun j=>?_⟩
 rw[Cwz,List.getElem?_set]
 split
 ·split
  ·exact hv
  ·simp
 ·rw[← Cwz];exact h.2 j
theorem k4g {g:Gm_}{hs:List Int}(hl:hs.length=g.ss_.length){v:Int}(k:Nat)(x:Symbol)(hk:k<g.ss_.length):∀ (rs:List Rule) (i:Nat) (s:List Int),s.length=g.ss_.length →
  eachL (z6A g v hs k x) i rs s=some (if (rs.any fun r=>decide (r.Left=x.Name)&&r.rt_.all (okAt g hs))=true then s.set k v else s)
 | [],i,s,_=>by simp[eachL]
 | r::rs,i,s,hs'=>by
  have e:z6A g v hs k x i r s=some (if (decide (r.Left=x.Name)&&r.rt_.all (okAt g hs))=true then s.set k v else s):=by
   unfold z6A
   rw[k2h hl,bsS]
   cases (decide (r.Left=x.Name)&&r.rt_.all (okAt g hs)) with
   | false=>rfl
   | true=>rw[ifP rfl,ifP rfl,Cmz (by omega)];rfl
  rw[eachL,e,bsS]
  by_cases hb:(decide (r.Left=x.Name)&&r.rt_.all (okAt g hs))=true
  ·rw[ifP hb,k4g hl k x hk rs (i+1) (s.set k v) (by simpa using hs')]
   have:(r::rs).any (fun r=>decide (r.Left=x.Name)&&r.rt_.all (okAt g hs))=true:=by rw[List.any_cons,hb];rfl
   rw[ifP this,List.set_set,ite_self]
  ·rw[ifN hb,k4g hl k x hk rs (i+1) s hs']
   have:(r::rs).any (fun r=>decide (r.Left=x.Name)&&r.rt_.all (okAt g hs))=rs.any (fun r=>decide (r.Left=x.Name)&&r.rt_.all (okAt g hs)):=by rw[List.any_cons,Bool.eq_false_iff.2 hb];rfl
   rw[this]
theorem k9O {g:Gm_}{hs:List Int}(h:HsOk g hs){v:Int}{k:Nat}{x:Symbol}(hk:k<g.ss_.length){s:List Int}(hs' : s.length=g.ss_.length) :
  z6B g v hs k x s=some (if (decide (hs.getD k 0=0)&&j5p g hs x.Name)=true then s.set k v else s):=by
 have h0:=h.2 k
 unfold z6B
 rw[getD_some (by rw[h.1];exact hk),bsS]
 by_cases hz:hs.getD k 0=0
 ·rw[ifN (by omega),decide_eq_true hz,k4g h.1 k x hk _ _ _ hs'];rfl
 ·rw[ifP (by omega),decide_eq_false hz];rfl
theorem k9P {g:Gm_}{hs:List Int}(h:HsOk g hs){v:Int}{k:Nat}{x:Symbol}(hk:k<g.ss_.length){s:List Int}(hs' : s.length=g.ss_.length) :
  z3l g hs v k x s=some (if (decide (hs.getD k 0=0)&&j5p g hs x.Name)=true then s.set k v else s):=by
 unfold z3l
 rw[getD_some (by rw[h.1];exact hk),bsS]
 by_cases hz:hs.getD k 0=0
 ·rw[ifP hz,decide_eq_true hz,k4f h.1,bsS,Bool.true_and]
  cases j5p g hs x.Name with
  | false=>rfl
  | true=>rw[ifP rfl,ifP rfl,Cmz (by omega)];rfl
 ·rw[ifN hz,decide_eq_false hz];rfl
theorem j5q {g:Gm_}{hs:List Int}(h:HsOk g hs){v:Int}(hv:0≤v):∀ (xs:List Symbol) (i:Nat) (s:List Int),i+xs.length=g.ss_.length→HsOk g s →
  ∃ t,eachL (z6B g v hs) i xs s=some t∧eachL (z3l g hs v) i xs s=some t∧HsOk g t
 | [],i,s,_,hs'=>⟨s,rfl,rfl,hs'⟩
 | x::xs,i,s,hi,hs'=>by
  simp only[lnC] at hi
  have e1:=k9O (x:=x) h (v:=v) (k:=i) (by omega) hs'.1
  have e2:=k9P (x:=x) h (v:=v) (k:=i) (by omega) hs'.1
  have hn:HsOk g (if (decide (hs.getD i 0=0)&&j5p g hs x.Name)=true then s.set i v else s):=by
   split
   ·exact hs'.set hv
   ·exact hs'
  obtain⟨t,h1,h2,h3⟩:=j5q h hv xs (i+1) _ (by omega) hn
  exact⟨t,by rw[eachL,e1,bsS,h1],by rw[eachL,e2,bsS,h2],h3⟩
theorem j1D {g:Gm_}(hn:g.ss_.length≤1048576):∃ l,z4g g=some l∧z2h g=some l∧HsOk g l:=by
 have key:∀ (m k:Nat) (hs:List Int),k+m=g.ss_.length+1→1≤k→HsOk g hs→∃ t,q4D (z2t g) ((k:Int),hs)=some t∧q4D (q9W g) (hs,(k:Int))=some t∧HsOk g t:=by
  intro m
  induction m with
  | zero=>
   intro k hs hk _ h
   refine⟨hs,q3Q ?_,q3Q ?_,h⟩
   ·unfold z2t;dsimp only;rw[ifN (by omega)]
   ·unfold q9W;dsimp only;rw[ifN (by omega)]
  | succ m ih=>
   intro k hs hk h1 h
   have hl:=h.1
   obtain⟨t,e1,e2,e3⟩:=j5q h (v:=(k:Int)) (by omega) g.ss_ 0 hs (by omega) h
   obtain⟨q,f1,f2,f3⟩:=ih (k+1) t (by omega) (by omega) e3
   refine⟨q,?_,?_,f3⟩
   ·have e:z2t g ((k:Int),hs)=some (.inl (((k+1:Nat):Int),t)):=by
     unfold z2t;dsimp only
     rw[ifP (by omega),q3P (by refine⟨?_,?_,?_⟩<;>omega),q3P (by simp),e1,bsS,q3P (by constructor<;>omega)];rfl
    rw[q4a e];exact f1
   ·have e:q9W g (hs,(k:Int))=some (.inl (t,((k+1:Nat):Int))):=by
     unfold q9W;dsimp only
     rw[ifP (by omega),q3P (by simp only[List.length_nil];constructor<;>omega),e2,bsS,q3P (by constructor<;>omega)];rfl
    rw[q4a e];exact f2
 have h0:HsOk g (Bqz g.ss_.length (0:Int)):=⟨by simp,fun j=>by rw[Cwz,List.getElem?_replicate];split<;>simp⟩
 obtain⟨t,f1,f2,f3⟩:=key g.ss_.length 1 (Bqz g.ss_.length 0) (by omega) (by omega) h0
 refine⟨t,?_,?_,f3⟩
 ·unfold z4g
  rw[q3P (by refine⟨?_,?_,?_⟩<;>omega),show q4D (z2t g) (1,Bqz g.ss_.length 0)=some t from f1];rfl
 ·unfold z2h
  rw[q3P (by refine⟨?_,?_,?_⟩<;>omega),show q4D (q9W g) (Bqz g.ss_.length 0,1)=some t from f2];rfl
theorem Shape.names {g:Gm_}(h:Shape g){k j:Nat}{x y:Symbol}(hk:g.ss_[k]?=some x)(hj:g.ss_[j]?=some y)(hn:x.Name=y.Name):k=j:=by
 have key:∀ {k j:Nat} {x y:Symbol},g.ss_[k]?=some x→g.ss_[j]?=some y→x.Name=y.Name→¬ k<j:=by
  intro k j x y hk hj hn hlt
  have:=z4m _ _ h.sym j y hj
  unfold z6q at this
  rw[Dmz] at this
  have h2:=this.2
  unfold dupB at h2
  rw[List.nil_append,Ehz] at h2
  exact h2 x (Bvz (i:=k) (by rw[List.getElem?_take,ifP hlt];exact hk)) (by simpa using hn)
 have h1:=key hk hj hn
 have h2:=key hj hk hn.symm
 omega
theorem Shape.at_ {g:Gm_}(h:Shape g){k:Nat}{x:Symbol}(hk:g.ss_[k]?=some x):atS g x.Name=some k:=by
 unfold atS
 cases he:g.ss_.findIdx? fun y=>decide (y.Name=x.Name) with
 | none=>
  rw[Elz] at he
  have:=he x (Bvz hk)
  simp at this
 | some j=>
  rw[Eqz] at he
  obtain⟨hj,h1,_⟩:=he
  rw[h.names (Cmz hj) hk (by simpa using h1)]
noncomputable def hgtL (g:Gm_):List Int:=(z4g g).getD []
noncomputable def j9P (g:Gm_):Int×Int:=
 if (z7c g).1=0 then
  match g.rs_.findIdx? fun r=>!typR g r with
  | some k=>(7,(k:Int))
  | none=>match (hgtL g).findIdx? fun x=>decide (x=0) with
   | some k=>(8,(k:Int))
   | none=>(0,0)
 else z7c g
theorem k6j {g:Gm_}(h:Sz.szd g≤1048576):z0p g=some (j9P g):=by
 unfold z0p j9P
 rw[k4b h,bsS]
 dsimp only
 by_cases h0:(z7c g).1=0
 ·rw[ifP h0,ifP h0]
  rw[z8c (q:=fun r=>!typR g r) (c:=fun k=>((7:Int),(k:Int))) fun k r hr=>by
   unfold z6T
   rw[k6h g (Bgz (z2R hr) h),bsS,← apply_ite some]]
  cases g.rs_.findIdx? fun r=>!typR g r with
  | some k=>dsimp only;rw[Adz];rfl
  | none=>
   obtain⟨l,e1,e2,e3⟩:=j1D (g:=g) (j9I h).1
   rw[bsS,z4p,e1,bsS]
   unfold hgtL
   rw[e1,Cbz]
   rw[z8c (q:=fun x:Int=>decide (x=0)) (c:=fun k=>((8:Int),(k:Int))) fun k x hx=>by
    unfold z6U
    by_cases hz:x=0
    ·rw[ifP hz,ifP (by simpa using hz)]
    ·rw[ifN hz,ifN (by simpa using hz)]]
   dsimp only
   cases l.findIdx? fun x=>decide (x=0) with
   | some k=>dsimp only;rw[Adz];rfl
   | none=>rfl
 ·rw[ifN h0,ifN h0]
theorem k6k {g:Gm_}(h:Sz.szd g≤1048576):z0s g=some (j9P g):=by
 unfold z0s j9P
 rw[k4c h,bsS]
 dsimp only
 by_cases h0:(z7c g).1=0
 ·have hS:=k0N h0
  rw[ifP h0,ifP h0]
  rw[z8c (q:=fun r=>!typR g r) (c:=fun k=>((7:Int),(k:Int))) fun k r hr=>by
   unfold z6W
   rw[k6i (q9I h) (Bgz (z2R hr) h) fun q hq=>hS.pos hr hq,bsS]
   cases typR g r<;>rfl]
  cases g.rs_.findIdx? fun r=>!typR g r with
  | some k=>dsimp only;rw[Adz];rfl
  | none=>
   obtain⟨l,e1,e2,e3⟩:=j1D (g:=g) (j9I h).1
   rw[bsS,z4p]
   unfold hgtL
   rw[e1,Cbz]
   have hprod:∀ k x,g.ss_[k]?=some x→z0r g x.Name=some (!decide (l.getD k 0=0)):=by
    intro k x hk
    have hk' : k<g.ss_.length:=(List.getElem?_eq_some_iff.1 hk).1
    have ha:atI g x.Name=(k:Int):=by unfold atI;rw[hS.at_ hk]
    unfold z0r z5l
    rw[k4e,ha,bsS,ifN (by omega),e2,bsS,q3P (by omega),tnC,getD_some (by rw[e3.1];exact hk'),bsS,bsS]
    have:=e3.2 k
    congr 1
    by_cases hz:l.getD k 0=0
    ·rw[decide_eq_true hz,decide_eq_false (by omega)];rfl
    ·rw[decide_eq_false hz,decide_eq_true (by omega)];rfl
   have hrun:∀ (xs:List Symbol) (ys:List Int) (i:Nat),(∀ j x,xs[j]?=some x→g.ss_[i+j]?=some x)→ys.length=xs.length→(∀ j y,ys[j]?=some y→l.getD (i+j) 0=y) →
     findL (z1e g) i xs ()=some (match ys.findIdx? fun x=>decide (x=0) with|some j=>.inr (8,((i+j:Nat):Int))|none=>.inl ()):=by
    intro xs
    induction xs with
    | nil=>
     intro ys i _ hl _
     obtain rfl:=List.eq_nil_of_length_eq_zero hl
     rfl
    | cons x xs ih=>
     intro ys i hx hl hy
     cases ys with
     | nil=>simp at hl
     | cons y ys=>
      have h1:=hprod i x (by simpa using hx 0 x rfl)
      have h2:l.getD i 0=y:=by simpa using hy 0 y rfl
      have ih:=ih ys (i+1) (fun j z hz=>by rw[show i+1+j=i+(j+1) by omega];exact hx (j+1) z (by simpa using hz)) (by simpa using hl) fun j z hz=>by
       rw[show i+1+j=i+(j+1) by omega];exact hy (j+1) z (by simpa using hz)
      rw[h2] at h1
      have e:z1e g i x ()=some (if y=0 then .inr (8,(i:Int)) else .inl ()):=by
       unfold z1e
       rw[h1,bsS]
       by_cases hz:y=0
       ·rw[decide_eq_true hz,ifP hz];rfl
       ·rw[decide_eq_false hz,ifN hz];rfl
      rw[findL,e,bsS,Ejz]
      by_cases hz:y=0
      ·rw[ifP hz,ifP (by simpa using hz)];rfl
      ·rw[ifN hz,ifN (by simpa using hz)]
       dsimp only
       rw[ih]
       cases ys.findIdx? fun x=>decide (x=0) with
       | none=>rfl
       | some j=>simp only[Byz];rw[show i+1+j=i+(j+1) by omega]
   rw[hrun g.ss_ l 0 (fun j x hx=>by rw[Adz];exact hx) e3.1 fun j y hy=>by rw[Adz,Cwz,hy];rfl]
   dsimp only
   cases l.findIdx? fun x=>decide (x=0) with
   | some k=>dsimp only;rw[Adz];rfl
   | none=>rfl
 ·rw[ifN h0,ifN h0]
noncomputable def z8J (g:Gm_):Bool:=decide ((j9P g).1=0)
theorem k6l {g:Gm_}(h:Sz.szd g≤1048576):z4A g=some (z8J g):=by
 unfold z4A;rw[k6j h];rfl
theorem k6m {g:Gm_}(h:Sz.szd g≤1048576):z6a g=some (z8J g):=by
 unfold z6a;rw[k6k h];rfl
theorem z8A {g:Gm_}(h:z8J g=true):Shape g:=by
 refine k0N ?_
 unfold z8J at h
 rw[decide_eq_true_eq] at h
 unfold j9P at h
 by_cases h0:(z7c g).1=0
 ·exact h0
 ·rw[ifN h0] at h;exact h
end Go.Proofs.YtgkepiefcpfimaaGreatDoor
