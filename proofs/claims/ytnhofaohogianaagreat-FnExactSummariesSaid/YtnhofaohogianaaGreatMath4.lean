/- What those partial functions come to: plain lemmas on data; each bears its conditions in its statement. -/
import Derived.Test.YtnhofaohogianaaGreatMath3
set_option linter.unusedVariables false
set_option linter.unusedSimpArgs false
set_option linter.ambiguousOpen false
set_option linter.unusedSectionVars false
set_option linter.unnecessarySimpa false
open List renaming range'→Czz,range'_succ→Eez,any_eq_true→Efz,any_eq_false→Egz,all_eq_true→Ehz,findIdx?_cons→Eiz,getD_eq_getElem?_getD→Ctz,getElem?_eq_getElem→Ckz,not_any_eq_all_not→Ejz,findIdx?_eq_none_iff→Ekz,getElem?_of_mem→Elz,getElem?_cons_zero→Emz,getElem?_cons_succ→Apz,getD_cons_zero→Enz,getD_cons_succ→Eoz,map_cons→Bhz,map_nil→Daz,findIdx?_eq_some_iff_getElem→Epz,replicate→Bmz,mem_of_getElem?→Bsz
open Nat renaming le_trans→Bdz,zero_add→Adz
open Option renaming map_some→Bvz,getD_some→Byz
open Bool renaming not_true→Ecz,or_self→Eqz,false_eq_true→Dvz,or_eq_false_iff→Djz
open Int renaming natCast_nonneg→Dmz
namespace Go.Proofs.YtnhofaohogianaaGreat
open Go Go.E
theorem j5x {ρ:Type}{c:ρ}{q:Nat→Bool}{n:Nat}{f:Nat→Unit→Option (Unit ⊕ ρ)}(h:∀ k,k<n→f k ()=some (if q k=true then .inl () else .inr c)):∀ (m k:Nat),k+m=n→findN f k m ()=some (if (Czz k m).all q=true then .inl () else .inr c)
 | 0,k,_=>rfl
 | m+1,k,hk=>by
  have ih:=j5x h m (k+1) (by omega)
  rw[findN,h k (by omega),bsS]
  by_cases hq:q k=true
  ·rw[ifP hq,show (Czz k (m+1)).all q=(Czz (k+1) m).all q by simp[Eez,hq]]
   exact ih
  ·rw[ifN hq,show (Czz k (m+1)).all q=false by simp[Eez,hq]];rfl
theorem j8a {ρ:Type}{c:ρ}{q:Nat→Bool}{n:Nat}{f:Int→Option (Int ⊕ (Unit ⊕ ρ))}(h:∀ k:Nat,k<n→f (k:Int)=some (if q k=true then .inl ((k+1:Nat):Int) else .inr (.inr c)))(he:f (n:Int)=some (.inr (.inl ()))):∀ (m k:Nat),k+m=n→q4Y f (k:Int)=some (if (Czz k m).all q=true then .inl () else .inr c)
 | 0,k,hk=>by
  obtain rfl:k=n:=by omega
  exact q3V he
 | m+1,k,hk=>by
  have ih:=j8a h he m (k+1) (by omega)
  have h1:=h k (by omega)
  by_cases hq:q k=true
  ·rw[ifP hq] at h1
   rw[q4Q h1,show (Czz k (m+1)).all q=(Czz (k+1) m).all q by simp[Eez,hq]]
   exact ih
  ·rw[ifN hq] at h1
   rw[q3V h1,show (Czz k (m+1)).all q=false by simp[Eez,hq]];rfl
def j2N (g:Gm_)(r:Rule):Bool:=(Czz 0 (r.rt_.length+1)).all fun k=>(q6P g (q8K r (k:Int))).2
theorem j6X (g:Gm_){r:Rule}(hl:ROk r):z3V g r=some (!j2N g r):=by
 have hl' : r.rt_.length≤1048576:=hl
 unfold z3V
 rw[q3G (by constructor<;>omega),j5x (c:=true) (n:=r.rt_.length+1) (q:=fun k=>(q6P g (q8K r (k:Int))).2) (fun k hk=>by
  unfold j0M
  rw[j1A hl,bsS,z2I,bsS]
  dsimp only
  rw[← apply_ite some]) (r.rt_.length+1) 0 (by omega)]
 unfold j2N
 cases (Czz 0 (r.rt_.length+1)).all fun k=>(q6P g (q8K r (k:Int))).2<;>rfl
theorem j6Y {g:Gm_}(h:GOk g){r:Rule}(hl:ROk r):q9I g r=some (j2N g r):=by
 have hl' : r.rt_.length≤1048576:=hl
 unfold q9I
 have e:=j8a (c:=false) (q:=fun k=>(q6P g (q8K r (k:Int))).2) (n:=r.rt_.length+1) (f:=q8S g r) (fun k hk=>by
  unfold q8S
  rw[ifP (by omega),z7i hl,bsS,z4l h,bsS]
  dsimp only
  rw[q3G (by constructor<;>omega),← apply_ite some];rfl) (by
  unfold q8S;rw[ifN (by omega)]) (r.rt_.length+1) 0 (by omega)
 rw[show q4Y (q8S g r) 0=_ from e]
 unfold j2N
 cases (Czz 0 (r.rt_.length+1)).all fun k=>(q6P g (q8K r (k:Int))).2<;>rfl
theorem k5v (K:List Oc)(o:Oc):q4V K o=some (decide (o∈K)):=by
 unfold q4V q4j
 rw[q5X (q:=fun x=>decide (o=x)) fun k x hx=>by
  unfold q4v
  by_cases h:o=x
  ·rw[ifP h,ifP (by simpa using h)]
  ·rw[ifN h,ifN (by simpa using h)]]
 congr 1
 by_cases h:o∈K
 ·rw[decide_eq_true h,Efz];exact⟨o,h,by simp⟩
 ·rw[decide_eq_false h,Egz];intro x hx he;simp at he;exact h (he▸hx)
theorem k1g (K:List Oc)(o:Oc):z0v K o=some (decide (o∈K)):=by
 unfold z0v
 rw[q4T (c:=true) (q:=fun x=>!decide (x=o)) fun k x hx=>by
  unfold z9m
  by_cases h:x=o
  ·rw[ifP h,ifN (by simp[h])]
  ·rw[ifN h,ifP (by simp[h])]]
 by_cases h:o∈K
 ·rw[decide_eq_true h,ifN];· rfl
  rw[Ehz];intro hh;have:=hh o h;simp at this
 ·rw[decide_eq_false h,ifP];· rfl
  rw[Ehz];intro x hx;simp;exact fun e=>h (e▸hx)
def j5y (r:Rule)(o:Oc):Bool:=r.es_.any fun q=>decide (q.At=o)
theorem k3h (r:Rule)(o:Oc):(eqAt r o).2=j5y r o:=by
 unfold eqAt j5y
 cases hf:r.es_.find? (fun q=>decide (q.At=o)) with
 | none=>rw[List.find?_eq_none] at hf;symm;rw[Egz];exact hf
 | some q=>symm;rw[Efz];exact⟨q,List.mem_of_find?_eq_some hf,List.find?_some (p:=fun q:Eqn=>decide (q.At=o)) hf⟩
def k1h (g:Gm_)(r:Rule):Bool:=(reqL g r).any fun o=>!j5y r o
theorem k3i {g:Gm_}(h:GOk g){r:Rule}(hl:ROk r):z3W g r=some (k1h g r):=by
 unfold z3W k1h
 rw[k0K h hl,bsS]
 unfold q4i q4t
 rw[q5X (q:=fun o=>!j5y r o) fun k o ho=>by
  unfold q5O z3b q4h q4s
  rw[q5X (q:=fun q:Eqn=>decide (q.At=o)) fun k y hy=>by
   unfold q5N z1a
   rw[bsS]
   by_cases h:y.At=o
   ·rw[decide_eq_true h];rfl
   ·rw[decide_eq_false h];rfl]
  rw[bsS,bsS,← apply_ite some];rfl]
 rfl
theorem k3j {g:Gm_}(h:GOk g){r:Rule}(hr:Sz.szd r≤1048576):q9K g r=some (k1h g r):=by
 unfold q9K k1h
 rw[k0L h (q8b hr),bsS,q4T (c:=true) (q:=j5y r) fun k o ho=>by
  unfold z6v
  rw[j3S hr o,bsS]
  dsimp only
  rw[k3h,← apply_ite some]]
 have e:((reqL g r).all (j5y r))=!((reqL g r).any fun o=>!j5y r o):=by rw[j1D]
 rw[e]
 cases (reqL g r).any fun o=>!j5y r o<;>rfl
def j5z (g:Gm_)(r:Rule):Bool:=(q4A (fun p (x:Eqn)=>!decide (x.At∈reqL g r)||p.any fun o=>decide (o.At=x.At)) [] r.es_).isSome
theorem k1i {g:Gm_}(h:GOk g){r:Rule}(hl:ROk r):z7R g r=some (j5z g r):=by
 unfold z7R j5z
 rw[k0K h hl,bsS]
 rw[show findL (z7Q r (reqL g r)) 0 r.es_ ()=_ from z5V (bad:=fun p (x:Eqn)=>!decide (x.At∈reqL g r)||p.any fun o=>decide (o.At=x.At)) (c:=fun _=>true) (all:=r.es_) (f:=z7Q r (reqL g r)) (fun pre x post e=>by
  unfold z7Q
  rw[k5v,bsS]
  cases decide (x.At∈reqL g r) with
  | false=>rfl
  | true=>
   rw[ifP rfl,q3G (by rw[e];simp),show r.es_.take pre.length=pre by rw[e];simp]
   unfold q4y q4H
   rw[q5X (q:=fun o:Eqn=>decide (o.At=x.At)) fun k y hy=>by
    unfold q6h z6j
    rw[bsS]
    by_cases h:y.At=x.At
    ·rw[decide_eq_true h];rfl
    ·rw[decide_eq_false h];rfl]
   rw[bsS,← apply_ite some];rfl) r.es_ [] rfl]
 cases q4A (fun p (x:Eqn)=>!decide (x.At∈reqL g r)||p.any fun o=>decide (o.At=x.At)) [] r.es_<;>rfl
theorem k1j {g:Gm_}(h:GOk g){r:Rule}(hr:Sz.szd r≤1048576):z2q g r=some (j5z g r):=by
 have hl:=(k4s hr).1
 unfold z2q j5z
 rw[k0L h (q8b hr),bsS]
 have h1:=(z4m (bad:=fun p (x:Eqn)=>!decide (x.At∈reqL g r)||p.any fun o=>decide (o.At=x.At)) (nm:=fun y:Eqn=>y.At) (c:=fun _=>true) (all:=r.es_)
  (f:=fun k x _=>some (if (!decide (x.At∈reqL g r)||(r.es_.take k).any fun o=>decide (o.At=x.At))=true then .inr true else .inl ())) (h:=z2X (reqL g r)) (fun pre x post e=>by
   rw[show r.es_.take pre.length=pre by rw[e];simp]) (fun pre x post e=>by
  unfold z2X
  rw[k1g,bsS]
  cases decide (x.At∈reqL g r) with
  | false=>rfl
  | true=>
   have hp:pre.length≤1048576:=by
     have:r.es_.length=pre.length+(post.length+1):=by rw[e];simp
     omega
   have e2:decide (x.At∈pre.map fun y:Eqn=>y.At)=pre.any fun o=>decide (o.At=x.At):=by
    by_cases hm:x.At∈pre.map fun y:Eqn=>y.At
    ·rw[decide_eq_true hm];symm;rw[Efz]
     obtain⟨y,hy,he⟩:=List.mem_map.1 hm
     exact⟨y,hy,by simpa using he⟩
    ·rw[decide_eq_false hm];symm;rw[Egz]
     intro y hy he
     exact hm (List.mem_map.2 ⟨y,hy,by simpa using he⟩)
   rw[ifP rfl,k1g,bsS,e2,q3G (by rw[lnM];constructor<;>omega),List.map_append,← apply_ite some];rfl) r.es_ [] rfl).2
 rw[show findL (z2X (reqL g r)) 0 r.es_ []=_ from h1]
 cases q4A (fun p (x:Eqn)=>!decide (x.At∈reqL g r)||p.any fun o=>decide (o.At=x.At)) [] r.es_<;>rfl
def useB (g:Gm_)(r:Rule)(e:Expr):Bool:=(attrs e).all (mayB g r)
theorem j4b {g:Gm_}(h:GOk g){r:Rule}(hl:ROk r){e:Expr}(he:Sz.szd e≤1048576):z0w g r e=some (useB g r e):=by
 unfold z0w useB
 rw[j7S he,bsS,q4T (c:=false) (q:=mayB g r) fun k x hx=>by
  unfold j0I
  rw[k5h h hl,bsS,← apply_ite some]]
 cases (attrs e).all (mayB g r)<;>rfl
theorem k3k (g:Gm_){r:Rule}(hl:ROk r){e:Expr}(he:Sz.szd e≤1048576):z1o e g r=some (!useB g r e):=by
 unfold z1o useB
 rw[j7R he,bsS]
 unfold q4d q4n
 rw[q5X (q:=fun o=>!mayB g r o) fun k o ho=>by
  unfold q5E z1b
  rw[k5g g hl,bsS,bsS,← apply_ite some]]
 rw[bsS,← j1D,Bool.not_not]
def j1F (r:Rule):List Expr:=r.es_.map (fun q=>q.Expr)++r.cs_.flatMap fun q=>[q.tt_,q.Value]
theorem k3l {r:Rule}(hr:Sz.szd r≤1048576):q8Y r=some (j1F r):=by
 have hl:=k4s hr
 have h1:∀ (xs:List Eqn) (i:Nat) (s:List Expr),s.length+xs.length≤1048576→eachL z0b i xs s=some (s++xs.map fun q=>q.Expr):=by
  intro xs
  induction xs with
  | nil=>intro i s _;simp[eachL]
  | cons x xs ih=>
   intro i s hs
   simp only[lnC] at hs
   have e:z0b i x s=some (s++[x.Expr]):=by unfold z0b;rw[q3G (by constructor<;>omega)]
   rw[eachL,e,bsS,ih _ _ (by simp;omega)];simp
 have h2:∀ (xs:List Cn) (i:Nat) (s:List Expr),s.length+2*xs.length≤4194304→eachL z0c i xs s=some (s++xs.flatMap fun q=>[q.tt_,q.Value]):=by
  intro xs
  induction xs with
  | nil=>intro i s _;simp[eachL]
  | cons x xs ih=>
   intro i s hs
   simp only[lnC] at hs
   have e:z0c i x s=some (s++[x.tt_,x.Value]):=by
    unfold z0c;rw[q3G (by simp only[lnC,List.length_nil];constructor<;>omega)]
   rw[eachL,e,bsS,ih _ _ (by simp;omega)];simp
 unfold q8Y j1F
 rw[h1 _ _ _ (by simpa using hl.1),bsS,h2 _ _ _ (by simp;omega)];simp
theorem k3m {r:Rule}{e:Expr}(h:e∈j1F r):Sz.szd e≤Sz.szd r:=by
 unfold j1F at h
 rcases List.mem_append.1 h with h|h
 ·obtain⟨q,hq,rfl⟩:=List.mem_map.1 h;exact z7h hq
 ·obtain⟨q,hq,he⟩:=List.mem_flatMap.1 h
  have:=z8n hq
  simp at he
  rcases he with rfl|rfl
  ·exact this.1
  ·exact this.2
def misB (g:Gm_)(r:Rule):Bool:=!(j1F r).all (useB g r)
theorem k5w (g:Gm_){r:Rule}(hr:Sz.szd r≤1048576):z3X g r=some (misB g r):=by
 unfold z3X misB
 rw[k3l hr,bsS]
 unfold q4E q4N
 rw[q5X (q:=fun e=>!useB g r e) fun k e he=>by
  unfold q6z
  rw[k3k g (q8b hr) (Bdz (k3m he) hr),bsS,← apply_ite some]]
 rw[bsS,← j1D,Bool.not_not]
theorem k5x {g:Gm_}(h:GOk g){r:Rule}(hr:Sz.szd r≤1048576):z1j g r=some (misB g r):=by
 unfold z1j misB
 rw[q4T (c:=true) (q:=fun q:Eqn=>useB g r q.Expr) fun k x hx=>by
  unfold z7L
  rw[j4b h (q8b hr) (Bdz (z7h hx) hr),bsS,← apply_ite some]]
 rw[q4T (c:=true) (q:=fun q:Cn=>useB g r q.tt_&&useB g r q.Value) fun k x hx=>by
  have hs:=z8n hx
  unfold z7M
  rw[j4b h (q8b hr) (Bdz hs.1 hr),bsS]
  cases useB g r x.tt_ with
  | false=>rfl
  | true=>rw[ifP rfl,j4b h (q8b hr) (Bdz hs.2 hr),bsS,← apply_ite some];rfl]
 have e:(j1F r).all (useB g r)=((r.es_.all fun q=>useB g r q.Expr)&&r.cs_.all fun q=>useB g r q.tt_&&useB g r q.Value):=by
  unfold j1F
  rw[List.all_append,List.all_map,List.all_flatMap]
  congr 1
  congr 1;funext q;simp
 rw[e]
 cases r.es_.all fun q=>useB g r q.Expr with
 | false=>rfl
 | true=>cases r.cs_.all fun q=>useB g r q.tt_&&useB g r q.Value<;>rfl
def z4o (g:Gm_)(r:Rule)(k:Int):Bool:=if k=3 then !j2N g r else if k=4 then k1h g r else if k=5 then j5z g r else misB g r
theorem k1k {g:Gm_}(h:GOk g){r:Rule}(hr:Sz.szd r≤1048576)(k:Int):z1k g r k=some (z4o g r k):=by
 unfold z1k z4o
 by_cases h3:k=3
 ·rw[ifP h3,ifP h3,j6Y h (q8b hr)];rfl
 ·rw[ifN h3,ifN h3]
  by_cases h4:k=4
  ·rw[ifP h4,ifP h4,k3j h hr];rfl
  ·rw[ifN h4,ifN h4]
   by_cases h5:k=5
   ·rw[ifP h5,ifP h5,k1j h hr];rfl
   ·rw[ifN h5,ifN h5,k5x h hr];rfl
theorem j5A {g:Gm_}(h:GOk g){r:Rule}(hr:Sz.szd r≤1048576)(k:Int)(i:Nat):z1c g k i r ()=some (if z4o g r k=true then .inr (k,(i:Int)) else .inl ()):=by
 unfold z1c z4o
 by_cases h3:k=3
 ·rw[ifP h3,ifP h3,j6X g (q8b hr),bsS,← apply_ite some]
 ·rw[ifN h3,ifN h3]
  by_cases h4:k=4
  ·rw[ifP h4,ifP h4,k3i h (q8b hr),bsS,← apply_ite some]
  ·rw[ifN h4,ifN h4]
   by_cases h5:k=5
   ·rw[ifP h5,ifP h5,k1i h (q8b hr),bsS,← apply_ite some]
   ·rw[ifN h5,ifN h5,k5w g hr,bsS,← apply_ite some]
theorem k1l {g:Gm_}(h:GOk g){r:Rule}(hr:Sz.szd r≤1048576)(k:Int)(i:Nat):z0V g k i r ()=some (if z4o g r k=true then .inr (k,(i:Int)) else .inl ()):=by
 unfold z0V
 rw[k1k h hr,bsS,← apply_ite some]
theorem j1G {α σ ρ:Type}{f g:Nat→α→σ→Option (σ ⊕ ρ)}:∀ {xs:List α} {i:Nat} {s:σ},(∀ k x s,x∈xs→f k x s=g k x s)→findL f i xs s=findL g i xs s
 | [],_,_,_=>rfl
 | x::xs,i,s,h=>by
  rw[findL,findL,h i x s (by simp)]
  congr 1;funext z
  cases z with
  | inl s'=>exact j1G fun k y s hy=>h k y s (by simp[hy])
  | inr r=>rfl
theorem j6Z {g:Gm_}(h:Sz.szd g≤1048576)(k:Int):z0W g k=q5U g k:=by
 unfold z0W q5U
 have e:findL (z0V g k) 0 g.rs_ ()=findL (z1c g k) 0 g.rs_ ():=j1G fun i x _ hx=>by
  have hr:=Bdz (z5W hx) h
  rw[k1l (z3C h) hr,j5A (z3C h) hr]
 rw[e]
def q7o (g:Gm_)(k:Int):Option (Int×Int):=match g.rs_.findIdx? fun r=>z4o g r k with
 | some i=>some (k,(i:Int))
 | none=>none
theorem z5X {α ρ:Type}{q:α→Bool}{c:Nat→ρ}:∀ {xs:List α} {i:Nat} {f:Nat→α→Unit→Option (Unit ⊕ ρ)},(∀ k x,x∈xs→f k x ()=some (if q x=true then .inr (c k) else .inl ())) →
  findL f i xs ()=some (match xs.findIdx? q with|some j=>.inr (c (i+j))|none=>.inl ())
 | [],_,_,_=>rfl
 | x::xs,i,f,h=>by
  rw[findL,h i x (by simp),bsS,Eiz]
  by_cases hq:q x=true
  ·rw[ifP hq,ifP hq];rfl
  ·rw[ifN hq,ifN hq]
   have ih:=z5X (q:=q) (c:=c) (xs:=xs) (i:=i+1) (f:=f) fun k y hy=>h k y (by simp[hy])
   dsimp only
   rw[ih]
   cases xs.findIdx? q with
   | none=>rfl
   | some j=>simp only[Bvz];rw[show i+1+j=i+(j+1) by omega]
def z5Y (g:Gm_):Int×Int:=
 if !decide (1≤g.ss_.length∧g.ss_.length≤4) || !decide (1≤g.rs_.length∧g.rs_.length≤8) then (1,0)
 else if 0≤z6B g then (1,z6B g)
 else if (g.ss_.getD 0 zS).as_.any fun a=>decide (a.Mode=1) then (2,0)
 else (q7o g 3 <|> (q7o g 4 <|> (q7o g 5 <|> q7o g 6))).getD (0,0)
theorem j1H {g:Gm_}(h:Sz.szd g≤1048576):(q4Y (q5U g) 3).bind (onr (fun r2=>some r2) fun ()=>some (0,0))=some ((q7o g 3 <|> (q7o g 4 <|> (q7o g 5 <|> q7o g 6))).getD (0,0)):=by
 have hstep:∀ k:Int,3≤k→k≤6→q5U g k=match q7o g k with|some z=>some (.inr (.inr z))|none=>some (.inl (k+1)):=by
  intro k h3 h6
  unfold q5U q7o
  rw[ifP h6,z5X (q:=fun r=>z4o g r k) (c:=fun i=>(k,(i:Int))) fun i x hx=>j5A (z3C h) (Bdz (z5W hx) h) k i]
  cases g.rs_.findIdx? fun r=>z4o g r k with
  | some i=>simp
  | none=>rw[bsS];dsimp only[onr];rw[q3G (by constructor<;>omega)]
 have hend:q5U g 7=some (.inr (.inl ())):=by unfold q5U;rw[ifN (by omega)]
 have h3:=hstep 3 (by omega) (by omega)
 have h4:=hstep 4 (by omega) (by omega)
 have h5:=hstep 5 (by omega) (by omega)
 have h6:=hstep 6 (by omega) (by omega)
 cases s3:q7o g 3 with
 | some z=>rw[s3] at h3;rw[q3V h3];rfl
 | none=>
  rw[s3] at h3
  rw[q4Q h3,show (3:Int)+1=4 by rfl]
  cases s4:q7o g 4 with
  | some z=>rw[s4] at h4;rw[q3V h4];rfl
  | none=>
   rw[s4] at h4
   rw[q4Q h4,show (4:Int)+1=5 by rfl]
   cases s5:q7o g 5 with
   | some z=>rw[s5] at h5;rw[q3V h5];rfl
   | none=>
    rw[s5] at h5
    rw[q4Q h5,show (5:Int)+1=6 by rfl]
    cases s6:q7o g 6 with
    | some z=>rw[s6] at h6;rw[q3V h6];rfl
    | none=>
     rw[s6] at h6
     rw[q4Q h6,show (6:Int)+1=7 by rfl,q3V hend];rfl
theorem k1m {g:Gm_}(h:Sz.szd g≤1048576):z0d g=some (z5Y g):=by
 unfold z0d z5Y
 rw[z9t,bsS]
 by_cases h1:1≤g.ss_.length∧g.ss_.length≤4
 ·rw[decide_eq_true (by omega),ifP rfl,z9t,bsS,decide_eq_true h1]
  by_cases h2:1≤g.rs_.length∧g.rs_.length≤8
  ·rw[decide_eq_true (by omega),ifP rfl,k1e h,bsS,decide_eq_true h2]
   simp only[Ecz,Eqz,Dvz,if_false]
   by_cases h3:0≤z6B g
   ·rw[ifP h3,ifP h3]
   ·rw[ifN h3,ifN h3,Ctz,Ckz (by omega:0<g.ss_.length),bsS,Byz]
    unfold q4c q4m
    rw[q5X (q:=fun a:At_=>decide (a.Mode=1)) fun k y hy=>by
     unfold q5D z0a
     rw[bsS,← apply_ite some]]
    rw[bsS]
    by_cases h4:(g.ss_[0].as_.any fun a=>decide (a.Mode=1))=true
    ·rw[ifP h4,ifP h4]
    ·rw[ifN h4,ifN h4]
     exact j1H h
  ·rw[decide_eq_false (by omega),decide_eq_false h2];rfl
 ·rw[decide_eq_false (by omega),decide_eq_false h1];rfl
theorem k1n {g:Gm_}(h:Sz.szd g≤1048576):q9L g=some (z5Y g):=by
 unfold q9L z5Y
 rw[z5O,bsS]
 by_cases h1:1≤g.ss_.length∧g.ss_.length≤4
 ·rw[decide_eq_true (by omega),ifP rfl,z5O,bsS,decide_eq_true h1]
  by_cases h2:1≤g.rs_.length∧g.rs_.length≤8
  ·rw[decide_eq_true (by omega),ifP rfl,k1f h,bsS,decide_eq_true h2]
   simp only[Ecz,Eqz,Dvz,if_false]
   by_cases h3:0≤z6B g
   ·rw[ifP h3,ifP h3]
   ·rw[ifN h3,ifN h3,Ctz,Ckz (by omega:0<g.ss_.length),bsS,Byz]
    rw[q4T (c:=((2:Int),(0:Int))) (q:=fun a:At_=>!decide (a.Mode=1)) fun k y hy=>by
     unfold z6w
     by_cases hm:y.Mode=1
     ·rw[ifP hm,ifN (by simp[hm])]
     ·rw[ifN hm,ifP (by simp[hm])]]
    have e:(g.ss_[0].as_.all fun a=>!decide (a.Mode=1))=!(g.ss_[0].as_.any fun a=>decide (a.Mode=1)):=by rw[Ejz]
    rw[e]
    cases (g.ss_[0].as_.any fun a=>decide (a.Mode=1)) with
    | true=>rfl
    | false=>
     rw[Bool.not_false,ifP rfl,bsS,z3q,ifN (by simp),show z0W g=q5U g from funext fun k=>j6Z h k]
     exact j1H h
  ·rw[decide_eq_false (by omega),decide_eq_false h2];rfl
 ·rw[decide_eq_false (by omega),decide_eq_false h1];rfl
theorem z6m {α:Type}{bad:List α→α→Bool}:∀ (xs pre:List α),q4A bad pre xs=none→∀ k x,xs[k]?=some x→bad (pre++xs.take k) x=false
 | [],pre,h,k,x,hx=>by simp at hx
 | y::xs,pre,h,k,x,hx=>by
  rw[q4A] at h
  by_cases hb:bad pre y=true
  ·rw[ifP hb] at h;cases h
  ·rw[ifN hb] at h
   cases k with
   | zero=>simp at hx;subst hx;simpa using hb
   | succ k=>
    have:=z6m xs (pre++[y]) h k x (by simpa using hx)
    simpa using this
structure Shape (g:Gm_):Prop where
 syms:1≤g.ss_.length∧g.ss_.length≤4
 rules:1≤g.rs_.length∧g.rs_.length≤8
 sym:q4A z4n [] g.ss_=none
 rule:q4A z1D [] g.rs_=none
 brk:∀ k:Int,3≤k→k≤6→∀ r∈g.rs_,z4o g r k=false
 j4B:∀ y a,g.ss_[0]?=some y→a∈y.as_→a.Mode≠1
theorem j8b {g:Gm_}(h:(z5Y g).1=0):Shape g:=by
 unfold z5Y at h
 by_cases h1:1≤g.ss_.length∧g.ss_.length≤4
 ·by_cases h2:1≤g.rs_.length∧g.rs_.length≤8
  ·rw[decide_eq_true h1,decide_eq_true h2] at h
   simp only[Ecz,Eqz,Dvz,if_false] at h
   by_cases h3:0≤z6B g
   ·rw[ifP h3] at h;simp at h
   ·rw[ifN h3] at h
    by_cases h4:((g.ss_.getD 0 zS).as_.any fun a=>decide (a.Mode=1))=true
    ·rw[ifP h4] at h;simp at h
    ·rw[ifN h4] at h
     have hf:q4A z4n [] g.ss_=none∧q4A z1D [] g.rs_=none:=by
      unfold z6B at h3
      cases e1:q4A z4n [] g.ss_ with
      | some k=>rw[e1] at h3;exact absurd (Dmz k) h3
      | none=>
       cases e2:q4A z1D [] g.rs_ with
       | some k=>rw[e1,e2] at h3;exact absurd (Dmz k) h3
       | none=>exact⟨rfl,rfl⟩
     have hk:∀ k:Int,q7o g k=none→∀ r∈g.rs_,z4o g r k=false:=by
      intro k hk r hr
      unfold q7o at hk
      cases e:g.rs_.findIdx? fun r=>z4o g r k with
      | some i=>rw[e] at hk;cases hk
      | none=>
       rw[Ekz] at e
       exact e r hr
     have hc:∀ k:Int,3≤k→∀ z,q7o g k=some z→z.1≠0:=by
      intro k h3 z hz
      unfold q7o at hz
      cases e:g.rs_.findIdx? fun r=>z4o g r k with
      | none=>rw[e] at hz;cases hz
      | some i=>rw[e] at hz;cases hz;show k≠0;omega
     have n3:q7o g 3=none:=by
      cases e:q7o g 3 with
      | none=>rfl
      | some z=>rw[e] at h;exact absurd h (hc 3 (by omega) z e)
     rw[n3] at h
     have n4:q7o g 4=none:=by
      cases e:q7o g 4 with
      | none=>rfl
      | some z=>rw[e] at h;exact absurd h (hc 4 (by omega) z e)
     rw[n4] at h
     have n5:q7o g 5=none:=by
      cases e:q7o g 5 with
      | none=>rfl
      | some z=>rw[e] at h;exact absurd h (hc 5 (by omega) z e)
     rw[n5] at h
     have n6:q7o g 6=none:=by
      cases e:q7o g 6 with
      | none=>rfl
      | some z=>rw[e] at h;exact absurd h (hc 6 (by omega) z e)
     refine⟨h1,h2,hf.1,hf.2,fun k k3 k6=>?_,fun y a hy ha hm=>h4 ?_⟩
     ·have:k=3∨k=4∨k=5∨k=6:=by omega
      rcases this with rfl|rfl|rfl|rfl
      ·exact hk _ n3
      ·exact hk _ n4
      ·exact hk _ n5
      ·exact hk _ n6
     ·rw[Ctz,hy,Efz]
      exact⟨a,ha,by simpa using hm⟩
  ·rw[decide_eq_false h2] at h;simp at h
 ·rw[decide_eq_false h1] at h;simp at h
theorem Shape.ruleB {g:Gm_}(h:Shape g){r:Rule}(hr:r∈g.rs_):ruleB r=true:=by
 obtain⟨k,hk⟩:=Elz hr
 have:=z6m _ _ h.rule k r hk
 unfold z1D at this
 rw[Djz] at this
 simpa using this.1
theorem Shape.symB {g:Gm_}(h:Shape g){y:Symbol}(hy:y∈g.ss_):symB y=true:=by
 obtain⟨k,hk⟩:=Elz hy
 have:=z6m _ _ h.sym k y hk
 unfold z4n at this
 rw[Djz] at this
 simpa using this.1
theorem Shape.pos {g:Gm_}(h:Shape g){r:Rule}(hr:r∈g.rs_){q:Eqn}(hq:q∈r.es_):0≤q.At.Pos∧q.At.Pos≤(r.rt_.length:Int):=by
 have:=h.ruleB hr
 unfold Go.Proofs.YtnhofaohogianaaGreat.ruleB at this
 simp only[Bool.and_eq_true,Ehz] at this
 have:=this.2.2.2.1 q hq
 unfold eqnB at this
 simp only[Bool.and_eq_true,decide_eq_true_eq] at this
 exact this.2.2
def typK (g:Gm_)(r:Rule)(k n p t:Int)(sy nm:BA_)(ts:List Int):Int:=
 if k=1 then t else if k=2 then (if r.ll_=true then 1 else 0) else if k=3 then (z0s g r ⟨p,nm⟩).1.t__
 else if k=4 then (if ts.length=2∧ts.getD 0 0=(opT n).1∧ts.getD 1 0=(opT n).2.1 then (opT n).2.2 else 0)
 else if k=5 then (if ts.length=3∧ts.getD 0 0=3∧ts.getD 1 0=ts.getD 2 0 then ts.getD 1 0 else 0)
 else if k=6 then (if 0≤p∧p≤(r.rt_.length:Int) then 4 else 0) else if k=7 then 4
 else if k=8 then (if ts.length=1∧ts.getD 0 0=4 then (z4k (q6P g sy).1 nm).1.t__ else 0) else 0
mutual
def typE (g:Gm_)(r:Rule):Expr→Int
 | ⟨k,n,p,t,sy,nm,a⟩=>typK g r k n p t sy nm (k3n g r a)
def k3n (g:Gm_)(r:Rule):List Expr→List Int
 | []=>[]
 | x::xs=>typE g r x::k3n g r xs
end
theorem j8c (g:Gm_)(r:Rule):∀ l,k3n g r l=l.map (typE g r)
 | []=>rfl
 | x::xs=>by rw[k3n,j8c g r xs];rfl
theorem k1o (g:Gm_)(r:Rule)(e:Expr):typE g r e=typK g r e.Kind e.N e.Pos e.t__ e.Symbol e.Name (e.Args.map (typE g r)):=by
 cases e;rw[typE,j8c]
theorem j5B {y:Symbol}{s:BA_}(h:(z4k y s).2≠true):(z4k y s).1=zA:=by
 unfold z4k at h ⊢
 cases hf:y.as_.find? (fun a=>decide (a.Name=s)) with
 | none=>rfl
 | some a=>rw[hf] at h;exact absurd rfl h
theorem j7a {g:Gm_}(h:GOk g)(s nm:BA_):q6w g s nm=some (z4k (q6P g s).1 nm).1.t__:=by
 unfold q6w
 rw[z4l h,bsS]
 try dsimp only
 rw[j1z,bsS]
 try dsimp only
 by_cases hb:(z4k (q6P g s).1 nm).2=true
 ·rw[ifP hb]
 ·rw[ifN hb,j5B hb];rfl
theorem k3o (g:Gm_){r:Rule}(hl:ROk r)(e:Expr):∀ m,fuE e≤m→Sz.szd e≤1048576→q7t m g r e=some (typE g r e):=by
 induction e using z1R with
 | h e ih=>
  intro m hm hs
  obtain⟨m,rfl⟩:∃ q,m=q+1:=⟨m-1,by have:=z6z e;omega⟩
  show z0e (q7t m) g r e=_
  have hlen:e.Args.length≤1048576:=by have:=q7A e;have:=q4P e.Args;omega
  have hloop:∀ (xs:List Expr) (i:Nat) (s:List Int),(∀ x∈xs,x∈e.Args)→s.length+xs.length≤1048576→eachL (z1d (q7t m) g r) i xs s=some (s++xs.map (typE g r)):=by
   intro xs
   induction xs with
   | nil=>intro i s _ _;simp[eachL]
   | cons x xs ihx=>
    intro i s hx hn
    simp only[lnC] at hn
    have e1:z1d (q7t m) g r i x s=some (s++[typE g r x]):=by
     unfold z1d
     have hxe:=hx x (by simp)
     rw[ih x hxe m (by have:=z6A hxe;omega) (by have:=k0B hxe;omega),bsS,q3G (by constructor<;>omega)]
    rw[eachL,e1,bsS,ihx _ _ (fun y hy=>hx y (by simp[hy])) (by simp;omega)];simp
  unfold z0e
  rw[hloop e.Args 0 [] (fun _ h=>h) (by simpa using hlen),bsS,List.nil_append,k1o]
  generalize e.Args.map (typE g r)=ts
  unfold typK
  by_cases k1:e.Kind=1
  ·rw[ifP k1,ifP k1]
  rw[ifN k1,ifN k1]
  by_cases k2:e.Kind=2
  ·rw[ifP k2,ifP k2,bsS]
   by_cases hL:r.ll_=true
   ·rw[ifP hL,ifP hL]
   ·rw[ifN hL,ifN hL]
    simp[k2]
  rw[ifN k2,ifN k2,bsS,ifN (by simp)]
  by_cases k3:e.Kind=3
  ·rw[ifP k3,ifP k3,z8Z g hl];rfl
  rw[ifN k3,ifN k3]
  by_cases k4:e.Kind=4
  ·rw[ifP k4,ifP k4,bsS]
   by_cases hn:ts.length=2
   ·obtain⟨a,b,rfl⟩:∃ a b,ts=[a,b]:=by
     match ts,hn with
     | [a,b],_=>exact⟨a,b,rfl⟩
    rw[ifP (by simp),k5o,bsS]
    simp only[Emz,Apz,bsS,Enz,Eoz]
    by_cases ha:a=(opT e.N).1
    ·rw[ifP ha,bsS]
     by_cases hb:b=(opT e.N).2.1
     ·rw[ifP (by simp[hb]),ifP ⟨hn,ha,hb⟩]
     ·rw[ifN (by simp[hb]),ifN fun h=>hb h.2.2]
    ·rw[ifN ha,bsS,ifN (by simp),ifN fun h=>ha h.2.1]
   ·have hz:(if ts.length=2∧ts.getD 0 0=(opT e.N).1∧ts.getD 1 0=(opT e.N).2.1 then (opT e.N).2.2 else 0)=0:=ifN fun h=>hn h.1
    rw[hz,ifN (by simp;omega)]
    simp[k4]
  rw[ifN k4,ifN k4,bsS,ifN (by simp)]
  by_cases k5:e.Kind=5
  ·rw[ifP k5,ifP k5,bsS]
   by_cases hn:ts.length=3
   ·obtain⟨a,b,c,rfl⟩:∃ a b c,ts=[a,b,c]:=by
     match ts,hn with
     | [a,b,c],_=>exact⟨a,b,c,rfl⟩
    rw[ifP (by simp)]
    simp only[Emz,Apz,bsS,Enz,Eoz]
    by_cases ha:a=3
    ·rw[ifP ha]
     by_cases hb:b=c
     ·rw[ifP hb,ifP ⟨hn,ha,hb⟩]
     ·rw[ifN hb,ifN fun h=>hb h.2.2]
    ·rw[ifN ha,ifN fun h=>ha h.2.1]
   ·have hz:(if ts.length=3∧ts.getD 0 0=3∧ts.getD 1 0=ts.getD 2 0 then ts.getD 1 0 else 0)=0:=ifN fun h=>hn h.1
    rw[hz,ifN (by simp;omega)]
    simp[k5]
  rw[ifN k5,ifN k5,bsS,ifN (by simp)]
  by_cases k6:e.Kind=6
  ·rw[ifP k6,ifP k6,z9t,bsS,bsS]
   by_cases hp:0≤e.Pos∧e.Pos≤(r.rt_.length:Int)
   ·rw[decide_eq_true hp,ifP hp];rfl
   ·rw[decide_eq_false hp,ifN hp]
    simp[k6]
  rw[ifN k6,ifN k6,bsS,ifN (by simp),bsS]
  by_cases k7:e.Kind=7
  ·rw[ifP (by simp[k7]),ifP k7]
  rw[ifN (by simp[k7]),ifN k7]
  by_cases k8:e.Kind=8
  ·rw[ifP k8,ifP k8,bsS]
   by_cases hn:ts.length=1
   ·obtain⟨a,rfl⟩:∃ a,ts=[a]:=by
     match ts,hn with
     | [a],_=>exact⟨a,rfl⟩
    rw[ifP (by simp)]
    simp only[Emz,bsS,Enz]
    by_cases ha:a=4
    ·rw[ifP (by simp[ha]),ifP ⟨hn,ha⟩,z2I,bsS]
     try dsimp only
     rw[z8l];rfl
    ·rw[ifN (by simp[ha]),ifN fun h=>ha h.2]
   ·rw[ifN (by simp;omega),ifN fun h=>hn h.1];rfl
  rw[ifN k8,ifN k8];rfl
theorem j7b (g:Gm_){r:Rule}(hl:ROk r){e:Expr}(hs:Sz.szd e≤1048576):z0f g r e=some (typE g r e):=q8H (fuE e) fun m hm=>k3o g hl e m hm hs
theorem k3p {g:Gm_}(h:GOk g){r:Rule}(hl:ROk r)(e:Expr):∀ m,fuE e≤m→q8r m g r e=some (typE g r e):=by
 induction e using z1R with
 | h e ih=>
  intro m hm
  obtain⟨m,rfl⟩:∃ q,m=q+1:=⟨m-1,by have:=z6z e;omega⟩
  show q9M (q8r m) g r e=_
  have hx:∀ x∈e.Args,q8r m g r x=some (typE g r x):=fun x hxe=>ih x hxe m (by have:=z6A hxe;omega)
  unfold q9M
  rw[k1o]
  unfold typK
  by_cases k1:e.Kind=1
  ·rw[ifP k1,ifP k1]
  rw[ifN k1,ifN k1]
  by_cases k2:e.Kind=2
  ·rw[ifP k2,ifP k2,← apply_ite some]
  rw[ifN k2,ifN k2]
  by_cases k3:e.Kind=3
  ·rw[ifP k3,ifP k3,z5O,bsS]
   unfold z0s
   by_cases hp:0≤e.Pos∧e.Pos≤(r.rt_.length:Int)
   ·rw[ifP (by simpa using hp),ifP hp,z7i hl,bsS,j7a h];rfl
   ·rw[ifN (by simpa using hp),ifN hp];rfl
  rw[ifN k3,ifN k3]
  by_cases k4:e.Kind=4
  ·rw[ifP k4,ifP k4]
   unfold j0b
   rw[k5p,bsS]
   try dsimp only
   by_cases hn:e.Args.length=2
   ·obtain⟨a,b,hab⟩:∃ a b,e.Args=[a,b]:=by
     match e.Args,hn with
     | [a,b],_=>exact⟨a,b,rfl⟩
    rw[hab] at hx
    rw[hab,ifP (by simp)]
    simp only[Emz,Apz,bsS,Bhz,Daz,Enz,Eoz]
    rw[hx a (by simp),bsS]
    by_cases ha:typE g r a=(opT e.N).1
    ·rw[ifP ha,hx b (by simp),bsS]
     by_cases hb:typE g r b=(opT e.N).2.1
     ·rw[ifP hb,ifP ⟨by simp,ha,hb⟩];rfl
     ·rw[ifN hb,ifN fun h=>hb h.2.2];rfl
    ·rw[ifN ha,ifN fun h=>ha h.2.1];rfl
   ·rw[ifN (by omega),ifN fun h=>hn (by simpa using h.1)];rfl
  rw[ifN k4,ifN k4]
  by_cases k5:e.Kind=5
  ·rw[ifP k5,ifP k5]
   unfold j0c
   by_cases hn:e.Args.length=3
   ·obtain⟨a,b,c,hab⟩:∃ a b c,e.Args=[a,b,c]:=by
     match e.Args,hn with
     | [a,b,c],_=>exact⟨a,b,c,rfl⟩
    rw[hab] at hx
    rw[hab,ifP (by simp)]
    simp only[Emz,Apz,bsS,Bhz,Daz,Enz,Eoz]
    rw[hx a (by simp),bsS]
    by_cases ha:typE g r a=3
    ·rw[ifP ha,hx b (by simp),bsS,hx c (by simp),bsS]
     by_cases hb:typE g r b=typE g r c
     ·rw[ifP hb,ifP ⟨by simp,ha,hb⟩];rfl
     ·rw[ifN hb,ifN fun h=>hb h.2.2];rfl
    ·rw[ifN ha,ifN fun h=>ha h.2.1];rfl
   ·rw[ifN (by omega),ifN fun h=>hn (by simpa using h.1)];rfl
  rw[ifN k5,ifN k5]
  by_cases k6:e.Kind=6
  ·rw[ifP k6,ifP k6,z5O,bsS]
   by_cases hp:0≤e.Pos∧e.Pos≤(r.rt_.length:Int)
   ·rw[ifP (by simpa using hp),ifP hp]
   ·rw[ifN (by simpa using hp),ifN hp]
  rw[ifN k6,ifN k6]
  by_cases k7:e.Kind=7
  ·rw[ifP k7,ifP k7]
  rw[ifN k7,ifN k7]
  by_cases k8:e.Kind=8
  ·rw[ifP k8,ifP k8]
   by_cases hn:e.Args.length=1
   ·obtain⟨a,hab⟩:∃ a,e.Args=[a]:=by
     match e.Args,hn with
     | [a],_=>exact⟨a,rfl⟩
    rw[hab] at hx
    rw[hab,ifP (by simp)]
    simp only[Emz,bsS,Bhz,Daz,Enz]
    rw[hx a (by simp),bsS]
    by_cases ha:typE g r a=4
    ·rw[ifP ha,ifP ⟨by simp,ha⟩,j7a h];rfl
    ·rw[ifN ha,ifN fun h=>ha h.2]
   ·rw[ifN (by omega),ifN fun h=>hn (by simpa using h.1)]
  rw[ifN k8,ifN k8]
theorem j7c {g:Gm_}(h:GOk g){r:Rule}(hl:ROk r)(e:Expr):q9N g r e=some (typE g r e):=q8H (fuE e) fun m hm=>k3p h hl e m hm
def conT (g:Gm_)(r:Rule)(q:Cn):Bool:=(decide (typE g r q.tt_=4)&&decide (typE g r q.Value=2))&&decide ((z4k (q6P g q.Symbol).1 q.Name).1.Mode=3)
def typR (g:Gm_)(r:Rule):Bool:=(r.es_.all fun q=>decide (typE g r q.Expr=(z0s g r q.At).1.t__))&&r.cs_.all (conT g r)
theorem k3q (g:Gm_){r:Rule}(hr:Sz.szd r≤1048576):z2v g r=some (!typR g r):=by
 have hl:=q8b hr
 unfold z2v typR
 rw[q4T (c:=true) (q:=fun q:Eqn=>decide (typE g r q.Expr=(z0s g r q.At).1.t__)) fun k x hx=>by
  unfold z9o
  rw[z8Z g hl,bsS]
  try dsimp only
  rw[j7b g hl (Bdz (z7h hx) hr),bsS]
  by_cases hp:typE g r x.Expr=(z0s g r x.At).1.t__
  ·rw[ifP hp,ifP (by simpa using hp)]
  ·rw[ifN hp,ifN (by simpa using hp)]]
 rw[q4T (c:=true) (q:=conT g r) fun k x hx=>by
  have hs:=z8n hx
  unfold z9p conT
  rw[z2I,bsS]
  try dsimp only
  rw[z8l,bsS]
  try dsimp only
  rw[j7b g hl (Bdz hs.1 hr),bsS]
  by_cases h1:typE g r x.tt_=4
  ·rw[ifP h1,j7b g hl (Bdz hs.2 hr),bsS,bsS,decide_eq_true h1]
   cases decide (typE g r x.Value=2) with
   | false=>rfl
   | true=>
    rw[Ecz,ifN (by simp),bsS]
    cases decide ((z4k (q6P g x.Symbol).1 x.Name).1.Mode=3)<;>rfl
  ·rw[ifN h1,decide_eq_false h1];rfl]
 cases r.es_.all fun q=>decide (typE g r q.Expr=(z0s g r q.At).1.t__) with
 | false=>rfl
 | true=>cases r.cs_.all (conT g r)<;>rfl
theorem k3r {g:Gm_}(h:GOk g){r:Rule}(hr:Sz.szd r≤1048576)(hp:∀ q∈r.es_,0≤q.At.Pos∧q.At.Pos≤(r.rt_.length:Int)):z3P g r=some (typR g r):=by
 have hl:=q8b hr
 unfold z3P typR
 rw[q4T (c:=false) (q:=fun q:Eqn=>decide (typE g r q.Expr=(z0s g r q.At).1.t__)) fun k x hx=>by
  unfold j0J
  rw[j7c h hl,bsS,z7i hl,bsS,j7a h,bsS]
  have e:(z4k (q6P g (q8K r x.At.Pos)).1 x.At.Name).1.t__=(z0s g r x.At).1.t__:=by unfold z0s;rw[ifP (hp x hx)]
  rw[e]
  by_cases hp:typE g r x.Expr=(z0s g r x.At).1.t__
  ·rw[ifP hp,ifP (by simpa using hp)]
  ·rw[ifN hp,ifN (by simpa using hp)]]
 rw[q4T (c:=false) (q:=conT g r) fun k x hx=>by
  unfold j0K conT
  rw[z4l h,bsS]
  try dsimp only
  rw[j1z,bsS]
  try dsimp only
  have e:(if (z4k (q6P g x.Symbol).1 x.Name).2=true then some (!decide ((z4k (q6P g x.Symbol).1 x.Name).1.Mode=3)) else some true)=some (!decide ((z4k (q6P g x.Symbol).1 x.Name).1.Mode=3)):=by
   by_cases hb:(z4k (q6P g x.Symbol).1 x.Name).2=true
   ·rw[ifP hb]
   ·rw[ifN hb,j5B hb];rfl
  rw[e,bsS]
  cases decide ((z4k (q6P g x.Symbol).1 x.Name).1.Mode=3) with
  | false=>rw[Bool.and_false];rfl
  | true=>
   rw[Ecz,ifN (by simp),j7c h hl,bsS,bsS]
   cases decide (typE g r x.tt_=4) with
   | false=>rfl
   | true=>
    rw[Ecz,ifN (by simp),j7c h hl,bsS,bsS]
    cases decide (typE g r x.Value=2)<;>rfl]
 cases r.es_.all fun q=>decide (typE g r q.Expr=(z0s g r q.At).1.t__) with
 | false=>rfl
 | true=>cases r.cs_.all (conT g r)<;>rfl
def atS (g:Gm_)(n:BA_):Option Nat:=g.ss_.findIdx? fun y=>decide (y.Name=n)
def atI (g:Gm_)(n:BA_):Int:=match atS g n with
 | some j=>(j:Int)
 | none=>-1
theorem z2K {α ρ:Type}{q:α→Bool}{c:Nat→ρ}:∀ {xs:List α} {i:Nat} {f:Nat→α→Unit→Option (Unit ⊕ ρ)},(∀ j x,xs[j]?=some x→f (i+j) x ()=some (if q x=true then .inr (c (i+j)) else .inl ())) →
  findL f i xs ()=some (match xs.findIdx? q with|some j=>.inr (c (i+j))|none=>.inl ())
 | [],_,_,_=>rfl
 | x::xs,i,f,h=>by
  rw[findL,show f i x ()=_ from h 0 x rfl,bsS,Eiz]
  by_cases hq:q x=true
  ·rw[ifP hq,ifP hq]
  ·rw[ifN hq,ifN hq]
   have ih:=z2K (q:=q) (c:=c) (xs:=xs) (i:=i+1) (f:=f) fun j y hy=>by
    have:=h (j+1) y (by simpa using hy)
    rw[show i+1+j=i+(j+1) by omega];exact this
   dsimp only
   rw[ih]
   cases xs.findIdx? q with
   | none=>rfl
   | some j=>simp only[Bvz];rw[show i+1+j=i+(j+1) by omega]
theorem k1p (g:Gm_)(n:BA_):z1K g n=some (atI g n):=by
 unfold z1K atI atS
 rw[z2K (q:=fun y:Symbol=>decide (y.Name=n)) (c:=fun k=>(k:Int)) fun j x hx=>by
  unfold j4U
  by_cases hn:x.Name=n
  ·rw[ifP hn,ifP (by simpa using hn)]
  ·rw[ifN hn,ifN (by simpa using hn)]]
 cases g.ss_.findIdx? fun y=>decide (y.Name=n) with
 | none=>rfl
 | some j=>dsimp only;rw[Adz];rfl
theorem k6E {g:Gm_}{n:BA_}{j:Nat}(h:atS g n=some j):j<g.ss_.length:=by
 unfold atS at h
 rw[Epz] at h
 exact h.1
def okAt (g:Gm_)(hs:List Int)(n:BA_):Bool:=match atS g n with
 | some j=>decide (0<hs.getD j 0)
 | none=>false
def j2O (g:Gm_)(hs:List Int)(n:BA_):Bool:=g.rs_.any fun r=>decide (r.Left=n)&&r.rt_.all (okAt g hs)
theorem j1I {α:Type}{q:α→Bool}{f:Nat→α→Bool→Option Bool}:∀ (xs:List α) (i:Nat) (b:Bool),(∀ k x s,x∈xs→f k x s=some (s&&q x))→eachL f i xs b=some (b&&xs.all q)
 | [],_,b,_=>by simp[eachL]
 | x::xs,i,b,h=>by
  rw[eachL,h i x b (by simp),bsS,j1I xs (i+1) _ fun k y s hy=>h k y s (by simp[hy]),List.all_cons,Bool.and_assoc]
theorem getD_some {hs:List Int}{j:Nat}(h:j<hs.length):hs[j]?=some (hs.getD j 0):=by
 rw[Ctz,Ckz h];rfl
theorem k6F {g:Gm_}{hs:List Int}(hl:hs.length=g.ss_.length)(n:BA_):z1p n g hs=some (match atS g n with|some j=>hs.getD j 0|none=>0):=by
 unfold z1p atS
 rw[z2K (q:=fun y:Symbol=>decide (y.Name=n)) (c:=fun k=>hs.getD k 0) fun j x hx=>by
  unfold z7S
  have hj:j<g.ss_.length:=(List.getElem?_eq_some_iff.1 hx).1
  by_cases hn:x.Name=n
  ·rw[ifP hn,ifP (by simpa using hn),Adz,getD_some (by omega)];rfl
  ·rw[ifN hn,ifN (by simpa using hn)]]
 cases g.ss_.findIdx? fun y=>decide (y.Name=n) with
 | none=>rfl
 | some j=>dsimp only;rw[Adz];rfl
theorem j9u {g:Gm_}{hs:List Int}(hl:hs.length=g.ss_.length)(xs:List BA_)(b:Bool):eachL (z6P g hs) 0 xs b=some (b&&xs.all (okAt g hs)):=
 j1I xs 0 b fun k x s _=>by
  unfold z6P okAt
  cases s with
  | false=>rfl
  | true=>
   rw[ifP rfl,k6F hl,bsS,bsS,Bool.true_and]
   cases atS g x<;>rfl
theorem j9v {g:Gm_}{hs:List Int}(hl:hs.length=g.ss_.length)(xs:List BA_)(b:Bool):eachL (z3u g hs) 0 xs b=some (b&&xs.all (okAt g hs)):=
 j1I xs 0 b fun k x s _=>by
  unfold z3u okAt
  rw[k1p,bsS]
  unfold atI
  cases s with
  | false=>rfl
  | true=>
   cases hj:atS g x with
   | none=>rfl
   | some j=>
    have:=k6E hj
    dsimp only
    rw[ifP rfl,bsS,decide_eq_true (Dmz j),ifP rfl]
    unfold q9H
    by_cases h0:(0:Int)<(j:Int)
    ·rw[ifP h0,bsS,q3G (Dmz j),tnC,getD_some (by omega)];rfl
    ·obtain rfl:j=0:=by omega
     rw[ifN h0,bsS,q3G (by omega),show (0:Int).toNat=0 from rfl,getD_some (by omega)];rfl
theorem k1q {g:Gm_}{hs:List Int}(hl:hs.length=g.ss_.length)(n:BA_):q9O g n hs=some (j2O g hs n):=by
 unfold q9O j2O
 rw[q4T (c:=true) (q:=fun r:Rule=>!(decide (r.Left=n)&&r.rt_.all (okAt g hs))) fun k x hx=>by
  unfold z6x
  rw[j9v hl,bsS]
  cases (decide (x.Left=n)&&x.rt_.all (okAt g hs))<;>rfl]
 have e:(g.rs_.all fun r=>!(decide (r.Left=n)&&r.rt_.all (okAt g hs)))=!(g.rs_.any fun r=>decide (r.Left=n)&&r.rt_.all (okAt g hs)):=by rw[Ejz]
 rw[e]
 cases g.rs_.any fun r=>decide (r.Left=n)&&r.rt_.all (okAt g hs)<;>rfl
def HsOk (g:Gm_)(hs:List Int):Prop:=hs.length=g.ss_.length∧∀ j,0≤hs.getD j 0
theorem HsOk.set {g:Gm_}{hs:List Int}(h:HsOk g hs){k:Nat}{v:Int}(hv:0≤v):HsOk g (hs.set k v):=by
 refine⟨by simpa using h.1,fun j=>?_⟩
 rw[Ctz,List.getElem?_set]
 split
 ·split
  ·exact hv
  ·simp
 ·rw[← Ctz];exact h.2 j
theorem k1r {g:Gm_}{hs:List Int}(hl:hs.length=g.ss_.length){v:Int}(k:Nat)(x:Symbol)(hk:k<g.ss_.length):∀ (rs:List Rule) (i:Nat) (s:List Int),s.length=g.ss_.length →
  eachL (z4z g v hs k x) i rs s=some (if (rs.any fun r=>decide (r.Left=x.Name)&&r.rt_.all (okAt g hs))=true then s.set k v else s)
 | [],i,s,_=>by simp[eachL]
 | r::rs,i,s,hs'=>by
  have e:z4z g v hs k x i r s=some (if (decide (r.Left=x.Name)&&r.rt_.all (okAt g hs))=true then s.set k v else s):=by
   unfold z4z
   rw[j9u hl,bsS]
   cases (decide (r.Left=x.Name)&&r.rt_.all (okAt g hs)) with
   | false=>rfl
   | true=>rw[ifP rfl,ifP rfl,Ckz (by omega)];rfl
  rw[eachL,e,bsS]
  by_cases hb:(decide (r.Left=x.Name)&&r.rt_.all (okAt g hs))=true
  ·rw[ifP hb,k1r hl k x hk rs (i+1) (s.set k v) (by simpa using hs')]
   have:(r::rs).any (fun r=>decide (r.Left=x.Name)&&r.rt_.all (okAt g hs))=true:=by rw[List.any_cons,hb];rfl
   rw[ifP this,List.set_set,ite_self]
  ·rw[ifN hb,k1r hl k x hk rs (i+1) s hs']
   have:(r::rs).any (fun r=>decide (r.Left=x.Name)&&r.rt_.all (okAt g hs))=rs.any (fun r=>decide (r.Left=x.Name)&&r.rt_.all (okAt g hs)):=by rw[List.any_cons,Bool.eq_false_iff.2 hb];rfl
   rw[this]
theorem k7i {g:Gm_}{hs:List Int}(h:HsOk g hs){v:Int}{k:Nat}{x:Symbol}(hk:k<g.ss_.length){s:List Int}(hs' : s.length=g.ss_.length) :
  z4A g v hs k x s=some (if (decide (hs.getD k 0=0)&&j2O g hs x.Name)=true then s.set k v else s):=by
 have h0:=h.2 k
 unfold z4A
 rw[getD_some (by rw[h.1];exact hk),bsS]
 by_cases hz:hs.getD k 0=0
 ·rw[ifN (by omega),decide_eq_true hz,k1r h.1 k x hk _ _ _ hs'];rfl
 ·rw[ifP (by omega),decide_eq_false hz];rfl
theorem k7j {g:Gm_}{hs:List Int}(h:HsOk g hs){v:Int}{k:Nat}{x:Symbol}(hk:k<g.ss_.length){s:List Int}(hs' : s.length=g.ss_.length) :
  z0X g hs v k x s=some (if (decide (hs.getD k 0=0)&&j2O g hs x.Name)=true then s.set k v else s):=by
 unfold z0X
 rw[getD_some (by rw[h.1];exact hk),bsS]
 by_cases hz:hs.getD k 0=0
 ·rw[ifP hz,decide_eq_true hz,k1q h.1,bsS,Bool.true_and]
  cases j2O g hs x.Name with
  | false=>rfl
  | true=>rw[ifP rfl,ifP rfl,Ckz (by omega)];rfl
 ·rw[ifN hz,decide_eq_false hz];rfl
theorem j2P {g:Gm_}{hs:List Int}(h:HsOk g hs){v:Int}(hv:0≤v):∀ (xs:List Symbol) (i:Nat) (s:List Int),i+xs.length=g.ss_.length→HsOk g s →
  ∃ t,eachL (z4A g v hs) i xs s=some t∧eachL (z0X g hs v) i xs s=some t∧HsOk g t
 | [],i,s,_,hs'=>⟨s,rfl,rfl,hs'⟩
 | x::xs,i,s,hi,hs'=>by
  simp only[lnC] at hi
  have e1:=k7i (x:=x) h (v:=v) (k:=i) (by omega) hs'.1
  have e2:=k7j (x:=x) h (v:=v) (k:=i) (by omega) hs'.1
  have hn:HsOk g (if (decide (hs.getD i 0=0)&&j2O g hs x.Name)=true then s.set i v else s):=by
   split
   ·exact hs'.set hv
   ·exact hs'
  obtain⟨t,h1,h2,h3⟩:=j2P h hv xs (i+1) _ (by omega) hn
  exact⟨t,by rw[eachL,e1,bsS,h1],by rw[eachL,e2,bsS,h2],h3⟩
theorem z9v {g:Gm_}(hn:g.ss_.length≤1048576):∃ l,z1Z g=some l∧q9P g=some l∧HsOk g l:=by
 have key:∀ (m k:Nat) (hs:List Int),k+m=g.ss_.length+1→1≤k→HsOk g hs→∃ t,q4Y (z0A g) ((k:Int),hs)=some t∧q4Y (q7K g) (hs,(k:Int))=some t∧HsOk g t:=by
  intro m
  induction m with
  | zero=>
   intro k hs hk _ h
   refine⟨hs,q3V ?_,q3V ?_,h⟩
   ·unfold z0A;dsimp only;rw[ifN (by omega)]
   ·unfold q7K;dsimp only;rw[ifN (by omega)]
  | succ m ih=>
   intro k hs hk h1 h
   have hl:=h.1
   obtain⟨t,e1,e2,e3⟩:=j2P h (v:=(k:Int)) (by omega) g.ss_ 0 hs (by omega) h
   obtain⟨q,f1,f2,f3⟩:=ih (k+1) t (by omega) (by omega) e3
   refine⟨q,?_,?_,f3⟩
   ·have e:z0A g ((k:Int),hs)=some (.inl (((k+1:Nat):Int),t)):=by
     unfold z0A;dsimp only
     rw[ifP (by omega),q3G (by refine⟨?_,?_,?_⟩<;>omega),q3G (by simp),e1,bsS,q3G (by constructor<;>omega)];rfl
    rw[q4Q e];exact f1
   ·have e:q7K g (hs,(k:Int))=some (.inl (t,((k+1:Nat):Int))):=by
     unfold q7K;dsimp only
     rw[ifP (by omega),q3G (by simp only[List.length_nil];constructor<;>omega),e2,bsS,q3G (by constructor<;>omega)];rfl
    rw[q4Q e];exact f2
 have h0:HsOk g (Bmz g.ss_.length (0:Int)):=⟨by simp,fun j=>by rw[Ctz,List.getElem?_replicate];split<;>simp⟩
 obtain⟨t,f1,f2,f3⟩:=key g.ss_.length 1 (Bmz g.ss_.length 0) (by omega) (by omega) h0
 refine⟨t,?_,?_,f3⟩
 ·unfold z1Z
  rw[q3G (by refine⟨?_,?_,?_⟩<;>omega),show q4Y (z0A g) (1,Bmz g.ss_.length 0)=some t from f1];rfl
 ·unfold q9P
  rw[q3G (by refine⟨?_,?_,?_⟩<;>omega),show q4Y (q7K g) (Bmz g.ss_.length 0,1)=some t from f2];rfl
theorem Shape.names {g:Gm_}(h:Shape g){k j:Nat}{x y:Symbol}(hk:g.ss_[k]?=some x)(hj:g.ss_[j]?=some y)(hn:x.Name=y.Name):k=j:=by
 have key:∀ {k j:Nat} {x y:Symbol},g.ss_[k]?=some x→g.ss_[j]?=some y→x.Name=y.Name→¬ k<j:=by
  intro k j x y hk hj hn hlt
  have:=z6m _ _ h.sym j y hj
  unfold z4n at this
  rw[Djz] at this
  have h2:=this.2
  unfold dupB at h2
  rw[List.nil_append,Egz] at h2
  exact h2 x (Bsz (i:=k) (by rw[List.getElem?_take,ifP hlt];exact hk)) (by simpa using hn)
 have h1:=key hk hj hn
 have h2:=key hj hk hn.symm
 omega
theorem Shape.at_ {g:Gm_}(h:Shape g){k:Nat}{x:Symbol}(hk:g.ss_[k]?=some x):atS g x.Name=some k:=by
 unfold atS
 cases he:g.ss_.findIdx? fun y=>decide (y.Name=x.Name) with
 | none=>
  rw[Ekz] at he
  have:=he x (Bsz hk)
  simp at this
 | some j=>
  rw[Epz] at he
  obtain⟨hj,h1,_⟩:=he
  rw[h.names (Ckz hj) hk (by simpa using h1)]
noncomputable def hgtL (g:Gm_):List Int:=(z1Z g).getD []
noncomputable def j9w (g:Gm_):Int×Int:=
 if (z5Y g).1=0 then
  match g.rs_.findIdx? fun r=>!typR g r with
  | some k=>(7,(k:Int))
  | none=>match (hgtL g).findIdx? fun x=>decide (x=0) with
   | some k=>(8,(k:Int))
   | none=>(0,0)
 else z5Y g
theorem k3s {g:Gm_}(h:Sz.szd g≤1048576):q8m g=some (j9w g):=by
 unfold q8m j9w
 rw[k1m h,bsS]
 dsimp only
 by_cases h0:(z5Y g).1=0
 ·rw[ifP h0,ifP h0]
  rw[z5X (q:=fun r=>!typR g r) (c:=fun k=>((7:Int),(k:Int))) fun k r hr=>by
   unfold z4R
   rw[k3q g (Bdz (z5W hr) h),bsS,← apply_ite some]]
  cases g.rs_.findIdx? fun r=>!typR g r with
  | some k=>dsimp only;rw[Adz];rfl
  | none=>
   obtain⟨l,e1,e2,e3⟩:=z9v (g:=g) (j6W h).1
   rw[bsS,z3q,e1,bsS]
   unfold hgtL
   rw[e1,Byz]
   rw[z5X (q:=fun x:Int=>decide (x=0)) (c:=fun k=>((8:Int),(k:Int))) fun k x hx=>by
    unfold z4S
    by_cases hz:x=0
    ·rw[ifP hz,ifP (by simpa using hz)]
    ·rw[ifN hz,ifN (by simpa using hz)]]
   dsimp only
   cases l.findIdx? fun x=>decide (x=0) with
   | some k=>dsimp only;rw[Adz];rfl
   | none=>rfl
 ·rw[ifN h0,ifN h0]
theorem k3t {g:Gm_}(h:Sz.szd g≤1048576):q8k g=some (j9w g):=by
 unfold q8k j9w
 rw[k1n h,bsS]
 dsimp only
 by_cases h0:(z5Y g).1=0
 ·have hS:=j8b h0
  rw[ifP h0,ifP h0]
  rw[z5X (q:=fun r=>!typR g r) (c:=fun k=>((7:Int),(k:Int))) fun k r hr=>by
   unfold z4Q
   rw[k3r (z3C h) (Bdz (z5W hr) h) fun q hq=>hS.pos hr hq,bsS]
   cases typR g r<;>rfl]
  cases g.rs_.findIdx? fun r=>!typR g r with
  | some k=>dsimp only;rw[Adz];rfl
  | none=>
   obtain⟨l,e1,e2,e3⟩:=z9v (g:=g) (j6W h).1
   rw[bsS,z3q]
   unfold hgtL
   rw[e1,Byz]
   have hprod:∀ k x,g.ss_[k]?=some x→q8j g x.Name=some (!decide (l.getD k 0=0)):=by
    intro k x hk
    have hk' : k<g.ss_.length:=(List.getElem?_eq_some_iff.1 hk).1
    have ha:atI g x.Name=(k:Int):=by unfold atI;rw[hS.at_ hk]
    unfold q8j z2Y
    rw[k1p,ha,bsS,ifN (by omega),e2,bsS,q3G (by omega),tnC,getD_some (by rw[e3.1];exact hk'),bsS,bsS]
    have:=e3.2 k
    congr 1
    by_cases hz:l.getD k 0=0
    ·rw[decide_eq_true hz,decide_eq_false (by omega)];rfl
    ·rw[decide_eq_false hz,decide_eq_true (by omega)];rfl
   have hrun:∀ (xs:List Symbol) (ys:List Int) (i:Nat),(∀ j x,xs[j]?=some x→g.ss_[i+j]?=some x)→ys.length=xs.length→(∀ j y,ys[j]?=some y→l.getD (i+j) 0=y) →
     findL (q9e g) i xs ()=some (match ys.findIdx? fun x=>decide (x=0) with|some j=>.inr (8,((i+j:Nat):Int))|none=>.inl ()):=by
    intro xs
    induction xs with
    | nil=>
     intro ys i _ hl _
     obtain rfl:=List.eq_nil_of_length_eq_zero hl
     rfl
    | cons x xs ih=>
     intro ys i hx hl hy
     cases ys with
     | nil=>simp at hl
     | cons y ys=>
      have h1:=hprod i x (by simpa using hx 0 x rfl)
      have h2:l.getD i 0=y:=by simpa using hy 0 y rfl
      have ih:=ih ys (i+1) (fun j z hz=>by rw[show i+1+j=i+(j+1) by omega];exact hx (j+1) z (by simpa using hz)) (by simpa using hl) fun j z hz=>by
       rw[show i+1+j=i+(j+1) by omega];exact hy (j+1) z (by simpa using hz)
      rw[h2] at h1
      have e:q9e g i x ()=some (if y=0 then .inr (8,(i:Int)) else .inl ()):=by
       unfold q9e
       rw[h1,bsS]
       by_cases hz:y=0
       ·rw[decide_eq_true hz,ifP hz];rfl
       ·rw[decide_eq_false hz,ifN hz];rfl
      rw[findL,e,bsS,Eiz]
      by_cases hz:y=0
      ·rw[ifP hz,ifP (by simpa using hz)];rfl
      ·rw[ifN hz,ifN (by simpa using hz)]
       dsimp only
       rw[ih]
       cases ys.findIdx? fun x=>decide (x=0) with
       | none=>rfl
       | some j=>simp only[Bvz];rw[show i+1+j=i+(j+1) by omega]
   rw[hrun g.ss_ l 0 (fun j x hx=>by rw[Adz];exact hx) e3.1 fun j y hy=>by rw[Adz,Ctz,hy];rfl]
   dsimp only
   cases l.findIdx? fun x=>decide (x=0) with
   | some k=>dsimp only;rw[Adz];rfl
   | none=>rfl
 ·rw[ifN h0,ifN h0]
noncomputable def k1s (g:Gm_):Bool:=decide ((j9w g).1=0)
theorem k3u {g:Gm_}(h:Sz.szd g≤1048576):z2w g=some (k1s g):=by
 unfold z2w;rw[k3s h];rfl
theorem k3v {g:Gm_}(h:Sz.szd g≤1048576):z3Q g=some (k1s g):=by
 unfold z3Q;rw[k3t h];rfl
theorem j9x {g:Gm_}(h:k1s g=true):Shape g:=by
 refine j8b ?_
 unfold k1s at h
 rw[decide_eq_true_eq] at h
 unfold j9w at h
 by_cases h0:(z5Y g).1=0
 ·exact h0
 ·rw[ifN h0] at h;exact h
end Go.Proofs.YtnhofaohogianaaGreat
