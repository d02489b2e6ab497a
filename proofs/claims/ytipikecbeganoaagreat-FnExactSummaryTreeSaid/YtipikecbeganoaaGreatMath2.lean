/- What those partial functions come to: plain lemmas on data; each bears its conditions in its statement. -/
import Derived.Test.YtipikecbeganoaaGreatMath1
set_option linter.unusedVariables false
set_option linter.unusedSimpArgs false
set_option linter.ambiguousOpen false
set_option linter.unusedSectionVars false
set_option linter.unnecessarySimpa false
namespace Go.Proofs.YtipikecbeganoaaGreat
open Go Go.E
theorem k3K {ρ:Type}{g:Nat→Option ρ}(hm:∀ n r,g n=some r→g (n+1)=some r){n:Nat}{r:ρ}(h:g n=some r):recO g=some r:=by
 have up:∀ (k n:Nat) (r:ρ),g n=some r→g (n+k)=some r:=by
  intro k
  induction k with
  | zero=>intro n r h;exact h
  | succ k ih=>intro n r h;exact hm _ _ (ih n r h)
 refine q8s n fun m hm=>?_
 have h1:=up (m-n) n r h
 rwa[show n+(m-n)=m by omega] at h1
theorem j0t {α σ:Type}{f g:Nat→α→σ→Option σ}(h:∀ k x s q,f k x s=some q→g k x s=some q):∀ (xs:List α) (i:Nat) (s q:σ),eachL f i xs s=some q→eachL g i xs s=some q
 | [],i,s,q,hq=>hq
 | x::xs,i,s,q,hq=>by
  simp only[eachL] at hq ⊢
  obtain⟨t,h1,h2⟩:=bd hq
  rw[h _ _ _ _ h1]
  exact j0t h xs _ _ _ h2
theorem j7M (a b:Oc):z3t a b=some (z3h a b):=by
 unfold z3t z3h
 by_cases h1:a.Pos<b.Pos
 ·simp[h1]
 ·by_cases h2:a.Pos=b.Pos
  ·simp[h2]
  ·simp[h1,h2]
abbrev z7f (l:List Oc):Prop:=l.Pairwise fun a b=>z3h a b=true
theorem k5W {l:List Oc}{o:Oc}(hl:l.length≤4398046511104):∀ (m j:Nat),j+m=l.length→(∀ a∈l.take j,z3h a o=true) →
  ∃ k:Nat,q5g (z3u l o) (j:Int)=some ((k:Nat):Int)∧k≤l.length∧(∀ a∈l.take k,z3h a o=true)∧∀ y,l[k]?=some y→z3h y o=false:=by
 intro m
 induction m with
 | zero=>
  intro j hj ha
  refine⟨j,q3U ?_,by omega,ha,fun y hy=>?_⟩
  ·unfold z3u;rw[ifN (by omega)]
  ·rw[List.getElem?_eq_none (by omega)] at hy;cases hy
 | succ m ih=>
  intro j hj ha
  obtain⟨x,hx⟩:∃ x,l[j]?=some x:=⟨_,List.getElem?_eq_getElem (by omega)⟩
  cases hb:z3h x o with
  | false=>
   refine⟨j,q3U ?_,by omega,ha,fun y hy=>?_⟩
   ·unfold z3u
    rw[ifP (by omega),q3N (by omega)]
    simp only[tnC]
    rw[hx,bsS,j7M,bsS,ifN (by rw[hb];simp)]
   ·rw[hx] at hy;cases hy;exact hb
  | true=>
   have e:z3u l o (j:Int)=some (.inl ((j+1:Nat):Int)):=by
    unfold z3u
    rw[ifP (by omega),q3N (by omega)]
    simp only[tnC]
    rw[hx,bsS,j7M,bsS,ifP hb,q3N (by constructor<;>omega)];rfl
   rw[q4Q e]
   refine ih (j+1) (by omega) fun a h=>?_
   rw[List.take_add_one,hx] at h
   rcases List.mem_append.1 h with h|h
   ·exact ha a h
   ·simp at h;rw[h];exact hb
theorem k3L {l:List Oc}{o:Oc}(hl:l.length<4398046511104)(hs:z7f l):∃ q,z9j l o=some q∧z7f q∧(∀ a,a∈q↔a=o∨a∈l)∧q.length≤l.length+1:=by
 obtain⟨k,h1,h2,h3,h4⟩:=k5W (l:=l) (o:=o) (by omega) l.length 0 (by omega) (by simp)
 have h1' : q5g (z3u l o) 0=some ((k:Nat):Int):=h1
 have hput:∀ (hne:∀ y,l[k]?=some y→y≠o),z7f (l.take k++[o]++l.drop k)∧(∀ a,a∈l.take k++[o]++l.drop k↔a=o∨a∈l)∧(l.take k++[o]++l.drop k).length≤l.length+1:=fun hne=>by
  refine⟨?_,fun a=>?_,by simp;omega⟩
  ·have:=k2j (lt:=z3h) lessO_swo.trans z8g (k:=k) hs h3 fun y hy=>⟨h4 y hy,hne y hy⟩
   simpa using this
  ·have:a∈l↔a∈l.take k∨a∈l.drop k:=by rw[← List.mem_append,List.take_append_drop]
   rw[this]
   simp only[List.mem_append,List.mem_singleton]
   constructor
   ·rintro ((h|h)|h)<;>simp[h]
   ·rintro (h|h|h)<;>simp[h]
 unfold z9j
 rw[h1',bsS]
 by_cases hk:k<l.length
 ·obtain⟨x,hx⟩:∃ x,l[k]?=some x:=⟨_,List.getElem?_eq_getElem hk⟩
  rw[ifP (by omega),q3N (by omega)]
  simp only[tnC]
  rw[hx,bsS]
  by_cases hxo:x=o
  ·rw[ifP hxo]
   refine⟨l,rfl,hs,fun a=>?_,by omega⟩
   have:=List.mem_of_getElem? hx
   constructor
   ·exact .inr
   ·rintro (h|h)
    ·rw[h,← hxo];exact this
    ·exact h
  ·rw[ifN hxo,q3N (by omega),q3N (by omega),q3N (by simp;omega),q3N (by simp;omega),q3N (by omega),q3N (by omega),q3N (by simp;omega)]
   exact⟨_,rfl,hput fun y hy=>by rw[hx] at hy;cases hy;exact hxo⟩
 ·rw[ifN (by omega)]
  simp only[tnC]
  rw[q3N (by omega),q3N (by omega),q3N (by simp;omega),q3N (by simp;omega),q3N (by omega),q3N (by omega),q3N (by simp;omega)]
  exact⟨_,rfl,hput fun y hy=>by rw[List.getElem?_eq_none (by omega)] at hy;cases hy⟩
theorem k8k:∀ (n:Nat) (e:Expr) (l q:List Oc),q7m n e l=some q→q7m (n+1) e l=some q:=by
 intro n
 induction n with
 | zero=>intro e l q h;cases h
 | succ n ih=>
  intro e l q h
  have h' : z2c (q7m n) e l=some q:=h
  show z2c (q7m (n+1)) e l=some q
  have m1:∀ (xs:List Expr) (i:Nat) (s q:List Oc),eachL (z2S (q7m n)) i xs s=some q→eachL (z2S (q7m (n+1))) i xs s=some q:=j0t fun k x s q hq=>by
   unfold z2S at hq ⊢
   obtain⟨y,h3,h4⟩:=bd hq
   rw[ih _ _ _ h3];exact h4
  unfold z2c at h' ⊢
  by_cases hk:e.Kind=3
  ·rw[ifP hk] at h' ⊢
   obtain⟨y,h1,h2⟩:=bd h'
   obtain⟨s,h3,h4⟩:=bd h2
   rw[h1,bsS,m1 _ _ _ _ h3];exact h4
  ·rw[ifN hk] at h' ⊢
   obtain⟨s,h3,h4⟩:=bd h'
   have m2:eachL (j0a (q7m (n+1))) 0 e.Args l=some s:=m1 _ _ _ _ h3
   rw[m2];exact h4
theorem k2m:∀ (m:Nat) (e:Expr) (l:List Oc),fuE e≤m→z7f l→l.length+(z5L e).length≤1099511627776 →
  ∃ q,q7m m e l=some q∧z7f q∧(∀ a,a∈q↔a∈l∨a∈z5L e)∧q.length≤l.length+(z5L e).length:=by
 intro m
 induction m with
 | zero=>intro e l h;rw[z2x] at h;omega
 | succ m ih=>
  intro e l h hs hb
  rw[z2x] at h
  rw[z5M,List.length_append] at hb
  have hl:∀ (xs:List Expr) (i:Nat) (s:List Oc),fuEs xs≤m→z7f s→s.length+(z1b xs).length≤1099511627776 →
    ∃ q,eachL (z2S (q7m m)) i xs s=some q∧z7f q∧(∀ a,a∈q↔a∈s∨a∈z1b xs)∧q.length≤s.length+(z1b xs).length:=by
   intro xs
   induction xs with
   | nil=>intro i s _ hs _;exact⟨s,rfl,hs,by simp[z1b],by omega⟩
   | cons x xs ihl=>
    intro i s hf hs hb
    simp only[fuEs] at hf
    simp only[z1b,List.length_append] at hb
    obtain⟨q,h1,h2,h3,h4⟩:=ih x s (by omega) hs (by omega)
    obtain⟨q2,k1,k2,k3,k4⟩:=ihl (i+1) q (by omega) h2 (by omega)
    refine⟨q2,?_,k2,fun a=>?_,by simp only[z1b,List.length_append];omega⟩
    ·simp only[eachL,z2S,h1,bsS];exact k1
    ·rw[k3,h3,z1b,List.mem_append,or_assoc]
  show ∃ q,z2c (q7m m) e l=some q∧_
  unfold z2c
  by_cases hk:e.Kind=3
  ·rw[ifP hk] at hb ⊢
   simp only[lnC,List.length_nil] at hb
   obtain⟨y,h1,h2,h3,h4⟩:=k3L (l:=l) (o:=⟨e.Pos,e.Name⟩) (by omega) hs
   obtain⟨q,k1,k2,k3,k4⟩:=hl e.Args 0 y (by omega) h2 (by omega)
   refine⟨q,?_,k2,fun a=>?_,?_⟩
   ·rw[h1,bsS,k1];rfl
   ·rw[k3,h3,z5M,ifP hk,List.mem_append,List.mem_singleton]
    constructor
    ·rintro ((h|h)|h)<;>simp[h]
    ·rintro (h|h|h)<;>simp[h]
   ·rw[z5M,ifP hk];simp;omega
  ·rw[ifN hk] at hb ⊢
   simp only[List.length_nil] at hb
   obtain⟨q,k1,k2,k3,k4⟩:=hl e.Args 0 l (by omega) hs (by omega)
   have k1' : eachL (j0a (q7m m)) 0 e.Args l=some q:=k1
   refine⟨q,?_,k2,fun a=>?_,?_⟩
   ·rw[k1'];rfl
   ·rw[k3,z5M,ifN hk];simp
   ·rw[z5M,ifN hk];simpa using k4
theorem j7N (e:Expr):z7f (attrs e):=by
 refine z7e lessO_swo.trans z8g ?_
 have h:=List.pairwise_mergeSort (le:=fun x y=>!z3h y x) (fun a b c h1 h2=>by
  simp only[Bool.not_eq_true'] at h1 h2 ⊢
  exact lessO_swo.ntrans _ _ _ h2 h1) (fun a b=>by
  cases h:z3h a b with
  | false=>simp[h]
  | true=>
   cases h2:z3h b a with
   | false=>simp
   | true=>have:=lessO_swo.trans _ _ _ h h2;rw[lessO_swo.irrefl] at this;cases this) (z5L e)
 unfold j7o
 exact h.imp fun {a b} h=>by simpa using h
theorem k0M {e:Expr}(h:Sz.szd e≤1048576):q6q e=some (attrs e):=by
 have hl:=k3I h
 obtain⟨q,h1,h2,h3,h4⟩:=k2m _ e [] (Nat.le_refl _) List.Pairwise.nil (by simp;omega)
 have hq:q=attrs e:=j4I (lt:=z3h) lessO_swo.irrefl lessO_swo.trans h2 (j7N e) fun a=>by rw[h3,k3J];simp
 subst hq
 have hr:j2x e []=some (attrs e):=k3K (fun n q=>k8k n e [] q) h1
 unfold q6q
 rw[hr];rfl
theorem k8l:∀ (n:Nat) (e q:Expr),q6N n e=some q→q6N (n+1) e=some q:=by
 intro n
 induction n with
 | zero=>intro e q h;cases h
 | succ n ih=>
  intro e q h
  have h' : z0x (q6N n) e=some q:=h
  show z0x (q6N (n+1)) e=some q
  unfold z0x at h' ⊢
  obtain⟨s,h1,h2⟩:=bd h'
  rw[j0t (g:=z2R (q6N (n+1))) (fun k x s q hq=>by
   unfold z2R at hq ⊢
   obtain⟨y,h3,h4⟩:=bd hq
   rw[ih _ _ h3,bsS];exact h4) _ _ _ _ h1]
  exact h2
theorem k2n:∀ (m:Nat) (e:Expr),fuE e≤m→Sz.szd e≤1048576→q6N m e=some e:=by
 intro m
 induction m with
 | zero=>intro e h;rw[z2x] at h;omega
 | succ m ih=>
  intro e h hs
  rw[z2x] at h
  have hl:∀ (l:List Expr) (i:Nat) (s:List Expr),(∀ x∈l,fuE x≤m∧Sz.szd x≤1048576)→s.length+l.length≤4398046511→eachL (z2R (q6N m)) i l s=some (s++l):=by
   intro l
   induction l with
   | nil=>intro i s _ _;simp[eachL]
   | cons x l ihl=>
    intro i s hx hb
    simp only[lnC] at hb
    have h1:=ih x (hx x (by simp)).1 (hx x (by simp)).2
    have e1:z2R (q6N m) i x s=some (s++[x]):=by
     unfold z2R;rw[h1,bsS,q3N (by constructor<;>omega)]
    simp only[eachL,e1,bsS]
    rw[ihl _ _ (fun y hy=>hx y (by simp[hy])) (by simp;omega)];simp
  show z0x (q6N m) e=some e
  unfold z0x
  have h2:=q6X e
  have h3:=q4P e.Args
  rw[hl e.Args 0 [] (fun x hx=>⟨by have:=z4n hx;omega,by have:=k3H hx;omega⟩) (by simp;omega),List.nil_append,bsS]
  cases e;rfl
theorem j6e {e:Expr}(h:Sz.szd e≤1048576):z3r e=some e:=k3K (fun n q=>k8l n e q) (k2n _ e (Nat.le_refl _) h)
theorem k2o:z8o=z3r:=by
 have h:∀ n,z1s n=q6N n:=by
  intro n
  induction n with
  | zero=>rfl
  | succ n ih=>funext e;show z5D (z1s n) e=z0x (q6N n) e;rw[ih];rfl
 funext e
 show recO (fun n=>z1s n e)=recO fun n=>q6N n e
 congr 1;funext n;rw[h]
def j9B:Expr:=⟨0,0,0,0,⟨#[]⟩,⟨#[]⟩,[]⟩
def eqAt (r:Rule)(o:Oc):Expr×Bool:=match r.Equations.find? fun q=>decide (q.At=o) with
 | some q=>(q.Expr,true)
 | none=>(j9B,false)
theorem z8I {r:Rule}{q:Eqn}(h:q∈r.Equations):Sz.szd q.Expr≤Sz.szd r:=by
 have h1:=z4m r
 have h2:=z2p q
 have h3:=z1c h
 have h4:=q6X q.Expr
 omega
theorem k8m {r:Rule}(h:Sz.szd r≤1048576)(o:Oc):Sz.szd (eqAt r o).1≤1048576:=by
 unfold eqAt
 cases hf:r.Equations.find? (fun q=>decide (q.At=o)) with
 | none=>show Sz.szd j9B≤_;have:Sz.szd j9B=0:=rfl;omega
 | some q=>have:=z8I (List.mem_of_find?_eq_some hf);show Sz.szd q.Expr≤_;omega
theorem j6f {r:Rule}(h:Sz.szd r≤1048576)(o:Oc):q5z r o=some (eqAt r o):=by
 have key:∀ (l:List Eqn) (i:Nat),(∀ q∈l,Sz.szd q.Expr≤1048576)→findL (q7b o) i l ()=some (match l.find? fun q=>decide (q.At=o) with
   | some q=>.inr (q.Expr,true)
   | none=>.inl ()):=by
  intro l
  induction l with
  | nil=>intro i _;rfl
  | cons q l ih=>
   intro i hq
   by_cases hp:q.At=o
   ·simp[findL,q7b,hp,j6e (hq q (by simp))]
   ·simp[findL,q7b,hp]
    exact ih _ fun y hy=>hq y (by simp[hy])
 unfold q5z eqAt
 rw[key _ _ fun q hq=>by have:=z8I hq;omega]
 cases r.Equations.find? (fun q=>decide (q.At=o))<;>rfl
theorem k8n {r:Rule}(h:Sz.szd r≤1048576)(o:Oc):q5z r o=some (eqAt r o)∧q7G r o=some (eqAt r o):=by
 have e:q7G=q5z:=by
  have e1:z2r=q7b:=by funext a k x u;unfold z2r q7b;rw[k2o]
  funext r o;unfold q7G q5z;rw[e1]
 rw[e]
 exact⟨j6f h o,j6f h o⟩
theorem k2p:q7n=q5Y:=by
 funext l o
 unfold q7n q5Y q4u
 have e:q9Q o=q4G o:=by
  funext k x u
  unfold q9Q q4G
  by_cases h:x=o
  ·rw[ifP h,ifP h.symm]
  ·rw[ifN h,ifN fun e=>h e.symm]
 rw[e]
 cases ((findL (q4G o) 0 l ()).bind <| onr (fun r1=>some r1) fun _=>some (-1))<;>rfl
theorem k2q (l:List Oc)(o:Oc):∃ k,q5Y l o=some k:=by
 have h:q4u l o=some (ixF l o):=by
  unfold q4u
  refine k3B fun k x=>⟨fun e=>?_,fun e=>?_⟩
  ·unfold q4G;rw[ifP e.symm]
  ·unfold q4G;rw[ifN (fun h=>e h.symm)]
 exact⟨_,by unfold q5Y;rw[h];rfl⟩
theorem x0s {r x:Rl_}{i k:Int}(h:q6G r i k=some x):x.N=r.N:=by
 unfold q6G at h
 obtain⟨y,h1,h⟩:=bd h
 have hy:y=r:=by unfold q9c at h1;obtain⟨_,h1⟩:=z5t h1;exact (Option.some.inj h1).symm
 subst hy
 obtain⟨y2,_,h⟩:=bd h
 obtain⟨s1,_,h⟩:=bd h
 obtain⟨s2,_,h⟩:=bd h
 by_cases hs:s2=true
 ·rw[ifP hs] at h
  obtain⟨_,h⟩:=z5t h
  obtain⟨_,_,h⟩:=bd h
  obtain⟨_,h⟩:=z5t h
  obtain⟨_,h⟩:=z5t h
  obtain⟨_,h⟩:=z5t h
  cases h;rfl
 ·rw[ifN hs] at h
  cases h;rfl
theorem k5X (l:List Oc)(k:Nat):∀ (us:List Oc) (i:Nat) (rows:List Int) (n:Int),rows.length≤1048576 →
  ∃ rows',eachL (q9g l k) i us (rows,n)=some (rows',n)∧eachL (q7D l (k:Int)) i us (rows,n)=some (rows',n)∧rows'.length=rows.length:=by
 intro us
 induction us with
 | nil=>intro i rows n _;exact⟨rows,rfl,rfl,rfl⟩
 | cons u us ih=>
  intro i rows n h
  obtain⟨j,hj⟩:=k2q l u
  obtain⟨x,hx,hxl⟩:=k0K (r:=⟨n,rows⟩) h j (k:Int)
  have hN:=x0s hx
  obtain⟨rows',h1,h2,h3⟩:=ih (i+1) x.Rows n (by rw[hxl];exact h)
  have e1:q9g l k i u (rows,n)=some (x.Rows,n):=by
   unfold q9g
   dsimp only
   rw[hj,bsS,j6d,hx,bsS,hN]
  have e2:q7D l (k:Int) i u (rows,n)=some (x.Rows,n):=by
   unfold q7D
   dsimp only
   rw[k2p,hj,bsS,hx,bsS,hN]
  exact⟨rows',by simp only[eachL,e1,bsS];exact h1,by simp only[eachL,e2,bsS];exact h2,h3.trans hxl⟩
theorem k2r:attrs j9B=[]:=by
 have:z5L j9B=[]:=by simp[j9B,z5L,z1b]
 unfold attrs j7o
 rw[this];simp[q5f]
theorem k3M {r:Rule}(hr:Sz.szd r≤1048576)(l:List Oc)(hl:l.length≤16):∀ (m k:Nat) (rows:List Int) (n:Int),k+m=l.length→0<n→rows.length≤1048576 →
  ∃ rows',eachL (q9h r l) k (l.drop k) (rows,n)=some (rows',n)∧q5g (q5i r l) ((k:Int),rows,n)=some (rows',n)∧rows'.length=rows.length:=by
 intro m
 induction m with
 | zero=>
  intro k rows n hk hn h
  refine⟨rows,by rw[List.drop_eq_nil_of_le (by omega)];rfl,q3U ?_,rfl⟩
  unfold q5i
  dsimp only
  rw[ifN (by omega)]
 | succ m ih=>
  intro k rows n hk hn h
  obtain⟨x,hx⟩:∃ x,l[k]?=some x:=⟨_,List.getElem?_eq_getElem (by omega)⟩
  have hd:l.drop k=x::l.drop (k+1):=by
   rw[List.drop_eq_getElem_cons (by omega)]
   have:l[k]=x:=by rw[List.getElem?_eq_getElem (by omega)] at hx;exact Option.some.inj hx
   rw[this]
  obtain⟨E,B,hq⟩:∃ E B,eqAt r x=(E,B):=⟨_,_,rfl⟩
  obtain⟨rows1,h1,h2,h3⟩:=k5X l k (attrs E) 0 rows n h
  obtain⟨rows',k1,k2,k3⟩:=ih (k+1) rows1 n (by omega) hn (by omega)
  have hsz:=k8m hr x
  have hf:=k8n hr x
  rw[hq] at hsz hf
  have e1:q9h r l k x (rows,n)=some (rows1,n):=by
   unfold q9h
   dsimp only
   rw[hf.2,bsS]
   dsimp only
   rw[k0L hsz,bsS,h1];rfl
  have hin:(grd (0≤(k:Int)) <| (l[(k:Int).toNat]?).bind fun x1=>(q5z r x1).bind fun (y3,y4)=>if y4=true then ((q6q y3).bind fun y5=>(eachL (q7D l (k:Int)) 0 y5 (rows,n)).bind fun (s8,s9)=>some (s8,s9)) else some (rows,n))=some (rows1,n):=by
   rw[q3N (by omega),tnC,hx,bsS,hf.1,bsS]
   dsimp only
   cases hb:B with
   | true=>rw[ifP rfl,k0M hsz,bsS,h2,bsS]
   | false=>
    have hz:E=j9B:=by
     unfold eqAt at hq
     cases hf:r.Equations.find? (fun q=>decide (q.At=x)) with
     | none=>rw[hf] at hq;cases hq;rfl
     | some q=>rw[hf] at hq;cases hq;cases hb
    rw[hz,k2r] at h1
    simp only[eachL,Option.some.injEq,Prod.mk.injEq] at h1
    rw[ifN (by simp),h1.1]
  have e2:q5i r l ((k:Int),rows,n)=some (.inl (((k+1:Nat):Int),rows1,n)):=by
   unfold q5i
   dsimp only
   rw[ifP (by omega),ifP hn,hin,bsS]
   dsimp only
   rw[q3N (by constructor<;>omega)];rfl
  exact⟨rows',by rw[hd];simp only[eachL,e1,bsS];exact k1,by rw[q4Q e2];exact k2,k3.trans h3⟩
theorem k2s {g:Gm_}{r:Rule}(h:Sz.szd g≤1048576)(hr:Sz.szd r≤1048576):∃ x,q6r g r=some x∧q7h g r=some x∧x.Rows.length≤16:=by
 obtain⟨l,h1,h2,_⟩:=j1N (z4C h) (q8F hr)
 have hem:∀ n:Nat,q4W (n:Int)=if n≤16 then some ⟨(n:Int),List.replicate n 0⟩ else some ⟨0,[]⟩:=fun n=>by
  unfold q4W
  rw[z1a,bsS]
  by_cases hn:n≤16
  ·rw[ifP (by simp;omega),q3N (by omega),ifP hn];rfl
  ·rw[ifN (by simp;omega),ifN hn]
 unfold q6r q7h
 rw[h1,h2,bsS,bsS,j4H,hem]
 by_cases hl:l.length≤16
 ·rw[ifP hl,bsS,bsS,ifN (by omega)]
  dsimp only
  by_cases h0:l.length=0
  ·have:l=[]:=List.eq_nil_of_length_eq_zero h0
   subst this
   have e:q5g (q5i r ([]:List Oc)) (0,List.replicate ([]:List Oc).length 0,((([]:List Oc).length:Nat):Int))=some (List.replicate ([]:List Oc).length 0,((([]:List Oc).length:Nat):Int)):=q3U (by unfold q5i;dsimp only;rw[ifN (by simp)])
   rw[e]
   exact⟨_,rfl,rfl,by simp⟩
  ·obtain⟨rows',k1,k2,k3⟩:=k3M hr l hl l.length 0 (List.replicate l.length 0) (l.length:Int) (by omega) (by omega) (by simp;omega)
   have k2' : q5g (q5i r l) (0,List.replicate l.length 0,(l.length:Int))=some (rows',(l.length:Int)):=k2
   rw[List.drop_zero] at k1
   rw[k1,k2']
   exact⟨_,rfl,rfl,by show rows'.length≤16;simp at k3;omega⟩
 ·rw[ifN hl,bsS,bsS,ifP (by omega)]
  have e:q5g (q5i r l) (0,([]:List Int),(0:Int))=some ([],0):=q3U (by unfold q5i;dsimp only;rw[ifP (by omega),ifN (by omega)])
  rw[e]
  exact⟨_,rfl,rfl,by simp⟩
theorem k3N {r:Rl_}(h:r.Rows.length≤1048576)(i k:Int):q6G r i k=some (addP r i k):=by
 unfold q6G
 simp only[z9H h,q8W,z1a,bsS,decide_eq_true_eq]
 by_cases hv:Valid r
 ·have hv1:=hv.1;have hv2:=hv.2.1;have hv3:=hv.2.2.1
  rw[ifP hv,q3N (by constructor<;>omega)];simp only[bsS,Bool.false_eq_true,if_true,if_false,decide_eq_true_eq]
  by_cases hi:0≤i∧i≤r.N-1
  ·rw[ifP hi,q3N (by constructor<;>omega)];simp only[bsS,Bool.false_eq_true,if_true,if_false,decide_eq_true_eq]
   by_cases hk:0≤k∧k≤r.N-1
   ·obtain⟨x,hx⟩:∃ x,r.Rows[i.toNat]?=some x:=⟨_,List.getElem?_eq_getElem (by omega)⟩
    have hrow:=hv.row (i:=i) hi hx
    rw[ifP hk,q3N hi.1,hx,bsS,q3N hk.1,q3N ⟨hk.1,by omega⟩,q3N ⟨hrow.2.1,Int.natCast_nonneg _⟩]
    have e:addP r i k=j3m r i (orI (z8b r i) ((2 ^ k.toNat:Nat):Int)):=ifP ⟨hv,hi,hk⟩
    rw[e,hrow.1];rfl
   ·rw[ifN hk]
    have e:addP r i k=r:=ifN fun h=>hk h.2.2
    rw[e]
  ·rw[ifN hi];simp only[bsS,Bool.false_eq_true,if_true,if_false,decide_eq_true_eq]
   have e:addP r i k=r:=ifN fun h=>hi h.2.1
   rw[e]
 ·rw[ifN hv];simp only[bsS,Bool.false_eq_true,if_true,if_false,decide_eq_true_eq]
  have e:addP r i k=r:=ifN fun h=>hv h.1
  rw[e]
theorem k5Y {n:Int}(h0:0≤n)(h1:n≤16):q4W n=some ⟨n,List.replicate n.toNat 0⟩:=by
 unfold q4W
 rw[z1a,bsS,ifP (by simp;omega),q3N (by omega)]
theorem j6g (r:Rl_)(i k:Int):(addP r i k).Rows.length=r.Rows.length∧(addP r i k).N=r.N:=by
 unfold addP
 split
 ·exact⟨by simp[j3m],rfl⟩
 ·exact⟨rfl,rfl⟩
theorem k0N (x k:Int):bit x k↔x.toNat.testBit k.toNat=true:=by
 unfold bit
 rw[Nat.testBit_eq_decide_div_mod_eq,Nat.shiftRight_eq_div_pow]
 simp[Nat.and_one_is_mod]
def k2t (k:Nat)(s:List Int):List Int:=s.map fun x=>if x.toNat.testBit k=true then orI x (s.getD k 0) else x
def j4K (s:List Int):Nat→List Int
 | 0=>s
 | m+1=>k2t m (j4K s m)
def j3n (n:Nat)(s:List Int):Prop:=s.length=n∧∀ x∈s,0≤x∧x.toNat<2 ^ n
theorem k2u (x y:Int):0≤orI x y:=by unfold orI;omega
theorem j7O (x y:Int):(orI x y).toNat=x.toNat ||| y.toNat:=by unfold orI;omega
theorem k8o {n:Nat}{s:List Int}(h:j3n n s)(k:Nat):0≤s.getD k 0∧(s.getD k 0).toNat<2 ^ n:=by
 rw[List.getD_eq_getElem?_getD]
 cases hk:s[k]? with
 | none=>simp;exact Nat.two_pow_pos n
 | some x=>exact h.2 x (List.mem_of_getElem? hk)
theorem k5Z {n k:Nat}{s:List Int}(h:j3n n s):j3n n (k2t k s):=by
 refine⟨by unfold k2t;rw[lnM];exact h.1,fun x hx=>?_⟩
 unfold k2t at hx
 obtain⟨y,hy,rfl⟩:=List.mem_map.1 hx
 have h1:=h.2 y hy
 split
 ·exact⟨k2u _ _,by rw[j7O];exact Nat.or_lt_two_pow h1.2 (k8o h k).2⟩
 ·exact h1
theorem z7g {n:Nat}{s:List Int}(h:j3n n s):∀ m,j3n n (j4K s m)
 | 0=>h
 | m+1=>k5Z (z7g h m)
def Rl (s:List Int)(i j:Nat):Prop:=(s.getD i 0).toNat.testBit j=true
theorem k0O {n k:Nat}{s:List Int}(h:j3n n s)(hk:k<n)(hn:n≤16):eachN (q7E k) 0 n s=some (k2t k s):=by
 have hkk:∃ y,s[k]?=some y:=⟨_,List.getElem?_eq_getElem (by rw[h.1];exact hk)⟩
 obtain⟨y,hy⟩:=hkk
 have ey:s.getD k 0=y:=by rw[List.getD_eq_getElem?_getD,hy];rfl
 let f:Int→Int:=fun x=>if x.toNat.testBit k=true then orI x y else x
 have hf:f y=y:=by
  show (if y.toNat.testBit k=true then orI y y else y)=y
  have:=(h.2 y (List.mem_of_getElem? hy)).1
  split
  ·unfold orI;rw[Nat.or_self];omega
  ·rfl
 obtain⟨s',h1,h2⟩:=z9G (P:=fun m t=>t=(s.take m).map f++s.drop m) (f:=q7E k) (n:=n) (i:=0) (s:=s) (by simp) (fun m t _ hm ht=>by
  subst ht
  have hms:m<s.length:=by rw[h.1];omega
  obtain⟨x,hx⟩:∃ x,s[m]?=some x:=⟨_,List.getElem?_eq_getElem hms⟩
  have hx0:=h.2 x (List.mem_of_getElem? hx)
  have hy0:=h.2 y (List.mem_of_getElem? hy)
  have g1:((s.take m).map f++s.drop m)[m]?=some x:=by
   rw[List.getElem?_append_right (by simp;omega)]
   simp only[lnM,List.length_take]
   rw[show m-min m s.length=0 by omega,List.getElem?_drop,Nat.add_zero,hx]
  have g2:((s.take m).map f++s.drop m)[k]?=some y:=by
   by_cases hkm:k<m
   ·rw[List.getElem?_append_left (by simp;omega),List.getElem?_map,List.getElem?_take,ifP hkm,hy]
    show some (f y)=_
    rw[hf]
   ·rw[List.getElem?_append_right (by simp;omega)]
    simp only[lnM,List.length_take]
    rw[List.getElem?_drop,show m+(k-min m s.length)=k by omega,hy]
  have hset:(((s.take m).map f++s.drop m).set m (f x))=(s.take (m+1)).map f++s.drop (m+1):=by
   rw[List.set_append_right _ _ (by simp;omega)]
   simp only[lnM,List.length_take]
   rw[show m-min m s.length=0 by omega,List.take_add_one,hx,List.map_append,List.append_assoc]
   congr 1
   rw[List.drop_eq_getElem_cons hms];rfl
  have hno:f x=x→((s.take m).map f++s.drop m)=(s.take (m+1)).map f++s.drop (m+1):=fun e=>by
   rw[← hset,e]
   apply List.ext_getElem?
   intro q
   rw[List.getElem?_set]
   by_cases hq:m=q
   ·subst hq
    rw[ifP rfl,g1]
    split
    ·rfl
    ·rename_i hl;exact absurd (by simp;omega) hl
   ·rw[ifN hq]
  refine⟨_,?_,rfl⟩
  unfold q7E
  rw[g1,bsS,q3N (by refine⟨hx0.1,by omega,by omega⟩),q3N ⟨Int.natCast_nonneg _,by decide⟩]
  by_cases hb:bit x (k:Int)
  ·have hb':=(k0N x k).1 hb
   rw[tnC] at hb'
   rw[ifP (k7x hb),g2,bsS,q3N ⟨hx0.1,hy0.1⟩,bsS,← hset]
   show some (List.set _ m (orI x y))=some (List.set _ m (f x))
   have:f x=orI x y:=ifP hb'
   rw[this]
  ·have hb' : ¬ x.toNat.testBit k=true:=fun h=>hb ((k0N x k).2 (by rw[tnC];exact h))
   rw[ifN (fun h=>hb (k7w h)),bsS,← hno (ifN hb')])
 rw[h1]
 subst h2
 unfold k2t
 rw[Nat.zero_add,List.take_of_length_le (by rw[h.1];exact Nat.le_refl _),List.drop_eq_nil_of_le (by rw[h.1];exact Nat.le_refl _),List.append_nil,ey]
theorem j6h {r:Rl_}(h:Valid r):j3n r.N.toNat r.Rows∧r.N.toNat≤16:=by
 obtain⟨h0,h1,h2,h3⟩:=h
 have:=k5T r.N
 exact⟨⟨by omega,fun x hx=>⟨(h3 x hx).1,by have:=(h3 x hx).2;omega⟩⟩,by omega⟩
def q8j (r:Rl_):Rl_:=if Valid r then ⟨r.N,j4K r.Rows r.N.toNat⟩ else r
theorem k8p:z4X=q7E:=rfl
theorem j7P {r:Rl_}(h:r.Rows.length≤1048576):q7d r=some (q8j r):=by
 unfold q7d q8j
 rw[z9H h,bsS,q8W,bsS]
 by_cases hv:Valid r
 ·rw[ifP (by simpa using hv),ifP hv]
  obtain⟨hok,hn⟩:=j6h hv
  obtain⟨t,h1,h2⟩:=z9G (P:=fun m t=>t=j4K r.Rows m) (f:=z1n r) (n:=r.N.toNat) (i:=0) (s:=r.Rows) rfl (fun k s _ hk hs=>by
   subst hs
   refine⟨_,?_,rfl⟩
   unfold z1n
   rw[k0O (z7g hok k) (by omega) hn];rfl)
  rw[h1,bsS,h2,Nat.zero_add]
 ·rw[ifN (by simpa using hv),ifN hv]
theorem j7Q {r:Rl_}(h:r.Rows.length≤1048576):q7i r=some (q8j r):=by
 unfold q7i q8j
 rw[j7J,z9H h,bsS,z8G,bsS]
 by_cases hv:Valid r
 ·rw[ifP (by simpa using hv),ifP hv]
  obtain⟨hok,hn⟩:=j6h hv
  obtain⟨t,h1,h2⟩:=z9G (P:=fun m t=>t=j4K r.Rows m) (f:=z1u) (n:=r.Rows.length) (i:=0) (s:=r.Rows) rfl (fun k s _ hk hs=>by
   subst hs
   refine⟨_,?_,rfl⟩
   unfold z1u
   have hl:=(z7g hok k).1
   rw[hl,k8p,k0O (z7g hok k) (by rw[hok.1] at hk;omega) hn];rfl)
  rw[h1,bsS,h2,Nat.zero_add,hok.1]
 ·rw[ifN (by simpa using hv),ifN hv]
theorem j4L (r:Rl_):(q8j r).Rows.length=r.Rows.length∧(q8j r).N=r.N:=by
 unfold q8j
 by_cases hv:Valid r
 ·rw[ifP hv]
  obtain⟨hok,_⟩:=j6h hv
  exact⟨by show (j4K r.Rows r.N.toNat).length=_;rw[(z7g hok _).1,hok.1],rfl⟩
 ·rw[ifN hv];exact⟨rfl,rfl⟩
theorem j9C {r:Rl_}(h:r.Rows.length≤1048576):z3a r=some (decide (∃ k:Nat,k<r.Rows.length∧hasP (q8j r) (k:Int) (k:Int))):=by
 unfold z3a
 rw[j7Q h,bsS]
 have hl:=(j4L r).1
 have hf:∀ (k:Nat) (x:Int),(hasP (q8j r) (k:Int) (k:Int)→z3E (q8j r) k x ()=some (.inr true))∧(¬ hasP (q8j r) (k:Int) (k:Int)→z3E (q8j r) k x ()=some (.inl ())):=fun k x=>by
  unfold z3E
  rw[z8H,bsS]
  exact⟨fun hp=>ifP (by simpa using hp),fun hp=>ifN (by simpa using hp)⟩
 have hany:=j7H (c:=true) (xs:=(q8j r).Rows) (i:=0) (p:=fun k _=>hasP (q8j r) (k:Int) (k:Int)) (f:=z3E (q8j r)) fun k x _=>by
  rw[Nat.zero_add];exact hf k x
 by_cases hp:∃ k:Nat,k<r.Rows.length∧hasP (q8j r) (k:Int) (k:Int)
 ·rw[decide_eq_true hp]
  obtain⟨k,hk,hpk⟩:=hp
  rw[hany.1 ⟨k,_,List.getElem?_eq_getElem (by omega),by rw[Nat.zero_add];exact hpk⟩];rfl
 ·rw[decide_eq_false hp]
  rw[hany.2 fun k x hx hpk=>hp ⟨k,by rw[← hl];exact (List.getElem?_eq_some_iff.1 hx).1,by rw[Nat.zero_add] at hpk;exact hpk⟩];rfl
theorem z5k {α β:Type}{p:α→Bool}{g:α→β}{B:Nat}{f:Nat→α→List β→Option (List β)}(hf:∀ k x s,s.length<B→f k x s=some (if p x=true then s++[g x] else s)):∀ (xs:List α) (i:Nat) (s:List β),s.length+xs.length≤B →
  eachL f i xs s=some (s++(xs.filter p).map g)
 | [],i,s,_=>by simp[eachL]
 | x::xs,i,s,h=>by
  simp only[lnC] at h
  by_cases hp:p x=true
  ·have ih:=z5k hf xs (i+1) (s++[g x]) (by simp;omega)
   simp[eachL,hf i x s (by omega),hp,ih]
  ·have ih:=z5k hf xs (i+1) s (by omega)
   simp[eachL,hf i x s (by omega),hp,ih]
theorem j3o {α β:Type}{p:α→Bool}{g:Nat→β}{B:Nat}{f:Nat→α→List β→Option (List β)}(hf:∀ k x s,s.length<B→f k x s=some (if p x=true then s++[g k] else s)):∀ (xs:List α) (i:Nat) (s:List β),s.length+xs.length≤B →
  eachL f i xs s=some (s++((xs.zipIdx i).filter fun q=>p q.1).map fun q=>g q.2)
 | [],i,s,_=>by simp[eachL]
 | x::xs,i,s,h=>by
  simp only[lnC] at h
  by_cases hp:p x=true
  ·have ih:=j3o hf xs (i+1) (s++[g i]) (by simp;omega)
   simp[eachL,hf i x s (by omega),hp,ih,List.zipIdx_cons]
  ·have ih:=j3o hf xs (i+1) s (by omega)
   simp[eachL,hf i x s (by omega),hp,ih,List.zipIdx_cons]
theorem j0u {β:Type}{h:Nat→List β}{C n:Nat}{f:Nat→List β→Option (List β)}(hf:∀ k s,k<n→s.length≤k*C→f k s=some (s++h k))(hh:∀ k,k<n→(h k).length≤C) :
  ∀ (m k:Nat) (s:List β),k+m=n→s.length≤k*C→eachN f k m s=some (s++(List.range' k m).flatMap h)
 | 0,k,s,_,_=>by simp[eachN]
 | m+1,k,s,hk,hs=>by
  have hl:=hh k (by omega)
  have e:(k+1)*C=k*C+C:=Nat.succ_mul k C
  have ih:=j0u hf hh m (k+1) (s++h k) (by omega) (by rw[List.length_append];omega)
  simp[eachN,hf k s (by omega) hs,ih,List.range'_succ]
theorem j3p {β:Type}{h:Nat→List β}{C n:Nat}{f:(List β×Int)→Option ((List β×Int) ⊕ List β)}(hf:∀ (k:Nat) s,k<n→s.length≤k*C→f (s,(k:Int))=some (.inl (s++h k,((k+1:Nat):Int))))(he:∀ s,f (s,(n:Int))=some (.inr s))(hh:∀ k,k<n→(h k).length≤C) :
  ∀ (m k:Nat) (s:List β),k+m=n→s.length≤k*C→q5g f (s,(k:Int))=some (s++(List.range' k m).flatMap h)
 | 0,k,s,hk,_=>by
  obtain rfl:k=n:=by omega
  rw[q3U (he s)];simp
 | m+1,k,s,hk,hs=>by
  have hl:=hh k (by omega)
  have e:(k+1)*C=k*C+C:=Nat.succ_mul k C
  have ih:=j3p hf he hh m (k+1) (s++h k) (by omega) (by rw[List.length_append];omega)
  rw[q4Q (hf k s (by omega) hs),ih];simp[List.range'_succ]
abbrev GOk (g:Gm_):Prop:=∀ y∈g.Symbols,y.Attributes.length≤1048576
def zS:Symbol:=⟨⟨#[]⟩,[]⟩
def zA:At_:=⟨⟨#[]⟩,0,0,false⟩
def q7v (g:Gm_)(s:ByteArray):Symbol×Bool:=match g.Symbols.find? fun y=>decide (y.Name=s) with
 | some y=>(y,true)
 | none=>(zS,false)
def z5l (y:Symbol)(s:ByteArray):At_×Bool:=match y.Attributes.find? fun a=>decide (a.Name=s) with
 | some a=>(a,true)
 | none=>(zA,false)
theorem z5m {g:Gm_}(h:GOk g)(s:ByteArray):q5B g s=some (q7v g s):=by
 have h1:=z3c (p:=fun y:Symbol=>decide (y.Name=s)) (r:=fun y=>(y,true)) (xs:=g.Symbols) (i:=0) (f:=q9x s) fun k y hy=>by
  have hg:q8K y=some y:=by
   unfold q8K;have:=h y hy;rw[q3N (by simp only[List.length_nil];constructor<;>omega)]
  unfold q9x;rw[hg];constructor<;>intro hp<;>simp_all
 unfold q5B q7v
 rw[h1]
 cases hf:g.Symbols.find? (fun y:Symbol=>decide (y.Name=s)) with
 | none=>rfl
 | some y=>rfl
theorem z3L (g:Gm_)(s:ByteArray):q5D g s=some (q7v g s):=by
 have h2:=z3c (p:=fun y:Symbol=>decide (y.Name=s)) (r:=fun y=>(y,true)) (xs:=g.Symbols) (i:=0) (f:=q9D s) fun k y hy=>by
  unfold q9D;constructor<;>intro hp<;>simp_all
 unfold q5D q7v
 rw[h2]
 cases hf:g.Symbols.find? (fun y:Symbol=>decide (y.Name=s)) with
 | none=>rfl
 | some y=>rfl
theorem z3M {g:Gm_}(h:GOk g)(s:ByteArray):(q7v g s).1.Attributes.length≤1048576:=by
 unfold q7v
 cases hf:g.Symbols.find? (fun y:Symbol=>decide (y.Name=s)) with
 | none=>simp[zS]
 | some y=>exact h y (List.mem_of_find?_eq_some hf)
theorem z9K (y:Symbol)(s:ByteArray):q6u y s=some (z5l y s):=by
 have h2:=z3c (p:=fun y:At_=>decide (y.Name=s)) (r:=fun y=>(y,true)) (xs:=y.Attributes) (i:=0) (f:=z1p s) fun k y hy=>by
  unfold z1p;constructor<;>intro hp<;>simp_all
 unfold q6u z5l
 rw[h2]
 cases hf:y.Attributes.find? (fun y:At_=>decide (y.Name=s)) with
 | none=>rfl
 | some y=>rfl
theorem j3q (y:Symbol)(s:ByteArray):q7c y s=some (z5l y s):=z9K y s
def q9r (r:Rule)(k:Int):ByteArray:=if k=0 then r.Left else if 1≤k∧k≤(r.Right.length:Int) then r.Right.getD (k-1).toNat ⟨#[]⟩ else ⟨#[]⟩
abbrev ROk (r:Rule):Prop:=r.Right.length≤1048576
theorem z8J {r:Rule}(hl:ROk r)(k:Int):q5S r k=some (q9r r k):=by
 unfold q5S q9r
 by_cases h0:k=0
 ·rw[ifP h0,ifP h0]
 ·rw[ifN h0,ifN h0,z7b,bsS]
  by_cases h1:1≤k∧k≤(r.Right.length:Int)
  ·rw[ifP (by simpa using h1),ifP h1,q3N (by constructor<;>omega),q3N (by omega)]
   have:(k-1).toNat<r.Right.length:=by omega
   rw[List.getElem?_eq_getElem this,List.getD_eq_getElem?_getD,List.getElem?_eq_getElem this];rfl
  ·rw[ifN (by simpa using h1),ifN h1]
theorem j3r {r:Rule}(hl:ROk r)(k:Int):q6R r k=some (q9r r k):=by rw[j0q,z8J hl]
def z1j (g:Gm_)(r:Rule)(o:Oc):At_×Bool:=if 0≤o.Pos∧o.Pos≤(r.Right.length:Int) then z5l (q7v g (q9r r o.Pos)).1 o.Name else (zA,false)
theorem j0v (g:Gm_){r:Rule}(hl:ROk r)(o:Oc):q7w g r o=some (z1j g r o):=by
 unfold q7w z1j
 rw[j0W,bsS]
 by_cases h0:0≤o.Pos∧o.Pos≤(r.Right.length:Int)
 ·rw[ifP (by simpa using h0),ifP h0,j3r hl,bsS,z3L,bsS]
  dsimp only
  rw[z9K];rfl
 ·rw[ifN (by simpa using h0),ifN h0];rfl
def mayB (g:Gm_)(r:Rule)(o:Oc):Bool:=(z1j g r o).2&&decide ((z1j g r o).1.Mode=if o.Pos=0 then 1 else 2)
theorem k8q (g:Gm_){r:Rule}(hl:ROk r)(o:Oc):z6N g r o=some (mayB g r o):=by
 unfold z6N mayB
 rw[j0v g hl,bsS]
 dsimp only
 by_cases h0:o.Pos=0
 ·rw[ifP h0,ifP h0]
  by_cases h1:(z1j g r o).2=true
  ·rw[ifP h1,h1];rfl
  ·rw[ifN h1,Bool.eq_false_iff.2 h1];rfl
 ·rw[ifN h0,ifN h0]
  by_cases h1:(z1j g r o).2=true
  ·rw[ifP h1,h1];rfl
  ·rw[ifN h1,Bool.eq_false_iff.2 h1];rfl
theorem k8r {g:Gm_}(h:GOk g){r:Rule}(hl:ROk r)(o:Oc):z6B g r o=some (mayB g r o):=by
 unfold z6B mayB z1j
 rw[z7b,bsS]
 by_cases hp:0≤o.Pos∧o.Pos≤(r.Right.length:Int)
 ·rw[ifP (by simpa using hp),ifP hp,z8J hl,bsS,z5m h,bsS]
  dsimp only
  rw[j3q,bsS]
  skip
  by_cases h0:o.Pos=0
  ·rw[ifP h0,ifP h0]
   by_cases h1:(z5l (q7v g (q9r r o.Pos)).1 o.Name).2=true
   ·rw[ifP h1,h1];rfl
   ·rw[ifN h1,Bool.eq_false_iff.2 h1];rfl
  ·rw[ifN h0,ifN h0]
   by_cases h1:(z5l (q7v g (q9r r o.Pos)).1 o.Name).2=true
   ·rw[ifP h1,h1];rfl
   ·rw[ifN h1,Bool.eq_false_iff.2 h1];rfl
 ·rw[ifN (by simpa using hp),ifN hp];rfl
def reqK (g:Gm_)(r:Rule)(k:Nat):List Oc:=((q7v g (q9r r (k:Int))).1.Attributes.filter fun a=>decide (a.Mode=if (k:Int)=0 then 2 else 1)).map fun a=>(⟨(k:Int),a.Name⟩:Oc)
def reqL (g:Gm_)(r:Rule):List Oc:=(List.range' 0 (r.Right.length+1)).flatMap (reqK g r)
theorem k0P {g:Gm_}(h:GOk g)(r:Rule)(k:Nat):(reqK g r k).length≤1048576:=by
 unfold reqK;rw[lnM]
 exact Nat.le_trans (List.length_filter_le _ _) (z3M h _)
theorem k3O {g:Gm_}(h:GOk g){r:Rule}(hl:ROk r):z1o g r=some (reqL g r):=by
 have hl' : r.Right.length≤1048576:=hl
 have key:=j0u (h:=reqK g r) (C:=1048576) (n:=r.Right.length+1) (f:=z6M g r) (fun k s hk hs=>by
  have hin:∀ m:Int,eachL (z6L k m) 0 (q7v g (q9r r (k:Int))).1.Attributes s=some (s++((q7v g (q9r r (k:Int))).1.Attributes.filter fun a=>decide (a.Mode=m)).map fun a=>(⟨(k:Int),a.Name⟩:Oc)):=fun m=>
   z5k (B:=4398046511104) (fun j x s hs=>by
    unfold z6L
    by_cases hm:x.Mode=m
    ·rw[ifP hm,ifP (by simpa using hm),q3N (by constructor<;>omega)];rfl
    ·rw[ifN hm,ifN (by simpa using hm)];rfl) _ 0 s (by have:=z3M h (q9r r (k:Int));omega)
  unfold z6M reqK
  by_cases h0:(k:Int)=0
  ·rw[ifP h0,ifP h0,bsS,j3r hl,bsS,z3L,bsS]
   dsimp only
   rw[hin];rfl
  ·rw[ifN h0,ifN h0,bsS,j3r hl,bsS,z3L,bsS]
   dsimp only
   rw[hin];rfl) (fun k _=>k0P h r k) (r.Right.length+1) 0 [] (by omega) (by simp)
 unfold z1o
 rw[q3N (by constructor<;>omega),key];rfl
theorem k3P {g:Gm_}(h:GOk g){r:Rule}(hl:ROk r):q5y g r=some (reqL g r):=by
 have hl' : r.Right.length≤1048576:=hl
 have key:=j3p (h:=reqK g r) (C:=1048576) (n:=r.Right.length+1) (f:=q5T g r) (fun k s hk hs=>by
  have hin2:eachL (q7U (k:Int)) 0 (q7v g (q9r r (k:Int))).1.Attributes s=some (s++((q7v g (q9r r (k:Int))).1.Attributes.filter fun a=>decide (a.Mode=2)).map fun a=>(⟨(k:Int),a.Name⟩:Oc)):=
   z5k (B:=4398046511104) (fun j x s hs=>by
    unfold q7U
    by_cases hm:x.Mode=2
    ·rw[ifP hm,ifP (by simpa using hm),q3N (by constructor<;>omega)];rfl
    ·rw[ifN hm,ifN (by simpa using hm)];rfl) _ 0 s (by have:=z3M h (q9r r (k:Int));omega)
  have hin1:eachL (q7V (k:Int)) 0 (q7v g (q9r r (k:Int))).1.Attributes s=some (s++((q7v g (q9r r (k:Int))).1.Attributes.filter fun a=>decide (a.Mode=1)).map fun a=>(⟨(k:Int),a.Name⟩:Oc)):=
   z5k (B:=4398046511104) (fun j x s hs=>by
    unfold q7V
    by_cases hm:x.Mode=1
    ·rw[ifP hm,ifP (by simpa using hm),q3N (by constructor<;>omega)];rfl
    ·rw[ifN hm,ifN (by simpa using hm)];rfl) _ 0 s (by have:=z3M h (q9r r (k:Int));omega)
  unfold q5T reqK
  dsimp only
  rw[ifP (by omega),z8J hl,bsS,z5m h,bsS]
  skip
  by_cases h0:(k:Int)=0
  ·rw[ifP h0,ifP h0,hin2,bsS,bsS,q3N (by constructor<;>omega)];rfl
  ·rw[ifN h0,ifN h0,hin1,bsS,bsS,q3N (by constructor<;>omega)];rfl) (fun s=>by
  unfold q5T;dsimp only;rw[ifN (by omega)]) (fun k _=>k0P h r k) (r.Right.length+1) 0 [] (by omega) (by simp)
 unfold q5y
 have e:q5g (q5T g r) (([]:List Oc),0)=some ([]++(List.range' 0 (r.Right.length+1)).flatMap (reqK g r)):=key
 rw[e];rfl
theorem z7W (e:Expr):1≤fuE e:=by rw[z2x];omega
theorem z7X {e x:Expr}(hx:x∈e.Args):fuE x+1≤fuE e:=by
 have:=z4n hx
 have:=z2x e
 omega
theorem z2M {P:Expr→Prop}(h:∀ e,(∀ x∈e.Args,P x)→P e)(e:Expr):P e:=by
 have:∀ n e,fuE e≤n→P e:=by
  intro n
  induction n with
  | zero=>intro e he;have:=z7W e;omega
  | succ n ih=>intro e he;exact h e fun x hx=>ih x (by have:=z7X hx;omega)
 exact this _ e (Nat.le_refl _)
theorem q5j {α ρ:Type}{c:ρ}{q:α→Bool}:∀ {xs:List α} {i:Nat} {f:Nat→α→Unit→Option (Unit ⊕ ρ)},(∀ k x,x∈xs→f k x ()=some (if q x=true then .inl () else .inr c))→findL f i xs ()=some (if xs.all q=true then .inl () else .inr c)
 | [],i,f,h=>rfl
 | x::xs,i,f,h=>by
  rw[findL,h i x (by simp)]
  by_cases hx:q x=true
  ·rw[ifP hx,bsS]
   show findL f (i+1) xs ()=_
   rw[q5j fun k y hy=>h k y (by simp[hy])]
   simp[hx]
  ·rw[ifN hx];simp[hx]
theorem j3s {α:Type}{q:α→Bool}:∀ {xs:List α} {i:Nat} {f:Nat→α→Unit→Option (Unit ⊕ Int)},(∀ k x,x∈xs→f k x ()=some (if q x=true then .inr (k:Int) else .inl ()))→findL f i xs ()=some (if xs.any q=true then .inr ((i+xs.findIdx q:Nat):Int) else .inl ())
 | [],i,f,h=>rfl
 | x::xs,i,f,h=>by
  rw[findL,h i x (by simp)]
  by_cases hx:q x=true
  ·rw[ifP hx];simp[hx,List.findIdx_cons]
  ·rw[ifN hx,bsS]
   show findL f (i+1) xs ()=_
   rw[j3s fun k y hy=>h k y (by simp[hy])]
   have hx' : q x=false:=by simpa using hx
   simp only[List.any_cons,hx',Bool.false_or,List.findIdx_cons,cond_false]
   rw[show i+1+xs.findIdx q=i+(xs.findIdx q+1) by omega]
mutual
def allE (p:Expr→Bool):Expr→Bool
 | ⟨a0,a1,a2,a3,a4,a5,a6⟩=>p ⟨a0,a1,a2,a3,a4,a5,a6⟩&&k6a p a6
def k6a (p:Expr→Bool):List Expr→Bool
 | []=>true
 | x::xs=>allE p x&&k6a p xs
end
mutual
def cntE:Expr→Nat
 | ⟨_,_,_,_,_,_,a6⟩=>z5N a6+1
def z5N:List Expr→Nat
 | []=>0
 | x::xs=>cntE x+z5N xs
end
mutual
def depE:Expr→Nat
 | ⟨_,_,_,_,_,_,a6⟩=>j4j a6+1
def j4j:List Expr→Nat
 | []=>0
 | x::xs=>max (depE x) (j4j xs)
end
theorem k0Q (p:Expr→Bool):∀ l,k6a p l=l.all (allE p)
 | []=>rfl
 | x::xs=>by rw[k6a,k0Q p xs];rfl
theorem j6i (p:Expr→Bool)(e:Expr):allE p e=(p e&&e.Args.all (allE p)):=by
 cases e;rw[allE,k0Q]
theorem j0w (e:Expr):cntE e=z5N e.Args+1:=by cases e;rfl
theorem k3Q (e:Expr):depE e=j4j e.Args+1:=by cases e;rfl
mutual
theorem k0R:∀ e:Expr,cntE e≤1+z2a e
 | ⟨a0,a1,a2,a3,a4,a5,a6⟩=>by
  have:=j7R a6
  simp only[cntE,z2a];omega
theorem j7R:∀ l:List Expr,z5N l≤z4l l
 | []=>by simp[z5N]
 | x::xs=>by
  have h1:=k0R x
  have h2:=j7R xs
  simp only[z5N,z4l];omega
end
theorem k7y {e:Expr}(h:Sz.szd e≤1048576):cntE e≤1048577:=by
 have h1:=k0R e
 have h2:z2a e=Sz.szd e:=rfl
 omega
mutual
theorem k3R:∀ e:Expr,depE e≤cntE e
 | ⟨_,_,_,_,_,_,a6⟩=>by
  have:=k0S a6
  simp only[depE,cntE];omega
theorem k0S:∀ l:List Expr,j4j l≤z5N l
 | []=>Nat.le_refl _
 | x::xs=>by
  have h1:=k3R x
  have h2:=k0S xs
  simp only[j4j,z5N];omega
end
theorem j7S:∀ {l:List Expr} {x:Expr},x∈l→cntE x≤z5N l
 | y::l,x,h=>by
  simp only[z5N]
  rcases List.mem_cons.1 h with e|h
  ·subst e;omega
  ·have:=j7S h;omega
theorem k3S {e x:Expr}(hx:x∈e.Args):cntE x+1≤cntE e:=by
 have:=j7S hx
 have:=j0w e
 omega
theorem k2v (e:Expr):∀ m,fuE e≤m→cntE e≤1099511627776→z0b m e=some (cntE e:Int):=by
 induction e using z2M with
 | h e ih=>
  intro m hm hc
  obtain⟨m,rfl⟩:∃ q,m=q+1:=⟨m-1,by have:=z7W e;omega⟩
  show z2f (z0b m) e=_
  unfold z2f
  have key:∀ (l:List Expr) (i s:Nat),(∀ x∈l,x∈e.Args)→s+z5N l≤1099511627776→eachL (z2F (z0b m)) i l (s:Int)=some ((s+z5N l:Nat):Int):=by
   intro l
   induction l with
   | nil=>intro i s _ _;rfl
   | cons x l ihl=>
    intro i s hx hs
    have hxm:=hx x (by simp)
    simp only[z5N] at hs
    have h1:=ih x hxm m (by have:=z7X hxm;omega) (by omega)
    rw[eachL]
    unfold z2F
    rw[h1,bsS,q3N (by constructor<;>omega),bsS]
    have:=ihl (i+1) (s+cntE x) (fun y hy=>hx y (by simp[hy])) (by omega)
    rw[Int.natCast_add] at this
    unfold z2F at this
    rw[this,z5N]
    congr 1;omega
  rw[j0w] at hc
  have:=key e.Args 0 1 (fun _ h=>h) (by omega)
  rw[show ((1:Nat):Int)=1 from rfl] at this
  rw[this,bsS,j0w,Nat.add_comm]
theorem k3T {e:Expr}(h:cntE e≤1099511627776):z6F e=some (cntE e:Int):=q8s (fuE e) fun m hm=>k2v e m hm h
theorem k9J (a b:Nat):(if (b:Int) > (a:Int) then (b:Int) else (a:Int))=((max a b:Nat):Int):=by
 split<;>omega
theorem j3t {f:Expr→Option Int}{g:Nat→Expr→Int→Option Int}(hg:∀ k x s,g k x s=(f x).bind fun y=>some (if y > s then y else s)):∀ (l:List Expr) (i s:Nat),(∀ x∈l,f x=some (depE x:Int))→eachL g i l (s:Int)=some ((max s (j4j l):Nat):Int)
 | [],i,s,_=>by rw[eachL,j4j,Nat.max_zero]
 | x::l,i,s,h=>by
  rw[eachL,hg,h x (by simp),bsS,bsS,k9J,j3t hg l (i+1) _ fun y hy=>h y (by simp[hy]),j4j,Nat.max_assoc]
theorem j9D (a b:Int):z0v a b=some (if b > a then b else a):=by
 unfold z0v
 by_cases h:b<a
 ·rw[ifP h,ifN (by omega)]
 ·rw[ifN h]
  split
  ·rfl
  ·congr 1;omega
theorem j4M (e:Expr):∀ m,fuE e≤m→cntE e≤1099511627776→q6C m e=some (depE e:Int)∧q6B m e=some (depE e:Int):=by
 induction e using z2M with
 | h e ih=>
  intro m hm hc
  obtain⟨m,rfl⟩:∃ q,m=q+1:=⟨m-1,by have:=z7W e;omega⟩
  show q9A (q6C m) e=_∧q9u (q6B m) e=_
  unfold q9A q9u
  have hx:∀ x∈e.Args,q6C m x=some (depE x:Int)∧q6B m x=some (depE x:Int):=fun x hx=>ih x hx m (by have:=z7X hx;omega) (by have:=k3S hx;omega)
  have k1:=j3t (f:=q6C m) (g:=z6G (q6C m)) (fun k x s=>rfl) e.Args 0 0 fun x h=>(hx x h).1
  have k2:=j3t (f:=q6B m) (g:=z3l (q6B m)) (fun k x s=>by
   unfold z3l
   congr 1;funext y
   rw[j9D,bsS]) e.Args 0 0 fun x h=>(hx x h).2
  rw[show ((0:Nat):Int)=0 from rfl] at k1 k2
  have hd:=k3R e
  rw[k3Q] at hd
  rw[k1,k2]
  have hg:I64 (((max 0 (j4j e.Args):Nat):Int)+1):=by constructor<;>omega
  have he:((max 0 (j4j e.Args):Nat):Int)+1=(depE e:Int):=by rw[k3Q];omega
  refine⟨?_,?_⟩
  ·rw[bsS,q3N hg,he]
  ·rw[bsS,q3N hg,he]
theorem k3U {e:Expr}(h:cntE e≤1099511627776):z4x e=some (depE e:Int):=q8s (fuE e) fun m hm=>(j4M e m hm h).1
theorem k3V {e:Expr}(h:cntE e≤1099511627776):z4s e=some (depE e:Int):=q8s (fuE e) fun m hm=>(j4M e m hm h).2
def j1D (a:Int)(n:Nat):Int:=if (n:Int)≤a then a-n else -1
theorem k3W (e:Expr):∀ m,fuE e≤m→∀ a:Int,0≤a→a≤1048576→cntE e≤1099511627776→z3k m e a=some (j1D a (cntE e)):=by
 induction e using z2M with
 | h e ih=>
  intro m hm a h0 h1 hc
  obtain⟨m,rfl⟩:∃ q,m=q+1:=⟨m-1,by have:=z7W e;omega⟩
  show z6t (z3k m) e a=_
  unfold z6t
  rw[q3N (by constructor<;>omega)]
  have hlen:e.Args.length≤cntE e:=by
   rw[j0w]
   have:∀ l:List Expr,l.length≤z5N l:=by
    intro l
    induction l with
    | nil=>simp
    | cons x l ih=>
     have:=j0w x
     simp only[z5N,lnC];omega
   have:=this e.Args;omega
  have key:∀ (n k:Nat) (s:Int),k+n=e.Args.length→-1≤s→s≤1048576→q5g (z2Q (z3k m) e) (s,(k:Int))=some (if 0≤s then j1D s (z5N (e.Args.drop k)) else s):=by
   intro n
   induction n with
   | zero=>
    intro k s hk _ _
    have hdrop:e.Args.drop k=[]:=List.drop_eq_nil_of_le (by omega)
    refine q3U ?_
    unfold z2Q
    dsimp only
    rw[ifN (by omega),hdrop]
    congr 2
    split
    ·unfold j1D;simp[z5N];omega
    ·rfl
   | succ n ihn=>
    intro k s hk hs1 hs2
    have hkl:k<e.Args.length:=by omega
    by_cases hs:0≤s
    ·have hxm:e.Args[k]∈e.Args:=List.getElem_mem hkl
     have hr:=ih _ hxm m (by have:=z7X hxm;omega) s hs hs2 (by have:=k3S hxm;omega)
     have hstep:z2Q (z3k m) e (s,(k:Int))=some (.inl (j1D s (cntE e.Args[k]),((k+1:Nat):Int))):=by
      unfold z2Q
      dsimp only
      rw[ifP (by omega),ifP hs,q3N (by omega),tnC,List.getElem?_eq_getElem hkl,bsS,hr,bsS,q3N (by constructor<;>omega)]
      rfl
     have hb1:-1≤j1D s (cntE e.Args[k]):=by unfold j1D;split<;>omega
     have hb2:j1D s (cntE e.Args[k])≤1048576:=by unfold j1D;split<;>omega
     rw[q4Q hstep,ihn (k+1) _ (by omega) hb1 hb2,ifP hs]
     have hd:e.Args.drop k=e.Args[k]::e.Args.drop (k+1):=List.drop_eq_getElem_cons hkl
     rw[hd,z5N]
     congr 1
     unfold j1D
     split<;>split<;>(try split)<;>omega
    ·refine q3U ?_
     unfold z2Q
     dsimp only
     rw[ifP (by omega),ifN hs,ifN hs]
  have:=key e.Args.length 0 (a-1) (by omega) (by omega) (by omega)
  rw[show ((0:Nat):Int)=0 from rfl] at this
  rw[this,bsS,List.drop_zero,j0w]
  congr 1
  unfold j1D
  split<;>(try split)<;>(try split)<;>omega
theorem k6b {e:Expr}{a:Int}(h0:0≤a)(h1:a≤1048576)(h:cntE e≤1099511627776):j2w e a=some (j1D a (cntE e)):=q8s (fuE e) fun m hm=>k3W e m hm a h0 h1 h
end Go.Proofs.YtipikecbeganoaaGreat
