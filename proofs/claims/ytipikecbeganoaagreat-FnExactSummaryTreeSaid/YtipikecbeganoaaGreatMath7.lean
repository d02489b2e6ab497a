/- What those partial functions come to: plain lemmas on data; each bears its conditions in its statement. -/
import Derived.Test.YtipikecbeganoaaGreatMath6
set_option linter.unusedVariables false
set_option linter.unusedSimpArgs false
set_option linter.ambiguousOpen false
set_option linter.unusedSectionVars false
set_option linter.unnecessarySimpa false
set_option maxRecDepth 100000
set_option maxHeartbeats 4000000
namespace Go.Proofs.YtipikecbeganoaaGreat
open Go Go.E
def offs:Nat→List Tr→List Int
 | _,[]=>[]
 | b,t::ts=>(b:Int)::offs (b+t.sz) ts
mutual
def preT (z:Nat→Int):Tr→Int→Int→Nat→List Node
 | .node r ks,p,q,b=>(⟨z b,p,q,0,r,offs (b+1) ks⟩:Node)::z7o z ks (b:Int) 1 (b+1)
def z7o (z:Nat→Int):List Tr→Int→Nat→Nat→List Node
 | [],_,_,_=>[]
 | t::ts,p,k,b=>preT z t p (k:Int) b++z7o z ts p (k+1) (b+t.sz)
end
mutual
theorem z9S (z:Nat→Int):∀ (t:Tr) (p q:Int) (b:Nat),(preT z t p q b).length=t.sz
 | .node r ks,p,q,b=>by rw[preT,lnC,j8p z ks,Tr.sz];omega
theorem j8p (z:Nat→Int):∀ (ts:List Tr) (p:Int) (k b:Nat),(z7o z ts p k b).length=Tr.szs ts
 | [],_,_,_=>rfl
 | t::ts,p,k,b=>by rw[z7o,List.length_append,z9S z t,j8p z ts,Tr.szs]
end
def idN (b:Nat):Int:=((b+1:Nat):Int)
theorem j1Q {rec:found→Option Tr}{g:Gm_}{F:List (List found)}:∀ (ns:List ByteArray) (ds:List Int) (ts:List Tr),z7Q rec g F ns ds=some ts→ds.length=ns.length∧ts.length=ns.length
 | [],[],ts,h=>by cases h;exact⟨rfl,rfl⟩
 | n::ns,d::ds,ts,h=>by
  rw[z7Q] at h
  obtain⟨f,e1,h⟩:=Option.bind_eq_some_iff.1 h
  obtain⟨t,e2,h⟩:=Option.bind_eq_some_iff.1 h
  obtain⟨us,e3,h⟩:=Option.bind_eq_some_iff.1 h
  cases h
  obtain⟨h1,h2⟩:=j1Q ns ds us e3
  exact⟨by simp[h1],by simp[h2]⟩
 | [],_::_,ts,h=>by cases h
 | _::_,[],ts,h=>by cases h
theorem k7D {g:Gm_}{F:List (List found)}{n:ByteArray}{d:Int}{f:found}(h:kidF g F n d=some f):∃ l,F[atN g n]?=some l∧l[d.toNat]?=some f∧l∈F∧f∈l:=by
 unfold kidF at h
 rw[List.getD_eq_getElem?_getD] at h
 cases hF:F[atN g n]? with
 | none=>rw[hF] at h;simp at h
 | some l=>
  rw[hF,Option.getD_some] at h
  exact⟨l,rfl,h,List.mem_of_getElem? hF,List.mem_of_getElem? h⟩
section
variable {g:Gm_}{F:List (List found)}
def k9X (g:Gm_)(F:List (List found))(m:Nat)(f:found)(t:Tr):Prop:=
 ∀ (N:List Node) (p q:Int),N.length≤16→∃ z:Tree,(∀ k,m≤k→z4y k g F f p q ⟨N⟩=some (decide (N.length+t.sz≤16),z))∧(N.length+t.sz≤16→z=⟨N++preT idN t p q N.length⟩)
theorem k9Y (hS:Shape g)(hA:InvS g (sms F)){n:Nat}(ih:∀ f t,(∃ l∈F,f∈l)→trF g F n f=some t→k9X g F n f t){f:found}(hr:f.rule∈g.Rules){N:List Node}{p q:Int}(nm:ByteArray) :
  ∀ (ds:List Int) (ns:List ByteArray) (ks:List Tr) (k:Nat) (ch:List Int) (M:List Node),z7Q (trF g F n) g F ns ds=some ks→(∀ d∈ds,0≤d)→(∀ (j:Nat) x,ns[j]?=some x→f.rule.Right[k+j]?=some x)→ch.length≤k→k+ds.length≤3→N.length+1+M.length≤16 →
   ∃ X,(∀ m,n≤m→findL (z9v (z4y m) g F f ⟨N⟩) k ds (N++(⟨idN N.length,p,q,0,nm,ch⟩:Node)::M)=some X) ∧
    ((N.length+1+M.length+Tr.szs ks≤16→X=.inl (N++(⟨idN N.length,p,q,0,nm,ch++offs (N.length+1+M.length) ks⟩:Node)::(M++z7o idN ks (N.length:Int) (k+1) (N.length+1+M.length)))) ∧
    (¬ N.length+1+M.length+Tr.szs ks≤16→∃ z,X=.inr (false,z)))
 | [],ns,ks,k,ch,M,hk,_,_,_,_,hl=>by
  cases ns with
  | cons _ _=>cases hk
  | nil=>
   cases hk
   refine⟨_,fun m hm=>rfl,fun _=>?_,fun h=>absurd hl (by rw[Tr.szs] at h;omega)⟩
   rw[offs,z7o,List.append_nil,List.append_nil]
 | d::ds,ns,ks,k,ch,M,hk,hd,hn,hc,h3,hl=>by
  cases ns with
  | nil=>cases hk
  | cons x ns=>
   rw[z7Q] at hk
   obtain⟨f',e1,hk⟩:=Option.bind_eq_some_iff.1 hk
   obtain⟨t,e2,hk⟩:=Option.bind_eq_some_iff.1 hk
   obtain⟨ts,e3,hk⟩:=Option.bind_eq_some_iff.1 hk
   cases hk
   obtain⟨l,k1,k2,k3,k4⟩:=k7D e1
   have hx:=hn 0 x rfl
   rw[Nat.add_zero] at hx
   have hd0:=hd d (by simp)
   obtain⟨a1,_⟩:=hA.at_ (hS.right hr (List.mem_of_getElem? hx))
   simp only[lnC] at h3
   have hs1:(N++(⟨idN N.length,p,q,0,nm,ch⟩:Node)::M)[N.length]?=some ⟨idN N.length,p,q,0,nm,ch⟩:=by
    rw[List.getElem?_append_right (Nat.le_refl _),Nat.sub_self];rfl
   have hset:(N++(⟨idN N.length,p,q,0,nm,ch⟩:Node)::M).set N.length ⟨idN N.length,p,q,0,nm,ch++[((N++(⟨idN N.length,p,q,0,nm,ch⟩:Node)::M).length:Int)]⟩=N++(⟨idN N.length,p,q,0,nm,ch++[((N.length+1+M.length:Nat):Int)]⟩:Node)::M:=by
    rw[List.set_append_right _ _ (Nat.le_refl _),Nat.sub_self,List.set_cons_zero,List.length_append,lnC,show N.length+(M.length+1)=N.length+1+M.length by omega]
   have hlen:(N++(⟨idN N.length,p,q,0,nm,ch++[((N.length+1+M.length:Nat):Int)]⟩:Node)::M).length=N.length+1+M.length:=by
    rw[List.length_append,lnC];omega
   obtain⟨z,g1,g2⟩:=ih f' t ⟨l,k3,k4⟩ e2 (N++(⟨idN N.length,p,q,0,nm,ch++[((N.length+1+M.length:Nat):Int)]⟩:Node)::M) (N.length:Int) ((k+1:Nat):Int) (by rw[hlen];exact hl)
   rw[hlen] at g1 g2
   have e:∀ m,n≤m→z9v (z4y m) g F f ⟨N⟩ k d (N++(⟨idN N.length,p,q,0,nm,ch⟩:Node)::M)=some (if N.length+1+M.length+t.sz≤16 then .inl z.Nodes else .inr (false,z)):=fun m hm=>by
    unfold z9v
    dsimp only
    rw[hs1,bsS]
    dsimp only
    rw[q3N (by constructor<;>omega),hx,bsS,j1O,bsS,a1,q3N (by omega),tnC,k1,bsS,q3N hd0,k2,bsS,hset,g1 m hm,bsS]
    dsimp only
    by_cases hf:N.length+1+M.length+t.sz≤16
    ·rw[decide_eq_true hf,ifP rfl,ifP hf]
    ·rw[decide_eq_false hf,ifN Bool.false_ne_true,ifN hf]
   by_cases hf:N.length+1+M.length+t.sz≤16
   ·have hM:(M++preT idN t (N.length:Int) ((k+1:Nat):Int) (N.length+1+M.length)).length=M.length+t.sz:=by rw[List.length_append,z9S]
    obtain⟨X,x1,x2,x3⟩:=k9Y hS hA ih hr (N:=N) (p:=p) (q:=q) nm ds ns ts (k+1) (ch++[((N.length+1+M.length:Nat):Int)]) (M++preT idN t (N.length:Int) ((k+1:Nat):Int) (N.length+1+M.length)) e3 (fun d h=>hd d (by simp[h])) (fun j y hy=>by rw[show k+1+j=k+(j+1) by omega];exact hn (j+1) y hy) (by simp;omega) (by omega) (by rw[hM];omega)
    rw[hM] at x2 x3
    refine⟨X,fun m hm=>?_,fun h=>?_,fun h=>x3 (by rw[Tr.szs] at h;omega)⟩
    ·rw[findL,e m hm,bsS,ifP hf]
     dsimp only
     rw[g2 hf]
     dsimp only
     rw[List.append_assoc,List.cons_append]
     exact x1 m hm
    rw[x2 (by rw[Tr.szs] at h;omega),offs,z7o,show N.length+1+(M.length+t.sz)=N.length+1+M.length+t.sz by omega]
    simp only[List.append_assoc,List.cons_append,List.nil_append]
   ·exact⟨.inr (false,z),fun m hm=>by rw[findL,e m hm,bsS,ifN hf],fun h=>absurd h (by rw[Tr.szs];omega),fun _=>⟨z,rfl⟩⟩
theorem k4P (hS:Shape g)(hA:InvS g (sms F))(hD:Der g F):∀ (n:Nat) (f:found) (t:Tr),f.rule∈g.Rules→(∀ d∈f.children,0≤d)→trF g F n f=some t→k9X g F n f t
 | 0,f,t,_,_,h=>by cases h
 | n+1,f,t,hr,hc,h=>by
  rw[trF] at h
  obtain⟨ks,e1,h⟩:=Option.bind_eq_some_iff.1 h
  cases h
  intro N p q hN
  have hk3:=(j1Q _ _ _ e1).1
  have hR:=z2z hS hr
  rw[Tr.sz]
  by_cases h16:(N.length:Int)=16
  ·refine⟨⟨N⟩,fun m hm=>?_,fun h=>by omega⟩
   cases m with
   | zero=>omega
   | succ m=>
    show z8q (z4y m) g F f p q ⟨N⟩=_
    unfold z8q
    dsimp only
    rw[ifP h16,decide_eq_false (by omega)]
  ·have hl:N.length+1+([]:List Node).length≤16:=by simp;omega
   obtain⟨X,x1,x2,x3⟩:=k9Y hS hA (n:=n) (fun f' t' ⟨l,hl,hf⟩ ht=>k4P hS hA hD n f' t' (hD l hl f' hf).1 (hD l hl f' hf).2.1 ht) hr (N:=N) (p:=p) (q:=q) f.rule.Name f.children f.rule.Right ks 0 [] [] e1 hc (fun j x hx=>by rw[Nat.zero_add];exact hx) (Nat.le_refl _) (by omega) hl
   have hid:idN N.length=((N.length+1:Nat):Int):=rfl
   rw[hid] at x1
   simp only[List.length_nil,Nat.add_zero,List.nil_append] at x2 x3
   have step:∀ (r:Bool×Tree),(∀ m,n≤m→((findL (z9v (z4y m) g F f ⟨N⟩) 0 f.children (N++[(⟨((N.length+1:Nat):Int),p,q,0,f.rule.Name,[]⟩:Node)])).bind <| onr (fun r1=>some r1) fun s1=>some (true,(⟨s1⟩:Tree)))=some r)→∀ m,n+1≤m→z4y m g F f p q ⟨N⟩=some r:=fun r hr m hm=>by
    cases m with
    | zero=>omega
    | succ m=>
     show z8q (z4y m) g F f p q ⟨N⟩=_
     unfold z8q
     dsimp only
     rw[ifN h16,q3N (by constructor<;>omega),q3N (by constructor<;>omega)]
     exact hr m (by omega)
   by_cases hf:N.length+1+Tr.szs ks≤16
   ·have e2:=x2 hf
    refine⟨_,step _ fun m hm=>by rw[x1 m hm,e2,bsS,decide_eq_true (by omega)];rfl,fun _=>?_⟩
    rw[preT]
   ·obtain⟨z,hz⟩:=x3 hf
    exact⟨z,step _ fun m hm=>by rw[x1 m hm,hz,bsS,decide_eq_false (by omega)];rfl,fun h=>by omega⟩
theorem k6K (hS:Shape g)(hA:InvS g (sms F))(hD:Der g F){n:Nat}{f:found}{t:Tr}(hr:f.rule∈g.Rules)(hc:∀ d∈f.children,0≤d)(h:trF g F n f=some t):q7q g F f=some (if t.sz≤16 then (⟨preT idN t (-1) 0 0⟩,true) else (⟨[]⟩,false)):=by
 obtain⟨z,e1,e2⟩:=k4P hS hA hD n f t hr hc h [] (-1) 0 (by simp)
 simp only[List.length_nil,Nat.zero_add,List.nil_append] at e1 e2
 unfold q7q j8R
 rw[q8s n e1,bsS]
 dsimp only
 by_cases hf:t.sz≤16
 ·rw[decide_eq_true hf,ifP rfl,ifP hf,e2 hf]
 ·rw[decide_eq_false hf,ifN Bool.false_ne_true,ifN hf]
end
theorem j3G {α:Type}{B:Nat}{f:Nat→α→List α→Option (List α)}:∀ (xs:List α) (i:Nat) (s:List α),(∀ k x s,x∈xs→s.length<B→f k x s=some (s++[x]))→s.length+xs.length≤B→eachL f i xs s=some (s++xs)
 | [],i,s,_,_=>by simp[eachL]
 | x::xs,i,s,hf,h=>by
  simp only[lnC] at h
  rw[eachL,hf i x s (by simp) (by omega),bsS,j3G xs (i+1) _ (fun k y s hy=>hf k y s (by simp[hy])) (by simp;omega)]
  simp
theorem x0y {r:Rule}(h:Sz.szd r≤1048576):z6D r=some r:=by
 have h0:=z4m r
 have h1:=q4P r.Equations
 have h2:=q4P r.Contributions
 have h3:=q4P r.Right
 unfold z6D
 rw[q3N (by simp only[List.length_nil];constructor<;>omega),j3G (B:=1048576) r.Equations 0 [] (fun k x s hx hs=>by
  have q1:=z1c hx
  have q2:=z2p x
  have q3:=q6X x.Expr
  unfold j4A
  rw[j6e (by omega),bsS,q3N (by constructor<;>omega)]) (by simp;omega),bsS,j3G (B:=1048576) r.Contributions 0 [] (fun k x s hx hs=>by
  have q1:=z1c hx
  have q2:=q8i x
  have q3:=q6X x.Target
  have q4:=q6X x.Value
  unfold j4B
  rw[j6e (by omega),bsS,j6e (by omega),bsS,q3N (by constructor<;>omega)]) (by simp;omega),bsS]
 simp
theorem Shape.rnames {g:Gm_}(h:Shape g){k j:Nat}{x y:Rule}(hk:g.Rules[k]?=some x)(hj:g.Rules[j]?=some y)(hn:x.Name=y.Name):k=j:=by
 have key:∀ {k j:Nat} {x y:Rule},g.Rules[k]?=some x→g.Rules[j]?=some y→x.Name=y.Name→¬ k<j:=by
  intro k j x y hk hj hn hlt
  have:=z5q _ _ h.rule j y hj
  unfold z1F at this
  rw[Bool.or_eq_false_iff] at this
  have h2:=this.2
  unfold dupB at h2
  rw[List.nil_append,List.any_eq_false] at h2
  exact h2 x (List.mem_of_getElem? (i:=k) (by rw[List.getElem?_take,ifP hlt];exact hk)) (by simpa using hn)
 have h1:=key hk hj hn
 have h2:=key hj hk hn.symm
 omega
theorem j9X {g:Gm_}(h0:Sz.szd g≤1048576)(hS:Shape g){r:Rule}(hr:r∈g.Rules):z3v g r.Name=some (r,true):=by
 have key:∀ (xs:List Rule) (i:Nat),(∀ x∈xs,x∈g.Rules)→r∈xs→findL (z4a r.Name) i xs ()=some (.inr (r,true)):=by
  intro xs
  induction xs with
  | nil=>intro i _ h;exact nomatch h
  | cons x xs ih=>
   intro i hx hm
   rw[findL]
   by_cases e:x.Name=r.Name
   ·obtain⟨k,hk⟩:=List.getElem?_of_mem (hx x (by simp))
    obtain⟨j,hj⟩:=List.getElem?_of_mem hr
    have:=hS.rnames hk hj e
    subst this
    rw[hk] at hj
    have e2:x=r:=Option.some.inj hj
    rw[e2]
    unfold z4a
    rw[ifP rfl,x0y (Nat.le_trans (z3N hr) h0),bsS];rfl
   ·unfold z4a
    rw[ifN e,bsS]
    rcases List.mem_cons.1 hm with h|h
    ·exact absurd (by rw[h]) e
    ·exact ih (i+1) (fun y hy=>hx y (by simp[hy])) h
 unfold z3v
 rw[key g.Rules 0 (fun _ h=>h) hr];rfl
def z0 (_:Nat):Int:=0
def shN (b:Int)(x:Node):Node:=⟨x.Id,x.Parent+b,x.Place,x.Literal,x.Rule,x.Children.map fun c=>c+b⟩
def shL (b:Int)(k:Nat):List Node→List Node
 | []=>[]
 | x::xs=>(⟨x.Id,0,((k+1:Nat):Int),x.Literal,x.Rule,x.Children.map fun c=>c+b⟩:Node)::xs.map (shN b)
theorem j9Y (b:Int)(k:Nat):∀ l:List Node,(shL b k l).length=l.length
 | []=>rfl
 | x::xs=>by simp[shL]
def jnS:List Tree→Nat
 | []=>0
 | y::ys=>y.Nodes.length+jnS ys
def jnO:Nat→List Tree→List Int
 | _,[]=>[]
 | b,y::ys=>(b:Int)::jnO (b+y.Nodes.length) ys
def jnN:Nat→Nat→List Tree→List Node
 | _,_,[]=>[]
 | k,b,y::ys=>shL (b:Int) k y.Nodes++jnN (k+1) (b+y.Nodes.length) ys
theorem j6D:∀ (ys:List Tree) (k b:Nat),(jnN k b ys).length=jnS ys
 | [],_,_=>rfl
 | y::ys,k,b=>by rw[jnN,jnS,List.length_append,j9Y,j6D ys]
theorem k4Q:∀ (ys:List Tree) (b:Nat),(jnO b ys).length=ys.length
 | [],_=>rfl
 | y::ys,b=>by rw[jnO,lnC,lnC,k4Q ys]
def ndk (B:Nat)(x:Node):Prop:=(-1≤x.Parent∧x.Parent≤(B:Int))∧(∀ c∈x.Children,0≤c∧c≤(B:Int))∧x.Children.length≤3
def ndT (y:Tree):Prop:=∀ x∈y.Nodes,ndk y.Nodes.length x
theorem k9Z {s1:List Node}(h1:s1.length≤100000){cs:List Int}{B:Nat}(hB:B≤100000)(hc:∀ c∈cs,0≤c∧c≤(B:Int))(hl:cs.length≤3):eachL (z8j s1) 0 cs ([]:List Int)=some (cs.map fun c=>c+(s1.length:Int))∧eachL (z8k s1) 0 cs ([]:List Int)=some (cs.map fun c=>c+(s1.length:Int)):=by
 constructor
 ·rw[z9O (g:=fun c:Int=>c+(s1.length:Int)) (B:=1048576) cs 0 [] (fun k x s hx hs=>by
   have:=hc x hx
   unfold z8j
   rw[q3N (by constructor<;>omega),q3N (by constructor<;>omega)]) (by simp;omega),List.nil_append]
 ·rw[z9O (g:=fun c:Int=>c+(s1.length:Int)) (B:=1048576) cs 0 [] (fun k x s hx hs=>by
   have:=hc x hx
   unfold z8k
   rw[q3N (by constructor<;>omega),q3N (by constructor<;>omega)]) (by simp;omega),List.nil_append]
theorem j8q {s1:List Node}(h1:s1.length≤100000){B:Nat}(hB:B≤100000)(k:Nat):∀ (xs:List Node) (i:Nat) (s:List Node),1≤i→(∀ x∈xs,ndk B x)→s.length+xs.length≤1000000→eachL (q9S s1 k) i xs s=some (s++xs.map (shN (s1.length:Int)))
 | [],i,s,_,_,_=>by rw[eachL];simp
 | x::xs,i,s,hi,hx,hl=>by
  simp only[lnC] at hl
  obtain⟨⟨p1,p2⟩,p3,p4⟩:=hx x (by simp)
  have e:q9S s1 k i x s=some (s++[shN (s1.length:Int) x]):=by
   unfold q9S
   rw[q3N (by constructor<;>omega),ifN (by omega),(k9Z h1 hB p3 p4).2,bsS,q3N (by constructor<;>omega),bsS];rfl
  rw[eachL,e,bsS,j8q h1 hB k xs (i+1) _ (by omega) (fun y hy=>hx y (by simp[hy])) (by simp;omega)]
  simp
theorem k6L {s1:List Node}(h1:s1.length≤100000){B:Nat}(hB:B≤100000)(k:Nat)(xs:List Node)(s:List Node)(hx:∀ x∈xs,ndk B x)(hl:s.length+xs.length≤1000000):eachL (q9S s1 k) 0 xs s=some (s++shL (s1.length:Int) k xs):=by
 cases xs with
 | nil=>rw[eachL,shL];simp
 | cons x xs=>
  simp only[lnC] at hl
  obtain⟨⟨p1,p2⟩,p3,p4⟩:=hx x (by simp)
  have e:q9S s1 k 0 x s=some (s++[(⟨x.Id,0,((k+1:Nat):Int),x.Literal,x.Rule,x.Children.map fun c=>c+(s1.length:Int)⟩:Node)]):=by
   unfold q9S
   rw[q3N (by constructor<;>omega),ifP (show ((0:Nat):Int)=0 from rfl),(k9Z h1 hB p3 p4).1,bsS,q3N (by constructor<;>omega),bsS]
  rw[eachL,e,bsS,j8q h1 hB k xs 1 _ (by omega) (fun y hy=>hx y (by simp[hy])) (by simp;omega),shL]
  simp
theorem k1k (nm:ByteArray):∀ (ys:List Tree) (k:Nat) (ch:List Int) (M:List Node),(∀ y∈ys,ndT y)→ch.length+ys.length≤1000→1+M.length+jnS ys≤100000 →
  eachL z5z k ys ((⟨0,-1,0,0,nm,ch⟩:Node)::M)=some ((⟨0,-1,0,0,nm,ch++jnO (1+M.length) ys⟩:Node)::(M++jnN k (1+M.length) ys))
 | [],k,ch,M,_,_,_=>by rw[eachL,jnO,jnN];simp
 | y::ys,k,ch,M,hy,hc,hl=>by
  simp only[lnC] at hc
  rw[jnS] at hl
  have hs1:((⟨0,-1,0,0,nm,ch⟩:Node)::M).length=1+M.length:=by simp;omega
  have e:z5z k y ((⟨0,-1,0,0,nm,ch⟩:Node)::M)=some ((⟨0,-1,0,0,nm,ch++[((1+M.length:Nat):Int)]⟩:Node)::(M++shL ((1+M.length:Nat):Int) k y.Nodes)):=by
   unfold z5z
   rw[show ((⟨0,-1,0,0,nm,ch⟩:Node)::M)[0]?=some ⟨0,-1,0,0,nm,ch⟩ from rfl,bsS]
   dsimp only
   rw[q3N (by constructor<;>omega),List.set_cons_zero,k6L (by rw[hs1];omega) (B:=y.Nodes.length) (by omega) k y.Nodes _ (hy y (by simp)) (by simp;omega),bsS,hs1]
   rfl
  rw[eachL,e,bsS,k1k nm ys (k+1) _ _ (fun z hz=>hy z (by simp[hz])) (by simp;omega) (by rw[List.length_append,j9Y];omega),jnO,jnN,List.length_append,j9Y,show 1+(M.length+y.Nodes.length)=1+M.length+y.Nodes.length by omega]
  simp
theorem k8T (nm:ByteArray){ys:List Tree}(hy:∀ y∈ys,ndT y)(hc:ys.length≤1000)(hl:1+jnS ys≤100000):z4R ⟨0,0,0,0,nm,[]⟩ ys=some ⟨(⟨0,-1,0,0,nm,jnO 1 ys⟩:Node)::jnN 0 1 ys⟩:=by
 unfold z4R
 dsimp only
 rw[k1k nm ys 0 [] [] hy (by simp;omega) (by simp;omega),bsS]
 simp
theorem j9Z (b:Nat):∀ (ts:List Tr) (c:Nat),(offs c ts).map (fun x=>x+(b:Int))=offs (c+b) ts
 | [],c=>rfl
 | t::ts,c=>by
  rw[offs,offs,List.map_cons,j9Z b ts,show c+t.sz+b=c+b+t.sz by omega]
  congr 1
mutual
theorem k8U (b:Nat):∀ (t:Tr) (p q:Int) (c:Nat),(preT z0 t p q c).map (shN (b:Int))=preT z0 t (p+b) q (c+b)
 | .node r ks,p,q,c=>by
  rw[preT,preT,List.map_cons,j6E b ks]
  unfold shN
  dsimp only
  rw[j9Z b,show c+1+b=c+b+1 by omega]
  rfl
theorem j6E (b:Nat):∀ (ts:List Tr) (p:Int) (k c:Nat),(z7o z0 ts p k c).map (shN (b:Int))=z7o z0 ts (p+b) k (c+b)
 | [],_,_,_=>rfl
 | t::ts,p,k,c=>by
  rw[z7o,z7o,List.map_append,k8U b t,j6E b ts,show c+t.sz+b=c+b+t.sz by omega]
end
def preX (t:Tr):Tree:=⟨preT z0 t (-1) 0 0⟩
theorem j1R (t:Tr):(preX t).Nodes.length=t.sz:=z9S z0 t _ _ _
theorem k8V (b k:Nat):∀ t:Tr,shL (b:Int) k (preX t).Nodes=preT z0 t 0 ((k+1:Nat):Int) b
 | .node r ks=>by
  unfold preX
  dsimp only
  rw[preT,shL,preT]
  dsimp only
  rw[j9Z b,j6E b,show 0+1+b=b+1 by omega]
  congr 2
  omega
theorem k4R:∀ (ts:List Tr) (b:Nat),jnO b (ts.map preX)=offs b ts
 | [],b=>rfl
 | t::ts,b=>by rw[List.map_cons,jnO,offs,j1R,k4R ts]
theorem k4S:∀ (ts:List Tr) (k b:Nat),jnN k b (ts.map preX)=z7o z0 ts 0 (k+1) b
 | [],k,b=>rfl
 | t::ts,k,b=>by rw[List.map_cons,jnN,z7o,j1R,k8V,k4S ts]
theorem k4T:∀ ts:List Tr,jnS (ts.map preX)=Tr.szs ts
 | []=>rfl
 | t::ts=>by rw[List.map_cons,jnS,Tr.szs,j1R,k4T ts]
theorem k1l:∀ (ts:List Tr) (n:Nat),Tr.szs (ts.take n)≤Tr.szs ts
 | [],n=>by simp
 | t::ts,0=>by rw[List.take_zero,Tr.szs];omega
 | t::ts,n+1=>by rw[List.take_succ_cons,Tr.szs,Tr.szs];have:=k1l ts n;omega
def good (y:Tree)(t:Tr):Prop:=(y=preX t∧t.sz≤16)∨(16<y.Nodes.length∧16<t.sz)
def bt (n:Nat)(y:Tree):Prop:=y.Nodes.length≤16*n+1∧ndT y
def PreL (n:Nat):List Tree→List Tr→Prop
 | [],_=>True
 | y::ys,t::ts=>(good y t∧bt n y)∧PreL n ys ts
 | _::_,[]=>False
theorem PreL.len {n:Nat}:∀ {ys:List Tree} {ts:List Tr},PreL n ys ts→ys.length≤ts.length
 | [],_,_=>Nat.zero_le _
 | y::ys,t::ts,h=>by have:=PreL.len h.2;simp;omega
 | _::_,[],h=>h.elim
theorem PreL.nd {n:Nat}:∀ {ys:List Tree} {ts:List Tr},PreL n ys ts→∀ y∈ys,ndT y
 | [],_,_,y,hy=>nomatch hy
 | x::ys,t::ts,h,y,hy=>by
  rcases List.mem_cons.1 hy with e|e
  ·rw[e];exact h.1.2.2
  ·exact PreL.nd h.2 y e
 | _::_,[],h,_,_=>h.elim
theorem PreL.sum {n:Nat}:∀ {ys:List Tree} {ts:List Tr},PreL n ys ts→ys=(ts.take ys.length).map preX∨(16<jnS ys∧16<Tr.szs ts)
 | [],_,_=>.inl rfl
 | y::ys,t::ts,h=>by
  rcases h.1.1 with ⟨e,_⟩|⟨e1,e2⟩
  ·rcases PreL.sum h.2 with e'|⟨f1,f2⟩
   ·left
    rw[lnC,List.take_succ_cons,List.map_cons,← e',e]
   ·right
    rw[jnS,Tr.szs];omega
  ·right
   rw[jnS,Tr.szs];omega
 | _::_,[],h=>h.elim
section
variable {g:Gm_}{F:List (List found)}
def Blds (g:Gm_)(F:List (List found))(n:Nat)(f:found)(t:Tr):Prop:=
 ∃ y:Tree,(∀ m,n≤m→q9T m g (rcs F) f.rule.Name f.children=some y)∧good y t∧bt n y
theorem k7E (hS:Shape g)(hA:InvS g (sms F)){n:Nat}(hn:n≤1000)(ih:∀ f t,(∃ l∈F,f∈l)→trF g F n f=some t→Blds g F n f t){r:Rule}(hr:r∈g.Rules){d0:List Int}(h0:∀ d∈d0,0≤d) :
  ∀ (ds:List Int) (ns:List ByteArray) (ks:List Tr) (k w:Nat) (Y:List Tree),z7Q (trF g F n) g F ns ds=some ks→(∀ (j:Nat) x,ds[j]?=some x→d0[k+j]?=some x)→(∀ (j:Nat) x,ns[j]?=some x→r.Right[k+j]?=some x)→k+ds.length=d0.length→d0.length≤3→Y.length=k→w≤16*(n+1)+1 →
   ∃ ys,(∀ m,n≤m→q5g (z0a (q9T m) g (rcs F) d0 r) (Y,(w:Int),(k:Int))=some (Y++ys))∧PreL n ys ks∧(ys.length=ks.length∨16<w+jnS ys)∧w+jnS ys≤16*(n+1)+1
 | [],ns,ks,k,w,Y,hk,_,_,hl,_,_,hw=>by
  cases ns with
  | cons _ _=>cases hk
  | nil=>
   cases hk
   simp only[List.length_nil] at hl
   refine⟨[],fun m hm=>q3U ?_,trivial,.inl rfl,by rw[jnS];omega⟩
   unfold z0a
   dsimp only
   rw[ifN (by omega),List.append_nil]
 | d::ds,ns,ks,k,w,Y,hk,hd,hx,hl,h3,hY,hw=>by
  cases ns with
  | nil=>cases hk
  | cons x ns=>
   rw[z7Q] at hk
   obtain⟨f',e1,hk⟩:=Option.bind_eq_some_iff.1 hk
   obtain⟨t,e2,hk⟩:=Option.bind_eq_some_iff.1 hk
   obtain⟨ts,e3,hk⟩:=Option.bind_eq_some_iff.1 hk
   cases hk
   simp only[lnC] at hl
   have hdk:=hd 0 d rfl
   have hxk:=hx 0 x rfl
   rw[Nat.add_zero] at hdk hxk
   have hd0:=h0 d (List.mem_of_getElem? hdk)
   by_cases hw16:w≤16
   ·obtain⟨l,k1,k2,k3,k4⟩:=k7D e1
    obtain⟨a1,_⟩:=hA.at_ (hS.right hr (List.mem_of_getElem? hxk))
    obtain⟨y,y1,y2,y3,y4⟩:=ih f' t ⟨l,k3,k4⟩ e2
    have hrc:(rcs F)[atN g x]?=some ⟨l.map fun f=>f.rule.Name,l.map found.children⟩:=by rw[j9W,k1];rfl
    have step:∀ m,n≤m→z0a (q9T m) g (rcs F) d0 r (Y,(w:Int),(k:Int))=some (.inl (Y++[y],((w+y.Nodes.length:Nat):Int),((k+1:Nat):Int))):=fun m hm=>by
     unfold z0a
     dsimp only
     rw[ifP (by omega),ifP (by omega),q3N (by omega),tnC,hxk,bsS,j9N,bsS,a1,q3N (by omega),tnC,hrc,bsS,q3N (by omega),hdk,bsS,q3N hd0]
     dsimp only
     rw[List.getElem?_map,k2,Option.map_some,bsS,q3N hd0,List.getElem?_map,k2,Option.map_some,bsS,y1 m hm,bsS,q3N (by constructor<;>omega),q3N (by constructor<;>omega),q3N (by constructor<;>omega)]
     rfl
    obtain⟨ys,g1,g2,g3,g4⟩:=k7E hS hA hn ih hr h0 ds ns ts (k+1) (w+y.Nodes.length) (Y++[y]) e3 (fun j z hz=>by rw[show k+1+j=k+(j+1) by omega];exact hd (j+1) z hz) (fun j z hz=>by rw[show k+1+j=k+(j+1) by omega];exact hx (j+1) z hz) (by omega) h3 (by simp[hY]) (by omega)
    refine⟨y::ys,fun m hm=>?_,⟨⟨y2,y3,y4⟩,g2⟩,?_,by rw[jnS];omega⟩
    ·rw[q4Q (step m hm),g1 m hm,List.append_assoc];rfl
    ·rcases g3 with g3|g3
     ·exact .inl (by simp[g3])
     ·exact .inr (by rw[jnS];omega)
   ·refine⟨[],fun m hm=>q3U ?_,trivial,.inr (by omega),by rw[jnS];omega⟩
    unfold z0a
    dsimp only
    rw[ifP (by omega),ifN (by omega),List.append_nil]
theorem x0a:∀ (ys:List Tree) (k b:Nat),(∀ y∈ys,ndT y)→∀ x∈jnN k b ys,ndk (b+jnS ys) x
 | [],k,b,_,x,hx=>nomatch hx
 | y::ys,k,b,hy,x,hx=>by
  rw[jnN] at hx
  rw[jnS]
  have sh:∀ z∈y.Nodes,ndk (b+(y.Nodes.length+jnS ys)) (shN (b:Int) z):=fun z hz=>by
   obtain⟨⟨p1,p2⟩,p3,p4⟩:=hy y (by simp) z hz
   refine⟨⟨by show -1≤z.Parent+(b:Int);omega,by show z.Parent+(b:Int)≤_;omega⟩,fun c hc=>?_,by unfold shN;rw[lnM];exact p4⟩
   obtain⟨c0,hc0,rfl⟩:=List.mem_map.1 hc
   have:=p3 c0 hc0
   constructor<;>omega
  rcases List.mem_append.1 hx with hx|hx
  ·cases hN:y.Nodes with
   | nil=>rw[hN] at hx;exact nomatch hx
   | cons z zs=>
    rw[hN,shL] at hx
    rcases List.mem_cons.1 hx with e|e
    ·rw[e]
     obtain⟨_,q2,q3⟩:=sh z (by rw[hN];simp)
     rw[← hN]
     exact⟨⟨by show (-1:Int)≤0;omega,by show (0:Int)≤_;omega⟩,q2,q3⟩
    ·obtain⟨u,hu,rfl⟩:=List.mem_map.1 e
     rw[← hN]
     exact sh u (by rw[hN];simp[hu])
  ·obtain⟨⟨p1,p2⟩,p3,p4⟩:=x0a ys (k+1) (b+y.Nodes.length) (fun z hz=>hy z (by simp[hz])) x hx
   refine⟨⟨p1,by omega⟩,fun c hc=>?_,p4⟩
   have:=p3 c hc
   constructor<;>omega
theorem k7F:∀ (ys:List Tree) (b:Nat),∀ c∈jnO b ys,0≤c∧c≤((b+jnS ys:Nat):Int)
 | [],b,c,hc=>nomatch hc
 | y::ys,b,c,hc=>by
  rw[jnO] at hc
  rw[jnS]
  rcases List.mem_cons.1 hc with e|e
  ·omega
  ·have:=k7F ys (b+y.Nodes.length) c e
   omega
theorem k1m (hz:Sz.szd g≤1048576)(hS:Shape g)(hA:InvS g (sms F))(hD:Der g F):∀ (n:Nat) (f:found) (t:Tr),n≤1000→f.rule∈g.Rules→(∀ d∈f.children,0≤d)→trF g F n f=some t→Blds g F n f t
 | 0,f,t,_,_,_,h=>by cases h
 | n+1,f,t,hn,hr,hc,h=>by
  rw[trF] at h
  obtain⟨ks,e1,h⟩:=Option.bind_eq_some_iff.1 h
  cases h
  have hk3:=(j1Q _ _ _ e1).1
  have hk4:=(j1Q _ _ _ e1).2
  have hR:=z2z hS hr
  obtain⟨ys,g1,g2,g3,g4⟩:=k7E hS hA (n:=n) (by omega) (fun f' t' ⟨l,hl,hf⟩ ht=>k1m hz hS hA hD n f' t' (by omega) (hD l hl f' hf).1 (hD l hl f' hf).2.1 ht) hr hc f.children f.rule.Right ks 0 1 [] e1 (fun j x hx=>by rw[Nat.zero_add];exact hx) (fun j x hx=>by rw[Nat.zero_add];exact hx) (by omega) (by omega) rfl (by omega)
  rw[List.nil_append] at g1
  have hyl:=g2.len
  have hnd:=g2.nd
  have hj:=k8T f.rule.Name hnd (by omega) (by omega)
  refine⟨⟨(⟨0,-1,0,0,f.rule.Name,jnO 1 ys⟩:Node)::jnN 0 1 ys⟩,fun m hm=>?_,?_,?_,?_⟩
  ·cases m with
   | zero=>omega
   | succ m=>
    show z3w (q9T m) g (rcs F) f.rule.Name f.children=_
    unfold z3w
    rw[j9X hz hS hr,bsS]
    dsimp only
    have:=g1 m (by omega)
    rw[show ((1:Nat):Int)=1 from rfl,show ((0:Nat):Int)=0 from rfl] at this
    rw[this,bsS,hj,bsS]
  ·have hlen:((⟨0,-1,0,0,f.rule.Name,jnO 1 ys⟩:Node)::jnN 0 1 ys).length=1+jnS ys:=by rw[lnC,j6D];omega
   unfold good
   dsimp only
   rw[hlen,Tr.sz]
   rcases g2.sum with e|⟨e1,e2⟩
   ·have hs:jnS ys=Tr.szs (ks.take ys.length):=by rw[e,k4T,← e]
    have hle:=k1l ks ys.length
    rcases g3 with g3|g3
    ·rw[g3,List.take_length] at hs
     by_cases h16:1+Tr.szs ks≤16
     ·left
      refine⟨?_,h16⟩
      rw[g3,List.take_length] at e
      rw[e,k4R,k4S]
      unfold preX
      rw[preT];rfl
     ·right;omega
    ·right;omega
   ·right;omega
  ·show ((⟨0,-1,0,0,f.rule.Name,jnO 1 ys⟩:Node)::jnN 0 1 ys).length≤_
   rw[lnC,j6D];omega
  ·intro x hx
   have hx:x∈(⟨0,-1,0,0,f.rule.Name,jnO 1 ys⟩:Node)::jnN 0 1 ys:=hx
   show ndk ((⟨0,-1,0,0,f.rule.Name,jnO 1 ys⟩:Node)::jnN 0 1 ys).length x
   rw[lnC,j6D,show jnS ys+1=1+jnS ys by omega]
   rcases List.mem_cons.1 hx with e|e
   ·rw[e]
    exact⟨⟨by show (-1:Int)≤-1;omega,by show (-1:Int)≤_;omega⟩,k7F ys 1,by show (jnO 1 ys).length≤3;rw[k4Q];omega⟩
   ·exact x0a ys 0 1 hnd x e
def numL:Nat→List Node→List Node
 | _,[]=>[]
 | i,x::xs=>(⟨((i+1:Nat):Int),x.Parent,x.Place,x.Literal,x.Rule,x.Children⟩:Node)::numL (i+1) xs
theorem k1n:∀ (xs ys:List Node) (i:Nat),numL i (xs++ys)=numL i xs++numL (i+xs.length) ys
 | [],ys,i=>by simp[numL]
 | x::xs,ys,i=>by
  rw[List.cons_append,numL,numL,k1n xs ys,lnC,show i+1+xs.length=i+(xs.length+1) by omega];rfl
mutual
theorem j6F:∀ (t:Tr) (p q:Int) (b:Nat),numL b (preT z0 t p q b)=preT idN t p q b
 | .node r ks,p,q,b=>by rw[preT,preT,numL,j8r ks];rfl
theorem j8r:∀ (ts:List Tr) (p:Int) (k b:Nat),numL b (z7o z0 ts p k b)=z7o idN ts p k b
 | [],_,_,_=>rfl
 | t::ts,p,k,b=>by rw[z7o,z7o,k1n,j6F t,z9S,j8r ts]
end
theorem k1o:∀ (xs pre:List Node),pre.length+xs.length≤100→q5g q8O ((pre.length:Int),pre++xs)=some (pre++numL pre.length xs)
 | [],pre,_=>by
  refine q3U ?_
  unfold q8O
  dsimp only
  rw[ifN (by simp),numL]
 | x::xs,pre,h=>by
  simp only[lnC] at h
  have e:q8O ((pre.length:Int),pre++x::xs)=some (.inl (((pre++[(⟨((pre.length+1:Nat):Int),x.Parent,x.Place,x.Literal,x.Rule,x.Children⟩:Node)]).length:Int),(pre++[(⟨((pre.length+1:Nat):Int),x.Parent,x.Place,x.Literal,x.Rule,x.Children⟩:Node)])++xs)):=by
   unfold q8O
   dsimp only
   rw[ifP (by simp;omega),q3N (by constructor<;>omega),q3N (by omega),tnC,List.getElem?_append_right (Nat.le_refl _),Nat.sub_self,show (x::xs)[0]?=some x from rfl,bsS,q3N (by constructor<;>omega),List.set_append_right _ _ (Nat.le_refl _),Nat.sub_self,List.set_cons_zero]
   simp
  rw[q4Q e,k1o xs _ (by simp;omega),numL]
  simp
theorem j8s (hz:Sz.szd g≤1048576)(hS:Shape g)(hA:InvS g (sms F))(hD:Der g F){n:Nat}(hn:n≤1000){f:found}{t:Tr}(hr:f.rule∈g.Rules)(hc:∀ d∈f.children,0≤d)(h:trF g F n f=some t) :
  ∃ (R:Tree×Bool) (y:Tree) (z:List Node),q7q g F f=some R∧q5V g (rcs F) f.rule.Name f.children=some y∧q4O y=some (R.1,R.2,z)∧R.1.Nodes.length≤16∧(∀ x∈R.1.Nodes,x.Children.length≤16):=by
 obtain⟨y,y1,y2,y3⟩:=k1m hz hS hA hD n f t hn hr hc h
 have hb:q5V g (rcs F) f.rule.Name f.children=some y:=by
  unfold q5V
  exact q8s n y1
 rw[k6K hS hA hD hr hc h]
 rcases y2 with ⟨e,h16⟩|⟨e1,e2⟩
 ·rw[ifP h16]
  subst e
  have hl:=j1R t
  refine⟨_,preX t,numL 0 (preX t).Nodes,rfl,hb,?_,?_,?_⟩
  ·unfold q4O
   rw[ifN (by omega)]
   have:=k1o (preX t).Nodes [] (by simp;omega)
   simp only[List.length_nil,List.nil_append] at this
   rw[show ((0:Nat):Int)=0 from rfl] at this
   rw[this,bsS]
   rw[show numL 0 (preX t).Nodes=preT idN t (-1) 0 0 from j6F t _ _ _]
  ·show (preT idN t (-1) 0 0).length≤16
   rw[z9S];exact h16
  ·intro x hx
   have hx:x∈preT idN t (-1) 0 0:=hx
   rw[← j6F t] at hx
   have key:∀ (l:List Node) (i:Nat),(∀ x∈l,x.Children.length≤3)→∀ x∈numL i l,x.Children.length≤16:=by
    intro l
    induction l with
    | nil=>intro i _ x hx;exact nomatch hx
    | cons a l ih=>
     intro i ha x hx
     rw[numL] at hx
     rcases List.mem_cons.1 hx with e|e
     ·rw[e];have:=ha a (by simp);show a.Children.length≤16;omega
     ·exact ih (i+1) (fun z hz=>ha z (by simp[hz])) x e
   exact key _ 0 (fun z hz=>(y3.2 z hz).2.2) x hx
 ·rw[ifN (by omega)]
  refine⟨_,y,y.Nodes,rfl,hb,?_,Nat.zero_le _,fun x hx=>nomatch hx⟩
  unfold q4O
  rw[ifP (by omega)]
end
noncomputable def z0h (g:Gm_) (r:Rule) (A:List (List Rl_)) (c:List Nat):Bool:=j6q (z7P g r (z1G g r A c))
theorem k8W {cs:List Nat}{n:Nat}(hn:n<q6U cs):(chL cs).drop n=digL cs n::(chL cs).drop (n+1):=by
 have hl:n<(chL cs).length:=by unfold chL;rw[lnM,List.length_range];exact hn
 have hg:(chL cs)[n]?=some (digL cs n):=by
  unfold chL
  rw[List.getElem?_map,List.getElem?_range hn];rfl
 rw[List.getElem?_eq_getElem hl] at hg
 rw[List.drop_eq_getElem_cons hl,Option.some.inj hg]
theorem x0b {cs:List Nat}{n:Nat}(hn:¬ n<q6U cs):(chL cs).drop n=[]:=List.drop_eq_nil_of_le (by unfold chL;rw[lnM,List.length_range];omega)
def uSzF {α:Type}(g:α→Int→Option Int)(n:Nat)(x:α):Prop:=∀ s:Int,0≤s→s≤1048576→g x s=some (if (n:Int)≤s then s-n else -1)
theorem j8t {α:Type}[Sz α]{f:Nat→α→Int→Option (Int ⊕ Int)}:∀ (xs:List α) (i:Nat) (s:Int),(∀ k x s,x∈xs→0≤s→s≤1048576→f k x s=some (if (Sz.szd x:Int)≤s then .inl (s-Sz.szd x) else .inr (-1)))→0≤s→s≤1048576 →
  findL f i xs s=some (if ((szL xs-xs.length:Nat):Int)≤s then .inl (s-(szL xs-xs.length:Nat)) else .inr (-1))
 | [],i,s,_,h0,_=>by simp[findL,szL,h0]
 | x::xs,i,s,hf,h0,h1=>by
  have hl:=q4P xs
  have e:szL (x::xs)-(x::xs).length=Sz.szd x+(szL xs-xs.length):=by simp only[szL,lnC];omega
  rw[e]
  show (f i x s).bind _=_
  rw[hf i x s (by simp) h0 h1]
  by_cases hx:(Sz.szd x:Int)≤s
  ·rw[ifP hx]
   show findL f (i+1) xs (s-Sz.szd x)=_
   rw[j8t xs (i+1) _ (fun k y t hy=>hf k y t (by simp[hy])) (by omega) (by omega)]
   by_cases h2:((Sz.szd x+(szL xs-xs.length):Nat):Int)≤s
   ·rw[ifP h2,ifP (by omega)];congr 2;omega
   ·rw[ifN h2,ifN (by omega)]
  ·rw[ifN hx,ifN (by omega)];rfl
theorem j3H {α:Type}[Sz α]{xs:List α}{f:Nat→α→Int→Option (Int ⊕ Int)}(hf:∀ k x s,x∈xs→0≤s→s≤1048576→f k x s=some (if (Sz.szd x:Int)≤s then .inl (s-Sz.szd x) else .inr (-1)))(s:Int)(h0:0≤s)(h1:s≤1048576)(hl:xs.length≤9223372036854775807) :
  (grd (I64 (s-(xs.length:Int))) <| if (s-(xs.length:Int))<0 then some (-1) else (findL f 0 xs (s-(xs.length:Int))).bind <| onr (fun r1=>some r1) fun s1=>some s1)=some (if (szL xs:Int)≤s then s-(szL xs:Nat) else -1):=by
 have hl':=q4P xs
 rw[q3N (by constructor<;>omega)]
 by_cases h2:s-(xs.length:Int)<0
 ·rw[ifP h2,ifN (by omega)]
 ·rw[ifN h2,j8t xs 0 _ hf (by omega) (by omega),bsS]
  by_cases h3:(szL xs:Int)≤s
  ·rw[ifP h3,ifP (by omega),z4q];congr 1;omega
  ·rw[ifN h3,ifN (by omega),z8a]
theorem j4Y {α:Type}[Sz α]{g:α→Int→Option Int}{xs:List α}(hg:∀ x∈xs,uSzF g (Sz.szd x) x)(k:Nat)(x:α)(s:Int)(hx:x∈xs)(h0:0≤s)(h1:s≤1048576) :
  ((g x s).bind fun y1=>if y1<0 then some (.inr (-1)) else some (.inl y1):Option (Int ⊕ Int))=some (if (Sz.szd x:Int)≤s then .inl (s-Sz.szd x) else .inr (-1)):=by
 rw[hg x hx s h0 h1,bsS]
 by_cases h2:(Sz.szd x:Int)≤s
 ·rw[ifP h2,ifN (by omega),ifP h2]
 ·rw[ifN h2,ifP (by omega),ifN h2]
theorem z2O (n m:Nat){k:Int→Option Int}{s:Int}(h0:0≤s)(h1:s≤1048576)(hn:n≤9223372036854775807)(hk:∀ t,0≤t→t≤1048576→k t=some (if (m:Int)≤t then t-m else -1)) :
  (grd (I64 (s-(n:Int))) <| if (s-(n:Int))<0 then some (-1) else k (s-(n:Int)))=some (if ((n+m:Nat):Int)≤s then s-(n+m:Nat) else -1):=by
 rw[q3N (by constructor<;>omega)]
 by_cases h2:s-(n:Int)<0
 ·rw[ifP h2,ifN (by omega)]
 ·rw[ifN h2,hk _ (by omega) (by omega)]
  by_cases h3:((n+m:Nat):Int)≤s
  ·rw[ifP h3,ifP (by omega)];congr 1;omega
  ·rw[ifN h3,ifN (by omega)]
theorem z1e (n m:Nat){o:Option Int}{k:Int→Option Int}{s:Int}(h0:0≤s)(h1:s≤1048576)(ho:o=some (if (n:Int)≤s then s-n else -1))(hk:∀ t,0≤t→t≤1048576→k t=some (if (m:Int)≤t then t-m else -1)) :
  (o.bind fun y1=>if y1<0 then some (-1) else k y1)=some (if ((n+m:Nat):Int)≤s then s-(n+m:Nat) else -1):=by
 rw[ho,bsS]
 by_cases h2:(n:Int)≤s
 ·rw[ifP h2,ifN (by omega),hk _ (by omega) (by omega)]
  by_cases h3:((n+m:Nat):Int)≤s
  ·rw[ifP h3,ifP (by omega)];congr 1;omega
  ·rw[ifN h3,ifN (by omega)]
 ·rw[ifN h2,ifP (by omega),ifN (by omega)]
theorem z4o {t:Int}(h0:0≤t)(_:t≤1048576):some t=some (if ((0:Nat):Int)≤t then t-(0:Nat) else -1):=by rw[ifP (by omega)];congr 1;omega
section
open Go.A
theorem k6M {xs:List ByteArray}(h:boD (.sl 1 (xs.map A.D.s))):uSzF z3V (szL xs) xs:=fun s h0 h1=>
 j3H (f:=z5x) (fun k x s hx h0 h1=>by
  unfold z5x
  have hb:x.size≤9223372036854775807:=j5v.1 (boCs_cons.1 (z8e h hx)).1
  rw[q3N (by constructor<;>omega)]
  show (_:Option (Int ⊕ Int))=some (if (x.size:Int)≤s then Sum.inl (s-x.size) else Sum.inr (-1))
  by_cases h2:(x.size:Int)≤s
  ·rw[ifN (by omega),ifP h2]
  ·rw[ifP (by omega),ifN h2]) s h0 h1 (z8f h)
theorem k6N {x:At_}(h:boCs (At_.l x)):uSzF z1I (Sz.szd x) x:=fun s h0 h1=>by
 simp only[At_.l,boCs_cons,j5v] at h
 exact z2O x.Name.size 0 h0 h1 h.1 (k:=some) (fun t=>z4o)
theorem k4U {k:Nat}{xs:List At_}(h:boD (.sl k (xs.map At_.D))):uSzF z0n (szL xs) xs:=fun s h0 h1=>
 j3H (f:=z5U) (j4Y fun x hx=>k6N (z8e h hx)) s h0 h1 (z8f h)
theorem k8X {x:Symbol}(h:boCs (Symbol.l x)):uSzF z5w (Sz.szd x) x:=fun s h0 h1=>by
 simp only[Symbol.l,boCs_cons,j5v] at h
 exact z2O x.Name.size _ h0 h1 h.1 fun t h0 h1=>z1e (szL x.Attributes) 0 h0 h1 (k4U h.2.1 t h0 h1) fun t=>z4o
theorem k6O {k:Nat}{xs:List Symbol}(h:boD (.sl k (xs.map Symbol.D))):uSzF z3U (szL xs) xs:=fun s h0 h1=>
 j3H (f:=z9a) (j4Y fun x hx=>k8X (z8e h hx)) s h0 h1 (z8f h)
theorem k8Y {x:Oc}(h:x.Name.size≤9223372036854775807):uSzF z0o (Sz.szd x) x:=fun s h0 h1=>
 z2O x.Name.size 0 h0 h1 h (k:=some) (fun t=>z4o)
theorem k4V:∀ (m:Nat) (e:Expr),fuE e≤m→boCs (Expr.l e)→uSzF (z4L m) (Sz.szd e) e:=by
 intro m
 induction m with
 | zero=>intro e h;rw[z2x] at h;omega
 | succ m ih=>
  intro e h hr s h0 h1
  rw[z2x] at h
  simp only[Expr.l,boCs_cons,j5v] at hr
  obtain⟨_,_,_,_,h2,h3,h4,_⟩:=hr
  rw[q6X,Nat.add_assoc]
  show z6o (z4L m) e s=_
  unfold z6o
  exact z2O e.Symbol.size _ h0 h1 h2 fun t h0 h1=>z2O e.Name.size _ h0 h1 h3 fun t h0 h1=>
   z1e (szL e.Args) 0 h0 h1 (j3H (f:=j2s (z4L m)) (j4Y fun x hx=>ih x (by have:=z4n hx;omega) (by rw[← Expr.D_cells];exact z8e h4 hx)) t h0 h1 (z8f h4)) fun t=>z4o
theorem k0a {e:Expr}(h:boCs (Expr.l e)):uSzF z6p (Sz.szd e) e:=fun s h0 h1=>
 q8s (fuE e) fun n hn=>k4V n e hn h s h0 h1
theorem k8Z {x:Eqn}(h:boCs (Eqn.l x)):uSzF z2D (Sz.szd x) x:=fun s h0 h1=>by
 have e:Sz.szd x=Sz.szd x.At+(Sz.szd x.Expr+0):=by rw[z2p,q6X,j4i];omega
 simp only[Eqn.l,boCs_cons] at h
 rw[e]
 exact z1e _ _ h0 h1 (k8Y (j5v.1 h.2.1) s h0 h1) fun t h0 h1=>z1e _ 0 h0 h1 (k0a (by simp only[Expr.l,boCs_cons];exact h.2.2) t h0 h1) fun t=>z4o
theorem k6P {k:Nat}{xs:List Eqn}(h:boD (.sl k (xs.map Eqn.D))):uSzF z1J (szL xs) xs:=fun s h0 h1=>
 j3H (f:=z6q) (j4Y fun x hx=>k8Z (z8e h hx)) s h0 h1 (z8f h)
theorem k9a {x:Cn}(h:boCs (Cn.l x)):uSzF q8X (Sz.szd x) x:=fun s h0 h1=>by
 have e:Sz.szd x=x.Symbol.size+(x.Name.size+(Sz.szd x.Target+(Sz.szd x.Value+0))):=by rw[q8i,q6X,q6X];omega
 simp only[Cn.l,boCs_cons] at h
 obtain⟨h1',h2,a1,a2,a3,a4,a5,a6,a7,hb⟩:=h
 rw[e]
 exact z2O _ _ h0 h1 (j5v.1 h1') fun t h0 h1=>z2O _ _ h0 h1 (j5v.1 h2) fun t h0 h1=>z1e _ _ h0 h1 (k0a (by simp only[Expr.l,boCs_cons];exact⟨a1,a2,a3,a4,a5,a6,a7,by rw[boCs];trivial⟩) t h0 h1) fun t h0 h1=>
  z1e _ 0 h0 h1 (k0a (by simp only[Expr.l,boCs_cons];exact hb) t h0 h1) fun t=>z4o
theorem k6Q {k:Nat}{xs:List Cn}(h:boD (.sl k (xs.map Cn.D))):uSzF q8z (szL xs) xs:=fun s h0 h1=>
 j3H (f:=z3i) (j4Y fun x hx=>k9a (z8e h hx)) s h0 h1 (z8f h)
theorem k6R {x:Rule}(h:boCs (Rule.l x)):uSzF z9b (Sz.szd x) x:=fun s h0 h1=>by
 have e:Sz.szd x=x.Name.size+(x.Left.size+(szL x.Right+(szL x.Equations+(szL x.Contributions+0)))):=by rw[z4m];omega
 simp only[Rule.l,boCs_cons] at h
 obtain⟨h2,h3,h4,_,h5,h6,_⟩:=h
 rw[e]
 exact z2O _ _ h0 h1 (j5v.1 h2) fun t h0 h1=>z2O _ _ h0 h1 (j5v.1 h3) fun t h0 h1=>z1e _ _ h0 h1 (k6M h4 t h0 h1) fun t h0 h1=>z1e _ _ h0 h1 (k6P h5 t h0 h1) fun t h0 h1=>
  z1e _ 0 h0 h1 (k6Q h6 t h0 h1) fun t=>z4o
theorem k4W {k:Nat}{xs:List Rule}(h:boD (.sl k (xs.map Rule.D))):uSzF z7y (szL xs) xs:=fun s h0 h1=>
 j3H (f:=j2t) (j4Y fun x hx=>k6R (z8e h hx)) s h0 h1 (z8f h)
theorem k1p {x:Gm_}(h:boCs (Gm_.l x)):uSzF z2b (Sz.szd x) x:=fun s h0 h1=>by
 have e:Sz.szd x=szL x.Symbols+(szL x.Rules+0):=by rw[q9Y];omega
 simp only[Gm_.l,boCs_cons] at h
 rw[e]
 exact z1e _ _ h0 h1 (k6O h.1 s h0 h1) fun t h0 h1=>z1e _ 0 h0 h1 (k4W h.2.1 t h0 h1) fun t=>z4o
end
theorem k6S {α:Type}{z y:α}(pre:List α)(n:Nat):List.set (pre++List.replicate (n+1) z) pre.length y=(pre++[y])++List.replicate n z:=by
 rw[List.set_append_right _ _ (Nat.le_refl _),Nat.sub_self,List.replicate_succ,List.set_cons_zero];simp
theorem k4X {α:Type}{z:α}{f:Nat→α→List α→Option (List α)}:∀ (xs pre:List α),(∀ k x s,x∈xs→k<s.length→f k x s=some (List.set s k x))→eachL f pre.length xs (pre++List.replicate xs.length z)=some (pre++xs)
 | [],pre,_=>by simp[eachL]
 | x::xs,pre,hf=>by
  show (f pre.length x _).bind _=_
  rw[hf _ _ _ (by simp) (by simp),lnC,k6S,bsS]
  have:=k4X (z:=z) xs (pre++[x]) fun k y s hy=>hf k y s (by simp[hy])
  rw[List.length_append] at this
  rw[show pre.length+1=pre.length+[x].length from rfl,this];simp
theorem z7p {α:Type}{z:α}{g:α→Option α}{b:Int}{xs:List α}{f:Nat→α→List α→Option (List α)}(hb:(xs.length:Int)*b≤281474976710656)(hl:xs.length≤1048576)(hf:∀ k x s,x∈xs→k<s.length→f k x s=some (List.set s k x)) :
  (grd (0≤(xs.length:Int)∧(xs.length:Int)*b≤281474976710656∧(xs.length:Int)≤9223372036854775807) <| (eachL f 0 xs (List.replicate xs.length z)).bind fun s1=>some s1)=some xs:=by
 rw[q3N ⟨by omega,hb,by omega⟩]
 have:=k4X (z:=z) xs [] hf
 rw[List.length_nil,List.nil_append,List.nil_append] at this
 rw[this];rfl
theorem j4Z {α:Type}{g:α→Option α}{xs:List α}(hg:∀ x∈xs,g x=some x)(k:Nat)(x:α)(s:List α)(hx:x∈xs)(hk:k<s.length):((g x).bind fun y1=>(s[k]?).bind fun x2=>some (List.set s k y1))=some (List.set s k x):=by
 rw[hg x hx,bsS,List.getElem?_eq_getElem hk];rfl
theorem k6T {xs:List ByteArray}(h:szL xs≤1048576):z3X xs=some xs:=by
 have hl:=q4P xs
 exact z7p (g:=some) (by omega) (by omega) fun k x s _ hk=>by unfold z9d;rw[List.getElem?_eq_getElem hk];rfl
theorem k4Y {xs:List At_}(h:szL xs≤1048576):z0q xs=some xs:=by
 have hl:=q4P xs
 exact z7p (g:=some) (by omega) (by omega) (j4Z (g:=z1K) fun x _=>rfl)
theorem k9b {x:Symbol}(h:Sz.szd x≤1048576):z1k x=some x:=by
 unfold z1k;rw[k4Y (by rw[j0p] at h;omega)];rfl
theorem k6U {xs:List Symbol}(h:szL xs≤1048576):z3W xs=some xs:=by
 have hl:=q4P xs
 exact z7p (g:=some) (by omega) (by omega) (j4Z (g:=z1k) fun x hx=>k9b (by have:=z1c hx;omega))
theorem k4Z:∀ (m:Nat) (e:Expr),fuE e≤m→Sz.szd e≤1048576→z3j m e=some e:=by
 intro m
 induction m with
 | zero=>intro e h;rw[z2x] at h;omega
 | succ m ih=>
  intro e h hs
  rw[z2x] at h
  show z6r (z3j m) e=_
  unfold z6r
  have hz:=q6X e
  have hl:=q4P e.Args
  have:z7z (z3j m) e.Args=some e.Args:=z7p (g:=some) (by omega) (by omega) (j4Z (g:=z3j m) fun x hx=>ih x (by have:=z4n hx;omega) (by have:=k3H hx;omega))
  rw[this,bsS];cases e;rfl
theorem k0b {e:Expr}(h:Sz.szd e≤1048576):z6s e=some e:=q8s (fuE e) fun n hn=>k4Z n e hn h
theorem k9c {x:Eqn}(h:Sz.szd x≤1048576):q8Y x=some x:=by
 unfold q8Y
 rw[show z0r x.At=some x.At from rfl,k0b (by rw[z2p] at h;rw[q6X];omega)];rfl
theorem k6V {xs:List Eqn}(h:szL xs≤1048576):z1L xs=some xs:=by
 have hl:=q4P xs
 exact z7p (g:=some) (by omega) (by omega) (j4Z (g:=q8Y) fun x hx=>k9c (by have:=z1c hx;omega))
theorem k9d {x:Cn}(h:Sz.szd x≤1048576):q6F x=some x:=by
 unfold q6F
 rw[q8i] at h
 rw[k0b (by rw[q6X];omega),bsS,k0b (by rw[q6X];omega)];rfl
theorem k6W {xs:List Cn}(h:szL xs≤1048576):q8A xs=some xs:=by
 have hl:=q4P xs
 exact z7p (g:=some) (by omega) (by omega) (j4Z (g:=q6F) fun x hx=>k9d (by have:=z1c hx;omega))
theorem k6X {x:Rule}(h:Sz.szd x≤1048576):z4M x=some x:=by
 unfold z4M
 rw[z4m] at h
 rw[k6T (by omega),bsS,k6V (by omega),bsS,k6W (by omega)];rfl
theorem k5a {xs:List Rule}(h:szL xs≤1048576):z7A xs=some xs:=by
 have hl:=q4P xs
 exact z7p (g:=some) (by omega) (by omega) (j4Z (g:=z4M) fun x hx=>k6X (by have:=z1c hx;omega))
theorem k1q {x:Gm_}(h:Sz.szd x≤1048576):q6b x=some x:=by
 unfold q6b
 rw[q9Y] at h
 rw[k6U (by omega),bsS,k5a (by omega)];rfl
theorem k7G {α:Type}{f:Nat→α→Unit→Option (Unit ⊕ Bool)}:∀ (xs:List α) (i:Nat),(∀ k x,xs[k]?=some x→f (i+k) x ()=some (.inl ()))→findL f i xs ()=some (.inl ())
 | [],i,_=>rfl
 | x::xs,i,hf=>by
  show (f i x ()).bind _=_
  have h0:=hf 0 x rfl
  rw[Nat.add_zero] at h0
  rw[h0]
  exact k7G xs (i+1) fun k y hy=>by have:=hf (k+1) y hy;rwa[show i+1+k=i+(k+1) by omega]
theorem z5O {α:Type}{xs:List α}{f:Nat→α→Unit→Option (Unit ⊕ Bool)}(hf:∀ k x,xs[k]?=some x→f k x ()=some (.inl ())) :
  (if (xs.length:Int)=(xs.length:Int) then (findL f 0 xs ()).bind <| onr (fun r1=>some r1) fun _=>some true else some false)=some true:=by
 rw[ifP rfl,k7G xs 0 fun k x h=>by rw[Nat.zero_add];exact hf k x h];rfl
theorem j3I {α:Type}{g:α→α→Option Bool}{xs:List α}(hg:∀ x∈xs,g x x=some true)(k:Nat)(x:α)(h:xs[k]?=some x):((xs[k]?).bind fun x2=>(g x x2).bind fun y1=>if y1=true then some (.inl ()) else some (.inr false):Option (Unit ⊕ Bool))=some (.inl ()):=by
 rw[h,bsS,hg x (List.mem_of_getElem? h)];rfl
theorem k6Y (x:At_):q8p x x=some true:=by simp[q8p]
theorem k5b (xs:List At_):z0V xs xs=some true:=z5O (f:=z5Y xs) (j3I (g:=q8p) fun x _=>k6Y x)
theorem k9e (x:Symbol):z1v x x=some true:=by simp[z1v,k5b]
theorem k6Z (xs:List Symbol):z4c xs xs=some true:=z5O (f:=z9w xs) (j3I (g:=z1v) fun x _=>k9e x)
theorem k7a (xs:List ByteArray):z4d xs xs=some true:=z5O (f:=z5H xs) fun k x h=>by unfold z5H;rw[h,bsS,ifP rfl]
theorem k7b (x:Oc):q8R x x=some true:=by simp[q8R]
theorem k5c:∀ (m:Nat) (e:Expr),fuE e≤m→z2j m e e=some true:=by
 intro m
 induction m with
 | zero=>intro e h;rw[z2x] at h;omega
 | succ m ih=>
  intro e h
  rw[z2x] at h
  show z6P (z2j m) e e=_
  have:z7J (z2j m) e.Args e.Args=some true:=z5O (f:=j2E (z2j m) e.Args) (j3I (g:=z2j m) fun x hx=>ih x (by have:=z4n hx;omega))
  simp[z6P,this]
theorem k1r (e:Expr):z6Q e e=some true:=q8s (fuE e) fun n hn=>k5c n e hn
theorem k9f (x:Eqn):q9i x x=some true:=by simp[q9i,k7b,k1r]
theorem k7c (xs:List Eqn):z1X xs xs=some true:=z5O (f:=z6R xs) (j3I (g:=q9i) fun x _=>k9f x)
theorem k9g (x:Cn):q6H x x=some true:=by simp[q6H,k1r]
theorem k7d (xs:List Cn):q8D xs xs=some true:=z5O (f:=z3B xs) (j3I (g:=q6H) fun x _=>k9g x)
theorem k7e (x:Rule):z4Z x x=some true:=by simp[z4Z,k7a,k7c,k7d]
theorem k5d (xs:List Rule):z7K xs xs=some true:=z5O (f:=j2F xs) (j3I (g:=z4Z) fun x _=>k7e x)
theorem k1s (x:Gm_):z0e x x=some true:=by simp[z0e,k6Z,k5d]
end Go.Proofs.YtipikecbeganoaaGreat
