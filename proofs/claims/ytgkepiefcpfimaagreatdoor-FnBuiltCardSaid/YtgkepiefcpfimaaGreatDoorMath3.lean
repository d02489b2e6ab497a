/- What those partial functions come to: plain lemmas on data; each bears its conditions in its statement. -/
import Derived.Test.YtgkepiefcpfimaaGreatDoorMath2
set_option linter.unusedVariables false
set_option linter.unusedSimpArgs false
set_option linter.ambiguousOpen false
set_option linter.unusedSectionVars false
set_option linter.unnecessarySimpa false
open List renaming length_nil→Dxz,mem_of_find?_eq_some→Eaz,nil_append→Ebz,getElem?_eq_getElem→Cmz,replicate→Bqz,range'→Dhz,length_append→Axz,any_map→Ecz,map_append→Djz
open Nat renaming le_trans→Bgz
open Bool renaming not_true→Edz,and_false→Eez
namespace Go.Proofs.YtgkepiefcpfimaaGreatDoor
open Go Go.E
theorem z2Q {α ρ:Type}{p:α→Bool}{r:α→ρ}:∀ {xs:List α} {i:Nat} {f:Nat→α→Unit→Option (Unit ⊕ ρ)},(∀ k x,x∈xs→(p x=true→f k x ()=some (.inr (r x)))∧(p x=false→f k x ()=some (.inl ()))) →
  findL f i xs ()=some (match xs.find? p with|some x=>.inr (r x)|none=>.inl ())
 | [],_,_,_=>rfl
 | x::xs,i,f,h=>by
  have h0:=h i x (by simp)
  cases hp:p x with
  | true=>simp[findL,h0.1 hp,List.find?,hp]
  | false=>
   have ih:=z2Q (p:=p) (r:=r) (xs:=xs) (i:=i+1) (f:=f) fun k y hy=>h k y (by simp[hy])
   simp[findL,h0.2 hp,List.find?,hp,ih]
theorem z5q {α β:Type}{p:α→Bool}{g:Nat→α→β}{B:Nat}{f:Nat→α→List β→Option (List β)}(hf:∀ k x s,s.length<B→f k x s=some (if p x=true then s++[g k x] else s)):∀ (xs:List α) (i:Nat) (s:List β),s.length+xs.length≤B →
  ∃ ys,eachL f i xs s=some (s++ys)∧ys.length≤xs.length
 | [],i,s,_=>⟨[],by simp[eachL],by simp⟩
 | x::xs,i,s,h=>by
  simp only[lnC] at h
  by_cases hp:p x=true
  ·obtain⟨ys,h1,h2⟩:=z5q hf xs (i+1) (s++[g i x]) (by simp;omega)
   exact⟨g i x::ys,by simp[eachL,hf i x s (by omega),hp,h1],by simp;omega⟩
  ·obtain⟨ys,h1,h2⟩:=z5q hf xs (i+1) s (by omega)
   exact⟨ys,by simp[eachL,hf i x s (by omega),hp,h1],by simp;omega⟩
theorem z3P (x lo hi:Int):q6a x lo hi=some (decide (lo≤x∧x≤hi)):=by
 unfold q6a;split<;>simp_all<;>omega
theorem z8R (x lo hi:Int):q4n x lo hi=some (decide (lo≤x∧x≤hi)):=by
 unfold q4n;split<;>simp_all<;>omega
theorem j1b (r:Rule)(k:Int):q7r r k=q4K r k:=by
 unfold q7r q4K;rw[z3P,z8R]
def j1c (a:At_):Bool:=decide (a.Mode=1∨a.Mode=2)
theorem j5o:z4C=q6s:=rfl
theorem j4F:z4D=q8o:=rfl
theorem k3L {g:Gm_}(h:∀ y∈g.ss_,y.as_.length≤1048576)(s:BA_):∃ y b,q5L g s=some (y,b)∧q6n g s=some (y,b)∧y.as_.length≤1048576:=by
 have h1:=z2Q (p:=fun y:Symbol=>decide (y.Name=s)) (r:=fun y=>(y,true)) (xs:=g.ss_) (i:=0) (f:=z0S s) fun k y hy=>by
  have hg:z0k y=some y:=by
   unfold z0k;have:=h y hy;rw[q3P (by simp only[Dxz];constructor<;>omega)]
  unfold z0S;rw[hg];constructor<;>intro hp<;>simp_all
 have h2:=z2Q (p:=fun y:Symbol=>decide (y.Name=s)) (r:=fun y=>(y,true)) (xs:=g.ss_) (i:=0) (f:=z0Y s) fun k y hy=>by
  unfold z0Y;constructor<;>intro hp<;>simp_all
 unfold q5L q6n
 rw[h1,h2]
 cases hf:g.ss_.find? (fun y:Symbol=>decide (y.Name=s)) with
 | none=>exact⟨_,_,rfl,rfl,by simp⟩
 | some y=>exact⟨_,_,rfl,rfl,h y (Eaz hf)⟩
theorem k1W {g:Gm_}(h:∀ y∈g.ss_,y.as_.length≤1048576)(s:BA_):∃ l,q5P g s=some l∧q5N g s=some l∧l.length≤1048576:=by
 obtain⟨y,b,h1,h2,h3⟩:=k3L h s
 obtain⟨l,h4,h5⟩:=z5q (p:=j1c) (g:=fun _ x=>x) (B:=1048577) (f:=q6s) (fun k x s hs=>by
  have hg:((s.length:Int)+1)*40≤140737488355328∧(s.length:Int)+1≤9223372036854775807:=by constructor<;>omega
  unfold q6s j1c
  rw[q3P hg]
  by_cases m1:x.Mode=1
  ·rw[ifP m1,ifP (by simp[m1])];rfl
  ·rw[ifN m1]
   by_cases m2:x.Mode=2
   ·rw[ifP m2,ifP (by simp[m2])];rfl
   ·rw[ifN m2,ifN (by simp[m1,m2])];rfl) y.as_ 0 [] (by simp;omega)
 simp only[Ebz] at h4
 refine⟨l,?_,?_,by omega⟩
 ·unfold q5P;rw[h1];dsimp only[bsS];rw[h4];rfl
 ·unfold q5N;rw[h2];dsimp only[bsS];rw[j5o,h4];rfl
theorem k1X (r:Rule)(k:Nat)(hk:k≤r.rt_.length)(hl:r.rt_.length≤1048576):∃ x,q4K r (k:Int)=some x:=by
 unfold q4K
 by_cases h0:(k:Int)=0
 ·exact⟨_,ifP h0⟩
 ·rw[ifN h0,z3P,bsS,ifP (by simp;omega),q3P (by constructor<;>omega),q3P (by omega)]
  obtain⟨x,hx⟩:∃ x,r.rt_[((k:Int)-1).toNat]?=some x:=⟨_,Cmz (by omega)⟩
  exact⟨x,by rw[hx];rfl⟩
theorem k3M (k:Nat)(B:Nat)(hB:B≤4398046511104):∀ (l:List At_) (i:Nat) (s:List Oc),s.length+l.length≤B→∃ ys,eachL (q6z k) i l s=some (s++ys)∧ys.length≤l.length:=fun l i s h=>
 z5q (p:=fun _=>true) (g:=fun _ x=>(⟨(k:Int),x.Name⟩:Oc)) (B:=B) (f:=q6z k) (fun j x s hs=>by
  have hg:((s.length:Int)+1)*24≤140737488355328∧(s.length:Int)+1≤9223372036854775807:=by constructor<;>omega
  unfold q6z
  rw[q3P hg,ifP rfl]) l i s h
theorem k0I (k:Nat):z6b (k:Int)=q6z k:=rfl
theorem k0J {g:Gm_}{r:Rule}(h:∀ y∈g.ss_,y.as_.length≤1048576)(hr:r.rt_.length≤1048576):∃ l,q6P g r=some l∧q6N g r=some l∧l.length≤1099512676352:=by
 have key:∀ m k (s:List Oc),k+m=r.rt_.length+1→s.length≤k*1048576→∃ l,eachN (q7V g r) k m s=some l∧q4D (q5H g r) (s,(k:Int))=some l∧l.length≤(k+m)*1048576:=by
  intro m
  induction m with
  | zero=>
   intro k s hk hs
   refine⟨s,rfl,q3Q ?_,by simpa using hs⟩
   unfold q5H;dsimp only;rw[ifN (by omega)]
  | succ m ih=>
   intro k s hk hs
   obtain⟨x,hx⟩:=k1X r k (by omega) hr
   obtain⟨p,hp1,hp2,hp3⟩:=k1W h x
   obtain⟨ys,hy1,hy2⟩:=k3M k 4398046511104 (by omega) p 0 s (by omega)
   obtain⟨l,h1,h2,h3⟩:=ih (k+1) (s++ys) (by omega) (by simp;omega)
   refine⟨l,?_,?_,by rw[show k+(m+1)=k+1+m by omega];exact h3⟩
   ·have e:q7V g r k s=some (s++ys):=by
     unfold q7V;rw[j1b,hx,bsS,hp2,bsS,hy1];rfl
    simp only[eachN,e,bsS];exact h1
   ·have e:q5H g r (s,(k:Int))=some (.inl (s++ys,((k+1:Nat):Int))):=by
     unfold q5H;dsimp only
     rw[ifP (by omega),hx,bsS,hp1,bsS,k0I,hy1,bsS,q3P (by constructor<;>omega)];rfl
    rw[q4a e];exact h2
 obtain⟨l,h1,h2,h3⟩:=key (r.rt_.length+1) 0 [] (by omega) (by simp)
 refine⟨l,?_,?_,by omega⟩
 ·unfold q6P
  have e:q4D (q5H g r) (([]:List Oc),0)=some l:=h2
  rw[e];rfl
 ·unfold q6N
  rw[q3P (by constructor<;>omega),h1];rfl
theorem j6D {α:Type}[Sz α]{x:α}:∀ {l:List α},x∈l→Sz.szd x≤szL l
 | [],h=>by simp at h
 | y::l,h=>by
  rcases List.mem_cons.1 h with rfl|h
  ·simp only[szL];omega
  ·have:=j6D h;simp only[szL];omega
theorem q9I {g:Gm_}(h:Sz.szd g≤1048576):∀ y∈g.ss_,y.as_.length≤1048576:=fun y hy=>by
 have h1:=j6D hy
 have h2:=j0U y
 have h3:=z4V g
 have h4:=q8w y.as_
 omega
theorem q5y {r:Rule}(h:Sz.szd r≤1048576):r.rt_.length≤1048576:=by
 have h1:=j0j r
 have h2:=q8w r.rt_
 omega
theorem j3L (k:Nat):∀ (l:List At_) (i:Nat) (s:List Oc),s.length+l.length≤4398046511104→eachL (q6z k) i l s=some (s++l.map fun x=>(⟨(k:Int),x.Name⟩:Oc))
 | [],i,s,_=>by simp[eachL]
 | x::l,i,s,h=>by
  simp only[lnC] at h
  have hg:((s.length:Int)+1)*24≤140737488355328∧(s.length:Int)+1≤9223372036854775807:=by constructor<;>omega
  have e:q6z k i x s=some (s++[(⟨(k:Int),x.Name⟩:Oc)]):=by unfold q6z;rw[q3P hg]
  simp only[eachL,e,bsS]
  rw[j3L k l (i+1) _ (by simp;omega)];simp
theorem k8l:∀ (n:Nat) (e q:Expr),q8m n e=some q→q8m (n+1) e=some q:=by
 intro n
 induction n with
 | zero=>intro e q h;cases h
 | succ n ih=>
  intro e q h
  have h' : z2b (q8m n) e=some q:=h
  show z2b (q8m (n+1)) e=some q
  unfold z2b at h' ⊢
  obtain⟨s,h1,h2⟩:=bd h'
  rw[j0Z (g:=z4j (q8m (n+1))) (fun k x s q hq=>by
   unfold z4j at hq ⊢
   obtain⟨y,h3,h4⟩:=bd hq
   rw[ih _ _ h3,bsS];exact h4) _ _ _ _ h1]
  exact h2
theorem k1Y:∀ (m:Nat) (e:Expr),fuE e≤m→Sz.szd e≤1048576→q8m m e=some e:=by
 intro m
 induction m with
 | zero=>intro e h;rw[j1B] at h;omega
 | succ m ih=>
  intro e h hs
  rw[j1B] at h
  have hl:∀ (l:List Expr) (i:Nat) (s:List Expr),(∀ x∈l,fuE x≤m∧Sz.szd x≤1048576)→s.length+l.length≤4398046511→eachL (z4j (q8m m)) i l s=some (s++l):=by
   intro l
   induction l with
   | nil=>intro i s _ _;simp[eachL]
   | cons x l ihl=>
    intro i s hx hb
    simp only[lnC] at hb
    have h1:=ih x (hx x (by simp)).1 (hx x (by simp)).2
    have e1:z4j (q8m m) i x s=some (s++[x]):=by
     unfold z4j;rw[h1,bsS,q3P (by constructor<;>omega)]
    simp only[eachL,e1,bsS]
    rw[ihl _ _ (fun y hy=>hx y (by simp[hy])) (by simp;omega)];simp
  show z2b (q8m m) e=some e
  unfold z2b
  have h2:=q7o e
  have h3:=q8w e.Args
  rw[hl e.Args 0 [] (fun x hx=>⟨by have:=j6r hx;omega,by have:=k6X hx;omega⟩) (by simp;omega),Ebz,bsS]
  cases e;rfl
theorem k8m {e:Expr}(h:Sz.szd e≤1048576):z9U e=some e:=k3A (fun n q=>k8l n e q) (k1Y _ e (Nat.le_refl _) h)
theorem k1Z:z8Z=z9U:=by
 have h:∀ n,z2u n=q8m n:=by
  intro n
  induction n with
  | zero=>rfl
  | succ n ih=>funext e;show z6C (z2u n) e=z2b (q8m n) e;rw[ih];rfl
 funext e
 show recO (fun n=>z2u n e)=recO fun n=>q8m n e
 congr 1;funext n;rw[h]
def j9C:Expr:=⟨0,0,0,0,⟨#[]⟩,⟨#[]⟩,[]⟩
def eqAt (r:Rule)(o:Oc):Expr×Bool:=match r.es_.find? fun q=>decide (q.At=o) with
 | some q=>(q.Expr,true)
 | none=>(j9C,false)
theorem z9p {r:Rule}{q:Eqn}(h:q∈r.es_):Sz.szd q.Expr≤Sz.szd r:=by
 have h1:=j0j r
 have h2:=j1A q
 have h3:=z6O h
 have h4:=q7o q.Expr
 omega
theorem j6E {r:Rule}(h:Sz.szd r≤1048576)(o:Oc):Sz.szd (eqAt r o).1≤1048576:=by
 unfold eqAt
 cases hf:r.es_.find? (fun q=>decide (q.At=o)) with
 | none=>show Sz.szd j9C≤_;have:Sz.szd j9C=0:=rfl;omega
 | some q=>have:=z9p (Eaz hf);show Sz.szd q.Expr≤_;omega
theorem j2l {r:Rule}(h:Sz.szd r≤1048576)(o:Oc):q5V r o=some (eqAt r o):=by
 have key:∀ (l:List Eqn) (i:Nat),(∀ q∈l,Sz.szd q.Expr≤1048576)→findL (q8z o) i l ()=some (match l.find? fun q=>decide (q.At=o) with
   | some q=>.inr (q.Expr,true)
   | none=>.inl ()):=by
  intro l
  induction l with
  | nil=>intro i _;rfl
  | cons q l ih=>
   intro i hq
   by_cases hp:q.At=o
   ·simp[findL,q8z,hp,k8m (hq q (by simp))]
   ·simp[findL,q8z,hp]
    exact ih _ fun y hy=>hq y (by simp[hy])
 unfold q5V eqAt
 rw[key _ _ fun q hq=>by have:=z9p hq;omega]
 cases r.es_.find? (fun q=>decide (q.At=o))<;>rfl
theorem j9D {r:Rule}(h:Sz.szd r≤1048576)(o:Oc):q5V r o=some (eqAt r o)∧q8h r o=some (eqAt r o):=by
 have e:q8h=q5V:=by
  have e1:z3I=q8z:=by funext a k x u;unfold z3I q8z;rw[k1Z]
  funext r o;unfold q8h q5V;rw[e1]
 rw[e]
 exact⟨j2l h o,j2l h o⟩
theorem k2a:q8J=q5O:=by
 funext l o
 unfold q8J q5O q4d
 have e:z1l o=q3X o:=by
  funext k x u
  unfold z1l q3X
  by_cases h:x=o
  ·rw[ifP h,ifP h.symm]
  ·rw[ifN h,ifN fun e=>h e.symm]
 rw[e]
 cases ((findL (q3X o) 0 l ()).bind <| onr (fun r1=>some r1) fun _=>some (-1))<;>rfl
theorem k2b (l:List Oc)(o:Oc):∃ k,q5O l o=some k:=by
 have h:q4d l o=some (ixF l o):=by
  unfold q4d
  refine j3B fun k x=>⟨fun e=>?_,fun e=>?_⟩
  ·unfold q3X;rw[ifP e.symm]
  ·unfold q3X;rw[ifN (fun h=>e h.symm)]
 exact⟨_,by unfold q5O;rw[h];rfl⟩
theorem k9N {r x:Rl_}{i k:Int}(h:q7W r i k=some x):x.N=r.N:=by
 unfold q7W at h
 obtain⟨y,h1,h⟩:=bd h
 have hy:y=r:=by unfold q9X at h1;obtain⟨_,h1⟩:=z6v h1;exact (Option.some.inj h1).symm
 subst hy
 obtain⟨y2,_,h⟩:=bd h
 obtain⟨s1,_,h⟩:=bd h
 obtain⟨s2,_,h⟩:=bd h
 by_cases hs:s2=true
 ·rw[ifP hs] at h
  obtain⟨_,h⟩:=z6v h
  obtain⟨_,_,h⟩:=bd h
  obtain⟨_,h⟩:=z6v h
  obtain⟨_,h⟩:=z6v h
  obtain⟨_,h⟩:=z6v h
  cases h;rfl
 ·rw[ifN hs] at h
  cases h;rfl
theorem k5W (l:List Oc)(k:Nat):∀ (us:List Oc) (i:Nat) (rows:List Int) (n:Int),rows.length≤1048576 →
  ∃ rows',eachL (q6X l k) i us (rows,n)=some (rows',n)∧eachL (q9f l (k:Int)) i us (rows,n)=some (rows',n)∧rows'.length=rows.length:=by
 intro us
 induction us with
 | nil=>intro i rows n _;exact⟨rows,rfl,rfl,rfl⟩
 | cons u us ih=>
  intro i rows n h
  obtain⟨j,hj⟩:=k2b l u
  obtain⟨x,hx,hxl⟩:=k5U (r:=⟨n,rows⟩) h j (k:Int)
  have hN:=k9N hx
  obtain⟨rows',h1,h2,h3⟩:=ih (i+1) x.Rows n (by rw[hxl];exact h)
  have e1:q6X l k i u (rows,n)=some (x.Rows,n):=by
   unfold q6X
   dsimp only
   rw[hj,bsS,j6B,hx,bsS,hN]
  have e2:q9f l (k:Int) i u (rows,n)=some (x.Rows,n):=by
   unfold q9f
   dsimp only
   rw[k2a,hj,bsS,hx,bsS,hN]
  exact⟨rows',by simp only[eachL,e1,bsS];exact h1,by simp only[eachL,e2,bsS];exact h2,h3.trans hxl⟩
theorem k2c:attrs j9C=[]:=by
 have:z6M j9C=[]:=by simp[j9C,z6M,z2l]
 unfold attrs j7y
 rw[this];simp[q5G]
theorem k3N {r:Rule}(hr:Sz.szd r≤1048576)(l:List Oc)(hl:l.length≤16):∀ (m k:Nat) (rows:List Int) (n:Int),k+m=l.length→0<n→rows.length≤1048576 →
  ∃ rows',eachL (q6Y r l) k (l.drop k) (rows,n)=some (rows',n)∧q4D (q5I r l) ((k:Int),rows,n)=some (rows',n)∧rows'.length=rows.length:=by
 intro m
 induction m with
 | zero=>
  intro k rows n hk hn h
  refine⟨rows,by rw[List.drop_eq_nil_of_le (by omega)];rfl,q3Q ?_,rfl⟩
  unfold q5I
  dsimp only
  rw[ifN (by omega)]
 | succ m ih=>
  intro k rows n hk hn h
  obtain⟨x,hx⟩:∃ x,l[k]?=some x:=⟨_,Cmz (by omega)⟩
  have hd:l.drop k=x::l.drop (k+1):=by
   rw[List.drop_eq_getElem_cons (by omega)]
   have:l[k]=x:=by rw[Cmz (by omega)] at hx;exact Option.some.inj hx
   rw[this]
  obtain⟨E,B,hq⟩:∃ E B,eqAt r x=(E,B):=⟨_,_,rfl⟩
  obtain⟨rows1,h1,h2,h3⟩:=k5W l k (attrs E) 0 rows n h
  obtain⟨rows',k1,k2,k3⟩:=ih (k+1) rows1 n (by omega) hn (by omega)
  have hsz:=j6E hr x
  have hf:=j9D hr x
  rw[hq] at hsz hf
  have e1:q6Y r l k x (rows,n)=some (rows1,n):=by
   unfold q6Y
   dsimp only
   rw[hf.2,bsS]
   dsimp only
   rw[j2h hsz,bsS,h1];rfl
  have hin:(grd (0≤(k:Int)) <| (l[(k:Int).toNat]?).bind fun x1=>(q5V r x1).bind fun (y3,y4)=>if y4=true then ((q6O y3).bind fun y5=>(eachL (q9f l (k:Int)) 0 y5 (rows,n)).bind fun (s8,s9)=>some (s8,s9)) else some (rows,n))=some (rows1,n):=by
   rw[q3P (by omega),tnC,hx,bsS,hf.1,bsS]
   dsimp only
   cases hb:B with
   | true=>rw[ifP rfl,j6x hsz,bsS,h2,bsS]
   | false=>
    have hz:E=j9C:=by
     unfold eqAt at hq
     cases hf:r.es_.find? (fun q=>decide (q.At=x)) with
     | none=>rw[hf] at hq;cases hq;rfl
     | some q=>rw[hf] at hq;cases hq;cases hb
    rw[hz,k2c] at h1
    simp only[eachL,Option.some.injEq,Prod.mk.injEq] at h1
    rw[ifN (by simp),h1.1]
  have e2:q5I r l ((k:Int),rows,n)=some (.inl (((k+1:Nat):Int),rows1,n)):=by
   unfold q5I
   dsimp only
   rw[ifP (by omega),ifP hn,hin,bsS]
   dsimp only
   rw[q3P (by constructor<;>omega)];rfl
  exact⟨rows',by rw[hd];simp only[eachL,e1,bsS];exact k1,by rw[q4a e2];exact k2,k3.trans h3⟩
theorem k2d {g:Gm_}{r:Rule}(h:Sz.szd g≤1048576)(hr:Sz.szd r≤1048576):∃ x,q7y g r=some x∧q7w g r=some x∧x.Rows.length≤16:=by
 obtain⟨l,h1,h2,_⟩:=k0J (q9I h) (q5y hr)
 have hem:∀ n:Nat,q5D (n:Int)=if n≤16 then some ⟨(n:Int),Bqz n 0⟩ else some ⟨0,[]⟩:=fun n=>by
  unfold q5D
  rw[z1g,bsS]
  by_cases hn:n≤16
  ·rw[ifP (by simp;omega),q3P (by omega),ifP hn];rfl
  ·rw[ifN (by simp;omega),ifN hn]
 unfold q7y q7w
 rw[h1,h2,bsS,bsS,z8x,hem]
 by_cases hl:l.length≤16
 ·rw[ifP hl,bsS,bsS,ifN (by omega)]
  dsimp only
  by_cases h0:l.length=0
  ·have:l=[]:=List.eq_nil_of_length_eq_zero h0
   subst this
   have e:q4D (q5I r ([]:List Oc)) (0,Bqz ([]:List Oc).length 0,((([]:List Oc).length:Nat):Int))=some (Bqz ([]:List Oc).length 0,((([]:List Oc).length:Nat):Int)):=q3Q (by unfold q5I;dsimp only;rw[ifN (by simp)])
   rw[e]
   exact⟨_,rfl,rfl,by simp⟩
  ·obtain⟨rows',k1,k2,k3⟩:=k3N hr l hl l.length 0 (Bqz l.length 0) (l.length:Int) (by omega) (by omega) (by simp;omega)
   have k2' : q4D (q5I r l) (0,Bqz l.length 0,(l.length:Int))=some (rows',(l.length:Int)):=k2
   rw[List.drop_zero] at k1
   rw[k1,k2']
   exact⟨_,rfl,rfl,by show rows'.length≤16;simp at k3;omega⟩
 ·rw[ifN hl,bsS,bsS,ifP (by omega)]
  have e:q4D (q5I r l) (0,([]:List Int),(0:Int))=some ([],0):=q3Q (by unfold q5I;dsimp only;rw[ifP (by omega),ifN (by omega)])
  rw[e]
  exact⟨_,rfl,rfl,by simp⟩
theorem z6o {α β:Type}{p:α→Bool}{g:α→β}{B:Nat}{f:Nat→α→List β→Option (List β)}(hf:∀ k x s,s.length<B→f k x s=some (if p x=true then s++[g x] else s)):∀ (xs:List α) (i:Nat) (s:List β),s.length+xs.length≤B →
  eachL f i xs s=some (s++(xs.filter p).map g)
 | [],i,s,_=>by simp[eachL]
 | x::xs,i,s,h=>by
  simp only[lnC] at h
  by_cases hp:p x=true
  ·have ih:=z6o hf xs (i+1) (s++[g x]) (by simp;omega)
   simp[eachL,hf i x s (by omega),hp,ih]
  ·have ih:=z6o hf xs (i+1) s (by omega)
   simp[eachL,hf i x s (by omega),hp,ih]
theorem j3M {α β:Type}{p:α→Bool}{g:Nat→β}{B:Nat}{f:Nat→α→List β→Option (List β)}(hf:∀ k x s,s.length<B→f k x s=some (if p x=true then s++[g k] else s)):∀ (xs:List α) (i:Nat) (s:List β),s.length+xs.length≤B →
  eachL f i xs s=some (s++((xs.zipIdx i).filter fun q=>p q.1).map fun q=>g q.2)
 | [],i,s,_=>by simp[eachL]
 | x::xs,i,s,h=>by
  simp only[lnC] at h
  by_cases hp:p x=true
  ·have ih:=j3M hf xs (i+1) (s++[g i]) (by simp;omega)
   simp[eachL,hf i x s (by omega),hp,ih,List.zipIdx_cons]
  ·have ih:=j3M hf xs (i+1) s (by omega)
   simp[eachL,hf i x s (by omega),hp,ih,List.zipIdx_cons]
theorem j1d {β:Type}{h:Nat→List β}{C n:Nat}{f:Nat→List β→Option (List β)}(hf:∀ k s,k<n→s.length≤k*C→f k s=some (s++h k))(hh:∀ k,k<n→(h k).length≤C) :
  ∀ (m k:Nat) (s:List β),k+m=n→s.length≤k*C→eachN f k m s=some (s++(Dhz k m).flatMap h)
 | 0,k,s,_,_=>by simp[eachN]
 | m+1,k,s,hk,hs=>by
  have hl:=hh k (by omega)
  have e:(k+1)*C=k*C+C:=Nat.succ_mul k C
  have ih:=j1d hf hh m (k+1) (s++h k) (by omega) (by rw[Axz];omega)
  simp[eachN,hf k s (by omega) hs,ih,List.range'_succ]
theorem j3N {β:Type}{h:Nat→List β}{C n:Nat}{f:(List β×Int)→Option ((List β×Int) ⊕ List β)}(hf:∀ (k:Nat) s,k<n→s.length≤k*C→f (s,(k:Int))=some (.inl (s++h k,((k+1:Nat):Int))))(he:∀ s,f (s,(n:Int))=some (.inr s))(hh:∀ k,k<n→(h k).length≤C) :
  ∀ (m k:Nat) (s:List β),k+m=n→s.length≤k*C→q4D f (s,(k:Int))=some (s++(Dhz k m).flatMap h)
 | 0,k,s,hk,_=>by
  obtain rfl:k=n:=by omega
  rw[q3Q (he s)];simp
 | m+1,k,s,hk,hs=>by
  have hl:=hh k (by omega)
  have e:(k+1)*C=k*C+C:=Nat.succ_mul k C
  have ih:=j3N hf he hh m (k+1) (s++h k) (by omega) (by rw[Axz];omega)
  rw[q4a (hf k s (by omega) hs),ih];simp[List.range'_succ]
abbrev GOk (g:Gm_):Prop:=∀ y∈g.ss_,y.as_.length≤1048576
def zS:Symbol:=⟨⟨#[]⟩,[]⟩
def zA:At_:=⟨⟨#[]⟩,0,0,false⟩
def q7C (g:Gm_)(s:BA_):Symbol×Bool:=match g.ss_.find? fun y=>decide (y.Name=s) with
 | some y=>(y,true)
 | none=>(zS,false)
def z3G (y:Symbol)(s:BA_):At_×Bool:=match y.as_.find? fun a=>decide (a.Name=s) with
 | some a=>(a,true)
 | none=>(zA,false)
theorem z3H {g:Gm_}(h:GOk g)(s:BA_):q5L g s=some (q7C g s):=by
 have h1:=z2Q (p:=fun y:Symbol=>decide (y.Name=s)) (r:=fun y=>(y,true)) (xs:=g.ss_) (i:=0) (f:=z0S s) fun k y hy=>by
  have hg:z0k y=some y:=by
   unfold z0k;have:=h y hy;rw[q3P (by simp only[Dxz];constructor<;>omega)]
  unfold z0S;rw[hg];constructor<;>intro hp<;>simp_all
 unfold q5L q7C
 rw[h1]
 cases hf:g.ss_.find? (fun y:Symbol=>decide (y.Name=s)) with
 | none=>rfl
 | some y=>rfl
theorem z4Y (g:Gm_)(s:BA_):q6n g s=some (q7C g s):=by
 have h2:=z2Q (p:=fun y:Symbol=>decide (y.Name=s)) (r:=fun y=>(y,true)) (xs:=g.ss_) (i:=0) (f:=z0Y s) fun k y hy=>by
  unfold z0Y;constructor<;>intro hp<;>simp_all
 unfold q6n q7C
 rw[h2]
 cases hf:g.ss_.find? (fun y:Symbol=>decide (y.Name=s)) with
 | none=>rfl
 | some y=>rfl
theorem z4Z {g:Gm_}(h:GOk g)(s:BA_):(q7C g s).1.as_.length≤1048576:=by
 unfold q7C
 cases hf:g.ss_.find? (fun y:Symbol=>decide (y.Name=s)) with
 | none=>simp[zS]
 | some y=>exact h y (Eaz hf)
theorem j0p (y:Symbol)(s:BA_):q7u y s=some (z3G y s):=by
 have h2:=z2Q (p:=fun y:At_=>decide (y.Name=s)) (r:=fun y=>(y,true)) (xs:=y.as_) (i:=0) (f:=z2s s) fun k y hy=>by
  unfold z2s;constructor<;>intro hp<;>simp_all
 unfold q7u z3G
 rw[h2]
 cases hf:y.as_.find? (fun y:At_=>decide (y.Name=s)) with
 | none=>rfl
 | some y=>rfl
theorem j3O (y:Symbol)(s:BA_):q6m y s=some (z3G y s):=j0p y s
def q6q (r:Rule)(k:Int):BA_:=if k=0 then r.Left else if 1≤k∧k≤(r.rt_.length:Int) then r.rt_.getD (k-1).toNat ⟨#[]⟩ else ⟨#[]⟩
abbrev ROk (r:Rule):Prop:=r.rt_.length≤1048576
theorem z3O {r:Rule}(hl:ROk r)(k:Int):q4K r k=some (q6q r k):=by
 unfold q4K q6q
 by_cases h0:k=0
 ·rw[ifP h0,ifP h0]
 ·rw[ifN h0,ifN h0,z3P,bsS]
  by_cases h1:1≤k∧k≤(r.rt_.length:Int)
  ·rw[ifP (by simpa using h1),ifP h1,q3P (by constructor<;>omega),q3P (by omega)]
   have:(k-1).toNat<r.rt_.length:=by omega
   rw[Cmz this,List.getD_eq_getElem?_getD,Cmz this];rfl
  ·rw[ifN (by simpa using h1),ifN h1]
theorem z9q {r:Rule}(hl:ROk r)(k:Int):q7r r k=some (q6q r k):=by rw[j1b,z3O hl]
def z2n (g:Gm_)(r:Rule)(o:Oc):At_×Bool:=if 0≤o.Pos∧o.Pos≤(r.rt_.length:Int) then z3G (q7C g (q6q r o.Pos)).1 o.Name else (zA,false)
theorem j1e (g:Gm_){r:Rule}(hl:ROk r)(o:Oc):q8O g r o=some (z2n g r o):=by
 unfold q8O z2n
 rw[z8R,bsS]
 by_cases h0:0≤o.Pos∧o.Pos≤(r.rt_.length:Int)
 ·rw[ifP (by simpa using h0),ifP h0,z9q hl,bsS,z4Y,bsS]
  dsimp only
  rw[j0p];rfl
 ·rw[ifN (by simpa using h0),ifN h0];rfl
def mayB (g:Gm_)(r:Rule)(o:Oc):Bool:=(z2n g r o).2&&decide ((z2n g r o).1.Mode=if o.Pos=0 then 1 else 2)
theorem k8n (g:Gm_){r:Rule}(hl:ROk r)(o:Oc):z7F g r o=some (mayB g r o):=by
 unfold z7F mayB
 rw[j1e g hl,bsS]
 dsimp only
 by_cases h0:o.Pos=0
 ·rw[ifP h0,ifP h0]
  by_cases h1:(z2n g r o).2=true
  ·rw[ifP h1,h1];rfl
  ·rw[ifN h1,Bool.eq_false_iff.2 h1];rfl
 ·rw[ifN h0,ifN h0]
  by_cases h1:(z2n g r o).2=true
  ·rw[ifP h1,h1];rfl
  ·rw[ifN h1,Bool.eq_false_iff.2 h1];rfl
theorem k8o {g:Gm_}(h:GOk g){r:Rule}(hl:ROk r)(o:Oc):z7M g r o=some (mayB g r o):=by
 unfold z7M mayB z2n
 rw[z3P,bsS]
 by_cases hp:0≤o.Pos∧o.Pos≤(r.rt_.length:Int)
 ·rw[ifP (by simpa using hp),ifP hp,z3O hl,bsS,z3H h,bsS]
  dsimp only
  rw[j3O,bsS]
  skip
  by_cases h0:o.Pos=0
  ·rw[ifP h0,ifP h0]
   by_cases h1:(z3G (q7C g (q6q r o.Pos)).1 o.Name).2=true
   ·rw[ifP h1,h1];rfl
   ·rw[ifN h1,Bool.eq_false_iff.2 h1];rfl
  ·rw[ifN h0,ifN h0]
   by_cases h1:(z3G (q7C g (q6q r o.Pos)).1 o.Name).2=true
   ·rw[ifP h1,h1];rfl
   ·rw[ifN h1,Bool.eq_false_iff.2 h1];rfl
 ·rw[ifN (by simpa using hp),ifN hp];rfl
def reqK (g:Gm_)(r:Rule)(k:Nat):List Oc:=((q7C g (q6q r (k:Int))).1.as_.filter fun a=>decide (a.Mode=if (k:Int)=0 then 2 else 1)).map fun a=>(⟨(k:Int),a.Name⟩:Oc)
def reqL (g:Gm_)(r:Rule):List Oc:=(Dhz 0 (r.rt_.length+1)).flatMap (reqK g r)
theorem j6F {g:Gm_}(h:GOk g)(r:Rule)(k:Nat):(reqK g r k).length≤1048576:=by
 unfold reqK;rw[lnM]
 exact Bgz (List.length_filter_le _ _) (z4Z h _)
theorem j9E {g:Gm_}(h:GOk g){r:Rule}(hl:ROk r):z0n g r=some (reqL g r):=by
 have hl' : r.rt_.length≤1048576:=hl
 have key:=j1d (h:=reqK g r) (C:=1048576) (n:=r.rt_.length+1) (f:=z7E g r) (fun k s hk hs=>by
  have hin:∀ m:Int,eachL (z7D k m) 0 (q7C g (q6q r (k:Int))).1.as_ s=some (s++((q7C g (q6q r (k:Int))).1.as_.filter fun a=>decide (a.Mode=m)).map fun a=>(⟨(k:Int),a.Name⟩:Oc)):=fun m=>
   z6o (B:=4398046511104) (fun j x s hs=>by
    unfold z7D
    by_cases hm:x.Mode=m
    ·rw[ifP hm,ifP (by simpa using hm),q3P (by constructor<;>omega)];rfl
    ·rw[ifN hm,ifN (by simpa using hm)];rfl) _ 0 s (by have:=z4Z h (q6q r (k:Int));omega)
  unfold z7E reqK
  by_cases h0:(k:Int)=0
  ·rw[ifP h0,ifP h0,bsS,z9q hl,bsS,z4Y,bsS]
   dsimp only
   rw[hin];rfl
  ·rw[ifN h0,ifN h0,bsS,z9q hl,bsS,z4Y,bsS]
   dsimp only
   rw[hin];rfl) (fun k _=>j6F h r k) (r.rt_.length+1) 0 [] (by omega) (by simp)
 unfold z0n
 rw[q3P (by constructor<;>omega),key];rfl
theorem j6G {g:Gm_}(h:GOk g){r:Rule}(hl:ROk r):q3W g r=some (reqL g r):=by
 have hl' : r.rt_.length≤1048576:=hl
 have key:=j3N (h:=reqK g r) (C:=1048576) (n:=r.rt_.length+1) (f:=q6C g r) (fun k s hk hs=>by
  have hin2:eachL (q9u (k:Int)) 0 (q7C g (q6q r (k:Int))).1.as_ s=some (s++((q7C g (q6q r (k:Int))).1.as_.filter fun a=>decide (a.Mode=2)).map fun a=>(⟨(k:Int),a.Name⟩:Oc)):=
   z6o (B:=4398046511104) (fun j x s hs=>by
    unfold q9u
    by_cases hm:x.Mode=2
    ·rw[ifP hm,ifP (by simpa using hm),q3P (by constructor<;>omega)];rfl
    ·rw[ifN hm,ifN (by simpa using hm)];rfl) _ 0 s (by have:=z4Z h (q6q r (k:Int));omega)
  have hin1:eachL (q9v (k:Int)) 0 (q7C g (q6q r (k:Int))).1.as_ s=some (s++((q7C g (q6q r (k:Int))).1.as_.filter fun a=>decide (a.Mode=1)).map fun a=>(⟨(k:Int),a.Name⟩:Oc)):=
   z6o (B:=4398046511104) (fun j x s hs=>by
    unfold q9v
    by_cases hm:x.Mode=1
    ·rw[ifP hm,ifP (by simpa using hm),q3P (by constructor<;>omega)];rfl
    ·rw[ifN hm,ifN (by simpa using hm)];rfl) _ 0 s (by have:=z4Z h (q6q r (k:Int));omega)
  unfold q6C reqK
  dsimp only
  rw[ifP (by omega),z3O hl,bsS,z3H h,bsS]
  skip
  by_cases h0:(k:Int)=0
  ·rw[ifP h0,ifP h0,hin2,bsS,bsS,q3P (by constructor<;>omega)];rfl
  ·rw[ifN h0,ifN h0,hin1,bsS,bsS,q3P (by constructor<;>omega)];rfl) (fun s=>by
  unfold q6C;dsimp only;rw[ifN (by omega)]) (fun k _=>j6F h r k) (r.rt_.length+1) 0 [] (by omega) (by simp)
 unfold q3W
 have e:q4D (q6C g r) (([]:List Oc),0)=some ([]++(Dhz 0 (r.rt_.length+1)).flatMap (reqK g r)):=key
 rw[e];rfl
theorem q5p {α:Type}{q:α→Bool}{xs:List α}{f:Nat→α→Unit→Option (Unit ⊕ Int)}(h:∀ k x,x∈xs→f k x ()=some (if q x=true then .inr (k:Int) else .inl ())) :
  ((findL f 0 xs ()).bind <| onr (fun r1=>some r1) fun _=>some (-1)).bind (fun y1=>some (decide (0≤y1)))=some (xs.any q):=by
 rw[j3C h]
 cases hq:xs.any q with
 | true=>
  have:(0:Int)≤((0+xs.findIdx q:Nat):Int):=Int.natCast_nonneg _
  rw[ifP rfl,bsS,j0A,bsS,decide_eq_true this]
 | false=>rfl
def q5m {α:Type}(bad:List α→α→Bool):List α→List α→Option Nat
 | _,[]=>none
 | pre,x::xs=>if bad pre x=true then some pre.length else q5m bad (pre++[x]) xs
theorem z6p {α β ρ:Type}{bad:List α→α→Bool}{nm:α→β}{c:Nat→ρ}{all:List α}{f:Nat→α→Unit→Option (Unit ⊕ ρ)}{h:Nat→α→List β→Option (List β ⊕ ρ)}
  (hf:∀ pre x post,all=pre++x::post→f pre.length x ()=some (if bad pre x=true then .inr (c pre.length) else .inl ()))
  (hh:∀ pre x post,all=pre++x::post→h pre.length x (pre.map nm)=some (if bad pre x=true then .inr (c pre.length) else .inl ((pre++[x]).map nm))) :
  ∀ (ys pre:List α),all=pre++ys→findL f pre.length ys ()=some (match q5m bad pre ys with|none=>.inl ()|some k=>.inr (c k)) ∧
   findL h pre.length ys (pre.map nm)=some (match q5m bad pre ys with|none=>.inl (all.map nm)|some k=>.inr (c k))
 | [],pre,e=>by
  rw[List.append_nil] at e
  subst e;exact⟨rfl,rfl⟩
 | x::ys,pre,e=>by
  have h1:=hf pre x ys e
  have h2:=hh pre x ys e
  by_cases hb:bad pre x=true
  ·rw[ifP hb] at h1 h2
   simp only[findL,h1,h2,q5m,hb,if_true,bsS]
   exact⟨trivial,trivial⟩
  ·rw[ifN hb] at h1 h2
   have ih:=z6p hf hh ys (pre++[x]) (by rw[e];simp)
   simp only[Axz,lnC,Dxz,Nat.zero_add] at ih
   simp only[findL,h1,h2,q5m,hb,bsS]
   exact ih
theorem k0K {α:Type}{a:α→Bool}{b:List α→α→Bool}:∀ (xs pre:List α),(q5m (fun p x=>a x||b p x) pre xs).isNone=(xs.all (fun x=>!a x)&&(q5m b pre xs).isNone)
 | [],pre=>rfl
 | x::xs,pre=>by
  have ih:=k0K (a:=a) (b:=b) xs (pre++[x])
  simp only[q5m,List.all_cons]
  by_cases ha:a x=true
  ·simp[ha]
  ·by_cases hb:b pre x=true
   ·simp[ha,hb]
   ·simpa[ha,hb] using ih
def dupB {α:Type}(nm:α→BA_)(pre:List α)(x:α):Bool:=pre.any fun o=>decide (nm o=nm x)
def j9F {α:Type}(nm:α→BA_)(xs:List α):Bool:=(q5m (dupB nm) [] xs).isNone
theorem j8f {α:Type}{nm:α→BA_}:∀ (xs pre:List α),(q5m (dupB id) (pre.map nm) (xs.map nm))=q5m (dupB nm) pre xs
 | [],pre=>rfl
 | x::xs,pre=>by
  have ih:=j8f (nm:=nm) xs (pre++[x])
  have e:dupB id (pre.map nm) (nm x)=dupB nm pre x:=by simp[dupB,Ecz,Function.comp_def]
  rw[List.map_cons,q5m,q5m,e,lnM]
  rw[Djz] at ih
  rw[show [nm x]=[x].map nm from rfl,ih]
theorem z8b {α ρ:Type}{bad:List α→α→Bool}{c:Nat→ρ}{all:List α}{f:Nat→α→Unit→Option (Unit ⊕ ρ)}
  (hf:∀ pre x post,all=pre++x::post→f pre.length x ()=some (if bad pre x=true then .inr (c pre.length) else .inl ())) :
  ∀ (ys pre:List α),all=pre++ys→findL f pre.length ys ()=some (match q5m bad pre ys with|none=>.inl ()|some k=>.inr (c k)):=fun ys pre e=>
 (z6p (nm:=fun _=>()) (h:=fun k x s=>(f k x ()).map fun|.inl _=>.inl (s++[()])|.inr r=>.inr r) hf (fun pre x post e=>by
  rw[hf pre x post e]
  by_cases hb:bad pre x=true
  ·rw[ifP hb,ifP hb];rfl
  ·rw[ifN hb,ifN hb];simp) ys pre e).1
theorem k3O (l:List BA_)(s:BA_):z2Z l s=some (l.any fun o=>decide (o=s)):=by
 unfold z2Z
 rw[q4X (c:=true) (q:=fun o=>!decide (o=s)) fun k x hx=>by
  unfold z9H
  by_cases h:x=s
  ·rw[ifP h,ifN (by simp[h])]
  ·rw[ifN h,ifP (by simp[h])]]
 have e:(l.all fun o=>!decide (o=s))=!(l.any fun o=>decide (o=s)):=by rw[List.not_any_eq_all_not]
 rw[e]
 cases l.any fun o=>decide (o=s)<;>rfl
theorem k2e (l:List BA_):z0Z l=some (j9F id l):=by
 unfold z0Z j9F
 rw[show findL (z1Z l) 0 l ()=_ from z8b (bad:=dupB id) (c:=fun _=>false) (all:=l) (f:=z1Z l) (fun pre x post e=>by
  unfold z1Z
  rw[q3P (by rw[e];simp),show l.take pre.length=pre by rw[e];simp,k3O,bsS,← apply_ite some];rfl) l [] rfl]
 cases q5m (dupB id) [] l<;>rfl
def z5g (a:At_):Bool:=q9G a.Name&&(decide (1≤a.t__∧a.t__≤4)&&(decide (1≤a.Mode∧a.Mode≤3)&&if a.Mode=3 then decide (a.t__=2) && !a.Circular else !a.Circular||decide (a.t__=2)))
theorem k3P (a:At_):q8e a=some (z5g a):=by
 unfold q8e z5g z5Q
 rw[z4a,bsS]
 cases q9G a.Name with
 | false=>rfl
 | true=>
  rw[ifP rfl,z8R,bsS,bsS,bsS]
  by_cases h1:1≤a.t__∧a.t__≤4
  ·rw[decide_eq_true h1,Edz,ifN (by simp),z8R,bsS,bsS]
   by_cases h2:1≤a.Mode∧a.Mode≤3
   ·rw[decide_eq_true h2,Edz,ifN (by simp)]
    by_cases h3:a.Mode=3
    ·rw[ifP h3,ifP h3]
     by_cases h4:a.t__=2
     ·rw[ifP h4,decide_eq_true h4];simp
     ·rw[ifN h4,decide_eq_false h4];rfl
    ·rw[ifN h3,ifN h3]
     cases hc:a.Circular with
     | true=>rw[ifP rfl];simp
     | false=>rw[ifN (by simp)];simp
   ·rw[decide_eq_false h2];rfl
  ·rw[decide_eq_false h1];rfl
theorem k3Q (a:At_):q8l a=some (z5g a):=by
 unfold q8l z5g
 rw[z2m,bsS]
 cases q9G a.Name with
 | false=>rfl
 | true=>
  rw[ifP rfl,z3P,bsS,bsS]
  by_cases h1:1≤a.t__∧a.t__≤4
  ·rw[decide_eq_true h1,Edz,ifN (by simp),z3P,bsS,bsS]
   by_cases h2:1≤a.Mode∧a.Mode≤3
   ·rw[decide_eq_true h2,Edz,ifN (by simp)]
    by_cases h3:a.Mode=3
    ·rw[ifP h3,ifP h3]
     by_cases h4:a.t__=2
     ·rw[ifP h4,decide_eq_true h4]
      cases hc:a.Circular with
      | true=>rfl
      | false=>rfl
     ·rw[ifN h4,decide_eq_false h4];rfl
    ·rw[ifN h3,ifN h3]
     cases hc:a.Circular with
     | true=>simp
     | false=>simp
   ·rw[decide_eq_false h2];rfl
  ·rw[decide_eq_false h1];rfl
def symB (s:Symbol):Bool:=s.as_.all z5g&&(q9G s.Name&&(decide (s.as_.length≤4)&&j9F (fun a:At_=>a.Name) s.as_))
theorem k5X (s:Symbol):q9M s=some (symB s):=by
 unfold q9M symB
 rw[show findL (z0v s) 0 s.as_ ()=_ from z8b (bad:=fun p x=>!z5g x||dupB (fun a:At_=>a.Name) p x) (c:=fun _=>false) (all:=s.as_) (f:=z0v s) (fun pre x post e=>by
  unfold z0v
  rw[k3P,bsS]
  cases z5g x with
  | false=>rfl
  | true=>
   rw[ifP rfl,q3P (by rw[e];simp),show s.as_.take pre.length=pre by rw[e];simp]
   unfold q4q q4A
   rw[q5p (q:=fun o:At_=>decide (o.Name=x.Name)) fun k y hy=>by
    unfold q6r z0e
    rw[bsS]
    by_cases h:y.Name=x.Name
    ·rw[decide_eq_true h];rfl
    ·rw[decide_eq_false h];rfl]
   rw[bsS,← apply_ite some];rfl) s.as_ [] rfl]
 have hor:=k0K (a:=fun x:At_=>!z5g x) (b:=dupB (fun a:At_=>a.Name)) s.as_ []
 simp only[Bool.not_not] at hor
 have e2:(s.as_.all fun x=>z5g x)=s.as_.all z5g:=rfl
 unfold j9F
 rw[e2] at hor
 cases hb:q5m (fun p x=>!z5g x||dupB (fun a:At_=>a.Name) p x) [] s.as_ with
 | some k=>
  rw[hb] at hor
  show some false=_
  have:(s.as_.all z5g&&(q5m (dupB fun a:At_=>a.Name) [] s.as_).isNone)=false:=hor.symm
  congr 1
  cases h1:s.as_.all z5g with
  | false=>rfl
  | true=>rw[h1] at this;simp at this;simp[this]
 | none=>
  rw[hb] at hor
  have:(s.as_.all z5g&&(q5m (dupB fun a:At_=>a.Name) [] s.as_).isNone)=true:=hor.symm
  rw[Bool.and_eq_true] at this
  show ((q4Y s.Name).bind _)=_
  rw[z4a,bsS,this.1,this.2]
  cases q9G s.Name with
  | false=>rfl
  | true=>
   rw[ifP rfl,bsS]
   congr 1
   simp;omega
theorem k5Y {s:Symbol}(h:s.as_.length≤1048576):q9P s=some (symB s):=by
 unfold q9P symB
 have hloop:∀ (ys:List At_) (i:Nat) (t:List BA_),t.length+ys.length≤1048576→findL z0z i ys t=some (if ys.all z5g=true then .inl (t++ys.map fun a=>a.Name) else .inr false):=by
  intro ys
  induction ys with
  | nil=>intro i t _;simp[findL]
  | cons y ys ih=>
   intro i t ht
   simp only[lnC] at ht
   simp only[findL]
   have e:z0z i y t=some (if z5g y=true then .inl (t++[y.Name]) else .inr false):=by
    unfold z0z
    rw[k3Q,bsS]
    cases z5g y with
    | false=>rfl
    | true=>rw[ifP rfl,ifP rfl,q3P (by constructor<;>omega)]
   rw[e,bsS]
   by_cases hy:z5g y=true
   ·rw[ifP hy,show (y::ys).all z5g=ys.all z5g by simp[hy]]
    dsimp only
    rw[ih _ _ (by simp;omega)]
    simp
   ·rw[ifN hy,show (y::ys).all z5g=false by simp[hy]];rfl
 rw[hloop _ _ _ (by simpa using h)]
 cases hA:s.as_.all z5g with
 | false=>rfl
 | true=>
  rw[ifP rfl,bsS,z4p,Ebz,z2m,bsS]
  cases q9G s.Name with
  | false=>rfl
  | true=>
   rw[ifP rfl,bsS,lnM]
   by_cases hl:s.as_.length≤4
   ·rw[decide_eq_true (by omega:(s.as_.length:Int)≤4),ifP rfl,k2e,bsS,bsS,decide_eq_true hl]
    have:=j8f (nm:=fun a:At_=>a.Name) s.as_ []
    unfold j9F
    rw[List.map_nil] at this
    rw[this];rfl
   ·rw[decide_eq_false (by omega:¬ (s.as_.length:Int)≤4),ifN (by simp),decide_eq_false hl];rfl
theorem j0q {r:Rule}{q:Cn}(h:q∈r.cs_):Sz.szd q.Target≤Sz.szd r∧Sz.szd q.Value≤Sz.szd r:=by
 have h1:=j0j r
 have h2:=z7b q
 have h3:=z6O h
 have h4:=q7o q.Target
 have h5:=q7o q.Value
 omega
theorem z2R {g:Gm_}{r:Rule}(h:r∈g.rs_):Sz.szd r≤Sz.szd g:=by
 have h1:=z4V g
 have h3:=z6O h
 omega
theorem k7d {r:Rule}(h:Sz.szd r≤1048576):r.es_.length≤1048576∧r.cs_.length≤1048576:=by
 have h1:=j0j r
 have h2:=q8w r.es_
 have h3:=q8w r.cs_
 omega
def z0R (n:Int)(e:Expr):Bool:=allE (fun x=>decide (x.Pos≤n)) e
theorem j9G (n:Int)(e:Expr):∀ m,fuE e≤m→q8d m e n=some (z0R n e):=by
 induction e using z1f with
 | h e ih=>
  intro m hm
  obtain⟨m,rfl⟩:∃ q,m=q+1:=⟨m-1,by have:=z6l e;omega⟩
  show z0m (q8d m) e n=_
  unfold z0m
  rw[q4X (c:=false) (q:=z0R n) fun k x hx=>by
   unfold z0l
   rw[ih x hx m (by have:=z5p hx;omega),bsS]
   cases z0R n x<;>rfl]
  have e1:z0R n e=(decide (e.Pos≤n)&&e.Args.all (z0R n)):=by unfold z0R;rw[j0V]
  rw[e1,bsS]
  cases e.Args.all (z0R n) with
  | true=>rw[ifP rfl,z4p,Bool.and_true]
  | false=>rw[ifN (by simp),j0A,Eez]
theorem k2f (n:Int)(e:Expr):z6y e n=some (z0R n e):=z0K (fuE e) fun m hm=>j9G n e m hm
theorem j9H (n:Int)(e:Expr):∀ m,fuE e≤m→q7F m e n=some (z0R n e):=by
 induction e using z1f with
 | h e ih=>
  intro m hm
  obtain⟨m,rfl⟩:∃ q,m=q+1:=⟨m-1,by have:=z6l e;omega⟩
  show q7E (q7F m) e n=_
  unfold q7E q4w q4E z9L
  have e1:z0R n e=(decide (e.Pos≤n)&&e.Args.all (z0R n)):=by unfold z0R;rw[j0V]
  rw[bsS,e1]
  cases decide (e.Pos≤n) with
  | false=>rfl
  | true=>
   rw[ifP rfl,q5p (q:=fun x=>!z0R n x) fun k x hx=>by
    unfold q6y q8r
    rw[ih x hx m (by have:=z5p hx;omega),bsS,bsS]
    cases z0R n x<;>rfl]
   rw[Bool.true_and,← j3E];rfl
theorem k2g (n:Int)(e:Expr):z0L e n=some (z0R n e):=z0K (fuE e) fun m hm=>j9H n e m hm
def z5F (e:Expr)(n:Int):Bool:=j3F e&&z0R n e
theorem j6H {e:Expr}(h:Sz.szd e≤1048576)(n:Int):z8X e n=some (z5F e n):=by
 unfold z8X z5F
 have:=k6Y h
 rw[k3y (by omega),bsS]
 cases j3F e with
 | false=>rfl
 | true=>rw[ifP rfl,k2g];rfl
theorem j6I {e:Expr}(h:Sz.szd e≤1048576)(n:Int):z0U e n=some (z5F e n):=by
 unfold z0U z5F
 have:=k6Y h
 rw[j0n (by omega),bsS]
 cases j3F e with
 | false=>rfl
 | true=>rw[ifP rfl,k2f];rfl
def eqnB (n:Int)(q:Eqn):Bool:=z5F q.Expr n&&(q9G q.At.Name&&decide (0≤q.At.Pos∧q.At.Pos≤n))
def conB (n:Int)(q:Cn):Bool:=(z5F q.Target n&&z5F q.Value n)&&(q9G q.Symbol&&q9G q.Name)
def ruleB (r:Rule):Bool:=(q9G r.Name&&q9G r.Left)&&((decide (r.rt_.length≤3)&&decide (r.cs_.length≤2))&&(r.rt_.all q9G&&(r.es_.all (eqnB (r.rt_.length:Int))&&r.cs_.all (conB (r.rt_.length:Int)))))
theorem j8g {α β γ:Type}{p:α→Bool}{q:β→Bool}{t:γ→Bool}(xs:List α)(ys:List β)(zs:List γ) :
  ((some (if xs.all p=true then (.inl ():Unit ⊕ Bool) else .inr false)).bind <| onr (fun r1=>some r1) fun _=>
   (some (if ys.all q=true then (.inl ():Unit ⊕ Bool) else .inr false)).bind <| onr (fun r1=>some r1) fun _=>
   (some (if zs.all t=true then (.inl ():Unit ⊕ Bool) else .inr false)).bind <| onr (fun r1=>some r1) fun _=>some true)=some (xs.all p&&(ys.all q&&zs.all t)):=by
 cases xs.all p<;>cases ys.all q<;>cases zs.all t<;>rfl
theorem k3R {r:Rule}(h:Sz.szd r≤1048576):z0X r=some (ruleB r):=by
 unfold z0X ruleB
 rw[z4a,bsS]
 cases q9G r.Name with
 | false=>rfl
 | true=>
  rw[ifP rfl,z4a,bsS,bsS]
  cases q9G r.Left with
  | false=>rfl
  | true=>
   rw[Edz,ifN (by simp),bsS]
   by_cases h3:r.rt_.length≤3
   ·rw[decide_eq_true h3,decide_eq_false (by omega),ifN (by simp),bsS]
    by_cases h2:r.cs_.length≤2
    ·rw[decide_eq_true h2,decide_eq_false (by omega),ifN (by simp)]
     rw[q4X (c:=false) (q:=q9G) fun k x hx=>by
      unfold z7A;rw[z4a,bsS];cases q9G x<;>rfl]
     rw[q4X (c:=false) (q:=eqnB (r.rt_.length:Int)) fun k x hx=>by
      unfold z7B eqnB
      rw[j6H (Bgz (z9p hx) h),bsS]
      cases z5F x.Expr (r.rt_.length:Int) with
      | false=>rfl
      | true=>
       rw[ifP rfl,z4a,bsS,bsS]
       cases q9G x.At.Name with
       | false=>rfl
       | true=>
        rw[Edz,ifN (by simp),z8R,bsS,bsS]
        cases decide (0≤x.At.Pos∧x.At.Pos≤(r.rt_.length:Int))<;>rfl]
     rw[q4X (c:=false) (q:=conB (r.rt_.length:Int)) fun k x hx=>by
      have hs:=j0q hx
      unfold z7C conB
      rw[j6H (Bgz hs.1 h),bsS]
      cases z5F x.Target (r.rt_.length:Int) with
      | false=>rfl
      | true=>
       rw[ifP rfl,j6H (Bgz hs.2 h),bsS,bsS]
       cases z5F x.Value (r.rt_.length:Int) with
       | false=>rfl
       | true=>
        rw[Edz,ifN (by simp),z4a,bsS,bsS]
        cases q9G x.Symbol with
        | false=>rfl
        | true=>
         rw[Edz,ifN (by simp),z4a,bsS,bsS]
         cases q9G x.Name<;>rfl]
     exact j8g _ _ _
    ·rw[decide_eq_false h2,decide_eq_true (by omega)];rfl
   ·rw[decide_eq_false h3,decide_eq_true (by omega)];rfl
theorem k3S {r:Rule}(h:Sz.szd r≤1048576):z1a r=some (ruleB r):=by
 unfold z1a ruleB
 rw[z2m,bsS]
 cases q9G r.Name with
 | false=>rfl
 | true=>
  rw[ifP rfl,z2m,bsS,bsS]
  cases q9G r.Left with
  | false=>rfl
  | true=>
   rw[Edz,ifN (by simp),bsS]
   by_cases h3:r.rt_.length≤3
   ·rw[decide_eq_true h3,decide_eq_false (by omega),ifN (by simp),bsS]
    by_cases h2:r.cs_.length≤2
    ·rw[decide_eq_true h2,decide_eq_false (by omega),ifN (by simp)]
     rw[q4X (c:=false) (q:=q9G) fun k x hx=>by
      unfold z7I;rw[z2m,bsS];cases q9G x<;>rfl]
     rw[q4X (c:=false) (q:=eqnB (r.rt_.length:Int)) fun k x hx=>by
      unfold z7J eqnB
      rw[z2m,bsS]
      cases q9G x.At.Name with
      | false=>rw[Bool.false_and,Eez];rfl
      | true=>
       rw[ifP rfl,z3P,bsS,bsS]
       cases decide (0≤x.At.Pos∧x.At.Pos≤(r.rt_.length:Int)) with
       | false=>rw[Eez,Eez];rfl
       | true=>
        rw[Edz,ifN (by simp),j6I (Bgz (z9p hx) h),bsS,bsS]
        cases z5F x.Expr (r.rt_.length:Int)<;>rfl]
     rw[q4X (c:=false) (q:=conB (r.rt_.length:Int)) fun k x hx=>by
      have hs:=j0q hx
      unfold z7K conB
      rw[z2m,bsS]
      cases q9G x.Symbol with
      | false=>rw[Bool.false_and,Eez];rfl
      | true=>
       rw[ifP rfl,z2m,bsS,bsS]
       cases q9G x.Name with
       | false=>rw[Eez,Eez];rfl
       | true=>
        rw[Edz,ifN (by simp),j6I (Bgz hs.1 h),bsS,bsS]
        cases z5F x.Target (r.rt_.length:Int) with
        | false=>rfl
        | true=>
         rw[Edz,ifN (by simp),j6I (Bgz hs.2 h),bsS,bsS]
         cases z5F x.Value (r.rt_.length:Int)<;>rfl]
     exact j8g _ _ _
    ·rw[decide_eq_false h2,decide_eq_true (by omega)];rfl
   ·rw[decide_eq_false h3,decide_eq_true (by omega)];rfl
def z6q (p:List Symbol)(x:Symbol):Bool:=!symB x||dupB (fun y:Symbol=>y.Name) p x
def z2S (p:List Rule)(x:Rule):Bool:=!ruleB x||dupB (fun y:Rule=>y.Name) p x
def z8S (g:Gm_):Int:=match q5m z6q [] g.ss_ with
 | some k=>(k:Int)
 | none=>match q5m z2S [] g.rs_ with
  | some k=>(k:Int)
  | none=>-1
theorem k3T {g:Gm_}(h:Sz.szd g≤1048576):z1Q g=some (z8S g):=by
 unfold z1Q z8S
 rw[show findL (z3a g) 0 g.ss_ ()=_ from z8b (bad:=z6q) (c:=fun k=>(k:Int)) (all:=g.ss_) (f:=z3a g) (fun pre x post e=>by
  unfold z3a z6q
  rw[k5X,bsS]
  cases symB x with
  | false=>rfl
  | true=>
   rw[ifP rfl,q3P (by rw[e];simp),show g.ss_.take pre.length=pre by rw[e];simp]
   unfold q4P q5h
   rw[q5p (q:=fun o:Symbol=>decide (o.Name=x.Name)) fun k y hy=>by
    unfold q7c z1N
    rw[bsS]
    by_cases h:y.Name=x.Name
    ·rw[decide_eq_true h];rfl
    ·rw[decide_eq_false h];rfl]
   rw[bsS,← apply_ite some];rfl) g.ss_ [] rfl]
 rw[show findL (z3b g) 0 g.rs_ ()=_ from z8b (bad:=z2S) (c:=fun k=>(k:Int)) (all:=g.rs_) (f:=z3b g) (fun pre x post e=>by
  unfold z3b z2S
  rw[k3R (Bgz (z2R (by rw[e];simp)) h),bsS]
  cases ruleB x with
  | false=>rfl
  | true=>
   rw[ifP rfl,q3P (by rw[e];simp),show g.rs_.take pre.length=pre by rw[e];simp]
   unfold q4Z q5q
   rw[q5p (q:=fun o:Rule=>decide (o.Name=x.Name)) fun k y hy=>by
    unfold q7l z1P
    rw[bsS]
    by_cases h:y.Name=x.Name
    ·rw[decide_eq_true h];rfl
    ·rw[decide_eq_false h];rfl]
   rw[bsS,← apply_ite some];rfl) g.rs_ [] rfl]
 cases q5m z6q [] g.ss_ with
 | some k=>rfl
 | none=>cases q5m z2S [] g.rs_<;>rfl
theorem j9I {g:Gm_}(h:Sz.szd g≤1048576):g.ss_.length≤1048576∧g.rs_.length≤1048576:=by
 have h1:=z4V g
 have h2:=q8w g.ss_
 have h3:=q8w g.rs_
 omega
theorem k3U {g:Gm_}(h:Sz.szd g≤1048576):z7L g=some (z8S g):=by
 have hl:=j9I h
 unfold z7L z8S
 have h1:=(z6p (bad:=z6q) (nm:=fun y:Symbol=>y.Name) (c:=fun k=>(k:Int)) (all:=g.ss_) (f:=fun k x _=>some (if z6q (g.ss_.take k) x=true then .inr (k:Int) else .inl ())) (h:=z8r) (fun pre x post e=>by
   rw[show g.ss_.take pre.length=pre by rw[e];simp]) (fun pre x post e=>by
  unfold z8r z6q
  rw[k5Y (q9I h x (by rw[e];simp)),bsS]
  cases symB x with
  | false=>rfl
  | true=>
   have hp:pre.length≤1048576:=by
     have:g.ss_.length=pre.length+(post.length+1):=by rw[e];simp
     omega
   rw[ifP rfl,k3O,bsS,Ecz,q3P (by rw[lnM];constructor<;>omega),Djz,← apply_ite some];rfl) g.ss_ [] rfl).2
 have h2:=(z6p (bad:=z2S) (nm:=fun y:Rule=>y.Name) (c:=fun k=>(k:Int)) (all:=g.rs_) (f:=fun k x _=>some (if z2S (g.rs_.take k) x=true then .inr (k:Int) else .inl ())) (h:=z8s) (fun pre x post e=>by
   rw[show g.rs_.take pre.length=pre by rw[e];simp]) (fun pre x post e=>by
  unfold z8s z2S
  rw[k3S (Bgz (z2R (by rw[e];simp)) h),bsS]
  cases ruleB x with
  | false=>rfl
  | true=>
   have hp:pre.length≤1048576:=by
     have:g.rs_.length=pre.length+(post.length+1):=by rw[e];simp
     omega
   rw[ifP rfl,k3O,bsS,Ecz,q3P (by rw[lnM];constructor<;>omega),Djz,← apply_ite some];rfl) g.rs_ [] rfl).2
 rw[show findL z8r 0 g.ss_ []=_ from h1,show findL z8s 0 g.rs_ []=_ from h2]
 cases q5m z6q [] g.ss_ with
 | some k=>rfl
 | none=>cases q5m z2S [] g.rs_<;>rfl
end Go.Proofs.YtgkepiefcpfimaaGreatDoor
