/- What those partial functions come to: plain lemmas on data; each bears its conditions in its statement. -/
import Derived.Test.YtmblndlpkpaobaaGreatLift
import Derived.Test.YtmblndlpkpaobaaGreatEngC
set_option linter.unusedVariables false
set_option linter.unusedSimpArgs false
set_option linter.ambiguousOpen false
set_option linter.unusedSectionVars false
set_option linter.unnecessarySimpa false
set_option linter.unusedVariables false
set_option linter.unusedSimpArgs false
namespace Go.Proofs.YtmblndlpkpaobaaGreat
open Go Go.E
theorem q5N {α ρ:Type}{p:α→Bool}{r:α→ρ}:∀ {xs:List α}{i:Nat}{f:Nat→α→Unit→Option (Unit ⊕ ρ)},(∀ k x,x∈xs→(p x=true→f k x ()=some (.inr (r x)))∧(p x=false→f k x ()=some (.inl ()))) →
  findL f i xs ()=some (match xs.find? p with | some x=>.inr (r x) | none=>.inl ())
 | [],_,_,_=>rfl
 | x :: xs,i,f,h=>by
  have h0:=h i x (by simp)
  cases hp:p x with
  | true=>simp [findL,h0.1 hp,List.find?,hp]
  | false=>
   have ih:=q5N (p:=p) (r:=r) (xs:=xs) (i:=i+1) (f:=f) fun k y hy=>h k y (by simp [hy])
   simp [findL,h0.2 hp,List.find?,hp,ih]
theorem q7s {α β:Type}{p:α→Bool}{g:Nat→α→β}{B:Nat}{f:Nat→α→List β→Option (List β)}(hf:∀ k x s,s.length < B→f k x s=some (if p x=true then s++[g k x] else s)):∀ (xs:List α)(i:Nat)(s:List β),s.length+xs.length≤B →
  ∃ ys,eachL f i xs s=some (s++ys)∧ys.length≤xs.length
 | [],i,s,_=>⟨[],by simp [eachL],by simp⟩
 | x :: xs,i,s,h=>by
  simp only [List.length_cons] at h
  by_cases hp:p x=true
  ·obtain⟨ys,h1,h2⟩:=q7s hf xs (i+1) (s++[g i x]) (by simp; omega)
   exact⟨g i x :: ys,by simp [eachL,hf i x s (by omega),hp,h1],by simp; omega⟩
  ·obtain⟨ys,h1,h2⟩:=q7s hf xs (i+1) s (by omega)
   exact⟨ys,by simp [eachL,hf i x s (by omega),hp,h1],by simp; omega⟩
theorem sIn_eq (x lo hi:Int):q2z x lo hi=some (decide (lo≤x∧x≤hi)):=by
 unfold q2z; split<;>simp_all<;>omega
theorem iIn_eq (x lo hi:Int):q0P x lo hi=some (decide (lo≤x∧x≤hi)):=by
 unfold q0P; split<;>simp_all<;>omega
theorem q9p (r:Rule)(k:Int):q4r r k=q1V r k:=by
 unfold q4r q1V; rw [sIn_eq,iIn_eq]
def z7T (a:Attribute):Bool:=decide (a.Mode=1∨a.Mode=2)
theorem z7k:q6Z=q3K:=rfl
theorem z5a {g:Grammar}(h:∀ y∈g.Symbols,y.Attributes.length≤1048576)(s:ByteArray):∃ y b,q1I g s=some (y,b)∧q1Y g s=some (y,b)∧y.Attributes.length≤1048576:=by
 have h1:=q5N (p:=fun y:Symbol=>decide (y.Name=s)) (r:=fun y=>(y,true)) (xs:=g.Symbols) (i:=0) (f:=q4M s) fun k y hy=>by
  have hg:q5i y=some y:=by
   unfold q5i; have:=h y hy; rw [q0d (by simp only [List.length_nil]; constructor<;>omega)]
  unfold q4M; rw [hg]; constructor<;>intro hp<;>simp_all
 have h2:=q5N (p:=fun y:Symbol=>decide (y.Name=s)) (r:=fun y=>(y,true)) (xs:=g.Symbols) (i:=0) (f:=q4O s) fun k y hy=>by
  unfold q4O; constructor<;>intro hp<;>simp_all
 unfold q1I q1Y
 rw [h1,h2]
 cases hf:g.Symbols.find? (fun y:Symbol=>decide (y.Name=s)) with
 | none=>exact⟨_,_,rfl,rfl,by simp⟩
 | some y=>exact⟨_,_,rfl,rfl,h y (List.mem_of_find?_eq_some hf)⟩
theorem z3B {g:Grammar}(h:∀ y∈g.Symbols,y.Attributes.length≤1048576)(s:ByteArray):∃ l,q4f g s=some l∧q4h g s=some l∧l.length≤1048576:=by
 obtain⟨y,b,h1,h2,h3⟩:=z5a h s
 obtain⟨l,h4,h5⟩:=q7s (p:=z7T) (g:=fun _ x=>x) (B:=1048577) (f:=q3K) (fun k x s hs=>by
  have hg:((s.length:Int)+1)*40≤140737488355328∧(s.length:Int)+1≤9223372036854775807:=by constructor<;>omega
  unfold q3K z7T
  rw [q0d hg]
  by_cases m1:x.Mode=1
  ·rw [if_pos m1,if_pos (by simp [m1])]; rfl
  ·rw [if_neg m1]
   by_cases m2:x.Mode=2
   ·rw [if_pos m2,if_pos (by simp [m2])]; rfl
   ·rw [if_neg m2,if_neg (by simp [m1,m2])]; rfl) y.Attributes 0 [] (by simp; omega)
 simp only [List.nil_append] at h4
 refine⟨l,?_,?_,by omega⟩
 ·unfold q4f; rw [h1]; dsimp only [Option.bind_some]; rw [h4]; rfl
 ·unfold q4h; rw [h2]; dsimp only [Option.bind_some]; rw [z7k,h4]; rfl
theorem z1b (r:Rule)(k:Nat)(hk:k≤r.Right.length)(hl:r.Right.length≤1048576):∃ x,q1V r (k:Int)=some x:=by
 unfold q1V
 by_cases h0:(k:Int)=0
 ·exact⟨_,if_pos h0⟩
 ·rw [if_neg h0,sIn_eq,Option.bind_some,if_pos (by simp; omega),q0d (by constructor<;>omega),q0d (by omega)]
  obtain⟨x,hx⟩:∃ x,r.Right[((k:Int) - 1).toNat]? = some x:=⟨_,List.getElem?_eq_getElem (by omega)⟩
  exact⟨x,by rw [hx]; rfl⟩
theorem z7U (k:Nat)(B:Nat)(hB:B≤4398046511104):∀ (l:List Attribute)(i:Nat)(s:List Occurrence),s.length+l.length≤B→∃ ys,eachL (q1O k) i l s=some (s++ys)∧ys.length≤l.length:=fun l i s h=>
 q7s (p:=fun _=>true) (g:=fun _ x=>(⟨(k:Int),x.Name⟩:Occurrence)) (B:=B) (f:=q1O k) (fun j x s hs=>by
  have hg:((s.length:Int)+1)*24≤140737488355328∧(s.length:Int)+1≤9223372036854775807:=by constructor<;>omega
  unfold q1O
  rw [q0d hg,if_pos rfl]) l i s h
theorem z8Q (k:Nat):q7H (k:Int)=q1O k:=rfl
theorem z8R {g:Grammar}{r:Rule}(h:∀ y∈g.Symbols,y.Attributes.length≤1048576)(hr:r.Right.length≤1048576):∃ l,q4X g r=some l∧q3k g r=some l∧l.length≤1099512676352:=by
 have key:∀ m k (s:List Occurrence),k+m=r.Right.length+1→s.length≤k*1048576→∃ l,eachN (q1v g r) k m s=some l∧iterO (q2V g r) (s,(k:Int))=some l∧l.length≤(k+m)*1048576:=by
  intro m
  induction m with
  | zero=>
   intro k s hk hs
   refine⟨s,rfl,q1t ?_,by simpa using hs⟩
   unfold q2V; dsimp only; rw [if_neg (by omega)]
  | succ m ih=>
   intro k s hk hs
   obtain⟨x,hx⟩:=z1b r k (by omega) hr
   obtain⟨p,hp1,hp2,hp3⟩:=z3B h x
   obtain⟨ys,hy1,hy2⟩:=z7U k 4398046511104 (by omega) p 0 s (by omega)
   obtain⟨l,h1,h2,h3⟩:=ih (k+1) (s++ys) (by omega) (by simp; omega)
   refine⟨l,?_,?_,by rw [show k+(m+1)=k+1+m by omega]; exact h3⟩
   ·have e:q1v g r k s=some (s++ys):=by
     unfold q1v; rw [q9p,hx,Option.bind_some,hp2,Option.bind_some,hy1]; rfl
    simp only [eachN,e,Option.bind_some]; exact h1
   ·have e:q2V g r (s,(k:Int))=some (.inl (s++ys,((k+1:Nat):Int))):=by
     unfold q2V; dsimp only
     rw [if_pos (by omega),hx,Option.bind_some,hp1,Option.bind_some,z8Q,hy1,Option.bind_some,q0d (by constructor<;>omega)]; rfl
    rw [q2b e]; exact h2
 obtain⟨l,h1,h2,h3⟩:=key (r.Right.length+1) 0 [] (by omega) (by simp)
 refine⟨l,?_,?_,by omega⟩
 ·unfold q4X
  have e:iterO (q2V g r) (([]:List Occurrence),0)=some l:=h2
  rw [e]; rfl
 ·unfold q3k
  rw [q0d (by constructor<;>omega),h1]; rfl
theorem z7V {α:Type} [Sz α]{x:α}:∀ {l:List α},x∈l→Sz.szd x≤szL l
 | [],h=>by simp at h
 | y :: l,h=>by
  rcases List.mem_cons.1 h with rfl | h
  ·simp only [szL]; omega
  ·have:=z7V h; simp only [szL]; omega
theorem q9T {g:Grammar}(h:Sz.szd g≤1048576):∀ y∈g.Symbols,y.Attributes.length≤1048576:=fun y hy=>by
 have h1:=z7V hy
 have h2:=q9e y
 have h3:=q5e g
 have h4:=q0O y.Attributes
 omega
theorem q4i {r:Rule}(h:Sz.szd r≤1048576):r.Right.length≤1048576:=by
 have h1:=q7W r
 have h2:=q0O r.Right
 omega
end Go.Proofs.YtmblndlpkpaobaaGreat
