/- What those partial functions come to: plain lemmas on data; each bears its conditions in its statement. -/
import Derived.Test.YtmblndlpkpaobabGreatMathM4a
import Derived.Test.YtmblndlpkpaobabGreatMathMUa
set_option linter.unusedVariables false
set_option linter.unusedSimpArgs false
set_option linter.ambiguousOpen false
set_option linter.unusedSectionVars false
set_option linter.unnecessarySimpa false
set_option linter.unusedVariables false
set_option linter.unusedSimpArgs false
namespace Go.Proofs.YtmblndlpkpaobabGreat
open Go Go.E
theorem j9Y:∀ (n:Nat) (e q:Expr),q5I n e=some q→q5I (n+1) e=some q:=by
 intro n
 induction n with
 | zero=>intro e q h; cases h
 | succ n ih=>
  intro e q h
  have h' : z0b (q5I n) e=some q:=h
  show z0b (q5I (n+1)) e=some q
  unfold z0b at h' ⊢
  obtain⟨s,h1,h2⟩:=bd h'
  rw [z7c (g:=q9n (q5I (n+1))) (fun k x s q hq=>by
   unfold q9n at hq ⊢
   obtain⟨y,h3,h4⟩:=bd hq
   rw [ih _ _ h3,Option.bind_some]; exact h4) _ _ _ _ h1]
  exact h2
theorem j5g:∀ (m:Nat) (e:Expr),fuE e≤m→Sz.szd e≤1048576→q5I m e=some e:=by
 intro m
 induction m with
 | zero=>intro e h; rw [z1T] at h; omega
 | succ m ih=>
  intro e h hs
  rw [z1T] at h
  have hl:∀ (l:List Expr) (i:Nat) (s:List Expr),(∀ x∈l,fuE x≤m∧Sz.szd x≤1048576)→s.length+l.length≤4398046511→q2G (q9n (q5I m)) i l s=some (s++l):=by
   intro l
   induction l with
   | nil=>intro i s _ _; simp [q2G]
   | cons x l ihl=>
    intro i s hx hb
    simp only [List.length_cons] at hb
    have h1:=ih x (hx x (by simp)).1 (hx x (by simp)).2
    have e1:q9n (q5I m) i x s=some (s++[x]):=by
     unfold q9n; rw [h1,Option.bind_some,q2B (by constructor<;>omega)]
    simp only [q2G,e1,Option.bind_some]
    rw [ihl _ _ (fun y hy=>hx y (by simp [hy])) (by simp; omega)]; simp
  show z0b (q5I m) e=some e
  unfold z0b
  have h2:=q7o e
  have h3:=q4n e.Args
  rw [hl e.Args 0 [] (fun x hx=>⟨by have:=z4J hx; omega,by have:=j6h hx; omega⟩) (by simp; omega),List.nil_append,Option.bind_some]
  cases e; rfl
theorem j9Z {e:Expr}(h:Sz.szd e≤1048576):z5Z e=some e:=j6k (fun n q=>j9Y n e q) (j5g _ e (Nat.le_refl _) h)
theorem j5h:z5o=z5Z:=by
 have h:∀ n,q9A n=q5I n:=by
  intro n
  induction n with
  | zero=>rfl
  | succ n ih=>funext e; show z5n (q9A n) e=z0b (q5I n) e; rw [ih]; rfl
 funext e
 show recO (fun n=>q9A n e)=recO fun n=>q5I n e
 congr 1; funext n; rw [h]
def j3q:Expr:=⟨0,0,0,0,⟨#[]⟩,⟨#[]⟩,[]⟩
def eqAt (r:Rule)(o:Occurrence):Expr × Bool:=match r.Equations.find? fun q=>decide (q.At=o) with
 | some q=>(q.Expr,true)
 | none=>(j3q,false)
theorem z5A {r:Rule}{q:Equation}(h:q∈r.Equations):Sz.szd q.Expr≤Sz.szd r:=by
 have h1:=z4y r
 have h2:=z3H q
 have h3:=z0M h
 have h4:=q7o q.Expr
 omega
theorem k0a {r:Rule}(h:Sz.szd r≤1048576)(o:Occurrence):Sz.szd (eqAt r o).1≤1048576:=by
 unfold eqAt
 cases hf:r.Equations.find? (fun q=>decide (q.At=o)) with
 | none=>show Sz.szd j3q≤_; have:Sz.szd j3q=0:=rfl; omega
 | some q=>have:=z5A (List.mem_of_find?_eq_some hf); show Sz.szd q.Expr≤_; omega
theorem j1h {r:Rule}(h:Sz.szd r≤1048576)(o:Occurrence):q4O r o=some (eqAt r o):=by
 have key:∀ (l:List Equation) (i:Nat),(∀ q∈l,Sz.szd q.Expr≤1048576)→q2I (q5S o) i l ()=some (match l.find? fun q=>decide (q.At=o) with
   | some q=>.inr (q.Expr,true)
   | none=>.inl ()):=by
  intro l
  induction l with
  | nil=>intro i _; rfl
  | cons q l ih=>
   intro i hq
   by_cases hp:q.At=o
   ·simp [q2I,q5S,hp,j9Z (hq q (by simp))]
   ·simp [q2I,q5S,hp]
    exact ih _ fun y hy=>hq y (by simp [hy])
 unfold q4O eqAt
 rw [key _ _ fun q hq=>by have:=z5A hq; omega]
 cases r.Equations.find? (fun q=>decide (q.At=o))<;>rfl
theorem k0b {r:Rule}(h:Sz.szd r≤1048576)(o:Occurrence):q4O r o=some (eqAt r o)∧q7C r o=some (eqAt r o):=by
 have e:q7C=q4O:=by
  have e1:z0n=q5S:=by funext a k x u; unfold z0n q5S; rw [j5h]
  funext r o; unfold q7C q4O; rw [e1]
 rw [e]
 exact⟨j1h h o,j1h h o⟩
theorem j5i:q7p=q5t:=by
 funext l o
 unfold q7p q5t q3n
 have e:q8t o=q3d o:=by
  funext k x u
  unfold q8t q3d
  by_cases h:x=o
  ·rw [if_pos h,if_pos h.symm]
  ·rw [if_neg h,if_neg fun e=>h e.symm]
 rw [e]
 cases ((q2I (q3d o) 0 l ()).bind <| onr (fun r1=>some r1) fun _=>some (-1))<;>rfl
theorem j5j (l:List Occurrence)(o:Occurrence):∃ k,q5t l o=some k:=by
 have h:q3n l o=some (ixF l o):=by
  unfold q3n
  refine j5G fun k x=>⟨fun e=>?_,fun e=>?_⟩
  ·unfold q3d; rw [if_pos e.symm]
  ·unfold q3d; rw [if_neg (fun h=>e h.symm)]
 exact⟨_,by unfold q5t; rw [h]; rfl⟩
theorem k3D {r x:Relation}{i k:Int}(h:q5U r i k=some x):x.N=r.N:=by
 unfold q5U at h
 obtain⟨y,h1,h⟩:=bd h
 have hy:y=r:=by unfold q7J at h1; obtain⟨_,h1⟩:=z4w h1; exact (Option.some.inj h1).symm
 subst hy
 obtain⟨y2,_,h⟩:=bd h
 obtain⟨s1,_,h⟩:=bd h
 obtain⟨s2,_,h⟩:=bd h
 by_cases hs:s2=true
 ·rw [if_pos hs] at h
  obtain⟨_,h⟩:=z4w h
  obtain⟨_,_,h⟩:=bd h
  obtain⟨_,h⟩:=z4w h
  obtain⟨_,h⟩:=z4w h
  obtain⟨_,h⟩:=z4w h
  cases h; rfl
 ·rw [if_neg hs] at h
  cases h; rfl
theorem j7V (l:List Occurrence)(k:Nat):∀ (us:List Occurrence) (i:Nat) (rows:List Int) (n:Int),rows.length≤1048576 →
  ∃ rows',q2G (q7O l k) i us (rows,n)=some (rows',n)∧q2G (q6q l (k:Int)) i us (rows,n)=some (rows',n)∧rows'.length=rows.length:=by
 intro us
 induction us with
 | nil=>intro i rows n _; exact⟨rows,rfl,rfl,rfl⟩
 | cons u us ih=>
  intro i rows n h
  obtain⟨j,hj⟩:=j5j l u
  obtain⟨x,hx,hxl⟩:=j3U (r:=⟨n,rows⟩) h j (k:Int)
  have hN:=k3D hx
  obtain⟨rows',h1,h2,h3⟩:=ih (i+1) x.Rows n (by rw [hxl]; exact h)
  have e1:q7O l k i u (rows,n)=some (x.Rows,n):=by
   unfold q7O
   dsimp only
   rw [hj,Option.bind_some,j1f,hx,Option.bind_some,hN]
  have e2:q6q l (k:Int) i u (rows,n)=some (x.Rows,n):=by
   unfold q6q
   dsimp only
   rw [j5i,hj,Option.bind_some,hx,Option.bind_some,hN]
  exact⟨rows',by simp only [q2G,e1,Option.bind_some]; exact h1,by simp only [q2G,e2,Option.bind_some]; exact h2,h3.trans hxl⟩
theorem j5k:attrs j3q=[]:=by
 have:z2H j3q=[]:=by simp [j3q,z2H,q9d]
 unfold attrs z8o
 rw [this]; simp [q3I]
theorem j6m {r:Rule}(hr:Sz.szd r≤1048576)(l:List Occurrence)(hl:l.length≤16):∀ (m k:Nat) (rows:List Int) (n:Int),k+m=l.length→0 < n→rows.length≤1048576 →
  ∃ rows',q2G (q7P r l) k (l.drop k) (rows,n)=some (rows',n)∧q5u (q3K r l) ((k:Int),rows,n)=some (rows',n)∧rows'.length=rows.length:=by
 intro m
 induction m with
 | zero=>
  intro k rows n hk hn h
  refine⟨rows,by rw [List.drop_eq_nil_of_le (by omega)]; rfl,q2X ?_,rfl⟩
  unfold q3K
  dsimp only
  rw [if_neg (by omega)]
 | succ m ih=>
  intro k rows n hk hn h
  obtain⟨x,hx⟩:∃ x,l[k]? = some x:=⟨_,List.getElem?_eq_getElem (by omega)⟩
  have hd:l.drop k=x :: l.drop (k+1):=by
   rw [List.drop_eq_getElem_cons (by omega)]
   have:l[k]=x:=by rw [List.getElem?_eq_getElem (by omega)] at hx; exact Option.some.inj hx
   rw [this]
  obtain⟨E,B,hq⟩:∃ E B,eqAt r x=(E,B):=⟨_,_,rfl⟩
  obtain⟨rows1,h1,h2,h3⟩:=j7V l k (attrs E) 0 rows n h
  obtain⟨rows',k1,k2,k3⟩:=ih (k+1) rows1 n (by omega) hn (by omega)
  have hsz:=k0a hr x
  have hf:=k0b hr x
  rw [hq] at hsz hf
  have e1:q7P r l k x (rows,n)=some (rows1,n):=by
   unfold q7P
   dsimp only
   rw [hf.2,Option.bind_some]
   dsimp only
   rw [j3Z hsz,Option.bind_some,h1]; rfl
  have hin:(grd (0≤(k:Int)) <| (l[(k:Int).toNat]?).bind fun x1=>(q4O r x1).bind fun (y3,y4)=>if y4=true then ((q5T y3).bind fun y5=>(q2G (q6q l (k:Int)) 0 y5 (rows,n)).bind fun (s8,s9)=>some (s8,s9)) else some (rows,n))=some (rows1,n):=by
   rw [q2B (by omega),Int.toNat_natCast,hx,Option.bind_some,hf.1,Option.bind_some]
   dsimp only
   cases hb:B with
   | true=>rw [if_pos rfl,j4a hsz,Option.bind_some,h2,Option.bind_some]
   | false=>
    have hz:E=j3q:=by
     unfold eqAt at hq
     cases hf:r.Equations.find? (fun q=>decide (q.At=x)) with
     | none=>rw [hf] at hq; cases hq; rfl
     | some q=>rw [hf] at hq; cases hq; cases hb
    rw [hz,j5k] at h1
    simp only [q2G,Option.some.injEq,Prod.mk.injEq] at h1
    rw [if_neg (by simp),h1.1]
  have e2:q3K r l ((k:Int),rows,n)=some (.inl (((k+1:Nat):Int),rows1,n)):=by
   unfold q3K
   dsimp only
   rw [if_pos (by omega),if_pos hn,hin,Option.bind_some]
   dsimp only
   rw [q2B (by constructor<;>omega)]; rfl
  exact⟨rows',by rw [hd]; simp only [q2G,e1,Option.bind_some]; exact k1,by rw [q3V e2]; exact k2,k3.trans h3⟩
theorem j5l {g:Grammar}{r:Rule}(h:Sz.szd g≤1048576)(hr:Sz.szd r≤1048576):∃ x,q5V g r=some x∧q6Z g r=some x∧x.Rows.length≤16:=by
 obtain⟨l,h1,h2,_⟩:=z8e (z2h h) (q6R hr)
 have hem:∀ n:Nat,q3p (n:Int)=if n≤16 then some ⟨(n:Int),List.replicate n 0⟩ else some ⟨0,[]⟩:=fun n=>by
  unfold q3p
  rw [q9c,Option.bind_some]
  by_cases hn:n≤16
  ·rw [if_pos (by simp; omega),q2B (by omega),if_pos hn]; rfl
  ·rw [if_neg (by simp; omega),if_neg hn]
 unfold q5V q6Z
 rw [h1,h2,Option.bind_some,Option.bind_some,z7a,hem]
 by_cases hl:l.length≤16
 ·rw [if_pos hl,Option.bind_some,Option.bind_some,if_neg (by omega)]
  dsimp only
  by_cases h0:l.length=0
  ·have:l=[]:=List.eq_nil_of_length_eq_zero h0
   subst this
   have e:q5u (q3K r ([]:List Occurrence)) (0,List.replicate ([]:List Occurrence).length 0,((([]:List Occurrence).length:Nat):Int))=some (List.replicate ([]:List Occurrence).length 0,((([]:List Occurrence).length:Nat):Int)):=q2X (by unfold q3K; dsimp only; rw [if_neg (by simp)])
   rw [e]
   exact⟨_,rfl,rfl,by simp⟩
  ·obtain⟨rows',k1,k2,k3⟩:=j6m hr l hl l.length 0 (List.replicate l.length 0) (l.length:Int) (by omega) (by omega) (by simp; omega)
   have k2' : q5u (q3K r l) (0,List.replicate l.length 0,(l.length:Int))=some (rows',(l.length:Int)):=k2
   rw [List.drop_zero] at k1
   rw [k1,k2']
   exact⟨_,rfl,rfl,by show rows'.length≤16; simp at k3; omega⟩
 ·rw [if_neg hl,Option.bind_some,Option.bind_some,if_pos (by omega)]
  have e:q5u (q3K r l) (0,([]:List Int),(0:Int))=some ([],0):=q2X (by unfold q3K; dsimp only; rw [if_pos (by omega),if_neg (by omega)])
  rw [e]
  exact⟨_,rfl,rfl,by simp⟩
end Go.Proofs.YtmblndlpkpaobabGreat
