/- What those partial functions come to: plain lemmas on data; each bears its conditions in its statement. -/
import Derived.Test.YteefempppabmkacGreatMathNAc
set_option linter.unusedVariables false
set_option linter.unusedSimpArgs false
set_option linter.ambiguousOpen false
set_option linter.unusedSectionVars false
set_option linter.unnecessarySimpa false
set_option linter.unusedVariables false
set_option linter.unusedSimpArgs false
namespace Go.Proofs.YteefempppabmkacGreat
open Go Go.E
theorem z6F {α ρ:Type}{c:ρ}{q:α→Bool}:∀ {xs:List α} {i:Nat} {f:Nat→α→Unit→Option (Unit ⊕ ρ)},(∀ k x,x∈xs→f k x ()=some (if q x=true then .inl () else .inr c))→q2u f i xs ()=some (if xs.all q=true then .inl () else .inr c)
 | [],i,f,_=>rfl
 | x :: xs,i,f,h=>by
  rw [q2u,h i x List.mem_cons_self,Option.bind_some]
  cases hq:q x with
  | true=>
   show q2u f (i+1) xs ()=_
   rw [z6F fun k y hy=>h k y (List.mem_cons_of_mem _ hy)]
   simp [hq]
  | false=>simp [hq]
theorem z4v {α:Type}{q:α→Bool}:∀ {xs:List α} {i:Nat} {f:Nat→α→Unit→Option (Unit ⊕ Int)},(∀ k x,x∈xs→f k x ()=some (if q x=true then .inr (k:Int) else .inl ())) →
  ∃ z:Int,(q2u f i xs ()).bind (onr (fun r1=>some r1) fun _=>some (-1))=some z∧decide (0≤z)=xs.any q
 | [],i,f,_=>⟨-1,rfl,rfl⟩
 | x :: xs,i,f,h=>by
  rw [q2u,h i x List.mem_cons_self,Option.bind_some]
  cases hq:q x with
  | true=>exact⟨(i:Int),rfl,by simp [hq]⟩
  | false=>
   obtain⟨z,h1,h2⟩:=z4v (xs:=xs) (i:=i+1) fun k y hy=>h k y (List.mem_cons_of_mem _ hy)
   exact⟨z,h1,by simp [hq,h2]⟩
theorem j2M {α ρ:Type}:∀ {xs:List α} {i:Nat} {f:Nat→α→Unit→Option (Unit ⊕ ρ)},(∀ k x,∃ z,f k x ()=some z)→∃ z,q2u f i xs ()=some z
 | [],i,f,_=>⟨_,rfl⟩
 | x :: xs,i,f,h=>by
  obtain⟨z,hz⟩:=h i x
  rw [q2u,hz,Option.bind_some]
  cases z with
  | inl u=>exact j2M (xs:=xs) (i:=i+1) h
  | inr r=>exact⟨_,rfl⟩
theorem z7r {α β:Type}{g:α→β}{B:Nat}{f:Nat→α→List β→Option (List β)}(hf:∀ k x s,s.length < B→f k x s=some (s++[g x])):∀ (xs:List α) (i:Nat) (s:List β),s.length+xs.length≤B→q2J f i xs s=some (s++xs.map g)
 | [],i,s,_=>by simp [q2J]
 | x :: xs,i,s,h=>by
  simp only [List.length_cons] at h
  rw [q2J,hf i x s (by omega),Option.bind_some,z7r hf xs (i+1) _ (by simp; omega)]
  simp
theorem j5H (g:Grammar)(n:ByteArray):q8h g n=q9I g n:=by
 have e:q3F n=z2p n:=by
  funext k x u
  unfold q3F z2p q8o
  rw [Option.bind_some]
  by_cases h:x.Name=n<;>simp [h]
 unfold q8h q3N q9I
 rw [e]
 exact Option.bind_fun_some _
theorem j0F (g:Grammar)(n:ByteArray):∃ k,q9I g n=some k:=by
 obtain⟨z,hz⟩:=j2M (xs:=g.Symbols) (i:=0) (f:=z2p n) fun k x=>by
  unfold z2p; by_cases h:x.Name=n
  ·exact⟨_,if_pos h⟩
  ·exact⟨_,if_neg h⟩
 unfold q9I
 rw [hz]
 cases z with
 | inl u=>exact⟨_,rfl⟩
 | inr r=>exact⟨_,rfl⟩
noncomputable def phS (g:Grammar) (ph:List (List Phase)) (n:ByteArray):List Phase:=(q6i g ph n).getD []
theorem j2N (g:Grammar)(ph:List (List Phase))(n:ByteArray):q6i g ph n=some (phS g ph n)∧(phS g ph n=[]∨phS g ph n∈ph):=by
 have:∃ p,q6i g ph n=some p∧(p=[]∨p∈ph):=by
  obtain⟨k,hk⟩:=j0F g n
  unfold q6i
  rw [hk,Option.bind_some,z1n,Option.bind_some]
  by_cases h:0≤k∧k≤(ph.length:Int) - 1
  ·rw [if_pos (by simpa using h),q2q h.1]
   obtain⟨x,hx⟩:∃ x,ph[k.toNat]? = some x:=⟨_,List.getElem?_eq_getElem (by omega)⟩
   rw [hx]
   exact⟨x,rfl,.inr (List.mem_of_getElem? hx)⟩
  ·rw [if_neg (by simpa using h)]
   exact⟨[],rfl,.inl rfl⟩
 obtain⟨p,h1,h2⟩:=this
 unfold phS
 rw [h1]
 exact⟨rfl,h2⟩
noncomputable def symS (r:Rule) (k:Int):ByteArray:=(q4a r k).getD ⟨#[]⟩
theorem k0M {r:Rule}(hl:r.Right.length≤1048576)(k:Int):q4a r k=some (symS r k):=by
 have:∃ x,q4a r k=some x:=by
  unfold q4a
  by_cases h0:k=0
  ·exact⟨_,if_pos h0⟩
  ·rw [if_neg h0,z1n,Option.bind_some]
   by_cases h:1≤k∧k≤(r.Right.length:Int)
   ·rw [if_pos (by simpa using h),q2q (by constructor<;>omega),q2q (by omega)]
    obtain⟨x,hx⟩:∃ x,r.Right[(k - 1).toNat]? = some x:=⟨_,List.getElem?_eq_getElem (by omega)⟩
    exact⟨x,by rw [hx]; rfl⟩
   ·exact⟨_,if_neg (by simpa using h)⟩
 obtain⟨x,hx⟩:=this
 unfold symS
 rw [hx]; rfl
theorem j7j (r:Rule):symS r 0=r.Left:=by unfold symS q4a; rw [if_pos rfl]; rfl
theorem j0G {r:Rule}(hl:r.Right.length≤1048576){k:Int}(h1:1≤k)(h2:k≤(r.Right.length:Int)):r.Right[(k - 1).toNat]? = some (symS r k):=by
 obtain⟨x,hx⟩:∃ x,r.Right[(k - 1).toNat]? = some x:=⟨_,List.getElem?_eq_getElem (by omega)⟩
 unfold symS q4a
 rw [if_neg (by omega),z1n,Option.bind_some,if_pos (by simp; omega),q2q (by constructor<;>omega),q2q (by omega),hx]; rfl
noncomputable def phP (g:Grammar) (ph:List (List Phase)) (r:Rule) (k:Int):List Phase:=phS g ph (symS r k)
theorem q9z {g:Grammar}{ph:List (List Phase)}{r:Rule}(hl:r.Right.length≤1048576)(due K:List Occurrence)(V:List Int)(k:Int):q5n ⟨g,ph,r,due,K,V⟩ k=some (phP g ph r k):=by
 unfold q5n
 dsimp only
 rw [j0x,k0M hl,Option.bind_some,j5H]
 have h:=(j2N g ph (symS r k)).1
 unfold q6i at h
 obtain⟨j,hj⟩:=j0F g (symS r k)
 rw [hj,Option.bind_some,z1n] at h
 rw [hj,Option.bind_some,z4Z]
 exact h
theorem z5D (k:Int)(o:visits):q5e k o=q5n o k:=rfl
theorem z6G (K:List Occurrence)(o:Occurrence):q4y K o=some (decide (o∈K)):=by
 unfold q4y
 have hany:=z8x (c:=true) (xs:=K) (i:=0) (p:=fun _ x=>x=o) (f:=z1D o) fun k x _=>by
  unfold z1D
  exact⟨fun h=>if_pos h,fun h=>if_neg h⟩
 by_cases h:o∈K
 ·obtain⟨j,hj,e⟩:=List.getElem_of_mem h
  rw [hany.1 ⟨j,o,by rw [List.getElem?_eq_getElem hj,e],rfl⟩,decide_eq_true h]; rfl
 ·rw [hany.2 fun k x hx e=>h (e▸List.mem_of_getElem? hx),decide_eq_false h]; rfl
theorem z6H (K:List Occurrence)(o:Occurrence):q2w K o=some (decide (o∈K)):=by
 unfold q2w q4U
 obtain⟨z,h1,h2⟩:=z4v (q:=fun x=>decide (x=o)) (xs:=K) (i:=0) (f:=q4E o) fun k x _=>by
  unfold q4E
  by_cases h:x=o
  ·rw [if_pos h.symm,decide_eq_true h,if_pos rfl]
  ·rw [if_neg (fun e=>h e.symm),decide_eq_false h,if_neg (by simp)]
 rw [h1,Option.bind_some,h2]
 congr 1
 by_cases h:o∈K
 ·rw [decide_eq_true h,List.any_eq_true]; exact⟨o,h,by simp⟩
 ·rw [decide_eq_false h]
  rw [List.any_eq_false]
  intro x hx e
  exact h (of_decide_eq_true e▸hx)
def z6I (K:List Occurrence)(pos:Int)(names:List ByteArray):Bool:=names.all fun n=>decide ((⟨pos,n⟩:Occurrence)∈K)
theorem j4d {α:Type}(q:α→Bool)(xs:List α):(!xs.any fun x=>!q x)=xs.all q:=by
 induction xs with
 | nil=>rfl
 | cons x xs ih=>simp only [List.any_cons,List.all_cons,← ih]; cases q x<;>simp
theorem j2O (z:l28Work)(pos:Int)(names:List ByteArray):q8q z pos names=some (z6I z.known pos names):=by
 unfold q8q z6I
 rw [z6F (c:=false) (q:=fun n=>decide ((⟨pos,n⟩:Occurrence)∈z.known)) fun k x _=>by
  unfold z7B
  rw [z6G,Option.bind_some]
  by_cases h:(⟨pos,x⟩:Occurrence)∈z.known<;>simp [h]]
 cases names.all fun n=>decide ((⟨pos,n⟩:Occurrence)∈z.known)<;>rfl
theorem j2P (v:visits)(pos:Int)(names:List ByteArray):q7J v pos names=some (z6I v.known pos names):=by
 unfold q7J q3t q3G
 obtain⟨z,h1,h2⟩:=z4v (q:=fun n=>!decide ((⟨pos,n⟩:Occurrence)∈v.known)) (xs:=names) (i:=0) (f:=q3C v pos) fun k x _=>by
  unfold q3C q9y
  rw [z6H,Option.bind_some,Option.bind_some]
  split<;>rfl
 rw [h1,Option.bind_some,h2,Option.bind_some,j4d]
 rfl
theorem z9I {z:l28Work}(pos:Int)(names:List ByteArray)(h:z.known.length+names.length≤4398046511104):q9q pos names z=some ⟨z.g,z.r,z.phases,z.known++names.map (fun n=>(⟨pos,n⟩:Occurrence)),z.visits,z.steps⟩:=by
 unfold q9q
 rw [z7r (g:=fun n=>(⟨pos,n⟩:Occurrence)) (B:=4398046511104) (fun k x s hs=>by
  unfold z7A; rw [q2q (by constructor<;>omega)]; rfl) names 0 z.known h]; rfl
theorem z9J {v:visits}(pos:Int)(names:List ByteArray)(h:v.known.length+names.length≤4398046511104):q6C pos names v=some ⟨v.g,v.phases,v.r,v.due,v.known++names.map (fun n=>(⟨pos,n⟩:Occurrence)),v.next⟩:=by
 unfold q6C
 rw [z7r (g:=fun n=>(⟨pos,n⟩:Occurrence)) (B:=4398046511104) (fun k x s hs=>by
  unfold z3o; rw [q2q (by constructor<;>omega)]) names 0 v.known h]; rfl
theorem j8Y {g:Grammar}{r:Rule}(h:∀ y∈g.Symbols,y.Attributes.length≤1048576)(hr:r.Right.length≤1048576):∃ l,q2y g r=some l∧q8r g r=some l:=
 ⟨_,j3T h hr,j3S h hr⟩
noncomputable def z3g (r:Rule) (K:List Occurrence) (o:Occurrence):Bool:=(eqAt r o).2&&(z8i (eqAt r o).1).all fun u=>decide (u∈K)
theorem j5I {z:l28Work}(h:Sz.szd z.r≤1048576)(o:Occurrence):z0b z o=some (z3g z.r z.known o):=by
 unfold z0b z3g
 rw [z8s h o,Option.bind_some]
 dsimp only
 rw [j4B (j6B h o),Option.bind_some,z6F (c:=false) (q:=fun u=>decide (u∈z.known)) fun k x _=>by
  unfold z6m
  rw [z6G,Option.bind_some]
  by_cases h:x∈z.known<;>simp [h]]
 cases (z8i (eqAt z.r o).1).all fun u=>decide (u∈z.known) with
 | true=>simp
 | false=>simp
theorem j5J {v:visits}(h:Sz.szd v.r≤1048576)(o:Occurrence):q7T v o=some (decide (o∈v.due)&&(!decide (o∈v.known)&&z3g v.r v.known o)):=by
 unfold q7T z3g
 rw [z6H,Option.bind_some]
 by_cases h1:o∈v.due
 ·rw [if_pos (by simpa using h1),z6H,Option.bind_some]
  by_cases h2:o∈v.known
  ·rw [if_pos (by simpa using h2)]; simp [h2]
  ·rw [if_neg (by simpa using h2),(k0q h o).2,Option.bind_some]
   dsimp only
   cases h3:(eqAt v.r o).2 with
   | false=>simp
   | true=>
    rw [if_pos rfl,j4A (j6B h o),Option.bind_some]
    unfold q2T q3i
    obtain⟨z,e1,e2⟩:=z4v (q:=fun u=>!decide (u∈v.known)) (xs:=z8i (eqAt v.r o).1) (i:=0) (f:=q3b v) fun k x _=>by
     unfold q3b q8u
     rw [z6H,Option.bind_some,Option.bind_some]
     split<;>rfl
    rw [e1,Option.bind_some,e2,Option.bind_some,j4d]
    simp [h1,h2]
 ·rw [if_neg (by simpa using h1)]; simp [h1]
end Go.Proofs.YteefempppabmkacGreat
