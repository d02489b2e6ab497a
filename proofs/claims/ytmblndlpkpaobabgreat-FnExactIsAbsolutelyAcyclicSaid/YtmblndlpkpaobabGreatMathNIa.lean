/- What those partial functions come to: plain lemmas on data; each bears its conditions in its statement. -/
import Derived.Test.YtmblndlpkpaobabGreatMathNHa
set_option linter.unusedVariables false
set_option linter.unusedSimpArgs false
set_option linter.ambiguousOpen false
set_option linter.unusedSectionVars false
set_option linter.unnecessarySimpa false
set_option linter.unusedVariables false
set_option linter.unusedSimpArgs false
namespace Go.Proofs.YtmblndlpkpaobabGreat
open Go Go.E
theorem j2p {n:Nat}{h:Nat→Int→Int}{f:Nat→List Int→Option (List Int)}(hf:∀ k s,k < n→s.length=n→f k s=some (s.set k (h k (s.getD k 0)))) :
  ∀ (m k:Nat) (s:List Int),k+m=n→s.length=n→q7u f k m s=some (s.mapIdx fun j x=>if k≤j then h j x else x)
 | 0,k,s,hk,hs=>by
  show some s=_
  congr 1
  symm
  apply List.ext_getElem?
  intro j
  rw [List.getElem?_mapIdx]
  cases hj:s[j]? with
  | none=>rfl
  | some x=>
   have:=(List.getElem?_eq_some_iff.1 hj).1
   rw [Option.map_some,if_neg (by omega)]
 | m+1,k,s,hk,hs=>by
  rw [q7u,hf k s (by omega) hs,Option.bind_some,j2p hf m (k+1) _ (by omega) (by simpa using hs)]
  congr 1
  apply List.ext_getElem?
  intro j
  rw [List.getElem?_mapIdx,List.getElem?_mapIdx,List.getElem?_set]
  by_cases hj:k=j
  ·subst hj
   have hk' : k < s.length:=by omega
   rw [if_pos rfl,if_pos hk',List.getElem?_eq_getElem hk',List.getD_eq_getElem?_getD,List.getElem?_eq_getElem hk',Option.map_some,Option.map_some,if_neg (by omega),if_pos (Nat.le_refl _)]
   rfl
  ·rw [if_neg hj]
   cases hx:s[j]? with
   | none=>rfl
   | some x=>
    rw [Option.map_some,Option.map_some]
    by_cases h1:k+1≤j
    ·rw [if_pos h1,if_pos (by omega)]
    ·rw [if_neg h1,if_neg (by omega)]
def uniR (a b:Relation):Relation:=if Valid a∧Valid b∧a.N=b.N then ⟨a.N,a.Rows.mapIdx fun j x=>orI x (b.Rows.getD j 0)⟩ else a
theorem j5v {b:Relation}(h:Valid b)(k:Nat):0≤b.Rows.getD k 0:=by
 rw [List.getD_eq_getElem?_getD]
 cases hx:b.Rows[k]? with
 | none=>simp
 | some x=>exact (h.2.2.2 x (List.mem_of_getElem? hx)).1
theorem j4l {a b:Relation}(ha:Valid a)(hb:Valid b)(hN:a.N=b.N){f:Nat→List Int→Option (List Int)}(hf:f=q5F b):q7u f 0 a.Rows.length a.Rows=some (a.Rows.mapIdx fun j x=>orI x (b.Rows.getD j 0)):=by
 subst hf
 have hl:a.Rows.length=b.Rows.length:=by have:=ha.2.2.1; have:=hb.2.2.1; omega
 -- all rows stay at least 0
 have key:∀ (m k:Nat) (s:List Int),k+m=a.Rows.length→s.length=a.Rows.length→(∀ x∈s,0≤x)→q7u (q5F b) k m s=q7u (fun k s=>some (s.set k (orI (s.getD k 0) (b.Rows.getD k 0)))) k m s:=by
  intro m
  induction m with
  | zero=>intro k s _ _ _; rfl
  | succ m ih=>
   intro k s hk hs h0
   have e:q5F b k s=some (s.set k (orI (s.getD k 0) (b.Rows.getD k 0))):=by
    have hx:0≤s.getD k 0:=by
     rw [List.getD_eq_getElem?_getD,List.getElem?_eq_getElem (by omega:k < s.length)]
     exact h0 _ (List.getElem_mem _)
    unfold q5F
    rw [getD_some (by omega),Option.bind_some,getD_some (by omega),Option.bind_some]
    exact q2B ⟨hx,j5v hb k⟩
   rw [q7u,q7u,e,Option.bind_some,Option.bind_some]
   refine ih (k+1) _ (by omega) (by simpa using hs) fun x hx=>?_
   rcases List.mem_or_eq_of_mem_set hx with h | rfl
   ·exact h0 x h
   ·unfold orI; omega
 rw [key _ 0 a.Rows (by omega) rfl (fun x hx=>(ha.2.2.2 x hx).1),j2p (h:=fun k x=>orI x (b.Rows.getD k 0)) (n:=a.Rows.length) (fun k s _ _=>rfl) _ 0 a.Rows (by omega) rfl]
 simp
theorem k0v {a:Relation}(h:a.Rows.length≤1048576)(b:Relation):q8i a b=some (uniR a b):=by
 unfold q8i uniR
 rw [z2G h,Option.bind_some,q6g,Option.bind_some]
 by_cases ha:Valid a
 ·rw [decide_eq_true ha,if_pos rfl,q6g,Option.bind_some,Option.bind_some]
  by_cases hb:Valid b
  ·rw [decide_eq_true hb,Bool.not_true,if_neg (by simp),Option.bind_some]
   by_cases hN:a.N=b.N
   ·rw [decide_eq_true hN,Bool.not_true,if_neg (by simp),if_pos ⟨ha,hb,hN⟩,show a.N.toNat=a.Rows.length by have:=ha.2.2.1; omega,j4l ha hb hN rfl]; rfl
   ·rw [decide_eq_false hN,Bool.not_false,if_pos rfl,if_neg fun hh=>hN hh.2.2]
  ·have hz:(if Valid a∧Valid b∧a.N=b.N then (⟨a.N,a.Rows.mapIdx fun j x=>orI x (b.Rows.getD j 0)⟩:Relation) else a)=a:=if_neg fun hh=>hb hh.2.1
   rw [hz,decide_eq_false hb]; rfl
 ·have hz:(if Valid a∧Valid b∧a.N=b.N then (⟨a.N,a.Rows.mapIdx fun j x=>orI x (b.Rows.getD j 0)⟩:Relation) else a)=a:=if_neg fun hh=>ha hh.1
  rw [hz,decide_eq_false ha]; rfl
theorem j6V (b:Relation):z2B b=q5F b:=rfl
theorem k0w {a:Relation}(h:a.Rows.length≤1048576)(b:Relation):q8n a b=some (uniR a b):=by
 unfold q8n uniR
 rw [z9e,z2G h,Option.bind_some,z1z,Option.bind_some]
 by_cases ha:Valid a
 ·rw [decide_eq_true ha,if_pos rfl,z1z,Option.bind_some,Option.bind_some]
  by_cases hb:Valid b
  ·rw [decide_eq_true hb,if_pos rfl,Option.bind_some]
   by_cases hN:a.N=b.N
   ·rw [if_pos (by simpa using hN),if_pos ⟨ha,hb,hN⟩,j6V,j4l ha hb hN rfl]; rfl
   ·rw [if_neg (by simpa using hN),if_neg fun hh=>hN hh.2.2]
  ·have hz:(if Valid a∧Valid b∧a.N=b.N then (⟨a.N,a.Rows.mapIdx fun j x=>orI x (b.Rows.getD j 0)⟩:Relation) else a)=a:=if_neg fun hh=>hb hh.2.1
   rw [hz,decide_eq_false hb]; rfl
 ·have hz:(if Valid a∧Valid b∧a.N=b.N then (⟨a.N,a.Rows.mapIdx fun j x=>orI x (b.Rows.getD j 0)⟩:Relation) else a)=a:=if_neg fun hh=>ha hh.1
  rw [hz,decide_eq_false ha]; rfl
theorem k1D {n:Nat}{x y:Int}(hx:0≤x∧x≤((2 ^ n:Nat):Int) - 1)(hy:0≤y∧y≤((2 ^ n:Nat):Int) - 1):0≤orI x y∧orI x y≤((2 ^ n:Nat):Int) - 1:=by
 have:=Nat.or_lt_two_pow (n:=n) (x:=x.toNat) (y:=y.toNat) (by omega) (by omega)
 unfold orI; omega
theorem j6W {a b:Relation}(ha:Valid a):Valid (uniR a b)∧(uniR a b).N=a.N:=by
 unfold uniR
 by_cases h:Valid a∧Valid b∧a.N=b.N
 ·rw [if_pos h]
  refine⟨⟨ha.1,ha.2.1,by simpa using ha.2.2.1,fun x hx=>?_⟩,rfl⟩
  obtain⟨j,hj⟩:=List.getElem?_of_mem hx
  rw [List.getElem?_mapIdx] at hj
  cases hy:a.Rows[j]? with
  | none=>rw [hy] at hj; cases hj
  | some y=>
   rw [hy] at hj
   cases hj
   have hyv:=ha.2.2.2 y (List.mem_of_getElem? hy)
   refine k1D hyv ?_
   rw [List.getD_eq_getElem?_getD]
   cases hz:b.Rows[j]? with
   | none=>
    have:=Nat.one_le_two_pow (n:=a.N.toNat)
    show (0:Int)≤0∧(0:Int)≤((2 ^ a.N.toNat:Nat):Int) - 1
    constructor<;>omega
   | some z=>have:=h.2.1.2.2.2 z (List.mem_of_getElem? hz); rw [← h.2.2] at this; exact this
 ·rw [if_neg h]; exact⟨ha,rfl⟩
def sumR (a:Relation):Nat:=(a.Rows.map Int.toNat).sum
theorem j0q:∀ (l:List Int) (f:Nat→Int→Int),(∀ j x,x∈l→x.toNat≤(f j x).toNat)→(l.map Int.toNat).sum≤((l.mapIdx f).map Int.toNat).sum∧((∀ x∈l,0≤x)→(∀ j x,0≤f j x)→(l.map Int.toNat).sum=((l.mapIdx f).map Int.toNat).sum→l.mapIdx f=l)
 | [],f,_=>⟨by simp,fun _ _ _=>by simp⟩
 | x :: l,f,h=>by
  have ih:=j0q l (fun j=>f (j+1)) fun j y hy=>h (j+1) y (by simp [hy])
  have h0:=h 0 x (by simp)
  rw [List.mapIdx_cons]
  simp only [List.map_cons,List.sum_cons]
  refine⟨by have:=ih.1; omega,fun h1 h2 he=>?_⟩
  have a1:=ih.1
  have e1:(l.map Int.toNat).sum=((l.mapIdx fun j=>f (j+1)).map Int.toNat).sum:=by omega
  have e2:x.toNat=(f 0 x).toNat:=by omega
  have p1:=h1 x (by simp)
  have p2:=h2 0 x
  rw [ih.2 (fun y hy=>h1 y (by simp [hy])) (fun j y=>h2 (j+1) y) e1,show f 0 x=x by omega]
theorem k0x {a b:Relation}(ha:Valid a):sumR a≤sumR (uniR a b)∧(sumR a=sumR (uniR a b)→uniR a b=a):=by
 unfold uniR
 by_cases h:Valid a∧Valid b∧a.N=b.N
 ·rw [if_pos h]
  have key:=j0q a.Rows (fun j x=>orI x (b.Rows.getD j 0)) fun j x _=>by
   unfold orI; have:=@Nat.left_le_or x.toNat (b.Rows.getD j 0).toNat; omega
  refine⟨key.1,fun he=>?_⟩
  have:=key.2 (fun x hx=>(ha.2.2.2 x hx).1) (fun j x=>by unfold orI; omega) he
  show (⟨a.N,_⟩:Relation)=a
  rw [this]
 ·rw [if_neg h]; exact⟨Nat.le_refl _,fun _=>rfl⟩
theorem j6X {a:Relation}(ha:Valid a):sumR a≤16*65535:=by
 have key:∀ l:List Int,(∀ x∈l,x.toNat≤65535)→(l.map Int.toNat).sum≤l.length*65535:=by
  intro l
  induction l with
  | nil=>intro _; simp
  | cons x l ih=>
   intro h
   have h1:=h x (by simp)
   have h2:=ih fun y hy=>h y (by simp [hy])
   simp only [List.map_cons,List.sum_cons,List.length_cons]
   omega
 have h1:=key a.Rows fun x hx=>by
  have:=ha.2.2.2 x hx
  have:=k3C ha.2.1
  omega
 have hl:a.Rows.length≤16:=by have:=ha.2.2.1; have:=ha.2.1; omega
 exact Nat.le_trans h1 (Nat.mul_le_mul_right 65535 hl)
theorem j6Y {b:List Int}{f:Nat→Int→Unit→Option (Unit ⊕ Bool)}(hf:∀ k x,f k x ()=(b[k]?).bind fun x2=>if x=x2 then some (.inl ()) else some (.inr false)) :
  ∀ (xs ys:List Int) (i:Nat),xs.length=ys.length→(∀ j,b[i+j]? = ys[j]?)→q2I f i xs ()=some (if xs=ys then .inl () else .inr false)
 | [],ys,i,hl,_=>by obtain rfl:=List.eq_nil_of_length_eq_zero hl.symm; rfl
 | x :: xs,[],i,hl,_=>by simp at hl
 | x :: xs,y :: ys,i,hl,hb=>by
  have h0:b[i]? = some y:=by simpa using hb 0
  rw [q2I,hf,h0,Option.bind_some]
  by_cases hx:x=y
  ·rw [if_pos hx,Option.bind_some]
   dsimp only
   rw [j6Y hf xs ys (i+1) (by simpa using hl) fun j=>by have:=hb (j+1); rw [show i+1+j=i+(j+1) by omega]; simpa using this]
   subst hx
   by_cases he:xs=ys
   ·rw [if_pos he,if_pos (by rw [he])]
   ·rw [if_neg he,if_neg (by intro hh; injection hh with _ h2; exact he h2)]
  ·rw [if_neg hx,Option.bind_some]
   dsimp only
   rw [if_neg (by intro hh; injection hh with h2 _; exact hx h2)]
theorem j6Z (a b:Relation):q8j a b=some (decide (a=b)):=by
 obtain⟨n,xs⟩:=a
 obtain⟨m,ys⟩:=b
 unfold q8j z8E
 dsimp only
 by_cases hn:n=m
 ·rw [if_pos hn]
  by_cases hl:xs.length=ys.length
  ·rw [if_pos (by omega),j6Y (b:=ys) (fun k x=>rfl) xs ys 0 hl fun j=>by rw [Nat.zero_add]]
   by_cases he:xs=ys
   ·rw [if_pos he,decide_eq_true (by rw [hn,he])]; rfl
   ·rw [if_neg he,decide_eq_false (by intro hh; injection hh with _ h2; exact he h2)]; rfl
  ·rw [if_neg (by omega),decide_eq_false (by intro hh; injection hh with _ h2; exact hl (by rw [h2]))]; rfl
 ·rw [if_neg hn,decide_eq_false (by intro hh; injection hh with h1 _; exact hn h1)]
theorem k0y (a b:Relation):z0q a b=some (decide (a=b)):=by
 rw [← j6Z]; rfl
noncomputable def j8A (r:Relation):Bool:=decide (∃ k:Nat,k < r.Rows.length∧hasP (q7b r) (k:Int) (k:Int))
theorem j8B {r:Relation}(h:r.Rows.length≤1048576):z0T r=some (j8A r):=j3m h
theorem j8C {r:Relation}(h:r.Rows.length≤1048576):z2v r=some (j8A r):=by
 unfold z2v j8A
 rw [q6g,Option.bind_some]
 by_cases hv:Valid r
 ·rw [decide_eq_true hv,if_pos rfl,j2c h,Option.bind_some]
  have hN:r.N.toNat=r.Rows.length:=by have:=hv.2.2.1; omega
  rw [hN,z9o (c:=true) (n:=r.Rows.length) (q:=fun k=>!decide (hasP (q7b r) (k:Int) (k:Int))) (fun k hk=>by
   unfold z8F
   rw [z1A,Option.bind_some]
   by_cases hp:hasP (q7b r) (k:Int) (k:Int)
   ·rw [decide_eq_true hp]; rfl
   ·rw [decide_eq_false hp]; rfl) r.Rows.length 0 (by omega)]
  by_cases he:∃ k:Nat,k < r.Rows.length∧hasP (q7b r) (k:Int) (k:Int)
  ·rw [decide_eq_true he,if_neg]; · rfl
   obtain⟨k,hk,hp⟩:=he
   rw [List.all_eq_true]
   intro hh
   have:=hh k (by simp; omega)
   simp [hp] at this
  ·rw [decide_eq_false he,if_pos]; · rfl
   rw [List.all_eq_true]
   intro k hk
   simp at hk
   have:¬ hasP (q7b r) (k:Int) (k:Int):=fun hp=>he ⟨k,hk,hp⟩
   simp [this]
 ·rw [decide_eq_false hv,if_neg (by simp),decide_eq_false]
  rintro⟨k,hk,hp⟩
  have:q7b r=r:=by unfold q7b; rw [if_neg hv]
  rw [this] at hp
  exact hv hp.1
end Go.Proofs.YtmblndlpkpaobabGreat
