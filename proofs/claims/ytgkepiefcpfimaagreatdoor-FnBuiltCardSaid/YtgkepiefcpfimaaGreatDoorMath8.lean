/- What those partial functions come to: plain lemmas on data; each bears its conditions in its statement. -/
import Derived.Test.YtgkepiefcpfimaaGreatDoorMath7
set_option linter.unusedVariables false
set_option linter.unusedSimpArgs false
set_option linter.ambiguousOpen false
set_option linter.unusedSectionVars false
set_option linter.unnecessarySimpa false
open List renaming mem_cons_self→Ckz,mem_cons_of_mem→Buz,getElem?_eq_getElem→Cmz,mem_of_getElem?→Bvz,getD_eq_getElem?_getD→Cwz,range→Amz,mem_append_left→Foz
open Nat renaming zero_add→Adz,le_refl→Acz,zero_le→Aez
open Bool renaming true_and→Fpz,and_eq_true→Afz
namespace Go.Proofs.YtgkepiefcpfimaaGreatDoor
open Go Go.E
theorem j0v {α ρ:Type}{c:ρ}{q:α→Bool}:∀ {xs:List α} {i:Nat} {f:Nat→α→Unit→Option (Unit ⊕ ρ)},(∀ k x,x∈xs→f k x ()=some (if q x=true then .inl () else .inr c))→findL f i xs ()=some (if xs.all q=true then .inl () else .inr c)
 | [],i,f,_=>rfl
 | x::xs,i,f,h=>by
  rw[findL,h i x Ckz,bsS]
  cases hq:q x with
  | true=>
   show findL f (i+1) xs ()=_
   rw[j0v fun k y hy=>h k y (Buz _ hy)]
   simp[hq]
  | false=>simp[hq]
theorem z8f {α:Type}{q:α→Bool}:∀ {xs:List α} {i:Nat} {f:Nat→α→Unit→Option (Unit ⊕ Int)},(∀ k x,x∈xs→f k x ()=some (if q x=true then .inr (k:Int) else .inl ())) →
  ∃ z:Int,(findL f i xs ()).bind (onr (fun r1=>some r1) fun _=>some (-1))=some z∧decide (0≤z)=xs.any q
 | [],i,f,_=>⟨-1,rfl,rfl⟩
 | x::xs,i,f,h=>by
  rw[findL,h i x Ckz,bsS]
  cases hq:q x with
  | true=>exact⟨(i:Int),rfl,by simp[hq]⟩
  | false=>
   obtain⟨z,h1,h2⟩:=z8f (xs:=xs) (i:=i+1) fun k y hy=>h k y (Buz _ hy)
   exact⟨z,h1,by simp[hq,h2]⟩
theorem j8v {α ρ:Type}:∀ {xs:List α} {i:Nat} {f:Nat→α→Unit→Option (Unit ⊕ ρ)},(∀ k x,∃ z,f k x ()=some z)→∃ z,findL f i xs ()=some z
 | [],i,f,_=>⟨_,rfl⟩
 | x::xs,i,f,h=>by
  obtain⟨z,hz⟩:=h i x
  rw[findL,hz,bsS]
  cases z with
  | inl u=>exact j8v (xs:=xs) (i:=i+1) h
  | inr r=>exact⟨_,rfl⟩
theorem j1j {α β:Type}{g:α→β}{B:Nat}{f:Nat→α→List β→Option (List β)}(hf:∀ k x s,s.length<B→f k x s=some (s++[g x])):∀ (xs:List α) (i:Nat) (s:List β),s.length+xs.length≤B→eachL f i xs s=some (s++xs.map g)
 | [],i,s,_=>by simp[eachL]
 | x::xs,i,s,h=>by
  simp only[lnC] at h
  rw[eachL,hf i x s (by omega),bsS,j1j hf xs (i+1) _ (by simp;omega)]
  simp
theorem k2p (g:Gm_)(n:BA_):q7f g n=z0B g n:=by
 have e:q4V n=z5Z n:=by
  funext k x u
  unfold q4V z5Z q9N
  rw[bsS]
  by_cases h:x.Name=n<;>simp[h]
 unfold q7f q4v z0B
 rw[e]
 exact Option.bind_fun_some _
theorem j5x (g:Gm_)(n:BA_):∃ k,z0B g n=some k:=by
 obtain⟨z,hz⟩:=j8v (xs:=g.ss_) (i:=0) (f:=z5Z n) fun k x=>by
  unfold z5Z;by_cases h:x.Name=n
  ·exact⟨_,ifP h⟩
  ·exact⟨_,ifN h⟩
 unfold z0B
 rw[hz]
 cases z with
 | inl u=>exact⟨_,rfl⟩
 | inr r=>exact⟨_,rfl⟩
noncomputable def phS (g:Gm_) (ph:List (List Ph_)) (n:BA_):List Ph_:=(q7h g ph n).getD []
theorem j8w (g:Gm_)(ph:List (List Ph_))(n:BA_):q7h g ph n=some (phS g ph n)∧(phS g ph n=[]∨phS g ph n∈ph):=by
 have:∃ p,q7h g ph n=some p∧(p=[]∨p∈ph):=by
  obtain⟨k,hk⟩:=j5x g n
  unfold q7h
  rw[hk,bsS,z3P,bsS]
  by_cases h:0≤k∧k≤(ph.length:Int)-1
  ·rw[ifP (by simpa using h),q3P h.1]
   obtain⟨x,hx⟩:∃ x,ph[k.toNat]?=some x:=⟨_,Cmz (by omega)⟩
   rw[hx]
   exact⟨x,rfl,.inr (Bvz hx)⟩
  ·rw[ifN (by simpa using h)]
   exact⟨[],rfl,.inl rfl⟩
 obtain⟨p,h1,h2⟩:=this
 unfold phS
 rw[h1]
 exact⟨rfl,h2⟩
noncomputable def symS (r:Rule) (k:Int):BA_:=(q4K r k).getD ⟨#[]⟩
theorem k4M {r:Rule}(hl:r.rt_.length≤1048576)(k:Int):q4K r k=some (symS r k):=by
 have:∃ x,q4K r k=some x:=by
  unfold q4K
  by_cases h0:k=0
  ·exact⟨_,ifP h0⟩
  ·rw[ifN h0,z3P,bsS]
   by_cases h:1≤k∧k≤(r.rt_.length:Int)
   ·rw[ifP (by simpa using h),q3P (by constructor<;>omega),q3P (by omega)]
    obtain⟨x,hx⟩:∃ x,r.rt_[(k-1).toNat]?=some x:=⟨_,Cmz (by omega)⟩
    exact⟨x,by rw[hx];rfl⟩
   ·exact⟨_,ifN (by simpa using h)⟩
 obtain⟨x,hx⟩:=this
 unfold symS
 rw[hx];rfl
theorem k4N (r:Rule):symS r 0=r.Left:=by unfold symS q4K;rw[ifP rfl];rfl
theorem j5y {r:Rule}(hl:r.rt_.length≤1048576){k:Int}(h1:1≤k)(h2:k≤(r.rt_.length:Int)):r.rt_[(k-1).toNat]?=some (symS r k):=by
 obtain⟨x,hx⟩:∃ x,r.rt_[(k-1).toNat]?=some x:=⟨_,Cmz (by omega)⟩
 unfold symS q4K
 rw[ifN (by omega),z3P,bsS,ifP (by simp;omega),q3P (by constructor<;>omega),q3P (by omega),hx];rfl
noncomputable def phP (g:Gm_) (ph:List (List Ph_)) (r:Rule) (k:Int):List Ph_:=phS g ph (symS r k)
theorem z5b {g:Gm_}{ph:List (List Ph_)}{r:Rule}(hl:r.rt_.length≤1048576)(due K:List Oc)(V:List Int)(k:Int):q6g k ⟨g,ph,r,due,K,V⟩=some (phP g ph r k):=by
 unfold q6g
 dsimp only
 rw[j1b,k4M hl,bsS,k2p]
 have h:=(j8w g ph (symS r k)).1
 unfold q7h at h
 obtain⟨j,hj⟩:=j5x g (symS r k)
 rw[hj,bsS,z3P] at h
 rw[hj,bsS,z8R]
 exact h
theorem j2n (K:List Oc)(o:Oc):q7x K o=some (decide (o∈K)):=by
 unfold q7x
 have hany:=z7V (c:=true) (xs:=K) (i:=0) (p:=fun _ x=>x=o) (f:=z5j o) fun k x _=>by
  unfold z5j
  exact⟨fun h=>ifP h,fun h=>ifN h⟩
 by_cases h:o∈K
 ·obtain⟨j,hj,e⟩:=List.getElem_of_mem h
  rw[hany.1 ⟨j,o,by rw[Cmz hj,e],rfl⟩,decide_eq_true h];rfl
 ·rw[hany.2 fun k x hx e=>h (e▸Bvz hx),decide_eq_false h];rfl
theorem j0w (K:List Oc)(o:Oc):q3U K o=some (decide (o∈K)):=by
 unfold q3U q4d
 obtain⟨z,h1,h2⟩:=z8f (q:=fun x=>decide (x=o)) (xs:=K) (i:=0) (f:=q3X o) fun k x _=>by
  unfold q3X
  by_cases h:x=o
  ·rw[ifP h.symm,decide_eq_true h,ifP rfl]
  ·rw[ifN (fun e=>h e.symm),decide_eq_false h,ifN (by simp)]
 rw[h1,bsS,h2]
 congr 1
 by_cases h:o∈K
 ·rw[decide_eq_true h,List.any_eq_true];exact⟨o,h,by simp⟩
 ·rw[decide_eq_false h]
  rw[List.any_eq_false]
  intro x hx e
  exact h (of_decide_eq_true e▸hx)
def z5s (K:List Oc)(pos:Int)(names:List BA_):Bool:=names.all fun n=>decide ((⟨pos,n⟩:Oc)∈K)
theorem j9V {α:Type}(q:α→Bool)(xs:List α):(!xs.any fun x=>!q x)=xs.all q:=by
 induction xs with
 | nil=>rfl
 | cons x xs ih=>simp only[List.any_cons,List.all_cons,← ih];cases q x<;>simp
theorem j8x (z:l28Work)(pos:Int)(names:List BA_):z2E z pos names=some (z5s z.known pos names):=by
 unfold z2E z5s
 rw[j0v (c:=false) (q:=fun n=>decide ((⟨pos,n⟩:Oc)∈z.known)) fun k x _=>by
  unfold j1v
  rw[j2n,bsS]
  by_cases h:(⟨pos,x⟩:Oc)∈z.known<;>simp[h]]
 cases names.all fun n=>decide ((⟨pos,n⟩:Oc)∈z.known)<;>rfl
theorem j8y (v:visits)(pos:Int)(names:List BA_):q9d v pos names=some (z5s v.known pos names):=by
 unfold q9d q4H q4W
 obtain⟨z,h1,h2⟩:=z8f (q:=fun n=>!decide ((⟨pos,n⟩:Oc)∈v.known)) (xs:=names) (i:=0) (f:=q5C v pos) fun k x _=>by
  unfold q5C z0y
  rw[j0w,bsS,bsS]
  split<;>rfl
 rw[h1,bsS,h2,bsS,j9V]
 rfl
theorem j8z {z:l28Work}(pos:Int)(names:List BA_)(h:z.known.length+names.length≤4398046511104):z2D pos names z=some ⟨z.g,z.r,z.phases,z.known++names.map (fun n=>(⟨pos,n⟩:Oc)),z.visits,z.steps⟩:=by
 unfold z2D
 rw[j1j (g:=fun n=>(⟨pos,n⟩:Oc)) (B:=4398046511104) (fun k x s hs=>by
  unfold j1u;rw[q3P (by constructor<;>omega)];try rfl) names 0 z.known h];rfl
theorem j8A {v:visits}(pos:Int)(names:List BA_)(h:v.known.length+names.length≤4398046511104):q9b pos names v=some ⟨v.g,v.phases,v.r,v.due,v.known++names.map (fun n=>(⟨pos,n⟩:Oc)),v.next⟩:=by
 unfold q9b
 rw[j1j (g:=fun n=>(⟨pos,n⟩:Oc)) (B:=4398046511104) (fun k x s hs=>by
  unfold z6V;rw[q3P (by constructor<;>omega)]) names 0 v.known h];rfl
noncomputable def z5c (r:Rule) (K:List Oc) (o:Oc):Bool:=(eqAt r o).2&&(attrs (eqAt r o).1).all fun u=>decide (u∈K)
theorem k2q {z:l28Work}(h:Sz.szd z.r≤1048576)(o:Oc):z3z z o=some (z5c z.r z.known o):=by
 unfold z3z z5c
 rw[j2l h o,bsS]
 dsimp only
 rw[j6x (j6E h o),bsS,j0v (c:=false) (q:=fun u=>decide (u∈z.known)) fun k x _=>by
  unfold z9Z
  rw[j2n,bsS]
  by_cases h:x∈z.known<;>simp[h]]
 cases (attrs (eqAt z.r o).1).all fun u=>decide (u∈z.known) with
 | true=>simp
 | false=>simp
theorem k2r {v:visits}(h:Sz.szd v.r≤1048576)(o:Oc):q9c v o=some (decide (o∈v.due)&&(!decide (o∈v.known)&&z5c v.r v.known o)):=by
 unfold q9c z5c
 rw[j0w,bsS]
 by_cases h1:o∈v.due
 ·rw[ifP (by simpa using h1),j0w,bsS]
  by_cases h2:o∈v.known
  ·rw[ifP (by simpa using h2)];simp[h2]
  ·rw[ifN (by simpa using h2),(j9D h o).2,bsS]
   dsimp only
   cases h3:(eqAt v.r o).2 with
   | false=>simp
   | true=>
    rw[ifP rfl,j2h (j6E h o),bsS]
    unfold q4l q4x
    obtain⟨z,e1,e2⟩:=z8f (q:=fun u=>!decide (u∈v.known)) (xs:=attrs (eqAt v.r o).1) (i:=0) (f:=q5l v) fun k x _=>by
     unfold q5l q9x
     rw[j0w,bsS,bsS]
     split<;>rfl
    rw[e1,bsS,e2,bsS,j9V]
    simp[h1,h2]
 ·rw[ifN (by simpa using h1)];simp[h1]
def at0 (V:List Int)(k:Int):Int:=V.getD k.toNat 0
def zP:Ph_:=⟨[],[]⟩
def addN (K:List Oc)(pos:Int)(names:List BA_):List Oc:=K++names.map fun n=>(⟨pos,n⟩:Oc)
noncomputable def phAt (g:Gm_) (ph:List (List Ph_)) (r:Rule) (k v:Int):Ph_:=(phP g ph r k).getD v.toNat zP
structure Iv (g:Gm_) (ph:List (List Ph_)) (r:Rule) (K:List Oc) (V:List Int) (B:Nat):Prop where
 len:V.length=r.rt_.length+1
 rng:∀ k:Nat,k≤r.rt_.length→0≤V.getD k 0∧V.getD k 0≤((phP g ph r (k:Int)).length:Int)
 kn:K.length≤B
theorem k8I (g:Gm_)(ph:List (List Ph_))(r:Rule)(k:Int):phP g ph r k=[]∨phP g ph r k∈ph:=(j8w g ph (symS r k)).2
theorem z8g {g:Gm_}{ph:List (List Ph_)}{r:Rule}{k v:Int}(h0:0≤v)(h1:v<((phP g ph r k).length:Int)):(phP g ph r k)[v.toNat]?=some (phAt g ph r k v):=by
 unfold phAt
 obtain⟨x,hx⟩:∃ x,(phP g ph r k)[v.toNat]?=some x:=⟨_,Cmz (by omega)⟩
 rw[Cwz,hx];rfl
section
variable {g:Gm_}{ph:List (List Ph_)}{r:Rule}{R K K' : List Oc}{V V' : List Int}{B:Nat}{x:Step}
theorem Iv.at' (H:Iv g ph r K V B){k:Int}(h0:0≤k)(h1:k≤(r.rt_.length:Int)):0≤at0 V k∧at0 V k≤((phP g ph r k).length:Int)∧V[k.toNat]?=some (at0 V k):=by
 have h:=H.rng k.toNat (by omega)
 have e:((k.toNat:Nat):Int)=k:=by omega
 rw[e] at h
 refine⟨h.1,h.2,?_⟩
 unfold at0
 obtain⟨y,hy⟩:∃ y,V[k.toNat]?=some y:=⟨_,Cmz (by rw[H.len];omega)⟩
 rw[Cwz,hy];rfl
theorem k7j {k:Int}{y:Int}(hk:k.toNat<V.length)(j:Int):at0 (V.set k.toNat y) j=if k.toNat=j.toNat then y else at0 V j:=by
 unfold at0
 rw[Cwz,List.getElem?_set,Cwz]
 by_cases h:k.toNat=j.toNat
 ·rw[ifP h,ifP h,ifP (by omega)];rfl
 ·rw[ifN h,ifN h]
theorem Iv.set (H:Iv g ph r K V B){k:Int}{y:Int}(h0:0≤k)(h1:k≤(r.rt_.length:Int))(y0:0≤y)(y1:y≤((phP g ph r k).length:Int)){K' : List Oc}{B' : Nat}(hK:K'.length≤B'):Iv g ph r K' (V.set k.toNat y) B':=by
 refine⟨by simp[H.len],fun j hj=>?_,hK⟩
 have hkl:k.toNat<V.length:=by rw[H.len];omega
 have:=k7j (y:=y) hkl (j:Int)
 have hj' : at0 (V.set k.toNat y) (j:Int)=(V.set k.toNat y).getD j 0:=by unfold at0;rw[tnC]
 rw[← hj',this]
 by_cases h:k.toNat=((j:Nat):Int).toNat
 ·rw[ifP h]
  have e:((j:Nat):Int)=k:=by omega
  rw[e];exact⟨y0,y1⟩
 ·rw[ifN h]
  have:=H.rng j hj
  unfold at0;rw[tnC];exact this
theorem k4O (H:Iv g ph r K V B){k:Int}(h0:1≤k)(h1:k≤(r.rt_.length:Int)):(V.drop 1)[(k-1).toNat]?=some (at0 V k):=by
 rw[List.getElem?_drop,show 1+(k-1).toNat=k.toNat by omega]
 exact (H.at' (by omega) h1).2.2
end
section
variable {g:Gm_}{ph:List (List Ph_)}{r:Rule}{R K K' : List Oc}{V V' : List Int}{B:Nat}{x:Step}
theorem j4c (hr:Sz.szd r≤1048576)(H:Iv g ph r K V B)(k:Int):q8H ⟨g,ph,r,R,K,V⟩ k=some (decide (1≤k∧k≤(r.rt_.length:Int))&&(decide (at0 V k<((phP g ph r k).length:Int))&&z5s K k (phAt g ph r k (at0 V k)).Inherited)):=by
 have hl:=q5y hr
 unfold q8H
 rw[z5b hl,bsS,z8R,bsS]
 dsimp only
 by_cases hp:1≤k∧k≤(r.rt_.length:Int)
 ·obtain⟨a1,a2,a3⟩:=H.at' (k:=k) (by omega) hp.2
  rw[ifP (by simpa using hp),q3P (by omega),a3,bsS,bsS]
  by_cases hc:at0 V k<((phP g ph r k).length:Int)
  ·rw[ifP (by simpa using hc),q3P (by omega),bsS,q3P a1,z8g a1 hc,bsS,j8y,bsS,bsS]
   simp[hp,hc]
  ·rw[ifN (by simpa using hc)];simp[hc]
 ·rw[ifN (by simpa using hp)];simp[hp]
end
section
variable {g:Gm_}{ph:List (List Ph_)}{r:Rule}{R K K' : List Oc}{V V' : List Int}{B:Nat}
noncomputable def j4d (g:Gm_) (ph:List (List Ph_)) (r:Rule) (R K:List Oc) (V:List Int):Bool:=
 R.all (fun o=>decide (o∈K))&&(Amz r.rt_.length).all fun j=>decide (V.getD (j+1) 0=((phP g ph r ((j+1:Nat):Int)).length:Int))
theorem k4P (hr:Sz.szd r≤1048576)(hR:q3W g r=some R)(H:Iv g ph r K V B):z1o ⟨g,r,ph,K,V.drop 1,[]⟩=some (j4d g ph r R K V):=by
 have hl:=q5y hr
 unfold z1o j4d
 dsimp only
 rw[hR,bsS,j0v (c:=false) (q:=fun o=>decide (o∈K)) fun k x _=>by
  unfold j1x
  rw[j2n,bsS]
  by_cases h:x∈K<;>simp[h]]
 cases R.all (fun o=>decide (o∈K)) with
 | false=>rfl
 | true=>
  rw[ifP rfl,bsS]
  show ((findL (z5m ⟨g,r,ph,K,V.drop 1,[]⟩) 0 r.rt_ ()).bind _:Option Bool)=_
  have hany:=z7V (c:=false) (xs:=r.rt_) (i:=0) (p:=fun j _=>V.getD (j+1) 0≠((phP g ph r ((j+1:Nat):Int)).length:Int)) (f:=z5m ⟨g,r,ph,K,V.drop 1,[]⟩) fun j y hy=>by
   rw[Adz]
   have hj:=(List.getElem?_eq_some_iff.1 hy).1
   have h1:=k4O H (k:=((j+1:Nat):Int)) (by omega) (by omega)
   have h2:=j5y hl (k:=((j+1:Nat):Int)) (by omega) (by omega)
   have e:(((j+1:Nat):Int)-1).toNat=j:=by omega
   rw[e] at h1 h2
   rw[hy] at h2
   cases h2
   have h3:at0 V ((j+1:Nat):Int)=V.getD (j+1) 0:=by unfold at0;rw[tnC]
   unfold z5m
   dsimp only
   rw[h1,bsS,(j8w g ph _).1,bsS,h3]
   exact⟨fun h=>ifN h,fun h=>ifP (Classical.not_not.1 h)⟩
  cases hb:(Amz r.rt_.length).all fun j=>decide (V.getD (j+1) 0=((phP g ph r ((j+1:Nat):Int)).length:Int)) with
  | true=>
   rw[hany.2 fun j y hy hp=>?_]
   ·rfl
   ·rw[Adz] at hp
    have hj:=(List.getElem?_eq_some_iff.1 hy).1
    have:=List.all_eq_true.1 hb j (List.mem_range.2 hj)
    exact hp (of_decide_eq_true this)
  | false=>
   have:∃ j,j<r.rt_.length∧V.getD (j+1) 0≠((phP g ph r ((j+1:Nat):Int)).length:Int):=by
    apply Classical.byContradiction
    intro hn
    have:((Amz r.rt_.length).all fun j=>decide (V.getD (j+1) 0=((phP g ph r ((j+1:Nat):Int)).length:Int)))=true:=List.all_eq_true.2 fun j hj=>decide_eq_true (Classical.not_not.1 fun h=>hn ⟨j,List.mem_range.1 hj,h⟩)
    rw[this] at hb;cases hb
   obtain⟨j,hj,hp⟩:=this
   rw[hany.1 ⟨j,_,Cmz hj,by rw[Adz];exact hp⟩];rfl
theorem j9W (hr:Sz.szd r≤1048576)(H:Iv g ph r K V B):q6G ⟨g,ph,r,R,K,V⟩=some (j4d g ph r R K V):=by
 have hl:=q5y hr
 have hR:q3S R ⟨g,ph,r,R,K,V⟩=some (!R.all fun o=>decide (o∈K)):=by
  unfold q3S q4u
  obtain⟨z,h1,h2⟩:=z8f (q:=fun u=>!decide (u∈K)) (xs:=R) (i:=0) (f:=q5e ⟨g,ph,r,R,K,V⟩) fun k x _=>by
   unfold q5e q8W
   rw[j0w,bsS,bsS]
   split<;>rfl
  rw[h1,bsS,h2,← j9V,Bool.not_not]
 have hloop:∀ m j:Nat,j+m=r.rt_.length→(∀ q,q<j→V.getD (q+1) 0=((phP g ph r ((q+1:Nat):Int)).length:Int))→q4D (q8k ⟨g,ph,r,R,K,V⟩) ((j+1:Nat):Int)=some (if ((Amz r.rt_.length).all fun j=>decide (V.getD (j+1) 0=((phP g ph r ((j+1:Nat):Int)).length:Int)))=true then .inl () else .inr false):=by
  intro m
  induction m with
  | zero=>
   intro j hj hq
   have hb:((Amz r.rt_.length).all fun j=>decide (V.getD (j+1) 0=((phP g ph r ((j+1:Nat):Int)).length:Int)))=true:=List.all_eq_true.2 fun q h=>decide_eq_true (hq q (by have:=List.mem_range.1 h;omega))
   rw[hb,ifP rfl]
   exact q3Q (by unfold q8k;dsimp only;rw[ifN (by omega)])
  | succ m ih=>
   intro j hj hq
   have h3:at0 V ((j+1:Nat):Int)=V.getD (j+1) 0:=by unfold at0;rw[tnC]
   obtain⟨a1,a2,a3⟩:=H.at' (k:=((j+1:Nat):Int)) (by omega) (by omega)
   rw[h3] at a1 a2 a3
   by_cases hc:V.getD (j+1) 0<((phP g ph r ((j+1:Nat):Int)).length:Int)
   ·have hb:((Amz r.rt_.length).all fun j=>decide (V.getD (j+1) 0=((phP g ph r ((j+1:Nat):Int)).length:Int)))=false:=by
     rw[List.all_eq_false]
     exact⟨j,List.mem_range.2 (by omega),by rw[decide_eq_false (by omega)];exact Bool.false_ne_true⟩
    rw[hb,ifN (by simp)]
    refine q3Q ?_
    unfold q8k
    dsimp only
    rw[ifP (by omega),q3P (by omega),a3,bsS,z5b hl,bsS,ifP hc]
   ·rw[q4a (s':=((j+1+1:Nat):Int)) (by
     unfold q8k
     dsimp only
     rw[ifP (by omega),q3P (by omega),a3,bsS,z5b hl,bsS,ifN hc,q3P (by constructor<;>omega)];rfl)]
    refine ih (j+1) (by omega) fun q hq'=>?_
    by_cases e:q=j
    ·rw[e];exact Int.le_antisymm a2 (Int.not_lt.1 hc)
    ·exact hq q (by omega)
 have h0:=hloop r.rt_.length 0 (by omega) (fun q hq=>by omega)
 have e1:((0+1:Nat):Int)=1:=rfl
 rw[e1] at h0
 unfold q6G j4d
 rw[h0,bsS]
 cases (Amz r.rt_.length).all fun j=>decide (V.getD (j+1) 0=((phP g ph r ((j+1:Nat):Int)).length:Int)) with
 | false=>simp
 | true=>
  show (q3S R ⟨g,ph,r,R,K,V⟩).bind _=_
  rw[hR,bsS,Bool.not_not,Bool.and_true]
end
theorem j4e {α ρ:Type}{q:α→Bool}{h:α→ρ}:∀ {xs:List α} {i:Nat} {f:Nat→α→Unit→Option (Unit ⊕ ρ)},(∀ k x,x∈xs→f k x ()=some (if q x=true then .inr (h x) else .inl ()))→findL f i xs ()=some (match xs.find? q with|some x=>.inr (h x)|none=>.inl ())
 | [],i,f,_=>rfl
 | x::xs,i,f,hf=>by
  rw[findL,hf i x Ckz,bsS,List.find?_cons]
  cases hq:q x with
  | true=>rfl
  | false=>exact j4e (xs:=xs) (i:=i+1) fun k y hy=>hf k y (Buz _ hy)
def fndN (q:Nat→Bool):Nat→Nat→Option Nat
 | _,0=>none
 | i,n+1=>if q i=true then some i else fndN q (i+1) n
theorem j4f {q:Nat→Bool}{k:Nat}:∀ {n i:Nat},fndN q i n=some k→i≤k∧k<i+n∧q k=true
 | 0,i,h=>by cases h
 | n+1,i,h=>by
  rw[fndN] at h
  by_cases hq:q i=true
  ·rw[ifP hq] at h;cases h;exact⟨Acz _,by omega,hq⟩
  ·rw[ifN hq] at h
   obtain⟨a,b,c⟩:=j4f (n:=n) h
   exact⟨by omega,by omega,c⟩
theorem j5z {α ρ:Type}{q:Nat→Bool}{h:Nat→ρ}:∀ {xs:List α} {i:Nat} {f:Nat→α→Unit→Option (Unit ⊕ ρ)},(∀ k x,xs[k]?=some x→f (i+k) x ()=some (if q (i+k)=true then .inr (h (i+k)) else .inl ()))→findL f i xs ()=some (match fndN q i xs.length with|some k=>.inr (h k)|none=>.inl ())
 | [],i,f,_=>rfl
 | x::xs,i,f,hf=>by
  rw[findL,show f i x ()=some (if q i=true then .inr (h i) else .inl ()) from hf 0 x rfl,bsS,lnC,fndN]
  by_cases hq:q i=true
  ·rw[ifP hq,ifP hq]
  ·rw[ifN hq,ifN hq]
   refine j5z (xs:=xs) (i:=i+1) fun k y hy=>?_
   have:=hf (k+1) y hy
   rw[show i+1+k=i+(k+1) by omega];exact this
theorem j4g {ph:List (List Ph_)}(h:∀ p∈ph,PS p)(g:Gm_)(r:Rule)(k:Int):PS (phP g ph r k):=by
 rcases k8I g ph r k with e|e
 ·rw[e];exact⟨by simp,fun x hx=>nomatch hx⟩
 ·exact h _ e
theorem k4Q {ph:List (List Ph_)}(h:∀ p∈ph,PS p)(g:Gm_)(r:Rule){k v:Int}(h0:0≤v)(h1:v<((phP g ph r k).length:Int)):PB (phAt g ph r k v):=
 (j4g h g r k).2 _ (Bvz (z8g h0 h1))
section
variable {g:Gm_}{ph:List (List Ph_)}{r:Rule}{R K K' : List Oc}{V V' : List Int}{B:Nat}{x:Step}
noncomputable def nxE (r:Rule) (R K:List Oc):Option Oc:=R.find? fun o=>!decide (o∈K)&&z5c r K o
noncomputable def vsB (g:Gm_) (ph:List (List Ph_)) (r:Rule) (K:List Oc) (V:List Int) (j:Nat):Bool:=decide (at0 V ((j+1:Nat):Int)<((phP g ph r ((j+1:Nat):Int)).length:Int))&&z5s K ((j+1:Nat):Int) (phAt g ph r ((j+1:Nat):Int) (at0 V ((j+1:Nat):Int))).Inherited
noncomputable def nxV (g:Gm_) (ph:List (List Ph_)) (r:Rule) (K:List Oc) (V:List Int):Option Nat:=fndN (vsB g ph r K V) 0 r.rt_.length
noncomputable def vsK (g:Gm_) (ph:List (List Ph_)) (r:Rule) (K:List Oc) (V:List Int) (j:Nat):List Oc:=addN K ((j+1:Nat):Int) (phAt g ph r ((j+1:Nat):Int) (at0 V ((j+1:Nat):Int))).Synthesized
def vsV (V:List Int)(j:Nat):List Int:=V.set (j+1) (at0 V ((j+1:Nat):Int)+1)
def vsS (V:List Int)(j:Nat):Step:=⟨2,((j+1:Nat):Int),at0 V ((j+1:Nat):Int)+1,(⟨#[]⟩:BA_)⟩
def evS (o:Oc):Step:=⟨1,o.Pos,0,o.Name⟩
theorem j6Q (hr:Sz.szd r≤1048576)(hR:q3W g r=some R)(hK:K.length<3000000000000)(vs:List Int)(st:List Step)(hs:st.length<3000000000000):z6d ⟨g,r,ph,K,vs,st⟩=some (match nxE r R K with|some o=>(true,⟨g,r,ph,K++[o],vs,st++[evS o]⟩)|none=>(false,⟨g,r,ph,K,vs,st⟩)):=by
 unfold z6d nxE
 dsimp only
 rw[hR,bsS,j4e (q:=fun o=>!decide (o∈K)&&z5c r K o) (h:=fun o=>((true,⟨g,r,ph,K++[o],vs,st++[evS o]⟩):Bool×l28Work)) fun k x _=>by
  unfold j3d
  dsimp only
  rw[j2n,bsS]
  by_cases h:x∈K
  ·rw[ifP (by simpa using h)];simp[h]
  ·rw[ifN (by simpa using h),k2q hr,bsS]
   dsimp only
   cases hi:z5c r K x with
   | true=>rw[ifP rfl,q3P (by constructor<;>omega),q3P (by constructor<;>omega)];simp[h,evS]
   | false=>simp]
 cases R.find? (fun o=>!decide (o∈K)&&z5c r K o)<;>rfl
theorem j4h (hph:∀ p∈ph,PS p)(hr:Sz.szd r≤1048576)(H:Iv g ph r K V B)(hB:B≤3000000000000)(st:List Step)(hs:st.length<3000000000000):z4L ⟨g,r,ph,K,V.drop 1,st⟩=some (match nxV g ph r K V with|some j=>(true,⟨g,r,ph,vsK g ph r K V j,(vsV V j).drop 1,st++[vsS V j]⟩)|none=>(false,⟨g,r,ph,K,V.drop 1,st⟩)):=by
 have hl:=q5y hr
 have hkn:=H.kn
 unfold z4L nxV
 dsimp only
 rw[j5z (q:=vsB g ph r K V) (h:=fun j=>((true,⟨g,r,ph,vsK g ph r K V j,(vsV V j).drop 1,st++[vsS V j]⟩):Bool×l28Work)) fun j y hy=>by
  rw[Adz]
  have hj:=(List.getElem?_eq_some_iff.1 hy).1
  have h1:=k4O H (k:=((j+1:Nat):Int)) (by omega) (by omega)
  have h2:=j5y hl (k:=((j+1:Nat):Int)) (by omega) (by omega)
  have e:(((j+1:Nat):Int)-1).toNat=j:=by omega
  rw[e] at h1 h2
  rw[hy] at h2
  obtain⟨a1,a2,a3⟩:=H.at' (k:=((j+1:Nat):Int)) (by omega) (by omega)
  have hlen:=(j4g hph g r ((j+1:Nat):Int)).1
  have hy2:y=symS r ((j+1:Nat):Int):=Option.some.inj h2
  unfold j1w
  dsimp only
  rw[hy2,(j8w g ph _).1,bsS,h1,bsS]
  show (if at0 V ((j+1:Nat):Int)<((phP g ph r ((j+1:Nat):Int)).length:Int) then _ else _)=_
  by_cases hc:at0 V ((j+1:Nat):Int)<((phP g ph r ((j+1:Nat):Int)).length:Int)
  ·have hx:(phS g ph (symS r ((j+1:Nat):Int)))[(at0 V ((j+1:Nat):Int)).toNat]?=some (phAt g ph r ((j+1:Nat):Int) (at0 V ((j+1:Nat):Int))):=z8g a1 hc
   have hpb:=k4Q hph g r a1 hc
   rw[ifP hc,q3P a1,hx,bsS,j8x,bsS]
   dsimp only
   unfold vsB
   cases hk:z5s K ((j+1:Nat):Int) (phAt g ph r ((j+1:Nat):Int) (at0 V ((j+1:Nat):Int))).Inherited with
   | true=>
    rw[ifP rfl,q3P (by constructor<;>omega),q3P (by constructor<;>omega),q3P (by constructor<;>omega),j8z _ _ (by dsimp only;have:=hpb.2;omega),bsS]
    dsimp only
    rw[ifP (by rw[decide_eq_true hc];rfl),List.set_drop,show 1+j=j+1 by omega];rfl
   | false=>rw[ifN (by simp),ifN (by simp)]
  ·rw[ifN hc,ifN (by unfold vsB;rw[decide_eq_false hc];simp)]]
 cases fndN (vsB g ph r K V) 0 r.rt_.length<;>rfl
theorem k4R (hph:∀ p∈ph,PS p)(hr:Sz.szd r≤1048576)(H:Iv g ph r K V B)(hB:B≤3000000000000){k:Int}(hp:1≤k∧k≤(r.rt_.length:Int))(hc:at0 V k<((phP g ph r k).length:Int)) :
  z0q k ⟨g,ph,r,R,K,V⟩=some ⟨g,ph,r,R,addN K k (phAt g ph r k (at0 V k)).Synthesized,V.set k.toNat (at0 V k+1)⟩:=by
 have hl:=q5y hr
 have hkn:=H.kn
 obtain⟨a1,a2,a3⟩:=H.at' (k:=k) (by omega) hp.2
 have hpl:=(j4g hph g r k).1
 have hlen:=(k4Q hph g r a1 hc).2
 unfold z0q
 rw[z5b hl,bsS]
 dsimp only
 rw[q3P (by omega),a3,bsS,q3P a1,z8g a1 hc,bsS,j8A _ _ (by dsimp only;omega),bsS]
 dsimp only
 rw[q3P (by omega),a3,bsS,q3P (by constructor<;>omega)];rfl
noncomputable def nxS (g:Gm_) (ph:List (List Ph_)) (r:Rule) (R K:List Oc) (V:List Int):Option (Step×List Oc×List Int):=
 match nxE r R K with
 | some o=>some (evS o,K++[o],V)
 | none=>match nxV g ph r K V with
  | some j=>some (vsS V j,vsK g ph r K V j,vsV V j)
  | none=>none
theorem k1e (hph:∀ p∈ph,PS p)(hr:Sz.szd r≤1048576)(H:Iv g ph r K V B)(hB:B<3000000000000):q8Q ⟨g,ph,r,R,K,V⟩=some (match nxS g ph r R K V with|some (x,K',V')=>(x,true,⟨g,ph,r,R,K',V'⟩)|none=>(⟨0,0,0,(⟨#[]⟩:BA_)⟩,false,⟨g,ph,r,R,K,V⟩)):=by
 have hl:=q5y hr
 have hkn:=H.kn
 unfold q8Q nxS nxE
 dsimp only
 rw[j4e (q:=fun o=>!decide (o∈K)&&z5c r K o) (h:=fun o=>((evS o,true,⟨g,ph,r,R,K++[o],V⟩):Step×Bool×visits)) fun k x hx=>by
  unfold z7G
  rw[k2r hr,bsS]
  dsimp only
  rw[decide_eq_true hx,Fpz]
  cases (!decide (x∈K)&&z5c r K x) with
  | true=>rw[ifP rfl,q3P (by constructor<;>omega)];rfl
  | false=>rfl]
 cases R.find? (fun o=>!decide (o∈K)&&z5c r K o) with
 | some o=>rfl
 | none=>
  have hloop:∀ m j:Nat,j+m=r.rt_.length→q4D (q9e ⟨g,ph,r,R,K,V⟩) ((j+1:Nat):Int)=some (match fndN (vsB g ph r K V) j m with|some j=>.inr (vsS V j,true,⟨g,ph,r,R,vsK g ph r K V j,vsV V j⟩)|none=>.inl ()):=by
   intro m
   induction m with
   | zero=>
    intro j hj
    exact q3Q (by unfold q9e;dsimp only;rw[ifN (by omega)];rfl)
   | succ m ih=>
    intro j hj
    rw[fndN]
    obtain⟨a1,a2,a3⟩:=H.at' (k:=((j+1:Nat):Int)) (by omega) (by omega)
    have hin:decide (1≤((j+1:Nat):Int)∧((j+1:Nat):Int)≤(r.rt_.length:Int))=true:=decide_eq_true (by omega)
    by_cases hv:vsB g ph r K V j=true
    ·rw[ifP hv]
     refine q3Q ?_
     have hc:at0 V ((j+1:Nat):Int)<((phP g ph r ((j+1:Nat):Int)).length:Int):=by
      unfold vsB at hv;simp only[Afz,decide_eq_true_eq] at hv;exact hv.1
     unfold q9e
     dsimp only
     rw[ifP (by omega),j4c hr H,hin,Fpz,bsS,show (decide (at0 V ((j+1:Nat):Int)<((phP g ph r ((j+1:Nat):Int)).length:Int))&&z5s K ((j+1:Nat):Int) (phAt g ph r ((j+1:Nat):Int) (at0 V ((j+1:Nat):Int))).Inherited)=true from hv,ifP rfl,k4R hph hr H (by omega) (by omega) hc,bsS,q3P (by omega)]
     dsimp only
     rw[List.getElem?_set_self (by rw[H.len];omega),bsS]
     rfl
    ·rw[ifN hv]
     rw[q4a (s':=((j+1+1:Nat):Int)) (by
      unfold q9e
      dsimp only
      rw[ifP (by omega),j4c hr H,hin,Fpz,bsS,show (decide (at0 V ((j+1:Nat):Int)<((phP g ph r ((j+1:Nat):Int)).length:Int))&&z5s K ((j+1:Nat):Int) (phAt g ph r ((j+1:Nat):Int) (at0 V ((j+1:Nat):Int))).Inherited)=false from Bool.eq_false_iff.2 hv,ifN (by simp),q3P (by constructor<;>omega)];rfl)]
     exact ih (j+1) (by omega)
  have h0:=hloop r.rt_.length 0 (by omega)
  have e1:((0+1:Nat):Int)=1:=rfl
  rw[e1] at h0
  dsimp only
  rw[bsS]
  show (q4D (q9e ⟨g,ph,r,R,K,V⟩) 1).bind _=_
  rw[h0,bsS]
  unfold nxV
  cases fndN (vsB g ph r K V) 0 r.rt_.length<;>rfl
end
def nK (R K:List Oc):Nat:=R.countP fun o=>!decide (o∈K)
theorem j9X {R K K' : List Oc}(h:∀ o∈K,o∈K'):nK R K'≤nK R K:=by
 unfold nK
 refine List.countP_mono_left fun o _ ho=>?_
 by_cases h1:o∈K
 ·simp[h o h1] at ho
 ·simp[h1]
theorem k4S {K:List Oc}{o:Oc}(hk:o∉K):∀ {R:List Oc},o∈R→nK R (K++[o])+1≤nK R K
 | x::R,ho=>by
  have hm:nK R (K++[o])≤nK R K:=j9X fun y hy=>Foz _ hy
  unfold nK at hm ⊢
  rw[List.countP_cons,List.countP_cons]
  by_cases he:o=x
  ·subst he
   have ho' : o∈K++[o]:=by simp
   rw[ifN (by rw[decide_eq_true ho'];simp),ifP (by rw[decide_eq_false hk];rfl)]
   omega
  ·have ih:=k4S hk (R:=R) ((List.mem_cons.1 ho).resolve_left he)
   unfold nK at ih
   by_cases hx:x∈K
   ·have hx' : x∈K++[o]:=Foz _ hx
    simp only[hx,hx',decide_true,Bool.not_true,Bool.false_eq_true,if_false]
    omega
   ·have hx' : x∉K++[o]:=fun h=>by
     rcases List.mem_append.1 h with h|h
     ·exact hx h
     ·exact he (List.mem_singleton.1 h).symm
    simp only[hx,hx',decide_false,Bool.not_false,if_true]
    omega
def sumN (f:Nat→Nat):Nat→Nat
 | 0=>0
 | n+1=>sumN f n+f n
theorem k4T {f:Nat→Nat}{C:Nat}:∀ {n:Nat},(∀ i,i<n→f i≤C)→sumN f n≤n*C
 | 0,_=>Aez _
 | n+1,h=>by
  have h1:=k4T (n:=n) fun i hi=>h i (by omega)
  have h2:=h n (by omega)
  rw[sumN,Nat.succ_mul];omega
theorem k4U {f f' : Nat→Nat}:∀ {n:Nat},(∀ i,i<n→f' i=f i)→sumN f' n=sumN f n
 | 0,_=>rfl
 | n+1,h=>by rw[sumN,sumN,k4U (n:=n) fun i hi=>h i (by omega),h n (by omega)]
theorem k1f {f f' : Nat→Nat}{j c:Nat}:∀ {n:Nat},j<n→(∀ i,i<n→i≠j→f' i=f i)→f' j+c≤f j→sumN f' n+c≤sumN f n
 | n+1,hj,h,hc=>by
  rw[sumN,sumN]
  by_cases e:j=n
  ·subst e
   rw[k4U (n:=j) fun i hi=>h i (by omega) (by omega)];omega
  ·have h1:=k1f (n:=n) (by omega) (fun i hi hn=>h i (by omega) hn) hc
   rw[h n (by omega) (fun h=>e h.symm)];omega
def wP:List Ph_→Nat
 | []=>0
 | p::l=>p.Synthesized.length+1+wP l
theorem k9t:∀ {l:List Ph_},(∀ x∈l,PB x)→wP l≤17*l.length
 | [],_=>Aez _
 | p::l,h=>by
  have h1:=k9t (l:=l) fun x hx=>h x (Buz _ hx)
  have h2:=(h p Ckz).2
  rw[wP,lnC];omega
theorem k8J {l:List Ph_}{v:Nat}{p:Ph_}(h:l[v]?=some p):wP (l.drop (v+1))+(p.Synthesized.length+1)≤wP (l.drop v):=by
 obtain⟨h1,h2⟩:=List.getElem?_eq_some_iff.1 h
 rw[List.drop_eq_getElem_cons h1,h2,wP];omega
def wI:List Ph_→Nat
 | []=>0
 | p::l=>p.Inherited.length+1+wI l
theorem k9u:∀ {l:List Ph_},(∀ x∈l,PB x)→wI l≤17*l.length
 | [],_=>Aez _
 | p::l,h=>by
  have h1:=k9u (l:=l) fun x hx=>h x (Buz _ hx)
  have h2:=(h p Ckz).1
  rw[wI,lnC];omega
section
variable {g:Gm_}{ph:List (List Ph_)}{r:Rule}{R K K' : List Oc}{V V' : List Int}{B:Nat}{x:Step}
noncomputable def muV (g:Gm_) (ph:List (List Ph_)) (r:Rule) (V:List Int):Nat:=sumN (fun j=>wP ((phP g ph r ((j+1:Nat):Int)).drop (at0 V ((j+1:Nat):Int)).toNat)) r.rt_.length
noncomputable def Phi (g:Gm_) (ph:List (List Ph_)) (r:Rule) (R K:List Oc) (V:List Int):Nat:=K.length+2*nK R K+muV g ph r V
theorem k8K (pos:Int)(ns:List BA_):Phi g ph r R (addN K pos ns) V≤Phi g ph r R K V+ns.length:=by
 have h1:nK R (addN K pos ns)≤nK R K:=j9X fun o ho=>Foz _ ho
 have h2:(addN K pos ns).length=K.length+ns.length:=by simp[addN]
 unfold Phi;omega
theorem j9Y (hph:∀ p∈ph,PS p)(H:Iv g ph r K V B)(h:nxS g ph r R K V=some (x,K',V')):Iv g ph r K' V' K'.length∧Phi g ph r R K' V'+1≤Phi g ph r R K V:=by
 unfold nxS at h
 cases he:nxE r R K with
 | some o=>
  rw[he] at h
  cases h
  refine⟨⟨H.len,H.rng,Acz _⟩,?_⟩
  have h1:=List.find?_some he
  have h2:=List.mem_of_find?_eq_some he
  have h3:o∉K:=by
   simp only[Afz,Bool.not_eq_true',decide_eq_false_iff_not] at h1
   exact h1.1
  have:=k4S h3 h2
  have e:(K++[o]).length=K.length+1:=by simp
  unfold Phi
  omega
 | none=>
  rw[he] at h
  cases hv:nxV g ph r K V with
  | none=>rw[hv] at h;cases h
  | some j=>
   rw[hv] at h
   cases h
   obtain⟨_,h1,h2⟩:=j4f hv
   have hc:at0 V ((j+1:Nat):Int)<((phP g ph r ((j+1:Nat):Int)).length:Int):=by
    unfold vsB at h2;simp only[Afz,decide_eq_true_eq] at h2;exact h2.1
   obtain⟨a1,a2,a3⟩:=H.at' (k:=((j+1:Nat):Int)) (by omega) (by omega)
   have hkl:((j+1:Nat):Int).toNat<V.length:=by rw[H.len];omega
   refine⟨H.set (k:=((j+1:Nat):Int)) (by omega) (by omega) (by omega) (by omega) (Acz _),?_⟩
   have hx:=z8g (g:=g) (ph:=ph) (r:=r) a1 hc
   have hw:=k8J hx
   have hs:∀ i:Int,at0 (vsV V j) i=if ((j+1:Nat):Int).toNat=i.toNat then at0 V ((j+1:Nat):Int)+1 else at0 V i:=fun i=>k7j hkl i
   have hmu:muV g ph r (vsV V j)+((phAt g ph r ((j+1:Nat):Int) (at0 V ((j+1:Nat):Int))).Synthesized.length+1)≤muV g ph r V:=by
    unfold muV
    refine k1f (j:=j) (by omega) (fun i hi hn=>?_) ?_
    ·rw[hs,ifN (by omega)]
    ·rw[hs,ifP rfl,show (at0 V ((j+1:Nat):Int)+1).toNat=(at0 V ((j+1:Nat):Int)).toNat+1 by omega]
     exact hw
   have h3:nK R (vsK g ph r K V j)≤nK R K:=j9X fun o ho=>Foz _ ho
   have h4:(vsK g ph r K V j).length=K.length+(phAt g ph r ((j+1:Nat):Int) (at0 V ((j+1:Nat):Int))).Synthesized.length:=by simp[vsK,addN]
   unfold Phi
   omega
inductive Blt (g:Gm_) (ph:List (List Ph_)) (r:Rule) (R:List Oc):List Oc→List Int→List Step→List Oc→List Int→Prop
 | nil (K:List Oc) (V:List Int):Blt g ph r R K V [] K V
 | cons {K:List Oc} {V:List Int} {x:Step} {K1:List Oc} {V1:List Int} {xs:List Step} {K2:List Oc} {V2:List Int}:nxS g ph r R K V=some (x,K1,V1)→Blt g ph r R K1 V1 xs K2 V2→Blt g ph r R K V (x::xs) K2 V2
abbrev tupI (q:Step×Bool×visits)(st:List Step):Step×Bool×BA_×BA_×Bool×(List Oc)×(List Oc)×(List Int)×(List Step):=(q.1,q.2.1,q.2.2.r.Name,q.2.2.r.Left,q.2.2.r.ll_,q.2.2.due,q.2.2.known,q.2.2.next,st)
noncomputable def stp (g:Gm_) (ph:List (List Ph_)) (r:Rule) (R K:List Oc) (V:List Int):Step×Bool×visits:=match nxS g ph r R K V with|some (x,K',V')=>(x,true,⟨g,ph,r,R,K',V'⟩)|none=>(⟨0,0,0,(⟨#[]⟩:BA_)⟩,false,⟨g,ph,r,R,K,V⟩)
theorem k4V (hph:∀ p∈ph,PS p)(hr:Sz.szd r≤1048576)(hR:q3W g r=some R)(K0:List Oc)(V0:List Int):∀ (n:Nat) {K:List Oc} {V:List Int} {st:List Step},Phi g ph r R K V≤n→Iv g ph r K V K.length→st.length+Phi g ph r R K V≤10000000 →
  ∃ K' V' st',(∃ xs,st'=st++xs∧Blt g ph r R K V xs K' V')∧Iv g ph r K' V' K'.length∧st'.length+Phi g ph r R K' V'≤st.length+Phi g ph r R K V ∧
   q4D (z2F g ph r) (V.drop 1,r.Name,r.Left,r.ll_,K,st)=some (V'.drop 1,r.Name,r.Left,r.ll_,K',st',false) ∧
   q4D (z5W ⟨g,ph,r,R,K0,V0⟩) (tupI (stp g ph r R K V) st)=some (r.Name,r.Left,r.ll_,R,K',V',st',0,0,0,(⟨#[]⟩:BA_)):=by
 intro n
 induction n with
 | zero=>
  intro K V st hn H hN
  cases hx:nxS g ph r R K V with
  | some q=>
   obtain⟨x,K1,V1⟩:=q
   have:=(j9Y hph H hx).2
   omega
  | none=>
   have hk:K.length≤Phi g ph r R K V:=by unfold Phi;omega
   refine⟨K,V,st,⟨[],(List.append_nil _).symm,.nil _ _⟩,H,Acz _,q3Q ?_,q3Q ?_⟩
   ·unfold z2F
    unfold nxS at hx
    cases he:nxE r R K with
    | some o=>rw[he] at hx;cases hx
    | none=>
     rw[he] at hx
     cases hv:nxV g ph r K V with
     | some j=>rw[hv] at hx;cases hx
     | none=>
      have e1:=j6Q (ph:=ph) hr hR (K:=K) (by omega) (V.drop 1) st (by omega)
      have e2:=j4h hph hr H (by omega) st (by omega)
      rw[he] at e1
      rw[hv] at e2
      dsimp only
      rw[show (⟨g,(⟨r.Name,r.Left,r.rt_,r.ll_,r.es_,r.cs_⟩:Rule),ph,K,V.drop 1,st⟩:l28Work)=⟨g,r,ph,K,V.drop 1,st⟩ from rfl,e1,bsS]
      dsimp only
      rw[ifN (by simp),show (⟨g,(⟨r.Name,r.Left,r.rt_,r.ll_,r.es_,r.cs_⟩:Rule),ph,K,V.drop 1,st⟩:l28Work)=⟨g,r,ph,K,V.drop 1,st⟩ from rfl,e2,bsS]
      rfl
   ·unfold stp z5W
    rw[hx]
    rfl
 | succ n ih=>
  intro K V st hn H hN
  have hk:K.length≤Phi g ph r R K V:=by unfold Phi;omega
  cases hx:nxS g ph r R K V with
  | none=>
   refine⟨K,V,st,⟨[],(List.append_nil _).symm,.nil _ _⟩,H,Acz _,q3Q ?_,q3Q ?_⟩
   ·unfold z2F
    unfold nxS at hx
    cases he:nxE r R K with
    | some o=>rw[he] at hx;cases hx
    | none=>
     rw[he] at hx
     cases hv:nxV g ph r K V with
     | some j=>rw[hv] at hx;cases hx
     | none=>
      have e1:=j6Q (ph:=ph) hr hR (K:=K) (by omega) (V.drop 1) st (by omega)
      have e2:=j4h hph hr H (by omega) st (by omega)
      rw[he] at e1
      rw[hv] at e2
      dsimp only
      rw[show (⟨g,(⟨r.Name,r.Left,r.rt_,r.ll_,r.es_,r.cs_⟩:Rule),ph,K,V.drop 1,st⟩:l28Work)=⟨g,r,ph,K,V.drop 1,st⟩ from rfl,e1,bsS]
      dsimp only
      rw[ifN (by simp),show (⟨g,(⟨r.Name,r.Left,r.rt_,r.ll_,r.es_,r.cs_⟩:Rule),ph,K,V.drop 1,st⟩:l28Work)=⟨g,r,ph,K,V.drop 1,st⟩ from rfl,e2,bsS]
      rfl
   ·unfold stp z5W
    rw[hx]
    rfl
  | some q=>
   obtain⟨x,K1,V1⟩:=q
   obtain⟨H1,hd⟩:=j9Y hph H hx
   have hk1:K1.length≤Phi g ph r R K1 V1:=by unfold Phi;omega
   have hst:(st++[x]).length=st.length+1:=by simp
   obtain⟨K',V',st',⟨ys,hys,hbl⟩,i1,i2,i3,i4⟩:=ih (K:=K1) (V:=V1) (st:=st++[x]) (by omega) H1 (by omega)
   refine⟨K',V',st',⟨x::ys,by rw[hys];simp,.cons hx hbl⟩,i1,by omega,?_,?_⟩
   ·rw[q4a (s':=(V1.drop 1,r.Name,r.Left,r.ll_,K1,st++[x])) ?_]
    ·exact i3
    ·unfold z2F
     have e1:=j6Q (ph:=ph) hr hR (K:=K) (by omega) (V.drop 1) st (by omega)
     have e2:=j4h hph hr H (by omega) st (by omega)
     unfold nxS at hx
     dsimp only
     rw[show (⟨g,(⟨r.Name,r.Left,r.rt_,r.ll_,r.es_,r.cs_⟩:Rule),ph,K,V.drop 1,st⟩:l28Work)=⟨g,r,ph,K,V.drop 1,st⟩ from rfl,e1,bsS]
     cases he:nxE r R K with
     | some o=>
      rw[he] at hx
      cases hx
      rfl
     | none=>
      rw[he] at hx
      dsimp only
      rw[ifN (by simp),show (⟨g,(⟨r.Name,r.Left,r.rt_,r.ll_,r.es_,r.cs_⟩:Rule),ph,K,V.drop 1,st⟩:l28Work)=⟨g,r,ph,K,V.drop 1,st⟩ from rfl,e2,bsS]
      cases hv:nxV g ph r K V with
      | none=>rw[hv] at hx;cases hx
      | some j=>
       rw[hv] at hx
       cases hx
       rfl
   ·rw[q4a (s':=tupI (stp g ph r R K1 V1) (st++[x])) ?_]
    ·exact i4
    ·have e:=k1e (R:=R) hph hr H1 (by omega)
     unfold stp z5W
     rw[hx]
     dsimp only
     rw[ifP rfl,q3P (by constructor<;>omega),show (⟨g,ph,(⟨r.Name,r.Left,r.rt_,r.ll_,r.es_,r.cs_⟩:Rule),R,K1,V1⟩:visits)=⟨g,ph,r,R,K1,V1⟩ from rfl,e]
     cases nxS g ph r R K1 V1<;>rfl
end
end Go.Proofs.YtgkepiefcpfimaaGreatDoor
