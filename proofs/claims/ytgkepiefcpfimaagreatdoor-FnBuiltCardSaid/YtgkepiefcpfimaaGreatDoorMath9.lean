/- What those partial functions come to: plain lemmas on data; each bears its conditions in its statement. -/
import Derived.Test.YtgkepiefcpfimaaGreatDoorMath8
set_option linter.unusedVariables false
set_option linter.unusedSimpArgs false
set_option linter.ambiguousOpen false
set_option linter.unusedSectionVars false
set_option linter.unnecessarySimpa false
open Nat renaming le_refl→Acz,zero_add→Adz
open List renaming replicate→Bqz,getD_eq_getElem?_getD→Cwz,getElem?_replicate→Fdz,length_nil→Dxz,length_drop→Bsz,drop_eq_getElem_cons→Csz,getElem?_eq_getElem→Cmz,mem_of_getElem?→Bvz,mem_of_find?_eq_some→Eaz
open Bool renaming false_ne_true→Fnz
namespace Go.Proofs.YtgkepiefcpfimaaGreatDoor
open Go Go.E
section
variable {g:Gm_}{ph:List (List Ph_)}{r:Rule}{R K K' : List Oc}{V V' : List Int}{B:Nat}{x:Step}
def fin (i:Nat):Step:=⟨3,0,((i+1:Nat):Int),(⟨#[]⟩:BA_)⟩
inductive Pst (g:Gm_) (ph:List (List Ph_)) (r:Rule) (R:List Oc):Nat→List Ph_→List Oc→List Int→List Step→List Oc→List Int→Prop
 | nil (i:Nat) (K:List Oc) (V:List Int):Pst g ph r R i [] K V [] K V
 | cons {i:Nat} {p:Ph_} {ps:List Ph_} {K:List Oc} {V:List Int} {ys zs:List Step} {K1:List Oc} {V1:List Int} {K2:List Oc} {V2:List Int}:Blt g ph r R (addN K 0 p.Inherited) V ys K1 V1→Iv g ph r (addN K 0 p.Inherited) V (addN K 0 p.Inherited).length→z5s K1 0 p.Synthesized=true→Pst g ph r R (i+1) ps K1 V1 zs K2 V2→Pst g ph r R i (p::ps) K V (ys++fin i::zs) K2 V2
theorem k1g (hph:∀ p∈ph,PS p)(hr:Sz.szd r≤1048576)(hR:q3W g r=some R)(K0:List Oc)(V0:List Int):∀ (xs:List Ph_) (i:Nat) {K:List Oc} {V:List Int} {st:List Step},i+xs.length≤1048576→Iv g ph r K V K.length→st.length+Phi g ph r R K V+wI xs≤10000000 →
  (∃ K' V' st',(∃ zs,st'=st++zs∧Pst g ph r R i xs K V zs K' V')∧Iv g ph r K' V' K'.length∧st'.length≤10000000∧findL (z2G g ph r) i xs (V.drop 1,r.Name,r.Left,r.ll_,K,st)=some (.inl (V'.drop 1,r.Name,r.Left,r.ll_,K',st')) ∧
   findL (z4i ⟨g,ph,r,R,K0,V0⟩) i xs (r.Name,r.Left,r.ll_,R,K,V,st)=some (.inl (r.Name,r.Left,r.ll_,R,K',V',st'))) ∨
  (findL (z2G g ph r) i xs (V.drop 1,r.Name,r.Left,r.ll_,K,st)=some (.inr ([],false))∧findL (z4i ⟨g,ph,r,R,K0,V0⟩) i xs (r.Name,r.Left,r.ll_,R,K,V,st)=some (.inr ((⟨(⟨#[]⟩:BA_),[]⟩:RPl_),false)))
 | [],i,K,V,st,hi,H,hN=>.inl ⟨K,V,st,⟨[],(List.append_nil _).symm,.nil _ _ _⟩,H,by omega,rfl,rfl⟩
 | x::xs,i,K,V,st,hi,H,hN=>by
  rw[wI] at hN
  rw[lnC] at hi
  have hk:K.length≤Phi g ph r R K V:=by unfold Phi;omega
  have hadd:=k8K (g:=g) (ph:=ph) (r:=r) (R:=R) (K:=K) (V:=V) 0 x.Inherited
  have H1:Iv g ph r (addN K 0 x.Inherited) V (addN K 0 x.Inherited).length:=⟨H.len,H.rng,Acz _⟩
  obtain⟨K1,V1,st1,⟨ys,hys,hbl⟩,i1,i2,i3,i4⟩:=k4V hph hr hR K0 V0 _ (K:=addN K 0 x.Inherited) (V:=V) (st:=st) (Acz _) H1 (by omega)
  have hk1:(addN K 0 x.Inherited).length≤Phi g ph r R (addN K 0 x.Inherited) V:=by unfold Phi;omega
  have es:z2G g ph r i x (V.drop 1,r.Name,r.Left,r.ll_,K,st)=some (if z5s K1 0 x.Synthesized=true then .inl (V1.drop 1,r.Name,r.Left,r.ll_,K1,st1++[(⟨3,0,((i+1:Nat):Int),(⟨#[]⟩:BA_)⟩:Step)]) else .inr ([],false)):=by
   unfold z2G
   dsimp only
   rw[j8z _ _ (by dsimp only;omega),bsS]
   dsimp only
   have i3' : q4D (z2F g ph r) (V.drop 1,r.Name,r.Left,r.ll_,K++x.Inherited.map (fun n=>(⟨0,n⟩:Oc)),st)=some (V1.drop 1,r.Name,r.Left,r.ll_,K1,st1,false):=i3
   rw[i3',bsS]
   dsimp only
   rw[j8x,bsS]
   dsimp only
   by_cases hb:z5s K1 0 x.Synthesized=true
   ·rw[ifP hb,ifP hb,q3P (by constructor<;>omega)]
   ·rw[ifN hb,ifN hb]
  have ei:z4i ⟨g,ph,r,R,K0,V0⟩ i x (r.Name,r.Left,r.ll_,R,K,V,st)=some (if z5s K1 0 x.Synthesized=true then .inl (r.Name,r.Left,r.ll_,R,K1,V1,st1++[(⟨3,0,((i+1:Nat):Int),(⟨#[]⟩:BA_)⟩:Step)]) else .inr ((⟨(⟨#[]⟩:BA_),[]⟩:RPl_),false)):=by
   unfold z4i
   dsimp only
   rw[j8A _ _ (by dsimp only;omega),bsS]
   dsimp only
   have e:q8Q ⟨g,ph,r,R,K++x.Inherited.map (fun n=>(⟨0,n⟩:Oc)),V⟩=some (stp g ph r R (addN K 0 x.Inherited) V):=k1e (R:=R) hph hr H1 (by omega)
   rw[show (⟨g,ph,(⟨r.Name,r.Left,r.rt_,r.ll_,r.es_,r.cs_⟩:Rule),R,K++x.Inherited.map (fun n=>(⟨0,n⟩:Oc)),V⟩:visits)=⟨g,ph,r,R,K++x.Inherited.map (fun n=>(⟨0,n⟩:Oc)),V⟩ from rfl,e,bsS]
   generalize stp g ph r R (addN K 0 x.Inherited) V=q at i4
   obtain⟨q1,q2,q3⟩:=q
   dsimp only at i4 ⊢
   rw[i4,bsS]
   dsimp only
   rw[j8y,bsS]
   dsimp only
   by_cases hb:z5s K1 0 x.Synthesized=true
   ·rw[ifP hb,ifP hb,q3P (by constructor<;>omega)]
   ·rw[ifN hb,ifN hb]
  rw[findL,findL,es,ei]
  by_cases hb:z5s K1 0 x.Synthesized=true
  ·rw[ifP hb,ifP hb,bsS,bsS]
   have hl:(st1++[(⟨3,0,((i+1:Nat):Int),(⟨#[]⟩:BA_)⟩:Step)]).length=st1.length+1:=by simp
   rcases k1g hph hr hR K0 V0 xs (i+1) (st:=st1++[(⟨3,0,((i+1:Nat):Int),(⟨#[]⟩:BA_)⟩:Step)]) (by omega) i1 (by omega) with ⟨K2,V2,st2,⟨zs,hzs,hp⟩,j1,j2,j3,j4⟩|h
   ·exact .inl ⟨K2,V2,st2,⟨ys++fin i::zs,by rw[hzs,hys];simp[fin],.cons hbl H1 hb hp⟩,j1,j2,j3,j4⟩
   ·exact .inr h
  ·rw[ifN hb,ifN hb]
   exact .inr ⟨rfl,rfl⟩
theorem k4W (hph:∀ p∈ph,PS p)(hr:Sz.szd r≤1048576)(hR:q3W g r=some R)(hR' : z0n g r=some R)(h3:r.rt_.length≤3)(hRl:R.length≤4194304) :
  ∃ st b pl,st.length≤10000000∧z4l g ph r=some (st,b)∧z5X g ph r=some (pl,b)∧(b=true→pl=⟨r.Name,st⟩∧∃ K' V',Pst g ph r R 0 (phP g ph r 0) [] (Bqz (r.rt_.length+1) 0) st K' V'∧j4d g ph r R K' V'=true):=by
 have hl:=q5y hr
 have hp0:phS g ph r.Left=phP g ph r 0:=by unfold phP;rw[k4N]
 have hdrop:(Bqz (r.rt_.length+1) (0:Int)).drop 1=Bqz r.rt_.length 0:=by rw[List.drop_replicate];rfl
 have hps:=j4g hph g r 0
 have hI:Iv g ph r [] (Bqz (r.rt_.length+1) 0) ([]:List Oc).length:=by
  refine⟨by simp,fun k hk=>?_,Acz _⟩
  rw[Cwz,Fdz,ifP (by omega)]
  exact⟨Int.le_refl _,by show (0:Int)≤_;omega⟩
 have hmu:muV g ph r (Bqz (r.rt_.length+1) 0)≤r.rt_.length*289:=by
  unfold muV
  refine k4T fun j hj=>?_
  have h1:at0 (Bqz (r.rt_.length+1) (0:Int)) ((j+1:Nat):Int)=0:=by
   unfold at0
   rw[tnC,Cwz,Fdz,ifP (by omega)];rfl
  have h2:=j4g hph g r ((j+1:Nat):Int)
  rw[h1]
  have:=k9t h2.2
  have:=h2.1
  show wP (phP g ph r ((j+1:Nat):Int))≤289
  omega
 have hnk:nK R []≤R.length:=List.countP_le_length
 have hPhi:Phi g ph r R [] (Bqz (r.rt_.length+1) 0)≤9000000:=by
  unfold Phi
  simp only[Dxz]
  omega
 have hw:=k9u hps.2
 have hpl:=hps.1
 have hrun:=k1g hph hr hR [] (Bqz (r.rt_.length+1) 0) (phP g ph r 0) 0 (K:=[]) (V:=Bqz (r.rt_.length+1) 0) (st:=[]) (by omega) hI (by simp only[Dxz];omega)
 have eS:z4l g ph r=(findL (z2G g ph r) 0 (phP g ph r 0) ((Bqz (r.rt_.length+1) (0:Int)).drop 1,r.Name,r.Left,r.ll_,[],[])).bind (onr (fun r1=>some r1) fun (s3,s4,s5,s6,s1,s2)=>(z1o (⟨g,(⟨s4,s5,r.rt_,s6,r.es_,r.cs_⟩:Rule),ph,s1,s3,s2⟩:l28Work)).bind fun y5=>some (s2,y5)):=by
  unfold z4l
  rw[q3P (by constructor<;>omega),(j8w g ph r.Left).1,bsS,hp0,hdrop]
 have eI:z5X g ph r=(findL (z4i ⟨g,ph,r,R,[],Bqz (r.rt_.length+1) 0⟩) 0 (phP g ph r 0) (r.Name,r.Left,r.ll_,R,[],Bqz (r.rt_.length+1) 0,[])).bind (onr (fun r1=>some r1) fun (s3,s4,s5,s6,s1,s7,s2)=>(q6G (⟨g,ph,(⟨s3,s4,r.rt_,s5,r.es_,r.cs_⟩:Rule),s6,s1,s7⟩:visits)).bind fun y8=>some ((⟨r.Name,s2⟩:RPl_),y8)):=by
  unfold z5X z6D
  rw[hR',bsS,q3P (by constructor<;>omega),q3P (by constructor<;>omega),bsS,z5b hl,bsS]
 rcases hrun with ⟨K',V',st',⟨zs,hzs,hp⟩,i1,i2,e1,e2⟩|⟨e1,e2⟩
 ·refine⟨st',j4d g ph r R K' V',⟨r.Name,st'⟩,i2,?_,?_,fun hb=>⟨rfl,K',V',by rw[hzs];exact hp,hb⟩⟩
  ·rw[eS,e1,bsS]
   have:=k4P hr hR i1
   show ((z1o ⟨g,r,ph,K',V'.drop 1,[]⟩).bind fun y5=>some (st',y5))=_
   rw[this,bsS]
  ·rw[eI,e2,bsS]
   show ((q6G ⟨g,ph,r,R,K',V'⟩).bind fun y8=>some ((⟨r.Name,st'⟩:RPl_),y8))=_
   rw[j9W hr i1,bsS]
 ·refine⟨[],false,⟨(⟨#[]⟩:BA_),[]⟩,by simp,?_,?_,fun h=>nomatch h⟩
  ·rw[eS,e1];rfl
  ·rw[eI,e2];rfl
end
theorem j4i {g:Gm_}(h0:Sz.szd g≤1048576){ps:List (List Ph_)}(e:q6l g=some (ps,true)):Shape g:=by
 obtain⟨q,b,e1,e2,hn,hi⟩:=z8d h0
 cases b with
 | false=>
  unfold q6l at e
  rw[e1,bsS] at e
  dsimp only at e
  rw[ifN (by simp)] at e
  cases e
 | true=>
  obtain⟨hg,hI,_⟩:=hi rfl
  exact z8A hg
def PL (p:RPl_):Prop:=p.Steps.length≤10000000
def GP (g:Gm_)(ps:List (List Ph_))(r:Rule)(p:RPl_):Prop:=p.Rule=r.Name∧∃ K V,Pst g ps r (reqL g r) 0 (phP g ps r 0) [] (Bqz (r.rt_.length+1) 0) p.Steps K V∧j4d g ps r (reqL g r) K V=true
theorem k2s {g:Gm_}(h0:Sz.szd g≤1048576):∃ pl c,z3s g=some (pl,c)∧z3A g=some (pl,c)∧pl.length≤8∧(∀ p∈pl,PL p)∧(c=false→pl=[])∧(c=true→∃ ps,q6l g=some (ps,true)∧(∀ p∈ps,PS p)∧pl.length=g.rs_.length∧∀ (j:Nat) p,pl[j]?=some p→∃ r,g.rs_[j]?=some r∧GP g ps r p):=by
 obtain⟨ps,c,e1,e2,hn,hps⟩:=j1i h0
 unfold z3s z3A
 rw[e1,e2,bsS,bsS]
 dsimp only
 cases c with
 | false=>
  refine⟨[],false,rfl,?_,by simp,fun p hp=>(nomatch hp),fun _=>rfl,fun h=>nomatch h⟩
  rw[q3Q (r:=(.inl [])) (by
   unfold q9z
   dsimp only
   split
   ·rfl
   ·rfl)]
  rfl
 | true=>
  have hS:=j4i h0 e1
  have hl:=hS.rules
  rw[ifP rfl]
  have key:∀ (xs:List Rule) (i:Nat) (s:List RPl_),g.rs_.drop i=xs→s.length=i→i≤g.rs_.length→(∀ p∈s,PL p)→(∀ (j:Nat) p,s[j]?=some p→∃ r,g.rs_[j]?=some r∧GP g ps r p)→(∃ s',findL (z1Y g ps) i xs s=some (.inl s')∧q4D (q9z g ps true) (s,(i:Int))=some (.inl s')∧s'.length=g.rs_.length∧(∀ p∈s',PL p)∧∀ (j:Nat) p,s'[j]?=some p→∃ r,g.rs_[j]?=some r∧GP g ps r p)∨(findL (z1Y g ps) i xs s=some (.inr ([],false))∧q4D (q9z g ps true) (s,(i:Int))=some (.inr ([],false))):=by
   intro xs
   induction xs with
   | nil=>
    intro i s hx hs hi hp hgp
    left
    have:g.rs_.length-i=0:=by rw[← Bsz,hx];rfl
    exact⟨s,rfl,q3Q (by unfold q9z;dsimp only;exact ifN (by omega)),by omega,hp,hgp⟩
   | cons x xs ih=>
    intro i s hx hs hi hpp hgp
    have hlt:i<g.rs_.length:=by
     have:g.rs_.length-i=xs.length+1:=by rw[← Bsz,hx];rfl
     omega
    have hd:=Csz hlt
    rw[hx] at hd
    injection hd with d1 d2
    have hgi:g.rs_[i]?=some x:=by rw[d1];exact Cmz hlt
    have hxm:x∈g.rs_:=Bvz hgi
    have hxs:Sz.szd x≤1048576:=Nat.le_trans (z2R hxm) h0
    have h3:=j5u hS hxm
    have hRl:(reqL g x).length≤4194304:=by
     have:=j2m (C:=1048576) (f:=reqK g x) (j6F (q9I h0) x) (List.range' 0 (x.rt_.length+1))
     rw[List.length_range'] at this
     unfold reqL
     omega
    obtain⟨st,b,pl,r1,r2,r3,r4⟩:=k4W (ph:=ps) hps hxs (j6G (q9I h0) (q5y hxs)) (j9E (q9I h0) (q5y hxs)) h3 hRl
    have hsl:s.length≤8:=by omega
    have e:z1Y g ps i x s=if b=true then some (.inl (s++[(⟨x.Name,st⟩:RPl_)])) else some (.inr ([],false)):=by
     unfold z1Y
     rw[r3,bsS]
     cases b with
     | false=>
      dsimp only
      rw[ifN (by simp),ifN (by simp)]
     | true=>
      dsimp only
      rw[(r4 rfl).1,ifP rfl,ifP rfl,q3P (by constructor<;>omega)]
    have e' : q9z g ps true (s,(i:Int))=if b=true then some (.inl (s++[(⟨x.Name,st⟩:RPl_)],((i+1:Nat):Int))) else some (.inr (.inr ([],false))):=by
     unfold q9z
     dsimp only
     rw[ifP (by omega),ifP rfl,q3P (by omega),tnC,hgi,bsS,r2,bsS]
     cases b with
     | false=>
      dsimp only
      rw[ifN (by simp),ifN (by simp)]
     | true=>
      dsimp only
      rw[ifP rfl,ifP rfl,q3P (by constructor<;>omega),q3P (by constructor<;>omega)]
      rfl
    rw[findL,e]
    by_cases hb:b=true
    ·rw[ifP hb] at e' ⊢
     rw[bsS,q4a e']
     refine ih (i+1) _ d2.symm (by simp[hs]) (by omega) (fun p hp=>?_) fun j p hj=>?_
     ·rcases List.mem_append.1 hp with hp|hp
      ·exact hpp p hp
      ·rw[List.mem_singleton] at hp;subst hp;exact r1
     ·rcases Nat.lt_or_ge j s.length with h|h
      ·rw[List.getElem?_append_left h] at hj;exact hgp j p hj
      ·have h':=(List.getElem?_eq_some_iff.1 hj).1
       rw[List.length_append,List.length_singleton] at h'
       rw[List.getElem?_append_right h,show j-s.length=0 by omega] at hj
       cases hj
       exact⟨x,by rw[show j=i by omega];exact hgi,rfl,(r4 hb).2⟩
    ·rw[ifN hb] at e' ⊢
     exact .inr ⟨rfl,q3Q e'⟩
  rcases key g.rs_ 0 [] rfl rfl (Nat.zero_le _) (fun p hp=>nomatch hp) (fun j p hj=>nomatch hj) with ⟨s',e,e',h1,h2,h3⟩|⟨e,e'⟩
  ·rw[show ((0:Nat):Int)=0 from rfl] at e'
   rw[e,e'];exact⟨s',true,rfl,rfl,by omega,h2,(fun h=>nomatch h),fun _=>⟨ps,rfl,hps,h1,h3⟩⟩
  ·rw[show ((0:Nat):Int)=0 from rfl] at e'
   rw[e,e'];exact⟨[],false,rfl,rfl,by simp,fun p hp=>(nomatch hp),fun _=>rfl,fun h=>nomatch h⟩
theorem k8L {r:Rule}(hl:r.rt_.length≤1048576)(k:Int):symS r k=q6q r k:=by
 have h1:=k4M hl k
 rw[z3O hl k] at h1
 exact (Option.some.inj h1).symm
section
variable {g:Gm_}{ph:List (List Ph_)}{r:Rule}{R K K' K1 K2:List Oc}{V V' V1 V2:List Int}{B:Nat}{x:Step}
structure NoR (g:Gm_) (ph:List (List Ph_)) (r:Rule) (R:List Oc):Prop where
 nd:R.Nodup
 inh:∀ p∈phP g ph r 0,∀ n∈p.Inherited,(⟨0,n⟩:Oc)∉R
 syn:∀ j,j<r.rt_.length→∀ p∈phP g ph r ((j+1:Nat):Int),∀ n∈p.Synthesized,(⟨((j+1:Nat):Int),n⟩:Oc)∉R
end
end Go.Proofs.YtgkepiefcpfimaaGreatDoor
set_option maxRecDepth 100000
namespace Go.Proofs.YtgkepiefcpfimaaGreatDoor
open Go Go.E
theorem k2t {g:Gm_}(h0:Sz.szd g≤1048576){q:List Rl_}{b:Bool}(hi:q6Z g=some (q,b))(hb:b=true→z8J g=true∧Inv g q):∃ ps c,q6l g=some (ps,c)∧(c=true→b=true∧ps.length=g.ss_.length):=by
 unfold q6l
 rw[hi,bsS]
 dsimp only
 cases b with
 | false=>exact⟨[],false,rfl,fun h=>by cases h⟩
 | true=>
  obtain⟨hg,hI⟩:=hb rfl
  have hS:=z8A hg
  have hl:=hS.syms
  rw[ifP rfl]
  have key:∀ (xs:List Symbol) (i:Nat) (s:List (List Ph_)),g.ss_.drop i=xs→s.length=i→i≤g.ss_.length→(∃ s',findL (q6p g q) i xs s=some (.inl s')∧s'.length=g.ss_.length)∨findL (q6p g q) i xs s=some (.inr ([],false)):=by
   intro xs
   induction xs with
   | nil=>
    intro i s hx hs hi
    left
    have:g.ss_.length-i=0:=by rw[← Bsz,hx];rfl
    exact⟨s,rfl,by omega⟩
   | cons x xs ih=>
    intro i s hx hs hi
    have hlt:i<g.ss_.length:=by
     have:g.ss_.length-i=xs.length+1:=by rw[← Bsz,hx];rfl
     omega
    have hd:=Csz hlt
    rw[hx] at hd
    injection hd with d1 d2
    have hIl:q.length=g.ss_.length:=hI.1
    obtain⟨y,hq⟩:∃ y,q[i]?=some y:=⟨_,Cmz (by omega)⟩
    obtain⟨v1,v2⟩:=hI.2 i x _ (by rw[d1];exact Cmz hlt) hq
    have h4:=hS.plain x.Name
    have hv:=v1.len
    have hp:=(j4b (a:=q7d g x.Name) (r:=y) (by omega) (by omega)).1
    have e:q6p g q i x s=if (phO (q7d g x.Name) y).2=true then some (.inl (s++[(phO (q7d g x.Name) y).1])) else some (.inr ([],false)):=by
     unfold q6p
     rw[j0s (q9I h0),bsS,hq,bsS,hp,bsS]
     generalize phO (q7d g x.Name) y=z
     obtain⟨ps,c⟩:=z
     have hsl:s.length≤4:=by omega
     cases c with
     | false=>exact (ifN Fnz).trans (ifN Fnz).symm
     | true=>exact (ifP rfl).trans ((q3P (by constructor<;>omega)).trans (ifP rfl).symm)
    rw[findL,e]
    by_cases hb:(phO (q7d g x.Name) y).2=true
    ·rw[ifP hb,bsS]
     exact ih (i+1) _ d2.symm (by simp[hs]) (by omega)
    ·rw[ifN hb]
     exact .inr rfl
  rcases key g.ss_ 0 [] rfl rfl (Nat.zero_le _) with ⟨s',e,h1⟩|e
  ·rw[e];exact⟨s',true,rfl,fun _=>⟨rfl,h1⟩⟩
  ·rw[e];exact⟨[],false,rfl,fun h=>by cases h⟩
theorem GB.gc2 {g:Gm_}(h:GB g):GC2 g:=⟨h.1,h.2.1,h.2.2.1,fun r hr=>by obtain⟨a,c,d⟩:=h.2.2.2 r hr;exact⟨a,by omega,d⟩⟩
theorem k4X {b:List UInt8}(hb:b.length≤1048576):Ok GC2 (q9L b):=by
 unfold q9L
 refine .bind (Q:=GC2) ?_ fun g hg=>.ret hg
 unfold z1c
 obtain⟨z,hz,hz1,hz2⟩:=k9i hb
 obtain⟨zb,zi,zh⟩:=z
 dsimp only at hz1 hz2
 subst hz2
 refine .eq hz ?_
 refine drK (z0Q hb _ (cb hz1)) fun y i1 h1 _ hi1=>.ite (fun _=>?_) fun _=>?_
 ·exact drK (k4w hb hi1) fun g i2 h2 hg hi2=>.ret hg
 ·exact drK (j8q hb true hi1) fun g i2 h2 hg hi2=>.ret (GB.gc2 hg)
theorem j0x {α:Type}{f:Nat→α→Unit→Option (Unit ⊕ Bool)}:∀ (xs:List α) (i:Nat),(∀ k x,xs[k]?=some x→f (i+k) x ()=some (.inl ()))→findL f i xs ()=some (.inl ())
 | [],i,_=>rfl
 | x::xs,i,h=>by
  have h0:=h 0 x rfl
  rw[Nat.add_zero] at h0
  rw[findL,h0,bsS]
  exact j0x xs (i+1) fun k y hy=>by
   have:=h (k+1) y hy
   rwa[show i+1+k=i+(k+1) by omega]
theorem k2u (l:List Step):z3B l l=some true:=by
 unfold z3B
 rw[ifP rfl,j0x l 0 fun k x hx=>by unfold j0a;rw[Adz,hx,bsS,ifP rfl]];rfl
theorem k2v (l:List RPl_):z3C l l=some true:=by
 unfold z3C
 rw[ifP rfl,j0x l 0 fun k x hx=>by unfold j0b;rw[Adz,hx,bsS,ifP rfl,k2u];rfl];rfl
theorem Shape.rnames {g:Gm_}(h:Shape g){k j:Nat}{x y:Rule}(hk:g.rs_[k]?=some x)(hj:g.rs_[j]?=some y)(hn:x.Name=y.Name):k=j:=by
 have key:∀ {k j:Nat} {x y:Rule},g.rs_[k]?=some x→g.rs_[j]?=some y→x.Name=y.Name→¬ k<j:=by
  intro k j x y hk hj hn hlt
  have:=z4m _ _ h.rule j y hj
  unfold z2S at this
  rw[Bool.or_eq_false_iff] at this
  have h2:=this.2
  unfold dupB at h2
  rw[List.nil_append,List.any_eq_false] at h2
  exact h2 x (Bvz (i:=k) (by rw[List.getElem?_take,ifP hlt];exact hk)) (by simpa using hn)
 have h1:=key hk hj hn
 have h2:=key hj hk hn.symm
 omega
theorem j5A {pl:List RPl_}{n:BA_}:∀ {xs:List RPl_} {i j:Nat} {p:RPl_},xs[j]?=some p→p.Rule=n→(∀ k q,k<j→xs[k]?=some q→q.Rule≠n)→findL (z6G n) i xs ()=some (.inr p.Steps)
 | [],i,j,p,h,_,_=>by rw[List.getElem?_nil] at h;cases h
 | x::xs,i,0,p,h,hn,_=>by
  cases h
  rw[findL,z6G,ifP hn,bsS]
 | x::xs,i,j+1,p,h,hn,hq=>by
  rw[findL,z6G,ifN (hq 0 x (by omega) rfl),bsS]
  exact j5A (pl:=pl) h hn fun k q hk hq'=>hq (k+1) q (by omega) hq'
def okS (x:Step):Prop:=(-9223372036854775808≤x.Pos∧x.Pos≤9223372036854775807)∧(-9223372036854775808≤x.Visit∧x.Visit≤9223372036854775807)∧x.Name.size≤1048576
def okO (o:Oc):Prop:=0≤o.Pos∧o.Pos≤1048576∧o.Name.size≤1048576
def lvN (xs:List Step):Nat:=xs.countP fun x=>decide (x.Kind=3)
theorem k8M (xs ys:List Step):lvN (xs++ys)=lvN xs+lvN ys:=List.countP_append ..
theorem k1h (x:Step)(xs:List Step):lvN (x::xs)=lvN xs+if x.Kind=3 then 1 else 0:=by
 unfold lvN
 rw[List.countP_cons]
 simp
theorem k6H {xs:List Step}(h:∀ x∈xs,x.Kind≠3):lvN xs=0:=by
 unfold lvN
 rw[List.countP_eq_zero]
 intro x hx
 simpa using h x hx
theorem k7k:(⟨#[]⟩:BA_).size=0:=rfl
section
variable {g:Gm_}{ph:List (List Ph_)}{r:Rule}{R K:List Oc}{V:List Int}
theorem k9S (hph:∀ p∈ph,PS p)(h3:r.rt_.length≤3)(hR:∀ o∈R,okO o){B:Nat}(H:Iv g ph r K V B){x:Step}{K1:List Oc}{V1:List Int}(h:nxS g ph r R K V=some (x,K1,V1)):okS x∧x.Kind≠3:=by
 unfold nxS at h
 cases e:nxE r R K with
 | some o=>
  rw[e] at h
  cases h
  have ho:=hR o (Eaz e)
  obtain⟨o1,o2,o3⟩:=ho
  exact⟨⟨⟨by show _≤o.Pos;omega,by show o.Pos≤_;omega⟩,⟨by show _≤(0:Int);omega,by show (0:Int)≤_;omega⟩,o3⟩,by show (1:Int)≠3;omega⟩
 | none=>
  rw[e] at h
  dsimp only at h
  cases ev:nxV g ph r K V with
  | none=>rw[ev] at h;cases h
  | some j=>
   rw[ev] at h
   cases h
   obtain⟨_,h2,_⟩:=j4f ev
   have h4:=H.rng (j+1) (by omega)
   have h5:=(j4g hph g r ((j+1:Nat):Int)).1
   have e0:at0 V ((j+1:Nat):Int)=V.getD (j+1) 0:=by unfold at0;rw[tnC]
   refine⟨⟨⟨?_,?_⟩,⟨?_,?_⟩,?_⟩,by show (2:Int)≠3;omega⟩
   ·show _≤((j+1:Nat):Int);omega
   ·show ((j+1:Nat):Int)≤_;omega
   ·show _≤at0 V ((j+1:Nat):Int)+1;omega
   ·show at0 V ((j+1:Nat):Int)+1≤_;omega
   ·show (⟨#[]⟩:BA_).size≤_;rw[k7k];omega
theorem k9v (hph:∀ p∈ph,PS p)(h3:r.rt_.length≤3)(hR:∀ o∈R,okO o){ys:List Step}{K1:List Oc}{V1:List Int}(h:Blt g ph r R K V ys K1 V1):∀ {B:Nat},Iv g ph r K V B→∀ x∈ys,okS x∧x.Kind≠3:=by
 induction h with
 | nil=>intro B _ x hx;exact nomatch hx
 | cons hn _ ih=>
  intro B H x hx
  rcases List.mem_cons.1 hx with e|e
  ·rw[e];exact k9S hph h3 hR H hn
  ·exact ih (j9Y hph H hn).1 x e
theorem k9w (hph:∀ p∈ph,PS p)(h3:r.rt_.length≤3)(hR:∀ o∈R,okO o){i:Nat}{ps:List Ph_}{zs:List Step}{K2:List Oc}{V2:List Int}(h:Pst g ph r R i ps K V zs K2 V2):i+ps.length≤1048576→(∀ x∈zs,okS x)∧lvN zs=ps.length:=by
 induction h with
 | nil=>intro _;exact⟨fun x hx=>(nomatch hx),rfl⟩
 | @cons i p ps K V ys zs K1 V1 K2 V2 hb hi _ _ ih=>
  intro hl
  simp only[lnC] at hl
  obtain⟨i1,i2⟩:=ih (by omega)
  have hy:=k9v hph h3 hR hb hi
  refine⟨fun x hx=>?_,?_⟩
  ·rcases List.mem_append.1 hx with e|e
   ·exact (hy x e).1
   ·rcases List.mem_cons.1 e with e|e
    ·rw[e]
     refine⟨⟨?_,?_⟩,⟨?_,?_⟩,?_⟩
     ·show _≤(0:Int);omega
     ·show (0:Int)≤_;omega
     ·show _≤((i+1:Nat):Int);omega
     ·show ((i+1:Nat):Int)≤_;omega
     ·show (⟨#[]⟩:BA_).size≤_;rw[k7k];omega
    ·exact i1 x e
  ·rw[k8M,k1h,k6H fun x hx=>(hy x hx).2,i2,ifP (show (fin i).Kind=3 from rfl),lnC]
   omega
end
theorem k9x {g:Gm_}(h0:Sz.szd g≤1048576){r:Rule}(h3:r.rt_.length≤3):∀ o∈reqL g r,okO o:=fun o ho=>by
 unfold reqL at ho
 obtain⟨k,hk,ho⟩:=List.mem_flatMap.1 ho
 have hk':=List.mem_range'_1.1 hk
 unfold reqK at ho
 obtain⟨a,ha,rfl⟩:=List.mem_map.1 ho
 have ha:=(List.mem_filter.1 ha).1
 refine⟨by show (0:Int)≤(k:Int);omega,by show (k:Int)≤_;omega,?_⟩
 show a.Name.size≤1048576
 unfold q7C at ha
 cases e:g.ss_.find? fun y=>decide (y.Name=q6q r (k:Int)) with
 | none=>rw[e] at ha;exact nomatch ha
 | some y=>
  rw[e] at ha
  have ha:a∈y.as_:=ha
  have h1:=z6O ha
  have h2:=z6O (Eaz e)
  rw[j0U] at h2
  rw[z4V] at h0
  rw[j0i] at h1
  omega
theorem z8h {α:Type}{c:Prop}[Decidable c]{k:Option α}(h:c):grd c k=k:=by unfold grd;rw[ifP h]
theorem k4Y (d:Int)(x:Nat)(hd:d=(x:Int))(hx:x<10):UInt8.ofNat ((48+d) % 256).toNat=UInt8.ofNat (48+x):=by
 subst hd
 have:((48+(x:Int)) % 256).toNat=48+x:=by omega
 rw[this]
theorem k4Z:∀ (k:Nat) (n:Int) (l:List UInt8),n.natAbs<10 ^ k→n.natAbs≤9223372036854775808→l.length+k≤1000→q4D q7M (n,bl l)=some (bl (dz n.natAbs++l))
 | 0,n,l,h,_,_=>by
  have e:n=0:=by simp at h;omega
  subst e
  rw[q3Q (r:=bl l) (by unfold q7M;simp only[if_true])]
  rfl
 | k+1,n,l,h,hb,hl=>by
  by_cases h0:n=0
  ·subst h0
   rw[q3Q (r:=bl l) (by unfold q7M;simp only[if_true])]
   rfl
  ·have hu:n.natAbs≠0:=by omega
   have hq:(n.tdiv 10).natAbs=n.natAbs / 10:=by rw[Int.natAbs_tdiv];rfl
   have hm:(n.tmod 10).natAbs=n.natAbs % 10:=by rw[Int.natAbs_tmod];rfl
   have hx:n.natAbs % 10<10:=Nat.mod_lt _ (by decide)
   have hs:(bl l).size=l.length:=j5T l
   have h1s:(⟨#[UInt8.ofNat (48+n.natAbs % 10)]⟩:BA_).size=1:=rfl
   have step:q7M (n,bl l)=some (.inl (n.tdiv 10,bl (UInt8.ofNat (48+n.natAbs % 10)::l))):=by
    unfold q7M
    simp only
    rw[ifN h0]
    by_cases hneg:n.tmod 10<0
    ·rw[ifP hneg,k4Y (0-n.tmod 10) (n.natAbs % 10) (by omega) hx,z8h ⟨by omega,by omega⟩,z8h ⟨by omega,by omega⟩,z8h (by rw[h1s,hs];omega),z8h ⟨by omega,by omega⟩,j8V]
    ·rw[ifN hneg,k4Y (n.tmod 10) (n.natAbs % 10) (by omega) hx,z8h ⟨by omega,by omega⟩,z8h (by rw[h1s,hs];omega),z8h ⟨by omega,by omega⟩,j8V]
   rw[q4a step,k4Z k (n.tdiv 10) _ (by rw[hq];exact Nat.div_lt_of_lt_mul (by rw[Nat.pow_succ,Nat.mul_comm] at h;exact h)) (by rw[hq];omega) (by simp;omega),hq,k7Q hu]
   simp
theorem k7l (n:Int)(h0:-9223372036854775808≤n)(h1:n≤9223372036854775807):q6e n=some (bl (Lib.itoa n)):=by
 unfold q6e
 by_cases hz:n=0
 ·subst hz
  rw[ifP rfl]
  have:Lib.itoa 0=[48]:=by rw[Lib.itoa,ifN (by omega)];show Lib.decDigits 0=_;rw[Lib.decDigits,dif_pos (by omega)];rfl
  rw[this];rfl
 ·rw[ifN hz]
  have e:=k4Z 19 n [] (by rw[p19];omega) (by omega) (by simp)
  have e0:(⟨#[]⟩:BA_)=bl []:=rfl
  rw[e0,e,bsS,List.append_nil,dz,ifN (show ¬ n.natAbs=0 by omega),Lib.itoa]
  have hl:=j4U 19 n.natAbs (by rw[p20];omega)
  by_cases hn:n<0
  ·rw[ifP hn,ifP hn,z8h (by rw[j5T];show 1+_≤_;omega),j8V]
  ·rw[ifN hn,ifN hn]
   have:n.natAbs=n.toNat:=by omega
   rw[this]
theorem k7m (n:Int)(h0:-9223372036854775808≤n)(h1:n≤9223372036854775807):z0t n=q6e n:=by
 rw[k7l n h0 h1];rfl
theorem k8N (a:Step)(h:okS a):q9B a=q8K a:=by
 unfold q9B q8K
 rw[k7m a.Pos h.1.1 h.1.2,k7m a.Visit h.2.1.1 h.2.1.2]
theorem k5a (a:Step)(h:okS a):∃ r,q8K a=some r:=by
 obtain⟨hp,hv,hs⟩:=h
 have b:∀ n:Int,(-9223372036854775808≤n∧n≤9223372036854775807)→∃ r:BA_,q6e n=some r∧r.size≤100:=fun n hn=>by
  refine⟨_,k7l n hn.1 hn.2,?_⟩
  rw[j5T,Lib.itoa]
  have h1:-9223372036854775808≤n:=hn.1
  have h2:n≤9223372036854775807:=hn.2
  have:=j4U 19 n.natAbs (by rw[p20];omega)
  have:=j4U 19 n.toNat (by rw[p20];omega)
  by_cases h:n<0
  ·rw[ifP h,lnC];omega
  ·rw[ifN h];omega
 obtain⟨p,hp1,hp2⟩:=b _ hp
 obtain⟨v,hv1,hv2⟩:=b _ hv
 have s6:(⟨#[101,118,97,108,32,36]⟩:BA_).size=6:=rfl
 have s1:(⟨#[46]⟩:BA_).size=1:=rfl
 have s62:(⟨#[118,105,115,105,116,32]⟩:BA_).size=6:=rfl
 have s63:(⟨#[108,101,97,118,101,32]⟩:BA_).size=6:=rfl
 unfold q8K
 rw[hp1,hv1]
 simp only[bsS]
 split
 ·rw[z8h (by rw[s6];omega),z8h (by rw[ByteArray.size_append,s6,s1];omega),z8h (by rw[ByteArray.size_append,ByteArray.size_append,s6,s1];omega)];exact⟨_,rfl⟩
 ·split
  ·rw[z8h (by rw[s62];omega),z8h (by rw[ByteArray.size_append,s62,s1];omega),z8h (by rw[ByteArray.size_append,ByteArray.size_append,s62,s1];omega)];exact⟨_,rfl⟩
  ·split
   ·rw[z8h (by rw[s63];omega)];exact⟨_,rfl⟩
   ·exact⟨_,rfl⟩
theorem z9s:∀ (xs:List Step) (i:Nat) (s:Int),(∀ x∈xs,okS x)→0≤s→s+xs.length≤1000000000→findL z2H i xs s=some (.inl (s+(lvN xs:Nat)))
 | [],i,s,_,_,_=>by rw[findL];simp[lvN]
 | x::xs,i,s,h,h0,h1=>by
  simp only[lnC] at h1
  have hx:=h x (by simp)
  obtain⟨t,ht⟩:=k5a x hx
  have hi:q9B x=some t:=by rw[k8N x hx,ht]
  rw[findL,k1h]
  by_cases hk:x.Kind=3
  ·have e:z2H i x s=some (.inl (s+1)):=by
    unfold z2H
    rw[ifP hk,z8h (by constructor<;>omega),hi,bsS,ht,bsS,ifP rfl]
   rw[e,bsS,ifP hk]
   dsimp only
   rw[z9s xs (i+1) (s+1) (fun y hy=>h y (by simp[hy])) (by omega) (by omega)]
   congr 2;omega
  ·have e:z2H i x s=some (.inl s):=by
    unfold z2H
    rw[ifN hk,hi,bsS,ht,bsS,ifP rfl]
   rw[e,bsS,ifN hk]
   dsimp only
   rw[z9s xs (i+1) s (fun y hy=>h y (by simp[hy])) (by omega) (by omega)]
   congr 2
section
variable {g:Gm_}{ps:List (List Ph_)}{pl:List RPl_}
theorem k9y (h0:Sz.szd g≤1048576)(hS:Shape g){r:Rule}(hr:r∈g.rs_){k:Nat}{y:Symbol}(hy:g.ss_[k]?=some y)(hn:y.Name=r.Left){q:List Ph_}(hq:ps[k]?=some q):phP g ps r 0=q:=by
 have hl:r.rt_.length≤1048576:=q5y (Nat.le_trans (z2R hr) h0)
 have hs:symS r 0=r.Left:=by rw[k8L hl];unfold q6q;rw[ifP rfl]
 have hat:=hS.at_ hy
 rw[hn] at hat
 have hk:=(List.getElem?_eq_some_iff.1 hq).1
 have ha:atI g r.Left=(k:Int):=by unfold atI;rw[hat]
 unfold phP phS
 rw[hs]
 unfold q7h
 rw[k4e,bsS,ha,z3P,bsS,ifP (by simp;omega),q3P (by omega),tnC,hq]
 rfl
theorem k2w (h0:Sz.szd g≤1048576)(hS:Shape g)(hps:∀ p∈ps,PS p)(hlp:ps.length=g.ss_.length)(hlen:pl.length=g.rs_.length)(hPL:∀ p∈pl,PL p)(hGP:∀ (j:Nat) p,pl[j]?=some p→∃ r,g.rs_[j]?=some r∧GP g ps r p):findL (z9b g pl ps) 0 pl ()=some (.inl ()):=by
 refine j0x pl 0 fun k p hp=>?_
 rw[Adz]
 obtain⟨r,hr,hn,K,V,hP,_⟩:=hGP k p hp
 have hm:=Bvz hr
 have h3:=j5u hS hm
 have hph:=(j4g hps g r 0).1
 obtain⟨o1,o2⟩:=k9w hps h3 (k9x h0 h3) hP (by omega)
 have hlk:p.Steps.length≤10000000:=hPL p (Bvz hp)
 have hst:z6e pl p.Rule=some p.Steps:=by
  unfold z6e z8t
  rw[j5A (pl:=pl) hp rfl fun j q hj hq e=>?_,bsS,j0A,bsS]
  ·unfold q9A
   rw[z8h (by rw[Dxz];constructor<;>omega)];rfl
  ·obtain⟨r',hr',hn',_⟩:=hGP j q hq
   have:=hS.rnames hr' hr (by rw[← hn',← hn,e])
   omega
 unfold z9b
 rw[hst,bsS,z9s p.Steps 0 0 o1 (by omega) (by omega),bsS,z4p,o2,j0x g.ss_ 0 fun j y hy=>by
  rw[Adz]
  have hj:=(List.getElem?_eq_some_iff.1 hy).1
  obtain⟨q,hq⟩:∃ q,ps[j]?=some q:=⟨_,Cmz (by omega)⟩
  unfold j3e
  rw[hr,bsS]
  by_cases e:y.Name=r.Left
  ·rw[ifP e,hq,bsS,ifP (by rw[k9y h0 hS hm hy e hq];omega)]
  ·rw[ifN e]]
 rfl
end
theorem k2x (a:List UInt8):z8u a=some true:=by
 unfold z8u k0B
 rw[bsS]
 by_cases hb:1048576<(a.length:Int)
 ·rw[ifP (by simpa using hb)]
 rw[ifN (by simpa using hb)]
 have hb:a.length≤1048576:=by omega
 obtain⟨g,e,hg⟩:=k4X hb
 have hG:=szG hg
 obtain⟨pl,c,e1,e2,hl,hi,hf,ht⟩:=k2s hG
 rw[e,bsS,e1,bsS]
 dsimp only
 rw[e2,bsS]
 dsimp only
 rw[ifP rfl,k2v,bsS,bsS,ifN (by decide)]
 cases c with
 | false=>
  obtain⟨ps',c',s1,s2,s3,s4⟩:=j1i hG
  rw[hf rfl,s2];rfl
 | true=>
  obtain⟨ps,p1,p2,hlen,hGP⟩:=ht rfl
  obtain⟨ps',c',s1,s2,s3,s4⟩:=j1i hG
  rw[p1] at s1
  cases s1
  rw[s2,bsS]
  dsimp only
  have hS:=j4i hG p1
  obtain⟨q,b,q1,q2,q3,q4⟩:=z8d hG
  obtain⟨ps2,c2,w1,w2⟩:=k2t hG q1 fun h=>⟨(q4 h).1,(q4 h).2.1⟩
  rw[p1] at w1
  cases w1
  have hlp:ps.length=g.ss_.length:=(w2 rfl).2
  rw[k2w hG hS p2 hlp hlen hi hGP]
  rfl
end Go.Proofs.YtgkepiefcpfimaaGreatDoor
