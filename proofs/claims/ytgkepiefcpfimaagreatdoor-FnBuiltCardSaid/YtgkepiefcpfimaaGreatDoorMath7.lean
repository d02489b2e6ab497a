/- What those partial functions come to: plain lemmas on data; each bears its conditions in its statement. -/
import Derived.Test.YtgkepiefcpfimaaGreatDoorMath6
set_option linter.unusedVariables false
set_option linter.unusedSimpArgs false
set_option linter.ambiguousOpen false
set_option linter.unusedSectionVars false
set_option linter.unnecessarySimpa false
open List renaming getElem?_set→Cjz,replicate→Bqz,range→Amz,getElem?_eq_getElem→Cmz,range'→Dhz,range_eq_range'→Flz,find?_append→Fmz,length_append→Axz,mem_singleton→Bpz
open Nat renaming le_refl→Acz,le_trans→Bgz,zero_le→Aez,zero_add→Adz
open Bool renaming false_ne_true→Fnz
namespace Go.Proofs.YtgkepiefcpfimaaGreatDoor
open Go Go.E
theorem Inv.setU {g:Gm_}{all:List Rl_}(h:Inv g all){n:BA_}{j:Nat}(hj:atS g n=some j)(h2:j<g.ss_.length)(h4:all[j]?=some (q7O g all n))(h5:Valid (q7O g all n))(b:Rl_) :
  Inv g (all.set j (uniR (q7O g all n) b))∧sumA all≤sumA (all.set j (uniR (q7O g all n) b))∧(uniR (q7O g all n) b≠q7O g all n→sumA all<sumA (all.set j (uniR (q7O g all n) b))):=by
 generalize q7O g all n=old at h4 h5
 have hv:=k4j (a:=old) (b:=b) h5
 have hm:=k8w (a:=old) (b:=b) h5
 generalize uniR old b=new at hv hm
 have hset:=k0Z all j new old h4
 refine⟨⟨by simpa using h.1,fun k y a hk ha=>?_⟩,by omega,fun hne=>?_⟩
 ·rw[Cjz] at ha
  by_cases hjk:j=k
  ·subst hjk
   rw[ifP rfl,ifP (by rw[h.1];exact h2)] at ha
   cases ha
   have:=(h.2 j y old hk h4).2
   exact⟨hv.1,hv.2.trans this⟩
  ·rw[ifN hjk] at ha;exact h.2 k y a hk ha
 ·have h7:sumR old≠sumR new:=fun he=>hne (hm.2 he)
  have:=hm.1
  omega
theorem k4I {α:Type}{l:List α}{j:Nat}{x:α}(h:l[j]?=some x):l.set j x=l:=by
 apply List.ext_getElem?
 intro i
 rw[Cjz]
 by_cases hi:j=i
 ·subst hi
  have:=(List.getElem?_eq_some_iff.1 h).1
  rw[ifP rfl,ifP this,h]
 ·rw[ifN hi]
theorem k1a {g:Gm_}(h0:Sz.szd g≤1048576)(hS:Shape g){r:Rule}(hr:r∈g.rs_){x:Rl_}(hx:Valid x):∀ (m k:Nat) (c:Bool) (all:List Rl_),k+m=r.rt_.length+1→Inv g all →
  ∃ c' all',eachN (q8V g r x) k m (all,c)=some (all',c')∧q4D (q6K g r x) (all,c,(k:Int))=some (all',c')∧Inv g all'∧sumA all≤sumA all'∧(c'=true→c=true∨sumA all<sumA all') ∧
   (c'=false→c=false∧all'=all∧∀ pos:Nat,k≤pos→pos≤r.rt_.length→uniR (q7O g all (q6q r (pos:Int))) (j6N x (posL g r (pos:Int)))=q7O g all (q6q r (pos:Int)))
 | 0,k,c,all,hk,h=>by
  refine⟨c,all,rfl,q3Q ?_,h,Acz _,fun hc=>.inl hc,fun hc=>⟨hc,rfl,fun pos h1 h2=>by omega⟩⟩
  unfold q6K
  dsimp only
  rw[ifN (by omega)]
 | m+1,k,c,all,hk,h=>by
  have hs:=Bgz (z2R hr) h0
  have h3:=j5u hS hr
  have hkn:k≤r.rt_.length:=by omega
  obtain⟨j,h1,h2,h4,h5,h6⟩:=h.at_ (hS.known hr hkn)
  have hA:atI g (q6q r (k:Int))=(j:Int):=by unfold atI;rw[h1]
  have hp:=k6A hx (k4G hS r hkn)
  obtain⟨i1,i2,i3⟩:=h.setU h1 h2 h4 h5 (j6N x (posL g r (k:Int)))
  have hlen:=h5.len
  generalize hnew:uniR (q7O g all (q6q r (k:Int))) (j6N x (posL g r (k:Int)))=new at i1 i2 i3
  have e1:q8V g r x k (all,c)=some (all.set j new,c || !decide (new=q7O g all (q6q r (k:Int)))):=by
   unfold q8V
   dsimp only
   rw[z9q (q5y hs),bsS,k0Y,bsS,hA,q3P (by omega),tnC,h4,bsS,k4p (q9I h0) (q5y hs),bsS,j8r,hp.1,bsS,k8v (by omega),bsS,hnew]
   cases c with
   | true=>rfl
   | false=>rw[ifN (by simp),k8x];rfl
  have e2:q6K g r x (all,c,(k:Int))=some (.inl (all.set j new,c || !decide (new=q7O g all (q6q r (k:Int))),((k+1:Nat):Int))):=by
   unfold q6K
   dsimp only
   rw[ifP (by omega),z3O (q5y hs),bsS,k4e,bsS,hA,q3P (by omega),tnC,h4,bsS,k4o (q9I h0) (q5y hs),bsS,hp.1,bsS,k8u (by omega),bsS,hnew]
   cases c with
   | true=>rw[ifP rfl,bsS,q3P (by constructor<;>omega)];rfl
   | false=>rw[ifN (by simp),k4m,bsS,bsS,q3P (by constructor<;>omega)];rfl
  obtain⟨c',all',f1,f2,f3,f4,f5,f6⟩:=k1a h0 hS hr hx m (k+1) (c || !decide (new=q7O g all (q6q r (k:Int)))) (all.set j new) (by omega) i1
  refine⟨c',all',by rw[eachN,e1,bsS];exact f1,by rw[q4a e2];exact f2,f3,by omega,fun hc=>?_,fun hc=>?_⟩
  ·rcases f5 hc with q|q
   ·rw[Bool.or_eq_true] at q
    rcases q with q|q
    ·exact .inl q
    ·exact .inr (by have:=i3 (by simpa using q);omega)
   ·exact .inr (by omega)
  ·obtain⟨q1,q2,q3⟩:=f6 hc
   rw[Bool.or_eq_false_iff] at q1
   have hsame:new=q7O g all (q6q r (k:Int)):=by simpa using q1.2
   have hset:all.set j new=all:=by rw[hsame];exact k4I h4
   rw[hset] at q2 q3
   refine⟨q1.1,q2,fun pos p1 p2=>?_⟩
   by_cases hpk:pos=k
   ·subst hpk;rw[hnew,hsame]
   ·exact q3 pos (by omega) p2
theorem j8t (own:Rl_)(a:Nat)(x:Int):∀ (ys:List Int) (i:Nat) (o:Rl_),o.Rows.length≤1048576→eachL (z6E own a x) i ys (o.Rows,o.N)=some ((z0g own a x i ys o).Rows,(z0g own a x i ys o).N)
 | [],i,o,_=>rfl
 | y::ys,i,o,h=>by
  have e1:z6E own a x i y (o.Rows,o.N)=some ((if hasP own (a:Int) (i:Int) then addP o x y else o).Rows,(if hasP own (a:Int) (i:Int) then addP o x y else o).N):=by
   unfold z6E
   dsimp only
   rw[q9H,bsS]
   by_cases hp:hasP own (a:Int) (i:Int)
   ·rw[decide_eq_true hp,ifP rfl,ifP hp,k0G h];rfl
   ·rw[decide_eq_false hp,ifN (by simp),ifN hp];rfl
  have hl:(if hasP own (a:Int) (i:Int) then addP o x y else o).Rows.length≤1048576:=by
   split
   ·rw[(z8y o x y).1];exact h
   ·exact h
  rw[eachL,e1,bsS,z0g]
  exact j8t own a x ys (i+1) _ hl
theorem j5v (own:Rl_)(at' : List Int):∀ (xs:List Int) (a:Nat) (o:Rl_),o.Rows.length≤1048576→eachL (z6F at' own) a xs (o.Rows,o.N)=some ((z1v own at' a xs o).Rows,(z1v own at' a xs o).N)
 | [],a,o,_=>rfl
 | x::xs,a,o,h=>by
  have hl:(z0g own a x 0 at' o).Rows.length≤1048576:=by rw[(z8B own a x at' 0 o).1];exact h
  have e1:z6F at' own a x (o.Rows,o.N)=some ((z0g own a x 0 at' o).Rows,(z0g own a x 0 at' o).N):=by
   unfold z6F;dsimp only;rw[j8t own a x at' 0 o h];rfl
  rw[eachL,e1,bsS,z1v]
  exact j5v own at' xs (a+1) _ hl
theorem k4J {g:Gm_}(h0:Sz.szd g≤1048576)(hS:Shape g){r:Rule}(hr:r∈g.rs_){all:List Rl_}(h:Inv g all):∀ (m k:Nat) (o:Rl_),k+m=r.rt_.length+1→o.Rows.length≤1048576 →
  eachN (q8U g all r) k m (o.Rows,o.N)=some ((indL g r (q7O g all) m k o).Rows,(indL g r (q7O g all) m k o).N)∧q4D (z2z g r all) ((k:Int),o.Rows,o.N)=some ((indL g r (q7O g all) m k o).Rows,(indL g r (q7O g all) m k o).N)
 | 0,k,o,hk,_=>by
  refine⟨rfl,q3Q ?_⟩
  unfold z2z
  dsimp only
  rw[ifN (by omega)];rfl
 | m+1,k,o,hk,ho=>by
  have hs:=Bgz (z2R hr) h0
  have h3:=j5u hS hr
  have hkn:k≤r.rt_.length:=by omega
  obtain⟨j,h1,h2,h4,h5,h6⟩:=h.at_ (hS.known hr hkn)
  have hA:atI g (q6q r (k:Int))=(j:Int):=by unfold atI;rw[h1]
  have hlen:=j5s g r o (k:Int) (q7O g all (q6q r (k:Int)))
  obtain⟨f1,f2⟩:=k4J h0 hS hr h m (k+1) (z7d g r o (k:Int) (q7O g all (q6q r (k:Int)))) (by omega) (by rw[hlen];exact ho)
  have e1:q8U g all r k (o.Rows,o.N)=some ((z7d g r o (k:Int) (q7O g all (q6q r (k:Int)))).Rows,(z7d g r o (k:Int) (q7O g all (q6q r (k:Int)))).N):=by
   unfold q8U
   dsimp only
   rw[z9q (q5y hs),bsS,k0Y,bsS,hA,q3P (by omega),tnC,h4,bsS,k4r (q9I h0) (q5y hs) (o:=⟨o.N,o.Rows⟩) ho,bsS]
  have e2:z2z g r all ((k:Int),o.Rows,o.N)=some (.inl (((k+1:Nat):Int),(z7d g r o (k:Int) (q7O g all (q6q r (k:Int)))).Rows,(z7d g r o (k:Int) (q7O g all (q6q r (k:Int)))).N)):=by
   unfold z2z z2Y
   dsimp only
   rw[ifP (by omega),k4o (q9I h0) (q5y hs),bsS,z3O (q5y hs),bsS,k4e,bsS,hA,ifN (by omega),bsS,q3P (by omega),tnC,h4,bsS,j5v (q7O g all (q6q r (k:Int))) _ _ 0 o ho,bsS]
   dsimp only
   rw[q3P (by constructor<;>omega)]
   rfl
  rw[eachN,e1,bsS,q4a e2,indL]
  exact⟨f1,f2⟩
theorem j3X {g:Gm_}(h0:Sz.szd g≤1048576)(hS:Shape g):∀ (rs:List Rule) (i:Nat) (c:Bool) (all:List Rl_),(∀ r∈rs,r∈g.rs_)→Inv g all →
  (findL (q6d g) i rs (all,c)=some (.inr ([],false))∧findL (q6L g) i rs (all,c)=some (.inr ([],false))) ∨
  ∃ c' all',findL (q6d g) i rs (all,c)=some (.inl (all',c'))∧findL (q6L g) i rs (all,c)=some (.inl (all',c'))∧Inv g all'∧sumA all≤sumA all'∧(c'=true→c=true∨sumA all<sumA all')∧(c'=false→c=false∧all'=all∧∀ r∈rs,k4H g all r)
 | [],i,c,all,_,h=>.inr ⟨c,all,rfl,rfl,h,Acz _,fun hc=>.inl hc,fun hc=>⟨hc,rfl,fun r hr=>by cases hr⟩⟩
 | r::rs,i,c,all,hrs,h=>by
  have hr:=hrs r (by simp)
  have hs:=Bgz (z2R hr) h0
  have h3:=j5u hS hr
  obtain⟨l1,l2,l3⟩:=k7f h0 hs
  obtain⟨p1,p2⟩:=k4J h0 hS hr h (r.rt_.length+1) 0 (locR g r) (by omega) (by omega)
  obtain⟨v1,v2,v3⟩:=k4F h0 hS hr (q7O g all)
  have hl:(indL g r (q7O g all) (r.rt_.length+1) 0 (locR g r)).Rows.length≤1048576:=by rw[(k4E g r _ _ 0 _).2];omega
  have hcl:q6J (⟨(indL g r (q7O g all) (r.rt_.length+1) 0 (locR g r)).N,(indL g r (q7O g all) (r.rt_.length+1) 0 (locR g r)).Rows⟩:Rl_)=indR g r (q7O g all):=rfl
  have hxl:=v2.len
  have es:z6c g r all=some (indR g r (q7O g all)):=by
   unfold z6c
   rw[l1,bsS,show q4D (z2z g r all) (0,(locR g r).Rows,(locR g r).N)=_ from p2,bsS]
   dsimp only
   rw[j3I (r:=⟨(indL g r (q7O g all) (r.rt_.length+1) 0 (locR g r)).N,(indL g r (q7O g all) (r.rt_.length+1) 0 (locR g r)).Rows⟩) hl,bsS,hcl]
  cases hlp:k4n (indR g r (q7O g all)) with
  | true=>
   left
   constructor
   ·rw[findL]
    unfold q6d
    dsimp only
    rw[l2,bsS,q3P (by constructor<;>omega),p1,bsS]
    dsimp only
    rw[j3J (r:=⟨(indL g r (q7O g all) (r.rt_.length+1) 0 (locR g r)).N,(indL g r (q7O g all) (r.rt_.length+1) 0 (locR g r)).Rows⟩) hl,bsS,hcl,k0Q (by omega),hlp,bsS]
    rfl
   ·rw[findL]
    unfold q6L
    dsimp only
    rw[es,bsS,k0R (by omega),hlp,bsS]
    rfl
  | false=>
   obtain⟨c1,a1,e1,e2,e3,e4,e5,e6⟩:=k1a h0 hS hr v2 (r.rt_.length+1) 0 c all (by omega) h
   have g1:q6d g i r (all,c)=some (.inl (a1,c1)):=by
    unfold q6d
    dsimp only
    rw[l2,bsS,q3P (by constructor<;>omega),p1,bsS]
    dsimp only
    rw[j3J (r:=⟨(indL g r (q7O g all) (r.rt_.length+1) 0 (locR g r)).N,(indL g r (q7O g all) (r.rt_.length+1) 0 (locR g r)).Rows⟩) hl,bsS,hcl,k0Q (by omega),hlp,bsS,ifN (by simp),q3P (by constructor<;>omega),e1]
    rfl
   have g2:q6L g i r (all,c)=some (.inl (a1,c1)):=by
    unfold q6L
    dsimp only
    rw[es,bsS,k0R (by omega),hlp,bsS,ifN (by simp),show q4D (q6K g r (indR g r (q7O g all))) (all,c,0)=_ from e2]
    rfl
   rcases j3X h0 hS rs (i+1) c1 a1 (fun x hx=>hrs x (by simp[hx])) e3 with ⟨f1,f2⟩|⟨c2,a2,f1,f2,f3,f4,f5,f6⟩
   ·left
    exact⟨by rw[findL,g1,bsS];exact f1,by rw[findL,g2,bsS];exact f2⟩
   ·right
    refine⟨c2,a2,by rw[findL,g1,bsS];exact f1,by rw[findL,g2,bsS];exact f2,f3,by omega,fun hc=>?_,fun hc=>?_⟩
    ·rcases f5 hc with q|q
     ·rcases e5 q with q2|q2
      ·exact .inl q2
      ·exact .inr (by omega)
     ·exact .inr (by omega)
    ·obtain⟨q1,q2,q3⟩:=f6 hc
     obtain⟨w1,w2,w3⟩:=e6 q1
     subst w2
     refine⟨w1,q2,fun y hy=>?_⟩
     rcases List.mem_cons.1 hy with rfl|hy
     ·exact⟨hlp,fun pos hp=>w3 pos (Aez _) hp⟩
     ·exact q3 y hy
theorem k6F {g:Gm_}(h0:Sz.szd g≤1048576)(hS:Shape g):∀ (d:Nat) (all:List Rl_),Inv g all→g.ss_.length*(16*65535)-sumA all≤d →
  (q4D (q3Y g) (all,true)=some (.inr ([],false))∧q4D (q5t g) all=some ([],false)) ∨
  ∃ q,q4D (q3Y g) (all,true)=some (.inl q)∧q4D (q5t g) all=some (q,true)∧Inv g q∧∀ r∈g.rs_,k4H g q r:=by
 intro d
 induction d with
 | zero=>
  intro all h hd
  rcases j3X h0 hS g.rs_ 0 false all (fun _ h=>h) h with ⟨f1,f2⟩|⟨c,a,f1,f2,f3,f4,f5,f6⟩
  ·left
   exact⟨q3Q (by unfold q3Y;dsimp only;rw[ifP rfl,f1];rfl),q3Q (by unfold q5t;rw[f2];rfl)⟩
  ·right
   have hb:=f3.bound
   rw[f3.1] at hb
   have hc:c=false:=by
    cases c with
    | false=>rfl
    | true=>
     rcases f5 rfl with h|h
     ·cases h
     ·omega
   subst hc
   obtain⟨_,q2,q3⟩:=f6 rfl
   subst q2
   refine⟨a,?_,?_,f3,q3⟩
   ·have s1:q3Y g (a,true)=some (.inl (a,false)):=by unfold q3Y;dsimp only;rw[ifP rfl,f1];rfl
    have s2:q3Y g (a,false)=some (.inr (.inl a)):=by unfold q3Y;dsimp only;rw[ifN (by simp)]
    rw[q4a s1,q3Q s2]
   ·exact q3Q (by unfold q5t;rw[f2];rfl)
 | succ d ih=>
  intro all h hd
  rcases j3X h0 hS g.rs_ 0 false all (fun _ h=>h) h with ⟨f1,f2⟩|⟨c,a,f1,f2,f3,f4,f5,f6⟩
  ·left
   exact⟨q3Q (by unfold q3Y;dsimp only;rw[ifP rfl,f1];rfl),q3Q (by unfold q5t;rw[f2];rfl)⟩
  ·cases c with
   | false=>
    right
    obtain⟨_,q2,q3⟩:=f6 rfl
    subst q2
    refine⟨a,?_,?_,f3,q3⟩
    ·have s1:q3Y g (a,true)=some (.inl (a,false)):=by unfold q3Y;dsimp only;rw[ifP rfl,f1];rfl
     have s2:q3Y g (a,false)=some (.inr (.inl a)):=by unfold q3Y;dsimp only;rw[ifN (by simp)]
     rw[q4a s1,q3Q s2]
    ·exact q3Q (by unfold q5t;rw[f2];rfl)
   | true=>
    have hlt:sumA all<sumA a:=by
     rcases f5 rfl with h|h
     ·cases h
     ·exact h
    have hb:=f3.bound
    rw[f3.1] at hb
    have s1:q3Y g (all,true)=some (.inl (a,true)):=by unfold q3Y;dsimp only;rw[ifP rfl,f1];rfl
    have s2:q5t g all=some (.inl a):=by unfold q5t;rw[f2];rfl
    rw[q4a s1,q4a s2]
    exact ih a f3 (by omega)
theorem j5w {g:Gm_}(h0:Sz.szd g≤1048576)(hS:Shape g):eachL (z0N g) 0 g.ss_ []=some (j1E g):=by
 have hl:=hS.syms
 unfold j1E
 rw[k0X (g:=fun y:Symbol=>(⟨((q7d g y.Name).length:Int),Bqz (q7d g y.Name).length 0⟩:Rl_)) (B:=1048576) g.ss_ 0 [] (fun k y s hy hs=>by
  unfold z0N
  have:=hS.plain y.Name
  rw[j3U (q9I h0),bsS,j2j (by omega) (by omega),bsS,q3P (by constructor<;>omega),tnC]) (by simp;omega)]
 simp
theorem z8d {g:Gm_}(h0:Sz.szd g≤1048576):∃ q b,q6Z g=some (q,b)∧q8p g=some (q,b)∧(b=false→q=[])∧(b=true→z8J g=true∧Inv g q∧∀ r∈g.rs_,k4H g q r):=by
 unfold q6Z q8p
 rw[k6D h0,k6E h0]
 cases hst:k2o g with
 | false=>exact⟨[],false,rfl,rfl,fun _=>rfl,fun h=>by cases h⟩
 | true=>
  have hg:z8J g=true:=by
   unfold k2o at hst
   simp only[Bool.and_eq_true] at hst
   exact hst.1
  have hS:=z8A hg
  rcases k6F h0 hS _ (j1E g) (k4D hS) (Acz _) with ⟨f1,f2⟩|⟨q,f1,f2,f3,f4⟩
  ·refine⟨[],false,?_,?_,fun _=>rfl,fun h=>by cases h⟩
   ·rw[bsS,ifP rfl,j3W h0 hS,bsS,f1];rfl
   ·rw[bsS,ifP rfl,j5w h0 hS,bsS,f2];rfl
  ·refine⟨q,true,?_,?_,fun h=>(by cases h),fun _=>⟨hg,f3,f4⟩⟩
   ·rw[bsS,ifP rfl,j3W h0 hS,bsS,f1];rfl
   ·rw[bsS,ifP rfl,j5w h0 hS,bsS,f2];rfl
def k9r:At_:=⟨⟨#[]⟩,0,0,false⟩
def j3Y (r:Rl_)(d:List Bool)(n k:Nat):Bool:=(Amz n).all fun i=>!decide (hasP r (i:Int) (k:Int))||d.getD i false
def okK (a:List At_)(r:Rl_)(d:List Bool)(m:Int)(k:Nat):Bool:=decide ((a.getD k k9r).Mode=m) && !d.getD k false&&j3Y r d a.length k
def j1X (a:List At_)(r:Rl_)(d:List Bool)(m:Int):Option Nat:=(Amz a.length).find? (okK a r d m)
def q7P (a:List At_)(r:Rl_)(m:Int):Nat→List Bool→List Nat×List Bool
 | 0,d=>([],d)
 | f+1,d=>match j1X a r d m with
  | none=>([],d)
  | some k=>(k::(q7P a r m f (d.set k true)).1,(q7P a r m f (d.set k true)).2)
def nm (a:List At_)(k:Nat):BA_:=(a.getD k k9r).Name
theorem z6r {k:Nat}:∀ {d:List Bool},d[k]?=some false→(d.set k true).count false+1=d.count false
 | [],h=>by simp at h
 | x::d,h=>by
  cases k with
  | zero=>simp at h;subst h;simp
  | succ k=>
   have ih:=z6r (k:=k) (d:=d) (by simpa using h)
   simp only[List.set_cons_succ,List.count_cons]
   omega
theorem z0H {α:Type}{l:List α}{k:Nat}{x z:α}(h:l[k]?=some x):l.getD k z=x:=by rw[List.getD_eq_getElem?_getD,h];rfl
theorem k8G {a:List At_}{r:Rl_}{d:List Bool}(hd:d.length=a.length)(k:Nat):z0x (k:Int) a r d=some (j3Y r d a.length k):=by
 unfold z0x
 have hany:=z7V (c:=false) (xs:=a) (i:=0) (p:=fun i _=>hasP r (i:Int) (k:Int)∧d.getD i false=false) (f:=z5x (k:Int) r d) fun i x hx=>by
  rw[Adz]
  have hi:=(List.getElem?_eq_some_iff.1 hx).1
  obtain⟨b,hb⟩:∃ b,d[i]?=some b:=⟨_,Cmz (by omega)⟩
  rw[z0H hb]
  unfold z5x
  rw[z6Q,bsS]
  by_cases hp:hasP r (i:Int) (k:Int)
  ·rw[ifP (by simpa using hp),hb,bsS]
   cases b<;>simp[hp]
  ·rw[ifN (by simpa using hp)];simp[hp]
 cases hr:j3Y r d a.length k with
 | true=>
  rw[hany.2 fun i x hx hp=>?_]
  ·rfl
  ·rw[Adz] at hp
   have hi:=(List.getElem?_eq_some_iff.1 hx).1
   have:=List.all_eq_true.1 hr i (List.mem_range.2 hi)
   rw[decide_eq_true hp.1,hp.2] at this
   cases this
 | false=>
  have:∃ i,i<a.length∧hasP r (i:Int) (k:Int)∧d.getD i false=false:=by
   apply Classical.byContradiction
   intro hn
   have:j3Y r d a.length k=true:=List.all_eq_true.2 fun i hi=>by
    have hi':=List.mem_range.1 hi
    by_cases hp:hasP r (i:Int) (k:Int)
    ·cases hb:d.getD i false with
     | true=>simp
     | false=>exact absurd ⟨i,hi',hp,hb⟩ hn
    ·simp[hp]
   rw[this] at hr;cases hr
  obtain⟨i,hi,hp⟩:=this
  rw[hany.1 ⟨i,_,Cmz hi,by rw[Adz];exact hp⟩];rfl
theorem k8H {a:List At_}{r:Rl_}{d:List Bool}(hd:d.length=a.length)(hN:r.N=a.length)(k:Nat):z2B r d (k:Int)=some (j3Y r d a.length k):=by
 unfold z2B
 rw[hN,tnC]
 have hany:=j0h (c:=false) (n:=a.length) (i:=0) (p:=fun i=>hasP r (i:Int) (k:Int)∧d.getD i false=false) (f:=z7N r d (k:Int)) fun i hi=>by
  rw[Adz]
  obtain⟨b,hb⟩:∃ b,d[i]?=some b:=⟨_,Cmz (by omega)⟩
  rw[z0H hb]
  unfold z7N
  rw[q9H,bsS]
  by_cases hp:hasP r (i:Int) (k:Int)
  ·rw[ifP (by simpa using hp),hb,bsS]
   cases b<;>simp[hp]
  ·rw[ifN (by simpa using hp)];simp[hp]
 cases hr:j3Y r d a.length k with
 | true=>
  rw[hany.2 fun i hi hp=>?_]
  ·rfl
  ·rw[Adz] at hp
   have:=List.all_eq_true.1 hr i (List.mem_range.2 hi)
   rw[decide_eq_true hp.1,hp.2] at this
   cases this
 | false=>
  have:∃ i,i<a.length∧hasP r (i:Int) (k:Int)∧d.getD i false=false:=by
   apply Classical.byContradiction
   intro hn
   have:j3Y r d a.length k=true:=List.all_eq_true.2 fun i hi=>by
    have hi':=List.mem_range.1 hi
    by_cases hp:hasP r (i:Int) (k:Int)
    ·cases hb:d.getD i false with
     | true=>simp
     | false=>exact absurd ⟨i,hi',hp,hb⟩ hn
    ·simp[hp]
   rw[this] at hr;cases hr
  obtain⟨i,hi,hp⟩:=this
  rw[hany.1 ⟨i,hi,by rw[Adz];exact hp⟩];rfl
theorem j1Y {p:Nat→Bool}{n k:Nat}(hk:k<n)(hp:p k=true)(hn:∀ i,i<k→p i=false):(Amz n).find? p=some k:=by
 have e:Amz n=Amz k++(k::(Dhz (k+1) (n-k-1))):=by
  rw[Flz,Flz,show k::Dhz (k+1) (n-k-1)=Dhz k (n-k) from by
   rw[show n-k=(n-k-1)+1 by omega,List.range'_succ];rfl]
  have:=List.range'_append (s:=0) (m:=k) (n:=n-k) (step:=1)
  simp only[Nat.one_mul,Adz] at this
  rw[this];congr 1;omega
 rw[e,Fmz]
 have:(Amz k).find? p=none:=List.find?_eq_none.2 fun i hi=>by
  rw[hn i (List.mem_range.1 hi)];simp
 rw[this]
 simp[hp]
theorem j3Z {p:Nat→Bool}{n:Nat}(hn:∀ i,i<n→p i=false):(Amz n).find? p=none:=
 List.find?_eq_none.2 fun i hi=>by rw[hn i (List.mem_range.1 hi)];simp
theorem z8e {a:List At_}{r:Rl_}{d:List Bool}{m:Int}{k:Nat}(h:j1X a r d m=some k):k<a.length∧okK a r d m k=true∧d.getD k false=false:=by
 have h1:=List.mem_of_find?_eq_some h
 have h2:=List.find?_some h
 refine⟨List.mem_range.1 h1,h2,?_⟩
 unfold okK at h2
 simp only[Bool.and_eq_true,Bool.not_eq_true'] at h2
 exact h2.1.2
theorem z6s {d:List Bool}{k:Nat}(hk:k<d.length)(h:d.getD k false=false):d[k]?=some false:=by
 obtain⟨b,hb⟩:∃ b,d[k]?=some b:=⟨_,Cmz hk⟩
 rw[z0H hb] at h;rw[hb,h]
theorem j8u {a:List At_}{r:Rl_}{m:Int}{d:List Bool}(hd:d.length=a.length)(hn:a.length≤16)(acc:List BA_)(hacc:acc.length≤1000):∀ (j k:Nat),k+j=a.length→(∀ i,i<k→okK a r d m i=false) →
  q4D (q3V m a r) (acc,(k:Int),d)=match j1X a r d m with
   | none=>some (acc,d)
   | some q=>q4D (q3V m a r) (acc++[nm a q],0,d.set q true):=by
 intro j
 induction j with
 | zero=>
  intro k hk hno
  have hc:j1X a r d m=none:=j3Z fun i hi=>hno i (by omega)
  rw[hc]
  exact q3Q (by unfold q3V;dsimp only;rw[ifN (by omega)])
 | succ j ih=>
  intro k hk hno
  obtain⟨x,hx⟩:∃ x,a[k]?=some x:=⟨_,Cmz (by omega)⟩
  obtain⟨b,hb⟩:∃ b,d[k]?=some b:=⟨_,Cmz (by omega)⟩
  have hin:((if x.Mode=m then grd (0≤(k:Int)) <| (d[(k:Int).toNat]?).bind fun x2=>some (!x2) else some false).bind fun s9=>(if s9=true then (z0x (k:Int) a r d).bind fun y1=>some y1 else some false))=some (okK a r d m k):=by
   unfold okK
   rw[z0H hx,z0H hb,k8G hd]
   by_cases hm:x.Mode=m
   ·rw[ifP hm,q3P (by omega),tnC,hb]
    cases b<;>simp[hm]
   ·rw[ifN hm];simp[hm]
  cases hok:okK a r d m k with
  | true=>
   have hc:j1X a r d m=some k:=j1Y (by omega) hok hno
   rw[hc]
   have e:q3V m a r (acc,(k:Int),d)=some (.inl (acc++[nm a k],0,d.set k true)):=by
    unfold q3V
    dsimp only
    rw[ifP (by omega),q3P (by omega),tnC,hx,bsS]
    rw[tnC] at hin
    have hin2:=hin
    rw[hok] at hin2
    obtain⟨s9,h1,h2⟩:=bd hin2
    rw[h1,bsS,h2,bsS,ifP rfl,q3P (by constructor<;>omega),q3P (by omega),hb,bsS,bsS]
    dsimp only
    rw[q3P (by constructor<;>omega)]
    unfold nm
    rw[z0H hx];rfl
   rw[q4a e]
  | false=>
   have e:q3V m a r (acc,(k:Int),d)=some (.inl (acc,((k+1:Nat):Int),d)):=by
    unfold q3V
    dsimp only
    rw[ifP (by omega),q3P (by omega),tnC,hx,bsS]
    rw[tnC] at hin
    have hin2:=hin
    rw[hok] at hin2
    obtain⟨s9,h1,h2⟩:=bd hin2
    rw[h1,bsS,h2,bsS,ifN (by simp),bsS]
    dsimp only
    rw[q3P (by constructor<;>omega)];rfl
   rw[q4a e]
   exact ih (k+1) (by omega) fun i hi=>by
    by_cases h:i=k
    ·rw[h];exact hok
    ·exact hno i (by omega)
theorem k1b {a:List At_}{r:Rl_}{m:Int}(hn:a.length≤16):∀ (f:Nat) (d:List Bool) (acc:List BA_),d.length=a.length→d.count false≤f→acc.length+f≤1000 →
  q4D (q3V m a r) (acc,0,d)=some (acc++(q7P a r m f d).1.map (nm a),(q7P a r m f d).2):=by
 intro f
 induction f with
 | zero=>
  intro d acc hd hc hb
  have hs:=j8u (m:=m) (r:=r) hd hn acc (by omega) a.length 0 (by omega) (fun i hi=>absurd hi (Nat.not_lt_zero _))
  have hcand:j1X a r d m=none:=by
   cases h:j1X a r d m with
   | none=>rfl
   | some k=>
    obtain⟨h1,_,h3⟩:=z8e h
    have:=z6r (z6s (by omega) h3)
    omega
  rw[hcand] at hs
  have hs' : q4D (q3V m a r) (acc,0,d)=some (acc,d):=hs
  rw[hs'];simp[q7P]
 | succ f ih=>
  intro d acc hd hc hb
  have hs:=j8u (m:=m) (r:=r) hd hn acc (by omega) a.length 0 (by omega) (fun i hi=>absurd hi (Nat.not_lt_zero _))
  cases h:j1X a r d m with
  | none=>
   rw[h] at hs
   have hs' : q4D (q3V m a r) (acc,0,d)=some (acc,d):=hs
   rw[hs'];simp[q7P,h]
  | some k=>
   rw[h] at hs
   have hs' : q4D (q3V m a r) (acc,0,d)=q4D (q3V m a r) (acc++[nm a k],0,d.set k true):=hs
   obtain⟨h1,_,h3⟩:=z8e h
   have hcs:=z6r (z6s (by omega) h3)
   rw[hs',ih _ _ (by simp[hd]) (by omega) (by simp;omega)]
   simp[q7P,h]
theorem j4a {a:List At_}{r:Rl_}{m:Int}{d:List Bool}(hd:d.length=a.length)(hN:r.N=a.length)(hn:a.length≤16):∀ (j:Nat) (at_:Int),j≤a.length →
  q4D (z1n a r m d) (at_,(j:Int)-1)=some (match (Amz j).find? (okK a r d m) with
   | none=>at_
   | some k=>(k:Int)):=by
 intro j
 induction j with
 | zero=>
  intro at_ _
  exact q3Q (by unfold z1n;dsimp only;rw[ifN (by omega)];rfl)
 | succ j ih=>
  intro at_ hj
  have ej:((j+1:Nat):Int)-1=(j:Int):=by omega
  rw[ej]
  obtain⟨x,hx⟩:∃ x,a[j]?=some x:=⟨_,Cmz (by omega)⟩
  obtain⟨b,hb⟩:∃ b,d[j]?=some b:=⟨_,Cmz (by omega)⟩
  have hin:((if x.Mode=m then grd (0≤(j:Int)) <| (d[(j:Int).toNat]?).bind fun x2=>some (!x2) else some false).bind fun s7=>(if s7=true then (z2B r d (j:Int)).bind fun y1=>some y1 else some false))=some (okK a r d m j):=by
   unfold okK
   rw[z0H hx,z0H hb,k8H hd hN]
   by_cases hm:x.Mode=m
   ·rw[ifP hm,q3P (by omega),tnC,hb]
    cases b<;>simp[hm]
   ·rw[ifN hm];simp[hm]
  have e:z1n a r m d (at_,(j:Int))=some (.inl ((if okK a r d m j=true then (j:Int) else at_),(j:Int)-1)):=by
   unfold z1n
   dsimp only
   rw[ifP (by omega),q3P (by omega),tnC,hx,bsS]
   rw[tnC] at hin
   obtain⟨s9,h1,h2⟩:=bd hin
   rw[h1,bsS,h2,bsS]
   cases okK a r d m j with
   | true=>rw[ifP rfl,ifP rfl,bsS,q3P (by constructor<;>omega)]
   | false=>rw[ifN (by simp),ifN (by simp),bsS,q3P (by constructor<;>omega)]
  rw[q4a e,ih _ (by omega),List.range_succ,Fmz]
  cases hf:(Amz j).find? (okK a r d m) with
  | some k=>rfl
  | none=>
   cases hok:okK a r d m j<;>simp[hok]
theorem k1c {a:List At_}{r:Rl_}{m:Int}(hN:r.N=a.length)(hn:a.length≤16):∀ (f:Nat) (d:List Bool) (acc:List BA_),d.length=a.length→d.count false≤f→acc.length+f≤1000 →
  q4D (z2C a r m) (acc,d)=some (acc++(q7P a r m f d).1.map (nm a),(q7P a r m f d).2):=by
 intro f
 induction f with
 | zero=>
  intro d acc hd hc hb
  have hcand:j1X a r d m=none:=by
   cases h:j1X a r d m with
   | none=>rfl
   | some k=>
    obtain⟨h1,_,h3⟩:=z8e h
    have:=z6r (z6s (by omega) h3)
    omega
  have hs:=j4a (m:=m) hd hN hn a.length (-1) (Acz _)
  have hcand' : (Amz a.length).find? (okK a r d m)=none:=hcand
  rw[hcand'] at hs
  have hs' : q4D (z1n a r m d) (-1,(a.length:Int)-1)=some (-1):=hs
  rw[q3Q (r:=(acc,d)) (by unfold z2C;dsimp only;rw[hs',bsS,ifP (by omega)])]
  simp[q7P]
 | succ f ih=>
  intro d acc hd hc hb
  have hs:=j4a (m:=m) hd hN hn a.length (-1) (Acz _)
  cases h:j1X a r d m with
  | none=>
   have hcand' : (Amz a.length).find? (okK a r d m)=none:=h
   rw[hcand'] at hs
   have hs' : q4D (z1n a r m d) (-1,(a.length:Int)-1)=some (-1):=hs
   rw[q3Q (r:=(acc,d)) (by unfold z2C;dsimp only;rw[hs',bsS,ifP (by omega)])]
   simp[q7P,h]
  | some k=>
   obtain⟨h1,_,h3⟩:=z8e h
   have hcand' : (Amz a.length).find? (okK a r d m)=some k:=h
   rw[hcand'] at hs
   obtain⟨x,hx⟩:∃ x,a[k]?=some x:=⟨_,Cmz h1⟩
   have hdk:=z6s (by omega) h3
   have hcs:=z6r hdk
   have e:z2C a r m (acc,d)=some (.inl (acc++[nm a k],d.set k true)):=by
    unfold z2C
    dsimp only
    rw[hs,bsS]
    dsimp only
    rw[ifN (by omega),q3P (by omega),tnC,hdk,bsS,q3P (by omega),hx,bsS,q3P (by constructor<;>omega)]
    unfold nm
    rw[z0H hx]
   rw[q4a e,ih _ _ (by simp[hd]) (by omega) (by simp;omega)]
   simp[q7P,h]
theorem k1d {a:List At_}{r:Rl_}{m:Int}:∀ (f:Nat) (d:List Bool),d.length=a.length→(q7P a r m f d).2.length=a.length∧(q7P a r m f d).2.count false+(q7P a r m f d).1.length=d.count false:=by
 intro f
 induction f with
 | zero=>intro d hd;simp[q7P,hd]
 | succ f ih=>
  intro d hd
  cases h:j1X a r d m with
  | none=>simp[q7P,h,hd]
  | some k=>
   obtain⟨h1,_,h3⟩:=z8e h
   have hcs:=z6r (z6s (by omega) h3)
   have:=ih (d.set k true) (by simp[hd])
   simp only[q7P,h,lnC]
   refine⟨this.1,by omega⟩
def runP (a:List At_)(r:Rl_):Nat→List (List Nat×List Nat)→List Bool→Option (List (List Nat×List Nat))
 | 0,out,_=>some out
 | f+1,out,d=>
  if out=[]∨0<d.count false then
   if 0<a.length∧(q7P a r 1 a.length d).1=[]∧(q7P a r 2 a.length (q7P a r 1 a.length d).2).1=[] then none
   else runP a r f (out++[((q7P a r 1 a.length d).1,(q7P a r 2 a.length (q7P a r 1 a.length d).2).1)]) (q7P a r 2 a.length (q7P a r 1 a.length d).2).2
  else some out
def toPh (a:List At_)(q:List Nat×List Nat):Ph_:=⟨q.1.map (nm a),q.2.map (nm a)⟩
theorem j0u {d:List Bool}:d.count false≤d.length:=List.count_le_length
theorem z5C (d:List Bool):q6i d false=some (decide (0<d.count false)):=by
 have h:q8j d false=some (ixF d false):=by
  unfold q8j
  refine j3B fun k x=>⟨fun e=>?_,fun e=>?_⟩
  ·unfold z0M;rw[ifP e.symm]
  ·unfold z0M;rw[ifN (fun h=>e h.symm)]
 unfold q6i
 rw[h,bsS]
 congr 1
 unfold ixF
 by_cases hm:false∈d
 ·rw[ifP hm]
  have:=List.count_pos_iff.2 hm
  simp[this]
 ·rw[ifN hm]
  have:¬ 0<d.count false:=fun h=>hm (List.count_pos_iff.1 h)
  simp[this]
theorem k6G {a:List At_}{r:Rl_}(hN:r.N=a.length)(hn:a.length≤16):∀ (f:Nat) (out:List (List Nat×List Nat)) (d:List Bool),d.length=a.length→(out=[]→d.count false=a.length)→d.count false+(if out=[] then 1 else 0)≤f→out.length+f≤1000 →
  (∃ d',q4D (z1x a r) (out.map (toPh a),d)=some (match runP a r f out d with|none=>.inr ([],false)|some l=>.inl (l.map (toPh a),d'))) ∧
  ∃ d',q4D (z1A a r) (out.map (toPh a),d,((d.count false:Nat):Int))=some (match runP a r f out d with|none=>.inr ([],false)|some l=>.inl (l.map (toPh a),d')):=by
 intro f
 induction f with
 | zero=>
  intro out d hd hnil hc hb
  have ho:out≠[]:=fun e=>by rw[ifP e] at hc;omega
  rw[ifN ho] at hc
  have h0:d.count false=0:=by omega
  have hol:¬ ((out.map (toPh a)).length:Int)=0:=by
   have:=List.length_pos_iff.2 ho
   simp;exact fun e=>ho e
  refine⟨⟨d,q3Q ?_⟩,⟨d,q3Q ?_⟩⟩
  ·unfold z1x;dsimp only
   rw[ifN hol,z5C,bsS,bsS,ifN (by simp[h0])];rfl
  ·unfold z1A;dsimp only
   rw[h0,ifN (by omega),bsS,ifN (by simpa using hol)];rfl
 | succ f ih=>
  intro out d hd hnil hc hb
  by_cases hgo:out=[]∨0<d.count false
  ·have hi1:q4O 1 a r d=some ((q7P a r 1 a.length d).1.map (nm a),(q7P a r 1 a.length d).2):=by
    unfold q4O
    rw[k1b hn a.length d [] hd (by have:=j0u (d:=d);omega) (by simp;omega)];rfl
   have hl1:=k1d (a:=a) (r:=r) (m:=1) a.length d hd
   have hi2:q4O 2 a r (q7P a r 1 a.length d).2=some ((q7P a r 2 a.length (q7P a r 1 a.length d).2).1.map (nm a),(q7P a r 2 a.length (q7P a r 1 a.length d).2).2):=by
    unfold q4O
    rw[k1b hn a.length _ [] hl1.1 (by have:=j0u (d:=(q7P a r 1 a.length d).2);omega) (by simp;omega)];rfl
   have hl2:=k1d (a:=a) (r:=r) (m:=2) a.length _ hl1.1
   have hs1:z1z a r d 1=some ((q7P a r 1 a.length d).1.map (nm a),(q7P a r 1 a.length d).2):=by
    unfold z1z
    rw[k1c hN hn a.length d [] hd (by have:=j0u (d:=d);omega) (by simp;omega)];rfl
   have hs2:z1z a r (q7P a r 1 a.length d).2 2=some ((q7P a r 2 a.length (q7P a r 1 a.length d).2).1.map (nm a),(q7P a r 2 a.length (q7P a r 1 a.length d).2).2):=by
    unfold z1z
    rw[k1c hN hn a.length _ [] hl1.1 (by have:=j0u (d:=(q7P a r 1 a.length d).2);omega) (by simp;omega)];rfl
   have hdl:=j0u (d:=d)
   generalize hq1:(q7P a r 1 a.length d).1=q1 at *
   generalize hd1:(q7P a r 1 a.length d).2=d1 at *
   generalize hq2:(q7P a r 2 a.length d1).1=q2 at *
   generalize hd2:(q7P a r 2 a.length d1).2=d2 at *
   have hrun:runP a r (f+1) out d=if 0<a.length∧q1=[]∧q2=[] then none else runP a r f (out++[(q1,q2)]) d2:=by
    simp only[runP,hq1,hd1,hq2,hd2]
    rw[ifP hgo]
   have hci:(if ((out.map (toPh a)).length:Int)=0 then some true else (q6i d false).bind fun y3=>some y3)=some true:=by
    rcases hgo with h|h
    ·rw[h,ifP (by simp)]
    ·by_cases h2:((out.map (toPh a)).length:Int)=0
     ·rw[ifP h2]
     ·rw[ifN h2,z5C,bsS,decide_eq_true h]
   have hcs:(if 0<((d.count false:Nat):Int) then some true else some (decide (((out.map (toPh a)).length:Int)=0)))=some true:=by
    by_cases h:0<d.count false
    ·rw[ifP (by omega)]
    ·rw[ifN (by omega)]
     have:out=[]:=hgo.resolve_right h
     rw[this];simp
   have hlen:((q1.map (nm a)).length+(q2.map (nm a)).length:Nat)=q1.length+q2.length:=by simp
   by_cases hstop:0<a.length∧q1=[]∧q2=[]
   ·rw[hrun,ifP hstop]
    obtain⟨hp,e1,e2⟩:=hstop
    have hcd:0<d.count false∨out=[]:=hgo.symm
    refine⟨⟨d,q3Q ?_⟩,⟨d,q3Q ?_⟩⟩
    ·unfold z1x;dsimp only
     rw[hci,bsS,ifP rfl,hi1,bsS]
     dsimp only
     rw[hi2,bsS]
     dsimp only
     rw[hlen,ifP (by omega),q3P (by constructor<;>omega),bsS,ifP (by simp[e1,e2])]
    ·unfold z1A;dsimp only
     rw[hcs,bsS,ifP rfl,hs1,bsS]
     dsimp only
     rw[hs2,bsS]
     dsimp only
     rw[hlen,q3P (by constructor<;>omega)]
     have hcp:0<d.count false:=by
      rcases hgo with h|h
      ·rw[hnil h];exact hp
      ·exact h
     have hz:((q1.length+q2.length:Nat):Int)=0:=by simp[e1,e2]
     rw[ifP hz,bsS,ifP (decide_eq_true (by omega))]
   ·rw[hrun,ifN hstop]
    have hne:0<a.length→¬ ((q1.length+q2.length:Nat):Int)=0:=fun hp h=>hstop ⟨hp,List.length_eq_zero_iff.1 (by omega),List.length_eq_zero_iff.1 (by omega)⟩
    have hex:a.length=0→q1.length+q2.length=0∧d.count false=0:=fun h=>by omega
    have hol:(out++[(q1,q2)]).map (toPh a)=out.map (toPh a)++[toPh a (q1,q2)]:=by simp
    have hle:(if out=[] then 1 else 0)≤1:=by split<;>omega
    have hcount:d2.count false+(if out++[(q1,q2)]=[] then 1 else 0)≤f:=by
     rw[ifN (by simp)]
     by_cases ha:0<a.length
     ·have:=hne ha
      omega
     ·have:out=[]∨¬ out=[]:=Classical.em _
      rcases this with h|h
      ·have:=hnil h;rw[ifP h] at hc;omega
      ·have:=hgo.resolve_left h;omega
    have hih:=ih (out++[(q1,q2)]) d2 hl2.1 (fun h=>absurd h (by simp)) hcount (by rw[Axz];simp;omega)
    obtain⟨⟨di,hi⟩,⟨ds,hs⟩⟩:=hih
    refine⟨⟨di,?_⟩,⟨ds,?_⟩⟩
    ·rw[← hi,hol]
     refine q4a ?_
     unfold z1x;dsimp only
     rw[hci,bsS,ifP rfl,hi1,bsS]
     dsimp only
     rw[hi2,bsS]
     dsimp only
     rw[hlen]
     have hc8:(if 0<(a.length:Int) then grd (I64 ((q1.length+q2.length:Nat):Int)) <| some (decide (((q1.length+q2.length:Nat):Int)=0)) else some false)=some false:=by
      by_cases ha:0<a.length
      ·rw[ifP (by omega),q3P (by constructor<;>omega),decide_eq_false (hne ha)]
      ·rw[ifN (by omega)]
     rw[hc8,bsS,ifN (by simp),lnM,q3P (by constructor<;>omega)]
     rfl
    ·have hcz:((d2.count false:Nat):Int)=((d.count false:Nat):Int)-((q1.length+q2.length:Nat):Int):=by omega
     rw[← hs,hol,hcz]
     refine q4a ?_
     unfold z1A;dsimp only
     rw[hcs,bsS,ifP rfl,hs1,bsS]
     dsimp only
     rw[hs2,bsS]
     dsimp only
     rw[hlen,q3P (by constructor<;>omega)]
     have hc9:(if ((q1.length+q2.length:Nat):Int)=0 then some (decide (0<((d.count false:Nat):Int))) else some false)=some false:=by
      by_cases ha:0<a.length
      ·rw[ifN (hne ha)]
      ·rw[ifP (by omega),decide_eq_false (by omega)]
     rw[hc9,bsS,ifN (by simp),q3P (by constructor<;>omega),lnM,q3P (by constructor<;>omega)]
     rfl
  ·have ho:out≠[]:=fun e=>hgo (.inl e)
   have h0:¬ 0<d.count false:=fun h=>hgo (.inr h)
   have hol:¬ ((out.map (toPh a)).length:Int)=0:=by
    simp;exact ho
   have hrun:runP a r (f+1) out d=some out:=by simp only[runP];rw[ifN hgo]
   rw[hrun]
   refine⟨⟨d,q3Q ?_⟩,⟨d,q3Q ?_⟩⟩
   ·unfold z1x;dsimp only
    rw[ifN hol,z5C,bsS,bsS,ifN (by simpa using h0)]
   ·unfold z1A;dsimp only
    rw[ifN (by omega),bsS,ifN (fun h=>hol (of_decide_eq_true h))]
theorem j9U {r:Rl_}(h:Valid r):z1y r=some (decide (∃ k:Nat,k<r.Rows.length∧hasP (q6J r) (k:Int) (k:Int))):=by
 have hl:r.Rows.length≤1048576:=by have:=h.2.1;have:=h.2.2.1;omega
 have hN:r.N.toNat=r.Rows.length:=by have:=h.1;have:=h.2.2.1;omega
 unfold z1y
 rw[q7b,bsS,ifP (by simpa using h),j3I hl,bsS,hN]
 have hf:∀ (k:Nat),(hasP (q6J r) (k:Int) (k:Int)→z2A (q6J r) k ()=some (.inr true))∧(¬ hasP (q6J r) (k:Int) (k:Int)→z2A (q6J r) k ()=some (.inl ())):=fun k=>by
  unfold z2A
  rw[q9H,bsS]
  exact⟨fun hp=>ifP (by simpa using hp),fun hp=>ifN (by simpa using hp)⟩
 have hany:=j0h (c:=true) (n:=r.Rows.length) (i:=0) (p:=fun k=>hasP (q6J r) (k:Int) (k:Int)) (f:=z2A (q6J r)) fun k _=>by
  rw[Adz];exact hf k
 by_cases hp:∃ k:Nat,k<r.Rows.length∧hasP (q6J r) (k:Int) (k:Int)
 ·rw[decide_eq_true hp]
  obtain⟨k,hk,hpk⟩:=hp
  rw[hany.1 ⟨k,hk,by rw[Adz];exact hpk⟩];rfl
 ·rw[decide_eq_false hp]
  rw[hany.2 fun k hx hpk=>hp ⟨k,hx,by rw[Adz] at hpk;exact hpk⟩];rfl
def phR (a:List At_)(r:Rl_):Option (List (List Nat×List Nat)):=
 if Valid r∧r.N=a.length∧¬ (∃ k:Nat,k<r.Rows.length∧hasP (q6J r) (k:Int) (k:Int)) then runP a r (a.length+1) [] (Bqz a.length false) else none
def phO (a:List At_)(r:Rl_):List Ph_×Bool:=match phR a r with
 | none=>([],false)
 | some l=>(l.map (toPh a),true)
theorem k4K (n:Nat):(Bqz n false).count false=n:=by simp
theorem j6O {a:List At_}{r:Rl_}(h:phR a r=none):phO a r=([],false):=by unfold phO;rw[h]
theorem j4b {a:List At_}{r:Rl_}(hn:a.length≤16)(hr:r.Rows.length≤1048576):z4F a r=some (phO a r)∧z4K a r=some (phO a r):=by
 have hb:=fun h=>k6G (a:=a) (r:=r) h hn (a.length+1) [] (Bqz a.length false) (by simp) (fun _=>by simp) (by simp) (by simp;omega)
 unfold z4F z4K
 rw[z1u,q7b,bsS,bsS]
 by_cases hv:Valid r
 ·rw[decide_eq_true hv,ifP rfl]
  rw[bsS,bsS]
  by_cases hN:r.N=a.length
  ·have e:(!decide (r.N=(a.length:Int)))=false:=by simp[hN]
   rw[e,ifN (by simp),ifN (by simp),j3K hr,j9U hv]
   by_cases hlp:∃ k:Nat,k<r.Rows.length∧hasP (q6J r) (k:Int) (k:Int)
   ·rw[j6O (ifN (fun h=>h.2.2 hlp)),decide_eq_true hlp,bsS,bsS,bsS,ifP rfl,ifP rfl]
    exact⟨rfl,rfl⟩
   ·have ep:phR a r=runP a r (a.length+1) [] (Bqz a.length false):=ifP ⟨hv,hN,hlp⟩
    unfold phO
    rw[ep,decide_eq_false hlp,bsS,bsS,bsS,ifN (by simp),ifN (by simp),q3P (by constructor<;>omega),q3P (by constructor<;>omega)]
    obtain⟨⟨d1,h1⟩,⟨d2,h2⟩⟩:=hb hN
    rw[k4K] at h2
    simp only[List.map_nil] at h1 h2
    rw[h1,h2]
    cases runP a r (a.length+1) [] (Bqz a.length false) with
    | none=>exact⟨rfl,rfl⟩
    | some l=>exact⟨rfl,rfl⟩
  ·have e:(!decide (r.N=(a.length:Int)))=true:=by simp[hN]
   rw[j6O (ifN (fun h=>hN h.2.1)),e,ifP rfl,ifP rfl,bsS,ifP rfl]
   exact⟨rfl,rfl⟩
 ·rw[j6O (ifN (fun h=>hv h.1)),decide_eq_false hv]
  exact⟨rfl,rfl⟩
end Go.Proofs.YtgkepiefcpfimaaGreatDoor
set_option maxRecDepth 100000
set_option maxHeartbeats 4000000
namespace Go.Proofs.YtgkepiefcpfimaaGreatDoor
open Go Go.E
def PB (x:Ph_):Prop:=x.Inherited.length≤16∧x.Synthesized.length≤16
def PS (x:List Ph_):Prop:=x.length≤17∧∀ y∈x,PB y
theorem j6P {a:List At_}{r:Rl_}{m:Int}:∀ (f:Nat) (d:List Bool),(q7P a r m f d).1.length≤f
 | 0,d=>by simp[q7P]
 | f+1,d=>by
  rw[q7P]
  split
  ·simp
  ·rename_i k _
   simp only[lnC];have:=j6P (a:=a) (r:=r) (m:=m) f (d.set k true);omega
theorem k4L {a:List At_}{r:Rl_}(ha:a.length≤16):∀ (f:Nat) (out:List (List Nat×List Nat)) (d:List Bool) (l:List (List Nat×List Nat)),runP a r f out d=some l→(∀ p∈out,p.1.length≤16∧p.2.length≤16)→l.length≤out.length+f∧∀ p∈l,p.1.length≤16∧p.2.length≤16
 | 0,out,d,l,h,ho=>by rw[runP] at h;cases h;exact⟨by omega,ho⟩
 | f+1,out,d,l,h,ho=>by
  rw[runP] at h
  split at h
  ·split at h
   ·cases h
   ·have h1:=k4L ha f _ _ l h fun p hp=>by
     rcases List.mem_append.1 hp with hp|hp
     ·exact ho p hp
     ·rw[Bpz] at hp
      subst hp
      exact⟨Bgz (j6P _ _) ha,Bgz (j6P _ _) ha⟩
    exact⟨by have:=h1.1;simp only[Axz,List.length_singleton] at this;omega,h1.2⟩
  ·cases h;exact⟨by omega,ho⟩
theorem k9s {a:List At_}{r:Rl_}(ha:a.length≤16):PS (phO a r).1:=by
 unfold phO
 cases hp:phR a r with
 | none=>exact⟨Aez _,fun y hy=>nomatch hy⟩
 | some l=>
  have h:=hp
  unfold phR at h
  split at h
  ·obtain⟨h1,h2⟩:=k4L ha _ _ _ _ h (fun p hp=>nomatch hp)
   refine⟨by simp only[lnM];simp only[List.length_nil] at h1;omega,fun y hy=>?_⟩
   obtain⟨p,hp,rfl⟩:=List.mem_map.1 hy
   obtain⟨h3,h4⟩:=h2 p hp
   exact⟨by simpa[toPh] using h3,by simpa[toPh] using h4⟩
  ·cases h
theorem j1i {g:Gm_}(h0:Sz.szd g≤1048576):∃ ps c,q6l g=some (ps,c)∧q9h g=some (ps,c)∧ps.length≤4∧(∀ p∈ps,PS p):=by
 obtain⟨q,b,e1,e2,hn,hi⟩:=z8d h0
 unfold q6l q9h
 rw[e1,e2,bsS,bsS]
 dsimp only
 cases b with
 | false=>
  refine⟨[],false,rfl,?_,by simp,fun p hp=>(nomatch hp)⟩
  rw[q3Q (r:=(.inl [])) (by
   unfold q7z
   dsimp only
   split
   ·rfl
   ·rfl)]
  rfl
 | true=>
  obtain⟨hg,hI,_⟩:=hi rfl
  have hS:=z8A hg
  have hl:=hS.syms
  rw[ifP rfl]
  have key:∀ (xs:List Symbol) (i:Nat) (s:List (List Ph_)),g.ss_.drop i=xs→s.length=i→i≤g.ss_.length→(∀ p∈s,PS p)→(∃ s',findL (q6p g q) i xs s=some (.inl s')∧q4D (q7z g q true) (s,(i:Int))=some (.inl s')∧s'.length=g.ss_.length∧∀ p∈s',PS p)∨(findL (q6p g q) i xs s=some (.inr ([],false))∧q4D (q7z g q true) (s,(i:Int))=some (.inr ([],false))):=by
   intro xs
   induction xs with
   | nil=>
    intro i s hx hs hi hp
    left
    have:g.ss_.length-i=0:=by rw[← List.length_drop,hx];rfl
    exact⟨s,rfl,q3Q (by unfold q7z;dsimp only;exact ifN (by omega)),by omega,hp⟩
   | cons x xs ih=>
    intro i s hx hs hi hps
    have hlt:i<g.ss_.length:=by
     have:g.ss_.length-i=xs.length+1:=by rw[← List.length_drop,hx];rfl
     omega
    have hd:=List.drop_eq_getElem_cons hlt
    rw[hx] at hd
    injection hd with d1 d2
    have hgi:g.ss_[i]?=some x:=by rw[d1];exact Cmz hlt
    have hIl:q.length=g.ss_.length:=hI.1
    obtain⟨y,hq⟩:∃ y,q[i]?=some y:=⟨_,Cmz (by omega)⟩
    obtain⟨v1,v2⟩:=hI.2 i x _ hgi hq
    have h4:=hS.plain x.Name
    have hv:=v1.len
    obtain⟨hp,hp'⟩:=(j4b (a:=q7d g x.Name) (r:=y) (by omega) (by omega))
    have hb2:=k9s (a:=q7d g x.Name) (r:=y) (by omega)
    have hsl:s.length≤4:=by omega
    have e:q6p g q i x s=if (phO (q7d g x.Name) y).2=true then some (.inl (s++[(phO (q7d g x.Name) y).1])) else some (.inr ([],false)):=by
     unfold q6p
     rw[j0s (q9I h0),bsS,hq,bsS,hp,bsS]
     generalize phO (q7d g x.Name) y=z
     obtain⟨ps,c⟩:=z
     cases c with
     | false=>exact (ifN Fnz).trans (ifN Fnz).symm
     | true=>exact (ifP rfl).trans ((q3P (by constructor<;>omega)).trans (ifP rfl).symm)
    have e' : q7z g q true (s,(i:Int))=if (phO (q7d g x.Name) y).2=true then some (.inl (s++[(phO (q7d g x.Name) y).1],((i+1:Nat):Int))) else some (.inr (.inr ([],false))):=by
     unfold q7z
     dsimp only
     rw[ifP (by omega),ifP rfl,q3P (by omega),tnC,hgi,bsS,j3U (q9I h0),bsS,q3P (by omega),hq,bsS,hp',bsS]
     generalize phO (q7d g x.Name) y=z
     obtain⟨ps,c⟩:=z
     cases c with
     | false=>exact (ifN Fnz).trans (ifN Fnz).symm
     | true=>exact (ifP rfl).trans ((q3P (by constructor<;>omega)).trans ((q3P (by constructor<;>omega)).trans (ifP rfl).symm))
    rw[findL,e]
    by_cases hb:(phO (q7d g x.Name) y).2=true
    ·rw[ifP hb] at e' ⊢
     rw[bsS,q4a e']
     exact ih (i+1) _ d2.symm (by simp[hs]) (by omega) fun p hp=>by
      rcases List.mem_append.1 hp with hp|hp
      ·exact hps p hp
      ·rw[Bpz] at hp;subst hp;exact hb2
    ·rw[ifN hb] at e' ⊢
     exact .inr ⟨rfl,q3Q e'⟩
  rcases key g.ss_ 0 [] rfl rfl (Aez _) (fun p hp=>nomatch hp) with ⟨s',e,e',h1,h2⟩|⟨e,e'⟩
  ·rw[show ((0:Nat):Int)=0 from rfl] at e'
   rw[e,e'];exact⟨s',true,rfl,rfl,by omega,h2⟩
  ·rw[show ((0:Nat):Int)=0 from rfl] at e'
   rw[e,e'];exact⟨[],false,rfl,rfl,by simp,fun p hp=>(nomatch hp)⟩
end Go.Proofs.YtgkepiefcpfimaaGreatDoor
