/- What those partial functions come to: plain lemmas on data; each bears its conditions in its statement. -/
import Derived.Test.YtomdlgffolbdkaaGreatMath1
set_option linter.unusedVariables false
set_option linter.unusedSimpArgs false
set_option linter.ambiguousOpen false
set_option linter.unusedSectionVars false
set_option linter.unnecessarySimpa false
set_option maxRecDepth 100000
set_option maxHeartbeats 4000000
namespace Go.Proofs.YtomdlgffolbdkaaGreat
open Go Go.E
def nzR:Rl_:=⟨0,[]⟩
def atN (g:Gm_)(n:ByteArray):Nat:=(atS g n).getD 0
def InvS (g:Gm_)(A:List (List Rl_)):Prop:=A.length=g.Symbols.length∧∀ (k:Nat) (y:Symbol) (L:List Rl_),g.Symbols[k]?=some y→A[k]?=some L→L.Nodup∧∀ a∈L,z9m (q6N g y.Name) a
def lsA (g:Gm_)(A:List (List Rl_))(n:ByteArray):List Rl_:=A.getD (atN g n) []
theorem j7D {g:Gm_}{n:ByteArray}(hn:(q6J g n).2=true):∃ y,atI g n=(atN g n:Int)∧g.Symbols[atN g n]?=some y∧y.Name=n:=by
 obtain⟨j,y,h1,h2,h3,h4⟩:=j7z hn
 have e:atN g n=j:=by unfold atN;rw[h1];rfl
 refine⟨y,?_,by rw[e];exact h2,h4⟩
 unfold atI;rw[h1,e]
theorem InvS.at_ {g:Gm_}{A:List (List Rl_)}(h:InvS g A){n:ByteArray}(hn:(q6J g n).2=true):atI g n=(atN g n:Int)∧atN g n<A.length∧A[atN g n]?=some (lsA g A n)∧(lsA g A n).Nodup∧∀ a∈lsA g A n,z9m (q6N g n) a:=by
 obtain⟨y,h1,h2,h3⟩:=j7D hn
 have hj:=(List.getElem?_eq_some_iff.1 h2).1
 have e:A[atN g n]?=some (lsA g A n):=by
  unfold lsA
  rw[List.getD_eq_getElem?_getD,List.getElem?_eq_getElem (by rw[h.1];exact hj)];rfl
 have:=h.2 _ y _ h2 e
 rw[h3] at this
 exact⟨h1,by rw[h.1];exact hj,e,this⟩
theorem InvS.le {g:Gm_}(hS:Shape g){A:List (List Rl_)}(h:InvS g A){n:ByteArray}(hn:(q6J g n).2=true):(lsA g A n).length≤16:=
 z6L (hS.plain n) (h.at_ hn).2.2.2.1 (h.at_ hn).2.2.2.2
def q4F (g:Gm_)(r:Rule)(A:List (List Rl_)):List Nat:=r.Right.map fun n=>(lsA g A n).length
def z2u (g:Gm_)(r:Rule)(A:List (List Rl_))(c:List Nat):List Rl_:=(r.Right.zip c).map fun p=>(lsA g A p.1).getD p.2 nzR
def iL (l:List Nat):List Int:=l.map (fun n:Nat=>((n:Nat):Int))
def Ch (g:Gm_)(r:Rule)(A:List (List Rl_))(c:List Nat):Prop:=c.length=r.Right.length∧∀ (i:Nat) (n:ByteArray) (d:Nat),r.Right[i]?=some n→c[i]?=some d→d<(lsA g A n).length
theorem k4G {g:Gm_}{r:Rule}{A:List (List Rl_)}{c:List Nat}(h:c∈chL (q4F g r A)):Ch g r A c:=by
 unfold chL at h
 obtain⟨m,hm,rfl⟩:=List.mem_map.1 h
 refine⟨by rw[j0Z];unfold q4F;rw[lnM],fun i n d h1 h2=>?_⟩
 refine j7C (List.mem_range.1 hm) i d _ h2 ?_
 unfold q4F
 rw[List.getElem?_map,h1];rfl
theorem z7J {g:Gm_}{r:Rule}{A:List (List Rl_)}{c:List Nat}(h:Ch g r A c):(z2u g r A c).length=r.Right.length:=by
 unfold z2u
 rw[lnM,List.length_zip,h.1,Nat.min_self]
theorem j3F {g:Gm_}{r:Rule}{A:List (List Rl_)}{c:List Nat}(h:Ch g r A c){i:Nat}{n:ByteArray}{d:Nat}(h1:r.Right[i]?=some n)(h2:c[i]?=some d) :
  ∃ own,(z2u g r A c)[i]?=some own∧(lsA g A n)[d]?=some own:=by
 have hd:=h.2 i n d h1 h2
 refine⟨(lsA g A n)[d],?_,List.getElem?_eq_getElem hd⟩
 unfold z2u
 have hz:(r.Right.zip c)[i]?=some (n,d):=List.getElem?_zip_eq_some.2 ⟨h1,h2⟩
 rw[List.getElem?_map,hz]
 simp only[Option.map_some]
 rw[List.getD_eq_getElem?_getD,List.getElem?_eq_getElem hd];rfl
theorem z7K {g:Gm_}(hS:Shape g){r:Rule}(hr:r∈g.Rules){A:List (List Rl_)}(hA:InvS g A){c:List Nat}(h:Ch g r A c):FitL g r (z2u g r A c):=by
 refine⟨z7J h,fun k own hk=>?_⟩
 have hlt:=(List.getElem?_eq_some_iff.1 hk).1
 rw[z7J h] at hlt
 obtain⟨n,hn⟩:∃ n,r.Right[k]?=some n:=⟨_,List.getElem?_eq_getElem hlt⟩
 obtain⟨d,hd⟩:∃ d,c[k]?=some d:=⟨_,List.getElem?_eq_getElem (by rw[h.1];exact hlt)⟩
 obtain⟨own',h1,h2⟩:=j3F h hn hd
 rw[hk] at h1;cases h1
 have:=(hA.at_ (hS.right hr (List.mem_of_getElem? hn))).2.2.2.2 own (List.mem_of_getElem? h2)
 rw[z6K hn]
 exact⟨this.1,this.2.1⟩
noncomputable def ownR (g:Gm_) (r:Rule) (A:List (List Rl_)) (c:List Nat):Rl_:=sumS g r (z9l g r (z2u g r A c))
theorem k0X {g:Gm_}(h0:Sz.szd g≤1048576)(hS:Shape g)(r:Rule)(x:Rl_):z9m (q6N g r.Left) (sumS g r x):=by
 obtain⟨s,h1,h2⟩:=k0V (z3c h0) (r:=r) (by have:=hS.plain r.Left;omega) x
 unfold sumS
 rw[h1];exact h2
noncomputable def stA (w:Nat) (s:Rl_) (q:List (List Rl_)×Bool):List (List Rl_)×Bool:=if s∈q.1.getD w [] then q else (q.1.set w (q.1.getD w []++[s]),true)
def Ext (A B:List (List Rl_)):Prop:=B.length=A.length∧∀ (k:Nat) (L:List Rl_),A[k]?=some L→∃ t,B[k]?=some (L++t)
theorem Ext.rfl' (A:List (List Rl_)):Ext A A:=⟨rfl,fun k L h=>⟨[],by rw[List.append_nil];exact h⟩⟩
def tot (A:List (List Rl_)):Nat:=(A.map (·.length)).sum
theorem k0Y:∀ (A:List (List Rl_)) (k:Nat) (x a:List Rl_),A[k]?=some a→tot (A.set k x)+a.length=tot A+x.length
 | [],k,x,a,h=>by simp at h
 | b::A,0,x,a,h=>by simp at h;subst h;unfold tot;simp;omega
 | b::A,k+1,x,a,h=>by
  have ih:=k0Y A k x a (by simpa using h)
  unfold tot at ih ⊢
  simp only[List.set_cons_succ,List.map_cons,List.sum_cons];omega
theorem InvS.bound {g:Gm_}(hS:Shape g){A:List (List Rl_)}(h:InvS g A):tot A≤g.Symbols.length*16:=by
 have key:∀ l:List (List Rl_),(∀ a∈l,a.length≤16)→tot l≤l.length*16:=by
  intro l
  induction l with
  | nil=>intro _;simp[tot]
  | cons a l ih=>
   intro hv
   have h1:=hv a (by simp)
   have h2:=ih fun b hb=>hv b (by simp[hb])
   unfold tot at h2 ⊢
   simp only[List.map_cons,List.sum_cons,lnC]
   omega
 rw[← h.1]
 refine key A fun L hL=>?_
 obtain⟨k,hk⟩:=List.getElem?_of_mem hL
 have hlt:=(List.getElem?_eq_some_iff.1 hk).1
 obtain⟨y,hy⟩:∃ y,g.Symbols[k]?=some y:=⟨_,List.getElem?_eq_getElem (by rw[← h.1];exact hlt)⟩
 exact z6L (hS.plain y.Name) (h.2 k y L hy hk).1 (h.2 k y L hy hk).2
structure Mv (g:Gm_) (A:List (List Rl_)) (q q' : List (List Rl_)×Bool):Prop where
 inv:InvS g q'.1
 ext:Ext A q'.1
 le:tot q.1≤tot q'.1
 up:q'.2=true→q.2=true∨tot q.1<tot q'.1
 no:q'.2=false→q'=q
theorem Mv.refl {g:Gm_}{A:List (List Rl_)}{q:List (List Rl_)×Bool}(h:InvS g q.1)(he:Ext A q.1):Mv g A q q:=⟨h,he,Nat.le_refl _,fun h=>.inl h,fun _=>rfl⟩
theorem Mv.trans {g:Gm_}{A:List (List Rl_)}{p q s:List (List Rl_)×Bool}(h1:Mv g A p q)(h2:Mv g A q s):Mv g A p s:=
 ⟨h2.inv,h2.ext,Nat.le_trans h1.le h2.le,fun h=>by
  rcases h2.up h with h|h
  ·rcases h1.up h with h|h
   ·exact .inl h
   ·exact .inr (Nat.lt_of_lt_of_le h h2.le)
  ·exact .inr (Nat.lt_of_le_of_lt h1.le h),fun h=>by
  have e:=h2.no h
  rw[e] at h ⊢
  exact h1.no h⟩
theorem k4H {g:Gm_}(hS:Shape g){r:Rule}(hr:r∈g.Rules){A:List (List Rl_)}{q:List (List Rl_)×Bool}(h:InvS g q.1)(he:Ext A q.1){s:Rl_}(hs:z9m (q6N g r.Left) s):Mv g A q (stA (atN g r.Left) s q):=by
 unfold stA
 have hk:=hS.left hr
 obtain⟨h1,h2,h3,h4,h5⟩:=h.at_ hk
 have hg:q.1.getD (atN g r.Left) []=lsA g q.1 r.Left:=rfl
 rw[hg]
 by_cases hm:s∈lsA g q.1 r.Left
 ·rw[ifP hm];exact .refl h he
 ·rw[ifN hm]
  have ht:=k0Y q.1 (atN g r.Left) (lsA g q.1 r.Left++[s]) _ h3
  rw[List.length_append,List.length_singleton] at ht
  refine⟨⟨by rw[List.length_set];exact h.1,fun k y L hy hL=>?_⟩,⟨by rw[List.length_set];exact he.1,fun k L hL=>?_⟩,by dsimp only;omega,fun _=>.inr (by dsimp only;omega),fun h=>by cases h⟩
  ·dsimp only at hL
   by_cases e:atN g r.Left=k
   ·subst e
    rw[List.getElem?_set_self h2] at hL
    cases hL
    obtain⟨y',_,h7,h8⟩:=j7D hk
    rw[hy] at h7;cases h7
    rw[h8]
    refine⟨List.nodup_append.2 ⟨h4,by simp,fun a ha b hb e=>?_⟩,fun a ha=>?_⟩
    ·rw[List.mem_singleton] at hb;subst hb;subst e;exact hm ha
    ·rcases List.mem_append.1 ha with ha|ha
     ·exact h5 a ha
     ·rw[List.mem_singleton] at ha;subst ha;exact hs
   ·rw[List.getElem?_set_ne e] at hL
    exact h.2 k y L hy hL
  ·obtain⟨t,e2⟩:=he.2 k L hL
   by_cases e:atN g r.Left=k
   ·subst e
    rw[h3] at e2
    refine⟨t++[s],?_⟩
    dsimp only
    rw[List.getElem?_set_self h2,Option.some.inj e2,List.append_assoc]
   ·exact⟨t,by dsimp only;rw[List.getElem?_set_ne e];exact e2⟩
theorem Mv.fold {α:Type}{g:Gm_}{A:List (List Rl_)}{f:List (List Rl_)×Bool→α→List (List Rl_)×Bool}:∀ (l:List α) (q:List (List Rl_)×Bool),InvS g q.1→Ext A q.1→(∀ q x,x∈l→InvS g q.1→Ext A q.1→Mv g A q (f q x))→Mv g A q (l.foldl f q)
 | [],q,h,he,_=>.refl h he
 | x::l,q,h,he,hf=>by
  have h1:=hf q x (by simp) h he
  exact h1.trans (Mv.fold l _ h1.inv h1.ext fun q y hy=>hf q y (by simp[hy]))
noncomputable def runR (g:Gm_) (A:List (List Rl_)) (q:List (List Rl_)×Bool) (r:Rule):List (List Rl_)×Bool:=(chL (q4F g r A)).foldl (fun q c=>stA (atN g r.Left) (ownR g r A c) q) q
theorem k0Z {g:Gm_}(h0:Sz.szd g≤1048576)(hS:Shape g){r:Rule}(hr:r∈g.Rules){A:List (List Rl_)}{q:List (List Rl_)×Bool}(h:InvS g q.1)(he:Ext A q.1):Mv g A q (runR g A q r):=
 Mv.fold _ q h he fun q c _ h he=>k4H hS hr h he (k0X h0 hS r _)
theorem z5v (l:List Nat)(i:Nat):(iL l)[i]?=(l[i]?).map fun n:Nat=>(n:Int):=by unfold iL;rw[List.getElem?_map]
theorem z3P (l:List Nat):(iL l).length=l.length:=by unfold iL;rw[lnM]
theorem k5x (l m:List Nat):iL (l++m)=iL l++iL m:=by unfold iL;rw[List.map_append]
theorem k5y (l:List Nat)(i x:Nat):(iL l).set i (x:Int)=iL (l.set i x):=by unfold iL;rw[List.map_set]
theorem j5g:∀ (m:Nat) (cs ds e:List Nat),ds.length=cs.length→z8t (cs.drop m) (ds.drop m)=some e→z8t cs ds=some (ds.take m++e)
 | 0,cs,ds,e,_,h=>by simpa using h
 | m+1,[],ds,e,hl,h=>by rw[List.drop_nil] at h;simp[z8t] at h
 | m+1,c::cs,[],e,hl,h=>by simp at hl
 | m+1,c::cs,d::ds,e,hl,h=>by
  rw[z8t,j5g m cs ds e (by simpa using hl) (by simpa using h)];rfl
def j8S (cs ds:List Nat)(q:Int×List Int):Prop:=match z8t cs ds with
 | none=>q.1<0
 | some e=>0≤q.1∧∃ x:Nat,q.2[q.1.toNat]?=some (x:Int)∧x≤1048576∧q.2.set q.1.toNat ((x+1:Nat):Int)=iL e
theorem j7E {cs ds:List Nat}{f:(Int×List Int)→Option ((Int×List Int) ⊕ (Int×List Int))}(hf:f=q3A (iL cs))(hl:ds.length=cs.length)(hd:∀ (i d c:Nat),ds[i]?=some d→cs[i]?=some c→d<c∧c≤1048576)(hn:cs.length≤1048576) :
  ∀ m:Nat,m≤cs.length→z8t (cs.drop m) (ds.drop m)=none→∃ q,q5u f ((m:Int)-1,iL (ds.take m++List.replicate (cs.length-m) 0))=some q∧j8S cs ds q
 | 0,_,h=>by
  refine⟨_,q3G (r:=_) (by rw[hf];unfold q3A;dsimp only;rw[ifN (by omega)]),?_⟩
  unfold j8S
  rw[List.drop_zero,List.drop_zero] at h
  rw[h]
  show (0:Int)-1<0
  omega
 | m+1,hm,h=>by
  have hm1:m<cs.length:=hm
  have hm2:m<ds.length:=by omega
  obtain⟨c,hc⟩:∃ c,cs[m]?=some c:=⟨_,List.getElem?_eq_getElem hm1⟩
  obtain⟨d,hdd⟩:∃ d,ds[m]?=some d:=⟨_,List.getElem?_eq_getElem hm2⟩
  obtain⟨h1,h2⟩:=hd m d c hdd hc
  have ed:ds.drop m=d::ds.drop (m+1):=by rw[List.drop_eq_getElem_cons hm2];rw[List.getElem?_eq_getElem hm2] at hdd;rw[Option.some.inj hdd]
  have ec:cs.drop m=c::cs.drop (m+1):=by rw[List.drop_eq_getElem_cons hm1];rw[List.getElem?_eq_getElem hm1] at hc;rw[Option.some.inj hc]
  have et:ds.take (m+1)=ds.take m++[d]:=by rw[List.take_add_one,hdd];rfl
  have hlen:(ds.take m).length=m:=by rw[List.length_take];omega
  have hg:(iL (ds.take (m+1)++List.replicate (cs.length-(m+1)) 0))[m]?=some (d:Int):=by
   rw[z5v,et,List.append_assoc,List.getElem?_append_right (by omega),hlen,Nat.sub_self];rfl
  have hset:∀ x:Nat,(iL (ds.take (m+1)++List.replicate (cs.length-(m+1)) 0)).set m (x:Int)=iL (ds.take m++x::List.replicate (cs.length-(m+1)) 0):=fun x=>by
   rw[k5y,et,List.append_assoc,List.set_append_right _ _ (by omega),hlen,Nat.sub_self];rfl
  have hN:(((m+1:Nat):Int)-1)=(m:Int):=by omega
  by_cases e:d=c-1
  ·have hs:f (((m+1:Nat):Int)-1,iL (ds.take (m+1)++List.replicate (cs.length-(m+1)) 0))=some (.inl ((m:Int)-1,iL (ds.take m++List.replicate (cs.length-m) 0))):=by
    rw[hf]
    unfold q3A
    dsimp only
    rw[hN,ifP (by omega),q3y (by omega),tnC,hg,bsS,q3y (by omega),z5v,hc,Option.map_some,bsS,q3y ⟨by omega,by omega⟩,ifP (by omega),q3y ⟨by omega,by omega⟩]
    have:=hset 0
    rw[show ((0:Nat):Int)=0 from rfl] at this
    rw[this,show cs.length-m=(cs.length-(m+1))+1 by omega,List.replicate_succ]
   rw[q4I hs]
   refine j7E hf hl hd hn m (by omega) ?_
   rw[ec,ed,z8t,h]
   dsimp only
   rw[ifN (by omega)]
  ·refine⟨_,q3G (r:=_) (by
    rw[hf]
    unfold q3A
    dsimp only
    rw[hN,ifP (by omega),q3y (by omega),tnC,hg,bsS,q3y (by omega),z5v,hc,Option.map_some,bsS,q3y ⟨by omega,by omega⟩,ifN (by omega)]),?_⟩
   have hx:z8t cs ds=some (ds.take m++(d+1)::List.replicate (cs.length-(m+1)) 0):=by
    refine j5g m cs ds _ hl ?_
    rw[ec,ed,z8t,h]
    dsimp only
    rw[ifP (by omega),List.length_drop]
   unfold j8S
   rw[hx]
   dsimp only
   refine⟨by omega,d,?_,by omega,?_⟩
   ·rw[tnC];exact hg
   ·rw[tnC];exact hset (d+1)
theorem j2g {cs ds:List Nat}{f:(Int×List Int)→Option ((Int×List Int) ⊕ (Int×List Int))}(hf:f=q3A (iL cs))(hl:ds.length=cs.length)(hd:∀ (i d c:Nat),ds[i]?=some d→cs[i]?=some c→d<c∧c≤1048576)(hn:cs.length≤1048576) :
  ∃ q,q5u f (((iL cs).length:Int)-1,iL ds)=some q∧j8S cs ds q:=by
 have:=j7E hf hl hd hn cs.length (Nat.le_refl _) (by rw[List.drop_length,z8t];intro a b c d h;simp at h)
 rw[Nat.sub_self,List.replicate_zero,List.append_nil,← hl,List.take_length] at this
 rw[z3P,← hl];exact this
def sms (F:List (List found)):List (List Rl_):=F.map fun l=>l.map found.summary
theorem k1a (F:List (List found))(k:Nat):(sms F)[k]?=(F[k]?).map fun l=>l.map found.summary:=by unfold sms;rw[List.getElem?_map]
theorem j7F (l:List Int)(h:l.length≤1048576):q4Z l=some l:=by
 unfold q4Z
 rw[q3y (by rw[List.length_nil];constructor<;>omega)]
theorem k4I (fs:List found)(s:Rl_):q3O fs s=some (decide (s∈fs.map found.summary)):=by
 unfold q3O q4w
 rw[z2t (q:=fun f:found=>decide (f.summary=s)) (c:=fun k=>(k:Int)) fun j x hx=>by
  unfold q5Q z0N
  rw[k4y,bsS,bsS,← apply_ite some]]
 cases e:fs.findIdx? fun f=>decide (f.summary=s) with
 | none=>
  rw[List.findIdx?_eq_none_iff] at e
  have:¬ s∈fs.map found.summary:=fun h=>by
   obtain⟨f,h1,h2⟩:=List.mem_map.1 h
   have:=e f h1
   simp[h2] at this
  rw[decide_eq_false this];rfl
 | some j=>
  rw[List.findIdx?_eq_some_iff_getElem] at e
  obtain⟨hj,h1,h2⟩:=e
  have:s∈fs.map found.summary:=List.mem_map.2 ⟨fs[j],List.getElem_mem hj,of_decide_eq_true h1⟩
  rw[decide_eq_true this]
  dsimp only
  simp only[bsS,z6e]
  rw[decide_eq_true (by omega)]
theorem k4J {g:Gm_}(h0:Sz.szd g≤1048576)(hS:Shape g){r:Rule}(hr:r∈g.Rules){F:List (List found)}{b:Bool}(hi:InvS g (sms F)){c:List Int}(hc:c.length≤1048576)(x:Rl_) :
  ∃ F',z0X c x g F b r (atI g r.Left)=some (true,F',(stA (atN g r.Left) (sumS g r x) (sms F,b)).2)∧sms F'=(stA (atN g r.Left) (sumS g r x) (sms F,b)).1:=by
 obtain⟨h1,h2,h3,h4,h5⟩:=hi.at_ (hS.left hr)
 have hle:=hi.le hS (hS.left hr)
 have hw:atN g r.Left<F.length:=by unfold sms at h2;rwa[lnM] at h2
 obtain⟨fs,hf⟩:∃ fs,F[atN g r.Left]?=some fs:=⟨_,List.getElem?_eq_getElem hw⟩
 have hm:lsA g (sms F) r.Left=fs.map found.summary:=by
  rw[k1a,hf] at h3
  exact (Option.some.inj h3).symm
 have hgd:(sms F).getD (atN g r.Left) []=fs.map found.summary:=hm
 rw[hm,lnM] at hle
 unfold z0X stA
 dsimp only
 rw[hgd,(k0Q (z3c h0) (by have:=z2P hS hr;show r.Right.length≤1048576;omega) x).2,bsS,h1,q3y (by omega),tnC,hf,bsS,k4I,bsS]
 by_cases hs:sumS g r x∈fs.map found.summary
 ·rw[ifP (decide_eq_true hs),ifP hs]
  exact⟨F,rfl,rfl⟩
 ·rw[decide_eq_false hs,ifN Bool.false_ne_true,ifN hs,j7F c hc,bsS,q3y (by constructor<;>omega)]
  refine⟨_,rfl,?_⟩
  unfold sms
  rw[List.map_set,List.map_append];rfl
theorem j7G {g:Gm_}(hS:Shape g){r:Rule}(hr:r∈g.Rules){A:List (List Rl_)}(hA:InvS g A){F:List (List found)}(he:Ext A (sms F)){c:List Nat}(h:Ch g r A c) :
  eachL (q5h F (iL (r.Right.map (atN g)))) 0 (iL c) []=some (z2u g r A c):=by
 have h3:=z2P hS hr
 obtain⟨s',e,hp⟩:=z1w (P:=fun k s=>s=(z2u g r A c).take k) (f:=q5h F (iL (r.Right.map (atN g)))) (xs:=iL c) (i:=0) (s:=[]) (by rw[List.take_zero]) fun k x s hx hs=>by
  rw[Nat.zero_add] at hs ⊢
  rw[z5v] at hx
  cases hd:c[k]? with
  | none=>rw[hd] at hx;cases hx
  | some d=>
   rw[hd] at hx;cases hx
   have hlt:=(List.getElem?_eq_some_iff.1 hd).1
   rw[h.1] at hlt
   obtain⟨n,hn⟩:∃ n,r.Right[k]?=some n:=⟨_,List.getElem?_eq_getElem hlt⟩
   obtain⟨own,h1,h2⟩:=j3F h hn hd
   obtain⟨t,ht⟩:=he.2 _ _ (hA.at_ (hS.right hr (List.mem_of_getElem? hn))).2.2.1
   rw[k1a] at ht
   cases hf:F[atN g n]? with
   | none=>rw[hf] at ht;cases ht
   | some fs=>
    rw[hf] at ht
    have ht:fs.map found.summary=lsA g A n++t:=Option.some.inj ht
    have hd2:=h.2 k n d hn hd
    have hfd:(fs.map found.summary)[d]?=some own:=by rw[ht,List.getElem?_append_left hd2];exact h2
    rw[List.getElem?_map] at hfd
    cases hq:fs[d]? with
    | none=>rw[hq] at hfd;cases hfd
    | some q=>
     rw[hq] at hfd
     have hfd:=Option.some.inj hfd
     have hsl:s.length≤3:=by rw[hs,List.length_take,z7J h];omega
     refine⟨s++[own],?_,?_⟩
     ·unfold q5h
      rw[z5v,List.getElem?_map,hn]
      simp only[Option.map_some,bsS]
      rw[q3y (by omega),tnC,hf,bsS,q3y (by omega),tnC,hq,bsS,q3y (by constructor<;>omega),hfd]
     ·rw[hs,List.take_add_one,h1];rfl
 rw[e,hp,z3P,Nat.zero_add,h.1,← z7J h,List.take_length]
theorem j8T {g:Gm_}(h0:Sz.szd g≤1048576)(hS:Shape g){r:Rule}(hr:r∈g.Rules){A:List (List Rl_)}(hA:InvS g A){F:List (List found)}{b:Bool}(hi:InvS g (sms F))(he:Ext A (sms F)){c:List Nat}(h:Ch g r A c) :
  ∃ F',q4O (iL c) g F b r (atI g r.Left) g r F (iL (r.Right.map (atN g)))=some (true,F',(stA (atN g r.Left) (ownR g r A c) (sms F,b)).2,F')∧sms F'=(stA (atN g r.Left) (ownR g r A c) (sms F,b)).1:=by
 have h3:=z2P hS hr
 obtain⟨_,e2,_⟩:=j3y h0 (Nat.le_trans (z3d hr) h0) (z7K hS hr hA h)
 obtain⟨F',e,hF⟩:=k4J h0 hS hr (b:=b) hi (c:=iL c) (by rw[z3P,h.1];omega) (z9l g r (z2u g r A c))
 refine⟨F',?_,hF⟩
 unfold q4O
 rw[j7G hS hr hA he h,bsS,e2,bsS,e];rfl
theorem k1b {g:Gm_}(hS:Shape g){r:Rule}(hr:r∈g.Rules){A:List (List Rl_)}(hA:InvS g A):∀ c∈q4F g r A,c≤16:=fun c hc=>by
 obtain⟨n,h1,rfl⟩:=List.mem_map.1 hc
 exact hA.le hS (hS.right hr h1)
theorem z5w (g:Gm_)(r:Rule)(A:List (List Rl_)):(q4F g r A).length=r.Right.length:=by unfold q4F;rw[lnM]
theorem k3w {g:Gm_}{r:Rule}{A:List (List Rl_)}{n:Nat}(h:n<q6r (q4F g r A)):Ch g r A (digL (q4F g r A) n):=k4G (List.mem_map.2 ⟨n,List.mem_range.2 h,rfl⟩)
theorem j7H {g:Gm_}(h0:Sz.szd g≤1048576)(hS:Shape g){r:Rule}(hr:r∈g.Rules){A:List (List Rl_)}(hA:InvS g A) :
  ∀ (d n:Nat) (F:List (List found)) (b:Bool),n<q6r (q4F g r A)→q6r (q4F g r A)-n=d→InvS g (sms F)→Ext A (sms F) →
   ∃ F' b',q5u (q3F (iL (q4F g r A)) g r (atI g r.Left) g r (iL (r.Right.map (atN g)))) (iL (digL (q4F g r A) n),F,b)=some (.inr (F',b',F')) ∧
    (sms F',b')=((chL (q4F g r A)).drop n).foldl (fun q c=>stA (atN g r.Left) (ownR g r A c) q) (sms F,b)
 | 0,n,F,b,hn,hd,hi,he=>by omega
 | d+1,n,F,b,hn,hd,hi,he=>by
  have hch:=k3w hn
  obtain⟨F1,e1,hF1⟩:=j8T h0 hS hr hA (b:=b) hi he hch
  have mv:=k4H (A:=A) hS hr (q:=(sms F,b)) hi he (k0X h0 hS r (z9l g r (z2u g r A (digL (q4F g r A) n))))
  have h3:=z2P hS hr
  have hcl:=z5w g r A
  obtain⟨q,e2,hq⟩:=j2g (cs:=q4F g r A) (ds:=digL (q4F g r A) n) rfl (j0Z _ _) (fun i d c h1 h2=>⟨j7C hn i d c h1 h2,by have:=k1b hS hr hA c (List.mem_of_getElem? h2);omega⟩) (by omega)
  obtain⟨q1,q2⟩:=q
  have hdrop:(chL (q4F g r A)).drop n=digL (q4F g r A) n::(chL (q4F g r A)).drop (n+1):=by
   have hl:n<(chL (q4F g r A)).length:=by unfold chL;rw[lnM,List.length_range];exact hn
   have hg:(chL (q4F g r A))[n]?=some (digL (q4F g r A) n):=by
    unfold chL
    rw[List.getElem?_map,List.getElem?_range hn];rfl
   rw[List.getElem?_eq_getElem hl] at hg
   rw[List.drop_eq_getElem_cons hl,Option.some.inj hg]
  rw[hdrop,List.foldl_cons]
  have e3:(sms F1,(stA (atN g r.Left) (ownR g r A (digL (q4F g r A) n)) (sms F,b)).2)=stA (atN g r.Left) (ownR g r A (digL (q4F g r A) n)) (sms F,b):=by rw[hF1]
  rw[← e3]
  have hi1:InvS g (sms F1):=by rw[hF1];exact mv.inv
  have he1:Ext A (sms F1):=by rw[hF1];exact mv.ext
  unfold j8S at hq
  rw[j3D _ _ hn] at hq
  by_cases hlast:n+1<q6r (q4F g r A)
  ·rw[ifP hlast] at hq
   obtain⟨k0,x,hx,hxl,hset⟩:=hq
   dsimp only at k0 hx hset
   have hs:q3F (iL (q4F g r A)) g r (atI g r.Left) g r (iL (r.Right.map (atN g))) (iL (digL (q4F g r A) n),F,b)=some (.inl (iL (digL (q4F g r A) (n+1)),F1,(stA (atN g r.Left) (ownR g r A (digL (q4F g r A) n)) (sms F,b)).2)):=by
    unfold q3F
    dsimp only
    rw[e1,bsS]
    dsimp only
    rw[ifP rfl,e2,bsS]
    dsimp only
    rw[ifN (by omega),q3y k0,hx,bsS,q3y ⟨by omega,by omega⟩,← hset]
    rfl
   rw[q4I hs]
   exact j7H h0 hS hr hA d (n+1) F1 _ hlast (by omega) hi1 he1
  ·rw[ifN hlast] at hq
   dsimp only at hq
   refine⟨F1,_,q3G (by
    unfold q3F
    dsimp only
    rw[e1,bsS]
    dsimp only
    rw[ifP rfl,e2,bsS]
    dsimp only
    rw[ifP hq]),?_⟩
   have:(chL (q4F g r A)).drop (n+1)=[]:=List.drop_eq_nil_of_le (by unfold chL;rw[lnM,List.length_range];omega)
   rw[this];rfl
theorem z8L (l:List Nat):q5q (iL l) 0=some (decide (0∈l)):=by
 unfold q5q q7P
 rw[z2t (q:=fun x:Int=>decide (x=0)) (c:=fun k=>(k:Int)) fun j x hx=>by
  unfold z2g
  by_cases h:x=0
  ·rw[ifP h.symm,ifP (decide_eq_true h)]
  ·rw[ifN (fun e=>h e.symm),ifN (by simpa using h)]]
 cases e:(iL l).findIdx? fun x=>decide (x=0) with
 | none=>
  rw[List.findIdx?_eq_none_iff] at e
  have:¬ 0∈l:=fun h=>by
   have:=e 0 (List.mem_map.2 ⟨0,h,rfl⟩)
   simp at this
  rw[decide_eq_false this];rfl
 | some j=>
  rw[List.findIdx?_eq_some_iff_getElem] at e
  obtain⟨hj,h1,h2⟩:=e
  have h3:(iL l)[j]=0:=of_decide_eq_true h1
  have:(0:Nat)∈l:=by
   have h4:(iL l)[j]?=some 0:=by rw[List.getElem?_eq_getElem hj,h3]
   rw[z5v] at h4
   cases h5:l[j]? with
   | none=>rw[h5] at h4;cases h4
   | some n=>
    rw[h5] at h4
    have h4:(n:Int)=0:=Option.some.inj h4
    have:n=0:=by omega
    subst this
    exact List.mem_of_getElem? h5
  rw[decide_eq_true this]
  simp only[bsS,z6e]
  rw[decide_eq_true (by omega)]
theorem k1c {cs:List Nat}(h:0∈cs):chL cs=[]:=by unfold chL;rw[j5f h];rfl
theorem k4K {g:Gm_}(h0:Sz.szd g≤1048576)(hS:Shape g){r:Rule}(hr:r∈g.Rules){A:List (List Rl_)}(hA:InvS g A){F:List (List found)}(b:Bool)(hi:InvS g (sms F))(he:Ext A (sms F)) :
  ∃ F' b',q3H (iL (q4F g r A)) g F b r (atI g r.Left) g r F (iL (r.Right.map (atN g)))=some (F',b',F')∧(sms F',b')=runR g A (sms F,b) r:=by
 unfold q3H runR
 rw[z8L,bsS]
 have h3:=z2P hS hr
 have hcl:=z5w g r A
 by_cases hz:0∈q4F g r A
 ·rw[ifP (decide_eq_true hz),k1c hz]
  exact⟨F,b,rfl,rfl⟩
 ·rw[decide_eq_false hz,ifN Bool.false_ne_true,z3P,q3y (by refine⟨?_,?_,?_⟩<;>omega)]
  have hp:0<q6r (q4F g r A):=j3E fun c hc=>Nat.pos_of_ne_zero fun e=>hz (e▸hc)
  obtain⟨F',b',e,hF⟩:=j7H h0 hS hr hA _ 0 F b hp rfl hi he
  rw[z9v,show iL (List.replicate (q4F g r A).length 0)=List.replicate (q4F g r A).length (0:Int) by unfold iL;rw[List.map_replicate];rfl] at e
  rw[e]
  rw[List.drop_zero] at hF
  exact⟨F',b',rfl,hF⟩
theorem j6D {F:List (List found)}(h:F.length≤1048576):eachL z6o 0 F ([]:List Int)=some (F.map fun l:List found=>(l.length:Int)):=by
 rw[j3A (g:=fun l:List found=>(l.length:Int)) (B:=1048576) F 0 [] (fun k x s hx hs=>by
  unfold z6o
  rw[q3y (by constructor<;>omega)]) (by rw[List.length_nil];omega),List.nil_append]
theorem j6E (F:List (List found)):(F.map fun l:List found=>(l.length:Int))=iL ((sms F).map (·.length)):=by
 induction F with
 | nil=>rfl
 | cons l F ih=>
  unfold iL sms at ih ⊢
  simp only[List.map_cons,lnM] at ih ⊢
  rw[ih]
theorem z8u {F:List (List found)}(h:F.length≤1048576):z1I F=some (iL ((sms F).map (·.length))):=by
 unfold z1I
 rw[j6D h,j6E];rfl
theorem bnd8 {l:List Int}(h:l.length≤3):((l.length:Int)+1)*8≤140737488355328∧(l.length:Int)+1≤9223372036854775807:=by constructor<;>omega
theorem j1b {g:Gm_}(hS:Shape g){r:Rule}(hr:r∈g.Rules){A:List (List Rl_)}(hA:InvS g A){k:Nat}{n:ByteArray}(hn:r.Right[k]?=some n) :
  q5D g (iL (A.map (·.length))) k n ((iL (q4F g r A)).take k,(iL (r.Right.map (atN g))).take k)=some ((iL (q4F g r A)).take (k+1),(iL (r.Right.map (atN g))).take (k+1)):=by
 have h3:=z2P hS hr
 have hlt:=(List.getElem?_eq_some_iff.1 hn).1
 obtain⟨k1,k2,k3,_,_⟩:=hA.at_ (hS.right hr (List.mem_of_getElem? hn))
 have e1:(iL (q4F g r A)).take (k+1)=(iL (q4F g r A)).take k++[((lsA g A n).length:Int)]:=by
  rw[List.take_add_one,z5v]
  unfold q4F
  rw[List.getElem?_map,hn];rfl
 have e2:(iL (r.Right.map (atN g))).take (k+1)=(iL (r.Right.map (atN g))).take k++[(atN g n:Int)]:=by
  rw[List.take_add_one,z5v,List.getElem?_map,hn];rfl
 have b1:((iL (q4F g r A)).take k).length≤3:=Nat.le_trans (List.length_take_le _ _) (by omega)
 have b2:((iL (r.Right.map (atN g))).take k).length≤3:=Nat.le_trans (List.length_take_le _ _) (by omega)
 have hx:(iL (A.map (·.length)))[atN g n]?=some ((lsA g A n).length:Int):=by rw[z5v,List.getElem?_map,k3];rfl
 rw[e1,e2]
 generalize (iL (q4F g r A)).take k=s1 at b1
 generalize (iL (r.Right.map (atN g))).take k=s2 at b2
 generalize iL (A.map (·.length))=cc at hx
 unfold q5D
 dsimp only
 rw[j7A,bsS,k1,q3y (by omega),tnC,hx,bsS,q3y (bnd8 b1),q3y (bnd8 b2)]
theorem k1d {g:Gm_}(h0:Sz.szd g≤1048576)(hS:Shape g){r:Rule}(hr:r∈g.Rules){A:List (List Rl_)}(hA:InvS g A){F:List (List found)}(b:Bool)(hi:InvS g (sms F))(he:Ext A (sms F)) :
  ∃ F' b',q4W g r F (iL (A.map (·.length))) g F b r (atI g r.Left)=some (F',b')∧(sms F',b')=runR g A (sms F,b) r:=by
 have h3:=z2P hS hr
 obtain⟨F',b',e,hF⟩:=k4K h0 hS hr hA b hi he
 refine⟨F',b',?_,hF⟩
 unfold q4W
 obtain⟨s',e2,hp⟩:=z1w (P:=fun k (s:List Int×List Int)=>s=((iL (q4F g r A)).take k,(iL (r.Right.map (atN g))).take k)) (f:=q5D g (iL (A.map (·.length)))) (xs:=r.Right) (i:=0) (s:=([],[])) (by rw[List.take_zero,List.take_zero]) fun k n s hn hs=>by
  rw[Nat.zero_add] at hs ⊢
  rw[hs]
  exact⟨_,j1b hS hr hA hn,rfl⟩
 rw[Nat.zero_add] at hp
 rw[e2,hp,List.take_of_length_le (by rw[z3P,z5w];omega),List.take_of_length_le (by rw[z3P,lnM];omega),bsS]
 dsimp only
 rw[e];rfl
theorem j7I {g:Gm_}(h0:Sz.szd g≤1048576)(hS:Shape g){A:List (List Rl_)}(hA:InvS g A):∀ (rs:List Rule) (i:Nat) (F:List (List found)) (b:Bool),(∀ r∈rs,r∈g.Rules)→InvS g (sms F)→Ext A (sms F) →
  ∃ F' b',eachL (z4d g (iL (A.map (·.length)))) i rs (F,b)=some (F',b')∧(sms F',b')=rs.foldl (runR g A) (sms F,b)
 | [],i,F,b,_,hi,he=>⟨F,b,rfl,rfl⟩
 | r::rs,i,F,b,hrs,hi,he=>by
  have hr:=hrs r (by simp)
  obtain⟨F1,b1,e1,hF1⟩:=k1d h0 hS hr hA b hi he
  have mv:=k0Z h0 hS hr (q:=(sms F,b)) hi he
  rw[← hF1] at mv
  obtain⟨F2,b2,e2,hF2⟩:=j7I h0 hS hA rs (i+1) F1 b1 (fun x hx=>hrs x (by simp[hx])) mv.inv mv.ext
  refine⟨F2,b2,?_,by rw[List.foldl_cons,← hF1];exact hF2⟩
  rw[eachL,show z4d g (iL (A.map (·.length))) i r (F,b)=some (F1,b1) by
   unfold z4d
   dsimp only
   rw[j7A,bsS,e1];rfl,bsS]
  exact e2
noncomputable def z8M (g:Gm_) (A:List (List Rl_)):List (List Rl_)×Bool:=g.Rules.foldl (runR g A) (A,false)
theorem j7J {g:Gm_}(h0:Sz.szd g≤1048576)(hS:Shape g){A:List (List Rl_)}(hA:InvS g A):Mv g A (A,false) (z8M g A):=
 Mv.fold _ _ hA (.rfl' A) fun q r hr h he=>k0Z h0 hS hr h he
theorem j5h {g:Gm_}(h0:Sz.szd g≤1048576)(hS:Shape g){F:List (List found)}(hi:InvS g (sms F)) :
  ∃ F',z4e g F=some (if (z8M g (sms F)).2=true then .inl F' else .inr F')∧sms F'=(z8M g (sms F)).1:=by
 obtain⟨F',b',e,hF⟩:=j7I h0 hS hi g.Rules 0 F false (fun _ h=>h) hi (.rfl' _)
 have hl:F.length≤1048576:=by
  have h1:=hi.1
  have h2:=hS.syms.2
  unfold sms at h1
  rw[lnM] at h1
  omega
 have hr:z8M g (sms F)=(sms F',b'):=hF.symm
 refine⟨F',?_,by rw[hr]⟩
 unfold z4e
 rw[z8u hl,bsS,e,bsS,hr]
 dsimp only
 cases b'<;>rfl
theorem j2h {A:List (List Rl_)}(h:A.length≤1048576):q9a A=some (iL (A.map (·.length))):=by
 unfold q9a
 rw[j3A (g:=fun l:List Rl_=>(l.length:Int)) (B:=1048576) A 0 [] (fun k x s hx hs=>by
  unfold z7l
  rw[q3y (by constructor<;>omega)]) (by rw[List.length_nil];omega),bsS,List.nil_append]
 unfold iL
 rw[List.map_map];rfl
theorem k1e (n:Nat):q9r 0 (n:Int)=some (n:Int):=by
 rw[j6q]
 by_cases h:(n:Int) > 0
 ·rw[ifP h]
 ·rw[ifN h,show (n:Int)=0 by omega]
theorem j1c {g:Gm_}(hS:Shape g){r:Rule}(hr:r∈g.Rules){A:List (List Rl_)}(hA:InvS g A):q8k g r (iL (A.map (·.length)))=some ((chL (q4F g r A)).map iL):=by
 have h3:=z2P hS hr
 unfold q8k
 have key:∀ (k:Nat),k≤r.Right.length→(∀ c∈(q4F g r A).take k,c≤16)∧((q4F g r A).take k).length=k:=fun k hk=>by
  refine⟨fun c hc=>k1b hS hr hA c (List.mem_of_mem_take hc),?_⟩
  rw[List.length_take,z5w];omega
 obtain⟨s',e2,hp⟩:=z1w (P:=fun k (s:List (List Int))=>s=(chL ((q4F g r A).take k)).map iL) (f:=z2X g (iL (A.map (·.length)))) (xs:=r.Right) (i:=0) (s:=[[]]) (by rw[List.take_zero];rfl) fun k n s hn hs=>by
  rw[Nat.zero_add] at hs ⊢
  have hlt:=(List.getElem?_eq_some_iff.1 hn).1
  have hkn:=hS.right hr (List.mem_of_getElem? hn)
  obtain⟨k1,k2,k3,_,_⟩:=hA.at_ hkn
  have hle:=hA.le hS hkn
  have htk:(q4F g r A).take (k+1)=(q4F g r A).take k++[(lsA g A n).length]:=by
   rw[List.take_add_one]
   unfold q4F
   rw[List.getElem?_map,hn];rfl
  have hcl:(chL ((q4F g r A).take k)).length≤256:=by
   unfold chL
   rw[lnM,List.length_range]
   have h4:=k0W (key k (by omega)).1
   rw[(key k (by omega)).2] at h4
   have h5:16 ^ k≤16 ^ 2:=Nat.pow_le_pow_right (by omega) (by omega)
   omega
  refine⟨(chL ((q4F g r A).take (k+1))).map iL,?_,rfl⟩
  unfold z2X
  rw[k0F,bsS,k1,k1e (atN g n),bsS,q3y (by omega),tnC,z5v,List.getElem?_map,k3]
  simp only[Option.map_some,bsS]
  rw[hs,htk,k4F]
  obtain⟨s2,e3,hp2⟩:=z1w (P:=fun j (s:List (List Int))=>s=(((chL ((q4F g r A).take k)).take j).flatMap fun c=>(List.range (lsA g A n).length).map fun d=>iL (c++[d]))) (f:=z2W ((lsA g A n).length:Int)) (xs:=(chL ((q4F g r A).take k)).map iL) (i:=0) (s:=[]) (by rw[List.take_zero];rfl) fun j x s hx hs2=>by
   rw[Nat.zero_add] at hs2 ⊢
   rw[List.getElem?_map] at hx
   cases hc:(chL ((q4F g r A).take k))[j]? with
   | none=>rw[hc] at hx;cases hx
   | some c=>
    rw[hc] at hx;cases hx
    have hj:=(List.getElem?_eq_some_iff.1 hc).1
    have hclen:c.length=k:=by
     obtain⟨m,hm,rfl⟩:=List.mem_map.1 (List.mem_of_getElem? hc)
     rw[j0Z,(key k (by omega)).2]
    have hsl:s.length≤256*16:=by
     rw[hs2,z8s (n:=(lsA g A n).length) fun c=>by rw[lnM,List.length_range]]
     rw[List.length_take]
     exact Nat.mul_le_mul (by omega) hle
    unfold z2W
    rw[tnC]
    obtain⟨s3,e4,hp3⟩:=z7A (P:=fun d (t:List (List Int))=>t=s++(List.range d).map fun d=>iL (c++[d])) (f:=z2V (iL c)) (n:=(lsA g A n).length) (i:=0) (s:=s) (by rw[List.range_zero,List.map_nil,List.append_nil]) fun d t h1 h2 ht=>by
     have htl:t.length≤256*16+16:=by rw[ht,List.length_append,lnM,List.length_range];omega
     refine⟨_,by
      unfold z2V
      rw[q3y (by rw[List.length_nil,z3P];constructor<;>omega),q3y (by rw[z3P];constructor<;>omega),q3y (by constructor<;>omega)],?_⟩
     rw[ht,List.range_succ,List.map_append,List.append_assoc,List.map_cons,List.map_nil,k5x c [d]];rfl
    refine⟨s3,by rw[e4];rfl,?_⟩
    rw[hp3,Nat.zero_add,hs2,List.take_add_one,hc,List.flatMap_append]
    simp
  rw[e3]
  rw[Nat.zero_add,lnM,List.take_length] at hp2
  rw[hp2,List.map_flatMap]
  simp only[List.map_map,bsS]
  rfl
 rw[e2,hp,Nat.zero_add,List.take_of_length_le (by rw[z5w];omega)];rfl
theorem k5z {l:List Rl_}(h:l.length≤16):((l.length:Int)+1)*32≤140737488355328∧(l.length:Int)+1≤9223372036854775807:=by constructor<;>omega
theorem j8U {g:Gm_}(hS:Shape g){r:Rule}(hr:r∈g.Rules){A:List (List Rl_)}(hA:InvS g A){c:List Nat}(h:Ch g r A c){k d:Nat}(hd:c[k]?=some d) :
  z3X g r A k (d:Int) ((z2u g r A c).take k)=some ((z2u g r A c).take (k+1)):=by
 have h3:=z2P hS hr
 have hlt:=(List.getElem?_eq_some_iff.1 hd).1
 rw[h.1] at hlt
 obtain⟨n,hn⟩:∃ n,r.Right[k]?=some n:=⟨_,List.getElem?_eq_getElem hlt⟩
 obtain⟨own,h1,h2⟩:=j3F h hn hd
 obtain⟨k1,k2,k3,_,_⟩:=hA.at_ (hS.right hr (List.mem_of_getElem? hn))
 have e1:(z2u g r A c).take (k+1)=(z2u g r A c).take k++[own]:=by rw[List.take_add_one,h1];rfl
 have b1:((z2u g r A c).take k).length≤16:=Nat.le_trans (List.length_take_le _ _) (by omega)
 rw[e1]
 generalize (z2u g r A c).take k=s at b1
 unfold z3X
 rw[hn,bsS,k0F,bsS,k1,k1e,bsS,q3y (by omega),tnC,k3,bsS,q3y (by omega),tnC,h2,bsS,q3y (k5z b1)]
theorem j7K {g:Gm_}(hS:Shape g){r:Rule}(hr:r∈g.Rules){A:List (List Rl_)}(hA:InvS g A){c:List Nat}(h:Ch g r A c) :
  z1F g r A (iL c)=some (z2u g r A c):=by
 unfold z1F
 obtain⟨s',e,hp⟩:=z1w (P:=fun k s=>s=(z2u g r A c).take k) (f:=z3X g r A) (xs:=iL c) (i:=0) (s:=[]) (by rw[List.take_zero]) fun k x s hx hs=>by
  rw[Nat.zero_add] at hs ⊢
  rw[z5v] at hx
  cases hd:c[k]? with
  | none=>rw[hd] at hx;cases hx
  | some d=>
   rw[hd] at hx
   have hx:(d:Int)=x:=Option.some.inj hx
   rw[hs,← hx]
   exact⟨_,j8U hS hr hA h hd,rfl⟩
 rw[e,hp,z3P,Nat.zero_add,h.1,← z7J h,List.take_length];rfl
theorem k4L (l:List Rl_)(s:Rl_):z4P l s=some (decide (s∈l)):=by
 unfold z4P
 rw[z2t (q:=fun f:Rl_=>decide (f=s)) (c:=fun _=>true) fun j x hx=>by
  unfold j1R
  rw[k0L,bsS,← apply_ite some]]
 cases e:l.findIdx? fun f=>decide (f=s) with
 | none=>
  rw[List.findIdx?_eq_none_iff] at e
  have:¬ s∈l:=fun h=>by
   have:=e s h
   simp at this
  rw[decide_eq_false this];rfl
 | some j=>
  rw[List.findIdx?_eq_some_iff_getElem] at e
  obtain⟨hj,h1,h2⟩:=e
  have h1:l[j]=s:=of_decide_eq_true h1
  have:s∈l:=h1▸List.getElem_mem hj
  rw[decide_eq_true this];rfl
theorem k4M {g:Gm_}(h0:Sz.szd g≤1048576)(hS:Shape g){r:Rule}(hr:r∈g.Rules){A:List (List Rl_)}(hA:InvS g A){q:List (List Rl_)×Bool}(hi:InvS g q.1){c:List Nat}(h:Ch g r A c)(k:Nat) :
  z2G g A r (atI g r.Left) k (iL c) q=some (stA (atN g r.Left) (ownR g r A c) q):=by
 obtain⟨B,b⟩:=q
 obtain⟨h1,h2,h3,h4,h5⟩:=hi.at_ (hS.left hr)
 have hle:=hi.le hS (hS.left hr)
 dsimp only at h1 h2 h3 h4 h5 hle
 have hgd:B.getD (atN g r.Left) []=lsA g B r.Left:=rfl
 obtain⟨e1,_,_⟩:=j3y h0 (Nat.le_trans (z3d hr) h0) (z7K hS hr hA h)
 have h3r:=z2P hS hr
 unfold z2G stA
 dsimp only
 rw[j7K hS hr hA h,bsS,e1,bsS,(k0Q (z3c h0) (by show r.Right.length≤1048576;omega) _).1,bsS,h1,q3y (by omega),tnC,h3,bsS,k4L,bsS,hgd]
 rw[show sumS g r (z9l g r (z2u g r A c))=ownR g r A c from rfl]
 by_cases hm:ownR g r A c∈lsA g B r.Left
 ·rw[ifP (decide_eq_true hm),ifP hm];rfl
 ·rw[decide_eq_false hm,ifN Bool.false_ne_true,ifN hm,q3y (k5z hle)];rfl
theorem k1f {g:Gm_}(h0:Sz.szd g≤1048576)(hS:Shape g){r:Rule}(hr:r∈g.Rules){A:List (List Rl_)}(hA:InvS g A):∀ (cs:List (List Nat)) (k:Nat) (q:List (List Rl_)×Bool),(∀ c∈cs,Ch g r A c)→InvS g q.1→Ext A q.1 →
  eachL (z2G g A r (atI g r.Left)) k (cs.map iL) q=some (cs.foldl (fun q c=>stA (atN g r.Left) (ownR g r A c) q) q)
 | [],k,q,_,_,_=>rfl
 | c::cs,k,q,hc,hi,he=>by
  have mv:=k4H (A:=A) hS hr (q:=q) hi he (k0X h0 hS r (z9l g r (z2u g r A c)))
  rw[List.map_cons,eachL,k4M h0 hS hr hA hi (hc c (by simp)),bsS,List.foldl_cons]
  exact k1f h0 hS hr hA cs (k+1) _ (fun x hx=>hc x (by simp[hx])) mv.inv mv.ext
theorem k1g {g:Gm_}(h0:Sz.szd g≤1048576)(hS:Shape g){A:List (List Rl_)}(hA:InvS g A):∀ (rs:List Rule) (i:Nat) (q:List (List Rl_)×Bool),(∀ r∈rs,r∈g.Rules)→InvS g q.1→Ext A q.1 →
  eachL (z2H g A) i rs q=some (rs.foldl (runR g A) q)
 | [],i,q,_,_,_=>rfl
 | r::rs,i,q,hrs,hi,he=>by
  have hr:=hrs r (by simp)
  have mv:=k0Z h0 hS hr hi he
  have hl:A.length≤1048576:=by have h1:=hA.1;have h2:=hS.syms.2;omega
  have e:z2H g A i r q=some (runR g A q r):=by
   unfold z2H
   obtain⟨B,b⟩:=q
   dsimp only
   rw[j2h hl,bsS,j1c hS hr hA,bsS,k0F,bsS,k1f h0 hS hr hA _ 0 (B,b) (fun c hc=>k4G hc) hi he,bsS]
   rfl
  rw[eachL,e,bsS,List.foldl_cons]
  exact k1g h0 hS hA rs (i+1) _ (fun x hx=>hrs x (by simp[hx])) mv.inv mv.ext
theorem j1d {g:Gm_}(h0:Sz.szd g≤1048576)(hS:Shape g){A:List (List Rl_)}(hA:InvS g A):z2c g A=some (z8M g A):=by
 have hl:A.length≤4:=by have h1:=hA.1;have h2:=hS.syms.2;omega
 unfold z2c
 rw[j3A (g:=fun l:List Rl_=>l) (B:=1048576) A 0 [] (fun k x s hx hs=>by
  obtain⟨j,hj⟩:=List.getElem?_of_mem hx
  have hlt:=(List.getElem?_eq_some_iff.1 hj).1
  obtain⟨y,hy⟩:∃ y,g.Symbols[j]?=some y:=⟨_,List.getElem?_eq_getElem (by rw[← hA.1];exact hlt)⟩
  have hx16:x.length≤16:=z6L (hS.plain y.Name) (hA.2 j y x hy hj).1 (hA.2 j y x hy hj).2
  unfold z8C
  rw[q3y (by rw[List.length_nil];constructor<;>omega),q3y (by constructor<;>omega)]) (by rw[List.length_nil];omega),bsS,List.nil_append,List.map_id',k1g h0 hS hA g.Rules 0 (A,false) (fun _ h=>h) hA (.rfl' A),bsS]
 rfl
theorem k5A {g:Gm_}(h0:Sz.szd g≤1048576)(hS:Shape g):∀ (d:Nat) (F:List (List found)),InvS g (sms F)→g.Symbols.length*16-tot (sms F)≤d →
  ∃ F',q5u (z4e g) F=some F'∧q5u (q7l g) (sms F)=some (sms F',true)∧InvS g (sms F'):=by
 intro d
 induction d with
 | zero=>
  intro F hi hd
  obtain⟨F1,e1,hF⟩:=j5h h0 hS hi
  have mv:=j7J h0 hS hi
  have hb:=mv.inv.bound hS
  have hc:(z8M g (sms F)).2=false:=by
   cases hq:(z8M g (sms F)).2 with
   | false=>rfl
   | true=>
    rcases mv.up hq with h|h
    ·cases h
    ·dsimp only at h;omega
  have hno:=mv.no hc
  rw[hc,ifN Bool.false_ne_true] at e1
  have hF1:sms F1=sms F:=by rw[hF,hno]
  refine⟨F1,q3G e1,?_,by rw[hF1];exact hi⟩
  rw[hF1]
  exact q3G (by unfold q7l;rw[j1d h0 hS hi,bsS,hno];rfl)
 | succ d ih=>
  intro F hi hd
  obtain⟨F1,e1,hF⟩:=j5h h0 hS hi
  have mv:=j7J h0 hS hi
  have hb:=mv.inv.bound hS
  cases hq:(z8M g (sms F)).2 with
  | false=>
   have hno:=mv.no hq
   rw[hq,ifN Bool.false_ne_true] at e1
   have hF1:sms F1=sms F:=by rw[hF,hno]
   refine⟨F1,q3G e1,?_,by rw[hF1];exact hi⟩
   rw[hF1]
   exact q3G (by unfold q7l;rw[j1d h0 hS hi,bsS,hno];rfl)
  | true=>
   rw[hq,ifP rfl] at e1
   have hlt:tot (sms F)<tot (sms F1):=by
    rw[hF]
    rcases mv.up hq with h|h
    ·cases h
    ·exact h
   obtain⟨F',h1,h2,h3⟩:=ih F1 (by rw[hF];exact mv.inv) (by omega)
   refine⟨F',by rw[q4I e1];exact h1,?_,h3⟩
   have s1:q7l g (sms F)=some (.inl (sms F1)):=by
    unfold q7l
    rw[j1d h0 hS hi,bsS,hF]
    dsimp only
    rw[hq];rfl
   rw[q4I s1];exact h2
theorem k1h {g:Gm_}(h0:Sz.szd g≤1048576)(hS:Shape g):∃ F,z3z g=some F∧q5u (q7l g) (List.replicate g.Symbols.length [])=some (sms F,true)∧InvS g (sms F):=by
 have e:sms (List.replicate g.Symbols.length [])=List.replicate g.Symbols.length []:=by unfold sms;rw[List.map_replicate];rfl
 obtain⟨F,h1,h2,h3⟩:=k5A h0 hS _ (List.replicate g.Symbols.length []) (by
  rw[e]
  refine⟨by rw[List.length_replicate],fun k y L _ hL=>?_⟩
  rw[List.getElem?_replicate] at hL
  split at hL
  ·cases hL;exact⟨List.nodup_nil,fun a ha=>by simp at ha⟩
  ·cases hL) (Nat.le_refl _)
 rw[e] at h2
 have hs:=hS.syms.2
 refine⟨F,?_,h2,h3⟩
 unfold z3z
 rw[q3y (by refine⟨?_,?_,?_⟩<;>omega),h1];rfl
noncomputable def z7L (g:Gm_) (r:Rule) (A:List (List Rl_)) (c:List Nat):Bool:=j6A (z9l g r (z2u g r A c))
noncomputable def z7M (g:Gm_) (A:List (List Rl_)) (r:Rule):Bool:=(chL (q4F g r A)).any (z7L g r A)
theorem j8V {c:List Int}(hc:c.length≤1048576){x:Rl_}(hx:x.Rows.length≤1048576)(o:found)(b:Bool):∃ o',q8M c x o b=some (!(j6A x),o',j6A x):=by
 unfold q8M
 rw[k2H hx,bsS]
 cases j6A x with
 | true=>rw[ifP rfl,j7F c hc];exact⟨_,rfl⟩
 | false=>rw[ifN Bool.false_ne_true];exact⟨_,rfl⟩
theorem j8W {g:Gm_}(h0:Sz.szd g≤1048576)(hS:Shape g){r:Rule}(hr:r∈g.Rules){F:List (List found)}(hA:InvS g (sms F))(o:found)(b:Bool){c:List Nat}(h:Ch g r (sms F) c) :
  ∃ o',q4A (iL c) o b g r F (iL (r.Right.map (atN g)))=some (!(z7L g r (sms F) c),o',z7L g r (sms F) c):=by
 have h3:=z2P hS hr
 obtain⟨_,e2,e3⟩:=j3y h0 (Nat.le_trans (z3d hr) h0) (z7K hS hr hA h)
 obtain⟨o',e⟩:=j8V (c:=iL c) (by rw[z3P,h.1];omega) (x:=z9l g r (z2u g r (sms F) c)) (by omega) o b
 have e1:eachL (q7a F (iL (r.Right.map (atN g)))) 0 (iL c) []=some (z2u g r (sms F) c):=j7G hS hr hA (.rfl' _) h
 unfold q4A
 rw[e1,bsS,e2,bsS,e]
 exact⟨_,rfl⟩
def k5S:((List Int×Int×List Int×ByteArray×ByteArray×Bool×List Int×Bool) ⊕ (found×Bool))→Bool
 | .inl s=>s.2.2.2.2.2.2.2
 | .inr p=>p.2
theorem k4N {cs:List Nat}{n:Nat}(hn:n<q6r cs):(chL cs).drop n=digL cs n::(chL cs).drop (n+1):=by
 have hl:n<(chL cs).length:=by unfold chL;rw[lnM,List.length_range];exact hn
 have hg:(chL cs)[n]?=some (digL cs n):=by
  unfold chL
  rw[List.getElem?_map,List.getElem?_range hn];rfl
 rw[List.getElem?_eq_getElem hl] at hg
 rw[List.drop_eq_getElem_cons hl,Option.some.inj hg]
theorem k5B {cs:List Nat}{n:Nat}(hn:¬ n<q6r cs):(chL cs).drop n=[]:=List.drop_eq_nil_of_le (by unfold chL;rw[lnM,List.length_range];omega)
theorem j5i {g:Gm_}(h0:Sz.szd g≤1048576)(hS:Shape g){r:Rule}(hr:r∈g.Rules){F:List (List found)}(hA:InvS g (sms F))(o:found) :
  ∀ (d n:Nat) (x1:Int) (x2:List Int) (x3 x4:ByteArray) (x5:Bool) (x6:List Int) (b:Bool),n<q6r (q4F g r (sms F))→q6r (q4F g r (sms F))-n=d →
   ∃ X,q5u (q3z (iL (q4F g r (sms F))) o g r F (iL (r.Right.map (atN g)))) (iL (digL (q4F g r (sms F)) n),x1,x2,x3,x4,x5,x6,b)=some X ∧
    k5S X=((chL (q4F g r (sms F))).drop n).any (z7L g r (sms F))
 | 0,n,x1,x2,x3,x4,x5,x6,b,hn,hd=>by omega
 | d+1,n,x1,x2,x3,x4,x5,x6,b,hn,hd=>by
  have hch:=k3w hn
  obtain⟨o1,e1⟩:=j8W h0 hS hr hA (⟨⟨x1,x2⟩,⟨x3,x4,o.rule.Right,x5,o.rule.Equations,o.rule.Contributions⟩,x6⟩:found) b hch
  have h3:=z2P hS hr
  have hcl:=z5w g r (sms F)
  rw[k4N hn,List.any_cons]
  cases hL:z7L g r (sms F) (digL (q4F g r (sms F)) n) with
  | true=>
   rw[hL] at e1
   refine⟨_,q3G (by
    unfold q3z
    dsimp only
    rw[e1,bsS]
    dsimp only
    rw[ifN (by decide)]),rfl⟩
  | false=>
   rw[hL] at e1
   rw[Bool.false_or]
   obtain⟨q,e2,hq⟩:=j2g (cs:=q4F g r (sms F)) (ds:=digL (q4F g r (sms F)) n) (f:=q5s (iL (q4F g r (sms F)))) rfl (j0Z _ _) (fun i d c h1 h2=>⟨j7C hn i d c h1 h2,by have:=k1b hS hr hA c (List.mem_of_getElem? h2);omega⟩) (by omega)
   obtain⟨q1,q2⟩:=q
   unfold j8S at hq
   rw[j3D _ _ hn] at hq
   by_cases hlast:n+1<q6r (q4F g r (sms F))
   ·rw[ifP hlast] at hq
    obtain⟨k0,x,hx,hxl,hset⟩:=hq
    dsimp only at k0 hx hset
    have hs:q3z (iL (q4F g r (sms F))) o g r F (iL (r.Right.map (atN g))) (iL (digL (q4F g r (sms F)) n),x1,x2,x3,x4,x5,x6,b)=some (.inl (iL (digL (q4F g r (sms F)) (n+1)),o1.summary.N,o1.summary.Rows,o1.rule.Name,o1.rule.Left,o1.rule.Literal,o1.children,false)):=by
     unfold q3z
     dsimp only
     rw[e1,bsS]
     dsimp only
     rw[ifP (by decide),e2,bsS]
     dsimp only
     rw[ifN (by omega),q3y k0,hx,bsS,q3y ⟨by omega,by omega⟩,← hset]
     rfl
    rw[q4I hs]
    exact j5i h0 hS hr hA o d (n+1) _ _ _ _ _ _ _ hlast (by omega)
   ·rw[ifN hlast] at hq
    dsimp only at hq
    rw[k5B hlast]
    exact⟨_,q3G (by
     unfold q3z
     dsimp only
     rw[e1,bsS]
     dsimp only
     rw[ifP (by decide),e2,bsS]
     dsimp only
     rw[ifP hq]),rfl⟩
theorem j8X {g:Gm_}(h0:Sz.szd g≤1048576)(hS:Shape g){r:Rule}(hr:r∈g.Rules){F:List (List found)}(hA:InvS g (sms F))(o:found) :
  ∃ o',q3D (iL (q4F g r (sms F))) o false g r F (iL (r.Right.map (atN g)))=some (o',z7M g (sms F) r):=by
 unfold q3D z7M
 rw[z8L,bsS]
 have h3:=z2P hS hr
 have hcl:=z5w g r (sms F)
 by_cases hz:0∈q4F g r (sms F)
 ·rw[ifP (decide_eq_true hz),k1c hz]
  exact⟨o,rfl⟩
 ·rw[decide_eq_false hz,ifN Bool.false_ne_true,z3P,q3y (by refine⟨?_,?_,?_⟩<;>omega)]
  have hp:0<q6r (q4F g r (sms F)):=j3E fun c hc=>Nat.pos_of_ne_zero fun e=>hz (e▸hc)
  obtain⟨X,e,hF⟩:=j5i h0 hS hr hA o _ 0 o.summary.N o.summary.Rows o.rule.Name o.rule.Left o.rule.Literal o.children false hp rfl
  rw[z9v,show iL (List.replicate (q4F g r (sms F)).length 0)=List.replicate (q4F g r (sms F)).length (0:Int) by unfold iL;rw[List.map_replicate];rfl] at e
  rw[List.drop_zero] at hF
  rw[e,bsS,← hF]
  cases X with
  | inl s=>exact⟨_,rfl⟩
  | inr p=>exact⟨p.1,rfl⟩
theorem j5j {g:Gm_}(h0:Sz.szd g≤1048576)(hS:Shape g){r:Rule}(hr:r∈g.Rules){F:List (List found)}(hA:InvS g (sms F))(o:found) :
  ∃ o',q4P g r F (iL ((sms F).map (·.length))) o false=some (o',z7M g (sms F) r):=by
 have h3:=z2P hS hr
 obtain⟨o',e⟩:=j8X h0 hS hr hA o
 unfold q4P
 obtain⟨s',e2,hp⟩:=z1w (P:=fun k (s:List Int×List Int)=>s=((iL (q4F g r (sms F))).take k,(iL (r.Right.map (atN g))).take k)) (f:=q7w g (iL ((sms F).map (·.length)))) (xs:=r.Right) (i:=0) (s:=([],[])) (by rw[List.take_zero,List.take_zero]) fun k n s hn hs=>by
  rw[Nat.zero_add] at hs ⊢
  rw[hs]
  exact⟨_,j1b hS hr hA hn,rfl⟩
 rw[Nat.zero_add] at hp
 rw[e2,hp,List.take_of_length_le (by rw[z3P,z5w];omega),List.take_of_length_le (by rw[z3P,lnM];omega),bsS]
 dsimp only
 rw[e]
 exact⟨_,rfl⟩
theorem j1e {g:Gm_}(h0:Sz.szd g≤1048576)(hS:Shape g){F:List (List found)}(hA:InvS g (sms F)):∀ (rs:List Rule) (i:Nat),(∀ r∈rs,r∈g.Rules) →
  ∃ X,findL (q8r g F) i rs ()=some X∧(match X with|.inl _=>rs.any (z7M g (sms F))=false|.inr p=>p.2=true∧rs.any (z7M g (sms F))=true)
 | [],i,_=>⟨_,rfl,rfl⟩
 | r::rs,i,hrs=>by
  have hr:=hrs r (by simp)
  have hl:F.length≤1048576:=by
   have h1:=hA.1
   have h2:=hS.syms.2
   unfold sms at h1
   rw[lnM] at h1
   omega
  obtain⟨o',e⟩:=j5j h0 hS hr hA (⟨(⟨0,[]⟩:Rl_),r,[]⟩:found)
  rw[findL,List.any_cons]
  cases hc:z7M g (sms F) r with
  | true=>
   rw[hc] at e
   obtain⟨o2,hs⟩:∃ o,q8r g F i r ()=some (.inr (o,true)):=⟨_,by
    unfold q8r
    rw[z8u hl,bsS,e]
    rfl⟩
   exact⟨.inr (o2,true),by rw[hs];rfl,rfl,rfl⟩
  | false=>
   rw[hc] at e
   obtain⟨X,h1,h2⟩:=j1e h0 hS hA rs (i+1) fun x hx=>hrs x (by simp[hx])
   refine⟨X,?_,by rw[Bool.false_or];exact h2⟩
   rw[show q8r g F i r ()=some (.inl ()) by unfold q8r;rw[z8u hl,bsS,e];rfl,bsS]
   exact h1
theorem k2K {g:Gm_}(h0:Sz.szd g≤1048576)(hS:Shape g){F:List (List found)}(hA:InvS g (sms F)):∃ o,z0Y g F=some (o,g.Rules.any (z7M g (sms F))):=by
 obtain⟨X,h1,h2⟩:=j1e h0 hS hA g.Rules 0 fun _ h=>h
 unfold z0Y
 rw[h1,bsS]
 cases X with
 | inl s=>exact⟨_,by rw[h2];rfl⟩
 | inr p=>exact⟨p.1,by rw[h2.2];show some p=some (p.1,true);rw[← h2.1]⟩
theorem j2i {g:Gm_}(h0:Sz.szd g≤1048576)(hS:Shape g){r:Rule}(hr:r∈g.Rules){A:List (List Rl_)}(hA:InvS g A):∀ (cs:List (List Nat)) (k:Nat),(∀ c∈cs,Ch g r A c) →
  findL (z0G g A r) k (cs.map iL) ()=some (if cs.any (z7L g r A)=true then .inr true else .inl ())
 | [],k,_=>rfl
 | c::cs,k,hc=>by
  have h:=hc c (by simp)
  obtain⟨e1,_,e3⟩:=j3y h0 (Nat.le_trans (z3d hr) h0) (z7K hS hr hA h)
  have e:z0G g A r k (iL c) ()=some (if z7L g r A c=true then .inr true else .inl ()):=by
   unfold z0G
   rw[j7K hS hr hA h,bsS,e1,bsS,k2I (by omega),bsS,← apply_ite some];rfl
  rw[List.map_cons,findL,e,bsS,List.any_cons]
  cases hl:z7L g r A c with
  | true=>rfl
  | false=>
   rw[Bool.false_or]
   exact j2i h0 hS hr hA cs (k+1) fun x hx=>hc x (by simp[hx])
theorem j2j {g:Gm_}(h0:Sz.szd g≤1048576)(hS:Shape g){A:List (List Rl_)}(hA:InvS g A):∀ (d i:Nat),g.Rules.length-i=d→i≤g.Rules.length →
  q5u (q7B g A true) (i:Int)=some (if (g.Rules.drop i).any (z7M g A)=true then .inr true else .inl ())
 | 0,i,hd,hi=>by
  have:g.Rules.drop i=[]:=List.drop_eq_nil_of_le (by omega)
  rw[this]
  exact q3G (by unfold q7B;rw[ifN (by omega)];rfl)
 | d+1,i,hd,hi=>by
  have hlt:i<g.Rules.length:=by omega
  have hl:A.length≤1048576:=by have h1:=hA.1;have h2:=hS.syms.2;omega
  have hrl:=hS.rules.2
  obtain⟨r,hr⟩:∃ r,g.Rules[i]?=some r:=⟨_,List.getElem?_eq_getElem hlt⟩
  have hm:=List.mem_of_getElem? hr
  have hdrop:g.Rules.drop i=r::g.Rules.drop (i+1):=by
   rw[List.drop_eq_getElem_cons hlt];rw[List.getElem?_eq_getElem hlt] at hr;rw[Option.some.inj hr]
  have e:q7B g A true (i:Int)=some (if z7M g A r=true then .inr (.inr true) else .inl ((i+1:Nat):Int)):=by
   unfold q7B
   rw[ifP (by omega),ifP rfl,q3y (by omega),tnC,hr,bsS,j2h hl,bsS,j1c hS hm hA,bsS,j2i h0 hS hm hA _ 0 fun c hc=>k4G hc,bsS]
   rw[show ((chL (q4F g r A)).any (z7L g r A))=z7M g A r from rfl]
   cases z7M g A r with
   | true=>rfl
   | false=>rw[ifN Bool.false_ne_true,ifN Bool.false_ne_true,z1N];exact q3y ⟨by omega,by omega⟩
  rw[hdrop,List.any_cons]
  cases hc:z7M g A r with
  | true=>rw[hc] at e;exact q3G e
  | false=>
   rw[hc] at e
   rw[Bool.false_or,q4I e]
   exact j2j h0 hS hA d (i+1) (by omega) (by omega)
theorem j3G {g:Gm_}(h0:Sz.szd g≤1048576):∃ b,q9E g=some b∧q9S g=some b:=by
 unfold q9E q9S z2I
 rw[k2F h0,k2G h0]
 simp only[bsS]
 cases hg:k0I g with
 | false=>
  refine⟨false,?_,rfl⟩
  simp only[Bool.false_eq_true,if_false,bsS]
  rw[q3G (r:=.inl ()) (by unfold q7B;by_cases h:(0:Int)<(g.Rules.length:Int)<;>simp[h])]
  rfl
 | true=>
  have hS:=j8P hg
  obtain⟨F,h1,h2,h3⟩:=k1h h0 hS
  obtain⟨o,h4⟩:=k2K h0 hS h3
  have hs:=hS.syms.2
  refine⟨g.Rules.any (z7M g (sms F)),?_,?_⟩
  ·rw[ifP rfl,q3y (by refine⟨?_,?_,?_⟩<;>omega),h2]
   simp only[bsS]
   have:=j2j h0 hS h3 _ 0 rfl (Nat.zero_le _)
   rw[show ((0:Nat):Int)=0 from rfl,List.drop_zero] at this
   rw[this,bsS]
   cases g.Rules.any (z7M g (sms F))<;>rfl
  ·rw[ifP rfl,h1,bsS,h4];rfl
def uSzF {α:Type}(g:α→Int→Option Int)(n:Nat)(x:α):Prop:=∀ s:Int,0≤s→s≤1048576→g x s=some (if (n:Int)≤s then s-n else -1)
theorem j5k {α:Type}[Sz α]{f:Nat→α→Int→Option (Int ⊕ Int)}:∀ (xs:List α) (i:Nat) (s:Int),(∀ k x s,x∈xs→0≤s→s≤1048576→f k x s=some (if (Sz.szd x:Int)≤s then .inl (s-Sz.szd x) else .inr (-1)))→0≤s→s≤1048576 →
  findL f i xs s=some (if ((szL xs-xs.length:Nat):Int)≤s then .inl (s-(szL xs-xs.length:Nat)) else .inr (-1))
 | [],i,s,_,h0,_=>by simp[findL,szL,h0]
 | x::xs,i,s,hf,h0,h1=>by
  have hl:=q5a xs
  have e:szL (x::xs)-(x::xs).length=Sz.szd x+(szL xs-xs.length):=by simp only[szL,lnC];omega
  rw[e]
  show (f i x s).bind _=_
  rw[hf i x s (by simp) h0 h1]
  by_cases hx:(Sz.szd x:Int)≤s
  ·rw[ifP hx]
   show findL f (i+1) xs (s-Sz.szd x)=_
   rw[j5k xs (i+1) _ (fun k y t hy=>hf k y t (by simp[hy])) (by omega) (by omega)]
   by_cases h2:((Sz.szd x+(szL xs-xs.length):Nat):Int)≤s
   ·rw[ifP h2,ifP (by omega)];congr 2;omega
   ·rw[ifN h2,ifN (by omega)]
  ·rw[ifN hx,ifN (by omega)];rfl
theorem j1f {α:Type}[Sz α]{xs:List α}{f:Nat→α→Int→Option (Int ⊕ Int)}(hf:∀ k x s,x∈xs→0≤s→s≤1048576→f k x s=some (if (Sz.szd x:Int)≤s then .inl (s-Sz.szd x) else .inr (-1)))(s:Int)(h0:0≤s)(h1:s≤1048576)(hl:xs.length≤9223372036854775807) :
  (grd (I64 (s-(xs.length:Int))) <| if (s-(xs.length:Int))<0 then some (-1) else (findL f 0 xs (s-(xs.length:Int))).bind <| onr (fun r1=>some r1) fun s1=>some s1)=some (if (szL xs:Int)≤s then s-(szL xs:Nat) else -1):=by
 have hl':=q5a xs
 rw[q3y (by constructor<;>omega)]
 by_cases h2:s-(xs.length:Int)<0
 ·rw[ifP h2,ifN (by omega)]
 ·rw[ifN h2,j5k xs 0 _ hf (by omega) (by omega),bsS]
  by_cases h3:(szL xs:Int)≤s
  ·rw[ifP h3,ifP (by omega),z1N];congr 1;omega
  ·rw[ifN h3,ifN (by omega),z6e]
theorem j2k {α:Type}[Sz α]{g:α→Int→Option Int}{xs:List α}(hg:∀ x∈xs,uSzF g (Sz.szd x) x)(k:Nat)(x:α)(s:Int)(hx:x∈xs)(h0:0≤s)(h1:s≤1048576) :
  ((g x s).bind fun y1=>if y1<0 then some (.inr (-1)) else some (.inl y1):Option (Int ⊕ Int))=some (if (Sz.szd x:Int)≤s then .inl (s-Sz.szd x) else .inr (-1)):=by
 rw[hg x hx s h0 h1,bsS]
 by_cases h2:(Sz.szd x:Int)≤s
 ·rw[ifP h2,ifN (by omega),ifP h2]
 ·rw[ifN h2,ifP (by omega),ifN h2]
theorem z1A (n m:Nat){k:Int→Option Int}{s:Int}(h0:0≤s)(h1:s≤1048576)(hn:n≤9223372036854775807)(hk:∀ t,0≤t→t≤1048576→k t=some (if (m:Int)≤t then t-m else -1)) :
  (grd (I64 (s-(n:Int))) <| if (s-(n:Int))<0 then some (-1) else k (s-(n:Int)))=some (if ((n+m:Nat):Int)≤s then s-(n+m:Nat) else -1):=by
 rw[q3y (by constructor<;>omega)]
 by_cases h2:s-(n:Int)<0
 ·rw[ifP h2,ifN (by omega)]
 ·rw[ifN h2,hk _ (by omega) (by omega)]
  by_cases h3:((n+m:Nat):Int)≤s
  ·rw[ifP h3,ifP (by omega)];congr 1;omega
  ·rw[ifN h3,ifN (by omega)]
theorem q9Y (n m:Nat){o:Option Int}{k:Int→Option Int}{s:Int}(h0:0≤s)(h1:s≤1048576)(ho:o=some (if (n:Int)≤s then s-n else -1))(hk:∀ t,0≤t→t≤1048576→k t=some (if (m:Int)≤t then t-m else -1)) :
  (o.bind fun y1=>if y1<0 then some (-1) else k y1)=some (if ((n+m:Nat):Int)≤s then s-(n+m:Nat) else -1):=by
 rw[ho,bsS]
 by_cases h2:(n:Int)≤s
 ·rw[ifP h2,ifN (by omega),hk _ (by omega) (by omega)]
  by_cases h3:((n+m:Nat):Int)≤s
  ·rw[ifP h3,ifP (by omega)];congr 1;omega
  ·rw[ifN h3,ifN (by omega)]
 ·rw[ifN h2,ifP (by omega),ifN (by omega)]
theorem z2Q {t:Int}(h0:0≤t)(_:t≤1048576):some t=some (if ((0:Nat):Int)≤t then t-(0:Nat) else -1):=by rw[ifP (by omega)];congr 1;omega
section
open Go.A
theorem k2L {xs:List ByteArray}(h:boD (.sl 1 (xs.map A.D.s))):uSzF z2A (szL xs) xs:=fun s h0 h1=>
 j1f (f:=z3W) (fun k x s hx h0 h1=>by
  unfold z3W
  have hb:x.size≤9223372036854775807:=j2H.1 (q7W.1 (z6h h hx)).1
  rw[q3y (by constructor<;>omega)]
  show (_:Option (Int ⊕ Int))=some (if (x.size:Int)≤s then Sum.inl (s-x.size) else Sum.inr (-1))
  by_cases h2:(x.size:Int)≤s
  ·rw[ifN (by omega),ifP h2]
  ·rw[ifP (by omega),ifN h2]) s h0 h1 (z6i h)
theorem k2M {x:At_}(h:boCs (At_.l x)):uSzF z0y (Sz.szd x) x:=fun s h0 h1=>by
 simp only[At_.l,q7W,j2H] at h
 exact z1A x.Name.size 0 h0 h1 h.1 (k:=some) (fun t=>z2Q)
theorem k1i {k:Nat}{xs:List At_}(h:boD (.sl k (xs.map At_.D))):uSzF q9l (szL xs) xs:=fun s h0 h1=>
 j1f (f:=z4o) (j2k fun x hx=>k2M (z6h h hx)) s h0 h1 (z6i h)
theorem k4O {x:Symbol}(h:boCs (Symbol.l x)):uSzF z3V (Sz.szd x) x:=fun s h0 h1=>by
 simp only[Symbol.l,q7W,j2H] at h
 exact z1A x.Name.size _ h0 h1 h.1 fun t h0 h1=>q9Y (szL x.Attributes) 0 h0 h1 (k1i h.2.1 t h0 h1) fun t=>z2Q
theorem k2N {k:Nat}{xs:List Symbol}(h:boD (.sl k (xs.map Symbol.D))):uSzF z2z (szL xs) xs:=fun s h0 h1=>
 j1f (f:=z7a) (j2k fun x hx=>k4O (z6h h hx)) s h0 h1 (z6i h)
theorem k4P {x:Oc}(h:x.Name.size≤9223372036854775807):uSzF q9m (Sz.szd x) x:=fun s h0 h1=>
 z1A x.Name.size 0 h0 h1 h (k:=some) (fun t=>z2Q)
theorem k1j:∀ (m:Nat) (e:Expr),fuE e≤m→boCs (Expr.l e)→uSzF (z3m m) (Sz.szd e) e:=by
 intro m
 induction m with
 | zero=>intro e h;rw[z2O] at h;omega
 | succ m ih=>
  intro e h hr s h0 h1
  rw[z2O] at h
  simp only[Expr.l,q7W,j2H] at hr
  obtain⟨_,_,_,_,h2,h3,h4,_⟩:=hr
  rw[q7R,Nat.add_assoc]
  show z4B (z3m m) e s=_
  unfold z4B
  exact z1A e.Symbol.size _ h0 h1 h2 fun t h0 h1=>z1A e.Name.size _ h0 h1 h3 fun t h0 h1=>
   q9Y (szL e.Args) 0 h0 h1 (j1f (f:=z9V (z3m m)) (j2k fun x hx=>ih x (by have:=z5N hx;omega) (by rw[← Expr.D_cells];exact z6h h4 hx)) t h0 h1 (z6i h4)) fun t=>z2Q
theorem j6F {e:Expr}(h:boCs (Expr.l e)):uSzF z4C (Sz.szd e) e:=fun s h0 h1=>
 q8S (fuE e) fun n hn=>k1j n e hn h s h0 h1
theorem k4Q {x:Eqn}(h:boCs (Eqn.l x)):uSzF z1q (Sz.szd x) x:=fun s h0 h1=>by
 have e:Sz.szd x=Sz.szd x.At+(Sz.szd x.Expr+0):=by rw[z5k,q7R,j1C];omega
 simp only[Eqn.l,q7W] at h
 rw[e]
 exact q9Y _ _ h0 h1 (k4P (j2H.1 h.2.1) s h0 h1) fun t h0 h1=>q9Y _ 0 h0 h1 (j6F (by simp only[Expr.l,q7W];exact h.2.2) t h0 h1) fun t=>z2Q
theorem k2O {k:Nat}{xs:List Eqn}(h:boD (.sl k (xs.map Eqn.D))):uSzF z0z (szL xs) xs:=fun s h0 h1=>
 j1f (f:=z4D) (j2k fun x hx=>k4Q (z6h h hx)) s h0 h1 (z6i h)
theorem k4R {x:Cn}(h:boCs (Cn.l x)):uSzF q8g (Sz.szd x) x:=fun s h0 h1=>by
 have e:Sz.szd x=x.Symbol.size+(x.Name.size+(Sz.szd x.Target+(Sz.szd x.Value+0))):=by rw[z1j,q7R,q7R];omega
 simp only[Cn.l,q7W] at h
 obtain⟨h1',h2,a1,a2,a3,a4,a5,a6,a7,hb⟩:=h
 rw[e]
 exact z1A _ _ h0 h1 (j2H.1 h1') fun t h0 h1=>z1A _ _ h0 h1 (j2H.1 h2) fun t h0 h1=>q9Y _ _ h0 h1 (j6F (by simp only[Expr.l,q7W];exact⟨a1,a2,a3,a4,a5,a6,a7,by rw[boCs];trivial⟩) t h0 h1) fun t h0 h1=>
  q9Y _ 0 h0 h1 (j6F (by simp only[Expr.l,q7W];exact hb) t h0 h1) fun t=>z2Q
theorem k2P {k:Nat}{xs:List Cn}(h:boD (.sl k (xs.map Cn.D))):uSzF q7M (szL xs) xs:=fun s h0 h1=>
 j1f (f:=z1Q) (j2k fun x hx=>k4R (z6h h hx)) s h0 h1 (z6i h)
theorem k2Q {x:Rule}(h:boCs (Rule.l x)):uSzF z7b (Sz.szd x) x:=fun s h0 h1=>by
 have e:Sz.szd x=x.Name.size+(x.Left.size+(szL x.Right+(szL x.Equations+(szL x.Contributions+0)))):=by rw[z5M];omega
 simp only[Rule.l,q7W] at h
 obtain⟨h2,h3,h4,_,h5,h6,_⟩:=h
 rw[e]
 exact z1A _ _ h0 h1 (j2H.1 h2) fun t h0 h1=>z1A _ _ h0 h1 (j2H.1 h3) fun t h0 h1=>q9Y _ _ h0 h1 (k2L h4 t h0 h1) fun t h0 h1=>q9Y _ _ h0 h1 (k2O h5 t h0 h1) fun t h0 h1=>
  q9Y _ 0 h0 h1 (k2P h6 t h0 h1) fun t=>z2Q
theorem k1k {k:Nat}{xs:List Rule}(h:boD (.sl k (xs.map Rule.D))):uSzF z5D (szL xs) xs:=fun s h0 h1=>
 j1f (f:=z9W) (j2k fun x hx=>k2Q (z6h h hx)) s h0 h1 (z6i h)
theorem k2R {x:Gm_}(h:boCs (Gm_.l x)):uSzF z2B (Sz.szd x) x:=fun s h0 h1=>by
 have e:Sz.szd x=szL x.Symbols+(szL x.Rules+0):=by rw[z2q];omega
 simp only[Gm_.l,q7W] at h
 rw[e]
 exact q9Y _ _ h0 h1 (k2N h.1 s h0 h1) fun t h0 h1=>q9Y _ 0 h0 h1 (k1k h.2.1 t h0 h1) fun t=>z2Q
end
theorem k2S {α:Type}{z y:α}(pre:List α)(n:Nat):List.set (pre++List.replicate (n+1) z) pre.length y=(pre++[y])++List.replicate n z:=by
 rw[List.set_append_right _ _ (Nat.le_refl _),Nat.sub_self,List.replicate_succ,List.set_cons_zero];simp
theorem k1l {α:Type}{z:α}{f:Nat→α→List α→Option (List α)}:∀ (xs pre:List α),(∀ k x s,x∈xs→k<s.length→f k x s=some (List.set s k x))→eachL f pre.length xs (pre++List.replicate xs.length z)=some (pre++xs)
 | [],pre,_=>by simp[eachL]
 | x::xs,pre,hf=>by
  show (f pre.length x _).bind _=_
  rw[hf _ _ _ (by simp) (by simp),lnC,k2S,bsS]
  have:=k1l (z:=z) xs (pre++[x]) fun k y s hy=>hf k y s (by simp[hy])
  rw[List.length_append] at this
  rw[show pre.length+1=pre.length+[x].length from rfl,this];simp
theorem z6M {α:Type}{z:α}{g:α→Option α}{b:Int}{xs:List α}{f:Nat→α→List α→Option (List α)}(hb:(xs.length:Int)*b≤281474976710656)(hl:xs.length≤1048576)(hf:∀ k x s,x∈xs→k<s.length→f k x s=some (List.set s k x)) :
  (grd (0≤(xs.length:Int)∧(xs.length:Int)*b≤281474976710656∧(xs.length:Int)≤9223372036854775807) <| (eachL f 0 xs (List.replicate xs.length z)).bind fun s1=>some s1)=some xs:=by
 rw[q3y ⟨by omega,hb,by omega⟩]
 have:=k1l (z:=z) xs [] hf
 rw[List.length_nil,List.nil_append,List.nil_append] at this
 rw[this];rfl
theorem j2l {α:Type}{g:α→Option α}{xs:List α}(hg:∀ x∈xs,g x=some x)(k:Nat)(x:α)(s:List α)(hx:x∈xs)(hk:k<s.length):((g x).bind fun y1=>(s[k]?).bind fun x2=>some (List.set s k y1))=some (List.set s k x):=by
 rw[hg x hx,bsS,List.getElem?_eq_getElem hk];rfl
theorem k2T {xs:List ByteArray}(h:szL xs≤1048576):z2D xs=some xs:=by
 have hl:=q5a xs
 exact z6M (g:=some) (by omega) (by omega) fun k x s _ hk=>by unfold z7c;rw[List.getElem?_eq_getElem hk];rfl
theorem k1m {xs:List At_}(h:szL xs≤1048576):q9n xs=some xs:=by
 have hl:=q5a xs
 exact z6M (g:=some) (by omega) (by omega) (j2l (g:=z0A) fun x _=>rfl)
theorem k4S {x:Symbol}(h:Sz.szd x≤1048576):z0e x=some x:=by
 unfold z0e;rw[k1m (by rw[j1T] at h;omega)];rfl
theorem k2U {xs:List Symbol}(h:szL xs≤1048576):z2C xs=some xs:=by
 have hl:=q5a xs
 exact z6M (g:=some) (by omega) (by omega) (j2l (g:=z0e) fun x hx=>k4S (by have:=z1x hx;omega))
theorem k1n:∀ (m:Nat) (e:Expr),fuE e≤m→Sz.szd e≤1048576→z1R m e=some e:=by
 intro m
 induction m with
 | zero=>intro e h;rw[z2O] at h;omega
 | succ m ih=>
  intro e h hs
  rw[z2O] at h
  show z4E (z1R m) e=_
  unfold z4E
  have hz:=q7R e
  have hl:=q5a e.Args
  have:z5E (z1R m) e.Args=some e.Args:=z6M (g:=some) (by omega) (by omega) (j2l (g:=z1R m) fun x hx=>ih x (by have:=z5N hx;omega) (by have:=j9T hx;omega))
  rw[this,bsS];cases e;rfl
theorem j6G {e:Expr}(h:Sz.szd e≤1048576):z4F e=some e:=q8S (fuE e) fun n hn=>k1n n e hn h
theorem k4T {x:Eqn}(h:Sz.szd x≤1048576):q8h x=some x:=by
 unfold q8h
 rw[show q9o x.At=some x.At from rfl,j6G (by rw[z5k] at h;rw[q7R];omega)];rfl
theorem k2V {xs:List Eqn}(h:szL xs≤1048576):z0B xs=some xs:=by
 have hl:=q5a xs
 exact z6M (g:=some) (by omega) (by omega) (j2l (g:=q8h) fun x hx=>k4T (by have:=z1x hx;omega))
theorem k4U {x:Cn}(h:Sz.szd x≤1048576):q6f x=some x:=by
 unfold q6f
 rw[z1j] at h
 rw[j6G (by rw[q7R];omega),bsS,j6G (by rw[q7R];omega)];rfl
theorem k2W {xs:List Cn}(h:szL xs≤1048576):q7N xs=some xs:=by
 have hl:=q5a xs
 exact z6M (g:=some) (by omega) (by omega) (j2l (g:=q6f) fun x hx=>k4U (by have:=z1x hx;omega))
theorem k2X {x:Rule}(h:Sz.szd x≤1048576):z3n x=some x:=by
 unfold z3n
 rw[z5M] at h
 rw[k2T (by omega),bsS,k2V (by omega),bsS,k2W (by omega)];rfl
theorem k1o {xs:List Rule}(h:szL xs≤1048576):z5F xs=some xs:=by
 have hl:=q5a xs
 exact z6M (g:=some) (by omega) (by omega) (j2l (g:=z3n) fun x hx=>k2X (by have:=z1x hx;omega))
theorem k2Y {x:Gm_}(h:Sz.szd x≤1048576):q7X x=some x:=by
 unfold q7X
 rw[z2q] at h
 rw[k2U (by omega),bsS,k1o (by omega)];rfl
theorem k3x {α:Type}{f:Nat→α→Unit→Option (Unit ⊕ Bool)}:∀ (xs:List α) (i:Nat),(∀ k x,xs[k]?=some x→f (i+k) x ()=some (.inl ()))→findL f i xs ()=some (.inl ())
 | [],i,_=>rfl
 | x::xs,i,hf=>by
  show (f i x ()).bind _=_
  have h0:=hf 0 x rfl
  rw[Nat.add_zero] at h0
  rw[h0]
  exact k3x xs (i+1) fun k y hy=>by have:=hf (k+1) y hy;rwa[show i+1+k=i+(k+1) by omega]
theorem z6N {α:Type}{xs:List α}{f:Nat→α→Unit→Option (Unit ⊕ Bool)}(hf:∀ k x,xs[k]?=some x→f k x ()=some (.inl ())) :
  (if (xs.length:Int)=(xs.length:Int) then (findL f 0 xs ()).bind <| onr (fun r1=>some r1) fun _=>some true else some false)=some true:=by
 rw[ifP rfl,k3x xs 0 fun k x h=>by rw[Nat.zero_add];exact hf k x h];rfl
theorem j2m {α:Type}{g:α→α→Option Bool}{xs:List α}(hg:∀ x∈xs,g x x=some true)(k:Nat)(x:α)(h:xs[k]?=some x):((xs[k]?).bind fun x2=>(g x x2).bind fun y1=>if y1=true then some (.inl ()) else some (.inr false):Option (Unit ⊕ Bool))=some (.inl ()):=by
 rw[h,bsS,hg x (List.mem_of_getElem? h)];rfl
theorem k2Z (x:At_):q7D x x=some true:=by simp[q7D]
theorem k1p (xs:List At_):q9T xs xs=some true:=z6N (f:=z4s xs) (j2m (g:=q7D) fun x _=>k2Z x)
theorem k4V (x:Symbol):z0o x x=some true:=by simp[z0o,k1p]
theorem k3a (xs:List Symbol):z2K xs xs=some true:=z6N (f:=z7u xs) (j2m (g:=z0o) fun x _=>k4V x)
theorem k3b (xs:List ByteArray):z2L xs xs=some true:=z6N (f:=z4f xs) fun k x h=>by unfold z4f;rw[h,bsS,ifP rfl]
theorem k3c (x:Oc):q8e x x=some true:=by simp[q8e]
theorem k1q:∀ (m:Nat) (e:Expr),fuE e≤m→z0Z m e e=some true:=by
 intro m
 induction m with
 | zero=>intro e h;rw[z2O] at h;omega
 | succ m ih=>
  intro e h
  rw[z2O] at h
  show z5a (z0Z m) e e=_
  have:z5K (z0Z m) e.Args e.Args=some true:=z6N (f:=j0h (z0Z m) e.Args) (j2m (g:=z0Z m) fun x hx=>ih x (by have:=z5N hx;omega))
  simp[z5a,this]
theorem j7L (e:Expr):z5b e e=some true:=q8S (fuE e) fun n hn=>k1q n e hn
theorem k4W (x:Eqn):q8s x x=some true:=by simp[q8s,k3c,j7L]
theorem k3d (xs:List Eqn):z0O xs xs=some true:=z6N (f:=z5c xs) (j2m (g:=q8s) fun x _=>k4W x)
theorem k4X (x:Cn):q6h x x=some true:=by simp[q6h,j7L]
theorem k3e (xs:List Cn):q7Q xs xs=some true:=z6N (f:=z2j xs) (j2m (g:=q6h) fun x _=>k4X x)
theorem k3f (x:Rule):z3A x x=some true:=by simp[z3A,k3b,k3d,k3e]
theorem k1r (xs:List Rule):z5L xs xs=some true:=z6N (f:=j0i xs) (j2m (g:=z3A) fun x _=>k3f x)
theorem k3g (x:Gm_):z1a x x=some true:=by simp[z1a,k3a,k1r]
theorem j5l {g:Gm_}(h:A.boCs (Gm_.l g)):q6S g=some true:=by
 unfold q6S
 rw[k2R h 1048576 (by omega) (by omega),bsS]
 by_cases h1:(Sz.szd g:Int)≤1048576
 ·have h2:Sz.szd g≤1048576:=by omega
  obtain⟨b,e1,e2⟩:=j3G h2
  rw[ifP h1,ifN (by omega)]
  simp only[k2Y h2,e1,e2,k3g,bsS,if_true]
 ·rw[ifN h1,ifP (by omega)]
end Go.Proofs.YtomdlgffolbdkaaGreat
