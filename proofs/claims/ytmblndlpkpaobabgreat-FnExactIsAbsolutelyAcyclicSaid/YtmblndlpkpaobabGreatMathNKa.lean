/- What those partial functions come to: plain lemmas on data; each bears its conditions in its statement. -/
import Derived.Test.YtmblndlpkpaobabGreatMathNJa
set_option linter.unusedVariables false
set_option linter.unusedSimpArgs false
set_option linter.ambiguousOpen false
set_option linter.unusedSectionVars false
set_option linter.unnecessarySimpa false
set_option linter.unusedVariables false
set_option linter.unusedSimpArgs false
namespace Go.Proofs.YtmblndlpkpaobabGreat
open Go Go.E
theorem z8f {α β:Type}{p:α→Bool}{g:α→β}{B:Nat}{f:Nat→α→List β→Option (List β)}:∀ (xs:List α) (i:Nat) (s:List β),(∀ k x s,x∈xs→s.length < B→f k x s=some (if p x=true then s++[g x] else s))→s.length+xs.length≤B →
  q2G f i xs s=some (s++(xs.filter p).map g)
 | [],i,s,_,_=>by simp [q2G]
 | x :: xs,i,s,hf,h=>by
  simp only [List.length_cons] at h
  by_cases hp:p x=true
  ·have ih:=z8f xs (i+1) (s++[g x]) (fun k y s hy=>hf k y s (by simp [hy])) (by simp; omega)
   simp [q2G,hf i x s (by simp) (by omega),hp,ih]
  ·have ih:=z8f xs (i+1) s (fun k y s hy=>hf k y s (by simp [hy])) (by omega)
   simp [q2G,hf i x s (by simp) (by omega),hp,ih]
theorem z8g {α β:Type}{g:α→β}{B:Nat}{f:Nat→α→List β→Option (List β)}(xs:List α)(i:Nat)(s:List β)(hf:∀ k x s,x∈xs→s.length < B→f k x s=some (s++[g x]))(h:s.length+xs.length≤B) :
  q2G f i xs s=some (s++xs.map g):=by
 have:=z8f (p:=fun _=>true) (g:=g) (B:=B) (f:=f) xs i s (fun k x s hx hs=>by rw [hf k x s hx hs,if_pos rfl]) h
 rw [this]; congr 2; congr 1; simp
theorem j8D {g:Grammar}{n:ByteArray}(h:(q6z g n).2=true):∃ j y,atS g n=some j∧g.Symbols[j]? = some y∧q6z g n=(y,true)∧y.Name=n:=by
 unfold q6z at h ⊢
 cases hf:g.Symbols.find? fun y=>decide (y.Name=n) with
 | none=>rw [hf] at h; cases h
 | some y=>
  have hn:y.Name=n:=by simpa using List.find?_some (p:=fun y:Symbol=>decide (y.Name=n)) hf
  unfold atS
  cases he:g.Symbols.findIdx? fun y=>decide (y.Name=n) with
  | none=>
   rw [List.findIdx?_eq_none_iff] at he
   have:=he y (List.mem_of_find?_eq_some hf)
   simp [hn] at this
  | some j=>
   refine⟨j,y,rfl,?_,rfl,hn⟩
   rw [List.findIdx?_eq_some_iff_getElem] at he
   obtain⟨hj,h1,h2⟩:=he
   rw [List.find?_eq_some_iff_getElem] at hf
   obtain⟨_,i,hi,hy,h3⟩:=hf
   have:i=j:=by
    rcases Nat.lt_trichotomy i j with hlt | heq | hgt
    ·have:=h2 i hlt; rw [hy] at this; simp [hn] at this
    ·exact heq
    ·have:=h3 j hgt; simp at this; simp at h1; exact absurd h1 this
   subst this
   rw [List.getElem?_eq_getElem hi,hy]
theorem Shape.known {g:Grammar}(h:Shape g){r:Rule}(hr:r∈g.Rules){k:Nat}(hk:k≤r.Right.length):(q6z g (q7W r (k:Int))).2=true:=by
 have h3:=h.brk 3 (by omega) (by omega) r hr
 unfold z2N at h3
 rw [if_pos rfl,Bool.not_eq_false'] at h3
 unfold j0m at h3
 rw [List.all_eq_true] at h3
 exact h3 k (by rw [List.mem_range'_1]; omega)
theorem Shape.right {g:Grammar}(h:Shape g){r:Rule}(hr:r∈g.Rules){n:ByteArray}(hn:n∈r.Right):(q6z g n).2=true:=by
 obtain⟨k,hk⟩:=List.getElem?_of_mem hn
 have hlt:=(List.getElem?_eq_some_iff.1 hk).1
 have:=h.known hr (k:=k+1) (by omega)
 rwa [z5C hk] at this
theorem Shape.left {g:Grammar}(h:Shape g){r:Rule}(hr:r∈g.Rules):(q6z g r.Left).2=true:=by
 have:=h.known hr (k:=0) (by omega)
 unfold q7W at this
 rwa [if_pos (by rfl)] at this
theorem Shape.attrs {g:Grammar}(h:Shape g){y:Symbol}(hy:y∈g.Symbols):y.Attributes.length≤4:=by
 have:=h.symB hy
 unfold Go.Proofs.YtmblndlpkpaobabGreat.symB at this
 simp only [Bool.and_eq_true,decide_eq_true_eq] at this
 exact this.2.2.1
theorem Shape.plain {g:Grammar}(h:Shape g)(n:ByteArray):(q7F g n).length≤4:=by
 refine Nat.le_trans (List.length_filter_le _ _) ?_
 unfold q6z
 cases hf:g.Symbols.find? fun y=>decide (y.Name=n) with
 | none=>simp [zS]
 | some y=>exact h.attrs (List.mem_of_find?_eq_some hf)
theorem j4p (g:Grammar)(n:ByteArray):q8d g n=some (atI g n):=by
 unfold q8d q3T atI atS
 rw [z6w (q:=fun y:Symbol=>decide (y.Name=n)) (c:=fun k=>(k:Int)) fun j x hx=>by
  unfold q5b q8m
  rw [Option.bind_some,← apply_ite some]]
 cases g.Symbols.findIdx? fun y=>decide (y.Name=n) with
 | none=>rfl
 | some j=>dsimp only; rw [Nat.zero_add]; rfl
def Inv (g:Grammar)(all:List Relation):Prop:=all.length=g.Symbols.length∧∀ (k:Nat) (y:Symbol) (a:Relation),g.Symbols[k]? = some y→all[k]? = some a→Valid a∧a.N=((q7F g y.Name).length:Int)
def zR:Relation:=⟨0,[]⟩
def z9T (g:Grammar)(all:List Relation)(n:ByteArray):Relation:=all.getD ((atS g n).getD 0) zR
theorem Inv.at_ {g:Grammar}{all:List Relation}(h:Inv g all){n:ByteArray}(hn:(q6z g n).2=true):∃ j,atS g n=some j∧j < g.Symbols.length∧all[j]? = some (z9T g all n)∧Valid (z9T g all n)∧(z9T g all n).N=((q7F g n).length:Int):=by
 obtain⟨j,y,h1,h2,h3,h4⟩:=j8D hn
 have hj:=(List.getElem?_eq_some_iff.1 h2).1
 have e:all[j]? = some (z9T g all n):=by
  unfold z9T
  rw [h1,Option.getD_some,List.getD_eq_getElem?_getD,List.getElem?_eq_getElem (by rw [h.1]; exact hj)]; rfl
 have:=h.2 j y _ h2 e
 rw [h4] at this
 exact⟨j,h1,hj,e,this⟩
def z6y (g:Grammar)(r:Rule)(all:List Relation):List Relation:=r.Right.map (z9T g all)
theorem z8h {g:Grammar}(hS:Shape g){r:Rule}(hr:r∈g.Rules){all:List Relation}(h:Inv g all):FitL g r (z6y g r all):=by
 refine⟨by unfold z6y; simp,fun k own hk=>?_⟩
 unfold z6y at hk
 rw [List.getElem?_map] at hk
 cases hx:r.Right[k]? with
 | none=>rw [hx] at hk; cases hk
 | some x=>
  rw [hx] at hk; cases hk
  obtain⟨j,_,_,_,h4,h5⟩:=h.at_ (hS.right hr (List.mem_of_getElem? hx))
  rw [z5C hx]
  exact⟨h4,h5⟩
theorem j9o {g:Grammar}(hS:Shape g){r:Rule}(hr:r∈g.Rules):r.Right.length≤3:=by
 have:=hS.ruleB hr
 unfold Go.Proofs.YtmblndlpkpaobabGreat.ruleB at this
 simp only [Bool.and_eq_true,decide_eq_true_eq] at this
 exact this.2.1.1
theorem j4q {g:Grammar}(hS:Shape g){r:Rule}(hr:r∈g.Rules){all:List Relation}(h:Inv g all):q8N g r all=some (z6y g r all):=by
 have h3:=j9o hS hr
 unfold q8N z6y
 rw [z8g (g:=z9T g all) (B:=1048576) r.Right 0 [] (fun k x s hx hs=>by
  obtain⟨j,h1,h2,h4,_⟩:=h.at_ (hS.right hr hx)
  unfold z1Z z0w
  rw [j8x,Option.bind_some]
  have ha:atI g x=(j:Int):=by unfold atI; rw [h1]
  rw [ha]
  by_cases hj:(j:Int) < 0
  ·omega
  ·rw [if_neg hj,Option.bind_some,q2B (by omega),Int.toNat_natCast,h4,Option.bind_some,q2B (by constructor<;>omega)]) (by simp; omega)]
 simp
theorem j4r {g:Grammar}(h0:Sz.szd g≤1048576)(hS:Shape g){r:Rule}(hr:r∈g.Rules){all:List Relation}(h:Inv g all):q7E g r all=some (z7k g r (z6y g r all)):=by
 have h3:=j9o hS hr
 unfold q7E
 rw [z8g (g:=z9T g all) (B:=1048576) r.Right 0 [] (fun k x s hx hs=>by
  obtain⟨j,h1,h2,h4,_⟩:=h.at_ (hS.right hr hx)
  unfold z0p
  rw [j4p,Option.bind_some]
  have ha:atI g x=(j:Int):=by unfold atI; rw [h1]
  rw [ha,q2B (by omega),Int.toNat_natCast,h4,Option.bind_some,q2B (by constructor<;>omega)]) (by simp; omega),Option.bind_some,List.nil_append,show r.Right.map (z9T g all)=z6y g r all from rfl,(j1q h0 (Nat.le_trans (z2i hr) h0) (z8h hS hr h)).2.1]; rfl
noncomputable def sumS (g:Grammar) (r:Rule) (c:Relation):Relation:=(q8z g r c).getD ⟨0,[]⟩
theorem k0C {g:Grammar}(h:GOk g){r:Rule}(hl:ROk r)(c:Relation):q8z g r c=some (sumS g r c)∧z0e g r c=some (sumS g r c):=by
 obtain⟨x,h1,h2,_⟩:=j2b (c:=c) h hl
 unfold sumS
 rw [h1,h2]; exact⟨rfl,rfl⟩
def sumA (all:List Relation):Nat:=(all.map sumR).sum
theorem j4s:∀ (all:List Relation) (k:Nat) (x a:Relation),all[k]? = some a→sumA (all.set k x)+sumR a=sumA all+sumR x
 | [],k,x,a,h=>by simp at h
 | b :: all,0,x,a,h=>by simp at h; subst h; unfold sumA; simp; omega
 | b :: all,k+1,x,a,h=>by
  have ih:=j4s all k x a (by simpa using h)
  unfold sumA at ih ⊢
  simp only [List.set_cons_succ,List.map_cons,List.sum_cons]; omega
theorem Inv.bound {g:Grammar}{all:List Relation}(h:Inv g all):sumA all≤all.length*(16*65535):=by
 have key:∀ l:List Relation,(∀ a∈l,Valid a)→sumA l≤l.length*(16*65535):=by
  intro l
  induction l with
  | nil=>intro _; simp [sumA]
  | cons a l ih=>
   intro hv
   have h1:=j6X (hv a (by simp))
   have h2:=ih fun b hb=>hv b (by simp [hb])
   unfold sumA at h2 ⊢
   simp only [List.map_cons,List.sum_cons,List.length_cons]
   omega
 refine key all fun a ha=>?_
 obtain⟨k,hk⟩:=List.getElem?_of_mem ha
 have hlt:=(List.getElem?_eq_some_iff.1 hk).1
 exact (h.2 k _ a (List.getElem?_eq_getElem (by rw [← h.1]; exact hlt)) hk).1
theorem Valid.len {a:Relation}(h:Valid a):a.Rows.length≤16:=by have:=h.2.2.1; have:=h.2.1; omega
theorem j1r {g:Grammar}(h0:Sz.szd g≤1048576)(hS:Shape g){r:Rule}(hr:r∈g.Rules){all:List Relation}(h:Inv g all)(c:Bool)(i:Nat) :
  ∃ c' all',q7t g i r (c,all)=some (c',all')∧q6a g i r (c,all)=some (c',all')∧Inv g all'∧sumA all≤sumA all'∧(c'=true→c=true∨sumA all < sumA all'):=by
 obtain⟨j,h1,h2,h4,h5,h6⟩:=h.at_ (hS.left hr)
 have hs:=Nat.le_trans (z2i hr) h0
 have hA:atI g r.Left=(j:Int):=by unfold atI; rw [h1]
 generalize hold:z9T g all r.Left=old at h4 h5 h6
 have hsum:=k0C (z2h h0) (q6R hs) (z7k g r (z6y g r all))
 have hcs:=(j1q h0 hs (z8h hS hr h)).1
 generalize hnew:uniR old (sumS g r (z7k g r (z6y g r all)))=new
 have hlen:=h5.len
 have hv:=j6W (a:=old) (b:=sumS g r (z7k g r (z6y g r all))) h5
 have hm:=k0x (a:=old) (b:=sumS g r (z7k g r (z6y g r all))) h5
 rw [hnew] at hv hm
 have hset:=j4s all j new old h4
 have hInv:Inv g (all.set j new):=by
  refine⟨by simpa using h.1,fun k y a hk ha=>?_⟩
  rw [List.getElem?_set] at ha
  by_cases hjk:j=k
  ·subst hjk
   rw [if_pos rfl,if_pos (by rw [h.1]; exact h2)] at ha
   cases ha
   have:=(h.2 j y old hk h4).2
   exact⟨hv.1,hv.2.trans this⟩
  ·rw [if_neg hjk] at ha; exact h.2 k y a hk ha
 refine⟨c || !decide (new=old),all.set j new,?_,?_,hInv,by omega,fun hc=>?_⟩
 ·unfold q7t
  dsimp only
  rw [j4p,Option.bind_some,hA,q2B (by omega),Int.toNat_natCast,h4,Option.bind_some,j4r h0 hS hr h,Option.bind_some,hsum.2,Option.bind_some,k0w (by omega),Option.bind_some,hnew]
  cases c with
  | true=>rfl
  | false=>rw [if_neg (by simp),k0y]; rfl
 ·unfold q6a
  dsimp only
  rw [j8x,Option.bind_some,hA,q2B (by omega),Int.toNat_natCast,h4,Option.bind_some,j4q hS hr h,Option.bind_some,hcs,Option.bind_some,hsum.1,Option.bind_some,k0v (by omega),Option.bind_some,hnew,Option.bind_some]
  cases c with
  | true=>rw [if_pos rfl,q2B (by omega),Option.bind_some]; rfl
  | false=>rw [if_neg (by simp),q2B (by omega),Option.bind_some,j6Z]; rfl
 ·rw [Bool.or_eq_true] at hc
  rcases hc with hc | hc
  ·exact .inl hc
  ·right
   have:new≠old:=by simpa using hc
   have h7:sumR old≠sumR new:=fun he=>this (hm.2 he)
   have:=hm.1
   omega
theorem z9w {g:Grammar}(h0:Sz.szd g≤1048576)(hS:Shape g):∀ (rs:List Rule) (i:Nat) (c:Bool) (all:List Relation),(∀ r∈rs,r∈g.Rules)→Inv g all →
  ∃ c' all',q2G (q7t g) i rs (c,all)=some (c',all')∧q2G (q6a g) i rs (c,all)=some (c',all')∧Inv g all'∧sumA all≤sumA all'∧(c'=true→c=true∨sumA all < sumA all')
 | [],i,c,all,_,h=>⟨c,all,rfl,rfl,h,Nat.le_refl _,fun hc=>.inl hc⟩
 | r :: rs,i,c,all,hr,h=>by
  obtain⟨c1,a1,e1,e2,e3,e4,e5⟩:=j1r h0 hS (hr r (by simp)) h c i
  obtain⟨c2,a2,f1,f2,f3,f4,f5⟩:=z9w h0 hS rs (i+1) c1 a1 (fun x hx=>hr x (by simp [hx])) e3
  refine⟨c2,a2,by rw [q2G,e1,Option.bind_some,f1],by rw [q2G,e2,Option.bind_some,f2],f3,by omega,fun hc=>?_⟩
  rcases f5 hc with h1 | h1
  ·rcases e5 h1 with h2 | h2
   ·exact .inl h2
   ·right; omega
  ·right; omega
theorem j8E {g:Grammar}(h0:Sz.szd g≤1048576)(hS:Shape g):∀ (d:Nat) (all:List Relation),Inv g all→g.Symbols.length*(16*65535) - sumA all≤d→∃ q,q5u (q3a g) (all,true)=some q∧q5u (q4P g) all=some (q,true)∧Inv g q:=by
 intro d
 induction d with
 | zero=>
  intro all h hd
  obtain⟨c,a,e1,e2,e3,e4,e5⟩:=z9w h0 hS g.Rules 0 false all (fun _ h=>h) h
  have hb:=e3.bound
  rw [e3.1] at hb
  have hc:c=false:=by
   cases c with
   | false=>rfl
   | true=>
     rcases e5 rfl with h | h; · cases h
     omega
  subst hc
  refine⟨a,?_,?_,e3⟩
  ·have s1:q3a g (all,true)=some (.inl (a,false)):=by unfold q3a; dsimp only; rw [if_pos rfl,e1]; rfl
   have s2:q3a g (a,false)=some (.inr a):=by unfold q3a; dsimp only; rw [if_neg (by simp)]
   rw [q3V s1,q2X s2]
  ·exact q2X (by unfold q4P; rw [e2,Option.bind_some]; rfl)
 | succ d ih=>
  intro all h hd
  obtain⟨c,a,e1,e2,e3,e4,e5⟩:=z9w h0 hS g.Rules 0 false all (fun _ h=>h) h
  cases c with
  | false=>
   refine⟨a,?_,?_,e3⟩
   ·have s1:q3a g (all,true)=some (.inl (a,false)):=by unfold q3a; dsimp only; rw [if_pos rfl,e1]; rfl
    have s2:q3a g (a,false)=some (.inr a):=by unfold q3a; dsimp only; rw [if_neg (by simp)]
    rw [q3V s1,q2X s2]
   ·exact q2X (by unfold q4P; rw [e2,Option.bind_some]; rfl)
  | true=>
   have hlt:sumA all < sumA a:=by
     rcases e5 rfl with h | h; · cases h
     exact h
   have hb:=e3.bound
   rw [e3.1] at hb
   obtain⟨q,q1,q2,q3⟩:=ih a e3 (by omega)
   refine⟨q,?_,?_,q3⟩
   ·have s1:q3a g (all,true)=some (.inl (a,true)):=by unfold q3a; dsimp only; rw [if_pos rfl,e1]; rfl
    rw [q3V s1]; exact q1
   ·have s1:q4P g all=some (.inl a):=by unfold q4P; rw [e2,Option.bind_some]; rfl
    rw [q3V s1]; exact q2
def z7x (g:Grammar):List Relation:=g.Symbols.map fun y=>⟨((q7F g y.Name).length:Int),List.replicate (q7F g y.Name).length 0⟩
theorem j7d {g:Grammar}(hS:Shape g):Inv g (z7x g):=by
 refine⟨by unfold z7x; simp,fun k y a hk ha=>?_⟩
 unfold z7x at ha
 rw [List.getElem?_map,hk] at ha
 cases ha
 have h4:=hS.plain y.Name
 refine⟨⟨by show (0:Int)≤((q7F g y.Name).length:Int); omega,by show ((q7F g y.Name).length:Int)≤16; omega,by simp,fun x hx=>?_⟩,rfl⟩
 rw [List.mem_replicate] at hx
 have:=Nat.one_le_two_pow (n:=((q7F g y.Name).length:Int).toNat)
 show 0≤x∧x≤((2 ^ ((q7F g y.Name).length:Int).toNat:Nat):Int) - 1
 omega
theorem j3B {g:Grammar}(h0:Sz.szd g≤1048576)(hS:Shape g):q7N g=some (z7x g):=by
 have hl:=hS.syms
 unfold q7N z7x
 rw [z8g (g:=fun y:Symbol=>(⟨((q7F g y.Name).length:Int),List.replicate (q7F g y.Name).length 0⟩:Relation)) (B:=1048576) g.Symbols 0 [] (fun k y s hy hs=>by
  unfold q8U
  have:=hS.plain y.Name
  rw [z9u (z2h h0),Option.bind_some,z7a,j3V (by omega) (by omega),Option.bind_some,q2B (by constructor<;>omega),Int.toNat_natCast]) (by simp; omega)]
 simp
theorem j3C {g:Grammar}(h0:Sz.szd g≤1048576)(hS:Shape g):q2G (q7q g) 0 g.Symbols []=some (z7x g):=by
 have hl:=hS.syms
 unfold z7x
 rw [z8g (g:=fun y:Symbol=>(⟨((q7F g y.Name).length:Int),List.replicate (q7F g y.Name).length 0⟩:Relation)) (B:=1048576) g.Symbols 0 [] (fun k y s hy hs=>by
  unfold q7q
  have:=hS.plain y.Name
  rw [j2r (z2h h0),Option.bind_some,j3V (by omega) (by omega),Option.bind_some,q2B (by constructor<;>omega),Int.toNat_natCast]) (by simp; omega)]
 simp
theorem j5x {g:Grammar}(h0:Sz.szd g≤1048576):∃ q b,q7Q g=some (q,b)∧q6s g=some (q,b)∧b=z9t g∧(z9t g=true→Inv g q)∧(z9t g=false→q=[]):=by
 unfold q7Q q6s
 rw [j4j h0,j4k h0]
 cases hg:z9t g with
 | false=>exact⟨[],false,rfl,rfl,rfl,fun h=>(by cases h),fun _=>rfl⟩
 | true=>
  have hS:=j0p hg
  obtain⟨q,q1,q2,q3⟩:=j8E h0 hS _ (z7x g) (j7d hS) (Nat.le_refl _)
  refine⟨q,true,?_,?_,rfl,fun _=>q3,fun h=>(by cases h)⟩
  ·rw [Option.bind_some,if_pos rfl,j3B h0 hS,Option.bind_some,q1]; rfl
  ·rw [Option.bind_some,if_pos rfl,j3C h0 hS,Option.bind_some,q2]; rfl
noncomputable def uniL (g:Grammar):List Relation:=((q6s g).getD ([],false)).1
noncomputable def j2u (g:Grammar) (r:Rule):Bool:=j8A (z7k g r (z6y g r (uniL g)))
noncomputable def j7e (g:Grammar):List ByteArray:=if z9t g=true then (g.Rules.filter (j2u g)).map fun r=>r.Name else []
theorem j3D {α β:Type}{p:α→Bool}{g:α→β}{xs:List α}{f:(List β × Int)→Option ((List β × Int) ⊕ List β)}(hf:∀ (k:Nat) x s,xs[k]? = some x→s.length≤k→f (s,(k:Int))=some (.inl (if p x=true then s++[g x] else s,((k+1:Nat):Int))))(he:∀ s,f (s,(xs.length:Int))=some (.inr s)) :
  ∀ (m k:Nat) (s:List β),k+m=xs.length→s.length≤k→q5u f (s,(k:Int))=some (s++((xs.drop k).filter p).map g)
 | 0,k,s,hk,_=>by
  obtain rfl:k=xs.length:=by omega
  rw [q2X (he s)]; simp
 | m+1,k,s,hk,hs=>by
  have hk' : k < xs.length:=by omega
  have h1:=hf k xs[k] s (List.getElem?_eq_getElem hk') hs
  rw [q3V h1,List.drop_eq_getElem_cons hk']
  by_cases hp:p xs[k]=true
  ·rw [if_pos hp,j3D hf he m (k+1) _ (by omega) (by simp; omega),List.filter_cons,if_pos hp]; simp
  ·rw [if_neg hp,j3D hf he m (k+1) _ (by omega) (by omega),List.filter_cons,if_neg hp]
theorem j5y {g:Grammar}(h0:Sz.szd g≤1048576):q8k g=some (j7e g)∧q8o g=some (j7e g):=by
 obtain⟨q,b,h1,h2,h3,h4,h5⟩:=j5x h0
 have hq:uniL g=q:=by unfold uniL; rw [h2]; rfl
 unfold q8k q8o j7e
 rw [h1,h2,Option.bind_some,Option.bind_some]
 try dsimp only
 subst h3
 cases hg:z9t g with
 | false=>
  rw [h5 hg]
  refine⟨?_,rfl⟩
  have:q5h g [] false ([],0)=some (.inr []):=by
   unfold q5h
   dsimp only
   split
   ·rfl
   ·rfl
  rw [q2X this]; rfl
 | true=>
  have hS:=j0p hg
  have hI:=h4 hg
  have hR:=hS.rules
  rw [if_pos rfl,if_pos rfl]
  have hloop:∀ r∈g.Rules,z2v (z7k g r (z6y g r q))=some (j2u g r)∧z0T (z7k g r (z6y g r q))=some (j2u g r):=fun r hr=>by
   have hl:=(j1q h0 (Nat.le_trans (z2i hr) h0) (z8h hS hr hI)).2.2
   unfold j2u
   rw [hq]
   exact⟨j8C (by omega),j8B (by omega)⟩
  constructor
  ·have key:=j3D (p:=j2u g) (g:=fun r:Rule=>r.Name) (xs:=g.Rules) (f:=q5h g q true) (fun k r s hr hs=>by
    have hk:=(List.getElem?_eq_some_iff.1 hr).1
    have hm:=List.mem_of_getElem? hr
    unfold q5h
    dsimp only
    rw [if_pos (by omega),if_pos rfl,q2B (by omega),Int.toNat_natCast,hr,Option.bind_some,j4q hS hm hI,Option.bind_some,(j1q h0 (Nat.le_trans (z2i hm) h0) (z8h hS hm hI)).1,Option.bind_some,(hloop r hm).1,Option.bind_some]
    cases j2u g r with
    | true=>rw [if_pos rfl,q2B (by constructor<;>omega),Option.bind_some,q2B (by constructor<;>omega)]; rfl
    | false=>rw [if_neg (by simp),Option.bind_some,q2B (by constructor<;>omega)]; rfl) (fun s=>by
    unfold q5h; dsimp only; rw [if_neg (by omega)]) g.Rules.length 0 [] (by omega) (by simp)
   rw [show q5u (q5h g q true) ([],0)=_ from key]
   simp
  ·rw [z8f (p:=j2u g) (g:=fun r:Rule=>r.Name) (B:=1048576) g.Rules 0 [] (fun k r s hr hs=>by
    unfold z2C
    rw [j4r h0 hS hr hI,Option.bind_some,(hloop r hr).2,Option.bind_some]
    cases j2u g r with
    | true=>rw [if_pos rfl,if_pos rfl,q2B (by constructor<;>omega)]; rfl
    | false=>rfl) (by simp; omega)]
   simp
theorem j7f {g:Grammar}(h0:Sz.szd g≤1048576):∃ b,q5M g=some b∧q5N g=some b:=by
 obtain⟨h1,h2⟩:=j5y h0
 unfold q5M q5N
 rw [j4j h0,j4k h0,Option.bind_some,Option.bind_some]
 cases z9t g with
 | false=>exact⟨_,rfl,rfl⟩
 | true=>rw [if_pos rfl,if_pos rfl,h1,h2]; exact⟨_,rfl,rfl⟩
end Go.Proofs.YtmblndlpkpaobabGreat
