/- What those partial functions come to: plain lemmas on data; each bears its conditions in its statement. -/
import Derived.Test.YteefempppabmkacGreatMathNFc
set_option linter.unusedVariables false
set_option linter.unusedSimpArgs false
set_option linter.ambiguousOpen false
set_option linter.unusedSectionVars false
set_option linter.unnecessarySimpa false
set_option linter.unusedVariables false
set_option linter.unusedSimpArgs false
namespace Go.Proofs.YteefempppabmkacGreat
open Go Go.E
def atS (g:Grammar)(n:ByteArray):Option Nat:=g.Symbols.findIdx? fun y=>decide (y.Name=n)
def atI (g:Grammar)(n:ByteArray):Int:=match atS g n with
 | some j=>(j:Int)
 | none=>-1
theorem z9F {α ρ:Type}{q:α→Bool}{c:Nat→ρ}:∀ {xs:List α} {i:Nat} {f:Nat→α→Unit→Option (Unit ⊕ ρ)},(∀ j x,xs[j]? = some x→f (i+j) x ()=some (if q x=true then .inr (c (i+j)) else .inl ())) →
  q2u f i xs ()=some (match xs.findIdx? q with | some j=>.inr (c (i+j)) | none=>.inl ())
 | [],_,_,_=>rfl
 | x :: xs,i,f,h=>by
  rw [q2u,show f i x ()=_ from h 0 x rfl,Option.bind_some,List.findIdx?_cons]
  by_cases hq:q x=true
  ·rw [if_pos hq,if_pos hq]
  ·rw [if_neg hq,if_neg hq]
   have ih:=z9F (q:=q) (c:=c) (xs:=xs) (i:=i+1) (f:=f) fun j y hy=>by
    have:=h (j+1) y (by simpa using hy)
    rw [show i+1+j=i+(j+1) by omega]; exact this
   dsimp only
   rw [ih]
   cases xs.findIdx? q with
   | none=>rfl
   | some j=>simp only [Option.map_some]; rw [show i+1+j=i+(j+1) by omega]
theorem k1I (g:Grammar)(n:ByteArray):q9I g n=some (atI g n):=by
 unfold q9I atI atS
 rw [z9F (q:=fun y:Symbol=>decide (y.Name=n)) (c:=fun k=>(k:Int)) fun j x hx=>by
  unfold z2p
  by_cases hn:x.Name=n
  ·rw [if_pos hn,if_pos (by simpa using hn)]
  ·rw [if_neg hn,if_neg (by simpa using hn)]]
 cases g.Symbols.findIdx? fun y=>decide (y.Name=n) with
 | none=>rfl
 | some j=>dsimp only; rw [Nat.zero_add]; rfl
theorem k1J {g:Grammar}{n:ByteArray}{j:Nat}(h:atS g n=some j):j < g.Symbols.length:=by
 unfold atS at h
 rw [List.findIdx?_eq_some_iff_getElem] at h
 exact h.1
def okAt (g:Grammar)(hs:List Int)(n:ByteArray):Bool:=match atS g n with
 | some j=>decide (0 < hs.getD j 0)
 | none=>false
def j0D (g:Grammar)(hs:List Int)(n:ByteArray):Bool:=g.Rules.any fun r=>decide (r.Left=n)&&r.Right.all (okAt g hs)
theorem z9G {α:Type}{q:α→Bool}{f:Nat→α→Bool→Option Bool}:∀ (xs:List α) (i:Nat) (b:Bool),(∀ k x s,x∈xs→f k x s=some (s&&q x))→q2J f i xs b=some (b&&xs.all q)
 | [],_,b,_=>by simp [q2J]
 | x :: xs,i,b,h=>by
  rw [q2J,h i x b (by simp),Option.bind_some,z9G xs (i+1) _ fun k y s hy=>h k y s (by simp [hy]),List.all_cons,Bool.and_assoc]
theorem getD_some {hs:List Int}{j:Nat}(h:j < hs.length):hs[j]? = some (hs.getD j 0):=by
 rw [List.getD_eq_getElem?_getD,List.getElem?_eq_getElem h]; rfl
theorem k1K {g:Grammar}{hs:List Int}(hl:hs.length=g.Symbols.length)(n:ByteArray):z1K n g hs=some (match atS g n with | some j=>hs.getD j 0 | none=>0):=by
 unfold z1K atS
 rw [z9F (q:=fun y:Symbol=>decide (y.Name=n)) (c:=fun k=>hs.getD k 0) fun j x hx=>by
  unfold z6s
  have hj:j < g.Symbols.length:=(List.getElem?_eq_some_iff.1 hx).1
  by_cases hn:x.Name=n
  ·rw [if_pos hn,if_pos (by simpa using hn),Nat.zero_add,getD_some (by omega)]; rfl
  ·rw [if_neg hn,if_neg (by simpa using hn)]]
 cases g.Symbols.findIdx? fun y=>decide (y.Name=n) with
 | none=>rfl
 | some j=>dsimp only; rw [Nat.zero_add]; rfl
theorem j5D {g:Grammar}{hs:List Int}(hl:hs.length=g.Symbols.length)(xs:List ByteArray)(b:Bool):q2J (z5v g hs) 0 xs b=some (b&&xs.all (okAt g hs)):=
 z9G xs 0 b fun k x s _=>by
  unfold z5v okAt
  cases s with
  | false=>rfl
  | true=>
   rw [if_pos rfl,k1K hl,Option.bind_some,Option.bind_some,Bool.true_and]
   cases atS g x<;>rfl
theorem j5E {g:Grammar}{hs:List Int}(hl:hs.length=g.Symbols.length)(xs:List ByteArray)(b:Bool):q2J (z1Y g hs) 0 xs b=some (b&&xs.all (okAt g hs)):=
 z9G xs 0 b fun k x s _=>by
  unfold z1Y okAt
  rw [k1I,Option.bind_some]
  unfold atI
  cases s with
  | false=>rfl
  | true=>
   cases hj:atS g x with
   | none=>rfl
   | some j=>
    have:=k1J hj
    dsimp only
    rw [if_pos rfl,Option.bind_some,decide_eq_true (Int.natCast_nonneg j),if_pos rfl]
    unfold z2L
    by_cases h0:(0:Int) < (j:Int)
    ·rw [if_pos h0,Option.bind_some,q2q (Int.natCast_nonneg j),Int.toNat_natCast,getD_some (by omega)]; rfl
    ·obtain rfl:j=0:=by omega
     rw [if_neg h0,Option.bind_some,q2q (by omega),show (0:Int).toNat=0 from rfl,getD_some (by omega)]; rfl
theorem j7g {g:Grammar}{hs:List Int}(hl:hs.length=g.Symbols.length)(n:ByteArray):z0y g n hs=some (j0D g hs n):=by
 unfold z0y j0D
 rw [q2P (c:=true) (q:=fun r:Rule=>!(decide (r.Left=n)&&r.Right.all (okAt g hs))) fun k x hx=>by
  unfold z4Y
  rw [j5E hl,Option.bind_some]
  cases (decide (x.Left=n)&&x.Right.all (okAt g hs))<;>rfl]
 have e:(g.Rules.all fun r=>!(decide (r.Left=n)&&r.Right.all (okAt g hs)))=!(g.Rules.any fun r=>decide (r.Left=n)&&r.Right.all (okAt g hs)):=by rw [List.not_any_eq_all_not]
 rw [e]
 cases g.Rules.any fun r=>decide (r.Left=n)&&r.Right.all (okAt g hs)<;>rfl
def HsOk (g:Grammar)(hs:List Int):Prop:=hs.length=g.Symbols.length∧∀ j,0≤hs.getD j 0
theorem HsOk.set {g:Grammar}{hs:List Int}(h:HsOk g hs){k:Nat}{v:Int}(hv:0≤v):HsOk g (hs.set k v):=by
 refine⟨by simpa using h.1,fun j=>?_⟩
 rw [List.getD_eq_getElem?_getD,List.getElem?_set]
 split
 ·split
  ·exact hv
  ·simp
 ·rw [← List.getD_eq_getElem?_getD]; exact h.2 j
theorem j7h {g:Grammar}{hs:List Int}(hl:hs.length=g.Symbols.length){v:Int}(k:Nat)(x:Symbol)(hk:k < g.Symbols.length):∀ (rs:List Rule) (i:Nat) (s:List Int),s.length=g.Symbols.length →
  q2J (z2X g hs v k x) i rs s=some (if (rs.any fun r=>decide (r.Left=x.Name)&&r.Right.all (okAt g hs))=true then s.set k v else s)
 | [],i,s,_=>by simp [q2J]
 | r :: rs,i,s,hs'=>by
  have e:z2X g hs v k x i r s=some (if (decide (r.Left=x.Name)&&r.Right.all (okAt g hs))=true then s.set k v else s):=by
   unfold z2X
   rw [j5D hl,Option.bind_some]
   cases (decide (r.Left=x.Name)&&r.Right.all (okAt g hs)) with
   | false=>rfl
   | true=>rw [if_pos rfl,if_pos rfl,List.getElem?_eq_getElem (by omega)]; rfl
  rw [q2J,e,Option.bind_some]
  by_cases hb:(decide (r.Left=x.Name)&&r.Right.all (okAt g hs))=true
  ·rw [if_pos hb,j7h hl k x hk rs (i+1) (s.set k v) (by simpa using hs')]
   have:(r :: rs).any (fun r=>decide (r.Left=x.Name)&&r.Right.all (okAt g hs))=true:=by rw [List.any_cons,hb]; rfl
   rw [if_pos this,List.set_set,ite_self]
  ·rw [if_neg hb,j7h hl k x hk rs (i+1) s hs']
   have:(r :: rs).any (fun r=>decide (r.Left=x.Name)&&r.Right.all (okAt g hs))=rs.any (fun r=>decide (r.Left=x.Name)&&r.Right.all (okAt g hs)):=by rw [List.any_cons,Bool.eq_false_iff.2 hb]; rfl
   rw [this]
theorem k4j {g:Grammar}{hs:List Int}(h:HsOk g hs){v:Int}{k:Nat}{x:Symbol}(hk:k < g.Symbols.length){s:List Int}(hs' : s.length=g.Symbols.length) :
  z2Y g hs v k x s=some (if (decide (hs.getD k 0=0)&&j0D g hs x.Name)=true then s.set k v else s):=by
 have h0:=h.2 k
 unfold z2Y
 rw [getD_some (by rw [h.1]; exact hk),Option.bind_some]
 by_cases hz:hs.getD k 0=0
 ·rw [if_neg (by omega),decide_eq_true hz,j7h h.1 k x hk _ _ _ hs']; rfl
 ·rw [if_pos (by omega),decide_eq_false hz]; rfl
theorem k4k {g:Grammar}{hs:List Int}(h:HsOk g hs){v:Int}{k:Nat}{x:Symbol}(hk:k < g.Symbols.length){s:List Int}(hs' : s.length=g.Symbols.length) :
  q9J g hs v k x s=some (if (decide (hs.getD k 0=0)&&j0D g hs x.Name)=true then s.set k v else s):=by
 unfold q9J
 rw [getD_some (by rw [h.1]; exact hk),Option.bind_some]
 by_cases hz:hs.getD k 0=0
 ·rw [if_pos hz,decide_eq_true hz,j7g h.1,Option.bind_some,Bool.true_and]
  cases j0D g hs x.Name with
  | false=>rfl
  | true=>rw [if_pos rfl,if_pos rfl,List.getElem?_eq_getElem (by omega)]; rfl
 ·rw [if_neg hz,decide_eq_false hz]; rfl
theorem j0E {g:Grammar}{hs:List Int}(h:HsOk g hs){v:Int}(hv:0≤v):∀ (xs:List Symbol) (i:Nat) (s:List Int),i+xs.length=g.Symbols.length→HsOk g s →
  ∃ t,q2J (z2Y g hs v) i xs s=some t∧q2J (q9J g hs v) i xs s=some t∧HsOk g t
 | [],i,s,_,hs'=>⟨s,rfl,rfl,hs'⟩
 | x :: xs,i,s,hi,hs'=>by
  simp only [List.length_cons] at hi
  have e1:=k4j (x:=x) h (v:=v) (k:=i) (by omega) hs'.1
  have e2:=k4k (x:=x) h (v:=v) (k:=i) (by omega) hs'.1
  have hn:HsOk g (if (decide (hs.getD i 0=0)&&j0D g hs x.Name)=true then s.set i v else s):=by
   split
   ·exact hs'.set hv
   ·exact hs'
  obtain⟨t,h1,h2,h3⟩:=j0E h hv xs (i+1) _ (by omega) hn
  exact⟨t,by rw [q2J,e1,Option.bind_some,h1],by rw [q2J,e2,Option.bind_some,h2],h3⟩
theorem z7I {g:Grammar}(hn:g.Symbols.length≤1048576):∃ l,z2s g=some l∧z0z g=some l∧HsOk g l:=by
 have key:∀ (m k:Nat) (hs:List Int),k+m=g.Symbols.length+1→1≤k→HsOk g hs→∃ t,q7k (q9v g) (hs,(k:Int))=some t∧q7k (q7i g) (hs,(k:Int))=some t∧HsOk g t:=by
  intro m
  induction m with
  | zero=>
   intro k hs hk _ h
   refine⟨hs,q3X ?_,q3X ?_,h⟩
   ·unfold q9v; dsimp only; rw [if_neg (by omega)]
   ·unfold q7i; dsimp only; rw [if_neg (by omega)]
  | succ m ih=>
   intro k hs hk h1 h
   have hl:=h.1
   obtain⟨t,e1,e2,e3⟩:=j0E h (v:=(k:Int)) (by omega) g.Symbols 0 hs (by omega) h
   obtain⟨q,f1,f2,f3⟩:=ih (k+1) t (by omega) (by omega) e3
   refine⟨q,?_,?_,f3⟩
   ·have e:q9v g (hs,(k:Int))=some (.inl (t,((k+1:Nat):Int))):=by
     unfold q9v; dsimp only
     rw [if_pos (by omega),q2q (by refine⟨?_,?_,?_⟩<;>omega),q2q (by simp),e1,Option.bind_some,q2q (by constructor<;>omega)]; rfl
    rw [q5h e]; exact f1
   ·have e:q7i g (hs,(k:Int))=some (.inl (t,((k+1:Nat):Int))):=by
     unfold q7i; dsimp only
     rw [if_pos (by omega),q2q (by simp only [List.length_nil]; constructor<;>omega),e2,Option.bind_some,q2q (by constructor<;>omega)]; rfl
    rw [q5h e]; exact f2
 have h0:HsOk g (List.replicate g.Symbols.length (0:Int)):=⟨by simp,fun j=>by rw [List.getD_eq_getElem?_getD,List.getElem?_replicate]; split<;>simp⟩
 obtain⟨t,f1,f2,f3⟩:=key g.Symbols.length 1 (List.replicate g.Symbols.length 0) (by omega) (by omega) h0
 refine⟨t,?_,?_,f3⟩
 ·unfold z2s
  rw [q2q (by refine⟨?_,?_,?_⟩<;>omega),show q7k (q9v g) (List.replicate g.Symbols.length 0,1)=some t from f1]; rfl
 ·unfold z0z
  rw [q2q (by refine⟨?_,?_,?_⟩<;>omega),show q7k (q7i g) (List.replicate g.Symbols.length 0,1)=some t from f2]; rfl
theorem Shape.names {g:Grammar}(h:Shape g){k j:Nat}{x y:Symbol}(hk:g.Symbols[k]? = some x)(hj:g.Symbols[j]? = some y)(hn:x.Name=y.Name):k=j:=by
 have key:∀ {k j:Nat} {x y:Symbol},g.Symbols[k]? = some x→g.Symbols[j]? = some y→x.Name=y.Name→¬ k < j:=by
  intro k j x y hk hj hn hlt
  have:=z4O _ _ h.sym j y hj
  unfold z2w at this
  rw [Bool.or_eq_false_iff] at this
  have h2:=this.2
  unfold dupB at h2
  rw [List.nil_append,List.any_eq_false] at h2
  exact h2 x (List.mem_of_getElem? (i:=k) (by rw [List.getElem?_take,if_pos hlt]; exact hk)) (by simpa using hn)
 have h1:=key hk hj hn
 have h2:=key hj hk hn.symm
 omega
theorem Shape.at_ {g:Grammar}(h:Shape g){k:Nat}{x:Symbol}(hk:g.Symbols[k]? = some x):atS g x.Name=some k:=by
 unfold atS
 cases he:g.Symbols.findIdx? fun y=>decide (y.Name=x.Name) with
 | none=>
  rw [List.findIdx?_eq_none_iff] at he
  have:=he x (List.mem_of_getElem? hk)
  simp at this
 | some j=>
  rw [List.findIdx?_eq_some_iff_getElem] at he
  obtain⟨hj,h1,_⟩:=he
  rw [h.names (List.getElem?_eq_getElem hj) hk (by simpa using h1)]
noncomputable def hgtL (g:Grammar):List Int:=(z2s g).getD []
noncomputable def j5F (g:Grammar):Int × Int:=
 if (z4u g).1=0 then
  match g.Rules.findIdx? fun r=>!typR g r with
  | some k=>(7,(k:Int))
  | none=>match (hgtL g).findIdx? fun x=>decide (x=0) with
   | some k=>(8,(k:Int))
   | none=>(0,0)
 else z4u g
theorem j8P {g:Grammar}(h:Sz.szd g≤1048576):q8R g=some (j5F g):=by
 unfold q8R j5F
 rw [j7d h,Option.bind_some]
 dsimp only
 by_cases h0:(z4u g).1=0
 ·rw [if_pos h0,if_pos h0]
  rw [z4t (q:=fun r=>!typR g r) (c:=fun k=>((7:Int),(k:Int))) fun k r hr=>by
   unfold z3m
   rw [j8N g (Nat.le_trans (z4s hr) h),Option.bind_some,← apply_ite some]]
  cases g.Rules.findIdx? fun r=>!typR g r with
  | some k=>dsimp only; rw [Nat.zero_add]; rfl
  | none=>
   obtain⟨l,e1,e2,e3⟩:=z7I (g:=g) (j3W h).1
   rw [Option.bind_some,q2S,e1,Option.bind_some]
   unfold hgtL
   rw [e1,Option.getD_some]
   rw [z4t (q:=fun x:Int=>decide (x=0)) (c:=fun k=>((8:Int),(k:Int))) fun k x hx=>by
    unfold z3n
    by_cases hz:x=0
    ·rw [if_pos hz,if_pos (by simpa using hz)]
    ·rw [if_neg hz,if_neg (by simpa using hz)]]
   dsimp only
   cases l.findIdx? fun x=>decide (x=0) with
   | some k=>dsimp only; rw [Nat.zero_add]; rfl
   | none=>rfl
 ·rw [if_neg h0,if_neg h0]
theorem j8Q {g:Grammar}(h:Sz.szd g≤1048576):q8L g=some (j5F g):=by
 unfold q8L j5F
 rw [j7e h,Option.bind_some]
 dsimp only
 by_cases h0:(z4u g).1=0
 ·have hS:=j8J h0
  rw [if_pos h0,if_pos h0]
  rw [z4t (q:=fun r=>!typR g r) (c:=fun k=>((7:Int),(k:Int))) fun k r hr=>by
   unfold z3l
   rw [j8O (z7j h) (Nat.le_trans (z4s hr) h) fun q hq=>hS.pos hr hq,Option.bind_some]
   cases typR g r<;>rfl]
  cases g.Rules.findIdx? fun r=>!typR g r with
  | some k=>dsimp only; rw [Nat.zero_add]; rfl
  | none=>
   obtain⟨l,e1,e2,e3⟩:=z7I (g:=g) (j3W h).1
   rw [Option.bind_some,q2S]
   unfold hgtL
   rw [e1,Option.getD_some]
   have hprod:∀ k x,g.Symbols[k]? = some x→q8K g x.Name=some (!decide (l.getD k 0=0)):=by
    intro k x hk
    have hk' : k < g.Symbols.length:=(List.getElem?_eq_some_iff.1 hk).1
    have ha:atI g x.Name=(k:Int):=by unfold atI; rw [hS.at_ hk]
    unfold q8K z3S
    rw [k1I,ha,Option.bind_some,if_neg (by omega),e2,Option.bind_some,q2q (by omega),Int.toNat_natCast,getD_some (by rw [e3.1]; exact hk'),Option.bind_some,Option.bind_some]
    have:=e3.2 k
    congr 1
    by_cases hz:l.getD k 0=0
    ·rw [decide_eq_true hz,decide_eq_false (by omega)]; rfl
    ·rw [decide_eq_false hz,decide_eq_true (by omega)]; rfl
   have hrun:∀ (xs:List Symbol) (ys:List Int) (i:Nat),(∀ j x,xs[j]? = some x→g.Symbols[i+j]? = some x)→ys.length=xs.length→(∀ j y,ys[j]? = some y→l.getD (i+j) 0=y) →
     q2u (q8m g) i xs ()=some (match ys.findIdx? fun x=>decide (x=0) with | some j=>.inr (8,((i+j:Nat):Int)) | none=>.inl ()):=by
    intro xs
    induction xs with
    | nil=>
     intro ys i _ hl _
     obtain rfl:=List.eq_nil_of_length_eq_zero hl
     rfl
    | cons x xs ih=>
     intro ys i hx hl hy
     cases ys with
     | nil=>simp at hl
     | cons y ys=>
      have h1:=hprod i x (by simpa using hx 0 x rfl)
      have h2:l.getD i 0=y:=by simpa using hy 0 y rfl
      have ih:=ih ys (i+1) (fun j z hz=>by rw [show i+1+j=i+(j+1) by omega]; exact hx (j+1) z (by simpa using hz)) (by simpa using hl) fun j z hz=>by
       rw [show i+1+j=i+(j+1) by omega]; exact hy (j+1) z (by simpa using hz)
      rw [h2] at h1
      have e:q8m g i x ()=some (if y=0 then .inr (8,(i:Int)) else .inl ()):=by
       unfold q8m
       rw [h1,Option.bind_some]
       by_cases hz:y=0
       ·rw [decide_eq_true hz,if_pos hz]; rfl
       ·rw [decide_eq_false hz,if_neg hz]; rfl
      rw [q2u,e,Option.bind_some,List.findIdx?_cons]
      by_cases hz:y=0
      ·rw [if_pos hz,if_pos (by simpa using hz)]; rfl
      ·rw [if_neg hz,if_neg (by simpa using hz)]
       dsimp only
       rw [ih]
       cases ys.findIdx? fun x=>decide (x=0) with
       | none=>rfl
       | some j=>simp only [Option.map_some]; rw [show i+1+j=i+(j+1) by omega]
   rw [hrun g.Symbols l 0 (fun j x hx=>by rw [Nat.zero_add]; exact hx) e3.1 fun j y hy=>by rw [Nat.zero_add,List.getD_eq_getElem?_getD,hy]; rfl]
   dsimp only
   cases l.findIdx? fun x=>decide (x=0) with
   | some k=>dsimp only; rw [Nat.zero_add]; rfl
   | none=>rfl
 ·rw [if_neg h0,if_neg h0]
noncomputable def z9H (g:Grammar):Bool:=decide ((j5F g).1=0)
theorem j8R {g:Grammar}(h:Sz.szd g≤1048576):z2Z g=some (z9H g):=by
 unfold z2Z; rw [j8P h]; rfl
theorem j8S {g:Grammar}(h:Sz.szd g≤1048576):z4F g=some (z9H g):=by
 unfold z4F; rw [j8Q h]; rfl
end Go.Proofs.YteefempppabmkacGreat
