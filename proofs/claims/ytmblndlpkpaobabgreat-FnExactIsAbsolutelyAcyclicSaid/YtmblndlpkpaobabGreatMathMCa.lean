/- What those partial functions come to: plain lemmas on data; each bears its conditions in its statement. -/
import Derived.Test.YtmblndlpkpaobabGreatMathMAa
set_option linter.unusedVariables false
set_option linter.unusedSimpArgs false
set_option linter.ambiguousOpen false
set_option linter.unusedSectionVars false
set_option linter.unnecessarySimpa false
set_option linter.unusedVariables false
set_option linter.unusedSimpArgs false
namespace Go.Proofs.YtmblndlpkpaobabGreat
open Go Go.E
theorem j9l {r:Relation}(h:r.Rows.length≤1048576)(i k:Int):q5U r i k=some (addP r i k):=by
 unfold q5U
 simp only [z2G h,q6g,q9c,Option.bind_some,decide_eq_true_eq]
 by_cases hv:Valid r
 ·have hv1:=hv.1; have hv2:=hv.2.1; have hv3:=hv.2.2.1
  rw [if_pos hv,q2B (by constructor<;>omega)]; simp only [Option.bind_some,Bool.false_eq_true,if_true,if_false,decide_eq_true_eq]
  by_cases hi:0≤i∧i≤r.N - 1
  ·rw [if_pos hi,q2B (by constructor<;>omega)]; simp only [Option.bind_some,Bool.false_eq_true,if_true,if_false,decide_eq_true_eq]
   by_cases hk:0≤k∧k≤r.N - 1
   ·obtain⟨x,hx⟩:∃ x,r.Rows[i.toNat]? = some x:=⟨_,List.getElem?_eq_getElem (by omega)⟩
    have hrow:=hv.row (i:=i) hi hx
    rw [if_pos hk,q2B hi.1,hx,Option.bind_some,q2B hk.1,q2B ⟨hk.1,by omega⟩,q2B ⟨hrow.2.1,Int.natCast_nonneg _⟩]
    have e:addP r i k=j3l r i (orI (j6d r i) ((2 ^ k.toNat:Nat):Int)):=if_pos ⟨hv,hi,hk⟩
    rw [e,hrow.1]; rfl
   ·rw [if_neg hk]
    have e:addP r i k=r:=if_neg fun h=>hk h.2.2
    rw [e]
  ·rw [if_neg hi]; simp only [Option.bind_some,Bool.false_eq_true,if_true,if_false,decide_eq_true_eq]
   have e:addP r i k=r:=if_neg fun h=>hi h.2.1
   rw [e]
 ·rw [if_neg hv]; simp only [Option.bind_some,Bool.false_eq_true,if_true,if_false,decide_eq_true_eq]
  have e:addP r i k=r:=if_neg fun h=>hv h.1
  rw [e]
theorem j3V {n:Int}(h0:0≤n)(h1:n≤16):q3p n=some ⟨n,List.replicate n.toNat 0⟩:=by
 unfold q3p
 rw [q9c,Option.bind_some,if_pos (by simp; omega),q2B (by omega)]
theorem j3W (r:Relation)(i k:Int):(addP r i k).Rows.length=r.Rows.length∧(addP r i k).N=r.N:=by
 unfold addP
 split
 ·exact⟨by simp [j3l],rfl⟩
 ·exact⟨rfl,rfl⟩
theorem j3X (x k:Int):bit x k↔x.toNat.testBit k.toNat=true:=by
 unfold bit
 rw [Nat.testBit_eq_decide_div_mod_eq,Nat.shiftRight_eq_div_pow]
 simp [Nat.and_one_is_mod]
def j5b (k:Nat)(s:List Int):List Int:=s.map fun x=>if x.toNat.testBit k=true then orI x (s.getD k 0) else x
def j0g (s:List Int):Nat→List Int
 | 0=>s
 | m+1=>j5b m (j0g s m)
def z9f (n:Nat)(s:List Int):Prop:=s.length=n∧∀ x∈s,0≤x∧x.toNat < 2 ^ n
theorem j5c (x y:Int):0≤orI x y:=by unfold orI; omega
theorem j6g (x y:Int):(orI x y).toNat=x.toNat ||| y.toNat:=by unfold orI; omega
theorem j9V {n:Nat}{s:List Int}(h:z9f n s)(k:Nat):0≤s.getD k 0∧(s.getD k 0).toNat < 2 ^ n:=by
 rw [List.getD_eq_getElem?_getD]
 cases hk:s[k]? with
 | none=>simp; exact Nat.two_pow_pos n
 | some x=>exact h.2 x (List.mem_of_getElem? hk)
theorem j7S {n k:Nat}{s:List Int}(h:z9f n s):z9f n (j5b k s):=by
 refine⟨by unfold j5b; rw [List.length_map]; exact h.1,fun x hx=>?_⟩
 unfold j5b at hx
 obtain⟨y,hy,rfl⟩:=List.mem_map.1 hx
 have h1:=h.2 y hy
 split
 ·exact⟨j5c _ _,by rw [j6g]; exact Nat.or_lt_two_pow h1.2 (j9V h k).2⟩
 ·exact h1
theorem z4q {n:Nat}{s:List Int}(h:z9f n s):∀ m,z9f n (j0g s m)
 | 0=>h
 | m+1=>j7S (z4q h m)
theorem j3Y {n k:Nat}{s:List Int}(h:z9f n s)(hk:k < n)(hn:n≤16):q7u (q6r k) 0 n s=some (j5b k s):=by
 have hkk:∃ y,s[k]? = some y:=⟨_,List.getElem?_eq_getElem (by rw [h.1]; exact hk)⟩
 obtain⟨y,hy⟩:=hkk
 have ey:s.getD k 0=y:=by rw [List.getD_eq_getElem?_getD,hy]; rfl
 let f:Int→Int:=fun x=>if x.toNat.testBit k=true then orI x y else x
 have hf:f y=y:=by
  show (if y.toNat.testBit k=true then orI y y else y)=y
  have:=(h.2 y (List.mem_of_getElem? hy)).1
  split
  ·unfold orI; rw [Nat.or_self]; omega
  ·rfl
 obtain⟨s',h1,h2⟩:=z7Y (P:=fun m t=>t=(s.take m).map f++s.drop m) (f:=q6r k) (n:=n) (i:=0) (s:=s) (by simp) (fun m t _ hm ht=>by
  subst ht
  have hms:m < s.length:=by rw [h.1]; omega
  obtain⟨x,hx⟩:∃ x,s[m]? = some x:=⟨_,List.getElem?_eq_getElem hms⟩
  have hx0:=h.2 x (List.mem_of_getElem? hx)
  have hy0:=h.2 y (List.mem_of_getElem? hy)
  have g1:((s.take m).map f++s.drop m)[m]? = some x:=by
   rw [List.getElem?_append_right (by simp; omega)]
   simp only [List.length_map,List.length_take]
   rw [show m - min m s.length=0 by omega,List.getElem?_drop,Nat.add_zero,hx]
  have g2:((s.take m).map f++s.drop m)[k]? = some y:=by
   by_cases hkm:k < m
   ·rw [List.getElem?_append_left (by simp; omega),List.getElem?_map,List.getElem?_take,if_pos hkm,hy]
    show some (f y)=_
    rw [hf]
   ·rw [List.getElem?_append_right (by simp; omega)]
    simp only [List.length_map,List.length_take]
    rw [List.getElem?_drop,show m+(k - min m s.length)=k by omega,hy]
  have hset:(((s.take m).map f++s.drop m).set m (f x))=(s.take (m+1)).map f++s.drop (m+1):=by
   rw [List.set_append_right _ _ (by simp; omega)]
   simp only [List.length_map,List.length_take]
   rw [show m - min m s.length=0 by omega,List.take_add_one,hx,List.map_append,List.append_assoc]
   congr 1
   rw [List.drop_eq_getElem_cons hms]; rfl
  have hno:f x=x→((s.take m).map f++s.drop m)=(s.take (m+1)).map f++s.drop (m+1):=fun e=>by
   rw [← hset,e]
   apply List.ext_getElem?
   intro q
   rw [List.getElem?_set]
   by_cases hq:m=q
   ·subst hq
    rw [if_pos rfl,g1]
    split
    ·rfl
    ·rename_i hl; exact absurd (by simp; omega) hl
   ·rw [if_neg hq]
  refine⟨_,?_,rfl⟩
  unfold q6r
  rw [g1,Option.bind_some,q2B (by refine⟨hx0.1,by omega,by omega⟩),q2B ⟨Int.natCast_nonneg _,by decide⟩]
  by_cases hb:bit x (k:Int)
  ·have hb':=(j3X x k).1 hb
   rw [Int.toNat_natCast] at hb'
   rw [if_pos (j9k hb),g2,Option.bind_some,q2B ⟨hx0.1,hy0.1⟩,Option.bind_some,← hset]
   show some (List.set _ m (orI x y))=some (List.set _ m (f x))
   have:f x=orI x y:=if_pos hb'
   rw [this]
  ·have hb' : ¬ x.toNat.testBit k=true:=fun h=>hb ((j3X x k).2 (by rw [Int.toNat_natCast]; exact h))
   rw [if_neg (fun h=>hb (j9j h)),Option.bind_some,← hno (if_neg hb')])
 rw [h1]
 subst h2
 unfold j5b
 rw [Nat.zero_add,List.take_of_length_le (by rw [h.1]; exact Nat.le_refl _),List.drop_eq_nil_of_le (by rw [h.1]; exact Nat.le_refl _),List.append_nil,ey]
theorem j1g {r:Relation}(h:Valid r):z9f r.N.toNat r.Rows∧r.N.toNat≤16:=by
 obtain⟨h0,h1,h2,h3⟩:=h
 have:=j7Q r.N
 exact⟨⟨by omega,fun x hx=>⟨(h3 x hx).1,by have:=(h3 x hx).2; omega⟩⟩,by omega⟩
def q7b (r:Relation):Relation:=if Valid r then ⟨r.N,j0g r.Rows r.N.toNat⟩ else r
theorem j9W:z2z=q6r:=rfl
theorem j2c {r:Relation}(h:r.Rows.length≤1048576):q6W r=some (q7b r):=by
 unfold q6W q7b
 rw [z2G h,Option.bind_some,q6g,Option.bind_some]
 by_cases hv:Valid r
 ·rw [if_pos (by simpa using hv),if_pos hv]
  obtain⟨hok,hn⟩:=j1g hv
  obtain⟨t,h1,h2⟩:=z7Y (P:=fun m t=>t=j0g r.Rows m) (f:=q9s r) (n:=r.N.toNat) (i:=0) (s:=r.Rows) rfl (fun k s _ hk hs=>by
   subst hs
   refine⟨_,?_,rfl⟩
   unfold q9s
   rw [j3Y (z4q hok k) (by omega) hn]; rfl)
  rw [h1,Option.bind_some,h2,Nat.zero_add]
 ·rw [if_neg (by simpa using hv),if_neg hv]
theorem j2d {r:Relation}(h:r.Rows.length≤1048576):q7a r=some (q7b r):=by
 unfold q7a q7b
 rw [z9e,z2G h,Option.bind_some,z1z,Option.bind_some]
 by_cases hv:Valid r
 ·rw [if_pos (by simpa using hv),if_pos hv]
  obtain⟨hok,hn⟩:=j1g hv
  obtain⟨t,h1,h2⟩:=z7Y (P:=fun m t=>t=j0g r.Rows m) (f:=q9C) (n:=r.Rows.length) (i:=0) (s:=r.Rows) rfl (fun k s _ hk hs=>by
   subst hs
   refine⟨_,?_,rfl⟩
   unfold q9C
   have hl:=(z4q hok k).1
   rw [hl,j9W,j3Y (z4q hok k) (by rw [hok.1] at hk; omega) hn]; rfl)
  rw [h1,Option.bind_some,h2,Nat.zero_add,hok.1]
 ·rw [if_neg (by simpa using hv),if_neg hv]
theorem j0h (r:Relation):(q7b r).Rows.length=r.Rows.length∧(q7b r).N=r.N:=by
 unfold q7b
 by_cases hv:Valid r
 ·rw [if_pos hv]
  obtain⟨hok,_⟩:=j1g hv
  exact⟨by show (j0g r.Rows r.N.toNat).length=_; rw [(z4q hok _).1,hok.1],rfl⟩
 ·rw [if_neg hv]; exact⟨rfl,rfl⟩
theorem j3m {r:Relation}(h:r.Rows.length≤1048576):z0T r=some (decide (∃ k:Nat,k < r.Rows.length∧hasP (q7b r) (k:Int) (k:Int))):=by
 unfold z0T
 rw [j2d h,Option.bind_some]
 have hl:=(j0h r).1
 have hf:∀ (k:Nat) (x:Int),(hasP (q7b r) (k:Int) (k:Int)→z1o (q7b r) k x ()=some (.inr true))∧(¬ hasP (q7b r) (k:Int) (k:Int)→z1o (q7b r) k x ()=some (.inl ())):=fun k x=>by
  unfold z1o
  rw [z5z,Option.bind_some]
  exact⟨fun hp=>if_pos (by simpa using hp),fun hp=>if_neg (by simpa using hp)⟩
 have hany:=j1z (c:=true) (xs:=(q7b r).Rows) (i:=0) (p:=fun k _=>hasP (q7b r) (k:Int) (k:Int)) (f:=z1o (q7b r)) fun k x _=>by
  rw [Nat.zero_add]; exact hf k x
 by_cases hp:∃ k:Nat,k < r.Rows.length∧hasP (q7b r) (k:Int) (k:Int)
 ·rw [decide_eq_true hp]
  obtain⟨k,hk,hpk⟩:=hp
  rw [hany.1 ⟨k,_,List.getElem?_eq_getElem (by omega),by rw [Nat.zero_add]; exact hpk⟩]; rfl
 ·rw [decide_eq_false hp]
  rw [hany.2 fun k x hx hpk=>hp ⟨k,by rw [← hl]; exact (List.getElem?_eq_some_iff.1 hx).1,by rw [Nat.zero_add] at hpk; exact hpk⟩]; rfl
end Go.Proofs.YtmblndlpkpaobabGreat
