/- What those partial functions come to: plain lemmas on data; each bears its conditions in its statement. -/
import Derived.Test.YtmblndlpkpaobaaGreatMathM4w
set_option linter.unusedVariables false
set_option linter.unusedSimpArgs false
set_option linter.ambiguousOpen false
set_option linter.unusedSectionVars false
set_option linter.unnecessarySimpa false
set_option linter.unusedVariables false
set_option linter.unusedSimpArgs false
namespace Go.Proofs.YtmblndlpkpaobaaGreat
open Go Go.E
theorem j0p {g:Grammar}{r:Rule}(h:∀ y∈g.Symbols,y.Attributes.length≤1048576)(hr:r.Right.length≤1048576){o:List Occurrence}(ho:q3k g r=some o) :
  ∀ x∈o,∃ k:Nat,x.Pos=(k:Int)∧k≤r.Right.length:=by
 have key:∀ m k (s:List Occurrence),k+m=r.Right.length+1→s.length≤k*1048576→(∀ x∈s,∃ k:Nat,x.Pos=(k:Int)∧k≤r.Right.length)→∀ q,eachN (q1v g r) k m s=some q→∀ x∈q,∃ k:Nat,x.Pos=(k:Int)∧k≤r.Right.length:=by
  intro m
  induction m with
  | zero=>intro k s _ _ hs q hq; cases hq; exact hs
  | succ m ih=>
   intro k s hk hs hp q hq
   obtain⟨x,hx⟩:=z1b r k (by omega) hr
   obtain⟨p,hp1,hp2,hp3⟩:=z3B h x
   have hy:=z5b k p 0 s (by omega)
   have e:q1v g r k s=some (s++p.map fun x=>(⟨(k:Int),x.Name⟩:Occurrence)):=by
    unfold q1v; rw [q9p,hx,Option.bind_some,hp2,Option.bind_some,hy]; rfl
   simp only [eachN,e,Option.bind_some] at hq
   refine ih (k+1) _ (by omega) (by simp; omega) (fun x hx=>?_) q hq
   rcases List.mem_append.1 hx with hx | hx
   ·exact hp x hx
   ·obtain⟨a,_,rfl⟩:=List.mem_map.1 hx
    exact⟨k,rfl,by omega⟩
 unfold q3k at ho
 rw [q0d (by constructor<;>omega)] at ho
 have e1:eachN (q1v g r) 0 (r.Right.length+1) []=some o:=by
  cases hq:eachN (q1v g r) 0 (r.Right.length+1) [] with
  | none=>rw [hq] at ho; cases ho
  | some q=>rw [hq] at ho; exact ho
 exact key _ _ _ (by omega) (by simp) (by simp) o e1
theorem z8j (y:Symbol)(s:ByteArray):∃ a b,q1J y s=some (a,b)∧q2c y s=some (a,b):=by
 have h1:=q5N (p:=fun y:Attribute=>decide (y.Name=s)) (r:=fun y=>(y,true)) (xs:=y.Attributes) (i:=0) (f:=q5D s) fun k y hy=>by
  unfold q5D; constructor<;>intro hp<;>simp_all
 have e:q2c=q1J:=rfl
 rw [e]
 unfold q1J
 rw [h1]
 cases hf:y.Attributes.find? (fun y:Attribute=>decide (y.Name=s)) with
 | none=>exact⟨_,_,rfl,rfl⟩
 | some y=>exact⟨_,_,rfl,rfl⟩
noncomputable def circ (g:Grammar) (r:Rule) (o:Occurrence):Bool:=match q0n o g r with
 | some b=>!b
 | none=>false
theorem z8k {g:Grammar}{r:Rule}(h:∀ y∈g.Symbols,y.Attributes.length≤1048576)(hr:r.Right.length≤1048576){o:Occurrence}{k:Nat}(hk:o.Pos=(k:Int))(hkr:k≤r.Right.length) :
  q0n o g r=some (!circ g r o)∧∀ (i:Nat) (s:List Occurrence),s.length < 4398046511104→q2M g r i o s=some (if circ g r o=true then s++[o] else s):=by
 obtain⟨x,hx⟩:=z1b r k hkr hr
 obtain⟨y,b,hy1,hy2,_⟩:=z5a h x
 obtain⟨a,b2,ha1,ha2⟩:=z8j y o.Name
 have e1:q0n o g r=some (!a.Circular):=by
  unfold q0n q2T
  rw [z7l,Option.bind_some,if_pos (by rw [hk]; simp; omega),hk,q9p,hx,Option.bind_some,hy2]
  dsimp only [Option.bind_some]
  rw [ha2]; rfl
 have e2:circ g r o=a.Circular:=by unfold circ; rw [e1]; simp
 refine⟨by rw [e1,e2],fun i s hs=>?_⟩
 unfold q2M
 rw [e2,hk,hx,Option.bind_some,hy1]
 dsimp only [Option.bind_some]
 rw [ha1]
 dsimp only [Option.bind_some]
 cases hc:a.Circular with
 | true=>rw [if_pos rfl,if_pos rfl,q0d (by constructor<;>omega)]; rfl
 | false=>rw [if_neg (by simp),if_neg (by simp)]; rfl
theorem q8p {α:Type}{p:α→Bool}{B:Nat}{f:Nat→α→List α→Option (List α)}:∀ (xs:List α)(i:Nat)(s:List α),(∀ k x s,x∈xs→s.length < B→f k x s=some (if p x=true then s++[x] else s))→s.length+xs.length≤B→eachL f i xs s=some (s++xs.filter p)
 | [],i,s,_,_=>by simp [eachL]
 | x :: xs,i,s,hf,h=>by
  simp only [List.length_cons] at h
  have e:=hf i x s (by simp) (by omega)
  simp only [eachL,e,Option.bind_some]
  by_cases hp:p x=true
  ·rw [if_pos hp,q8p xs (i+1) _ (fun k y s hy=>hf k y s (by simp [hy])) (by simp; omega)]; simp [hp]
  ·rw [if_neg hp,q8p xs (i+1) _ (fun k y s hy=>hf k y s (by simp [hy])) (by omega)]; simp [hp]
theorem z5Z {p:Occurrence→Bool}{f:(List Occurrence × Int × Int)→Option ((List Occurrence × Int × Int) ⊕ (List Occurrence × Int))}{xs:List Occurrence}(hn:xs.length≤4398046511104)
  (hdone:∀ s i j,¬ j < (s.length:Int)→f (s,i,j)=some (.inr (s,i)))
  (hskip:∀ s (i j:Nat) x,j < s.length→s[j]? = some x→x∈xs→s.length=xs.length→p x=false→f (s,(i:Int),(j:Int))=some (.inl (s,(i:Int),((j+1:Nat):Int))))
  (hkeep:∀ s (i j:Nat) x,j < s.length→i < j→s[j]? = some x→x∈xs→s.length=xs.length→p x=true→f (s,(i:Int),(j:Int))=some (.inl (s.set i x,((i+1:Nat):Int),((j+1:Nat):Int)))) :
  ∀ (m i j:Nat) (s:List Occurrence),j+m=xs.length→i < j→s.length=xs.length→s.take i=(xs.take j).filter p→s.drop j=xs.drop j →
   ∃ s' i' : _,iterO f (s,(i:Int),(j:Int))=some (s',((i' : Nat):Int))∧i'≤s'.length∧s'.length=xs.length∧s'.take i'=xs.filter p:=by
 intro m
 induction m with
 | zero=>
  intro i j s hm hij hs ht hd
  have hj:j=xs.length:=by omega
  refine⟨s,i,q1t (hdone s _ _ (by omega)),by omega,hs,?_⟩
  rw [ht,hj,List.take_length]
 | succ m ih=>
  intro i j s hm hij hs ht hd
  have hjs:j < s.length:=by omega
  obtain⟨x,hx⟩:∃ x,s[j]? = some x:=⟨_,List.getElem?_eq_getElem hjs⟩
  have hxx:xs[j]? = some x:=by
   have:=congrArg (fun l=>l[0]?) hd
   simpa [hx] using this.symm
  have hmem:=List.mem_of_getElem? hxx
  have htk:xs.take (j+1)=xs.take j++[x]:=by
   rw [List.take_add_one,hxx]; rfl
  have hdr:xs.drop (j+1)=(xs.drop j).drop 1:=by rw [List.drop_drop]
  cases hp:p x with
  | false=>
   have e:=hskip s i j x hjs hx hmem hs hp
   rw [q2b e]
   exact ih i (j+1) s (by omega) (by omega) hs (by rw [htk,List.filter_append,ht]; simp [hp]) (by rw [hdr,← hd,List.drop_drop])
  | true=>
   have e:=hkeep s i j x hjs hij hx hmem hs hp
   rw [q2b e]
   refine ih (i+1) (j+1) _ (by omega) (by omega) (by rw [List.length_set]; exact hs) ?_ ?_
   ·rw [htk,List.filter_append,← ht,List.take_add_one,List.take_set]
    simp [hp,List.getElem?_set,show i < s.length by omega]
    rw [List.set_eq_of_length_le (by simp; omega)]
   ·rw [List.drop_set,if_pos (by omega),hdr,← hd,List.drop_drop]
theorem z6a {g:Grammar}{r:Rule}{xs:List Occurrence}(hn:xs.length≤4398046511104)(hx:∀ o∈xs,q0n o g r=some (!circ g r o)) :
  q0k xs g r=some (xs.filter (circ g r)):=by
 have hix:∀ (ys:List Occurrence) (i:Nat),(∀ o∈ys,q0n o g r=some (!circ g r o))→((∀ o∈ys,circ g r o=true)∧findL (q0f g r) i ys ()=some (.inl ())) ∨
   ∃ k:Nat,k < ys.length∧(∀ o∈ys.take k,circ g r o=true)∧(∃ o,ys[k]? = some o∧circ g r o=false)∧findL (q0f g r) i ys ()=some (.inr ((i+k:Nat):Int)):=by
  intro ys
  induction ys with
  | nil=>intro i _; exact .inl ⟨by simp,rfl⟩
  | cons y ys ih=>
   intro i hy
   have e:=hy y (by simp)
   cases hc:circ g r y with
   | false=>
    refine .inr ⟨0,by simp,by simp,⟨y,rfl,hc⟩,?_⟩
    simp [findL,q0f,e,hc]
   | true=>
    have e2:findL (q0f g r) i (y :: ys) ()=findL (q0f g r) (i+1) ys ():=by
     simp [findL,q0f,e,hc]
    rcases ih (i+1) (fun o ho=>hy o (by simp [ho])) with ⟨h1,h2⟩ | ⟨k,h1,h2,h3,h4⟩
    ·exact .inl ⟨by intro o ho; exact (List.mem_cons.1 ho).elim (fun e=>e▸hc) (h1 o),by rw [e2,h2]⟩
    ·refine .inr ⟨k+1,by simpa using h1,?_,by simpa using h3,by rw [e2,h4]; congr 3; omega⟩
     intro o ho
     rw [List.take_succ_cons] at ho
     exact (List.mem_cons.1 ho).elim (fun e=>e▸hc) (h2 o)
 unfold q0k
 rcases hix xs 0 hx with ⟨h1,h2⟩ | ⟨k,h1,h2,⟨o,h3,h3'⟩,h4⟩
 ·have e:q0i xs g r=some (-1):=by
   unfold q0i; rw [h2]; rfl
  rw [e,Option.bind_some,if_pos rfl,List.filter_eq_self.2 h1]
 ·have e:q0i xs g r=some (k:Int):=by
   unfold q0i; rw [h4,Nat.zero_add]; rfl
  rw [e,Option.bind_some,if_neg (by omega),q0d (by constructor<;>omega)]
  obtain⟨s,i,q1,q2,q3,q4⟩:=z5Z (p:=circ g r) (f:=q0h g r) (xs:=xs) hn
   (by intro s i j hj; unfold q0h; dsimp only; rw [if_neg hj])
   (by
    intro s i j x hj hx' hm hs hp
    unfold q0h; dsimp only
    rw [if_pos (by omega),q0d (by omega),Int.toNat_natCast,hx',Option.bind_some,hx x hm,hp,Option.bind_some,if_pos (by rfl),Option.bind_some]
    dsimp only
    rw [q0d (by constructor<;>omega)]; rfl)
   (by
    intro s i j x hj hij hx' hm hs hp
    unfold q0h; dsimp only
    obtain⟨x2,hx2⟩:∃ x,s[i]? = some x:=⟨_,List.getElem?_eq_getElem (by omega)⟩
    rw [if_pos (by omega),q0d (by omega),Int.toNat_natCast,hx',Option.bind_some,hx x hm,hp,Option.bind_some,if_neg (by simp),
     q0d (by omega),Int.toNat_natCast,hx2,Option.bind_some,q0d (by constructor<;>omega),Option.bind_some]
    dsimp only
    rw [q0d (by constructor<;>omega)]; rfl)
   (xs.length - (k+1)) k (k+1) xs (by omega) (by omega) rfl (by
    rw [List.take_add_one,h3,List.filter_append,List.filter_eq_self.2 h2]; simp [h3']) rfl
  have e:iterO (q0h g r) (xs,(k:Int),(k:Int)+1)=some (s,(i:Int)):=q1
  rw [e,Option.bind_some]
  dsimp only
  rw [Int.toNat_natCast,q0d (by omega),q0d q2,q0d (by omega),q0d (by simp; omega)]
  congr 1
  rw [List.take_append_of_le_length (by simp; omega),List.take_take,Nat.min_self,q4]
theorem z4n {g:Grammar}{r:Rule}(h:∀ y∈g.Symbols,y.Attributes.length≤1048576)(hr:r.Right.length≤1048576):∃ x,q1D g r=some x∧q2j g r=some x∧x.length≤1099512676352:=by
 obtain⟨o,ho1,ho2,ho3⟩:=z8R h hr
 have hp:=j0p h hr ho2
 have hc:∀ x∈o,q0n x g r=some (!circ g r x)∧∀ (i:Nat) (s:List Occurrence),s.length < 4398046511104→q2M g r i x s=some (if circ g r x=true then s++[x] else s):=fun x hx=>by
  obtain⟨k,h1,h2⟩:=hp x hx
  exact z8k h hr h1 h2
 refine⟨o.filter (circ g r),?_,?_,by have:=List.length_filter_le (circ g r) o; omega⟩
 ·unfold q1D
  rw [ho1,Option.bind_some,q8p (p:=circ g r) (B:=4398046511104) o 0 [] (fun k x s hx hs=>(hc x hx).2 k s hs) (by simp; omega)]; rfl
 ·unfold q2j
  rw [ho2,Option.bind_some,z6a (by omega) fun x hx=>(hc x hx).1]; rfl
end Go.Proofs.YtmblndlpkpaobaaGreat
