/- What those partial functions come to: plain lemmas on data; each bears its conditions in its statement. -/
import Derived.Test.YtcegfmageiicaaaGreatMath2
set_option linter.unusedVariables false
set_option linter.unusedSimpArgs false
set_option linter.ambiguousOpen false
set_option linter.unusedSectionVars false
set_option linter.unnecessarySimpa false
namespace Go.Proofs.YtcegfmageiicaaaGreat
open Go Go.E
def uSzF {α:Type}(g:α→Int→Option Int)(n:Nat)(x:α):Prop:=∀ s:Int,0≤s→s≤1048576→g x s=some (if (n:Int)≤s then s - n else -1)
theorem j9s {α:Type}[Sz α]{f:Nat→α→Int→Option (Int ⊕ Int)}:∀ (xs:List α) (i:Nat) (s:Int),(∀ k x s,x∈xs→0≤s→s≤1048576→f k x s=some (if (Sz.szd x:Int)≤s then .inl (s - Sz.szd x) else .inr (-1)))→0≤s→s≤1048576 →
  findL f i xs s=some (if ((szL xs - xs.length:Nat):Int)≤s then .inl (s - (szL xs - xs.length:Nat)) else .inr (-1))
 | [],i,s,_,h0,_=>by simp [findL,szL,h0]
 | x :: xs,i,s,hf,h0,h1=>by
  have hl:=q5b xs
  have e:szL (x :: xs) - (x :: xs).length=Sz.szd x+(szL xs - xs.length):=by simp only [szL,List.length_cons]; omega
  rw [e]
  show (f i x s).bind _=_
  rw [hf i x s (by simp) h0 h1]
  by_cases hx:(Sz.szd x:Int)≤s
  ·rw [if_pos hx]
   show findL f (i+1) xs (s - Sz.szd x)=_
   rw [j9s xs (i+1) _ (fun k y t hy=>hf k y t (by simp [hy])) (by omega) (by omega)]
   by_cases h2:((Sz.szd x+(szL xs - xs.length):Nat):Int)≤s
   ·rw [if_pos h2,if_pos (by omega)]; congr 2; omega
   ·rw [if_neg h2,if_neg (by omega)]
  ·rw [if_neg hx,if_neg (by omega)]; rfl
theorem j5h {α:Type}[Sz α]{xs:List α}{f:Nat→α→Int→Option (Int ⊕ Int)}(hf:∀ k x s,x∈xs→0≤s→s≤1048576→f k x s=some (if (Sz.szd x:Int)≤s then .inl (s - Sz.szd x) else .inr (-1)))(s:Int)(h0:0≤s)(h1:s≤1048576)(hl:xs.length≤9223372036854775807) :
  (grd (I64 (s - (xs.length:Int))) <| if (s - (xs.length:Int)) < 0 then some (-1) else (findL f 0 xs (s - (xs.length:Int))).bind <| onr (fun r1=>some r1) fun s1=>some s1)=some (if (szL xs:Int)≤s then s - (szL xs:Nat) else -1):=by
 have hl':=q5b xs
 rw [q3B (by constructor<;>omega)]
 by_cases h2:s - (xs.length:Int) < 0
 ·rw [if_pos h2,if_neg (by omega)]
 ·rw [if_neg h2,j9s xs 0 _ hf (by omega) (by omega),Option.bind_some]
  by_cases h3:(szL xs:Int)≤s
  ·rw [if_pos h3,if_pos (by omega),z2p]; congr 1; omega
  ·rw [if_neg h3,if_neg (by omega),j1t]
theorem j6q {α:Type}[Sz α]{g:α→Int→Option Int}{xs:List α}(hg:∀ x∈xs,uSzF g (Sz.szd x) x)(k:Nat)(x:α)(s:Int)(hx:x∈xs)(h0:0≤s)(h1:s≤1048576) :
  ((g x s).bind fun y1=>if y1 < 0 then some (.inr (-1)) else some (.inl y1):Option (Int ⊕ Int))=some (if (Sz.szd x:Int)≤s then .inl (s - Sz.szd x) else .inr (-1)):=by
 rw [hg x hx s h0 h1,Option.bind_some]
 by_cases h2:(Sz.szd x:Int)≤s
 ·rw [if_pos h2,if_neg (by omega),if_pos h2]
 ·rw [if_neg h2,if_pos (by omega),if_neg h2]
theorem z4i (n m:Nat){k:Int→Option Int}{s:Int}(h0:0≤s)(h1:s≤1048576)(hn:n≤9223372036854775807)(hk:∀ t,0≤t→t≤1048576→k t=some (if (m:Int)≤t then t - m else -1)) :
  (grd (I64 (s - (n:Int))) <| if (s - (n:Int)) < 0 then some (-1) else k (s - (n:Int)))=some (if ((n+m:Nat):Int)≤s then s - (n+m:Nat) else -1):=by
 rw [q3B (by constructor<;>omega)]
 by_cases h2:s - (n:Int) < 0
 ·rw [if_pos h2,if_neg (by omega)]
 ·rw [if_neg h2,hk _ (by omega) (by omega)]
  by_cases h3:((n+m:Nat):Int)≤s
  ·rw [if_pos h3,if_pos (by omega)]; congr 1; omega
  ·rw [if_neg h3,if_neg (by omega)]
theorem z2j (n m:Nat){o:Option Int}{k:Int→Option Int}{s:Int}(h0:0≤s)(h1:s≤1048576)(ho:o=some (if (n:Int)≤s then s - n else -1))(hk:∀ t,0≤t→t≤1048576→k t=some (if (m:Int)≤t then t - m else -1)) :
  (o.bind fun y1=>if y1 < 0 then some (-1) else k y1)=some (if ((n+m:Nat):Int)≤s then s - (n+m:Nat) else -1):=by
 rw [ho,Option.bind_some]
 by_cases h2:(n:Int)≤s
 ·rw [if_pos h2,if_neg (by omega),hk _ (by omega) (by omega)]
  by_cases h3:((n+m:Nat):Int)≤s
  ·rw [if_pos h3,if_pos (by omega)]; congr 1; omega
  ·rw [if_neg h3,if_neg (by omega)]
 ·rw [if_neg h2,if_pos (by omega),if_neg (by omega)]
theorem z5N {t:Int}(h0:0≤t)(_:t≤1048576):some t=some (if ((0:Nat):Int)≤t then t - (0:Nat) else -1):=by rw [if_pos (by omega)]; congr 1; omega
section
open Go.A
theorem k7i {xs:List ByteArray}(h:boD (.sl 1 (xs.map A.D.s))):uSzF z5x (szL xs) xs:=fun s h0 h1=>
 j5h (f:=z7g) (fun k x s hx h0 h1=>by
  unfold z7g
  have hb:x.size≤9223372036854775807:=j6N.1 (q9L.1 (z9K h hx)).1
  rw [q3B (by constructor<;>omega)]
  show (_:Option (Int ⊕ Int))=some (if (x.size:Int)≤s then Sum.inl (s - x.size) else Sum.inr (-1))
  by_cases h2:(x.size:Int)≤s
  ·rw [if_neg (by omega),if_pos h2]
  ·rw [if_pos (by omega),if_neg h2]) s h0 h1 (z9L h)
theorem k7j {x:Attribute}(h:boCs (Attribute.l x)):uSzF z2R (Sz.szd x) x:=fun s h0 h1=>by
 simp only [Attribute.l,q9L,j6N] at h
 exact z4i x.Name.size 0 h0 h1 h.1 (k:=some) (fun t=>z5N)
theorem k5s {k:Nat}{xs:List Attribute}(h:boD (.sl k (xs.map Attribute.D))):uSzF z1p (szL xs) xs:=fun s h0 h1=>
 j5h (f:=z7K) (j6q fun x hx=>k7j (z9K h hx)) s h0 h1 (z9L h)
theorem k9i {x:Symbol}(h:boCs (Symbol.l x)):uSzF z7f (Sz.szd x) x:=fun s h0 h1=>by
 simp only [Symbol.l,q9L,j6N] at h
 exact z4i x.Name.size _ h0 h1 h.1 fun t h0 h1=>z2j (szL x.Attributes) 0 h0 h1 (k5s h.2.1 t h0 h1) fun t=>z5N
theorem k7k {k:Nat}{xs:List Symbol}(h:boD (.sl k (xs.map Symbol.D))):uSzF z5w (szL xs) xs:=fun s h0 h1=>
 j5h (f:=j0z) (j6q fun x hx=>k9i (z9K h hx)) s h0 h1 (z9L h)
theorem k9j {x:Occurrence}(h:x.Name.size≤9223372036854775807):uSzF z1q (Sz.szd x) x:=fun s h0 h1=>
 z4i x.Name.size 0 h0 h1 h (k:=some) (fun t=>z5N)
theorem k5t:∀ (m:Nat) (e:Expr),fuE e≤m→boCs (Expr.l e)→uSzF (z6h m) (Sz.szd e) e:=by
 intro m
 induction m with
 | zero=>intro e h; rw [z3Q] at h; omega
 | succ m ih=>
  intro e h hr s h0 h1
  rw [z3Q] at h
  simp only [Expr.l,q9L,j6N] at hr
  obtain⟨_,_,_,_,h2,h3,h4,_⟩:=hr
  rw [q8U,Nat.add_assoc]
  show z8h (z6h m) e s=_
  unfold z8h
  exact z4i e.Symbol.size _ h0 h1 h2 fun t h0 h1=>z4i e.Name.size _ h0 h1 h3 fun t h0 h1=>
   z2j (szL e.Args) 0 h0 h1 (j5h (f:=j3W (z6h m)) (j6q fun x hx=>ih x (by have:=z5M hx; omega) (by rw [← Expr.D_cells]; exact z9K h4 hx)) t h0 h1 (z9L h4)) fun t=>z5N
theorem k0O {e:Expr}(h:boCs (Expr.l e)):uSzF z8i (Sz.szd e) e:=fun s h0 h1=>
 q9p (fuE e) fun n hn=>k5t n e hn h s h0 h1
theorem k9k {x:Equation}(h:boCs (Equation.l x)):uSzF z3T (Sz.szd x) x:=fun s h0 h1=>by
 have e:Sz.szd x=Sz.szd x.At+(Sz.szd x.Expr+0):=by rw [z5L,q8U,j5L]; omega
 simp only [Equation.l,q9L] at h
 rw [e]
 exact z2j _ _ h0 h1 (k9j (j6N.1 h.2.1) s h0 h1) fun t h0 h1=>z2j _ 0 h0 h1 (k0O (by simp only [Expr.l,q9L]; exact h.2.2) t h0 h1) fun t=>z5N
theorem k7l {k:Nat}{xs:List Equation}(h:boD (.sl k (xs.map Equation.D))):uSzF z2S (szL xs) xs:=fun s h0 h1=>
 j5h (f:=z8j) (j6q fun x hx=>k9k (z9K h hx)) s h0 h1 (z9L h)
theorem k9l {x:Contribution}(h:boCs (Contribution.l x)):uSzF q9W (Sz.szd x) x:=fun s h0 h1=>by
 have e:Sz.szd x=x.Symbol.size+(x.Name.size+(Sz.szd x.Target+(Sz.szd x.Value+0))):=by rw [z0N,q8U,q8U]; omega
 simp only [Contribution.l,q9L] at h
 obtain⟨h1',h2,a1,a2,a3,a4,a5,a6,a7,hb⟩:=h
 rw [e]
 exact z4i _ _ h0 h1 (j6N.1 h1') fun t h0 h1=>z4i _ _ h0 h1 (j6N.1 h2) fun t h0 h1=>z2j _ _ h0 h1 (k0O (by simp only [Expr.l,q9L]; exact⟨a1,a2,a3,a4,a5,a6,a7,by rw [boCs]; trivial⟩) t h0 h1) fun t h0 h1=>
  z2j _ 0 h0 h1 (k0O (by simp only [Expr.l,q9L]; exact hb) t h0 h1) fun t=>z5N
theorem k7m {k:Nat}{xs:List Contribution}(h:boD (.sl k (xs.map Contribution.D))):uSzF q9x (szL xs) xs:=fun s h0 h1=>
 j5h (f:=z4B) (j6q fun x hx=>k9l (z9K h hx)) s h0 h1 (z9L h)
theorem k7n {x:Rule}(h:boCs (Rule.l x)):uSzF j0B (Sz.szd x) x:=fun s h0 h1=>by
 have e:Sz.szd x=x.Name.size+(x.Left.size+(szL x.Right+(szL x.Equations+(szL x.Contributions+0)))):=by rw [z7x]; omega
 simp only [Rule.l,q9L] at h
 obtain⟨h2,h3,h4,_,h5,h6,_⟩:=h
 rw [e]
 exact z4i _ _ h0 h1 (j6N.1 h2) fun t h0 h1=>z4i _ _ h0 h1 (j6N.1 h3) fun t h0 h1=>z2j _ _ h0 h1 (k7i h4 t h0 h1) fun t h0 h1=>z2j _ _ h0 h1 (k7l h5 t h0 h1) fun t h0 h1=>
  z2j _ 0 h0 h1 (k7m h6 t h0 h1) fun t=>z5N
theorem k5u {k:Nat}{xs:List Rule}(h:boD (.sl k (xs.map Rule.D))):uSzF z9h (szL xs) xs:=fun s h0 h1=>
 j5h (f:=j3Y) (j6q fun x hx=>k7n (z9K h hx)) s h0 h1 (z9L h)
theorem j3s {x:Grammar}(h:boCs (Grammar.l x)):uSzF q9M (Sz.szd x) x:=fun s h0 h1=>by
 have e:Sz.szd x=szL x.Symbols+(szL x.Rules+0):=by rw [z0Z]; omega
 simp only [Grammar.l,q9L] at h
 rw [e]
 exact z2j _ _ h0 h1 (k7k h.1 s h0 h1) fun t h0 h1=>z2j _ 0 h0 h1 (k5u h.2.1 t h0 h1) fun t=>z5N
end
theorem k7o {α:Type}{z y:α}(pre:List α)(n:Nat):List.set (pre++List.replicate (n+1) z) pre.length y=(pre++[y])++List.replicate n z:=by
 rw [List.set_append_right _ _ (Nat.le_refl _),Nat.sub_self,List.replicate_succ,List.set_cons_zero]; simp
theorem k5v {α:Type}{z:α}{f:Nat→α→List α→Option (List α)}:∀ (xs pre:List α),(∀ k x s,x∈xs→k < s.length→f k x s=some (List.set s k x))→eachL f pre.length xs (pre++List.replicate xs.length z)=some (pre++xs)
 | [],pre,_=>by simp [eachL]
 | x :: xs,pre,hf=>by
  show (f pre.length x _).bind _=_
  rw [hf _ _ _ (by simp) (by simp),List.length_cons,k7o,Option.bind_some]
  have:=k5v (z:=z) xs (pre++[x]) fun k y s hy=>hf k y s (by simp [hy])
  rw [List.length_append] at this
  rw [show pre.length+1=pre.length+[x].length from rfl,this]; simp
theorem j0o {α:Type}{z:α}{g:α→Option α}{b:Int}{xs:List α}{f:Nat→α→List α→Option (List α)}(hb:(xs.length:Int)*b≤281474976710656)(hl:xs.length≤1048576)(hf:∀ k x s,x∈xs→k < s.length→f k x s=some (List.set s k x)) :
  (grd (0≤(xs.length:Int)∧(xs.length:Int)*b≤281474976710656∧(xs.length:Int)≤9223372036854775807) <| (eachL f 0 xs (List.replicate xs.length z)).bind fun s1=>some s1)=some xs:=by
 rw [q3B ⟨by omega,hb,by omega⟩]
 have:=k5v (z:=z) xs [] hf
 rw [List.length_nil,List.nil_append,List.nil_append] at this
 rw [this]; rfl
theorem j6r {α:Type}{g:α→Option α}{xs:List α}(hg:∀ x∈xs,g x=some x)(k:Nat)(x:α)(s:List α)(hx:x∈xs)(hk:k < s.length):((g x).bind fun y1=>(s[k]?).bind fun x2=>some (List.set s k y1))=some (List.set s k x):=by
 rw [hg x hx,Option.bind_some,List.getElem?_eq_getElem hk]; rfl
theorem k7p {xs:List ByteArray}(h:szL xs≤1048576):z5z xs=some xs:=by
 have hl:=q5b xs
 exact j0o (g:=some) (by omega) (by omega) fun k x s _ hk=>by unfold j0C; rw [List.getElem?_eq_getElem hk]; rfl
theorem k5w {xs:List Attribute}(h:szL xs≤1048576):z1r xs=some xs:=by
 have hl:=q5b xs
 exact j0o (g:=some) (by omega) (by omega) (j6r (g:=z2T) fun x _=>rfl)
theorem k9m {x:Symbol}(h:Sz.szd x≤1048576):z2q x=some x:=by
 unfold z2q; rw [k5w (by rw [j1L] at h; omega)]; rfl
theorem k7q {xs:List Symbol}(h:szL xs≤1048576):z5y xs=some xs:=by
 have hl:=q5b xs
 exact j0o (g:=some) (by omega) (by omega) (j6r (g:=z2q) fun x hx=>k9m (by have:=z4g hx; omega))
theorem k5x:∀ (m:Nat) (e:Expr),fuE e≤m→Sz.szd e≤1048576→z4C m e=some e:=by
 intro m
 induction m with
 | zero=>intro e h; rw [z3Q] at h; omega
 | succ m ih=>
  intro e h hs
  rw [z3Q] at h
  show z8k (z4C m) e=_
  unfold z8k
  have hz:=q8U e
  have hl:=q5b e.Args
  have:z9i (z4C m) e.Args=some e.Args:=j0o (g:=some) (by omega) (by omega) (j6r (g:=z4C m) fun x hx=>ih x (by have:=z5M hx; omega) (by have:=k4m hx; omega))
  rw [this,Option.bind_some]; cases e; rfl
theorem k0P {e:Expr}(h:Sz.szd e≤1048576):z8l e=some e:=q9p (fuE e) fun n hn=>k5x n e hn h
theorem k9n {x:Equation}(h:Sz.szd x≤1048576):q9X x=some x:=by
 unfold q9X
 rw [show z1s x.At=some x.At from rfl,k0P (by rw [z5L] at h; rw [q8U]; omega)]; rfl
theorem k7r {xs:List Equation}(h:szL xs≤1048576):z2U xs=some xs:=by
 have hl:=q5b xs
 exact j0o (g:=some) (by omega) (by omega) (j6r (g:=q9X) fun x hx=>k9n (by have:=z4g hx; omega))
theorem k9o {x:Contribution}(h:Sz.szd x≤1048576):q7u x=some x:=by
 unfold q7u
 rw [z0N] at h
 rw [k0P (by rw [q8U]; omega),Option.bind_some,k0P (by rw [q8U]; omega)]; rfl
theorem k7s {xs:List Contribution}(h:szL xs≤1048576):q9y xs=some xs:=by
 have hl:=q5b xs
 exact j0o (g:=some) (by omega) (by omega) (j6r (g:=q7u) fun x hx=>k9o (by have:=z4g hx; omega))
theorem k7t {x:Rule}(h:Sz.szd x≤1048576):z6i x=some x:=by
 unfold z6i
 rw [z7x] at h
 rw [k7p (by omega),Option.bind_some,k7r (by omega),Option.bind_some,k7s (by omega)]; rfl
theorem k5y {xs:List Rule}(h:szL xs≤1048576):z9j xs=some xs:=by
 have hl:=q5b xs
 exact j0o (g:=some) (by omega) (by omega) (j6r (g:=z6i) fun x hx=>k7t (by have:=z4g hx; omega))
theorem j3t {x:Grammar}(h:Sz.szd x≤1048576):q4z x=some x:=by
 unfold q4z
 rw [z0Z] at h
 rw [k7q (by omega),Option.bind_some,k5y (by omega)]; rfl
theorem k8a {α:Type}{f:Nat→α→Unit→Option (Unit ⊕ Bool)}:∀ (xs:List α) (i:Nat),(∀ k x,xs[k]? = some x→f (i+k) x ()=some (.inl ()))→findL f i xs ()=some (.inl ())
 | [],i,_=>rfl
 | x :: xs,i,hf=>by
  show (f i x ()).bind _=_
  have h0:=hf 0 x rfl
  rw [Nat.add_zero] at h0
  rw [h0]
  exact k8a xs (i+1) fun k y hy=>by have:=hf (k+1) y hy; rwa [show i+1+k=i+(k+1) by omega]
theorem z5h {α:Type}{xs:List α}{f:Nat→α→Unit→Option (Unit ⊕ Bool)}(hf:∀ k x,xs[k]? = some x→f k x ()=some (.inl ())) :
  (if (xs.length:Int)=(xs.length:Int) then (findL f 0 xs ()).bind <| onr (fun r1=>some r1) fun _=>some true else some false)=some true:=by
 rw [if_pos rfl,k8a xs 0 fun k x h=>by rw [Nat.zero_add]; exact hf k x h]; rfl
theorem j1r {α:Type}{g:α→α→Option Bool}{xs:List α}(hg:∀ x∈xs,g x x=some true)(k:Nat)(x:α)(h:xs[k]? = some x):((xs[k]?).bind fun x2=>(g x x2).bind fun y1=>if y1=true then some (.inl ()) else some (.inr false):Option (Unit ⊕ Bool))=some (.inl ()):=by
 rw [h,Option.bind_some,hg x (List.mem_of_getElem? h)]; rfl
theorem k7u (x:Attribute):q9n x x=some true:=by simp [q9n]
theorem k5z (xs:List Attribute):z1X xs xs=some true:=z5h (f:=z7R xs) (j1r (g:=q9n) fun x _=>k7u x)
theorem k9p (x:Symbol):z2L x x=some true:=by simp [z2L,k5z]
theorem k7v (xs:List Symbol):z5G xs xs=some true:=z5h (f:=j0U xs) (j1r (g:=z2L) fun x _=>k9p x)
theorem j7L (xs:List ByteArray):q8e xs xs=some true:=z5h (f:=z7p xs) fun k x h=>by unfold z7p; rw [h,Option.bind_some,if_pos rfl]
theorem k7w (x:Occurrence):q9U x x=some true:=by simp [q9U]
theorem k5A:∀ (m:Nat) (e:Expr),fuE e≤m→z3v m e e=some true:=by
 intro m
 induction m with
 | zero=>intro e h; rw [z3Q] at h; omega
 | succ m ih=>
  intro e h
  rw [z3Q] at h
  show z8K (z3v m) e e=_
  have:z9p (z3v m) e.Args e.Args=some true:=z5h (f:=j4D (z3v m) e.Args) (j1r (g:=z3v m) fun x hx=>ih x (by have:=z5M hx; omega))
  simp [z8K,this]
theorem k1Y (e:Expr):z8L e e=some true:=q9p (fuE e) fun n hn=>k5A n e hn
theorem k9q (x:Equation):z0g x x=some true:=by simp [z0g,k7w,k1Y]
theorem k7x (xs:List Equation):z3g xs xs=some true:=z5h (f:=z8M xs) (j1r (g:=z0g) fun x _=>k9q x)
theorem k9r (x:Contribution):q7z x x=some true:=by simp [q7z,k1Y]
theorem k7y (xs:List Contribution):q9D xs xs=some true:=z5h (f:=z4U xs) (j1r (g:=q7z) fun x _=>k9r x)
theorem k7z (x:Rule):z6E x x=some true:=by simp [z6E,j7L,k7x,k7y]
theorem k5B (xs:List Rule):z9q xs xs=some true:=z5h (f:=j4F xs) (j1r (g:=z6E) fun x _=>k7z x)
theorem j3u (x:Grammar):q8K x x=some true:=by simp [q8K,k7v,k5B]
end Go.Proofs.YtcegfmageiicaaaGreat
set_option maxRecDepth 100000
set_option maxHeartbeats 4000000
namespace Go.Proofs.YtcegfmageiicaaaGreat
open Go Go.E
theorem k7A:∀ (n:Nat),n≤1000000000000→∀ s:ByteArray,s.size+n≤2000000000000→∃ r,q4i z5H ((n:Int),s)=some r∧r.size≤s.size+n:=by
 intro n
 induction n using Nat.strongRecOn with
 | _ n ih=>
  intro hn s hs
  by_cases h0:n=0
  ·subst h0
   exact⟨s,q3E (by unfold z5H; exact if_neg (by decide)),by omega⟩
  ·have hd:((n:Int).tdiv 10)=((n / 10:Nat):Int):=rfl
   have hm:((n:Int).tmod 10)=((n % 10:Nat):Int):=rfl
   obtain⟨r,h1,h2⟩:=ih (n / 10) (by omega) (by omega) ((⟨#[(UInt8.ofNat ((48+((n:Int).tmod 10)) % 256).toNat)]⟩:ByteArray)++s) (by
    rw [ByteArray.size_append]; show 1+s.size+n / 10≤_; omega)
   refine⟨r,?_,?_⟩
   ·rw [← h1,← hd]
    refine q3L ?_
    unfold z5H
    dsimp only
    rw [if_pos (by omega),q3B (by rw [hm]; constructor<;>omega),q3B (by show 1+s.size≤_; omega),q3B (by rw [hd]; constructor<;>omega)]
   ·rw [ByteArray.size_append] at h2
    have h2:r.size≤1+s.size+n / 10:=h2
    omega
theorem z9A {k:Int}(h0:0≤k)(h1:k≤1000000000000):∃ t,q4I k=some t:=by
 unfold q4I
 by_cases h2:k≤0
 ·rw [if_pos h2]; exact⟨_,rfl⟩
 ·rw [if_neg h2]
  obtain⟨r,h3,h4⟩:=k7A k.toNat (by omega) ⟨#[]⟩ (by show 0+k.toNat≤_; omega)
  rw [Int.toNat_of_nonneg h0] at h3
  rw [h3,Option.bind_some]
  have h4:r.size≤0+k.toNat:=h4
  rw [q3B (by show 1+r.size≤_; omega)]
  exact⟨_,rfl⟩
def RL {α:Type}(R:Int→α→Int→Prop):Int→List α→Int→Prop
 | k,[],k'=>k=k'
 | k,y :: ys,k'=>∃ m,R k y m∧RL R m ys k'
def sumC {α:Type}(c:α→Nat):List α→Nat
 | []=>0
 | x :: xs=>c x+sumC c xs
theorem j7M {α:Type}[Sz α]:∀ xs:List α,sumC (fun x=>16*(1+Sz.szd x)) xs=16*szL xs
 | []=>rfl
 | x :: xs=>by simp only [sumC,szL,j7M xs]; omega
theorem j7N {α:Type}{c:α→Nat}{b:Nat}:∀ {xs:List α},(∀ x∈xs,c x≤b)→sumC c xs≤b*xs.length
 | [],_=>Nat.zero_le _
 | x :: xs,h=>by
  have h1:=h x (by simp)
  have h2:=j7N (xs:=xs) fun y hy=>h y (by simp [hy])
  simp only [sumC,List.length_cons,Nat.mul_add,Nat.mul_one]; omega
theorem k1Z {α ι:Type}{Q:ι→Prop}{R:Int→α→Int→Prop}{c:α→Nat}{P:α→Prop}{L:ι→Int × Int × List α→Option ((Int × Int × List α) ⊕ (Int × List α))}
  (hin:∀ (k:Int) (i:Nat) (a:List α) (x:α),P x→a[i]? = some x→0≤k→k+(c x:Nat)≤10000000000→i≤1000000000→∃ k' x',(∀ n,Q n→L n (k,(i:Int),a)=some (.inl (k',((i+1:Nat):Int),a.set i x')))∧k≤k'∧k'≤k+(c x:Nat)∧R k x' k')
  (hout:∀ (n:ι) (k i:Int) (a:List α),¬ i < (a.length:Int)→L n (k,i,a)=some (.inr (k,a))) :
  ∀ (xs pre:List α) (k:Int),(∀ x∈xs,P x)→0≤k→k+(sumC c xs:Nat)≤10000000000→pre.length+xs.length≤1000000000→∃ k' ys,(∀ n,Q n→q4i (L n) (k,(pre.length:Int),pre++xs)=some (k',pre++ys))∧k≤k'∧k'≤k+(sumC c xs:Nat)∧RL R k ys k'∧ys.length=xs.length
 | [],pre,k,_,h0,h1,_=>⟨k,[],fun n _=>by rw [List.append_nil]; exact q3E (hout _ _ _ _ (by omega)),Int.le_refl _,by omega,rfl,rfl⟩
 | x :: xs,pre,k,hP,h0,h1,h2=>by
  have e:sumC c (x :: xs)=c x+sumC c xs:=rfl
  rw [e] at h1
  obtain⟨k',x',h3,h4,h5,h6⟩:=hin k pre.length (pre++x :: xs) x (hP x (by simp)) (by simp) h0 (by omega) (by omega)
  obtain⟨k2,ys,h7,h8,h10,h11,h12⟩:=k1Z hin hout xs (pre++[x']) k' (fun y hy=>hP y (by simp [hy])) (by omega) (by omega) (by simp only [List.length_append,List.length_cons,List.length_nil] at *; omega)
  refine⟨k2,x' :: ys,fun n hn=>?_,by omega,by rw [e]; omega,⟨k',h6,h11⟩,by rw [List.length_cons,List.length_cons,h12]⟩
  rw [q3L (h3 n hn)]
  rw [List.set_append_right _ _ (Nat.le_refl _),Nat.sub_self,List.set_cons_zero]
  have h7:=h7 n hn
  rw [List.length_append,List.length_singleton,List.append_assoc,List.append_assoc] at h7
  exact h7
theorem k5C {α ι:Type}{Q:ι→Prop}{R:Int→α→Int→Prop}{c:α→Nat}{P:α→Prop}{L:ι→Int × Int × List α→Option ((Int × Int × List α) ⊕ (Int × List α))}
  (hin:∀ (k:Int) (i:Nat) (a:List α) (x:α),P x→a[i]? = some x→0≤k→k+(c x:Nat)≤10000000000→i≤1000000000→∃ k' x',(∀ n,Q n→L n (k,(i:Int),a)=some (.inl (k',((i+1:Nat):Int),a.set i x')))∧k≤k'∧k'≤k+(c x:Nat)∧R k x' k')
  (hout:∀ (n:ι) (k i:Int) (a:List α),¬ i < (a.length:Int)→L n (k,i,a)=some (.inr (k,a))) (xs:List α) {k:Int} (hP:∀ x∈xs,P x) (h0:0≤k) (h1:k+(sumC c xs:Nat)≤10000000000) (h2:xs.length≤1000000000) :
  ∃ k' ys,(∀ n,Q n→((q4i (L n) (k,0,xs)).bind fun (s1,s2)=>some (s1,s2))=some (k',ys))∧k≤k'∧k'≤k+(sumC c xs:Nat)∧RL R k ys k'∧ys.length=xs.length:=by
 obtain⟨k',ys,h3,h4⟩:=k1Z hin hout xs [] k hP h0 h1 (by simp only [List.length_nil]; omega)
 refine⟨k',ys,fun n hn=>?_,h4⟩
 have h3:=h3 n hn
 simp only [List.length_nil,List.nil_append] at h3
 rw [show ((0:Nat):Int)=0 from rfl] at h3
 rw [h3]; rfl
theorem j6s {α:Type}{R:Int→α→Int→Prop}{c:α→Nat}{P:α→Prop}{L:Int × Int × List α→Option ((Int × Int × List α) ⊕ (Int × List α))}
  (hin:∀ (k:Int) (i:Nat) (a:List α) (x:α),P x→a[i]? = some x→0≤k→k+(c x:Nat)≤10000000000→i≤1000000000→∃ k' x',L (k,(i:Int),a)=some (.inl (k',((i+1:Nat):Int),a.set i x'))∧k≤k'∧k'≤k+(c x:Nat)∧R k x' k')
  (hout:∀ (k i:Int) (a:List α),¬ i < (a.length:Int)→L (k,i,a)=some (.inr (k,a))) (xs:List α) {k:Int} (hP:∀ x∈xs,P x) (h0:0≤k) (h1:k+(sumC c xs:Nat)≤10000000000) (h2:xs.length≤1000000000) :
  ∃ k' ys,((q4i L (k,0,xs)).bind fun (s1,s2)=>some (s1,s2))=some (k',ys)∧k≤k'∧k'≤k+(sumC c xs:Nat)∧RL R k ys k'∧ys.length=xs.length:=by
 obtain⟨k',ys,e1,e2⟩:=k5C (ι:=Unit) (Q:=fun _=>True) (L:=fun _=>L) (fun k i a x h1 h2 h3 h4 h5=>by
  obtain⟨k',x',e1,e2⟩:=hin k i a x h1 h2 h3 h4 h5
  exact⟨k',x',fun _ _=>e1,e2⟩) (fun _=>hout) xs hP h0 h1 h2
 exact⟨k',ys,e1 () trivial,e2⟩
theorem j9t {α:Type}[Sz α]{L:Int × Int × List α→Option ((Int × Int × List α) ⊕ (Int × List α))}
  (hin:∀ (k:Int) (i:Nat) (a:List α) (x:α),a[i]? = some x→0≤k→k+16*(1+Sz.szd x:Nat)≤10000000000→i≤1000000000→1+Sz.szd x≤1048576→∃ k' x',L (k,(i:Int),a)=some (.inl (k',((i+1:Nat):Int),a.set i x'))∧k≤k'∧k'≤k+16*(1+Sz.szd x:Nat))
  (hout:∀ (k i:Int) (a:List α),¬ i < (a.length:Int)→L (k,i,a)=some (.inr (k,a))) (xs:List α) {k:Int} (h0:0≤k) (h1:k+16*(szL xs:Nat)≤10000000000) (h2:szL xs≤1048576) :
  ∃ k' ys,((q4i L (k,0,xs)).bind fun (s1,s2)=>some (s1,s2))=some (k',ys)∧k≤k'∧k'≤k+16*(szL xs:Nat):=by
 have hs:=j7M xs
 have hl:=q5b xs
 have hP:∀ x∈xs,1+Sz.szd x≤1048576:=by
  clear h1 hs hl
  induction xs with
  | nil=>intro x hx; cases hx
  | cons y ys ih=>
   simp only [szL] at h2
   intro x hx
   rcases List.mem_cons.1 hx with rfl | hx
   ·omega
   ·exact ih (by omega) x hx
 obtain⟨k',ys,h3,h4,h5,_⟩:=j6s (R:=fun _ _ _=>True) (c:=fun x=>16*(1+Sz.szd x)) (P:=fun x=>1+Sz.szd x≤1048576) (L:=L) (fun k i a x hp hx h0 h1 hi=>by
  obtain⟨k',x',e1,e2,e3⟩:=hin k i a x hx h0 (by omega) hi hp
  exact⟨k',x',e1,e2,by omega,trivial⟩) hout xs hP h0 (by omega) (by omega)
 exact⟨k',ys,h3,h4,by omega⟩
def RS (k:Int)(t:ByteArray)(k' : Int):Prop:=q4I k=some t∧k'=k+1
theorem x0d (k:Int)(i:Nat)(a:List ByteArray)(x:ByteArray)(hx:a[i]? = some x)(h0:0≤k)(h1:k+1≤10000000000)(hi:i≤1000000000):∃ x',q8z (k,(i:Int),a)=some (.inl (k+1,((i+1:Nat):Int),a.set i x'))∧RS k x' (k+1):=by
 obtain⟨t,ht⟩:=z9A h0 (by omega)
 have hl:=(List.getElem?_eq_some_iff.1 hx).1
 refine⟨t,?_,ht,rfl⟩
 unfold q8z
 dsimp only
 rw [if_pos (by omega),ht,Option.bind_some,q3B (by omega),Int.toNat_natCast,hx,Option.bind_some,q3B (by constructor<;>omega),q3B (by constructor<;>omega)]
 rfl
theorem k9s (k i:Int)(a:List ByteArray)(h:¬ i < (a.length:Int)):q8z (k,i,a)=some (.inr (k,a)):=by unfold q8z; dsimp only; exact if_neg h
theorem j7O {α:Type}:∀ xs:List α,sumC (fun _=>1) xs=xs.length
 | []=>rfl
 | x :: xs=>by simp only [sumC,j7O xs,List.length_cons]; omega
theorem k2a (xs:List ByteArray){k:Int}(h0:0≤k)(h1:k+xs.length≤10000000000)(h2:xs.length≤1000000000):∃ k' ys,q7r xs k=some (k',ys)∧k≤k'∧k'≤k+xs.length∧RL RS k ys k'∧ys.length=xs.length:=by
 have hs:=j7O xs
 obtain⟨k',ys,e1,e2,e3,e4⟩:=j6s (R:=RS) (c:=fun _=>1) (P:=fun _=>True) (L:=q8z) (fun k i a x _ hx h0 h1 hi=>by
  obtain⟨x',e1,e2⟩:=x0d k i a x hx h0 (by omega) hi
  exact⟨k+1,x',e1,by omega,by omega,e2⟩) k9s xs (fun _ _=>trivial) h0 (by rw [hs]; exact h1) h2
 rw [hs] at e3
 exact⟨k',ys,e1,e2,e3,e4⟩
theorem k2b:∀ (xs:List ByteArray) (k k' : Int) (i:Nat),0≤k→k+xs.length≤10000000000→RL RS k xs k'→findL q8A i xs k=some (.inl k')
 | [],k,k',i,_,_,h=>by rw [show k=k' from h]; rfl
 | x :: xs,k,k',i,h0,h1,⟨m,⟨h2,h3⟩,h4⟩=>by
  show (q8A i x k).bind _=_
  simp only [List.length_cons] at h1
  have e:q8A i x k=some (.inl (k+1)):=by
   unfold q8A
   rw [h2,Option.bind_some,if_pos rfl,q3B (by constructor<;>omega)]
  rw [e,Option.bind_some]
  subst h3
  exact k2b xs (k+1) k' (i+1) (by omega) (by omega) h4
theorem x0e {xs:List ByteArray}{k k' : Int}(h0:0≤k)(h1:k+xs.length≤10000000000)(h:RL RS k xs k'):q6e xs k=some k':=by
 unfold q6e
 rw [k2b xs k k' 0 h0 h1 h]; rfl
theorem x0f (xs:List ByteArray){k:Int}(h0:0≤k)(h1:k+16*(szL xs:Nat)≤10000000000)(h2:szL xs≤1048576):∃ k' ys,q7r xs k=some (k',ys)∧k≤k'∧k'≤k+16*(szL xs:Nat):=by
 have hl:=q5b xs
 obtain⟨k',ys,e1,e2,e3,_⟩:=k2a xs h0 (by omega) (by omega)
 exact⟨k',ys,e1,e2,by omega⟩
theorem k9t (xs:List Attribute){k:Int}(h0:0≤k)(h1:k+16*(szL xs:Nat)≤10000000000)(h2:szL xs≤1048576):∃ k' ys,z0h xs k=some (k',ys)∧k≤k'∧k'≤k+16*(szL xs:Nat):=
 j9t (L:=q9E) (fun k i a x hx h0 h1 hi _=>by
  obtain⟨t,ht⟩:=z9A h0 (by omega)
  have hl:=(List.getElem?_eq_some_iff.1 hx).1
  have hI:∀ m:Int,k≤m→m≤k+16→I64 m:=fun m _ _=>by constructor<;>omega
  have hI2:I64 ((i:Int)+1):=by constructor<;>omega
  have hi0:(0:Int)≤(i:Int):=by omega
  refine⟨k+1+1+1+1,⟨t,k+1,k+1+1,decide (((k+1+1+1).tmod 3)=0)⟩,?_,by omega,by omega⟩
  unfold q9E
  dsimp only
  rw [if_pos (by omega),ht,Option.bind_some,q3B hi0,Int.toNat_natCast,hx,Option.bind_some,q3B (hI _ (by omega) (by omega)),q3B hi0,List.getElem?_set_self hl,Option.bind_some,q3B (hI _ (by omega) (by omega)),q3B hi0,List.getElem?_set_self (by rw [List.length_set]; exact hl),Option.bind_some,q3B (hI _ (by omega) (by omega)),q3B hi0,List.getElem?_set_self (by rw [List.length_set,List.length_set]; exact hl),Option.bind_some,q3B (hI _ (by omega) (by omega)),q3B hI2,List.set_set,List.set_set,List.set_set]
  rfl) (fun k i a h=>by unfold q9E; dsimp only; exact if_neg h) xs h0 h1 h2
theorem x0g (xs:List Symbol){k:Int}(h0:0≤k)(h1:k+16*(szL xs:Nat)≤10000000000)(h2:szL xs≤1048576):∃ k' ys,z3h xs k=some (k',ys)∧k≤k'∧k'≤k+16*(szL xs:Nat):=
 j9t (L:=z1Y) (fun k i a x hx h0 h1 hi h3=>by
  obtain⟨t,ht⟩:=z9A h0 (by omega)
  have hl:=(List.getElem?_eq_some_iff.1 hx).1
  have hI:∀ m:Int,k≤m→m≤k+16→I64 m:=fun m _ _=>by constructor<;>omega
  have hI2:I64 ((i:Int)+1):=by constructor<;>omega
  have hi0:(0:Int)≤(i:Int):=by omega
  rw [j1L] at h1 h3 ⊢
  obtain⟨k',z,e1,e2,e3⟩:=k9t x.Attributes (k:=k+1) (by omega) (by omega) (by omega)
  refine⟨k',⟨t,z⟩,?_,by omega,by omega⟩
  unfold z1Y
  dsimp only
  rw [if_pos (by omega),ht,Option.bind_some,q3B hi0,Int.toNat_natCast,hx,Option.bind_some,q3B (hI _ (by omega) (by omega)),e1,Option.bind_some]
  dsimp only
  rw [q3B hI2]
  rfl) (fun k i a h=>by unfold z1Y; dsimp only; exact if_neg h) xs h0 h1 h2
theorem k7B:∀ (N:Nat) (xs:List Expr),fuEs xs≤N→∀ {k:Int},0≤k→k+16*(szL xs:Nat)≤10000000000→szL xs≤1048576→∃ k' ys,(∀ n,N≤n→z3x (n+1) xs k=some (k',ys))∧k≤k'∧k'≤k+16*(szL xs:Nat):=by
 intro N
 induction N with
 | zero=>
  intro xs hn k h0 h1 h2
  cases xs with
  | nil=>exact⟨k,[],fun n _=>by show z3w _ _ _=_; unfold z3w; rw [q3E (r:=(k,[])) (by unfold z2a; dsimp only; exact if_neg (by simp))]; rfl,by omega,by omega⟩
  | cons x xs=>have:=z5M (x:=x) (l:=x :: xs) (by simp); rw [z3Q] at this; omega
 | succ N ih=>
  intro xs hn k h0 h1 h2
  have hq:∀ x∈xs,1+Sz.szd x≤1048576:=by
   clear h1 hn
   induction xs with
   | nil=>intro x hx; cases hx
   | cons y ys ih=>
    simp only [szL] at h2
    intro x hx
    rcases List.mem_cons.1 hx with rfl | hx
    ·omega
    ·exact ih (by omega) x hx
  have hf:∀ x∈xs,fuEs x.Args≤N:=fun x hx=>by have:=z5M hx; rw [z3Q] at this; omega
  obtain⟨k',ys,e1,e2,e3,_⟩:=k5C (ι:=Nat) (Q:=fun n=>N+1≤n) (R:=fun _ _ _=>True) (c:=fun x:Expr=>16*(1+Sz.szd x)) (P:=fun x=>fuEs x.Args≤N∧1+Sz.szd x≤1048576) (L:=fun n=>z2a (z3x n)) (fun k i a x hp hx h0 h1 hi=>by
    have hl:=(List.getElem?_eq_some_iff.1 hx).1
    have hI:∀ m:Int,k≤m→m≤k+16→I64 m:=fun m _ _=>by constructor<;>omega
    have hI2:I64 ((i:Int)+1):=by constructor<;>omega
    have hi0:(0:Int)≤(i:Int):=by omega
    obtain⟨hp,hq⟩:=hp
    rw [q8U] at h1 hq ⊢
    obtain⟨t1,ht1⟩:=z9A (k:=k+1+1+1+1) (by omega) (by omega)
    obtain⟨t2,ht2⟩:=z9A (k:=k+1+1+1+1+1) (by omega) (by omega)
    obtain⟨k1,z,e1,e2,e3⟩:=ih x.Args hp (k:=k+1+1+1+1+1+1) (by omega) (by omega) (by omega)
    refine⟨k1,⟨k,k+1,k+1+1,k+1+1+1,t1,t2,z⟩,fun n hn=>?_,by omega,by omega,trivial⟩
    obtain⟨j,rfl⟩:∃ j,n=j+1:=⟨n - 1,by omega⟩
    have e1:=e1 j (by omega)
    unfold z2a
    dsimp only
    rw [if_pos (by omega),q3B hi0,Int.toNat_natCast,hx,Option.bind_some,q3B (hI _ (by omega) (by omega)),q3B (hI _ (by omega) (by omega)),q3B (hI _ (by omega) (by omega)),q3B (hI _ (by omega) (by omega)),ht1,Option.bind_some,q3B (hI _ (by omega) (by omega)),ht2,Option.bind_some,q3B (hI _ (by omega) (by omega)),e1,Option.bind_some]
    dsimp only
    rw [q3B hI2]
    rfl) (fun n k i a h=>by unfold z2a; dsimp only; exact if_neg h) xs (k:=k) (fun x hx=>⟨hf x hx,hq x hx⟩) h0 (by rw [j7M]; omega) (by have:=q5b xs; omega)
  rw [j7M] at e3
  exact⟨k',ys,fun n hn=>e1 n hn,e2,by omega⟩
theorem k0Q (xs:List Expr){k:Int}(h0:0≤k)(h1:k+16*(szL xs:Nat)≤10000000000)(h2:szL xs≤1048576):∃ k' ys,z3y xs k=some (k',ys)∧k≤k'∧k'≤k+16*(szL xs:Nat):=by
 obtain⟨k',ys,e1,e2,e3⟩:=k7B (fuEs xs) xs (Nat.le_refl _) h0 h1 h2
 refine⟨k',ys,q9p (fuEs xs+1) fun n hn=>?_,e2,e3⟩
 obtain⟨j,rfl⟩:∃ j,n=j+1:=⟨n - 1,by omega⟩
 exact e1 j (by omega)
theorem x0h (xs:List Equation){k:Int}(h0:0≤k)(h1:k+16*(szL xs:Nat)≤10000000000)(h2:szL xs≤1048576):∃ k' ys,z0M xs k=some (k',ys)∧k≤k'∧k'≤k+16*(szL xs:Nat):=
 j9t (L:=z0i) (fun k i a x hx h0 h1 hi h3=>by
  have hl:=(List.getElem?_eq_some_iff.1 hx).1
  have hI:∀ m:Int,k≤m→m≤k+16→I64 m:=fun m _ _=>by constructor<;>omega
  have hI2:I64 ((i:Int)+1):=by constructor<;>omega
  have hi0:(0:Int)≤(i:Int):=by omega
  rw [z5L] at h1 h3 ⊢
  obtain⟨t1,ht1⟩:=z9A (k:=k+1) (by omega) (by omega)
  obtain⟨t2,ht2⟩:=z9A (k:=k+1+1+1+1+1+1) (by omega) (by omega)
  obtain⟨t3,ht3⟩:=z9A (k:=k+1+1+1+1+1+1+1) (by omega) (by omega)
  obtain⟨k',z,e1,e2,e3⟩:=k0Q x.Expr.Args (k:=k+1+1+1+1+1+1+1+1) (by omega) (by omega) (by omega)
  refine⟨k',⟨⟨k,t1⟩,⟨k+1+1,k+1+1+1,k+1+1+1+1,k+1+1+1+1+1,t2,t3,z⟩⟩,?_,by omega,by omega⟩
  unfold z0i
  dsimp only
  rw [if_pos (by omega),q3B hi0,Int.toNat_natCast,hx,Option.bind_some,q3B (hI _ (by omega) (by omega)),ht1,Option.bind_some,q3B (hI _ (by omega) (by omega)),q3B (hI _ (by omega) (by omega)),q3B (hI _ (by omega) (by omega)),q3B (hI _ (by omega) (by omega)),q3B (hI _ (by omega) (by omega)),ht2,Option.bind_some,q3B (hI _ (by omega) (by omega)),ht3,Option.bind_some,q3B (hI _ (by omega) (by omega)),e1,Option.bind_some]
  dsimp only
  rw [q3B hI2]
  rfl) (fun k i a h=>by unfold z0i; dsimp only; exact if_neg h) xs h0 h1 h2
theorem x0i (xs:List Contribution){k:Int}(h0:0≤k)(h1:k+16*(szL xs:Nat)≤10000000000)(h2:szL xs≤1048576):∃ k' ys,q8o xs k=some (k',ys)∧k≤k'∧k'≤k+16*(szL xs:Nat):=
 j9t (L:=q8f) (fun k i a x hx h0 h1 hi h3=>by
  have hl:=(List.getElem?_eq_some_iff.1 hx).1
  have hI:∀ m:Int,k≤m→m≤k+16→I64 m:=fun m _ _=>by constructor<;>omega
  have hI2:I64 ((i:Int)+1):=by constructor<;>omega
  have hi0:(0:Int)≤(i:Int):=by omega
  rw [z0N] at h1 h3 ⊢
  obtain⟨t0,ht0⟩:=z9A (k:=k) (by omega) (by omega)
  obtain⟨t1,ht1⟩:=z9A (k:=k+1) (by omega) (by omega)
  obtain⟨t2,ht2⟩:=z9A (k:=k+1+1+1+1+1+1) (by omega) (by omega)
  obtain⟨t3,ht3⟩:=z9A (k:=k+1+1+1+1+1+1+1) (by omega) (by omega)
  obtain⟨k',z,e1,e2,e3⟩:=k0Q x.Target.Args (k:=k+1+1+1+1+1+1+1+1) (by omega) (by omega) (by omega)
  obtain⟨t4,ht4⟩:=z9A (k:=k'+1+1+1+1) (by omega) (by omega)
  obtain⟨t5,ht5⟩:=z9A (k:=k'+1+1+1+1+1) (by omega) (by omega)
  obtain⟨k2,z2,f1,f2,f3⟩:=k0Q x.Value.Args (k:=k'+1+1+1+1+1+1) (by omega) (by omega) (by omega)
  have hI' : ∀ m:Int,k'≤m→m≤k'+16→I64 m:=fun m _ _=>by constructor<;>omega
  refine⟨k2,⟨t0,t1,⟨k+1+1,k+1+1+1,k+1+1+1+1,k+1+1+1+1+1,t2,t3,z⟩,⟨k',k'+1,k'+1+1,k'+1+1+1,t4,t5,z2⟩⟩,?_,by omega,by omega⟩
  unfold q8f
  dsimp only
  rw [if_pos (by omega),ht0,Option.bind_some,q3B hi0,Int.toNat_natCast,hx,Option.bind_some,q3B (hI _ (by omega) (by omega)),ht1,Option.bind_some,q3B (hI _ (by omega) (by omega)),q3B (hI _ (by omega) (by omega)),q3B (hI _ (by omega) (by omega)),q3B (hI _ (by omega) (by omega)),q3B (hI _ (by omega) (by omega)),ht2,Option.bind_some,q3B (hI _ (by omega) (by omega)),ht3,Option.bind_some,q3B (hI _ (by omega) (by omega)),e1,Option.bind_some]
  dsimp only
  rw [q3B (hI' _ (by omega) (by omega)),q3B (hI' _ (by omega) (by omega)),q3B (hI' _ (by omega) (by omega)),q3B (hI' _ (by omega) (by omega)),ht4,Option.bind_some,q3B (hI' _ (by omega) (by omega)),ht5,Option.bind_some,q3B (hI' _ (by omega) (by omega)),f1,Option.bind_some]
  dsimp only
  rw [q3B hI2]
  rfl) (fun k i a h=>by unfold q8f; dsimp only; exact if_neg h) xs h0 h1 h2
theorem k9u (xs:List Rule){k:Int}(h0:0≤k)(h1:k+16*(szL xs:Nat)≤10000000000)(h2:szL xs≤1048576):∃ k' ys,z5I xs k=some (k',ys)∧k≤k'∧k'≤k+16*(szL xs:Nat):=
 j9t (L:=z4b) (fun k i a x hx h0 h1 hi h3=>by
  have hl:=(List.getElem?_eq_some_iff.1 hx).1
  have hI2:I64 ((i:Int)+1):=by constructor<;>omega
  have hi0:(0:Int)≤(i:Int):=by omega
  rw [z7x] at h1 h3 ⊢
  obtain⟨t0,ht0⟩:=z9A (k:=k) (by omega) (by omega)
  obtain⟨t1,ht1⟩:=z9A (k:=k+1) (by omega) (by omega)
  obtain⟨k1,z1,e1,e2,e3⟩:=x0f x.Right (k:=k+1+1) (by omega) (by omega) (by omega)
  obtain⟨k2,z2,f1,f2,f3⟩:=x0h x.Equations (k:=k1+1) (by omega) (by omega) (by omega)
  obtain⟨k3,z3,g1,g2,g3⟩:=x0i x.Contributions (k:=k2) (by omega) (by omega) (by omega)
  refine⟨k3,⟨t0,t1,z1,decide ((k1.tmod 3)=0),z2,z3⟩,?_,by omega,by omega⟩
  unfold z4b
  dsimp only
  rw [if_pos (by omega),ht0,Option.bind_some,q3B hi0,Int.toNat_natCast,hx,Option.bind_some,q3B (by constructor<;>omega),ht1,Option.bind_some,q3B (by constructor<;>omega),e1,Option.bind_some]
  dsimp only
  rw [q3B (by constructor<;>omega),f1,Option.bind_some]
  dsimp only
  rw [g1,Option.bind_some]
  dsimp only
  rw [q3B hI2]
  rfl) (fun k i a h=>by unfold z4b; dsimp only; exact if_neg h) xs h0 h1 h2
theorem j7P {g:Grammar}(h:Sz.szd g≤1048576):∃ k' z1 z2,q7s g 1=some (k',z1,z2)∧0≤k':=by
 rw [z0Z] at h
 obtain⟨k1,z1,e1,e2,e3⟩:=x0g g.Symbols (k:=1) (by omega) (by omega) (by omega)
 obtain⟨k2,z2,f1,f2,f3⟩:=k9u g.Rules (k:=k1) (by omega) (by omega) (by omega)
 refine⟨k2,z1,z2,?_,by omega⟩
 unfold q7s
 rw [e1,Option.bind_some]
 dsimp only
 rw [f1]; rfl
theorem k3o {g:Grammar}(h:Sz.szd g≤1048576):(j5d g).length≤1048576:=by
 unfold j5d
 split
 ·rw [List.length_map]
  have h1:=List.length_filter_le (j7J g) g.Rules
  have h2:=q5b g.Rules
  rw [z0Z] at h
  omega
 ·simp
theorem k7C {g:Grammar}(h:A.boCs (Grammar.l g)):q7l g=some true:=by
 unfold q7l
 rw [j3s h 1048576 (by omega) (by omega),Option.bind_some]
 by_cases h1:(Sz.szd g:Int)≤1048576
 ·have h2:Sz.szd g≤1048576:=by omega
  obtain⟨e1,e2⟩:=k3n h2
  obtain⟨k',z1,z2,e3,e4⟩:=j7P h2
  have hlen:(j5d g).length≤1048576:=k3o h2
  obtain⟨k2,z3,f1,f2,f3,f4,f5⟩:=k2a (j5d g) (k:=1) (by omega) (by omega) (by omega)
  have f6:=x0e (by omega) (by rw [f5]; omega) f4
  rw [if_pos h1,if_neg (by omega)]
  simp only [j3t h2,e1,e2,j7L,j3u,e3,f1,f6,Option.bind_some,reduceIte,if_neg (show ¬ k' < 0 by omega),if_neg (show ¬ k2 < 0 by omega)]
 ·rw [if_neg h1,if_pos (by omega)]
end Go.Proofs.YtcegfmageiicaaaGreat
namespace Go.Proofs.YtcegfmageiicaaaGreat
open Go Go.E
def Ok {ρ:Type}(Q:ρ→Prop)(o:Option ρ):Prop:=∃ r,o=some r∧Q r
section
variable {ρ τ σ α:Type}{Q:ρ→Prop}{R:τ→Prop}
theorem Ok.bind {o:Option ρ}{f:ρ→Option τ}(h:Ok Q o)(hf:∀ r,Q r→Ok R (f r)):Ok R (o.bind f):=by
 obtain⟨r,rfl,hr⟩:=h; exact hf r hr
theorem Ok.grd {c:Prop}[Decidable c]{k:Option τ}(hc:c)(h:Ok R k):Ok R (Go.E.grd c k):=by rw [q3B hc]; exact h
end
end Go.Proofs.YtcegfmageiicaaaGreat
namespace Go.Proofs.YtcegfmageiicaaaGreat
open Go Go.E
theorem j2a {r:Relation}(h:Valid r)(i k:Int):Valid (addP r i k):=by
 unfold addP
 by_cases hc:Valid r∧inN r i∧inN r k
 ·rw [if_pos hc]
  obtain⟨_,hi,hk⟩:=hc
  unfold j4O
  refine⟨h.1,h.2.1,by dsimp only; rw [List.length_set]; exact h.2.2.1,fun x hx=>?_⟩
  rcases List.mem_or_eq_of_mem_set hx with hx | hx
  ·exact h.2.2.2 x hx
  ·rw [hx]
   have h1:=h.1
   have hk1:=hk.1
   have hk2:=hk.2
   refine k7Z ?_ ?_
   ·unfold z8e
    rw [List.getD_eq_getElem?_getD]
    cases hq:r.Rows[i.toNat]? with
    | none=>show (0:Int)≤0∧(0:Int)≤((2 ^ r.N.toNat:Nat):Int) - 1; have:=Nat.two_pow_pos r.N.toNat; omega
    | some y=>exact h.2.2.2 y (List.mem_of_getElem? hq)
   ·have h2:2 ^ k.toNat < 2 ^ r.N.toNat:=Nat.pow_lt_pow_right (by decide) (by omega)
    constructor
    ·exact Int.natCast_nonneg _
    ·dsimp only; omega
 ·rw [if_neg hc]; exact h
theorem k5D {r:Relation}(h:Valid r)(i k:Int)(a c:Nat):Rl (addP r i k).Rows a c↔Rl r.Rows a c∨(inN r i∧inN r k∧(a:Int)=i∧(c:Int)=k):=by
 unfold addP
 by_cases hc:Valid r∧inN r i∧inN r k
 ·rw [if_pos hc]
  obtain⟨_,hi,hk⟩:=hc
  have hi1:=hi.1
  have hi2:=hi.2
  have hk1:=hk.1
  have hl:=h.2.2.1
  unfold j4O Rl
  dsimp only
  rw [List.getD_eq_getElem?_getD,List.getElem?_set]
  by_cases e:i.toNat=a
  ·rw [if_pos e,if_pos (by omega),Option.getD_some,j1f,Nat.testBit_or,Int.toNat_natCast,Nat.testBit_two_pow]
   unfold z8e
   rw [e]
   simp only [Bool.or_eq_true,decide_eq_true_eq]
   constructor
   ·rintro (h1 | h1)
    ·exact .inl h1
    ·exact .inr ⟨hi,hk,by omega,by omega⟩
   ·rintro (h1 | ⟨_,_,_,h1⟩)
    ·exact .inl h1
    ·exact .inr (by omega)
  ·rw [if_neg e,← List.getD_eq_getElem?_getD]
   constructor
   ·exact fun h1=>.inl h1
   ·rintro (h1 | ⟨_,_,h1,_⟩)
    ·exact h1
    ·omega
 ·rw [if_neg hc]
  constructor
  ·exact fun h1=>.inl h1
  ·rintro (h1 | ⟨h1,h2,_⟩)
   ·exact h1
   ·exact absurd ⟨h,h1,h2⟩ hc
def Sub (a b:Relation):Prop:=Valid a∧Valid b∧a.N=b.N∧∀ i j:Nat,Rl a.Rows i j→Rl b.Rows i j
theorem Sub.refl {a:Relation}(h:Valid a):Sub a a:=⟨h,h,rfl,fun _ _ h=>h⟩
theorem Sub.trans {a b c:Relation}(h:Sub a b)(k:Sub b c):Sub a c:=⟨h.1,k.2.1,h.2.2.1.trans k.2.2.1,fun i j x=>k.2.2.2 i j (h.2.2.2 i j x)⟩
theorem Sub.add {a b:Relation}(h:Sub a b)(i k:Int):Sub a (addP b i k):=
 h.trans ⟨h.2.1,j2a h.2.1 i k,(z9r _ _ _).2.symm,fun x y hx=>(k5D h.2.1 i k x y).2 (.inl hx)⟩
theorem Sub.close {a:Relation}(h:Valid a):Sub a (q6a a):=by
 refine⟨h,j9b h,(j1Q _).2.symm,fun i j hx=>?_⟩
 unfold q6a
 rw [if_pos h]
 exact k4v (z9s h).1 _ i j hx
theorem j2b (own:Relation)(a:Nat)(x:Int):∀ (ys:List Int) (i:Nat) (o:Relation),Valid o→Sub o (q9F own a x i ys o)
 | [],i,o,h=>Sub.refl h
 | y :: ys,i,o,h=>by
  rw [q9F]
  by_cases hp:hasP own (a:Int) (i:Int)
  ·rw [if_pos hp]; exact ((Sub.refl h).add x y).trans (j2b own a x ys (i+1) _ (j2a h x y))
  ·rw [if_neg hp]; exact j2b own a x ys (i+1) _ h
theorem j5i (own:Relation)(at' : List Int):∀ (xs:List Int) (a:Nat) (o:Relation),Valid o→Sub o (z1c own at' a xs o)
 | [],a,o,h=>Sub.refl h
 | x :: xs,a,o,h=>by
  rw [z1c]
  have h1:=j2b own a x at' 0 o h
  exact h1.trans (j5i own at' xs (a+1) _ h1.2.1)
theorem k0R {n:Int}(h0:0≤n)(h1:n≤16):Valid ⟨n,List.replicate n.toNat 0⟩:=by
 refine⟨h0,h1,by simp; omega,fun x hx=>?_⟩
 have:=(List.mem_replicate.1 hx).2
 have h2:=Nat.two_pow_pos n.toNat
 dsimp only
 omega
end Go.Proofs.YtcegfmageiicaaaGreat
namespace Go.Proofs.YtcegfmageiicaaaGreat
open Go Go.E
theorem k5E (g:Grammar)(r:Rule)(pos:Int)(own:Relation){o:Relation}(h:Valid o):Sub o (z2o g r o pos own):=j5i own _ _ 0 o h
noncomputable def indL (g:Grammar) (r:Rule) (all:ByteArray→Relation):Nat→Nat→Relation→Relation
 | 0,_,o=>o
 | m+1,pos,o=>indL g r all m (pos+1) (z2o g r o (pos:Int) (all (q6G r (pos:Int))))
noncomputable def indR (g:Grammar) (r:Rule) (all:ByteArray→Relation):Relation:=q6a (indL g r all (r.Right.length+1) 0 (locR g r))
theorem k2c (g:Grammar)(r:Rule)(all:ByteArray→Relation):∀ (m pos:Nat) (o:Relation),Valid o→Sub o (indL g r all m pos o)
 | 0,pos,o,h=>Sub.refl h
 | m+1,pos,o,h=>by
  rw [indL]
  have h1:=k5E g r (pos:Int) (all (q6G r (pos:Int))) h
  exact h1.trans (k2c g r all m (pos+1) _ h1.2.1)
end Go.Proofs.YtcegfmageiicaaaGreat
namespace Go.Proofs.YtcegfmageiicaaaGreat
open Go Go.E
theorem k2d {α β:Type}{f:α→List β}{C:Nat}(h:∀ x,(f x).length≤C):∀ l:List α,(l.flatMap f).length≤l.length*C
 | []=>by simp
 | x :: l=>by
  have h1:=k2d h l
  have h2:=h x
  simp only [List.flatMap_cons,List.length_append,List.length_cons,Nat.add_mul]; omega
theorem x0j (l:List Occurrence)(o:Occurrence):q5q l o=some (ixF l o):=by
 have h:q3P l o=some (ixF l o):=by
  unfold q3P
  refine j4N fun k x=>⟨fun e=>?_,fun e=>?_⟩
  ·unfold q3S; rw [if_pos e.symm]
  ·unfold q3S; rw [if_neg (fun h=>e h.symm)]
 unfold q5q
 rw [h]; rfl
theorem x0k {l:List Occurrence}{u:Occurrence}{a:Nat}(h:(a:Int)=ixF l u):l[a]? = some u:=by
 unfold ixF at h
 by_cases hm:u∈l
 ·rw [if_pos hm] at h
  obtain rfl:a=l.idxOf u:=by omega
  have hl:=List.idxOf_lt_length_of_mem hm
  rw [List.getElem?_eq_getElem hl,List.getElem_idxOf]
 ·rw [if_neg hm] at h; omega
theorem x0l {l:List Occurrence}{u:Occurrence}{a:Nat}(h:(a:Int)=ixF l u):a < l.length:=(List.getElem?_eq_some_iff.1 (x0k h)).1
theorem k8b (l:List Occurrence)(k:Nat)(hk:k < l.length):∀ (us:List Occurrence) (i:Nat) (o:Relation),Valid o→o.N=(l.length:Int) →
  ∃ o',eachL (q6B l k) i us (o.Rows,o.N)=some (o'.Rows,o'.N)∧Valid o'∧o'.N=o.N∧∀ a c:Nat,Rl o'.Rows a c↔Rl o.Rows a c∨(c=k∧∃ u∈us,(a:Int)=ixF l u)
 | [],i,o,hv,hN=>⟨o,rfl,hv,rfl,fun a c=>by simp⟩
 | u :: us,i,o,hv,hN=>by
  have hlen:o.Rows.length≤1048576:=by have:=hv.2.1; have:=hv.2.2.1; omega
  have e:q6B l k i u (o.Rows,o.N)=some ((addP o (ixF l u) (k:Int)).Rows,(addP o (ixF l u) (k:Int)).N):=by
   unfold q6B
   dsimp only
   rw [x0j,Option.bind_some,j3n,k1C hlen,Option.bind_some]
  obtain⟨o',h1,h2,h3,h4⟩:=k8b l k hk us (i+1) (addP o (ixF l u) (k:Int)) (j2a hv _ _) ((z9r _ _ _).2.trans hN)
  refine⟨o',by rw [eachL,e,Option.bind_some]; exact h1,h2,h3.trans (z9r _ _ _).2,fun a c=>?_⟩
  rw [h4,k5D hv]
  have hin:(a:Int)=ixF l u→inN o (ixF l u):=fun h=>⟨by omega,by have:=x0l h; omega⟩
  constructor
  ·rintro ((h | ⟨_,_,h1,h2⟩) | ⟨h1,u',hu,h2⟩)
   ·exact .inl h
   ·exact .inr ⟨by omega,u,by simp,h1⟩
   ·exact .inr ⟨h1,u',by simp [hu],h2⟩
  ·rintro (h | ⟨h1,u',hu,h2⟩)
   ·exact .inl (.inl h)
   ·rcases List.mem_cons.1 hu with rfl | hu
    ·exact .inl (.inr ⟨hin h2,⟨by omega,by omega⟩,h2,by omega⟩)
    ·exact .inr ⟨h1,u',hu,h2⟩
theorem k5F {r:Rule}(hr:Sz.szd r≤1048576)(l:List Occurrence):∀ (m k:Nat) (o:Relation),k+m=l.length→Valid o→o.N=(l.length:Int) →
  ∃ o',eachL (q6C r l) k (l.drop k) (o.Rows,o.N)=some (o'.Rows,o'.N)∧Valid o'∧o'.N=o.N∧∀ a c:Nat,Rl o'.Rows a c↔Rl o.Rows a c∨(k≤c∧∃ x,l[c]? = some x∧∃ u∈attrs (eqAt r x).1,(a:Int)=ixF l u)
 | 0,k,o,hk,hv,hN=>by
  refine⟨o,by rw [List.drop_eq_nil_of_le (by omega)]; rfl,hv,rfl,fun a c=>⟨.inl,?_⟩⟩
  rintro (h | ⟨h1,x,h2,_⟩)
  ·exact h
  ·have:=(List.getElem?_eq_some_iff.1 h2).1; omega
 | m+1,k,o,hk,hv,hN=>by
  have hk' : k < l.length:=by omega
  have hsz:=k4r hr l[k]
  have hf:=k4s hr l[k]
  obtain⟨o1,h1,h2,h3,h4⟩:=k8b l k hk' (attrs (eqAt r l[k]).1) 0 o hv hN
  obtain⟨o',k1,k2,k3,k4⟩:=k5F hr l m (k+1) o1 (by omega) h2 (h3.trans hN)
  have e1:q6C r l k l[k] (o.Rows,o.N)=some (o1.Rows,o1.N):=by
   unfold q6C
   dsimp only
   generalize eqAt r l[k]=z at hsz hf h1
   obtain⟨E,B⟩:=z
   rw [hf.2,Option.bind_some]
   dsimp only
   rw [j7s hsz,Option.bind_some,h1]; rfl
  refine⟨o',by rw [List.drop_eq_getElem_cons hk',eachL,e1,Option.bind_some]; exact k1,k2,k3.trans h3,fun a c=>?_⟩
  rw [k4,h4]
  constructor
  ·rintro ((h | ⟨rfl,u,hu,h⟩) | ⟨hc,h⟩)
   ·exact .inl h
   ·exact .inr ⟨Nat.le_refl _,l[c],List.getElem?_eq_getElem hk',u,hu,h⟩
   ·exact .inr ⟨by omega,h⟩
  ·rintro (h | ⟨hc,x,hx,u,hu,h⟩)
   ·exact .inl (.inl h)
   ·by_cases hck:c=k
    ·subst hck
     rw [List.getElem?_eq_getElem hk'] at hx
     cases hx
     exact .inl (.inr ⟨rfl,u,hu,h⟩)
    ·exact .inr ⟨by omega,x,hx,u,hu,h⟩
theorem k5G (n i j:Nat):¬ Rl (List.replicate n 0) i j:=by
 unfold Rl
 rw [List.getD_eq_getElem?_getD,List.getElem?_replicate]
 split<;>simp
theorem k5H {g:Grammar}{r:Rule}(hg:Sz.szd g≤1048576)(hr:Sz.szd r≤1048576)(hl:(occL g r).length≤16):Valid (locR g r)∧(locR g r).N=((occL g r).length:Int) ∧
  ∀ a c:Nat,Rl (locR g r).Rows a c↔∃ x,(occL g r)[c]? = some x∧∃ u∈attrs (eqAt r x).1,(a:Int)=ixF (occL g r) u:=by
 have h:=(k5q hg hr).2.1
 unfold q6o at h
 rw [j7E (q9v hg) (q6c hr),Option.bind_some,z6L,j1e (by omega) (by omega),Option.bind_some,if_neg (by omega)] at h
 obtain⟨o',h1,h2,h3,h4⟩:=k5F hr (occL g r) (occL g r).length 0 ⟨((occL g r).length:Int),List.replicate (((occL g r).length:Int)).toNat 0⟩ (by omega) (k0R (by omega) (by omega)) rfl
 rw [List.drop_zero] at h1
 rw [h1,Option.bind_some] at h
 have e:locR g r=o':=(Option.some.inj h).symm
 rw [e]
 refine⟨h2,h3,fun a c=>?_⟩
 rw [h4]
 constructor
 ·rintro (h | ⟨_,h⟩)
  ·exact absurd h (k5G _ _ _)
  ·exact h
 ·exact fun h=>.inr ⟨Nat.zero_le _,h⟩
end Go.Proofs.YtcegfmageiicaaaGreat
namespace Go.Proofs.YtcegfmageiicaaaGreat
open Go Go.E
theorem k3p {n:Int}{s:List Int}(h0:0≤n)(h1:n≤16)(h:z5e n.toNat s):Valid ⟨n,s⟩:=by
 have hl:=h.1
 refine⟨h0,h1,by show (s.length:Int)=n; omega,fun x hx=>?_⟩
 have:=h.2 x hx
 have:=j7r n
 exact⟨(h.2 x hx).1,by show x≤((2 ^ n.toNat:Nat):Int) - 1; omega⟩
theorem k3q {p:Relation}{l:List Int}(hl:l.length≤16)(k1:Nat)(x1:Int){f:Nat→Int→List Int→Option (List Int)}(hf:∀ k2 x2 s2,f k2 x2 s2=((q7v p x1 x2).bind fun y3=>if y3=true then ((s2[k1]?).bind fun x3=>grd (0≤(k2:Int)∧(k2:Int) < 63) <| grd (0≤x3∧0≤((2 ^ (k2:Int).toNat:Nat):Int)) <| some (List.set s2 k1 ((x3.toNat ||| ((2 ^ (k2:Int).toNat:Nat):Int).toNat:Nat):Int))) else some s2).bind fun s3=>some s3)
  {s:List Int} {v:Int} (hs:s[k1]? = some v) (hv:0≤v) :
  ∃ y:Int,eachL f 0 l s=some (s.set k1 y)∧0≤y∧∀ n,y.toNat.testBit n=true↔v.toNat.testBit n=true∨∃ x2,l[n]? = some x2∧hasP p x1 x2:=by
 have hk1:=(List.getElem?_eq_some_iff.1 hs).1
 have key:∀ (m k:Nat) (v:Int),k+m=l.length→0≤v→∃ y:Int,eachL f k (l.drop k) (s.set k1 v)=some (s.set k1 y)∧0≤y∧∀ n,y.toNat.testBit n=true↔v.toNat.testBit n=true∨(k≤n∧∃ x2,l[n]? = some x2∧hasP p x1 x2):=by
  intro m
  induction m with
  | zero=>
   intro k v hk hv
   refine⟨v,by rw [List.drop_eq_nil_of_le (by omega)]; rfl,hv,fun n=>⟨.inl,fun h=>h.elim id fun ⟨h1,x2,h2,_⟩=>?_⟩⟩
   rw [List.getElem?_eq_none (by omega)] at h2; cases h2
  | succ m ih=>
   intro k v hk hv
   obtain⟨x2,hx2⟩:∃ x2,l[k]? = some x2:=⟨_,List.getElem?_eq_getElem (by omega)⟩
   have hd:l.drop k=x2 :: l.drop (k+1):=by
    rw [List.drop_eq_getElem_cons (by omega)]
    have:l[k]=x2:=by rw [List.getElem?_eq_getElem (by omega)] at hx2; exact Option.some.inj hx2
    rw [this]
   have hsv:(s.set k1 v)[k1]? = some v:=by rw [List.getElem?_set]; simp [hk1]
   by_cases hp:hasP p x1 x2
   ·have e:f k x2 (s.set k1 v)=some (s.set k1 (orI v ((2 ^ k:Nat):Int))):=by
     rw [hf,q8j,Option.bind_some,if_pos (by simpa using hp),hsv,Option.bind_some,q3B (by constructor<;>omega),q3B ⟨hv,Int.natCast_nonneg _⟩,Option.bind_some,List.set_set]
     rfl
    obtain⟨y,h1,h2,h3⟩:=ih (k+1) (orI v ((2 ^ k:Nat):Int)) (by omega) (j6h _ _)
    refine⟨y,by rw [hd]; simp only [eachL,e,Option.bind_some]; exact h1,h2,fun n=>?_⟩
    rw [h3,j1f,Nat.testBit_or,Int.toNat_natCast,Nat.testBit_two_pow,Bool.or_eq_true,decide_eq_true_iff]
    constructor
    ·rintro ((h | h) | ⟨h,h'⟩)
     ·exact .inl h
     ·subst h; exact .inr ⟨Nat.le_refl _,x2,hx2,hp⟩
     ·exact .inr ⟨by omega,h'⟩
    ·rintro (h | ⟨h,h'⟩)
     ·exact .inl (.inl h)
     ·by_cases hn:k=n
      ·exact .inl (.inr hn)
      ·exact .inr ⟨by omega,h'⟩
   ·have e:f k x2 (s.set k1 v)=some (s.set k1 v):=by
     rw [hf,q8j,Option.bind_some,if_neg (by simpa using hp),Option.bind_some]
    obtain⟨y,h1,h2,h3⟩:=ih (k+1) v (by omega) hv
    refine⟨y,by rw [hd]; simp only [eachL,e,Option.bind_some]; exact h1,h2,fun n=>?_⟩
    rw [h3]
    constructor
    ·rintro (h | ⟨h,h'⟩)
     ·exact .inl h
     ·exact .inr ⟨by omega,h'⟩
    ·rintro (h | ⟨h,x3,h4,h5⟩)
     ·exact .inl h
     ·by_cases hn:k=n
      ·subst hn; rw [hx2] at h4; cases h4; exact absurd h5 hp
      ·exact .inr ⟨by omega,x3,h4,h5⟩
 obtain⟨y,h1,h2,h3⟩:=key l.length 0 v (by omega) hv
 have e0:s.set k1 v=s:=by
  apply List.ext_getElem?
  intro q
  rw [List.getElem?_set]
  by_cases hq:k1=q
  ·subst hq; rw [if_pos rfl,if_pos hk1,hs]
  ·rw [if_neg hq]
 rw [List.drop_zero,e0] at h1
 exact⟨y,h1,h2,fun n=>by rw [h3]; simp⟩
theorem j9u:q8g=q5r:=by
 funext p l
 unfold q8g q5r
 rw [z1a,q6j,z6L]
 have e:z0X p l=q6E p l:=by
  funext k x s
  unfold z0X q6E
  have e2:z0W p k x=q8T p k x:=by
   funext k2 x2 s2
   unfold z0W q8T
   rw [k1z]
  rw [e2]
 rw [e]
theorem j9v {p:Relation}(hp:Valid p){l:List Int}(hl:l.length≤16):∃ q,q5r p l=some q∧Valid q∧q.N=l.length∧∀ (m n:Nat) (x y:Int),l[m]? = some x→l[n]? = some y→(hasP q (m:Int) (n:Int)↔hasP p x y):=by
 have key:∀ (m k:Nat) (s:List Int),k+m=l.length→z5e l.length s→(∀ i,k≤i→i < l.length→s[i]? = some 0)→(∀ i x,i < k→l[i]? = some x→∀ n,Rl s i n↔∃ y,l[n]? = some y∧hasP p x y) →
   ∃ s',eachL (q6E p l) k (l.drop k) s=some s'∧z5e l.length s'∧∀ i x,l[i]? = some x→∀ n,Rl s' i n↔∃ y,l[n]? = some y∧hasP p x y:=by
  intro m
  induction m with
  | zero=>
   intro k s hk hok _ h
   exact⟨s,by rw [List.drop_eq_nil_of_le (by omega)]; rfl,hok,fun i x hx=>h i x (by have:=(List.getElem?_eq_some_iff.1 hx).1; omega) hx⟩
  | succ m ih=>
   intro k s hk hok h0 h
   obtain⟨x,hx⟩:∃ x,l[k]? = some x:=⟨_,List.getElem?_eq_getElem (by omega)⟩
   have hd:l.drop k=x :: l.drop (k+1):=by
    rw [List.drop_eq_getElem_cons (by omega)]
    have:l[k]=x:=by rw [List.getElem?_eq_getElem (by omega)] at hx; exact Option.some.inj hx
    rw [this]
   obtain⟨y,h1,h2,h3⟩:=k3q (p:=p) hl k x (f:=q8T p k x) (fun _ _ _=>rfl) (h0 k (Nat.le_refl _) (by omega)) (Int.le_refl _)
   have e:q6E p l k x s=some (s.set k y):=by
    unfold q6E; rw [h1]; rfl
   have hks:k < s.length:=by rw [hok.1]; omega
   have hget:∀ i,(s.set k y)[i]? = if k=i then some y else s[i]?:=fun i=>by
    rw [List.getElem?_set]
    by_cases hi:k=i
    ·subst hi; simp [hks]
    ·simp [hi]
   have hylt:y.toNat < 2 ^ l.length:=by
    apply Nat.lt_pow_two_of_testBit
    intro n hn
    cases hb:y.toNat.testBit n with
    | false=>rfl
    | true=>
     rcases (h3 n).1 hb with h4 | ⟨x2,h4,_⟩
     ·simp at h4
     ·rw [List.getElem?_eq_none (by omega)] at h4; cases h4
   have hok' : z5e l.length (s.set k y):=by
    refine⟨by rw [List.length_set]; exact hok.1,fun z hz=>?_⟩
    rcases List.mem_or_eq_of_mem_set hz with h4 | h4
    ·exact hok.2 z h4
    ·subst h4; exact⟨h2,hylt⟩
   obtain⟨s',k1,k2,k3⟩:=ih (k+1) (s.set k y) (by omega) hok' (fun i hi hil=>by rw [hget,if_neg (by omega)]; exact h0 i (by omega) hil) (fun i x' hi hx' n=>by
    by_cases hik:k=i
    ·subst hik
     rw [hx] at hx'; cases hx'
     have:(s.set k y).getD k 0=y:=by rw [List.getD_eq_getElem?_getD,hget,if_pos rfl]; rfl
     unfold Rl
     rw [this,h3]; simp
    ·have:(s.set k y).getD i 0=s.getD i 0:=by rw [List.getD_eq_getElem?_getD,hget,if_neg hik,List.getD_eq_getElem?_getD]
     have h5:=h i x' (by omega) hx' n
     unfold Rl at h5 ⊢
     rw [this]; exact h5)
   exact⟨s',by rw [hd]; simp only [eachL,e,Option.bind_some]; exact k1,k2,k3⟩
 obtain⟨s',h1,h2,h3⟩:=key l.length 0 (List.replicate l.length 0) (by omega) ⟨by simp,fun x hx=>by
  rw [List.mem_replicate] at hx; rw [hx.2]; exact⟨Int.le_refl _,Nat.two_pow_pos _⟩⟩ (fun i _ hi=>by rw [List.getElem?_replicate,if_pos hi]) (fun i x hi=>absurd hi (Nat.not_lt_zero _))
 have hv:Valid ⟨(l.length:Int),s'⟩:=k3p (Int.natCast_nonneg _) (by omega) (by rw [Int.toNat_natCast]; exact h2)
 refine⟨⟨(l.length:Int),s'⟩,?_,hv,rfl,fun m n x y hx hy=>?_⟩
 ·unfold q5r
  rw [q6j,Option.bind_some,if_pos (by simpa using hp),if_neg (by omega),j1e (Int.natCast_nonneg _) (by omega),Option.bind_some]
  dsimp only
  rw [Int.toNat_natCast]
  rw [List.drop_zero] at h1
  rw [h1]; rfl
 ·rw [k8K hv,h3 m x hx n]
  constructor
  ·rintro⟨y',h4,h5⟩
   rw [hy] at h4; cases h4; exact h5
  ·intro h; exact⟨y,hy,h⟩
end Go.Proofs.YtcegfmageiicaaaGreat
namespace Go.Proofs.YtcegfmageiicaaaGreat
open Go Go.E
noncomputable def j7Q (x:Relation) (l:List Int):Relation:=(q5r x l).getD ⟨0,[]⟩
theorem k7D {x:Relation}(hx:Valid x){l:List Int}(hl:l.length≤16):q5r x l=some (j7Q x l)∧Valid (j7Q x l)∧(j7Q x l).N=(l.length:Int)∧∀ (m n:Nat) (a b:Int),l[m]? = some a→l[n]? = some b→(hasP (j7Q x l) (m:Int) (n:Int)↔hasP x a b):=by
 obtain⟨q,h1,h2,h3,h4⟩:=j9v hx hl
 unfold j7Q
 rw [h1]
 exact⟨rfl,h2,h3,h4⟩
theorem Shape.occ16 {g:Grammar}(h:Shape g){r:Rule}(hr:r∈g.Rules):(occL g r).length≤16:=by
 have h3:=j6o h hr
 have:=k2d (C:=4) (f:=occK g r) (fun k=>by unfold occK; rw [List.length_map]; exact h.plain _) (List.range' 0 (r.Right.length+1))
 rw [List.length_range'] at this
 unfold occL
 omega
theorem k7E (g:Grammar)(r:Rule)(o:Relation)(pos:Int)(own:Relation):(z2o g r o pos own).N=o.N:=(j0l own _ _ 0 o).2
theorem k5I (g:Grammar)(r:Rule)(all:ByteArray→Relation):∀ (m pos:Nat) (o:Relation),(indL g r all m pos o).N=o.N∧(indL g r all m pos o).Rows.length=o.Rows.length
 | 0,pos,o=>⟨rfl,rfl⟩
 | m+1,pos,o=>by
  rw [indL]
  have h1:=k5I g r all m (pos+1) (z2o g r o (pos:Int) (all (q6G r (pos:Int))))
  exact⟨h1.1.trans (k7E _ _ _ _ _),h1.2.trans (j1Y _ _ _ _ _)⟩
theorem k5J {g:Grammar}(h0:Sz.szd g≤1048576)(h:Shape g){r:Rule}(hr:r∈g.Rules)(all:ByteArray→Relation):Valid (locR g r)∧Valid (indR g r all)∧(indR g r all).N=((occL g r).length:Int):=by
 obtain⟨v1,v2,_⟩:=k5H h0 (Nat.le_trans (z1b hr) h0) (h.occ16 hr)
 have hs:=k2c g r all (r.Right.length+1) 0 (locR g r) v1
 have hc:=Sub.close hs.2.1
 unfold indR
 exact⟨v1,hc.2.1,by rw [← hc.2.2.1,(k5I g r all _ 0 _).1,v2]⟩
theorem k5K {g:Grammar}(h:Shape g)(r:Rule){k:Nat}(hk:k≤r.Right.length):(posL g r (k:Int)).length≤16:=by
 rw [k5o g hk]
 have:=h.plain (q6G r (k:Int))
 omega
def k5L (g:Grammar)(all:List Relation)(r:Rule):Prop:=k3m (indR g r (q6M g all))=false∧∀ pos:Nat,pos≤r.Right.length→uniR (q6M g all (q6G r (pos:Int))) (j7Q (indR g r (q6M g all)) (posL g r (pos:Int)))=q6M g all (q6G r (pos:Int))
end Go.Proofs.YtcegfmageiicaaaGreat
namespace Go.Proofs.YtcegfmageiicaaaGreat
open Go Go.E
def cirG (g:Grammar):Bool:=g.Symbols.any fun y=>y.Attributes.any fun a=>a.Circular
theorem k9v (g:Grammar):q5x g=some (cirG g):=by
 unfold q5x q3J q3N
 rw [q4S (q:=fun y:Symbol=>y.Attributes.any fun a=>a.Circular) fun k y hy=>by
  unfold q5n q5P q4q q4H
  rw [q4S (q:=fun a:Attribute=>a.Circular) fun k a ha=>by
   unfold q6w z4d
   rw [Option.bind_some]
   cases a.Circular<;>rfl]
  rw [Option.bind_some,Option.bind_some,← apply_ite some]]
 rfl
noncomputable def k3r (g:Grammar):Bool:=z5q g&&(!(colG g||cirG g) && !g.Rules.any farR)
theorem k7F {g:Grammar}(hg:z5q g=true)(hc:colG g=false):(g.Rules.any fun r=>(z6R r).any farB)=g.Rules.any farR:=by
 have:∀ r∈g.Rules,(z6R r).any farB=farR r:=fun r hr=>by
  unfold z6R farR
  rw [k7e hg hc hr,List.flatMap_nil,List.append_nil,List.any_map]; rfl
 rw [Bool.eq_iff_iff,List.any_eq_true,List.any_eq_true]
 exact⟨fun ⟨r,hr,hx⟩=>⟨r,hr,(this r hr)▸hx⟩,fun ⟨r,hr,hx⟩=>⟨r,hr,(this r hr).symm▸hx⟩⟩
theorem k7G {g:Grammar}(h:Sz.szd g≤1048576):z4Z g=some (k3r g):=by
 unfold z4Z k3r
 rw [k1N h,Option.bind_some]
 cases hg:z5q g with
 | false=>rfl
 | true=>
  rw [if_pos rfl,k7d h]
  simp only [Option.bind_some]
  cases hc:colG g with
  | true=>cases g.Rules.any fun r=>(z6R r).any farB<;>simp [k5e,hc]
  | false=>
   rw [k7F hg hc]
   cases g.Rules.any farR<;>simp [k5e,hc,k9v]
theorem k7H {g:Grammar}(h:Sz.szd g≤1048576):z4W g=some (k3r g):=by
 unfold z4W k3r
 rw [q4B (c:=false) (q:=fun y:Symbol=>!y.Attributes.any fun a=>a.Circular||decide (a.Mode=3)) fun k y hy=>by
  unfold j2s
  rw [q4B (c:=false) (q:=fun a:Attribute=>!(a.Circular||decide (a.Mode=3))) fun k a ha=>by
   unfold j2r
   by_cases hm:a.Mode=3<;>cases hc:a.Circular<;>simp [hm]]
  have e:(y.Attributes.all fun a=>!(a.Circular||decide (a.Mode=3)))=!(y.Attributes.any fun a=>a.Circular||decide (a.Mode=3)):=by rw [List.not_any_eq_all_not]
  rw [e]
  cases y.Attributes.any fun a=>a.Circular||decide (a.Mode=3)<;>rfl]
 have e:(g.Symbols.all fun y=>!y.Attributes.any fun a=>a.Circular||decide (a.Mode=3))=!(colG g||cirG g):=by
  have e1:(g.Symbols.any fun y=>y.Attributes.any fun a=>a.Circular||decide (a.Mode=3))=(colG g||cirG g):=by
   unfold colG cirG
   rw [Bool.eq_iff_iff]
   simp only [List.any_eq_true,Bool.or_eq_true]
   constructor
   ·rintro⟨y,hy,a,ha,h | h⟩
    ·exact .inr ⟨y,hy,a,ha,h⟩
    ·exact .inl ⟨y,hy,a,ha,h⟩
   ·rintro (⟨y,hy,a,ha,h⟩ | ⟨y,hy,a,ha,h⟩)
    ·exact⟨y,hy,a,ha,.inr h⟩
    ·exact⟨y,hy,a,ha,.inl h⟩
  rw [← e1,List.not_any_eq_all_not]
 rw [e]
 cases colG g||cirG g with
 | true=>cases z5q g<;>rfl
 | false=>
  rw [Bool.not_false,if_pos rfl,Option.bind_some,z2p]
  rw [q4B (c:=false) (q:=fun r=>!farR r) fun k r hr=>by
   unfold j2t
   rw [k7c,Option.bind_some]
   cases farR r<;>rfl]
  have e:(g.Rules.all fun r=>!farR r)=!g.Rules.any farR:=by rw [List.not_any_eq_all_not]
  rw [e]
  cases g.Rules.any farR with
  | true=>cases z5q g<;>rfl
  | false=>rw [Bool.not_false,if_pos rfl,Option.bind_some,z2p,k1O h]; cases z5q g<;>rfl
end Go.Proofs.YtcegfmageiicaaaGreat
namespace Go.Proofs.YtcegfmageiicaaaGreat
open Go Go.E
theorem Inv.setU {g:Grammar}{all:List Relation}(h:Inv g all){n:ByteArray}{j:Nat}(hj:atS g n=some j)(h2:j < g.Symbols.length)(h4:all[j]? = some (q6M g all n))(h5:Valid (q6M g all n))(b:Relation) :
  Inv g (all.set j (uniR (q6M g all n) b))∧sumA all≤sumA (all.set j (uniR (q6M g all n) b))∧(uniR (q6M g all n) b≠q6M g all n→sumA all < sumA (all.set j (uniR (q6M g all n) b))):=by
 generalize q6M g all n=old at h4 h5
 have hv:=j9l (a:=old) (b:=b) h5
 have hm:=k5i (a:=old) (b:=b) h5
 generalize uniR old b=new at hv hm
 have hset:=j7H all j new old h4
 refine⟨⟨by simpa using h.1,fun k y a hk ha=>?_⟩,by omega,fun hne=>?_⟩
 ·rw [List.getElem?_set] at ha
  by_cases hjk:j=k
  ·subst hjk
   rw [if_pos rfl,if_pos (by rw [h.1]; exact h2)] at ha
   cases ha
   have:=(h.2 j y old hk h4).2
   exact⟨hv.1,hv.2.trans this⟩
  ·rw [if_neg hjk] at ha; exact h.2 k y a hk ha
 ·have h7:sumR old≠sumR new:=fun he=>hne (hm.2 he)
  have:=hm.1
  omega
theorem k5M {α:Type}{l:List α}{j:Nat}{x:α}(h:l[j]? = some x):l.set j x=l:=by
 apply List.ext_getElem?
 intro i
 rw [List.getElem?_set]
 by_cases hi:j=i
 ·subst hi
  have:=(List.getElem?_eq_some_iff.1 h).1
  rw [if_pos rfl,if_pos this,h]
 ·rw [if_neg hi]
theorem k2e {g:Grammar}(h0:Sz.szd g≤1048576)(hS:Shape g){r:Rule}(hr:r∈g.Rules){x:Relation}(hx:Valid x):∀ (m k:Nat) (c:Bool) (all:List Relation),k+m=r.Right.length+1→Inv g all →
  ∃ c' all',eachN (q8q g r x) k m (all,c)=some (all',c')∧q4i (q6k g r x) (all,c,(k:Int))=some (all',c')∧Inv g all'∧sumA all≤sumA all'∧(c'=true→c=true∨sumA all < sumA all') ∧
   (c'=false→c=false∧all'=all∧∀ pos:Nat,k≤pos→pos≤r.Right.length→uniR (q6M g all (q6G r (pos:Int))) (j7Q x (posL g r (pos:Int)))=q6M g all (q6G r (pos:Int)))
 | 0,k,c,all,hk,h=>by
  refine⟨c,all,rfl,q3E ?_,h,Nat.le_refl _,fun hc=>.inl hc,fun hc=>⟨hc,rfl,fun pos h1 h2=>by omega⟩⟩
  unfold q6k
  dsimp only
  rw [if_neg (by omega)]
 | m+1,k,c,all,hk,h=>by
  have hs:=Nat.le_trans (z1b hr) h0
  have h3:=j6o hS hr
  have hkn:k≤r.Right.length:=by omega
  obtain⟨j,h1,h2,h4,h5,h6⟩:=h.at_ (hS.known hr hkn)
  have hA:atI g (q6G r (k:Int))=(j:Int):=by unfold atI; rw [h1]
  have hp:=k7D hx (k5K hS r hkn)
  obtain⟨i1,i2,i3⟩:=h.setU h1 h2 h4 h5 (j7Q x (posL g r (k:Int)))
  have hlen:=h5.len
  generalize hnew:uniR (q6M g all (q6G r (k:Int))) (j7Q x (posL g r (k:Int)))=new at i1 i2 i3
  have e1:q8q g r x k (all,c)=some (all.set j new,c || !decide (new=q6M g all (q6G r (k:Int)))):=by
   unfold q8q
   dsimp only
   rw [j0k (q6c hs),Option.bind_some,j3q,Option.bind_some,hA,q3B (by omega),Int.toNat_natCast,h4,Option.bind_some,k5n (q9v h0) (q6c hs),Option.bind_some,j9u,hp.1,Option.bind_some,k5h (by omega),Option.bind_some,hnew]
   cases c with
   | true=>rfl
   | false=>rw [if_neg (by simp),k5l]; rfl
  have e2:q6k g r x (all,c,(k:Int))=some (.inl (all.set j new,c || !decide (new=q6M g all (q6G r (k:Int))),((k+1:Nat):Int))):=by
   unfold q6k
   dsimp only
   rw [if_pos (by omega),z7B (q6c hs),Option.bind_some,k3h,Option.bind_some,hA,q3B (by omega),Int.toNat_natCast,h4,Option.bind_some,k0J (q9v h0) (q6c hs),Option.bind_some,hp.1,Option.bind_some,k5f (by omega),Option.bind_some,hnew]
   cases c with
   | true=>rw [if_pos rfl,Option.bind_some,q3B (by constructor<;>omega)]; rfl
   | false=>rw [if_neg (by simp),j7B,Option.bind_some,Option.bind_some,q3B (by constructor<;>omega)]; rfl
  obtain⟨c',all',f1,f2,f3,f4,f5,f6⟩:=k2e h0 hS hr hx m (k+1) (c || !decide (new=q6M g all (q6G r (k:Int)))) (all.set j new) (by omega) i1
  refine⟨c',all',by rw [eachN,e1,Option.bind_some]; exact f1,by rw [q3L e2]; exact f2,f3,by omega,fun hc=>?_,fun hc=>?_⟩
  ·rcases f5 hc with q | q
   ·rw [Bool.or_eq_true] at q
    rcases q with q | q
    ·exact .inl q
    ·exact .inr (by have:=i3 (by simpa using q); omega)
   ·exact .inr (by omega)
  ·obtain⟨q1,q2,q3⟩:=f6 hc
   rw [Bool.or_eq_false_iff] at q1
   have hsame:new=q6M g all (q6G r (k:Int)):=by simpa using q1.2
   have hset:all.set j new=all:=by rw [hsame]; exact k5M h4
   rw [hset] at q2 q3
   refine⟨q1.1,q2,fun pos p1 p2=>?_⟩
   by_cases hpk:pos=k
   ·subst hpk; rw [hnew,hsame]
   ·exact q3 pos (by omega) p2
theorem j9w (own:Relation)(a:Nat)(x:Int):∀ (ys:List Int) (i:Nat) (o:Relation),o.Rows.length≤1048576→eachL (z7s own a x) i ys (o.Rows,o.N)=some ((q9F own a x i ys o).Rows,(q9F own a x i ys o).N)
 | [],i,o,_=>rfl
 | y :: ys,i,o,h=>by
  have e1:z7s own a x i y (o.Rows,o.N)=some ((if hasP own (a:Int) (i:Int) then addP o x y else o).Rows,(if hasP own (a:Int) (i:Int) then addP o x y else o).N):=by
   unfold z7s
   dsimp only
   rw [q8j,Option.bind_some]
   by_cases hp:hasP own (a:Int) (i:Int)
   ·rw [decide_eq_true hp,if_pos rfl,if_pos hp,k1C h]; rfl
   ·rw [decide_eq_false hp,if_neg (by simp),if_neg hp]; rfl
  have hl:(if hasP own (a:Int) (i:Int) then addP o x y else o).Rows.length≤1048576:=by
   split
   ·rw [(z9r o x y).1]; exact h
   ·exact h
  rw [eachL,e1,Option.bind_some,q9F]
  exact j9w own a x ys (i+1) _ hl
theorem j6t (own:Relation)(at' : List Int):∀ (xs:List Int) (a:Nat) (o:Relation),o.Rows.length≤1048576→eachL (z7t at' own) a xs (o.Rows,o.N)=some ((z1c own at' a xs o).Rows,(z1c own at' a xs o).N)
 | [],a,o,_=>rfl
 | x :: xs,a,o,h=>by
  have hl:(q9F own a x 0 at' o).Rows.length≤1048576:=by rw [(z9u own a x at' 0 o).1]; exact h
  have e1:z7t at' own a x (o.Rows,o.N)=some ((q9F own a x 0 at' o).Rows,(q9F own a x 0 at' o).N):=by
   unfold z7t; dsimp only; rw [j9w own a x at' 0 o h]; rfl
  rw [eachL,e1,Option.bind_some,z1c]
  exact j6t own at' xs (a+1) _ hl
theorem k5N {g:Grammar}(h0:Sz.szd g≤1048576)(hS:Shape g){r:Rule}(hr:r∈g.Rules){all:List Relation}(h:Inv g all):∀ (m k:Nat) (o:Relation),k+m=r.Right.length+1→o.Rows.length≤1048576 →
  eachN (q8p g all r) k m (o.Rows,o.N)=some ((indL g r (q6M g all) m k o).Rows,(indL g r (q6M g all) m k o).N)∧q4i (z2M g r all) ((k:Int),o.Rows,o.N)=some ((indL g r (q6M g all) m k o).Rows,(indL g r (q6M g all) m k o).N)
 | 0,k,o,hk,_=>by
  refine⟨rfl,q3E ?_⟩
  unfold z2M
  dsimp only
  rw [if_neg (by omega)]; rfl
 | m+1,k,o,hk,ho=>by
  have hs:=Nat.le_trans (z1b hr) h0
  have h3:=j6o hS hr
  have hkn:k≤r.Right.length:=by omega
  obtain⟨j,h1,h2,h4,h5,h6⟩:=h.at_ (hS.known hr hkn)
  have hA:atI g (q6G r (k:Int))=(j:Int):=by unfold atI; rw [h1]
  have hlen:=j1Y g r o (k:Int) (q6M g all (q6G r (k:Int)))
  obtain⟨f1,f2⟩:=k5N h0 hS hr h m (k+1) (z2o g r o (k:Int) (q6M g all (q6G r (k:Int)))) (by omega) (by rw [hlen]; exact ho)
  have e1:q8p g all r k (o.Rows,o.N)=some ((z2o g r o (k:Int) (q6M g all (q6G r (k:Int)))).Rows,(z2o g r o (k:Int) (q6M g all (q6G r (k:Int)))).N):=by
   unfold q8p
   dsimp only
   rw [j0k (q6c hs),Option.bind_some,j3q,Option.bind_some,hA,q3B (by omega),Int.toNat_natCast,h4,Option.bind_some,j9o (q9v h0) (q6c hs) (o:=⟨o.N,o.Rows⟩) ho,Option.bind_some]
  have e2:z2M g r all ((k:Int),o.Rows,o.N)=some (.inl (((k+1:Nat):Int),(z2o g r o (k:Int) (q6M g all (q6G r (k:Int)))).Rows,(z2o g r o (k:Int) (q6M g all (q6G r (k:Int)))).N)):=by
   unfold z2M z0J
   dsimp only
   rw [if_pos (by omega),k0J (q9v h0) (q6c hs),Option.bind_some,z7B (q6c hs),Option.bind_some,k3h,Option.bind_some,hA,if_neg (by omega),Option.bind_some,q3B (by omega),Int.toNat_natCast,h4,Option.bind_some,j6t (q6M g all (q6G r (k:Int))) _ _ 0 o ho,Option.bind_some]
   dsimp only
   rw [q3B (by constructor<;>omega)]
   rfl
  rw [eachN,e1,Option.bind_some,q3L e2,indL]
  exact⟨f1,f2⟩
theorem j5j {g:Grammar}(h0:Sz.szd g≤1048576)(hS:Shape g):∀ (rs:List Rule) (i:Nat) (c:Bool) (all:List Relation),(∀ r∈rs,r∈g.Rules)→Inv g all →
  (findL (q5D g) i rs (all,c)=some (.inr ([],false))∧findL (q6l g) i rs (all,c)=some (.inr ([],false))) ∨
  ∃ c' all',findL (q5D g) i rs (all,c)=some (.inl (all',c'))∧findL (q6l g) i rs (all,c)=some (.inl (all',c'))∧Inv g all'∧sumA all≤sumA all'∧(c'=true→c=true∨sumA all < sumA all')∧(c'=false→c=false∧all'=all∧∀ r∈rs,k5L g all r)
 | [],i,c,all,_,h=>.inr ⟨c,all,rfl,rfl,h,Nat.le_refl _,fun hc=>.inl hc,fun hc=>⟨hc,rfl,fun r hr=>by cases hr⟩⟩
 | r :: rs,i,c,all,hrs,h=>by
  have hr:=hrs r (by simp)
  have hs:=Nat.le_trans (z1b hr) h0
  have h3:=j6o hS hr
  obtain⟨l1,l2,l3⟩:=k5q h0 hs
  obtain⟨p1,p2⟩:=k5N h0 hS hr h (r.Right.length+1) 0 (locR g r) (by omega) (by omega)
  obtain⟨v1,v2,v3⟩:=k5J h0 hS hr (q6M g all)
  have hl:(indL g r (q6M g all) (r.Right.length+1) 0 (locR g r)).Rows.length≤1048576:=by rw [(k5I g r _ _ 0 _).2]; omega
  have hcl:q6a (⟨(indL g r (q6M g all) (r.Right.length+1) 0 (locR g r)).N,(indL g r (q6M g all) (r.Right.length+1) 0 (locR g r)).Rows⟩:Relation)=indR g r (q6M g all):=rfl
  have hxl:=v2.len
  have es:z6I g r all=some (indR g r (q6M g all)):=by
   unfold z6I
   rw [l1,Option.bind_some,show q4i (z2M g r all) (0,(locR g r).Rows,(locR g r).N)=_ from p2,Option.bind_some]
   dsimp only
   rw [j1g (r:=⟨(indL g r (q6M g all) (r.Right.length+1) 0 (locR g r)).N,(indL g r (q6M g all) (r.Right.length+1) 0 (locR g r)).Rows⟩) hl,Option.bind_some,hcl]
  cases hlp:k3m (indR g r (q6M g all)) with
  | true=>
   left
   constructor
   ·rw [findL]
    unfold q5D
    dsimp only
    rw [l2,Option.bind_some,q3B (by constructor<;>omega),p1,Option.bind_some]
    dsimp only
    rw [j1h (r:=⟨(indL g r (q6M g all) (r.Right.length+1) 0 (locR g r)).N,(indL g r (q6M g all) (r.Right.length+1) 0 (locR g r)).Rows⟩) hl,Option.bind_some,hcl,j7C (by omega),hlp,Option.bind_some]
    rfl
   ·rw [findL]
    unfold q6l
    dsimp only
    rw [es,Option.bind_some,j7D (by omega),hlp,Option.bind_some]
    rfl
  | false=>
   obtain⟨c1,a1,e1,e2,e3,e4,e5,e6⟩:=k2e h0 hS hr v2 (r.Right.length+1) 0 c all (by omega) h
   have g1:q5D g i r (all,c)=some (.inl (a1,c1)):=by
    unfold q5D
    dsimp only
    rw [l2,Option.bind_some,q3B (by constructor<;>omega),p1,Option.bind_some]
    dsimp only
    rw [j1h (r:=⟨(indL g r (q6M g all) (r.Right.length+1) 0 (locR g r)).N,(indL g r (q6M g all) (r.Right.length+1) 0 (locR g r)).Rows⟩) hl,Option.bind_some,hcl,j7C (by omega),hlp,Option.bind_some,if_neg (by simp),q3B (by constructor<;>omega),e1]
    rfl
   have g2:q6l g i r (all,c)=some (.inl (a1,c1)):=by
    unfold q6l
    dsimp only
    rw [es,Option.bind_some,j7D (by omega),hlp,Option.bind_some,if_neg (by simp),show q4i (q6k g r (indR g r (q6M g all))) (all,c,0)=_ from e2]
    rfl
   rcases j5j h0 hS rs (i+1) c1 a1 (fun x hx=>hrs x (by simp [hx])) e3 with ⟨f1,f2⟩ | ⟨c2,a2,f1,f2,f3,f4,f5,f6⟩
   ·left
    exact⟨by rw [findL,g1,Option.bind_some]; exact f1,by rw [findL,g2,Option.bind_some]; exact f2⟩
   ·right
    refine⟨c2,a2,by rw [findL,g1,Option.bind_some]; exact f1,by rw [findL,g2,Option.bind_some]; exact f2,f3,by omega,fun hc=>?_,fun hc=>?_⟩
    ·rcases f5 hc with q | q
     ·rcases e5 q with q2 | q2
      ·exact .inl q2
      ·exact .inr (by omega)
     ·exact .inr (by omega)
    ·obtain⟨q1,q2,q3⟩:=f6 hc
     obtain⟨w1,w2,w3⟩:=e6 q1
     subst w2
     refine⟨w1,q2,fun y hy=>?_⟩
     rcases List.mem_cons.1 hy with rfl | hy
     ·exact⟨hlp,fun pos hp=>w3 pos (Nat.zero_le _) hp⟩
     ·exact q3 y hy
theorem k7I {g:Grammar}(h0:Sz.szd g≤1048576)(hS:Shape g):∀ (d:Nat) (all:List Relation),Inv g all→g.Symbols.length*(16*65535) - sumA all≤d →
  (q4i (q3G g) (all,true)=some (.inr ([],false))∧q4i (q4W g) all=some ([],false)) ∨
  ∃ q,q4i (q3G g) (all,true)=some (.inl q)∧q4i (q4W g) all=some (q,true)∧Inv g q∧∀ r∈g.Rules,k5L g q r:=by
 intro d
 induction d with
 | zero=>
  intro all h hd
  rcases j5j h0 hS g.Rules 0 false all (fun _ h=>h) h with ⟨f1,f2⟩ | ⟨c,a,f1,f2,f3,f4,f5,f6⟩
  ·left
   exact⟨q3E (by unfold q3G; dsimp only; rw [if_pos rfl,f1]; rfl),q3E (by unfold q4W; rw [f2]; rfl)⟩
  ·right
   have hb:=f3.bound
   rw [f3.1] at hb
   have hc:c=false:=by
    cases c with
    | false=>rfl
    | true=>
     rcases f5 rfl with h | h
     ·cases h
     ·omega
   subst hc
   obtain⟨_,q2,q3⟩:=f6 rfl
   subst q2
   refine⟨a,?_,?_,f3,q3⟩
   ·have s1:q3G g (a,true)=some (.inl (a,false)):=by unfold q3G; dsimp only; rw [if_pos rfl,f1]; rfl
    have s2:q3G g (a,false)=some (.inr (.inl a)):=by unfold q3G; dsimp only; rw [if_neg (by simp)]
    rw [q3L s1,q3E s2]
   ·exact q3E (by unfold q4W; rw [f2]; rfl)
 | succ d ih=>
  intro all h hd
  rcases j5j h0 hS g.Rules 0 false all (fun _ h=>h) h with ⟨f1,f2⟩ | ⟨c,a,f1,f2,f3,f4,f5,f6⟩
  ·left
   exact⟨q3E (by unfold q3G; dsimp only; rw [if_pos rfl,f1]; rfl),q3E (by unfold q4W; rw [f2]; rfl)⟩
  ·cases c with
   | false=>
    right
    obtain⟨_,q2,q3⟩:=f6 rfl
    subst q2
    refine⟨a,?_,?_,f3,q3⟩
    ·have s1:q3G g (a,true)=some (.inl (a,false)):=by unfold q3G; dsimp only; rw [if_pos rfl,f1]; rfl
     have s2:q3G g (a,false)=some (.inr (.inl a)):=by unfold q3G; dsimp only; rw [if_neg (by simp)]
     rw [q3L s1,q3E s2]
    ·exact q3E (by unfold q4W; rw [f2]; rfl)
   | true=>
    have hlt:sumA all < sumA a:=by
     rcases f5 rfl with h | h
     ·cases h
     ·exact h
    have hb:=f3.bound
    rw [f3.1] at hb
    have s1:q3G g (all,true)=some (.inl (a,true)):=by unfold q3G; dsimp only; rw [if_pos rfl,f1]; rfl
    have s2:q4W g all=some (.inl a):=by unfold q4W; rw [f2]; rfl
    rw [q3L s1,q3L s2]
    exact ih a f3 (by omega)
theorem j6u {g:Grammar}(h0:Sz.szd g≤1048576)(hS:Shape g):eachL (z0t g) 0 g.Symbols []=some (z9b g):=by
 have hl:=hS.syms
 unfold z9b
 rw [j1o (g:=fun y:Symbol=>(⟨((q6T g y.Name).length:Int),List.replicate (q6T g y.Name).length 0⟩:Relation)) (B:=1048576) g.Symbols 0 [] (fun k y s hy hs=>by
  unfold z0t
  have:=hS.plain y.Name
  rw [j1m (q9v h0),Option.bind_some,j1e (by omega) (by omega),Option.bind_some,q3B (by constructor<;>omega),Int.toNat_natCast]) (by simp; omega)]
 simp
theorem j2z {g:Grammar}(h0:Sz.szd g≤1048576):∃ q b,q5U g=some (q,b)∧q6F g=some (q,b)∧(b=false→q=[])∧(b=true→z5q g=true∧Inv g q∧∀ r∈g.Rules,k5L g q r):=by
 unfold q5U q6F
 rw [k7G h0,k7H h0]
 cases hst:k3r g with
 | false=>exact⟨[],false,rfl,rfl,fun _=>rfl,fun h=>by cases h⟩
 | true=>
  have hg:z5q g=true:=by
   unfold k3r at hst
   simp only [Bool.and_eq_true] at hst
   exact hst.1
  have hS:=z4u hg
  rcases k7I h0 hS _ (z9b g) (j9q hS) (Nat.le_refl _) with ⟨f1,f2⟩ | ⟨q,f1,f2,f3,f4⟩
  ·refine⟨[],false,?_,?_,fun _=>rfl,fun h=>by cases h⟩
   ·rw [Option.bind_some,if_pos rfl,j0n h0 hS,Option.bind_some,f1]; rfl
   ·rw [Option.bind_some,if_pos rfl,j6u h0 hS,Option.bind_some,f2]; rfl
  ·refine⟨q,true,?_,?_,fun h=>(by cases h),fun _=>⟨hg,f3,f4⟩⟩
   ·rw [Option.bind_some,if_pos rfl,j0n h0 hS,Option.bind_some,f1]; rfl
   ·rw [Option.bind_some,if_pos rfl,j6u h0 hS,Option.bind_some,f2]; rfl
end Go.Proofs.YtcegfmageiicaaaGreat
set_option maxRecDepth 100000
set_option maxHeartbeats 4000000
namespace Go.Proofs.YtcegfmageiicaaaGreat
open Go Go.E
theorem j5N {α:Type}{R:Int→α→Int→Prop}(hR:∀ k x m,R k x m→k≤m):∀ (xs:List α) (k k' : Int),RL R k xs k'→k≤k'
 | [],k,k',h=>by rw [show k=k' from h]; exact Int.le_refl _
 | x :: xs,k,k',⟨m,h1,h2⟩=>Int.le_trans (hR _ _ _ h1) (j5N hR xs m k' h2)
theorem j2c {α:Type}{R:Int→α→Int→Prop}{L:Nat→α→Int→Option (Int ⊕ Int)}(hR:∀ k x m,R k x m→k≤m)(hL:∀ (i:Nat) (x:α) (k m:Int),R k x m→0≤k→m≤10000000000→L i x k=some (.inl m)):∀ (xs:List α) (k k' : Int) (i:Nat),RL R k xs k'→0≤k→k'≤10000000000→findL L i xs k=some (.inl k')
 | [],k,k',i,h,_,_=>by rw [show k=k' from h]; rfl
 | x :: xs,k,k',i,⟨m,h1,h2⟩,h3,h4=>by
  have h5:=j5N hR xs m k' h2
  have h6:=hR _ _ _ h1
  show (L i x k).bind _=_
  rw [hL i x k m h1 h3 (by omega),Option.bind_some]
  exact j2c hR hL xs m k' (i+1) h2 (by omega) h4
theorem k5O (k:Int)(x:ByteArray)(m:Int)(h:RS k x m):k≤m:=by have:=h.2; omega
theorem k5P {xs:List ByteArray}{k k' : Int}(h:RL RS k xs k')(h0:0≤k)(h1:k'≤10000000000):q6e xs k=some k':=by
 unfold q6e
 rw [j2c k5O (fun i x k m h h0 h1=>by
  unfold q8A
  obtain⟨h2,h3⟩:=h
  rw [h2,Option.bind_some,if_pos rfl,q3B (by constructor<;>omega),h3]) xs k k' 0 h h0 h1]; rfl
def RI (k:Int)(n:Int)(m:Int):Prop:=n=k∧m=k+1
theorem k9w (k:Int)(x:Int)(m:Int)(h:RI k x m):k≤m:=by have:=h.2; omega
theorem k9x (xs:List Int){k:Int}(h0:0≤k)(h1:k+xs.length≤10000000000)(h2:xs.length≤1000000000):∃ k' ys,z7r xs k=some (k',ys)∧k≤k'∧k'≤k+xs.length∧RL RI k ys k'∧ys.length=xs.length:=by
 have hs:=j7O xs
 obtain⟨k',ys,e1,e2,e3,e4⟩:=j6s (R:=RI) (c:=fun _=>1) (P:=fun _=>True) (L:=z5J) (fun k i a x _ hx h0 h1 hi=>by
  have hl:=(List.getElem?_eq_some_iff.1 hx).1
  refine⟨k+1,k,?_,by omega,by omega,rfl,rfl⟩
  unfold z5J
  dsimp only
  rw [if_pos (by omega),q3B (by omega),Int.toNat_natCast,hx,Option.bind_some,q3B (by constructor<;>omega),q3B (by constructor<;>omega)]
  rfl) (fun k i a h=>by unfold z5J; dsimp only; exact if_neg h) xs (fun _ _=>trivial) h0 (by rw [hs]; exact h1) h2
 rw [hs] at e3
 exact⟨k',ys,e1,e2,e3,e4⟩
theorem k9y {xs:List Int}{k k' : Int}(h:RL RI k xs k')(h0:0≤k)(h1:k'≤10000000000):z4V xs k=some k':=by
 unfold z4V
 rw [j2c k9w (fun i x k m h h0 h1=>by
  unfold j2q
  obtain⟨h2,h3⟩:=h
  rw [if_pos h2,q3B (by constructor<;>omega),h3]) xs k k' 0 h h0 h1]; rfl
def RR (k:Int)(x:Relation)(m:Int):Prop:=x.N=k∧RL RI (k+1) x.Rows m
theorem x0F (k:Int)(x:Relation)(m:Int)(h:RR k x m):k≤m:=by have:=j5N k9w _ _ _ h.2; omega
theorem k5Q (xs:List Relation){k:Int}(hP:∀ x∈xs,x.Rows.length≤16)(h0:0≤k)(h1:k+17*xs.length≤10000000000)(h2:xs.length≤1000000):∃ k' ys,q9c xs k=some (k',ys)∧k≤k'∧k'≤k+17*xs.length∧RL RR k ys k':=by
 have hs:=j7N (c:=fun x:Relation=>1+x.Rows.length) (b:=17) (xs:=xs) fun x hx=>by have:=hP x hx; omega
 obtain⟨k',ys,e1,e2,e3,e4,_⟩:=j6s (R:=RR) (c:=fun x:Relation=>1+x.Rows.length) (P:=fun x=>x.Rows.length≤16) (L:=z0k) (fun k i a x hp hx h0 h1 hi=>by
  have hl:=(List.getElem?_eq_some_iff.1 hx).1
  obtain⟨k1,z,e1,e2,e3,e4,_⟩:=k9x x.Rows (k:=k+1) (by omega) (by omega) (by omega)
  refine⟨k1,⟨k,z⟩,?_,by omega,by omega,rfl,e4⟩
  unfold z0k
  dsimp only
  rw [if_pos (by omega),q3B (by omega),Int.toNat_natCast,hx,Option.bind_some,q3B (by constructor<;>omega),e1,Option.bind_some]
  dsimp only
  rw [q3B (by constructor<;>omega)]
  rfl) (fun k i a h=>by unfold z0k; dsimp only; exact if_neg h) xs hP h0 (by omega) (by omega)
 exact⟨k',ys,e1,e2,by omega,e4⟩
theorem k5R {xs:List Relation}{k k' : Int}(h:RL RR k xs k')(h0:0≤k)(h1:k'≤10000000000):q6p xs k=some k':=by
 unfold q6p
 rw [j2c x0F (fun i x k m h h0 h1=>by
  unfold z6H
  obtain⟨h2,h3⟩:=h
  have h4:=j5N k9w _ _ _ h3
  rw [if_pos h2,q3B (by constructor<;>omega),k9y h3 (by omega) h1,Option.bind_some,if_neg (by omega)]) xs k k' 0 h h0 h1]; rfl
theorem k7J (xs:List Int):j0X xs xs=some true:=z5h (f:=j1K xs) fun k x h=>by unfold j1K; rw [h,Option.bind_some,if_pos rfl]
theorem k9z (x:Relation):z0j x x=some true:=by simp [z0j,k7J]
theorem k2f (xs:List Relation):q6K xs xs=some true:=z5h (f:=z8O xs) (j1r (g:=z0j) fun x _=>k9z x)
theorem k2g {g:Grammar}{q:List Relation}(h:Inv g q):∀ x∈q,x.Rows.length≤16:=fun x hx=>by
 obtain⟨k,hk⟩:=List.getElem?_of_mem hx
 have hl:=(List.getElem?_eq_some_iff.1 hk).1
 have h1:k < g.Symbols.length:=by rw [← h.1]; exact hl
 have hv:=(h.2 k _ x (List.getElem?_eq_getElem h1) hk).1
 exact hv.len
theorem k5S {g:Grammar}(h:A.boCs (Grammar.l g)):q6S g=some true:=by
 unfold q6S
 rw [j3s h 1048576 (by omega) (by omega),Option.bind_some]
 by_cases h1:(Sz.szd g:Int)≤1048576
 ·have h2:Sz.szd g≤1048576:=by omega
  obtain⟨q,b,e1,e2,hb,hi,hn⟩:=j6p h2
  obtain⟨k',z1,z2,e3,e4⟩:=j7P h2
  have hq:(∀ x∈q,x.Rows.length≤16)∧q.length≤1000000:=by
   cases hg:z5q g with
   | true=>have hI:=hi hg; exact⟨k2g hI,by rw [hI.1]; have:=(z4u hg).syms; omega⟩
   | false=>rw [hn hg]; exact⟨fun x hx=>(nomatch hx),by simp⟩
  obtain⟨k2,z3,f1,f2,f3,f4⟩:=k5Q q (k:=1) hq.1 (by omega) (by omega) hq.2
  have f6:=k5R f4 (by omega) (by omega)
  rw [if_pos h1,if_neg (by omega)]
  simp only [j3t h2,e1,e2,k2f,j3u,e3,f1,f6,Option.bind_some,reduceIte,if_neg (show ¬ k' < 0 by omega),if_neg (show ¬ k2 < 0 by omega),decide_true,Bool.not_true,Bool.false_eq_true]
 ·rw [if_neg h1,if_pos (by omega)]
theorem k0S {g:Grammar}(h:A.boCs (Grammar.l g)):q6s g=some true:=by
 unfold q6s
 rw [j3s h 1048576 (by omega) (by omega),Option.bind_some]
 by_cases h1:(Sz.szd g:Int)≤1048576
 ·have h2:Sz.szd g≤1048576:=by omega
  obtain⟨q,b,e1,e2,hn,hi⟩:=j2z h2
  obtain⟨k',z1,z2,e3,e4⟩:=j7P h2
  have hq:(∀ x∈q,x.Rows.length≤16)∧q.length≤1000000:=by
   cases b with
   | true=>obtain⟨hg,hI,_⟩:=hi rfl; exact⟨k2g hI,by rw [hI.1]; have:=(z4u hg).syms; omega⟩
   | false=>rw [hn rfl]; exact⟨fun x hx=>(nomatch hx),by simp⟩
  obtain⟨k2,z3,f1,f2,f3,f4⟩:=k5Q q (k:=1) hq.1 (by omega) (by omega) hq.2
  have f6:=k5R f4 (by omega) (by omega)
  rw [if_pos h1,if_neg (by omega)]
  simp only [j3t h2,e1,e2,k2f,j3u,e3,f1,f6,Option.bind_some,reduceIte,if_neg (show ¬ k' < 0 by omega),if_neg (show ¬ k2 < 0 by omega),decide_true,Bool.not_true,Bool.false_eq_true]
 ·rw [if_neg h1,if_pos (by omega)]
end Go.Proofs.YtcegfmageiicaaaGreat
set_option maxRecDepth 100000
set_option maxHeartbeats 4000000
namespace Go.Proofs.YtcegfmageiicaaaGreat
open Go Go.E
def RP (k:Int)(x:Phase)(m:Int):Prop:=∃ m1,RL RS k x.Inherited m1∧RL RS m1 x.Synthesized m
theorem k9A (k:Int)(x:Phase)(m:Int)(h:RP k x m):k≤m:=by
 obtain⟨m1,h1,h2⟩:=h
 have:=j5N k5O _ _ _ h1; have:=j5N k5O _ _ _ h2; omega
def PB (x:Phase):Prop:=x.Inherited.length≤16∧x.Synthesized.length≤16
theorem x0m (xs:List Phase){k:Int}(hP:∀ x∈xs,PB x)(h0:0≤k)(h1:k+32*xs.length≤10000000000)(h2:xs.length≤1000000):∃ k' ys,z4f xs k=some (k',ys)∧k≤k'∧k'≤k+32*xs.length∧RL RP k ys k':=by
 have hs:=j7N (c:=fun x:Phase=>x.Inherited.length+x.Synthesized.length) (b:=32) (xs:=xs) fun x hx=>by have:=hP x hx; unfold PB at this; omega
 obtain⟨k',ys,e1,e2,e3,e4,_⟩:=j6s (R:=RP) (c:=fun x:Phase=>x.Inherited.length+x.Synthesized.length) (P:=PB) (L:=z3l) (fun k i a x hp hx h0 h1 hi=>by
  have hl:=(List.getElem?_eq_some_iff.1 hx).1
  obtain⟨hp1,hp2⟩:=hp
  obtain⟨k1,z,e1,e2,e3,e4,_⟩:=k2a x.Inherited (k:=k) (by omega) (by omega) (by omega)
  obtain⟨k2,z2,f1,f2,f3,f4,_⟩:=k2a x.Synthesized (k:=k1) (by omega) (by omega) (by omega)
  refine⟨k2,⟨z,z2⟩,?_,by omega,by omega,k1,e4,f4⟩
  unfold z3l
  dsimp only
  rw [if_pos (by omega),q3B (by omega),Int.toNat_natCast,hx,Option.bind_some,e1,Option.bind_some]
  dsimp only
  rw [f1,Option.bind_some]
  dsimp only
  rw [q3B (by constructor<;>omega)]
  rfl) (fun k i a h=>by unfold z3l; dsimp only; exact if_neg h) xs hP h0 (by omega) (by omega)
 exact⟨k',ys,e1,e2,by omega,e4⟩
theorem x0n {xs:List Phase}{k k' : Int}(h:RL RP k xs k')(h0:0≤k)(h1:k'≤10000000000):z2e xs k=some k':=by
 unfold z2e
 rw [j2c k9A (fun i x k m h h0 h1=>by
  unfold z9E
  obtain⟨m1,h2,h3⟩:=h
  have h4:=j5N k5O _ _ _ h2
  have h5:=j5N k5O _ _ _ h3
  rw [k5P h2 h0 (by omega),Option.bind_some,if_neg (by omega),k5P h3 (by omega) h1,Option.bind_some,if_neg (by omega)]) xs k k' 0 h h0 h1]; rfl
def PS (x:List Phase):Prop:=x.length≤17∧∀ y∈x,PB y
theorem k9B (xs:List (List Phase)){k:Int}(hP:∀ x∈xs,PS x)(h0:0≤k)(h1:k+1000*xs.length≤10000000000)(h2:xs.length≤1000000):∃ k' ys,z3m xs k=some (k',ys)∧k≤k'∧k'≤k+1000*xs.length∧RL (RL RP) k ys k':=by
 have hs:=j7N (c:=fun x:List Phase=>32*x.length) (b:=1000) (xs:=xs) fun x hx=>by have:=(hP x hx).1; omega
 obtain⟨k',ys,e1,e2,e3,e4,_⟩:=j6s (R:=RL RP) (c:=fun x:List Phase=>32*x.length) (P:=PS) (L:=z2d) (fun k i a x hp hx h0 h1 hi=>by
  have hl:=(List.getElem?_eq_some_iff.1 hx).1
  obtain⟨hp1,hp2⟩:=hp
  obtain⟨k1,z,e1,e2,e3,e4⟩:=x0m x (k:=k) hp2 (by omega) (by omega) (by omega)
  refine⟨k1,z,?_,by omega,by omega,e4⟩
  unfold z2d
  dsimp only
  rw [if_pos (by omega),q3B (by omega),Int.toNat_natCast,hx,Option.bind_some,e1,Option.bind_some]
  dsimp only
  rw [q3B (by constructor<;>omega)]
  rfl) (fun k i a h=>by unfold z2d; dsimp only; exact if_neg h) xs hP h0 (by omega) (by omega)
 exact⟨k',ys,e1,e2,by omega,e4⟩
theorem k9C {xs:List (List Phase)}{k k' : Int}(h:RL (RL RP) k xs k')(h0:0≤k)(h1:k'≤10000000000):q9o xs k=some k':=by
 unfold q9o
 rw [j2c (fun k x m=>j5N k9A x k m) (fun i x k m h h0 h1=>by
  unfold z8R
  have h4:=j5N k9A _ _ _ h
  rw [x0n h h0 h1,Option.bind_some,if_neg (by omega)]) xs k k' 0 h h0 h1]; rfl
theorem x0o (x:Phase):z4s x x=some true:=by simp [z4s,j7L]
theorem k9D (xs:List Phase):z5d xs xs=some true:=z5h (f:=j2u xs) (j1r (g:=z4s) fun x _=>x0o x)
theorem k7K (xs:List (List Phase)):z1j xs xs=some true:=z5h (f:=j1a xs) (j1r (g:=z5d) fun x _=>k9D x)
theorem j7R {a:List Attribute}{r:Relation}{m:Int}:∀ (f:Nat) (d:List Bool),(q7n a r m f d).1.length≤f
 | 0,d=>by simp [q7n]
 | f+1,d=>by
  rw [q7n]
  split
  ·simp
  ·rename_i k _
   simp only [List.length_cons]; have:=j7R (a:=a) (r:=r) (m:=m) f (d.set k true); omega
theorem k5T {a:List Attribute}{r:Relation}(ha:a.length≤16):∀ (f:Nat) (out:List (List Nat × List Nat)) (d:List Bool) (l:List (List Nat × List Nat)),runP a r f out d=some l→(∀ p∈out,p.1.length≤16∧p.2.length≤16)→l.length≤out.length+f∧∀ p∈l,p.1.length≤16∧p.2.length≤16
 | 0,out,d,l,h,ho=>by rw [runP] at h; cases h; exact⟨by omega,ho⟩
 | f+1,out,d,l,h,ho=>by
  rw [runP] at h
  split at h
  ·split at h
   ·cases h
   ·have h1:=k5T ha f _ _ l h fun p hp=>by
     rcases List.mem_append.1 hp with hp | hp
     ·exact ho p hp
     ·rw [List.mem_singleton] at hp
      subst hp
      exact⟨Nat.le_trans (j7R _ _) ha,Nat.le_trans (j7R _ _) ha⟩
    exact⟨by have:=h1.1; simp only [List.length_append,List.length_singleton] at this; omega,h1.2⟩
  ·cases h; exact⟨by omega,ho⟩
theorem x0p {a:List Attribute}{r:Relation}(ha:a.length≤16):PS (phO a r).1:=by
 unfold phO
 cases hp:phR a r with
 | none=>exact⟨Nat.zero_le _,fun y hy=>nomatch hy⟩
 | some l=>
  have h:=hp
  unfold phR at h
  split at h
  ·obtain⟨h1,h2⟩:=k5T ha _ _ _ _ h (fun p hp=>nomatch hp)
   refine⟨by simp only [List.length_map]; simp only [List.length_nil] at h1; omega,fun y hy=>?_⟩
   obtain⟨p,hp,rfl⟩:=List.mem_map.1 hy
   obtain⟨h3,h4⟩:=h2 p hp
   exact⟨by simpa [toPh] using h3,by simpa [toPh] using h4⟩
  ·cases h
theorem k3s {g:Grammar}(h0:Sz.szd g≤1048576):∃ ps c,q8D g=some (ps,c)∧q9V g=some (ps,c)∧ps.length≤4∧(∀ p∈ps,PS p):=by
 obtain⟨q,b,e1,e2,hn,hi⟩:=j2z h0
 unfold q8D q9V
 rw [e1,e2,Option.bind_some,Option.bind_some]
 dsimp only
 cases b with
 | false=>
  refine⟨[],false,rfl,?_,by simp,fun p hp=>(nomatch hp)⟩
  rw [q3E (r:=(.inl [])) (by
   unfold q7c
   dsimp only
   split
   ·rfl
   ·rfl)]
  rfl
 | true=>
  obtain⟨hg,hI,_⟩:=hi rfl
  have hS:=z4u hg
  have hl:=hS.syms
  rw [if_pos rfl]
  have key:∀ (xs:List Symbol) (i:Nat) (s:List (List Phase)),g.Symbols.drop i=xs→s.length=i→i≤g.Symbols.length→(∀ p∈s,PS p)→(∃ s',findL (q9e g q) i xs s=some (.inl s')∧q4i (q7c g q true) (s,(i:Int))=some (.inl s')∧s'.length=g.Symbols.length∧∀ p∈s',PS p)∨(findL (q9e g q) i xs s=some (.inr ([],false))∧q4i (q7c g q true) (s,(i:Int))=some (.inr ([],false))):=by
   intro xs
   induction xs with
   | nil=>
    intro i s hx hs hi hp
    left
    have:g.Symbols.length - i=0:=by rw [← List.length_drop,hx]; rfl
    exact⟨s,rfl,q3E (by unfold q7c; dsimp only; exact if_neg (by omega)),by omega,hp⟩
   | cons x xs ih=>
    intro i s hx hs hi hps
    have hlt:i < g.Symbols.length:=by
     have:g.Symbols.length - i=xs.length+1:=by rw [← List.length_drop,hx]; rfl
     omega
    have hd:=List.drop_eq_getElem_cons hlt
    rw [hx] at hd
    injection hd with d1 d2
    have hgi:g.Symbols[i]? = some x:=by rw [d1]; exact List.getElem?_eq_getElem hlt
    have hIl:q.length=g.Symbols.length:=hI.1
    obtain⟨y,hq⟩:∃ y,q[i]? = some y:=⟨_,List.getElem?_eq_getElem (by omega)⟩
    obtain⟨v1,v2⟩:=hI.2 i x _ hgi hq
    have h4:=hS.plain x.Name
    have hv:=v1.len
    obtain⟨hp,hp'⟩:=(k0N (a:=q6T g x.Name) (r:=y) (by omega) (by omega))
    have hb2:=x0p (a:=q6T g x.Name) (r:=y) (by omega)
    have hsl:s.length≤4:=by omega
    have e:q9e g q i x s=if (phO (q6T g x.Name) y).2=true then some (.inl (s++[(phO (q6T g x.Name) y).1])) else some (.inr ([],false)):=by
     unfold q9e
     rw [j1n (q9v h0),Option.bind_some,hq,Option.bind_some,hp,Option.bind_some]
     generalize phO (q6T g x.Name) y=z
     obtain⟨ps,c⟩:=z
     cases c with
     | false=>exact (if_neg Bool.false_ne_true).trans (if_neg Bool.false_ne_true).symm
     | true=>exact (if_pos rfl).trans ((q3B (by constructor<;>omega)).trans (if_pos rfl).symm)
    have e' : q7c g q true (s,(i:Int))=if (phO (q6T g x.Name) y).2=true then some (.inl (s++[(phO (q6T g x.Name) y).1],((i+1:Nat):Int))) else some (.inr (.inr ([],false))):=by
     unfold q7c
     dsimp only
     rw [if_pos (by omega),if_pos rfl,q3B (by omega),Int.toNat_natCast,hgi,Option.bind_some,j1m (q9v h0),Option.bind_some,q3B (by omega),hq,Option.bind_some,hp',Option.bind_some]
     generalize phO (q6T g x.Name) y=z
     obtain⟨ps,c⟩:=z
     cases c with
     | false=>exact (if_neg Bool.false_ne_true).trans (if_neg Bool.false_ne_true).symm
     | true=>exact (if_pos rfl).trans ((q3B (by constructor<;>omega)).trans ((q3B (by constructor<;>omega)).trans (if_pos rfl).symm))
    rw [findL,e]
    by_cases hb:(phO (q6T g x.Name) y).2=true
    ·rw [if_pos hb] at e' ⊢
     rw [Option.bind_some,q3L e']
     exact ih (i+1) _ d2.symm (by simp [hs]) (by omega) fun p hp=>by
      rcases List.mem_append.1 hp with hp | hp
      ·exact hps p hp
      ·rw [List.mem_singleton] at hp; subst hp; exact hb2
    ·rw [if_neg hb] at e' ⊢
     exact .inr ⟨rfl,q3E e'⟩
  rcases key g.Symbols 0 [] rfl rfl (Nat.zero_le _) (fun p hp=>nomatch hp) with ⟨s',e,e',h1,h2⟩ | ⟨e,e'⟩
  ·rw [show ((0:Nat):Int)=0 from rfl] at e'
   rw [e,e']; exact⟨s',true,rfl,rfl,by omega,h2⟩
  ·rw [show ((0:Nat):Int)=0 from rfl] at e'
   rw [e,e']; exact⟨[],false,rfl,rfl,by simp,fun p hp=>(nomatch hp)⟩
theorem k3t {g:Grammar}(h:A.boCs (Grammar.l g)):q7O g=some true:=by
 unfold q7O
 rw [j3s h 1048576 (by omega) (by omega),Option.bind_some]
 by_cases h1:(Sz.szd g:Int)≤1048576
 ·have h2:Sz.szd g≤1048576:=by omega
  obtain⟨q,b,e1,e2,hl,hi⟩:=k3s h2
  obtain⟨k',z1,z2,e3,e4⟩:=j7P h2
  obtain⟨k2,z3,f1,f2,f3,f4⟩:=k9B q (k:=1) hi (by omega) (by omega) (by omega)
  have f6:=k9C f4 (by omega) (by omega)
  rw [if_pos h1,if_neg (by omega)]
  simp only [j3t h2,e1,e2,k7K,j3u,e3,f1,f6,Option.bind_some,reduceIte,if_neg (show ¬ k' < 0 by omega),if_neg (show ¬ k2 < 0 by omega),decide_true,Bool.not_true,Bool.false_eq_true]
 ·rw [if_neg h1,if_pos (by omega)]
end Go.Proofs.YtcegfmageiicaaaGreat
