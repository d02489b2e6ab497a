/- What those partial functions come to: plain lemmas on data; each bears its conditions in its statement. -/
import Derived.Test.YtmblndlpkpaobabGreatLiftX
import Derived.Test.YtmblndlpkpaobabGreatMathM6a
set_option linter.unusedVariables false
set_option linter.unusedSimpArgs false
set_option linter.ambiguousOpen false
set_option linter.unusedSectionVars false
set_option linter.unnecessarySimpa false
set_option linter.unusedVariables false
set_option linter.unusedSimpArgs false
namespace Go.Proofs.YtmblndlpkpaobabGreat
open Go Go.E
def uSzF {α:Type}(g:α→Int→Option Int)(n:Nat)(x:α):Prop:=∀ s:Int,0≤s→s≤1048576→g x s=some (if (n:Int)≤s then s - n else -1)
theorem j2q {α:Type} [Sz α]{f:Nat→α→Int→Option (Int ⊕ Int)}:∀ (xs:List α)(i:Nat)(s:Int),(∀ k x s,x∈xs→0≤s→s≤1048576→f k x s=some (if (Sz.szd x:Int)≤s then .inl (s - Sz.szd x) else .inr (-1)))→0≤s→s≤1048576 →
  q2I f i xs s=some (if ((szL xs - xs.length:Nat):Int)≤s then .inl (s - (szL xs - xs.length:Nat)) else .inr (-1))
 | [],i,s,_,h0,_=>by simp [q2I,szL,h0]
 | x :: xs,i,s,hf,h0,h1=>by
  have hl:=q4n xs
  have e:szL (x :: xs) - (x :: xs).length=Sz.szd x+(szL xs - xs.length):=by simp only [szL,List.length_cons]; omega
  rw [e]
  show (f i x s).bind _=_
  rw [hf i x s (by simp) h0 h1]
  by_cases hx:(Sz.szd x:Int)≤s
  ·rw [if_pos hx]
   show q2I f (i+1) xs (s - Sz.szd x)=_
   rw [j2q xs (i+1) _ (fun k y t hy=>hf k y t (by simp [hy])) (by omega) (by omega)]
   by_cases h2:((Sz.szd x+(szL xs - xs.length):Nat):Int)≤s
   ·rw [if_pos h2,if_pos (by omega)]; congr 2; omega
   ·rw [if_neg h2,if_neg (by omega)]
  ·rw [if_neg hx,if_neg (by omega)]; rfl
theorem z9v {α:Type} [Sz α]{xs:List α}{f:Nat→α→Int→Option (Int ⊕ Int)}(hf:∀ k x s,x∈xs→0≤s→s≤1048576→f k x s=some (if (Sz.szd x:Int)≤s then .inl (s - Sz.szd x) else .inr (-1)))(s:Int)(h0:0≤s)(h1:s≤1048576)(hl:xs.length≤9223372036854775807) :
  (grd (I64 (s - (xs.length:Int))) <| if (s - (xs.length:Int)) < 0 then some (-1) else (q2I f 0 xs (s - (xs.length:Int))).bind <| onr (fun r1=>some r1) fun s1=>some s1)=some (if (szL xs:Int)≤s then s - (szL xs:Nat) else -1):=by
 have hl':=q4n xs
 rw [q2B (by constructor<;>omega)]
 by_cases h2:s - (xs.length:Int) < 0
 ·rw [if_pos h2,if_neg (by omega)]
 ·rw [if_neg h2,j2q xs 0 _ hf (by omega) (by omega),Option.bind_some]
  by_cases h3:(szL xs:Int)≤s
  ·rw [if_pos h3,if_pos (by omega),q3q]; congr 1; omega
  ·rw [if_neg h3,if_neg (by omega),z8i]
theorem j0n {α:Type} [Sz α]{g:α→Int→Option Int}{xs:List α}(hg:∀ x∈xs,uSzF g (Sz.szd x) x)(k:Nat)(x:α)(s:Int)(hx:x∈xs)(h0:0≤s)(h1:s≤1048576) :
  ((g x s).bind fun y1=>if y1 < 0 then some (.inr (-1)) else some (.inl y1):Option (Int ⊕ Int))=some (if (Sz.szd x:Int)≤s then .inl (s - Sz.szd x) else .inr (-1)):=by
 rw [hg x hx s h0 h1,Option.bind_some]
 by_cases h2:(Sz.szd x:Int)≤s
 ·rw [if_pos h2,if_neg (by omega),if_pos h2]
 ·rw [if_neg h2,if_pos (by omega),if_neg h2]
theorem z0N (n m:Nat){k:Int→Option Int}{s:Int}(h0:0≤s)(h1:s≤1048576)(hn:n≤9223372036854775807)(hk:∀ t,0≤t→t≤1048576→k t=some (if (m:Int)≤t then t - m else -1)) :
  (grd (I64 (s - (n:Int))) <| if (s - (n:Int)) < 0 then some (-1) else k (s - (n:Int)))=some (if ((n+m:Nat):Int)≤s then s - (n+m:Nat) else -1):=by
 rw [q2B (by constructor<;>omega)]
 by_cases h2:s - (n:Int) < 0
 ·rw [if_pos h2,if_neg (by omega)]
 ·rw [if_neg h2,hk _ (by omega) (by omega)]
  by_cases h3:((n+m:Nat):Int)≤s
  ·rw [if_pos h3,if_pos (by omega)]; congr 1; omega
  ·rw [if_neg h3,if_neg (by omega)]
theorem q9e (n m:Nat){o:Option Int}{k:Int→Option Int}{s:Int}(h0:0≤s)(h1:s≤1048576)(ho:o=some (if (n:Int)≤s then s - n else -1))(hk:∀ t,0≤t→t≤1048576→k t=some (if (m:Int)≤t then t - m else -1)) :
  (o.bind fun y1=>if y1 < 0 then some (-1) else k y1)=some (if ((n+m:Nat):Int)≤s then s - (n+m:Nat) else -1):=by
 rw [ho,Option.bind_some]
 by_cases h2:(n:Int)≤s
 ·rw [if_pos h2,if_neg (by omega),hk _ (by omega) (by omega)]
  by_cases h3:((n+m:Nat):Int)≤s
  ·rw [if_pos h3,if_pos (by omega)]; congr 1; omega
  ·rw [if_neg h3,if_neg (by omega)]
 ·rw [if_neg h2,if_pos (by omega),if_neg (by omega)]
theorem z1T {t:Int}(h0:0≤t)(_:t≤1048576):some t=some (if ((0:Nat):Int)≤t then t - (0:Nat) else -1):=by rw [if_pos (by omega)]; congr 1; omega
theorem z3n {α:Type} [Rep α]{S:Nat→Prop}{w:World}{xs:List α}{v:Value}(h:rdS S w xs v){x:α}(hx:x∈xs):∃ cs,Rep.rd S w x cs:=by
 obtain⟨A,c,rfl,_⟩:=h.form
 obtain⟨k,hk⟩:=List.getElem?_of_mem hx
 obtain⟨y,b,o,cs,hy,_,_,hr,_⟩:=h.el (i:=k) (List.getElem?_eq_some_iff.1 hk).1
 rw [hk] at hy; cases hy
 exact⟨cs,hr⟩
theorem z3o {α:Type} [Rep α]{S:Nat→Prop}{w:World}{xs:List α}{v:Value}(h:rdS S w xs v):xs.length≤9223372036854775807:=by
 obtain⟨A,c,_,h1,h2⟩:=h.form
 exact Nat.le_trans h1 h2
section
variable {S:Nat→Prop}{w:World}{cs:List Value}{v:Value}
theorem j8B {xs:List ByteArray}(h:rdS S w xs v):uSzF z4a (szL xs) xs:=fun s h0 h1=>
 z9v (f:=z3h) (fun k x s hx h0 h1=>by
  unfold z3h
  obtain⟨c,hr⟩:=z3n h hx
  have hb:x.size≤9223372036854775807:=hr.2
  rw [q2B (by constructor<;>omega)]
  show (_:Option (Int ⊕ Int))=some (if (x.size:Int)≤s then Sum.inl (s - x.size) else Sum.inr (-1))
  by_cases h2:(x.size:Int)≤s
  ·rw [if_neg (by omega),if_pos h2]
  ·rw [if_pos (by omega),if_neg h2]) s h0 h1 (z3o h)
theorem j8C {x:Attribute}(h:Rep.rd S w x cs):uSzF z2b (Sz.szd x) x:=fun s h0 h1=>
 z0N x.Name.size 0 h0 h1 h.2.1 (k:=some) (fun t=>z1T)
theorem j7c {xs:List Attribute}(h:rdS S w xs v):uSzF z1n (szL xs) xs:=fun s h0 h1=>
 z9v (f:=z3u) (j0n fun x hx=>j8C (z3n h hx).choose_spec) s h0 h1 (z3o h)
theorem k0y {x:Symbol}(h:Rep.rd S w x cs):uSzF z5t (Sz.szd x) x:=fun s h0 h1=>by
 obtain⟨v1,_,hn,ha⟩:=h
 exact z0N x.Name.size _ h0 h1 hn fun t h0 h1=>q9e (szL x.Attributes) 0 h0 h1 (j7c ha t h0 h1) fun t=>z1T
theorem j8D {xs:List Symbol}(h:rdS S w xs v):uSzF z3Z (szL xs) xs:=fun s h0 h1=>
 z9v (f:=z6i) (j0n fun x hx=>k0y (z3n h hx).choose_spec) s h0 h1 (z3o h)
theorem k0z {x:Occurrence}(h:x.Name.size≤9223372036854775807):uSzF z1o (Sz.szd x) x:=fun s h0 h1=>
 z0N x.Name.size 0 h0 h1 h (k:=some) (fun t=>z1T)
theorem j7d:∀ (m:Nat)(e:Expr),fuE e≤m→∀ {cs:List Value},Rep.rd S w e cs→uSzF (z2D m) (Sz.szd e) e:=by
 intro m
 induction m with
 | zero=>intro e h; rw [z1S] at h; omega
 | succ m ih=>
  intro e h cs hr s h0 h1
  rw [z1S] at h
  obtain⟨v6,_,_,_,_,_,h2,h3,h4⟩:=q2F.1 hr
  rw [q7o,Nat.add_assoc]
  show z6j (z2D m) e s=_
  unfold z6j
  exact z0N e.Symbol.size _ h0 h1 h2 fun t h0 h1=>z0N e.Name.size _ h0 h1 h3 fun t h0 h1=>
   q9e (szL e.Args) 0 h0 h1 (z9v (f:=z8R (z2D m)) (j0n fun x hx=>ih x (by have:=z4I hx; omega) (z3n h4 hx).choose_spec) t h0 h1 (z3o h4)) fun t=>z1T
theorem j3z {e:Expr}(h:Rep.rd S w e cs):uSzF z4b (Sz.szd e) e:=fun s h0 h1=>
 q8q (fuE e) fun n hn=>j7d n e hn h s h0 h1
theorem k0A {x:Equation}(h:Rep.rd S w x cs):uSzF z3i (Sz.szd x) x:=fun s h0 h1=>by
 obtain⟨v8,_,_,h2,h3,h4,h5,h6,h7,h8,h9⟩:=h
 have e:Sz.szd x=Sz.szd x.At+(Sz.szd x.Expr+0):=by rw [z3G,q7o,z9x]; omega
 rw [e]
 exact q9e _ _ h0 h1 (k0z h2 s h0 h1) fun t h0 h1=>q9e _ 0 h0 h1 (j3z (q2F.2 ⟨v8,rfl,h3,h4,h5,h6,h7,h8,h9⟩) t h0 h1) fun t=>z1T
theorem j8E {xs:List Equation}(h:rdS S w xs v):uSzF z2c (szL xs) xs:=fun s h0 h1=>
 z9v (f:=z4c) (j0n fun x hx=>k0A (z3n h hx).choose_spec) s h0 h1 (z3o h)
theorem k0B {x:Contribution}(h:Rep.rd S w x cs):uSzF q9C (Sz.szd x) x:=fun s h0 h1=>by
 obtain⟨v8,v15,_,h1',h2,h3,h4,h5,h6,h7,h8,h9,h10,h11,h12,h13,h14,h15,h16⟩:=h
 have e:Sz.szd x=x.Symbol.size+(x.Name.size+(Sz.szd x.Target+(Sz.szd x.Value+0))):=by rw [z0h,q7o,q7o]; omega
 rw [e]
 exact z0N _ _ h0 h1 h1' fun t h0 h1=>z0N _ _ h0 h1 h2 fun t h0 h1=>q9e _ _ h0 h1 (j3z (q2F.2 ⟨v8,rfl,h3,h4,h5,h6,h7,h8,h15⟩) t h0 h1) fun t h0 h1=>
  q9e _ 0 h0 h1 (j3z (q2F.2 ⟨v15,rfl,h9,h10,h11,h12,h13,h14,h16⟩) t h0 h1) fun t=>z1T
theorem j8F {xs:List Contribution}(h:rdS S w xs v):uSzF q8W (szL xs) xs:=fun s h0 h1=>
 z9v (f:=z1p) (j0n fun x hx=>k0B (z3n h hx).choose_spec) s h0 h1 (z3o h)
theorem j8G {x:Rule}(h:Rep.rd S w x cs):uSzF z8T (Sz.szd x) x:=fun s h0 h1=>by
 obtain⟨v2,v4,v5,_,h2,h3,h4,h5,h6⟩:=h
 have e:Sz.szd x=x.Name.size+(x.Left.size+(szL x.Right+(szL x.Equations+(szL x.Contributions+0)))):=by rw [z4x]; omega
 rw [e]
 exact z0N _ _ h0 h1 h2 fun t h0 h1=>z0N _ _ h0 h1 h3 fun t h0 h1=>q9e _ _ h0 h1 (j8B h4 t h0 h1) fun t h0 h1=>q9e _ _ h0 h1 (j8E h5 t h0 h1) fun t h0 h1=>
  q9e _ 0 h0 h1 (j8F h6 t h0 h1) fun t=>z1T
theorem j7e {xs:List Rule}(h:rdS S w xs v):uSzF z6P (szL xs) xs:=fun s h0 h1=>
 z9v (f:=z8U) (j0n fun x hx=>j8G (z3n h hx).choose_spec) s h0 h1 (z3o h)
theorem j8H {x:Grammar}(h:Rep.rd S w x cs):uSzF z1R (Sz.szd x) x:=fun s h0 h1=>by
 obtain⟨v0,v1,_,h2,h3⟩:=h
 have e:Sz.szd x=szL x.Symbols+(szL x.Rules+0):=by rw [z0V]; omega
 rw [e]
 exact q9e _ _ h0 h1 (j8D h2 s h0 h1) fun t h0 h1=>q9e _ 0 h0 h1 (j7e h3 t h0 h1) fun t=>z1T
end
theorem j8I {α:Type}{z y:α}(pre:List α)(n:Nat):List.set (pre++List.replicate (n+1) z) pre.length y=(pre++[y])++List.replicate n z:=by
 rw [List.set_append_right _ _ (Nat.le_refl _),Nat.sub_self,List.replicate_succ,List.set_cons_zero]; simp
theorem j7f {α:Type}{z:α}{f:Nat→α→List α→Option (List α)}:∀ (xs pre:List α),(∀ k x s,x∈xs→k < s.length→f k x s=some (List.set s k x))→q2G f pre.length xs (pre++List.replicate xs.length z)=some (pre++xs)
 | [],pre,_=>by simp [q2G]
 | x :: xs,pre,hf=>by
  show (f pre.length x _).bind _=_
  rw [hf _ _ _ (by simp) (by simp),List.length_cons,j8I,Option.bind_some]
  have:=j7f (z:=z) xs (pre++[x]) fun k y s hy=>hf k y s (by simp [hy])
  rw [List.length_append] at this
  rw [show pre.length+1=pre.length+[x].length from rfl,this]; simp
theorem z5C {α:Type}{z:α}{g:α→Option α}{b:Int}{xs:List α}{f:Nat→α→List α→Option (List α)}(hb:(xs.length:Int)*b≤281474976710656)(hl:xs.length≤1048576)(hf:∀ k x s,x∈xs→k < s.length→f k x s=some (List.set s k x)) :
  (grd (0≤(xs.length:Int)∧(xs.length:Int)*b≤281474976710656∧(xs.length:Int)≤9223372036854775807) <| (q2G f 0 xs (List.replicate xs.length z)).bind fun s1=>some s1)=some xs:=by
 rw [q2B ⟨by omega,hb,by omega⟩]
 have:=j7f (z:=z) xs [] hf
 rw [List.length_nil,List.nil_append,List.nil_append] at this
 rw [this]; rfl
theorem j0o {α:Type}{g:α→Option α}{xs:List α}(hg:∀ x∈xs,g x=some x)(k:Nat)(x:α)(s:List α)(hx:x∈xs)(hk:k < s.length):((g x).bind fun y1=>(s[k]?).bind fun x2=>some (List.set s k y1))=some (List.set s k x):=by
 rw [hg x hx,Option.bind_some,List.getElem?_eq_getElem hk]; rfl
theorem j8J {xs:List ByteArray}(h:szL xs≤1048576):z4e xs=some xs:=by
 have hl:=q4n xs
 exact z5C (g:=some) (by omega) (by omega) fun k x s _ hk=>by unfold z6l; rw [List.getElem?_eq_getElem hk]; rfl
theorem j7g {xs:List Attribute}(h:szL xs≤1048576):z1q xs=some xs:=by
 have hl:=q4n xs
 exact z5C (g:=some) (by omega) (by omega) (j0o (g:=z2d) fun x _=>rfl)
theorem k0C {x:Symbol}(h:Sz.szd x≤1048576):z1r x=some x:=by
 unfold z1r; rw [j7g (by rw [z9Z] at h; omega)]; rfl
theorem j8K {xs:List Symbol}(h:szL xs≤1048576):z4d xs=some xs:=by
 have hl:=q4n xs
 exact z5C (g:=some) (by omega) (by omega) (j0o (g:=z1r) fun x hx=>k0C (by have:=z0K hx; omega))
theorem j7h:∀ (m:Nat)(e:Expr),fuE e≤m→Sz.szd e≤1048576→z1t m e=some e:=by
 intro m
 induction m with
 | zero=>intro e h; rw [z1S] at h; omega
 | succ m ih=>
  intro e h hs
  rw [z1S] at h
  show z6m (z1t m) e=_
  unfold z6m
  have hz:=q7o e
  have hl:=q4n e.Args
  have:z6Q (z1t m) e.Args=some e.Args:=z5C (g:=some) (by omega) (by omega) (j0o (g:=z1t m) fun x hx=>ih x (by have:=z4I hx; omega) (by have:=j6d hx; omega))
  rw [this,Option.bind_some]; cases e; rfl
theorem j3A {e:Expr}(h:Sz.szd e≤1048576):z4f e=some e:=q8q (fuE e) fun n hn=>j7h n e hn h
theorem k0D {x:Equation}(h:Sz.szd x≤1048576):q8X x=some x:=by
 unfold q8X
 rw [show z1s x.At=some x.At from rfl,j3A (by rw [z3G] at h; rw [q7o]; omega)]; rfl
theorem j8L {xs:List Equation}(h:szL xs≤1048576):z2e xs=some xs:=by
 have hl:=q4n xs
 exact z5C (g:=some) (by omega) (by omega) (j0o (g:=q8X) fun x hx=>k0D (by have:=z0K hx; omega))
theorem k0E {x:Contribution}(h:Sz.szd x≤1048576):q6x x=some x:=by
 unfold q6x
 rw [z0h] at h
 rw [j3A (by rw [q7o]; omega),Option.bind_some,j3A (by rw [q7o]; omega)]; rfl
theorem j8M {xs:List Contribution}(h:szL xs≤1048576):q8Y xs=some xs:=by
 have hl:=q4n xs
 exact z5C (g:=some) (by omega) (by omega) (j0o (g:=q6x) fun x hx=>k0E (by have:=z0K hx; omega))
theorem j8N {x:Rule}(h:Sz.szd x≤1048576):z4g x=some x:=by
 unfold z4g
 rw [z4x] at h
 rw [j8J (by omega),Option.bind_some,j8L (by omega),Option.bind_some,j8M (by omega)]; rfl
theorem j7i {xs:List Rule}(h:szL xs≤1048576):z6S xs=some xs:=by
 have hl:=q4n xs
 exact z5C (g:=some) (by omega) (by omega) (j0o (g:=z4g) fun x hx=>j8N (by have:=z0K hx; omega))
theorem j8O {x:Grammar}(h:Sz.szd x≤1048576):q6c x=some x:=by
 unfold q6c
 rw [z0V] at h
 rw [j8K (by omega),Option.bind_some,j7i (by omega)]; rfl
theorem j9k {α:Type}{f:Nat→α→Unit→Option (Unit ⊕ Bool)}:∀ (xs:List α)(i:Nat),(∀ k x,xs[k]? = some x→f (i+k) x ()=some (.inl ()))→q2I f i xs ()=some (.inl ())
 | [],i,_=>rfl
 | x :: xs,i,hf=>by
  show (f i x ()).bind _=_
  have h0:=hf 0 x rfl
  rw [Nat.add_zero] at h0
  rw [h0]
  exact j9k xs (i+1) fun k y hy=>by have:=hf (k+1) y hy; rwa [show i+1+k=i+(k+1) by omega]
theorem z5D {α:Type}{xs:List α}{f:Nat→α→Unit→Option (Unit ⊕ Bool)}(hf:∀ k x,xs[k]? = some x→f k x ()=some (.inl ())) :
  (if (xs.length:Int)=(xs.length:Int) then (q2I f 0 xs ()).bind <| onr (fun r1=>some r1) fun _=>some true else some false)=some true:=by
 rw [if_pos rfl,j9k xs 0 fun k x h=>by rw [Nat.zero_add]; exact hf k x h]; rfl
theorem j0p {α:Type}{g:α→α→Option Bool}{xs:List α}(hg:∀ x∈xs,g x x=some true)(k:Nat)(x:α)(h:xs[k]? = some x):((xs[k]?).bind fun x2=>(g x x2).bind fun y1=>if y1=true then some (.inl ()) else some (.inr false):Option (Unit ⊕ Bool))=some (.inl ()):=by
 rw [h,Option.bind_some,hg x (List.mem_of_getElem? h)]; rfl
theorem j8P (x:Attribute):q8f x x=some true:=by simp [q8f]
theorem j7j (xs:List Attribute):z1u xs xs=some true:=z5D (f:=z3v xs) (j0p (g:=q8f) fun x _=>j8P x)
theorem k0F (x:Symbol):z1v x x=some true:=by simp [z1v,j7j]
theorem j8Q (xs:List Symbol):z4h xs xs=some true:=z5D (f:=z6o xs) (j0p (g:=z1v) fun x _=>k0F x)
theorem j8R (xs:List ByteArray):z4i xs xs=some true:=z5D (f:=z3k xs) fun k x h=>by unfold z3k; rw [h,Option.bind_some,if_pos rfl]
theorem j8S (x:Occurrence):q8Z x x=some true:=by simp [q8Z]
theorem j7k:∀ (m:Nat)(e:Expr),fuE e≤m→z0d m e e=some true:=by
 intro m
 induction m with
 | zero=>intro e h; rw [z1S] at h; omega
 | succ m ih=>
  intro e h
  rw [z1S] at h
  show z6p (z0d m) e e=_
  have:z6T (z0d m) e.Args e.Args=some true:=z5D (f:=z8Z (z0d m) e.Args) (j0p (g:=z0d m) fun x hx=>ih x (by have:=z4I hx; omega))
  simp [z6p,this]
theorem j4o (e:Expr):z4j e e=some true:=q8q (fuE e) fun n hn=>j7k n e hn
theorem k0G (x:Equation):q9a x x=some true:=by simp [q9a,j8S,j4o]
theorem j8T (xs:List Equation):z2f xs xs=some true:=z5D (f:=z4k xs) (j0p (g:=q9a) fun x _=>k0G x)
theorem k0H (x:Contribution):q6y x x=some true:=by simp [q6y,j4o]
theorem j8U (xs:List Contribution):q9b xs xs=some true:=z5D (f:=z1w xs) (j0p (g:=q6y) fun x _=>k0H x)
theorem j8V (x:Rule):z4l x x=some true:=by simp [z4l,j8R,j8T,j8U]
theorem j7l (xs:List Rule):z6V xs xs=some true:=z5D (f:=z9b xs) (j0p (g:=z4l) fun x _=>j8V x)
theorem j8W (x:Grammar):z0e x x=some true:=by simp [z0e,j8Q,j7l]
theorem j7m {p q:Grammar→Option Bool}{g:Grammar}{S:Nat→Prop}{w:World}{cs:List Value}(h:Rep.rd S w g cs)(hpq:Sz.szd g≤1048576→∃ b,p g=some b∧q g=some b) :
  ((z1R g 1048576).bind fun y1=>if y1 < 0 then some true else (q6c g).bind fun y2=>(p y2).bind fun y3=>(q6c g).bind fun y4=>(q y4).bind fun y5=>if y5=y3 then (q6c g).bind fun y6=>(z0e y4 y6).bind fun y7=>if y7=true then some true else some false else some false)=some true:=by
 rw [j8H h 1048576 (by omega) (by omega),Option.bind_some]
 by_cases h1:(Sz.szd g:Int)≤1048576
 ·have h2:Sz.szd g≤1048576:=by omega
  obtain⟨b,e1,e2⟩:=hpq h2
  rw [if_pos h1,if_neg (by omega),j8O h2]
  simp only [Option.bind_some]
  rw [e1,Option.bind_some,e2,Option.bind_some,if_pos rfl,j8W,Option.bind_some,if_pos rfl]
 ·rw [if_neg h1,if_pos (by omega)]
end Go.Proofs.YtmblndlpkpaobabGreat
