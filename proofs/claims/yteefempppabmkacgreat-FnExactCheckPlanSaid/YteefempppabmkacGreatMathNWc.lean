/- What those partial functions come to: plain lemmas on data; each bears its conditions in its statement. -/
import Derived.Test.YteefempppabmkacGreatLift
import Derived.Test.YteefempppabmkacGreatMathM6c
set_option linter.unusedVariables false
set_option linter.unusedSimpArgs false
set_option linter.ambiguousOpen false
set_option linter.unusedSectionVars false
set_option linter.unnecessarySimpa false
set_option linter.unusedVariables false
set_option linter.unusedSimpArgs false
namespace Go.Proofs.YteefempppabmkacGreat
open Go Go.E
def uSzF {α:Type}(g:α→Int→Option Int)(n:Nat)(x:α):Prop:=∀ s:Int,0≤s→s≤1048576→g x s=some (if (n:Int)≤s then s - n else -1)
theorem j2R {α:Type}[Sz α]{f:Nat→α→Int→Option (Int ⊕ Int)}:∀ (xs:List α) (i:Nat) (s:Int),(∀ k x s,x∈xs→0≤s→s≤1048576→f k x s=some (if (Sz.szd x:Int)≤s then .inl (s - Sz.szd x) else .inr (-1)))→0≤s→s≤1048576 →
  q2u f i xs s=some (if ((szL xs - xs.length:Nat):Int)≤s then .inl (s - (szL xs - xs.length:Nat)) else .inr (-1))
 | [],i,s,_,h0,_=>by simp [q2u,szL,h0]
 | x :: xs,i,s,hf,h0,h1=>by
  have hl:=q2R xs
  have e:szL (x :: xs) - (x :: xs).length=Sz.szd x+(szL xs - xs.length):=by simp only [szL,List.length_cons]; omega
  rw [e]
  show (f i x s).bind _=_
  rw [hf i x s (by simp) h0 h1]
  by_cases hx:(Sz.szd x:Int)≤s
  ·rw [if_pos hx]
   show q2u f (i+1) xs (s - Sz.szd x)=_
   rw [j2R xs (i+1) _ (fun k y t hy=>hf k y t (by simp [hy])) (by omega) (by omega)]
   by_cases h2:((Sz.szd x+(szL xs - xs.length):Nat):Int)≤s
   ·rw [if_pos h2,if_pos (by omega)]; congr 2; omega
   ·rw [if_neg h2,if_neg (by omega)]
  ·rw [if_neg hx,if_neg (by omega)]; rfl
theorem z4w {α:Type}[Sz α]{xs:List α}{f:Nat→α→Int→Option (Int ⊕ Int)}(hf:∀ k x s,x∈xs→0≤s→s≤1048576→f k x s=some (if (Sz.szd x:Int)≤s then .inl (s - Sz.szd x) else .inr (-1)))(s:Int)(h0:0≤s)(h1:s≤1048576)(hl:xs.length≤9223372036854775807) :
  (grd (I64 (s - (xs.length:Int))) <| if (s - (xs.length:Int)) < 0 then some (-1) else (q2u f 0 xs (s - (xs.length:Int))).bind <| onr (fun r1=>some r1) fun s1=>some s1)=some (if (szL xs:Int)≤s then s - (szL xs:Nat) else -1):=by
 have hl':=q2R xs
 rw [q2q (by constructor<;>omega)]
 by_cases h2:s - (xs.length:Int) < 0
 ·rw [if_pos h2,if_neg (by omega)]
 ·rw [if_neg h2,j2R xs 0 _ hf (by omega) (by omega),Option.bind_some]
  by_cases h3:(szL xs:Int)≤s
  ·rw [if_pos h3,if_pos (by omega),q2S]; congr 1; omega
  ·rw [if_neg h3,if_neg (by omega),z6K]
theorem z5b {α:Type}[Sz α]{g:α→Int→Option Int}{xs:List α}(hg:∀ x∈xs,uSzF g (Sz.szd x) x)(k:Nat)(x:α)(s:Int)(hx:x∈xs)(h0:0≤s)(h1:s≤1048576) :
  ((g x s).bind fun y1=>if y1 < 0 then some (.inr (-1)) else some (.inl y1):Option (Int ⊕ Int))=some (if (Sz.szd x:Int)≤s then .inl (s - Sz.szd x) else .inr (-1)):=by
 rw [hg x hx s h0 h1,Option.bind_some]
 by_cases h2:(Sz.szd x:Int)≤s
 ·rw [if_pos h2,if_neg (by omega),if_pos h2]
 ·rw [if_neg h2,if_pos (by omega),if_neg h2]
theorem q9c (n m:Nat){k:Int→Option Int}{s:Int}(h0:0≤s)(h1:s≤1048576)(hn:n≤9223372036854775807)(hk:∀ t,0≤t→t≤1048576→k t=some (if (m:Int)≤t then t - m else -1)) :
  (grd (I64 (s - (n:Int))) <| if (s - (n:Int)) < 0 then some (-1) else k (s - (n:Int)))=some (if ((n+m:Nat):Int)≤s then s - (n+m:Nat) else -1):=by
 rw [q2q (by constructor<;>omega)]
 by_cases h2:s - (n:Int) < 0
 ·rw [if_pos h2,if_neg (by omega)]
 ·rw [if_neg h2,hk _ (by omega) (by omega)]
  by_cases h3:((n+m:Nat):Int)≤s
  ·rw [if_pos h3,if_pos (by omega)]; congr 1; omega
  ·rw [if_neg h3,if_neg (by omega)]
theorem q7z (n m:Nat){o:Option Int}{k:Int→Option Int}{s:Int}(h0:0≤s)(h1:s≤1048576)(ho:o=some (if (n:Int)≤s then s - n else -1))(hk:∀ t,0≤t→t≤1048576→k t=some (if (m:Int)≤t then t - m else -1)) :
  (o.bind fun y1=>if y1 < 0 then some (-1) else k y1)=some (if ((n+m:Nat):Int)≤s then s - (n+m:Nat) else -1):=by
 rw [ho,Option.bind_some]
 by_cases h2:(n:Int)≤s
 ·rw [if_pos h2,if_neg (by omega),hk _ (by omega) (by omega)]
  by_cases h3:((n+m:Nat):Int)≤s
  ·rw [if_pos h3,if_pos (by omega)]; congr 1; omega
  ·rw [if_neg h3,if_neg (by omega)]
 ·rw [if_neg h2,if_pos (by omega),if_neg (by omega)]
theorem q9d {t:Int}(h0:0≤t)(_:t≤1048576):some t=some (if ((0:Nat):Int)≤t then t - (0:Nat) else -1):=by rw [if_pos (by omega)]; congr 1; omega
theorem q9e {α:Type}[Rep α]{S:Nat→Prop}{w:World}{xs:List α}{v:Value}(h:rdS S w xs v){x:α}(hx:x∈xs):∃ cs,Rep.rd S w x cs:=by
 obtain⟨A,c,rfl,_⟩:=h.form
 obtain⟨k,hk⟩:=List.getElem?_of_mem hx
 obtain⟨y,b,o,cs,hy,_,_,hr,_⟩:=h.el (i:=k) (List.getElem?_eq_some_iff.1 hk).1
 rw [hk] at hy; cases hy
 exact⟨cs,hr⟩
theorem q9f {α:Type}[Rep α]{S:Nat→Prop}{w:World}{xs:List α}{v:Value}(h:rdS S w xs v):xs.length≤9223372036854775807:=by
 obtain⟨A,c,_,h1,h2⟩:=h.form
 exact Nat.le_trans h1 h2
section
variable {S:Nat→Prop}{w:World}{cs:List Value}{v:Value}
theorem j1I {xs:List ByteArray}(h:rdS S w xs v):uSzF q9W (szL xs) xs:=fun s h0 h1=>
 z4w (f:=z2C) (fun k x s hx h0 h1=>by
  unfold z2C
  obtain⟨c,hr⟩:=q9e h hx
  have hb:x.size≤9223372036854775807:=hr.2
  rw [q2q (by constructor<;>omega)]
  show (_:Option (Int ⊕ Int))=some (if (x.size:Int)≤s then Sum.inl (s - x.size) else Sum.inr (-1))
  by_cases h2:(x.size:Int)≤s
  ·rw [if_neg (by omega),if_pos h2]
  ·rw [if_pos (by omega),if_neg h2]) s h0 h1 (q9f h)
theorem j9e {x:Attribute}(h:Rep.rd S w x cs):uSzF z1R (Sz.szd x) x:=fun s h0 h1=>
 q9c x.Name.size 0 h0 h1 h.2.1 (k:=some) (fun t=>q9d)
theorem j7r {xs:List Attribute}(h:rdS S w xs v):uSzF z0Q (szL xs) xs:=fun s h0 h1=>
 z4w (f:=z3j) (z5b fun x hx=>j9e (q9e h hx).choose_spec) s h0 h1 (q9f h)
theorem k0P {x:Symbol}(h:Rep.rd S w x cs):uSzF z5l (Sz.szd x) x:=fun s h0 h1=>by
 obtain⟨v1,_,hn,ha⟩:=h
 exact q9c x.Name.size _ h0 h1 hn fun t h0 h1=>q7z (szL x.Attributes) 0 h0 h1 (j7r ha t h0 h1) fun t=>q9d
theorem j9f {xs:List Symbol}(h:rdS S w xs v):uSzF z3F (szL xs) xs:=fun s h0 h1=>
 z4w (f:=z5Q) (z5b fun x hx=>k0P (q9e h hx).choose_spec) s h0 h1 (q9f h)
theorem k0Q {x:Occurrence}(h:x.Name.size≤9223372036854775807):uSzF z0R (Sz.szd x) x:=fun s h0 h1=>
 q9c x.Name.size 0 h0 h1 h (k:=some) (fun t=>q9d)
theorem j7s:∀ (m:Nat) (e:Expr),fuE e≤m→∀ {cs:List Value},Rep.rd S w e cs→uSzF (z2l m) (Sz.szd e) e:=by
 intro m
 induction m with
 | zero=>intro e h; rw [z1N] at h; omega
 | succ m ih=>
  intro e h cs hr s h0 h1
  rw [z1N] at h
  obtain⟨v6,_,_,_,_,_,h2,h3,h4⟩:=q2r.1 hr
  rw [q7v,Nat.add_assoc]
  show z5R (z2l m) e s=_
  unfold z5R
  exact q9c e.Symbol.size _ h0 h1 h2 fun t h0 h1=>q9c e.Name.size _ h0 h1 h3 fun t h0 h1=>
   q7z (szL e.Args) 0 h0 h1 (z4w (f:=z8F (z2l m)) (z5b fun x hx=>ih x (by have:=z4N hx; omega) (q9e h4 hx).choose_spec) t h0 h1 (q9f h4)) fun t=>q9d
theorem j4j {e:Expr}(h:Rep.rd S w e cs):uSzF z3G (Sz.szd e) e:=fun s h0 h1=>
 q7E (fuE e) fun n hn=>j7s n e hn h s h0 h1
theorem k0R {x:Equation}(h:Rep.rd S w x cs):uSzF z2E (Sz.szd x) x:=fun s h0 h1=>by
 obtain⟨v8,_,_,h2,h3,h4,h5,h6,h7,h8,h9⟩:=h
 have e:Sz.szd x=Sz.szd x.At+(Sz.szd x.Expr+0):=by rw [z3E,q7v,z9N]; omega
 rw [e]
 exact q7z _ _ h0 h1 (k0Q h2 s h0 h1) fun t h0 h1=>q7z _ 0 h0 h1 (j4j (q2r.2 ⟨v8,rfl,h3,h4,h5,h6,h7,h8,h9⟩) t h0 h1) fun t=>q9d
theorem j9g {xs:List Equation}(h:rdS S w xs v):uSzF z1S (szL xs) xs:=fun s h0 h1=>
 z4w (f:=z3H) (z5b fun x hx=>k0R (q9e h hx).choose_spec) s h0 h1 (q9f h)
theorem k0S {x:Contribution}(h:Rep.rd S w x cs):uSzF q9m (Sz.szd x) x:=fun s h0 h1=>by
 obtain⟨v8,v15,_,h1',h2,h3,h4,h5,h6,h7,h8,h9,h10,h11,h12,h13,h14,h15,h16⟩:=h
 have e:Sz.szd x=x.Symbol.size+(x.Name.size+(Sz.szd x.Target+(Sz.szd x.Value+0))):=by rw [z0k,q7v,q7v]; omega
 rw [e]
 exact q9c _ _ h0 h1 h1' fun t h0 h1=>q9c _ _ h0 h1 h2 fun t h0 h1=>q7z _ _ h0 h1 (j4j (q2r.2 ⟨v8,rfl,h3,h4,h5,h6,h7,h8,h15⟩) t h0 h1) fun t h0 h1=>
  q7z _ 0 h0 h1 (j4j (q2r.2 ⟨v15,rfl,h9,h10,h11,h12,h13,h14,h16⟩) t h0 h1) fun t=>q9d
theorem j9h {xs:List Contribution}(h:rdS S w xs v):uSzF q8D (szL xs) xs:=fun s h0 h1=>
 z4w (f:=z0S) (z5b fun x hx=>k0S (q9e h hx).choose_spec) s h0 h1 (q9f h)
theorem j9i {x:Rule}(h:Rep.rd S w x cs):uSzF z8H (Sz.szd x) x:=fun s h0 h1=>by
 obtain⟨v2,v4,v5,_,h2,h3,h4,h5,h6⟩:=h
 have e:Sz.szd x=x.Name.size+(x.Left.size+(szL x.Right+(szL x.Equations+(szL x.Contributions+0)))):=by rw [z4y]; omega
 rw [e]
 exact q9c _ _ h0 h1 h2 fun t h0 h1=>q9c _ _ h0 h1 h3 fun t h0 h1=>q7z _ _ h0 h1 (j1I h4 t h0 h1) fun t h0 h1=>q7z _ _ h0 h1 (j9g h5 t h0 h1) fun t h0 h1=>
  q7z _ 0 h0 h1 (j9h h6 t h0 h1) fun t=>q9d
theorem j7t {xs:List Rule}(h:rdS S w xs v):uSzF z6P (szL xs) xs:=fun s h0 h1=>
 z4w (f:=z8I) (z5b fun x hx=>j9i (q9e h hx).choose_spec) s h0 h1 (q9f h)
theorem j9j {x:Grammar}(h:Rep.rd S w x cs):uSzF z3I (Sz.szd x) x:=fun s h0 h1=>by
 obtain⟨v0,v1,_,h2,h3⟩:=h
 have e:Sz.szd x=szL x.Symbols+(szL x.Rules+0):=by rw [z0O]; omega
 rw [e]
 exact q7z _ _ h0 h1 (j9f h2 s h0 h1) fun t h0 h1=>q7z _ 0 h0 h1 (j7t h3 t h0 h1) fun t=>q9d
end
theorem j9k {α:Type}{z y:α}(pre:List α)(n:Nat):List.set (pre++List.replicate (n+1) z) pre.length y=(pre++[y])++List.replicate n z:=by
 rw [List.set_append_right _ _ (Nat.le_refl _),Nat.sub_self,List.replicate_succ,List.set_cons_zero]; simp
theorem j7u {α:Type}{z:α}{f:Nat→α→List α→Option (List α)}:∀ (xs pre:List α),(∀ k x s,x∈xs→k < s.length→f k x s=some (List.set s k x))→q2J f pre.length xs (pre++List.replicate xs.length z)=some (pre++xs)
 | [],pre,_=>by simp [q2J]
 | x :: xs,pre,hf=>by
  show (f pre.length x _).bind _=_
  rw [hf _ _ _ (by simp) (by simp),List.length_cons,j9k,Option.bind_some]
  have:=j7u (z:=z) xs (pre++[x]) fun k y s hy=>hf k y s (by simp [hy])
  rw [List.length_append] at this
  rw [show pre.length+1=pre.length+[x].length from rfl,this]; simp
theorem z1o {α:Type}{z:α}{g:α→Option α}{b:Int}{xs:List α}{f:Nat→α→List α→Option (List α)}(hb:(xs.length:Int)*b≤281474976710656)(hl:xs.length≤1048576)(hf:∀ k x s,x∈xs→k < s.length→f k x s=some (List.set s k x)) :
  (grd (0≤(xs.length:Int)∧(xs.length:Int)*b≤281474976710656∧(xs.length:Int)≤9223372036854775807) <| (q2J f 0 xs (List.replicate xs.length z)).bind fun s1=>some s1)=some xs:=by
 rw [q2q ⟨by omega,hb,by omega⟩]
 have:=j7u (z:=z) xs [] hf
 rw [List.length_nil,List.nil_append,List.nil_append] at this
 rw [this]; rfl
theorem z5c {α:Type}{g:α→Option α}{xs:List α}(hg:∀ x∈xs,g x=some x)(k:Nat)(x:α)(s:List α)(hx:x∈xs)(hk:k < s.length):((g x).bind fun y1=>(s[k]?).bind fun x2=>some (List.set s k y1))=some (List.set s k x):=by
 rw [hg x hx,Option.bind_some,List.getElem?_eq_getElem hk]; rfl
theorem j1J {xs:List ByteArray}(h:szL xs≤1048576):q9X xs=some xs:=by
 have hl:=q2R xs
 exact z1o (g:=some) (by omega) (by omega) fun k x s _ hk=>by unfold z5U; rw [List.getElem?_eq_getElem hk]; rfl
theorem j7v {xs:List Attribute}(h:szL xs≤1048576):z0T xs=some xs:=by
 have hl:=q2R xs
 exact z1o (g:=some) (by omega) (by omega) (z5c (g:=z1U) fun x _=>rfl)
theorem k0T {x:Symbol}(h:Sz.szd x≤1048576):z0U x=some x:=by
 unfold z0U; rw [j7v (by rw [j0t] at h; omega)]; rfl
theorem j9l {xs:List Symbol}(h:szL xs≤1048576):z3L xs=some xs:=by
 have hl:=q2R xs
 exact z1o (g:=some) (by omega) (by omega) (z5c (g:=z0U) fun x hx=>k0T (by have:=q6u hx; omega))
theorem j7w:∀ (m:Nat) (e:Expr),fuE e≤m→Sz.szd e≤1048576→z0W m e=some e:=by
 intro m
 induction m with
 | zero=>intro e h; rw [z1N] at h; omega
 | succ m ih=>
  intro e h hs
  rw [z1N] at h
  show z5V (z0W m) e=_
  unfold z5V
  have hz:=q7v e
  have hl:=q2R e.Args
  have:z6S (z0W m) e.Args=some e.Args:=z1o (g:=some) (by omega) (by omega) (z5c (g:=z0W m) fun x hx=>ih x (by have:=z4N hx; omega) (by have:=j6w hx; omega))
  rw [this,Option.bind_some]; cases e; rfl
theorem j4k {e:Expr}(h:Sz.szd e≤1048576):z3M e=some e:=q7E (fuE e) fun n hn=>j7w n e hn h
theorem k0U {x:Equation}(h:Sz.szd x≤1048576):q8E x=some x:=by
 unfold q8E
 rw [show z0V x.At=some x.At from rfl,j4k (by rw [z3E] at h; rw [q7v]; omega)]; rfl
theorem j9m {xs:List Equation}(h:szL xs≤1048576):z1V xs=some xs:=by
 have hl:=q2R xs
 exact z1o (g:=some) (by omega) (by omega) (z5c (g:=q8E) fun x hx=>k0U (by have:=q6u hx; omega))
theorem k0V {x:Contribution}(h:Sz.szd x≤1048576):q6w x=some x:=by
 unfold q6w
 rw [z0k] at h
 rw [j4k (by rw [q7v]; omega),Option.bind_some,j4k (by rw [q7v]; omega)]; rfl
theorem j9n {xs:List Contribution}(h:szL xs≤1048576):q8F xs=some xs:=by
 have hl:=q2R xs
 exact z1o (g:=some) (by omega) (by omega) (z5c (g:=q6w) fun x hx=>k0V (by have:=q6u hx; omega))
theorem j9o {x:Rule}(h:Sz.szd x≤1048576):z3N x=some x:=by
 unfold z3N
 rw [z4y] at h
 rw [j1J (by omega),Option.bind_some,j9m (by omega),Option.bind_some,j9n (by omega)]; rfl
theorem j7x {xs:List Rule}(h:szL xs≤1048576):z6U xs=some xs:=by
 have hl:=q2R xs
 exact z1o (g:=some) (by omega) (by omega) (z5c (g:=z3N) fun x hx=>j9o (by have:=q6u hx; omega))
theorem j9p {x:Grammar}(h:Sz.szd x≤1048576):q8y x=some x:=by
 unfold q8y
 rw [z0O] at h
 rw [j9l (by omega),Option.bind_some,j7x (by omega)]; rfl
theorem j9I {α:Type}{f:Nat→α→Unit→Option (Unit ⊕ Bool)}:∀ (xs:List α) (i:Nat),(∀ k x,xs[k]? = some x→f (i+k) x ()=some (.inl ()))→q2u f i xs ()=some (.inl ())
 | [],i,_=>rfl
 | x :: xs,i,hf=>by
  show (f i x ()).bind _=_
  have h0:=hf 0 x rfl
  rw [Nat.add_zero] at h0
  rw [h0]
  exact j9I xs (i+1) fun k y hy=>by have:=hf (k+1) y hy; rwa [show i+1+k=i+(k+1) by omega]
theorem z1p {α:Type}{xs:List α}{f:Nat→α→Unit→Option (Unit ⊕ Bool)}(hf:∀ k x,xs[k]? = some x→f k x ()=some (.inl ())) :
  (if (xs.length:Int)=(xs.length:Int) then (q2u f 0 xs ()).bind <| onr (fun r1=>some r1) fun _=>some true else some false)=some true:=by
 rw [if_pos rfl,j9I xs 0 fun k x h=>by rw [Nat.zero_add]; exact hf k x h]; rfl
theorem z5d {α:Type}{g:α→α→Option Bool}{xs:List α}(hg:∀ x∈xs,g x x=some true)(k:Nat)(x:α)(h:xs[k]? = some x):((xs[k]?).bind fun x2=>(g x x2).bind fun y1=>if y1=true then some (.inl ()) else some (.inr false):Option (Unit ⊕ Bool))=some (.inl ()):=by
 rw [h,Option.bind_some,hg x (List.mem_of_getElem? h)]; rfl
theorem j9q (x:Attribute):q8i x x=some true:=by simp [q8i]
theorem j7y (xs:List Attribute):z1k xs xs=some true:=z1p (f:=z3q xs) (z5d (g:=q8i) fun x _=>j9q x)
theorem k0W (x:Symbol):z1l x x=some true:=by simp [z1l,j7y]
theorem j9r (xs:List Symbol):z4g xs xs=some true:=z1p (f:=z6x xs) (z5d (g:=z1l) fun x _=>k0W x)
theorem j4K (xs:List ByteArray):z0i xs xs=some true:=z1p (f:=z3b xs) fun k x h=>by unfold z3b; rw [h,Option.bind_some,if_pos rfl]
theorem j9s (x:Occurrence):q8U x x=some true:=by simp [q8U]
theorem j7z:∀ (m:Nat) (e:Expr),fuE e≤m→z0j m e e=some true:=by
 intro m
 induction m with
 | zero=>intro e h; rw [z1N] at h; omega
 | succ m ih=>
  intro e h
  rw [z1N] at h
  show z6y (z0j m) e e=_
  have:z7f (z0j m) e.Args e.Args=some true:=z1p (f:=z9t (z0j m) e.Args) (z5d (g:=z0j m) fun x hx=>ih x (by have:=z4N hx; omega))
  simp [z6y,this]
theorem j4L (e:Expr):z4h e e=some true:=q7E (fuE e) fun n hn=>j7z n e hn
theorem k0X (x:Equation):q8V x x=some true:=by simp [q8V,j9s,j4L]
theorem j9t (xs:List Equation):z2e xs xs=some true:=z1p (f:=z4i xs) (z5d (g:=q8V) fun x _=>k0X x)
theorem k0Y (x:Contribution):q6F x x=some true:=by simp [q6F,j4L]
theorem j9u (xs:List Contribution):q8W xs xs=some true:=z1p (f:=z1m xs) (z5d (g:=q6F) fun x _=>k0Y x)
theorem j9v (x:Rule):z4j x x=some true:=by simp [z4j,j4K,j9t,j9u]
theorem j7A (xs:List Rule):z7h xs xs=some true:=z1p (f:=z9v xs) (z5d (g:=z4j) fun x _=>j9v x)
theorem j9w (x:Grammar):z1M x x=some true:=by simp [z1M,j9r,j7A]
end Go.Proofs.YteefempppabmkacGreat
