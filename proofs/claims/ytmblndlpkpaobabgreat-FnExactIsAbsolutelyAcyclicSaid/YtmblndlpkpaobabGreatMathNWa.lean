/- What those partial functions come to: plain lemmas on data; each bears its conditions in its statement. -/
import Derived.Test.YtmblndlpkpaobabGreatLiftX
import Derived.Test.YtmblndlpkpaobabGreatMathM6a
set_option linter.unusedVariables false
set_option linter.unusedSimpArgs false
set_option linter.ambiguousOpen false
set_option linter.unusedSectionVars false
set_option linter.unnecessarySimpa false
set_option linter.unusedVariables false
set_option linter.unusedSimpArgs false
namespace Go.Proofs.YtmblndlpkpaobabGreat
open Go Go.E
def uSzF {α:Type}(g:α→Int→Option Int)(n:Nat)(x:α):Prop:=∀ s:Int,0≤s→s≤1048576→g x s=some (if (n:Int)≤s then s - n else -1)
theorem j2v {α:Type}[Sz α]{f:Nat→α→Int→Option (Int ⊕ Int)}:∀ (xs:List α) (i:Nat) (s:Int),(∀ k x s,x∈xs→0≤s→s≤1048576→f k x s=some (if (Sz.szd x:Int)≤s then .inl (s - Sz.szd x) else .inr (-1)))→0≤s→s≤1048576 →
  q2I f i xs s=some (if ((szL xs - xs.length:Nat):Int)≤s then .inl (s - (szL xs - xs.length:Nat)) else .inr (-1))
 | [],i,s,_,h0,_=>by simp [q2I,szL,h0]
 | x :: xs,i,s,hf,h0,h1=>by
  have hl:=q4n xs
  have e:szL (x :: xs) - (x :: xs).length=Sz.szd x+(szL xs - xs.length):=by simp only [szL,List.length_cons]; omega
  rw [e]
  show (f i x s).bind _=_
  rw [hf i x s (by simp) h0 h1]
  by_cases hx:(Sz.szd x:Int)≤s
  ·rw [if_pos hx]
   show q2I f (i+1) xs (s - Sz.szd x)=_
   rw [j2v xs (i+1) _ (fun k y t hy=>hf k y t (by simp [hy])) (by omega) (by omega)]
   by_cases h2:((Sz.szd x+(szL xs - xs.length):Nat):Int)≤s
   ·rw [if_pos h2,if_pos (by omega)]; congr 2; omega
   ·rw [if_neg h2,if_neg (by omega)]
  ·rw [if_neg hx,if_neg (by omega)]; rfl
theorem z9x {α:Type}[Sz α]{xs:List α}{f:Nat→α→Int→Option (Int ⊕ Int)}(hf:∀ k x s,x∈xs→0≤s→s≤1048576→f k x s=some (if (Sz.szd x:Int)≤s then .inl (s - Sz.szd x) else .inr (-1)))(s:Int)(h0:0≤s)(h1:s≤1048576)(hl:xs.length≤9223372036854775807) :
  (grd (I64 (s - (xs.length:Int))) <| if (s - (xs.length:Int)) < 0 then some (-1) else (q2I f 0 xs (s - (xs.length:Int))).bind <| onr (fun r1=>some r1) fun s1=>some s1)=some (if (szL xs:Int)≤s then s - (szL xs:Nat) else -1):=by
 have hl':=q4n xs
 rw [q2B (by constructor<;>omega)]
 by_cases h2:s - (xs.length:Int) < 0
 ·rw [if_pos h2,if_neg (by omega)]
 ·rw [if_neg h2,j2v xs 0 _ hf (by omega) (by omega),Option.bind_some]
  by_cases h3:(szL xs:Int)≤s
  ·rw [if_pos h3,if_pos (by omega),q3q]; congr 1; omega
  ·rw [if_neg h3,if_neg (by omega),z8k]
theorem j0r {α:Type}[Sz α]{g:α→Int→Option Int}{xs:List α}(hg:∀ x∈xs,uSzF g (Sz.szd x) x)(k:Nat)(x:α)(s:Int)(hx:x∈xs)(h0:0≤s)(h1:s≤1048576) :
  ((g x s).bind fun y1=>if y1 < 0 then some (.inr (-1)) else some (.inl y1):Option (Int ⊕ Int))=some (if (Sz.szd x:Int)≤s then .inl (s - Sz.szd x) else .inr (-1)):=by
 rw [hg x hx s h0 h1,Option.bind_some]
 by_cases h2:(Sz.szd x:Int)≤s
 ·rw [if_pos h2,if_neg (by omega),if_pos h2]
 ·rw [if_neg h2,if_pos (by omega),if_neg h2]
theorem z0P (n m:Nat){k:Int→Option Int}{s:Int}(h0:0≤s)(h1:s≤1048576)(hn:n≤9223372036854775807)(hk:∀ t,0≤t→t≤1048576→k t=some (if (m:Int)≤t then t - m else -1)) :
  (grd (I64 (s - (n:Int))) <| if (s - (n:Int)) < 0 then some (-1) else k (s - (n:Int)))=some (if ((n+m:Nat):Int)≤s then s - (n+m:Nat) else -1):=by
 rw [q2B (by constructor<;>omega)]
 by_cases h2:s - (n:Int) < 0
 ·rw [if_pos h2,if_neg (by omega)]
 ·rw [if_neg h2,hk _ (by omega) (by omega)]
  by_cases h3:((n+m:Nat):Int)≤s
  ·rw [if_pos h3,if_pos (by omega)]; congr 1; omega
  ·rw [if_neg h3,if_neg (by omega)]
theorem q9f (n m:Nat){o:Option Int}{k:Int→Option Int}{s:Int}(h0:0≤s)(h1:s≤1048576)(ho:o=some (if (n:Int)≤s then s - n else -1))(hk:∀ t,0≤t→t≤1048576→k t=some (if (m:Int)≤t then t - m else -1)) :
  (o.bind fun y1=>if y1 < 0 then some (-1) else k y1)=some (if ((n+m:Nat):Int)≤s then s - (n+m:Nat) else -1):=by
 rw [ho,Option.bind_some]
 by_cases h2:(n:Int)≤s
 ·rw [if_pos h2,if_neg (by omega),hk _ (by omega) (by omega)]
  by_cases h3:((n+m:Nat):Int)≤s
  ·rw [if_pos h3,if_pos (by omega)]; congr 1; omega
  ·rw [if_neg h3,if_neg (by omega)]
 ·rw [if_neg h2,if_pos (by omega),if_neg (by omega)]
theorem z1U {t:Int}(h0:0≤t)(_:t≤1048576):some t=some (if ((0:Nat):Int)≤t then t - (0:Nat) else -1):=by rw [if_pos (by omega)]; congr 1; omega
theorem z3o {α:Type}[Rep α]{S:Nat→Prop}{w:World}{xs:List α}{v:Value}(h:rdS S w xs v){x:α}(hx:x∈xs):∃ cs,Rep.rd S w x cs:=by
 obtain⟨A,c,rfl,_⟩:=h.form
 obtain⟨k,hk⟩:=List.getElem?_of_mem hx
 obtain⟨y,b,o,cs,hy,_,_,hr,_⟩:=h.el (i:=k) (List.getElem?_eq_some_iff.1 hk).1
 rw [hk] at hy; cases hy
 exact⟨cs,hr⟩
theorem z3p {α:Type}[Rep α]{S:Nat→Prop}{w:World}{xs:List α}{v:Value}(h:rdS S w xs v):xs.length≤9223372036854775807:=by
 obtain⟨A,c,_,h1,h2⟩:=h.form
 exact Nat.le_trans h1 h2
section
variable {S:Nat→Prop}{w:World}{cs:List Value}{v:Value}
theorem j8F {xs:List ByteArray}(h:rdS S w xs v):uSzF z4c (szL xs) xs:=fun s h0 h1=>
 z9x (f:=z3i) (fun k x s hx h0 h1=>by
  unfold z3i
  obtain⟨c,hr⟩:=z3o h hx
  have hb:x.size≤9223372036854775807:=hr.2
  rw [q2B (by constructor<;>omega)]
  show (_:Option (Int ⊕ Int))=some (if (x.size:Int)≤s then Sum.inl (s - x.size) else Sum.inr (-1))
  by_cases h2:(x.size:Int)≤s
  ·rw [if_neg (by omega),if_pos h2]
  ·rw [if_pos (by omega),if_neg h2]) s h0 h1 (z3p h)
theorem j8G {x:Attribute}(h:Rep.rd S w x cs):uSzF z2c (Sz.szd x) x:=fun s h0 h1=>
 z0P x.Name.size 0 h0 h1 h.2.1 (k:=some) (fun t=>z1U)
theorem j7g {xs:List Attribute}(h:rdS S w xs v):uSzF z1p (szL xs) xs:=fun s h0 h1=>
 z9x (f:=z3v) (j0r fun x hx=>j8G (z3o h hx).choose_spec) s h0 h1 (z3p h)
theorem k0D {x:Symbol}(h:Rep.rd S w x cs):uSzF z5u (Sz.szd x) x:=fun s h0 h1=>by
 obtain⟨v1,_,hn,ha⟩:=h
 exact z0P x.Name.size _ h0 h1 hn fun t h0 h1=>q9f (szL x.Attributes) 0 h0 h1 (j7g ha t h0 h1) fun t=>z1U
theorem j8H {xs:List Symbol}(h:rdS S w xs v):uSzF z4b (szL xs) xs:=fun s h0 h1=>
 z9x (f:=z6k) (j0r fun x hx=>k0D (z3o h hx).choose_spec) s h0 h1 (z3p h)
theorem k0E {x:Occurrence}(h:x.Name.size≤9223372036854775807):uSzF z1q (Sz.szd x) x:=fun s h0 h1=>
 z0P x.Name.size 0 h0 h1 h (k:=some) (fun t=>z1U)
theorem j7h:∀ (m:Nat) (e:Expr),fuE e≤m→∀ {cs:List Value},Rep.rd S w e cs→uSzF (z2D m) (Sz.szd e) e:=by
 intro m
 induction m with
 | zero=>intro e h; rw [z1T] at h; omega
 | succ m ih=>
  intro e h cs hr s h0 h1
  rw [z1T] at h
  obtain⟨v6,_,_,_,_,_,h2,h3,h4⟩:=q2F.1 hr
  rw [q7o,Nat.add_assoc]
  show z6l (z2D m) e s=_
  unfold z6l
  exact z0P e.Symbol.size _ h0 h1 h2 fun t h0 h1=>z0P e.Name.size _ h0 h1 h3 fun t h0 h1=>
   q9f (szL e.Args) 0 h0 h1 (z9x (f:=z8T (z2D m)) (j0r fun x hx=>ih x (by have:=z4J hx; omega) (z3o h4 hx).choose_spec) t h0 h1 (z3p h4)) fun t=>z1U
theorem j3E {e:Expr}(h:Rep.rd S w e cs):uSzF z4d (Sz.szd e) e:=fun s h0 h1=>
 q8p (fuE e) fun n hn=>j7h n e hn h s h0 h1
theorem k0F {x:Equation}(h:Rep.rd S w x cs):uSzF z3j (Sz.szd x) x:=fun s h0 h1=>by
 obtain⟨v8,_,_,h2,h3,h4,h5,h6,h7,h8,h9⟩:=h
 have e:Sz.szd x=Sz.szd x.At+(Sz.szd x.Expr+0):=by rw [z3H,q7o,z9z]; omega
 rw [e]
 exact q9f _ _ h0 h1 (k0E h2 s h0 h1) fun t h0 h1=>q9f _ 0 h0 h1 (j3E (q2F.2 ⟨v8,rfl,h3,h4,h5,h6,h7,h8,h9⟩) t h0 h1) fun t=>z1U
theorem j8I {xs:List Equation}(h:rdS S w xs v):uSzF z2d (szL xs) xs:=fun s h0 h1=>
 z9x (f:=z4e) (j0r fun x hx=>k0F (z3o h hx).choose_spec) s h0 h1 (z3p h)
theorem k0G {x:Contribution}(h:Rep.rd S w x cs):uSzF q9D (Sz.szd x) x:=fun s h0 h1=>by
 obtain⟨v8,v15,_,h1',h2,h3,h4,h5,h6,h7,h8,h9,h10,h11,h12,h13,h14,h15,h16⟩:=h
 have e:Sz.szd x=x.Symbol.size+(x.Name.size+(Sz.szd x.Target+(Sz.szd x.Value+0))):=by rw [z0j,q7o,q7o]; omega
 rw [e]
 exact z0P _ _ h0 h1 h1' fun t h0 h1=>z0P _ _ h0 h1 h2 fun t h0 h1=>q9f _ _ h0 h1 (j3E (q2F.2 ⟨v8,rfl,h3,h4,h5,h6,h7,h8,h15⟩) t h0 h1) fun t h0 h1=>
  q9f _ 0 h0 h1 (j3E (q2F.2 ⟨v15,rfl,h9,h10,h11,h12,h13,h14,h16⟩) t h0 h1) fun t=>z1U
theorem j8J {xs:List Contribution}(h:rdS S w xs v):uSzF q8W (szL xs) xs:=fun s h0 h1=>
 z9x (f:=z1r) (j0r fun x hx=>k0G (z3o h hx).choose_spec) s h0 h1 (z3p h)
theorem j8K {x:Rule}(h:Rep.rd S w x cs):uSzF z8V (Sz.szd x) x:=fun s h0 h1=>by
 obtain⟨v2,v4,v5,_,h2,h3,h4,h5,h6⟩:=h
 have e:Sz.szd x=x.Name.size+(x.Left.size+(szL x.Right+(szL x.Equations+(szL x.Contributions+0)))):=by rw [z4y]; omega
 rw [e]
 exact z0P _ _ h0 h1 h2 fun t h0 h1=>z0P _ _ h0 h1 h3 fun t h0 h1=>q9f _ _ h0 h1 (j8F h4 t h0 h1) fun t h0 h1=>q9f _ _ h0 h1 (j8I h5 t h0 h1) fun t h0 h1=>
  q9f _ 0 h0 h1 (j8J h6 t h0 h1) fun t=>z1U
theorem j7i {xs:List Rule}(h:rdS S w xs v):uSzF z6R (szL xs) xs:=fun s h0 h1=>
 z9x (f:=z8W) (j0r fun x hx=>j8K (z3o h hx).choose_spec) s h0 h1 (z3p h)
theorem j8L {x:Grammar}(h:Rep.rd S w x cs):uSzF z1S (Sz.szd x) x:=fun s h0 h1=>by
 obtain⟨v0,v1,_,h2,h3⟩:=h
 have e:Sz.szd x=szL x.Symbols+(szL x.Rules+0):=by rw [z0X]; omega
 rw [e]
 exact q9f _ _ h0 h1 (j8H h2 s h0 h1) fun t h0 h1=>q9f _ 0 h0 h1 (j7i h3 t h0 h1) fun t=>z1U
end
theorem j8M {α:Type}{z y:α}(pre:List α)(n:Nat):List.set (pre++List.replicate (n+1) z) pre.length y=(pre++[y])++List.replicate n z:=by
 rw [List.set_append_right _ _ (Nat.le_refl _),Nat.sub_self,List.replicate_succ,List.set_cons_zero]; simp
theorem j7j {α:Type}{z:α}{f:Nat→α→List α→Option (List α)}:∀ (xs pre:List α),(∀ k x s,x∈xs→k < s.length→f k x s=some (List.set s k x))→q2G f pre.length xs (pre++List.replicate xs.length z)=some (pre++xs)
 | [],pre,_=>by simp [q2G]
 | x :: xs,pre,hf=>by
  show (f pre.length x _).bind _=_
  rw [hf _ _ _ (by simp) (by simp),List.length_cons,j8M,Option.bind_some]
  have:=j7j (z:=z) xs (pre++[x]) fun k y s hy=>hf k y s (by simp [hy])
  rw [List.length_append] at this
  rw [show pre.length+1=pre.length+[x].length from rfl,this]; simp
theorem z5D {α:Type}{z:α}{g:α→Option α}{b:Int}{xs:List α}{f:Nat→α→List α→Option (List α)}(hb:(xs.length:Int)*b≤281474976710656)(hl:xs.length≤1048576)(hf:∀ k x s,x∈xs→k < s.length→f k x s=some (List.set s k x)) :
  (grd (0≤(xs.length:Int)∧(xs.length:Int)*b≤281474976710656∧(xs.length:Int)≤9223372036854775807) <| (q2G f 0 xs (List.replicate xs.length z)).bind fun s1=>some s1)=some xs:=by
 rw [q2B ⟨by omega,hb,by omega⟩]
 have:=j7j (z:=z) xs [] hf
 rw [List.length_nil,List.nil_append,List.nil_append] at this
 rw [this]; rfl
theorem j0s {α:Type}{g:α→Option α}{xs:List α}(hg:∀ x∈xs,g x=some x)(k:Nat)(x:α)(s:List α)(hx:x∈xs)(hk:k < s.length):((g x).bind fun y1=>(s[k]?).bind fun x2=>some (List.set s k y1))=some (List.set s k x):=by
 rw [hg x hx,Option.bind_some,List.getElem?_eq_getElem hk]; rfl
theorem j8N {xs:List ByteArray}(h:szL xs≤1048576):z4g xs=some xs:=by
 have hl:=q4n xs
 exact z5D (g:=some) (by omega) (by omega) fun k x s _ hk=>by unfold z6n; rw [List.getElem?_eq_getElem hk]; rfl
theorem j7k {xs:List Attribute}(h:szL xs≤1048576):z1s xs=some xs:=by
 have hl:=q4n xs
 exact z5D (g:=some) (by omega) (by omega) (j0s (g:=z2e) fun x _=>rfl)
theorem k0H {x:Symbol}(h:Sz.szd x≤1048576):z1t x=some x:=by
 unfold z1t; rw [j7k (by rw [j0b] at h; omega)]; rfl
theorem j8O {xs:List Symbol}(h:szL xs≤1048576):z4f xs=some xs:=by
 have hl:=q4n xs
 exact z5D (g:=some) (by omega) (by omega) (j0s (g:=z1t) fun x hx=>k0H (by have:=z0M hx; omega))
theorem j7l:∀ (m:Nat) (e:Expr),fuE e≤m→Sz.szd e≤1048576→z1v m e=some e:=by
 intro m
 induction m with
 | zero=>intro e h; rw [z1T] at h; omega
 | succ m ih=>
  intro e h hs
  rw [z1T] at h
  show z6o (z1v m) e=_
  unfold z6o
  have hz:=q7o e
  have hl:=q4n e.Args
  have:z6S (z1v m) e.Args=some e.Args:=z5D (g:=some) (by omega) (by omega) (j0s (g:=z1v m) fun x hx=>ih x (by have:=z4J hx; omega) (by have:=j6h hx; omega))
  rw [this,Option.bind_some]; cases e; rfl
theorem j3F {e:Expr}(h:Sz.szd e≤1048576):z4h e=some e:=q8p (fuE e) fun n hn=>j7l n e hn h
theorem k0I {x:Equation}(h:Sz.szd x≤1048576):q8X x=some x:=by
 unfold q8X
 rw [show z1u x.At=some x.At from rfl,j3F (by rw [z3H] at h; rw [q7o]; omega)]; rfl
theorem j8P {xs:List Equation}(h:szL xs≤1048576):z2f xs=some xs:=by
 have hl:=q4n xs
 exact z5D (g:=some) (by omega) (by omega) (j0s (g:=q8X) fun x hx=>k0I (by have:=z0M hx; omega))
theorem k0J {x:Contribution}(h:Sz.szd x≤1048576):q6x x=some x:=by
 unfold q6x
 rw [z0j] at h
 rw [j3F (by rw [q7o]; omega),Option.bind_some,j3F (by rw [q7o]; omega)]; rfl
theorem j8Q {xs:List Contribution}(h:szL xs≤1048576):q8Y xs=some xs:=by
 have hl:=q4n xs
 exact z5D (g:=some) (by omega) (by omega) (j0s (g:=q6x) fun x hx=>k0J (by have:=z0M hx; omega))
theorem j8R {x:Rule}(h:Sz.szd x≤1048576):z4i x=some x:=by
 unfold z4i
 rw [z4y] at h
 rw [j8N (by omega),Option.bind_some,j8P (by omega),Option.bind_some,j8Q (by omega)]; rfl
theorem j7m {xs:List Rule}(h:szL xs≤1048576):z6U xs=some xs:=by
 have hl:=q4n xs
 exact z5D (g:=some) (by omega) (by omega) (j0s (g:=z4i) fun x hx=>j8R (by have:=z0M hx; omega))
theorem j8S {x:Grammar}(h:Sz.szd x≤1048576):q6c x=some x:=by
 unfold q6c
 rw [z0X] at h
 rw [j8O (by omega),Option.bind_some,j7m (by omega)]; rfl
theorem j9p {α:Type}{f:Nat→α→Unit→Option (Unit ⊕ Bool)}:∀ (xs:List α) (i:Nat),(∀ k x,xs[k]? = some x→f (i+k) x ()=some (.inl ()))→q2I f i xs ()=some (.inl ())
 | [],i,_=>rfl
 | x :: xs,i,hf=>by
  show (f i x ()).bind _=_
  have h0:=hf 0 x rfl
  rw [Nat.add_zero] at h0
  rw [h0]
  exact j9p xs (i+1) fun k y hy=>by have:=hf (k+1) y hy; rwa [show i+1+k=i+(k+1) by omega]
theorem z5E {α:Type}{xs:List α}{f:Nat→α→Unit→Option (Unit ⊕ Bool)}(hf:∀ k x,xs[k]? = some x→f k x ()=some (.inl ())) :
  (if (xs.length:Int)=(xs.length:Int) then (q2I f 0 xs ()).bind <| onr (fun r1=>some r1) fun _=>some true else some false)=some true:=by
 rw [if_pos rfl,j9p xs 0 fun k x h=>by rw [Nat.zero_add]; exact hf k x h]; rfl
theorem j0t {α:Type}{g:α→α→Option Bool}{xs:List α}(hg:∀ x∈xs,g x x=some true)(k:Nat)(x:α)(h:xs[k]? = some x):((xs[k]?).bind fun x2=>(g x x2).bind fun y1=>if y1=true then some (.inl ()) else some (.inr false):Option (Unit ⊕ Bool))=some (.inl ()):=by
 rw [h,Option.bind_some,hg x (List.mem_of_getElem? h)]; rfl
theorem j8T (x:Attribute):q8e x x=some true:=by simp [q8e]
theorem j7n (xs:List Attribute):z1w xs xs=some true:=z5E (f:=z3w xs) (j0t (g:=q8e) fun x _=>j8T x)
theorem k0K (x:Symbol):z1x x x=some true:=by simp [z1x,j7n]
theorem j8U (xs:List Symbol):z4j xs xs=some true:=z5E (f:=z6q xs) (j0t (g:=z1x) fun x _=>k0K x)
theorem j8V (xs:List ByteArray):z4k xs xs=some true:=z5E (f:=z3l xs) fun k x h=>by unfold z3l; rw [h,Option.bind_some,if_pos rfl]
theorem j8W (x:Occurrence):q8Z x x=some true:=by simp [q8Z]
theorem j7o:∀ (m:Nat) (e:Expr),fuE e≤m→z0f m e e=some true:=by
 intro m
 induction m with
 | zero=>intro e h; rw [z1T] at h; omega
 | succ m ih=>
  intro e h
  rw [z1T] at h
  show z6r (z0f m) e e=_
  have:z6V (z0f m) e.Args e.Args=some true:=z5E (f:=z9b (z0f m) e.Args) (j0t (g:=z0f m) fun x hx=>ih x (by have:=z4J hx; omega))
  simp [z6r,this]
theorem j4t (e:Expr):z4l e e=some true:=q8p (fuE e) fun n hn=>j7o n e hn
theorem k0L (x:Equation):q9a x x=some true:=by simp [q9a,j8W,j4t]
theorem j8X (xs:List Equation):z2g xs xs=some true:=z5E (f:=z4m xs) (j0t (g:=q9a) fun x _=>k0L x)
theorem k0M (x:Contribution):q6y x x=some true:=by simp [q6y,j4t]
theorem j8Y (xs:List Contribution):q9b xs xs=some true:=z5E (f:=z1y xs) (j0t (g:=q6y) fun x _=>k0M x)
theorem j8Z (x:Rule):z4n x x=some true:=by simp [z4n,j8V,j8X,j8Y]
theorem j7p (xs:List Rule):z6X xs xs=some true:=z5E (f:=z9d xs) (j0t (g:=z4n) fun x _=>j8Z x)
theorem j9a (x:Grammar):z0g x x=some true:=by simp [z0g,j8U,j7p]
theorem j7q {p q:Grammar→Option Bool}{g:Grammar}{S:Nat→Prop}{w:World}{cs:List Value}(h:Rep.rd S w g cs)(hpq:Sz.szd g≤1048576→∃ b,p g=some b∧q g=some b) :
  ((z1S g 1048576).bind fun y1=>if y1 < 0 then some true else (q6c g).bind fun y2=>(p y2).bind fun y3=>(q6c g).bind fun y4=>(q y4).bind fun y5=>if y5=y3 then (q6c g).bind fun y6=>(z0g y4 y6).bind fun y7=>if y7=true then some true else some false else some false)=some true:=by
 rw [j8L h 1048576 (by omega) (by omega),Option.bind_some]
 by_cases h1:(Sz.szd g:Int)≤1048576
 ·have h2:Sz.szd g≤1048576:=by omega
  obtain⟨b,e1,e2⟩:=hpq h2
  rw [if_pos h1,if_neg (by omega),j8S h2]
  simp only [Option.bind_some]
  rw [e1,Option.bind_some,e2,Option.bind_some,if_pos rfl,j9a,Option.bind_some,if_pos rfl]
 ·rw [if_neg h1,if_pos (by omega)]
end Go.Proofs.YtmblndlpkpaobabGreat
