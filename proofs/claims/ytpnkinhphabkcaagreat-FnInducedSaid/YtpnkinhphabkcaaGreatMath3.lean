/- What those partial functions come to: plain lemmas on data; each bears its conditions in its statement. -/
import Derived.Test.YtpnkinhphabkcaaGreatMath2
set_option linter.unusedVariables false
set_option linter.unusedSimpArgs false
set_option linter.ambiguousOpen false
set_option linter.unusedSectionVars false
set_option linter.unnecessarySimpa false
namespace Go.Proofs.YtpnkinhphabkcaaGreat
open Go Go.E
section
variable {α β ρ σ:Type}{Q:β→Prop}{b:List UInt8}
theorem Ok.bif {c:Prop}[Decidable c]{A B:Option α}{k:α→Option β}(h1:c→Ok Q (A.bind k))(h2:¬ c→Ok Q (B.bind k)):Ok Q ((if c then A else B).bind k):=by
 by_cases hc:c
 ·rw [if_pos hc]; exact h1 hc
 ·rw [if_neg hc]; exact h2 hc
theorem Ok.bso {x:α}{k:α→Option β}(h:Ok Q (k x)):Ok Q ((some x).bind k):=h
theorem Ok.bbi {γ:Type}{A:Option α}{B:α→Option γ}{k:γ→Option β}(h:Ok Q (A.bind fun x=>(B x).bind k)):Ok Q ((A.bind B).bind k):=by
 rw [Option.bind_assoc]; exact h
theorem Ok.bgr {c:Prop}[Decidable c]{A:Option α}{k:α→Option β}(hc:c)(h:Ok Q (A.bind k)):Ok Q ((Go.E.grd c A).bind k):=by rw [q3G hc]; exact h
theorem Ok.get {l:List α}{j:Nat}{k:α→Option β}(hj:j < l.length)(h:∀ x,x∈l→Ok Q (k x)):Ok Q ((l[j]?).bind k):=by
 obtain⟨x,hx⟩:∃ x,l[j]? = some x:=⟨_,List.getElem?_eq_getElem hj⟩
 rw [hx]; exact h x (List.mem_of_getElem? hx)
theorem Ok.eq {A:Option α}{x:α}{k:α→Option β}(hA:A=some x)(h:Ok Q (k x)):Ok Q (A.bind k):=by rw [hA]; exact h
theorem drK {P:α→Prop}{o:Option (α × l1Cur)}(ho:Dr b P o){k:α × l1Cur→Option β}(hk:∀ y i' h',P y→0≤i'→Ok Q (k (y,⟨b,i',h'⟩))):Ok Q (o.bind k):=by
 obtain⟨⟨y,z⟩,rfl,hy,hz,he⟩:=ho
 obtain⟨zb,zi,zh⟩:=z
 dsimp only at he hz hy
 subst he
 exact hk y zi zh hy hz
theorem cb {i h:Int}(hi:0≤i):CB b ⟨b,i,h⟩:=⟨hi,rfl⟩
theorem Dr.re {P:α→Prop}{y:α}{i h:Int}(hy:P y)(hi:0≤i):Dr b P (some (y,(⟨b,i,h⟩:l1Cur))):=⟨_,rfl,hy,hi,rfl⟩
theorem j4O {P:σ→Prop}{Q:ρ→Prop}{f:σ→Option (σ ⊕ ρ)}(μ:σ→Nat)(hf:∀ s,P s→Ok (fun z=>match z with | .inl s'=>P s'∧μ s' < μ s | .inr r=>Q r) (f s)):∀ s,P s→Ok Q (q4L f s):=by
 have key:∀ n s,μ s < n→P s→Ok Q (q4L f s):=by
  intro n
  induction n with
  | zero=>intro s h; omega
  | succ n ih=>
   intro s h hp
   obtain⟨z,hz,hq⟩:=hf s hp
   cases z with
   | inl s'=>rw [q3W hz]; exact ih s' (by have:=hq.2; omega) hq.1
   | inr r=>exact⟨r,q3I hz,hq⟩
 exact fun s hs=>key _ s (Nat.lt_succ_self _) hs
end
theorem j7V {α β:Type}{Q:β→Prop}(P:Nat→List α→Prop){f:Nat→Int × Int × List α→Option (Int × Int × List α)}{k:Int × Int × List α→Option β}{n:Nat}{i h:Int}{l:List α}(hi:0≤i)(h0:P 0 l)
  (hf:∀ j l i h,j < n→0≤i→P j l→Ok (fun s:Int × Int × List α=>0≤s.1∧P (j+1) s.2.2) (f j (i,h,l))) (hk:∀ l i h,0≤i→P n l→Ok Q (k (i,h,l))):Ok Q ((eachN f 0 n (i,h,l)).bind k):=by
 obtain⟨s,e,h1⟩:=j4B (P:=fun k (s:Int × Int × List α)=>0≤s.1∧P k s.2.2) (f:=f) (n:=n) (i:=0) (s:=(i,h,l)) ⟨hi,h0⟩ fun j s _ hj hs=>hf j _ _ _ (by omega) hs.1 hs.2
 rw [e]
 rw [Nat.zero_add] at h1
 exact hk _ _ _ h1.1 h1.2
theorem k5T {γ α β:Type}{Q:β→Prop}(P:Nat→List α→Prop){f:Nat→γ→Int × Int × List α→Option (Int × Int × List α)}{k:Int × Int × List α→Option β}{xs:List γ}{i h:Int}{l:List α}(hi:0≤i)(h0:P 0 l)
  (hf:∀ j x l i h,x∈xs→j < xs.length→0≤i→P j l→Ok (fun s:Int × Int × List α=>0≤s.1∧P (j+1) s.2.2) (f j x (i,h,l))) (hk:∀ l i h,0≤i→P xs.length l→Ok Q (k (i,h,l))):Ok Q ((eachL f 0 xs (i,h,l)).bind k):=by
 obtain⟨s,e,h1⟩:=z8P (P:=fun k (s:Int × Int × List α)=>0≤s.1∧P k s.2.2) (f:=f) (xs:=xs) (i:=0) (s:=(i,h,l)) ⟨hi,h0⟩ fun j x s hx _ hj hs=>hf j x _ _ _ hx (by omega) hs.1 hs.2
 rw [e]
 rw [Nat.zero_add] at h1
 exact hk _ _ _ h1.1 h1.2
def SB (s:Symbol):Prop:=s.Name.size≤8∧1≤s.Attributes.length∧s.Attributes.length≤5∧∀ a∈s.Attributes,a.Name.size≤8
def RB (r:Rule):Prop:=r.Name.size≤8∧r.Left.size≤8∧r.Right.length≤5∧(∀ x∈r.Right,x.size≤8)
def SBs (l:List Symbol):Prop:=1≤l.length∧l.length≤3∧∀ s∈l,SB s
theorem j6v {α:Type}[Sz α]{m:Nat}:∀ {l:List α},(∀ x∈l,Sz.szd x≤m)→szL l≤l.length*(m+1)
 | [],_=>by simp [szL]
 | x :: l,h=>by
  have h1:=j6v (m:=m) (l:=l) fun y hy=>h y (by simp [hy])
  have h2:=h x (by simp)
  simp only [szL,List.length_cons,Nat.add_mul]; omega
theorem RB.rok {r:Rule}(h:RB r):ROk r:=by have:=h.2.2.1; show r.Right.length≤1048576; omega
section
variable {b:List UInt8}(hb:b.length≤1048576)
include hb
theorem k6E {x:ByteArray}(h:x∈[(⟨#[97]⟩:ByteArray),(⟨#[98]⟩:ByteArray),(⟨#[99]⟩:ByteArray),(⟨#[100]⟩:ByteArray)]):x.size≤8:=by
 simp only [List.mem_cons,List.not_mem_nil,or_false] at h
 rcases h with h | h | h | h<;>rw [h]<;>decide
theorem k4H {nm:ByteArray}(hn:nm.size≤8)(a2 a3:Bool){i h:Int}(hi:0≤i):Dr b SB (z4I nm a2 a3 ⟨b,i,h⟩):=by
 unfold z4I
 refine drK (q4K hb 4 ⟨hi,rfl⟩) fun y i1 h1 hy hi1=>?_
 have h4:=hy.2.1 (by omega)
 refine .grd (by constructor<;>omega) ?_
 refine j7V (fun k l=>l.length=k∧∀ a∈l,a.Name.size≤8) hi1 ⟨rfl,by simp⟩ (fun k s1 s2 s3 hk hs1 hs=>?_) fun s1 i2 h2 p1 hs=>?_
 ·obtain⟨hs2,hs3⟩:=hs
  unfold j3f
  dsimp only
  refine .bbi (.get (by simp; omega) fun x1 hx1=>?_)
  have hx1:=k6E hb hx1
  have fin:∀ (t m:Int) (i' h' : Int),0≤i'→Ok (fun s:Int × Int × List Attribute=>0≤s.1∧(s.2.2.length=k+1∧∀ a∈s.2.2,a.Name.size≤8)) (some (i',h',s1++[(⟨x1,t,m,false⟩:Attribute)])):=fun t m i' h' hi'=>by
   refine .ret ⟨hi',by simp [hs2],fun a ha=>?_⟩
   simp only [List.mem_append,List.mem_cons,List.not_mem_nil,or_false] at ha
   rcases ha with ha | ha
   ·exact hs3 a ha
   ·rw [ha]; exact hx1
  refine .bbi (drK (z0Q hb (by simp) ⟨hs1,rfl⟩) fun t i2 h2 _ hi2=>?_)
  refine .bbi (drK (z0Q hb (by simp) ⟨hi2,rfl⟩) fun m i3 h3 _ hi3=>?_)
  cases a2<;>cases a3<;>dsimp only
  all_goals
   repeat' first
    | ((with_reducible refine .bso ?_); try dsimp only)
    | (with_reducible exact fin _ _ _ _ (by assumption))
    | ((with_reducible refine .bbi ?_); try dsimp only)
    | (with_reducible refine .bif (fun _=>?_) fun _=>?_)
    | (with_reducible refine .ite (fun _=>?_) fun _=>?_)
    | ((with_reducible refine drK (z0f hb _ (cb (by assumption))) fun _ _ _ _ _=>?_); try dsimp only)
    | ((with_reducible refine drK (z0Q hb (by simp) (cb (by assumption))) fun _ _ _ _ _=>?_); try dsimp only)
    | ((with_reducible refine drK (q4K hb _ (cb (by assumption))) fun _ _ _ _ _=>?_); try dsimp only)
    | (refine .bgr (by constructor<;>omega) ?_)
    | (refine .grd (by constructor<;>omega) ?_)
 ·obtain⟨p2,p3⟩:=hs
  dsimp only
  exact Dr.re ⟨hn,by dsimp only; omega,by dsimp only; omega,p3⟩ p1
end
end Go.Proofs.YtpnkinhphabkcaaGreat
namespace Go.Proofs.YtpnkinhphabkcaaGreat
open Go Go.E
theorem j4P {g:Grammar}(h:SBs g.Symbols)(nm:ByteArray):(q6V g nm).1.Attributes.length≤5∧∀ a∈(q6V g nm).1.Attributes,a.Name.size≤8:=by
 unfold q6V
 split
 ·rename_i y hy
  have:=h.2.2 y (List.mem_of_find?_eq_some hy)
  exact⟨this.2.2.1,this.2.2.2⟩
 ·exact⟨by simp [zS],by simp [zS]⟩
theorem k3U {y:Symbol}(h:∀ a∈y.Attributes,a.Name.size≤8)(nm:ByteArray):q5X y nm=some (z2M y nm):=by
 unfold q5X z2M
 rw [z2f (p:=fun a=>decide (a.Name=nm)) (r:=fun a=>(a,true)) fun k x _=>⟨fun hp=>by unfold z1I; rw [if_pos (by simpa using hp)],fun hp=>by unfold z1I; rw [if_neg (by simpa using hp)]⟩]
 cases y.Attributes.find? fun a=>decide (a.Name=nm)<;>rfl
theorem SBs.g {g:Grammar}(h:SBs g.Symbols):GOk g:=fun y hy=>by have:=(h.2.2 y hy).2.2.1; omega
theorem k3V {g:Grammar}(hs:SBs g.Symbols){r:Rule}(hr:r.Right.length≤5)(k:Int):Ok (fun q=>∀ o∈q,o.Name.size≤8) (z2i g r k):=by
 unfold z2i
 refine Ok.bind (Q:=fun q=>∀ o∈q,o.Name.size≤8) (j4O (P:=fun s:List Occurrence × Int=>0≤s.2∧s.2≤r.Right.length+1∧(s.1.length:Int)≤5*s.2∧∀ o∈s.1,o.Name.size≤8) (fun s=>(r.Right.length+1 - s.2).toNat) ?_ _ ⟨by simp,by simp; omega,by simp,by simp⟩) fun q hq=>.ret hq
 rintro⟨q,p⟩ ⟨h1,h2,h3,h4⟩
 dsimp only at h1 h2 h3 h4
 unfold j5I
 dsimp only
 refine .ite (fun hp=>?_) fun _=>.ret h4
 refine .eq (z3Z (show r.Right.length≤1048576 by omega) p) ?_
 refine .eq (z2N hs.g _) ?_
 have hff:=j4P hs (q5Q r p)
 generalize q6V g (q5Q r p)=fs at hff
 obtain⟨y,yb⟩:=fs
 obtain⟨f1,f2⟩:=hff
 dsimp only at f1 f2 ⊢
 refine Ok.bind (Q:=fun q'=>q'.length≤q.length+5∧∀ o∈q',o.Name.size≤8) ((z8P (P:=fun k q'=>q'.length≤q.length+k∧∀ o∈q',o.Name.size≤8) (i:=0) ⟨by omega,h4⟩ ?_).mono fun q' hq=>⟨by omega,hq.2⟩) fun q' hq=>.grd (by constructor<;>omega) (.ret ⟨⟨by dsimp only; omega,by dsimp only; omega,by dsimp only; omega,hq.2⟩,by dsimp only; omega⟩)
 intro j a l ha _ hj hl
 have hl1:=hl.1
 have hl2:=hl.2
 have ha:=f2 a ha
 unfold j5H
 dsimp only
 have e1:Ok (fun q' : List Occurrence=>q'.length≤q.length+(j+1)∧∀ o∈q',o.Name.size≤8) (some l):=.ret ⟨by omega,hl2⟩
 have e2:Ok (fun q' : List Occurrence=>q'.length≤q.length+(j+1)∧∀ o∈q',o.Name.size≤8) (some (l++[(⟨p,a.Name⟩:Occurrence)])):=.ret ⟨by simp; omega,fun o ho=>by
  simp only [List.mem_append,List.mem_cons,List.not_mem_nil,or_false] at ho
  rcases ho with ho | ho
  ·exact hl2 o ho
  ·rw [ho]; exact ha⟩
 have hb:([]:List UInt8).length≤1048576:=by simp
 repeat' first
  | ((with_reducible refine .bso ?_); try dsimp only)
  | (with_reducible exact e1)
  | (with_reducible exact e2)
  | ((with_reducible refine .bbi ?_); try dsimp only)
  | (with_reducible refine .bif (fun _=>?_) fun _=>?_)
  | (with_reducible refine .ite (fun _=>?_) fun _=>?_)
  | ((with_reducible refine drK (z0f hb _ (cb (by assumption))) fun _ _ _ _ _=>?_); try dsimp only)
  | ((with_reducible refine drK (z0Q hb (by simp) (cb (by assumption))) fun _ _ _ _ _=>?_); try dsimp only)
  | ((with_reducible refine drK (q4K hb _ (cb (by assumption))) fun _ _ _ _ _=>?_); try dsimp only)
  | (refine .bgr (by constructor<;>omega) ?_)
  | (refine .grd (by constructor<;>omega) ?_)
theorem k7e (a:Int):Ok (fun _=>True) (q5b a):=by
 unfold q5b
 rw [q9U,Option.bind_some,q9U,Option.bind_some]
 repeat' first
  | exact .ret trivial
  | refine .ite (fun _=>?_) fun _=>?_
theorem k7f (a:Int)(x y:Expr):z3y a x y=some (⟨4,a,0,0,(⟨#[]⟩:ByteArray),(⟨#[]⟩:ByteArray),[x,y]⟩:Expr):=rfl
theorem k5U (g:Grammar)(r:Rule)(rem:Bool):∀ (m n1 n2:Nat),m < n1→m < n2→∀ (k d:Int) (o:l1Cur),d≤m+1→q6K n1 g r k d rem o=q6K n2 g r k d rem o:=by
 intro m
 induction m with
 | zero=>
  intro n1 n2 h1 h2 k d o hd
  obtain⟨n1,rfl⟩:∃ q,n1=q+1:=⟨n1 - 1,by omega⟩
  obtain⟨n2,rfl⟩:∃ q,n2=q+1:=⟨n2 - 1,by omega⟩
  show q7z (q6K n1) g r k d rem o=q7z (q6K n2) g r k d rem o
  unfold q7z
  simp only [if_pos (show d < 2 by omega),Option.bind_some,if_true]
 | succ m ih=>
  intro n1 n2 h1 h2 k d o hd
  obtain⟨n1,rfl⟩:∃ q,n1=q+1:=⟨n1 - 1,by omega⟩
  obtain⟨n2,rfl⟩:∃ q,n2=q+1:=⟨n2 - 1,by omega⟩
  show q7z (q6K n1) g r k d rem o=q7z (q6K n2) g r k d rem o
  have h:∀ k o,q6K n1 g r k (d - 1) rem o=q6K n2 g r k (d - 1) rem o:=fun k o=>ih n1 n2 (by omega) (by omega) k (d - 1) o (by omega)
  unfold q7z
  simp only [h]
section
variable {b:List UInt8}(hb:b.length≤1048576)
include hb
theorem k3W {g:Grammar}(hs:SBs g.Symbols){r:Rule}(hr:r.Right.length≤5)(rem:Bool):∀ (m n:Nat),m < n→∀ (k d i h:Int),d≤m+1→-1000+m≤d→d≤1000→0≤i→Dr b (fun e=>Sz.szd e≤fb m) (q6K n g r k d rem ⟨b,i,h⟩):=by
 intro m
 induction m with
 | zero=>
  intro n hn k d i h hd hd0 hd1 hi
  obtain⟨n,rfl⟩:∃ q,n=q+1:=⟨n - 1,by omega⟩
  show Dr b _ (q7z (q6K n) g r k d rem ⟨b,i,h⟩)
  unfold q7z
  rw [if_pos (show d < 2 by omega)]
  dsimp only
  rw [Option.bind_some]
  dsimp only
  rw [if_pos rfl]
  unfold Dr
  have hf:=j3w hb 0
  repeat' first
   | ((with_reducible refine .bso ?_); try dsimp only)
   | ((with_reducible refine .bind (k3V hs hr _) fun _ _=>?_))
   | ((with_reducible refine drK (z9x hb _ (by assumption) (cb (by assumption))) fun _ _ _ _ _=>?_); try dsimp only)
   | ((with_reducible refine .bbi ?_); try dsimp only)
   | (with_reducible refine .bif (fun _=>?_) fun _=>?_)
   | (with_reducible refine .ite (fun _=>?_) fun _=>?_)
   | ((with_reducible refine drK (z0f hb _ (cb (by assumption))) fun _ _ _ _ _=>?_); try dsimp only)
   | ((with_reducible refine drK (z0Q hb (by simp) (cb (by assumption))) fun _ _ _ _ _=>?_); try dsimp only)
   | ((with_reducible refine drK (q4K hb _ (cb (by assumption))) fun _ _ _ _ _=>?_); try dsimp only)
   | (refine .bgr (by constructor<;>omega) ?_)
   | (refine .grd (by constructor<;>omega) ?_)
  all_goals refine⟨_,rfl,?_,by assumption,rfl⟩
  all_goals dsimp only
  all_goals first
   | (rw [j3v hb,z3i hb]; omega)
   | omega
 | succ m ih=>
  intro n hn k d i h hd hd0 hd1 hi
  obtain⟨n,rfl⟩:∃ q,n=q+1:=⟨n - 1,by omega⟩
  have hr1:∀ k i h,0≤i→Dr b (fun e=>Sz.szd e≤fb m) (q6K n g r k (d - 1) rem ⟨b,i,h⟩):=fun k i h hi=>ih n (by omega) k (d - 1) i h (by omega) (by omega) (by omega) hi
  show Dr b _ (q7z (q6K n) g r k d rem ⟨b,i,h⟩)
  unfold q7z Dr
  dsimp only
  have hl:=hs.1
  have hf:=j3w hb m
  have hg:=k1y hb m
  have hid:I64 (d - 1):=by constructor<;>omega
  repeat' first
   | ((with_reducible refine .bso ?_); try dsimp only)
   | ((with_reducible refine .bind (k3V hs hr _) fun _ _=>?_))
   | ((with_reducible refine drK (z9x hb _ (by assumption) (cb (by assumption))) fun _ _ _ _ _=>?_); try dsimp only)
   | ((with_reducible refine drK (hr1 _ _ _ (by assumption)) fun _ _ _ _ _=>?_); try dsimp only)
   | ((with_reducible refine .bind (k7e _) fun _ _=>?_); try dsimp only)
   | ((with_reducible refine .eq (k7f _ _ _) ?_); try dsimp only)
   | ((with_reducible refine .grd hid ?_))
   | ((with_reducible refine .grd (by omega) ?_))
   | ((with_reducible refine .get (l:=g.Symbols) (by omega) fun x hx=>?_); obtain⟨_,_,_,hat⟩:=hs.2.2 x hx)
   | ((with_reducible refine .get (by omega) fun x hx=>?_); have hxn:=hat x hx)
   | ((with_reducible refine .bbi ?_); try dsimp only)
   | (with_reducible refine .bif (fun _=>?_) fun _=>?_)
   | (with_reducible refine .ite (fun _=>?_) fun _=>?_)
   | ((with_reducible refine drK (z0f hb _ (cb (by assumption))) fun _ _ _ _ _=>?_); try dsimp only)
   | ((with_reducible refine drK (z0Q hb (by simp) (cb (by assumption))) fun _ _ _ _ _=>?_); try dsimp only)
   | ((with_reducible refine drK (q4K hb _ (cb (by assumption))) fun _ _ _ _ _=>?_); try dsimp only)
   | (refine .bgr (by constructor<;>omega) ?_)
   | (refine .grd (by constructor<;>omega) ?_)
  all_goals refine⟨_,rfl,?_,by assumption,rfl⟩
  all_goals dsimp only at *
  all_goals first
   | (rw [j3v hb,z3i hb]; omega)
   | (rw [k4C hb]; omega)
   | (rw [k1x hb,z3i hb]; omega)
   | (rw [j8H hb,z3i hb]; omega)
   | omega
theorem k5V {g:Grammar}(hs:SBs g.Symbols){r:Rule}(hr:r.Right.length≤5)(rem:Bool)(k d i h:Int)(h0:0≤d)(h3:d≤3)(hi:0≤i):Dr b (fun e=>Sz.szd e≤320) (z9h g r k d rem ⟨b,i,h⟩):=
 k1w (N:=3) (fun n hn=>k5U g r rem 2 (n+1) n (by omega) (by omega) k d _ (by omega)) (k3W hb hs hr rem 2 3 (by omega) k d i h (by omega) (by omega) (by omega) hi)
end
end Go.Proofs.YtpnkinhphabkcaaGreat
namespace Go.Proofs.YtpnkinhphabkcaaGreat
open Go Go.E
theorem j4Q {α β:Type}{f:α→List β}{C:Nat}(h:∀ x,(f x).length≤C):∀ l:List α,(l.flatMap f).length≤l.length*C
 | []=>by simp
 | x :: l=>by
  have h1:=j4Q h l
  have h2:=h x
  simp only [List.flatMap_cons,List.length_append,List.length_cons,Nat.add_mul]; omega
theorem k2p {g:Grammar}(hs:SBs g.Symbols)(r:Rule)(k:Nat):(reqK g r k).length≤5∧∀ o∈reqK g r k,o.Name.size≤8:=by
 obtain⟨f1,f2⟩:=j4P hs (q5Q r (k:Int))
 unfold reqK
 refine⟨by rw [List.length_map]; exact Nat.le_trans (List.length_filter_le _ _) f1,fun o ho=>?_⟩
 obtain⟨a,ha,rfl⟩:=List.mem_map.1 ho
 exact f2 a (List.mem_filter.1 ha).1
theorem k5W {g:Grammar}(hs:SBs g.Symbols){r:Rule}(hr:r.Right.length≤5):(reqL g r).length≤30∧∀ o∈reqL g r,o.Name.size≤8:=by
 unfold reqL
 refine⟨?_,fun o ho=>?_⟩
 ·have:=j4Q (C:=5) (fun k=>(k2p hs r k).1) (List.range' 0 (r.Right.length+1))
  rw [List.length_range'] at this
  omega
 ·obtain⟨k,_,hk⟩:=List.mem_flatMap.1 ho
  exact (k2p hs r k).2 o hk
theorem z8Y {α:Type}[Sz α](l:List α)(x:α):szL (l++[x])=szL l+(1+Sz.szd x):=by rw [z9d]; rfl
theorem j6w (o:Occurrence)(e:Expr):Sz.szd (⟨o,e⟩:Equation)=o.Name.size+Sz.szd e:=by rw [z9V,q7a]; dsimp only; omega
theorem k4I (s m:ByteArray)(e f:Expr):Sz.szd (⟨s,m,e,f⟩:Contribution)=s.size+m.size+Sz.szd e+Sz.szd f:=by rw [z6b,q7a,q7a]; dsimp only; omega
section
variable {b:List UInt8}(hb:b.length≤1048576)
include hb
theorem k5X {g:Grammar}(hs:SBs g.Symbols){r:Rule}(hr:RB r)(he:r.Equations=[])(rem:Bool){i h:Int}(hi:0≤i):Dr b (fun q=>RB q∧(szL q.Equations≤12000∧q.Equations.length≤30)∧q.Contributions=r.Contributions) (z4L g r rem ⟨b,i,h⟩):=by
 have h5:=hr.2.2.1
 obtain⟨q1,q2⟩:=k5W hs h5
 unfold z4L
 refine .eq (j7F hs.g hr.rok) ?_
 refine k5T (fun j (l:List Equation)=>l.length=j∧szL l≤j*400) hi (by rw [he]; exact⟨rfl,by simp [szL]⟩) (fun j x l i h hx hj hi hl=>?_) fun l i h hi hl=>?_
 ·obtain⟨hl1,hl2⟩:=hl
  have hx:=q2 x hx
  have fin:∀ (e:Expr) (i' h' : Int),Sz.szd e≤320→0≤i'→Ok (fun s:Int × Int × List Equation=>0≤s.1∧(s.2.2.length=j+1∧szL s.2.2≤(j+1)*400)) (some (i',h',l++[(⟨x,e⟩:Equation)])):=fun e i' h' h1 hi'=>.ret ⟨hi',by simp [hl1],by dsimp only; rw [z8Y,j6w]; omega⟩
  unfold j1l
  dsimp only
  refine .bbi (.eq (z3Z (show r.Right.length≤1048576 by omega) _) ?_)
  refine .bbi (.eq (z2N hs.g _) ?_)
  have hff:=j4P hs (q5Q r x.Pos)
  generalize q6V g (q5Q r x.Pos)=fs at hff
  obtain⟨y,yb⟩:=fs
  obtain⟨f1,f2⟩:=hff
  dsimp only at f1 f2 ⊢
  refine .bbi (.eq (k3U f2 _) ?_)
  generalize z2M y x.Name=fa
  obtain⟨a,ab⟩:=fa
  dsimp only
  refine .bbi (drK (q4K hb 3 (cb hi)) fun d i1 h1 hd hi1=>?_)
  have hd3:=hd.2.1 (by omega)
  refine .bgr (by constructor<;>omega) ?_
  refine .bbi (drK (k5V hb hs (r:=⟨r.Name,r.Left,r.Right,r.Literal,l,r.Contributions⟩) h5 rem _ _ _ _ (by omega) (by omega) hi1) fun e i2 h2 he2 hi2=>?_)
  dsimp only at he2 ⊢
  refine .bbi (.eq (z8O (by have:=k1A hb he2; omega)) ?_)
  refine .bif (fun _=>?_) fun _=>?_
  ·refine .bgr (by constructor<;>omega) ?_
   exact fin _ _ _ he2 hi2
  ·refine .bbi (drK (z9x hb _ (by simp) (cb hi2)) fun e3 i3 h3 he3 hi3=>?_)
   refine .bgr (by constructor<;>omega) ?_
   exact fin _ _ _ (by show Sz.szd e3≤320; have:Sz.szd e3≤8:=he3; omega) hi3
 ·exact⟨_,rfl,⟨hr,⟨by have:=hl.2; dsimp only; omega,by have:=hl.1; dsimp only; omega⟩,rfl⟩,hi,rfl⟩
theorem k6F {g:Grammar}(hs:SBs g.Symbols){r:Rule}(hr:RB r)(hc:r.Contributions=[]){i h:Int}(hi:0≤i):Dr b (fun q=>RB q∧q.Equations=r.Equations∧szL q.Contributions≤200) (z6s g r ⟨b,i,h⟩):=by
 have h5:=hr.2.2.1
 unfold z6s
 refine k5T (fun _ (l:List Contribution)=>l.length≤2∧szL l≤l.length*40) hi (by rw [hc]; simp [szL]) (fun j x l i h hx hj hi hl=>?_) fun l i h hi hl=>?_
 ·obtain⟨s1,_,_,s2⟩:=hs.2.2 x hx
  unfold j3i
  dsimp only
  refine k5T (fun _ (l:List Contribution)=>l.length≤2∧szL l≤l.length*40) hi hl (fun j2 a l i h ha hj hi hl=>?_) fun l i h hi hl=>.ret ⟨hi,hl⟩
  have ha:=s2 a ha
  unfold j3h
  dsimp only
  refine .bbi ?_
  refine .bif (fun _=>.bso ?_) fun _=>.bso ?_
  ·refine .bbi ?_
   refine .bif (fun h2=>?_) fun _=>.bso ?_
   ·have hl2:l.length < 2:=by have:=of_decide_eq_true h2; omega
    refine .bbi (drK (z0f hb _ (cb hi)) fun y i1 h1 _ hi1=>?_)
    refine .bso ?_
    dsimp only
    refine .bif (fun _=>?_) fun _=>.bso ?_
    ·refine .bbi (.bind (k3V hs (r:=⟨r.Name,r.Left,r.Right,r.Literal,r.Equations,l⟩) h5 _) fun q hq=>?_)
     refine .bbi (drK (z9x hb _ hq (cb hi1)) fun e i2 h2 he hi2=>?_)
     refine .bbi (.bind (k3V hs (r:=⟨r.Name,r.Left,r.Right,r.Literal,r.Equations,l⟩) h5 _) fun q3 hq3=>?_)
     refine .bbi (drK (z9x hb _ hq3 (cb hi2)) fun e3 i3 h3 he3 hi3=>?_)
     refine .bgr (by constructor<;>omega) ?_
     refine .bso (.ret ⟨hi3,by dsimp only; simp; omega,?_⟩)
     dsimp only at he he3 ⊢
     rw [z8Y,k4I,List.length_append,List.length_singleton]
     have:=hl.2
     omega
    ·exact .ret ⟨hi1,hl⟩
   ·dsimp only
    refine .bif (fun h=>by cases h) fun _=>.bso (.ret ⟨hi,hl⟩)
  ·refine .bbi ?_
   refine .bif (fun h=>by cases h) fun _=>.bso ?_
   dsimp only
   refine .bif (fun h=>by cases h) fun _=>.bso (.ret ⟨hi,hl⟩)
 ·refine⟨_,rfl,⟨hr,rfl,?_⟩,hi,rfl⟩
  have:=hl.1
  have:=hl.2
  dsimp only
  have h80:l.length*40≤80:=by omega
  omega
end
theorem k6G {k:Nat}(hk:k < 2):Ok (fun x=>x.size≤1) (z0L (k:Int)):=by
 have:k=0∨k=1:=by omega
 rcases this with rfl | rfl
 ·exact⟨⟨#[48]⟩,by unfold z0L; rfl,by decide⟩
 ·refine⟨⟨#[49]⟩,?_,by decide⟩
  unfold z0L
  rw [if_neg (by decide)]
  have h1:z2Z (((1:Nat):Int),(⟨#[]⟩:ByteArray))=some (.inl (0,⟨#[49]⟩)):=by
   unfold z2Z
   dsimp only
   rw [if_neg (by decide),if_neg (by decide),q3G (by constructor<;>decide),q3G (by decide),q3G (by constructor<;>decide)]
   rfl
  have h2:z2Z (0,(⟨#[49]⟩:ByteArray))=some (.inr ⟨#[49]⟩):=rfl
  rw [q3W h1,q3I h2]
  rfl
end Go.Proofs.YtpnkinhphabkcaaGreat
namespace Go.Proofs.YtpnkinhphabkcaaGreat
open Go Go.E
def R0 (r:Rule):Prop:=RB r∧r.Equations=[]∧r.Contributions=[]
def R1 (r:Rule):Prop:=RB r∧(szL r.Equations≤12000∧r.Equations.length≤30)∧szL r.Contributions≤200
theorem R0.r1 {r:Rule}(h:R0 r):R1 r:=⟨h.1,⟨by rw [h.2.1]; simp [szL],by rw [h.2.1]; simp⟩,by rw [h.2.2]; simp [szL]⟩
def GB (g:Grammar):Prop:=SBs g.Symbols∧1≤g.Rules.length∧g.Rules.length≤8∧∀ r∈g.Rules,R1 r
theorem stu {x:ByteArray}{n:Nat}(h:x∈[(⟨#[115]⟩:ByteArray),(⟨#[116]⟩:ByteArray),(⟨#[117]⟩:ByteArray)].take n):x.size=1:=by
 have h:=List.mem_of_mem_take h
 simp only [List.mem_cons,List.not_mem_nil,or_false] at h
 rcases h with h | h | h<;>rw [h]<;>rfl
theorem bsz (x y:ByteArray):(x++y).size=x.size+y.size:=ByteArray.size_append
section
variable {b:List UInt8}(hb:b.length≤1048576)
include hb
theorem j6x (pl:Bool){i h:Int}(hi:0≤i):Dr b GB (z3m pl ⟨b,i,h⟩):=by
 unfold z3m
 refine drK (q4K hb 3 (cb hi)) fun y i1 h1 hy hi1=>?_
 have h3:=hy.2.1 (by omega)
 have h0:=hy.1
 dsimp only
 refine .grd (by constructor<;>omega) (.grd (by omega) (.grd (by simp; omega) ?_))
 have hlen:([(⟨#[115]⟩:ByteArray),(⟨#[116]⟩:ByteArray),(⟨#[117]⟩:ByteArray)].take ((1+y).toNat)).length=(1+y).toNat:=by rw [List.length_take]; simp; omega
 refine j7V (fun k (l:List Symbol)=>l.length=k∧∀ s∈l,SB s) hi1 ⟨rfl,by simp⟩ (fun j l i h hj hi hl=>?_) fun syms i2 h2 hi2 hsyms=>?_
 ·unfold j1m
  dsimp only
  refine .get (by rw [hlen]; exact hj) fun x hx=>?_
  have hx:=stu hx
  refine drK (k4H hb (by omega) _ _ hi) fun s i1 h1 hs hi1=>?_
  refine .grd (by have:=hl.1; constructor<;>omega) (.ret ⟨hi1,by simp [hl.1],fun a ha=>?_⟩)
  simp only [List.mem_append,List.mem_cons,List.not_mem_nil,or_false] at ha
  rcases ha with ha | ha
  ·exact hl.2 a ha
  ·rw [ha]; exact hs
 have hS:SBs syms:=⟨by rw [hsyms.1]; omega,by rw [hsyms.1]; omega,hsyms.2⟩
 dsimp only
 refine j7V (fun k (l:List Rule)=>k≤l.length∧l.length≤3*k∧∀ r∈l,R0 r) hi2 ⟨by simp,by simp,by simp⟩ (fun j l i h hj hi hl=>?_) fun rules i3 h3 hi3 hr=>?_
 ·unfold j1p
  dsimp only
  refine .get (by rw [hlen]; exact hj) fun x hx=>?_
  have hx:=stu hx
  refine .grd (by rw [hx]; decide) ?_
  refine drK (z0f hb _ (cb hi)) fun y3 i1 h1 _ hi1=>?_
  have hl1:=hl.1
  have hl2:=hl.2.1
  refine .grd (by constructor<;>omega) ?_
  refine drK (q4K hb 2 (cb hi1)) fun y4 i4 h4 hy4 hi4=>?_
  have h42:=hy4.2.1 (by omega)
  have h40:=hy4.1
  refine .grd (by constructor<;>omega) ?_
  dsimp only
  refine j7V (fun k (q:List Rule)=>q.length=l.length+1+k∧∀ r∈q,R0 r) hi4 ⟨by simp,fun a ha=>?_⟩ (fun j2 q i h hj2 hi hq=>?_) fun q i6 h6 hi6 hq=>?_
  ·simp only [List.mem_append,List.mem_cons,List.not_mem_nil,or_false] at ha
   rcases ha with ha | ha
   ·exact hl.2.2 a ha
   ·rw [ha]
    exact⟨⟨by dsimp only; rw [bsz,hx]; decide,by dsimp only; omega,by simp,by simp⟩,rfl,rfl⟩
  ·unfold j1o
   dsimp only
   refine .grd (by rw [hx]; decide) ?_
   refine .bind (k6G (by omega)) fun nm hnm=>?_
   refine .grd (by rw [bsz,hx]; have:(⟨#[112]⟩:ByteArray).size=1:=rfl; omega) ?_
   refine drK (z0f hb _ (cb hi)) fun y6 i1 h1 _ hi1=>?_
   refine drK (q4K hb 3 (cb hi1)) fun y7 i7 h7 hy7 hi7=>?_
   have h72:=hy7.2.1 (by omega)
   have h70:=hy7.1
   refine .grd (by constructor<;>omega) ?_
   dsimp only
   refine j7V (fun k (q:List ByteArray)=>q.length=k∧∀ x∈q,x.size≤8) hi7 ⟨rfl,by simp⟩ (fun j4 q4 i h hj4 hi hq4=>?_) fun q4 i8 h8 hi8 hq4=>?_
   ·unfold j1n
    dsimp only
    refine drK (z3V hb (by intro h; have:=congrArg List.length h; rw [hlen] at this; simp at this; omega) (cb hi)) fun z i1 h1 hz hi1=>?_
    have hz:=stu hz
    refine .grd (by have:=hq4.1; constructor<;>omega) (.ret ⟨hi1,by simp [hq4.1],fun a ha=>?_⟩)
    simp only [List.mem_append,List.mem_cons,List.not_mem_nil,or_false] at ha
    rcases ha with ha | ha
    ·exact hq4.2 a ha
    ·rw [ha]; omega
   ·have hq41:=hq4.1
    have hq1:=hq.1
    refine .grd (by constructor<;>omega) (.ret ⟨hi8,by simp; omega,fun a ha=>?_⟩)
    simp only [List.mem_append,List.mem_cons,List.not_mem_nil,or_false] at ha
    rcases ha with ha | ha
    ·exact hq.2 a ha
    ·rw [ha]
     exact⟨⟨by dsimp only; rw [bsz,bsz,hx]; have:(⟨#[112]⟩:ByteArray).size=1:=rfl; omega,by dsimp only; omega,by dsimp only; omega,hq4.2⟩,rfl,rfl⟩
  ·exact .ret ⟨hi6,by dsimp only; have:=hq.1; omega,by dsimp only; have:=hq.1; omega,hq.2⟩
 dsimp only
 have hr1:=hr.1
 have hr2:=hr.2.1
 have key:∀ rs:List Rule,1≤rs.length→rs.length≤8→(∀ r∈rs,R0 r)→Ok (fun r=>GB r.1∧CB b r.2) ((q4L (z7K pl ⟨b,i,h⟩ syms) (0,i3,h3,rs)).bind fun (s14,s15,s16)=>some ((⟨syms,s16⟩:Grammar),(⟨b,s14,s15⟩:l1Cur))):=by
  intro rs g1 g2 g3
  refine Ok.bind (Q:=fun s:Int × Int × List Rule=>0≤s.1∧s.2.2.length=rs.length∧∀ r∈s.2.2,R1 r) (j4O (P:=fun s:Int × Int × Int × List Rule=>0≤s.1∧s.1≤rs.length∧0≤s.2.1∧s.2.2.2.length=rs.length∧∀ (k:Nat) x,s.2.2.2[k]? = some x→R1 x∧(s.1≤(k:Int)→R0 x)) (fun s=>(rs.length - s.1).toNat) ?_ _ ⟨Int.le_refl _,by dsimp only; omega,hi3,rfl,fun k x hx=>⟨(g3 x (List.mem_of_getElem? hx)).r1,fun _=>g3 x (List.mem_of_getElem? hx)⟩⟩) ?_
  ·rintro⟨p,i5,h5,q⟩ ⟨a1,a2,a3,a4,a5⟩
   dsimp only at a1 a2 a3 a4 a5
   unfold z7K
   dsimp only
   refine .ite (fun hp=>?_) fun _=>.ret ⟨a3,a4,fun r hr=>?_⟩
   ·obtain⟨x,hx⟩:∃ x,q[p.toNat]? = some x:=⟨_,List.getElem?_eq_getElem (by omega)⟩
    have hx0:=(a5 _ _ hx).2 (by omega)
    rw [hx]
    have fin:∀ (y:Rule) (i' h' : Int),R1 y→0≤i'→(0≤p+1∧p+1≤rs.length∧0≤i'∧(List.set q p.toNat y).length=rs.length∧∀ (k:Nat) x,(List.set q p.toNat y)[k]? = some x→R1 x∧(p+1≤(k:Int)→R0 x))∧(rs.length - (p+1)).toNat < (rs.length - p).toNat:=fun y i' h' hy hi'=>by
     refine⟨⟨by omega,by omega,hi',by rw [List.length_set]; exact a4,fun k x hk=>?_⟩,by omega⟩
     rw [List.getElem?_set] at hk
     by_cases e:p.toNat=k
     ·rw [if_pos e] at hk
      split at hk
      ·cases hk; exact⟨hy,fun h=>by omega⟩
      ·cases hk
     ·rw [if_neg e] at hk
      exact⟨(a5 _ _ hk).1,fun h=>(a5 _ _ hk).2 (by omega)⟩
    refine .bgr a1 (.bbi (.bso ?_))
    refine .bbi (drK (k5X hb (g:=⟨syms,q⟩) hS hx0.1 hx0.2.1 _ a3) fun y i6 h6 hy hi6=>?_)
    obtain⟨b1,b2,b3⟩:=hy
    rw [hx0.2.2] at b3
    dsimp only
    refine .bif (fun _=>.bso ?_) fun _=>?_
    ·exact .grd (by constructor<;>omega) (.ret (fin _ _ h6 ⟨b1,b2,by rw [b3]; simp [szL]⟩ hi6))
    ·refine .bbi (drK (k6F hb (g:=⟨syms,q⟩) hS b1 b3 hi6) fun y2 i7 h7 hy2 hi7=>?_)
     refine .bso ?_
     exact .grd (by constructor<;>omega) (.ret (fin _ _ h7 ⟨hy2.1,by rw [hy2.2.1]; exact b2,hy2.2.2⟩ hi7))
   ·obtain⟨k,hk⟩:=List.getElem?_of_mem hr
    exact (a5 _ _ hk).1
  ·rintro⟨s1,s2,s3⟩ ⟨c1,c2,c3⟩
   exact⟨_,rfl,⟨hS,by dsimp only at c2 ⊢; omega,by dsimp only at c2 ⊢; omega,c3⟩,c1,rfl⟩
 refine .bif (fun h8=>.bgr (by omega) (.bso ?_)) fun h8=>.bso ?_
 ·exact key _ (by rw [List.length_take]; omega) (by rw [List.length_take]; omega) fun r hr'=>hr.2.2 r (List.mem_of_mem_take hr')
 ·exact key _ (by omega) (by omega) hr.2.2
end
end Go.Proofs.YtpnkinhphabkcaaGreat
namespace Go.Proofs.YtpnkinhphabkcaaGreat
open Go Go.E
theorem k2q {α:Type}[Sz α](x:α):∀ (l:List α) (j:Nat),szL (l.set j x)≤szL l+Sz.szd x
 | [],_=>by simp [szL]
 | y :: l,0=>by simp only [List.set,szL]; omega
 | y :: l,j+1=>by have:=k2q x l j; simp only [List.set,szL]; omega
theorem k2r {α:Type}[Sz α](l:List α):szL (l.drop 1)≤szL l:=by
 cases l with
 | nil=>simp
 | cons x l=>simp only [List.drop,szL]; omega
theorem j3D (a:Int):∀ (l:List Expr) (i:Nat),(∀ x∈l,∃ v,∀ m,fuE x≤m→q7G m x a=some v)→∃ r,∀ m,(∀ x∈l,fuE x≤m)→findL (q9y (q7G m) a) i l ()=some r
 | [],i,_=>⟨.inl (),fun m _=>rfl⟩
 | x :: l,i,h=>by
  obtain⟨v,hv⟩:=h x (by simp)
  obtain⟨r,hr⟩:=j3D a l (i+1) fun y hy=>h y (by simp [hy])
  cases v with
  | true=>
   refine⟨r,fun m hm=>?_⟩
   have h1:=hr m fun y hy=>hm y (by simp [hy])
   have h2:q9y (q7G m) a i x ()=some (.inl ()):=by unfold q9y; rw [hv m (hm x (by simp))]; rfl
   rw [findL,h2]; exact h1
  | false=>
   refine⟨.inr false,fun m hm=>?_⟩
   have h2:q9y (q7G m) a i x ()=some (.inr false):=by unfold q9y; rw [hv m (hm x (by simp))]; rfl
   rw [findL,h2]; rfl
theorem k2s (e:Expr)(a:Int):∃ v,z5z e a=some v:=by
 have key:∀ e:Expr,∃ v,∀ m,fuE e≤m→q7G m e a=some v:=by
  intro e
  induction e using z0x with
  | h e ih=>
   obtain⟨r,hr⟩:=j3D a e.Args 0 ih
   have:∃ v,∀ m,fuE e≤m+1→q9z (q7G m) e a=some v:=by
    cases r with
    | inl u=>exact⟨_,fun m hm=>by unfold q9z; rw [hr m fun x hx=>by have:=z4o hx; omega]; rfl⟩
    | inr q=>exact⟨_,fun m hm=>by unfold q9z; rw [hr m fun x hx=>by have:=z4o hx; omega]; rfl⟩
   obtain⟨v,hv⟩:=this
   refine⟨v,fun m hm=>?_⟩
   obtain⟨m,rfl⟩:∃ q,m=q+1:=⟨m - 1,by have:=z5f e; omega⟩
   exact hv m hm
 obtain⟨v,hv⟩:=key e
 exact⟨v,q9Y (fuE e) hv⟩
def R2 (r:Rule):Prop:=RB r∧szL r.Equations≤60000∧szL r.Contributions≤200
def GC2 (g:Grammar):Prop:=SBs g.Symbols∧1≤g.Rules.length∧g.Rules.length≤8∧∀ r∈g.Rules,R2 r
theorem SB.set {s:Symbol}(h:SB s){x:Attribute}(hx:x.Name.size≤8):SB ⟨s.Name,List.set s.Attributes 0 x⟩:=by
 refine⟨h.1,by dsimp only; rw [List.length_set]; exact h.2.1,by dsimp only; rw [List.length_set]; exact h.2.2.1,fun a ha=>?_⟩
 rcases List.mem_or_eq_of_mem_set ha with ha | ha
 ·exact h.2.2.2 a ha
 ·rw [ha]; exact hx
theorem GC2.set {ss:List Symbol}{rs:List Rule}(h:GC2 ⟨ss,rs⟩)(k:Nat){x:Rule}(hx:R2 x):GC2 ⟨ss,rs.set k x⟩:=by
 refine⟨h.1,by dsimp only; rw [List.length_set]; exact h.2.1,by dsimp only; rw [List.length_set]; exact h.2.2.1,fun a ha=>?_⟩
 rcases List.mem_or_eq_of_mem_set ha with ha | ha
 ·exact h.2.2.2 a ha
 ·rw [ha]; exact hx
section
variable {b:List UInt8}(hb:b.length≤1048576)
include hb
theorem k3X {e:Expr}{n:Nat}(h:Sz.szd e≤n)(hn:n≤1048576)(a:Int):Ok (fun _=>True) (z0j e a):=by
 unfold z0j
 refine .eq (z8O (by have:=k1A hb h; omega)) ?_
 obtain⟨v,hv⟩:=k2s e a
 exact .ite (fun _=>.eq hv (.ret trivial)) fun _=>.ret trivial
theorem k3Y {i h:Int}(hi:0≤i):Dr b (fun r=>RB r∧r.Right.length≤3∧szL r.Equations≤1200∧szL r.Contributions≤200) (z6t ⟨b,i,h⟩):=by
 unfold z6t
 refine drK (z3V hb (by simp) (cb hi)) fun y1 i1 h1 hy1 hi1=>?_
 refine drK (z3V hb (by simp) (cb hi1)) fun y2 i2 h2 hy2 hi2=>?_
 refine drK (z0f hb _ (cb hi2)) fun y3 i3 h3 _ hi3=>?_
 refine drK (q4K hb 4 (cb hi3)) fun y4 i4 h4 hy4 hi4=>?_
 have h44:=hy4.2.1 (by omega)
 have h40:=hy4.1
 have n1:y1.size≤8:=by
  simp only [List.mem_cons,List.not_mem_nil,or_false] at hy1
  rcases hy1 with h | h | h<;>subst h<;>(try dsimp only)<;>decide
 have n2:y2.size≤8:=by
  simp only [List.mem_cons,List.not_mem_nil,or_false] at hy2
  rcases hy2 with h | h<;>subst h<;>(try dsimp only)<;>decide
 dsimp only
 refine j7V (fun k (q:List ByteArray)=>q.length=k∧∀ x∈q,x.size≤8) hi4 ⟨rfl,by simp⟩ (fun j4 q4 i h hj4 hi hq4=>?_) fun q4 i8 h8 hi8 hq4=>?_
 ·unfold j3k
  dsimp only
  refine drK (z3V hb (by simp) (cb hi)) fun z i1 h1 hz hi1=>?_
  refine .grd (by have:=hq4.1; constructor<;>omega) (.ret ⟨hi1,by simp [hq4.1],fun a ha=>?_⟩)
  simp only [List.mem_append,List.mem_cons,List.not_mem_nil,or_false] at ha hz
  rcases ha with ha | ha
  ·exact hq4.2 a ha
  ·rw [ha]; rcases hz with h | h | h<;>subst h<;>(try dsimp only)<;>decide
 ·refine drK (q4K hb 4 (cb hi8)) fun y6 i6 h6 hy6 hi6=>?_
  have h64:=hy6.2.1 (by omega)
  dsimp only
  refine j7V (fun k (q:List Equation)=>q.length≤k∧szL q≤k*400) hi6 ⟨by simp,by simp [szL]⟩ (fun j q i h hj hi hq=>?_) fun q i9 h9 hi9 hq=>?_
  ·have hq1:=hq.1
   have hq2:=hq.2
   unfold j3l
   dsimp only
   refine .bbi (drK (q4K hb 3 (cb hi)) fun y7 i7 h7 hy7 hi7=>?_)
   have h73:=hy7.2.1 (by omega)
   have h70:=hy7.1
   refine .bgr (by constructor<;>omega) (.bbi (drK (k1z hb 2 (by omega) (by omega) (by omega) (cb hi7)) fun e i8 h8 he hi8=>?_))
   have he:Sz.szd e≤320:=he
   refine .bbi (.bind (k3X hb he (by omega) y4) fun v _=>?_)
   refine .bif (fun _=>?_) fun _=>.bso (.ret ⟨hi8,Nat.le_trans hq1 (Nat.le_succ _),Nat.le_trans hq2 (Nat.mul_le_mul_right 400 (Nat.le_succ j))⟩)
   refine .bgr (by constructor<;>omega) (.bbi (drK (q4K hb _ (cb hi8)) fun y10 i9 h9 _ hi9=>?_))
   refine .bbi (drK (j7C hb (cb hi9)) fun nm i10 h10 hnm hi10=>?_)
   refine .bgr (by constructor<;>omega) (.bso (.ret ⟨hi10,by dsimp only; simp; omega,?_⟩))
   dsimp only
   rw [z8Y,j6w]
   have hnm:nm.size=1:=hnm
   dsimp only
   omega
  ·have hq2:=hq.2
   have hR:RB ⟨y1,y2,q4,y3,q,[]⟩:=⟨n1,n2,by have:=hq4.1; dsimp only; omega,hq4.2⟩
   refine drK (z0f hb _ (cb hi9)) fun y12 i12 h12 _ hi12=>?_
   refine .ite (fun _=>?_) fun _=>⟨_,rfl,⟨hR,by have:=hq4.1; dsimp only; omega,by dsimp only; omega,by simp [szL]⟩,hi12,rfl⟩
   refine drK (q4K hb _ (cb hi12)) fun y13 i13 h13 _ hi13=>?_
   refine .eq rfl ?_
   refine .grd (by simp only [List.length_nil]; constructor<;>omega) ⟨_,rfl,⟨hR,by have:=hq4.1; dsimp only; omega,by dsimp only; omega,?_⟩,hi13,rfl⟩
   dsimp only
   rw [List.nil_append]
   show 1+Sz.szd (⟨(⟨#[115]⟩:ByteArray),(⟨#[99]⟩:ByteArray),_,_⟩:Contribution)+0≤200
   rw [k4I,j3v hb,j3v hb,z3i hb]
   decide
theorem k3Z {i h:Int}(hi:0≤i):Dr b R2 (z6v ⟨b,i,h⟩):=by
 unfold z6v
 refine drK (k3Y hb hi) fun r i1 h1 hr hi1=>?_
 obtain⟨r1,r2,r3,r4⟩:=hr
 refine drK (q4K hb 12 (cb hi1)) fun y2 i2 h2 _ hi2=>?_
 dsimp only
 refine .ite (fun _=>?_) fun _=>.ite (fun _=>?_) fun _=>.ite (fun _=>?_) fun _=>.ite (fun _=>?_) fun _=>.ite (fun _=>?_) fun _=>?_
 ·refine drK (z3V hb (by simp) (cb hi2)) fun z i3 h3 hz hi3=>⟨_,rfl,⟨⟨?_,r1.2.1,r1.2.2.1,r1.2.2.2⟩,by dsimp only; omega,r4⟩,hi3,rfl⟩
  simp only [List.mem_cons,List.not_mem_nil,or_false] at hz
  rcases hz with h | h | h<;>subst h<;>(try dsimp only)<;>decide
 ·refine .grd (by simp only [List.length_cons,List.length_nil]; constructor<;>omega) ⟨_,rfl,⟨⟨r1.1,r1.2.1,by simp; omega,fun x hx=>?_⟩,by dsimp only; omega,r4⟩,hi2,rfl⟩
  simp only [List.mem_append,List.mem_cons,List.not_mem_nil,or_false] at hx
  rcases hx with h | h | h
  ·exact r1.2.2.2 x h
  ·rw [h]; decide
  ·rw [h]; decide
 ·refine drK (q4K hb 5 (cb hi2)) fun y4 i4 h4 hy4 hi4=>?_
  have h40:=hy4.1
  have h44:=hy4.2.1 (by omega)
  refine .grd (by constructor<;>omega) ?_
  refine drK (k5D hb (cb hi4)) fun e i5 h5 he hi5=>?_
  have he:Sz.szd e≤30000:=he
  have hl:=q7W r.Equations
  refine .grd (by constructor<;>omega) ⟨_,rfl,⟨r1,?_,r4⟩,hi5,rfl⟩
  dsimp only
  rw [z8Y,j6w]
  have:(⟨#[97]⟩:ByteArray).size=1:=rfl
  dsimp only
  omega
 ·exact⟨_,rfl,⟨⟨r1.1,by dsimp only; decide,r1.2.2.1,r1.2.2.2⟩,by dsimp only; omega,r4⟩,hi2,rfl⟩
 ·refine .grd (by constructor<;>omega) ?_
  refine drK (q4K hb _ (cb hi2)) fun y6 i6 h6 hy6 hi6=>?_
  have h60:=hy6.1
  have h61:=hy6.2.1 (by omega)
  refine .grd h60 (.grd (by omega) ⟨_,rfl,⟨⟨r1.1,r1.2.1,by dsimp only; rw [List.length_take]; omega,fun x hx=>r1.2.2.2 x (List.mem_of_mem_take hx)⟩,by dsimp only; omega,r4⟩,hi6,rfl⟩)
 ·exact⟨_,rfl,⟨r1,by dsimp only; omega,r4⟩,hi2,rfl⟩
theorem k4a {i h:Int}(hi:0≤i):Dr b SB (z6w ⟨b,i,h⟩):=by
 unfold z6w
 refine drK (z3V hb (by simp) (cb hi)) fun nm i1 h1 hnm hi1=>?_
 have hnm:nm.size≤8:=by
  simp only [List.mem_cons,List.not_mem_nil,or_false] at hnm
  rcases hnm with h | h | h | h<;>subst h<;>(try dsimp only)<;>decide
 refine drK (k4H hb hnm _ _ hi1) fun s i2 h2 hs hi2=>?_
 refine drK (q4K hb 10 (cb hi2)) fun y3 i3 h3 _ hi3=>?_
 have hl:=hs.2.1
 dsimp only
 refine .ite (fun _=>?_) fun _=>.ite (fun _=>?_) fun _=>.ite (fun _=>?_) fun _=>.ite (fun _=>?_) fun _=>.ite (fun _=>?_) fun _=>?_
 ·exact .get (by omega) fun x hx=>⟨_,rfl,hs.set (by exact hs.2.2.2 x hx),hi3,rfl⟩
 ·exact drK (q4K hb 5 (cb hi3)) fun y4 i4 h4 _ hi4=>.get (by omega) fun x hx=>⟨_,rfl,hs.set (by exact hs.2.2.2 x hx),hi4,rfl⟩
 ·exact drK (q4K hb 6 (cb hi3)) fun y4 i4 h4 _ hi4=>.get (by omega) fun x hx=>⟨_,rfl,hs.set (by exact hs.2.2.2 x hx),hi4,rfl⟩
 ·refine drK (z3V hb (by simp) (cb hi3)) fun z i4 h4 hz hi4=>.get (by omega) fun x hx=>⟨_,rfl,hs.set ?_,hi4,rfl⟩
  simp only [List.mem_cons,List.not_mem_nil,or_false] at hz
  rcases hz with h | h | h<;>subst h<;>(try dsimp only)<;>decide
 ·refine Ok.bind (Q:=fun l:List Attribute=>1≤l.length∧l.length≤5∧∀ a∈l,a.Name.size≤8) (j4O (P:=fun l:List Attribute=>1≤l.length∧l.length≤5∧∀ a∈l,a.Name.size≤8) (fun l=>5 - l.length) (fun l hl=>?_) _ ⟨hs.2.1,hs.2.2.1,hs.2.2.2⟩) fun l hl=>⟨_,rfl,⟨hs.1,hl.1,hl.2.1,hl.2.2⟩,hi3,rfl⟩
  unfold j3n
  refine .ite (fun h5=>?_) fun _=>.ret hl
  refine .get (by simp; omega) fun x hx=>.grd (by constructor<;>omega) (.ret ⟨⟨by simp,by simp; omega,fun a ha=>?_⟩,by simp; omega⟩)
  simp only [List.mem_append,List.mem_cons,List.not_mem_nil,or_false] at ha hx
  rcases ha with ha | ha
  ·exact hl.2.2 a ha
  ·rw [ha]; dsimp only; rcases hx with h | h | h | h | h<;>subst h<;>(try dsimp only)<;>decide
 ·exact⟨_,rfl,hs,hi3,rfl⟩
theorem k2t {i h:Int}(hi:0≤i):Dr b GC2 (z4N ⟨b,i,h⟩):=by
 unfold z4N
 refine drK (z0f hb _ (cb hi)) fun y1 i1 h1 _ hi1=>?_
 refine drK (j6x hb y1 hi1) fun g i2 h2 hg hi2=>?_
 obtain⟨ss,rs⟩:=g
 obtain⟨g1,g2,g3,g4⟩:=hg
 dsimp only at g1 g2 g3 g4
 have hG:GC2 ⟨ss,rs⟩:=⟨g1,g2,g3,fun r hr=>by obtain⟨a,c,d⟩:=g4 r hr; exact⟨a,by omega,d⟩⟩
 refine drK (q4K hb _ (cb hi2)) fun y3 i3 h3 hy3 hi3=>?_
 have h30:=hy3.1
 have h31:=hy3.2.1 (by dsimp only; omega)
 dsimp only at h31
 refine drK (q4K hb 14 (cb hi3)) fun y4 i4 h4 _ hi4=>?_
 have hk:y3.toNat < rs.length:=by omega
 dsimp only
 have same:Ok (fun r:Grammar × l1Cur=>GC2 r.1∧CB b r.2) (some ((⟨ss,rs⟩:Grammar),(⟨b,i4,h4⟩:l1Cur))):=⟨_,rfl,hG,hi4,rfl⟩
 refine .ite (fun _=>?_) fun _=>.ite (fun _=>?_) fun _=>.ite (fun _=>?_) fun _=>.ite (fun _=>?_) fun _=>.ite (fun _=>?_) fun _=>.ite (fun _=>?_) fun _=>.ite (fun _=>?_) fun _=>same
 ·exact drK (k3Z hb hi4) fun r i5 h5 hr hi5=>.grd h30 (.get hk fun x hx=>⟨_,rfl,hG.set _ hr,hi5,rfl⟩)
 ·refine drK (k4a hb hi4) fun s i5 h5 hs hi5=>.get (by have:=g1.1; omega) fun x hx=>⟨_,rfl,⟨⟨by dsimp only; rw [List.length_set]; exact g1.1,by dsimp only; rw [List.length_set]; exact g1.2.1,fun a ha=>?_⟩,g2,g3,hG.2.2.2⟩,hi5,rfl⟩
  rcases List.mem_or_eq_of_mem_set ha with ha | ha
  ·exact g1.2.2 a ha
  ·rw [ha]; exact hs
 ·refine .get (by omega) fun x hx=>.grd h30 (.get hk fun r hr=>⟨_,rfl,hG.set _ ?_,hi4,rfl⟩)
  have a:=hG.2.2.2 r hr
  exact⟨⟨(g4 x hx).1.1,a.1.2.1,a.1.2.2.1,a.1.2.2.2⟩,a.2.1,a.2.2⟩
 ·refine .grd h30 (.get hk fun r hr=>.ite (fun h0=>.grd (by omega) ⟨_,rfl,hG.set _ ?_,hi4,rfl⟩) fun _=>same)
  have a:=hG.2.2.2 r hr
  exact⟨a.1,by have:=k2r r.Equations; have:=a.2.1; dsimp only; omega,a.2.2⟩
 ·refine .grd h30 (.get hk fun r hr=>.ite (fun h0=>?_) fun _=>same)
  have a:=g4 r hr
  have hl:=q7W r.Equations
  have a2:=a.2.1
  refine .get (by omega) fun x hx=>.grd (by constructor<;>omega) ⟨_,rfl,hG.set _ ⟨a.1,?_,a.2.2⟩,hi4,rfl⟩
  have:=j4E hx
  dsimp only
  rw [z8Y]
  omega
 ·refine drK (z3V hb (by simp) (cb hi4)) fun z i5 h5 hz hi5=>.grd h30 (.get hk fun r hr=>⟨_,rfl,hG.set _ ?_,hi5,rfl⟩)
  have a:=hG.2.2.2 r hr
  refine⟨⟨a.1.1,?_,a.1.2.2.1,a.1.2.2.2⟩,a.2.1,a.2.2⟩
  simp only [List.mem_cons,List.not_mem_nil,or_false] at hz
  rcases hz with h | h<;>subst h<;>(try dsimp only)<;>decide
 ·refine .grd h30 (.get hk fun r hr=>.ite (fun h0=>?_) fun _=>same)
  refine drK (k1B hb (cb hi4)) fun e i5 h5 he hi5=>?_
  have he:Sz.szd e≤20480:=he
  have a:=g4 r hr
  have a2:=a.2.1
  refine .get (by omega) fun x hx=>⟨_,rfl,hG.set _ ⟨a.1,?_,a.2.2⟩,hi5,rfl⟩
  have h1:=j4E hx
  have h2:=k2q (⟨x.At,e⟩:Equation) r.Equations 0
  have h3:Sz.szd x=x.At.Name.size+Sz.szd x.Expr:=j6w x.At x.Expr
  rw [j6w] at h2
  dsimp only
  omega
end
theorem szR {r:Rule}(h:R2 r):Sz.szd r≤60300:=by
 have h1:=j6v (m:=8) h.1.2.2.2
 have:=h.1.2.2.1
 have:=h.1.1
 have:=h.1.2.1
 have:=h.2.1
 have:=h.2.2
 have h9:r.Right.length*(8+1)≤45:=by omega
 rw [z8J]; omega
theorem szS {s:Symbol}(h:SB s):Sz.szd s≤60:=by
 have h1:=j6v (m:=8) (l:=s.Attributes) fun a ha=>by rw [j4t]; exact h.2.2.2 a ha
 have:=h.2.2.1
 have:=h.1
 have h9:s.Attributes.length*(8+1)≤45:=by omega
 rw [j3p]; omega
theorem szG {g:Grammar}(h:GC2 g):Sz.szd g≤1048576:=by
 have h1:=j6v (m:=60) (l:=g.Symbols) fun s hs=>szS (h.1.2.2 s hs)
 have h2:=j6v (m:=60300) (l:=g.Rules) fun r hr=>szR (h.2.2.2 r hr)
 have h3:g.Symbols.length*(60+1)≤183:=by have:=h.1.2.1; omega
 have h4:g.Rules.length*(60300+1)≤482408:=by have:=h.2.2.1; omega
 rw [z5M]; omega
end Go.Proofs.YtpnkinhphabkcaaGreat
namespace Go.Proofs.YtpnkinhphabkcaaGreat
open Go Go.E
theorem z3t {r:Relation}(h:Valid r)(i k:Int):Valid (addP r i k):=by
 unfold addP
 by_cases hc:Valid r∧inN r i∧inN r k
 ·rw [if_pos hc]
  obtain⟨_,hi,hk⟩:=hc
  unfold j1Y
  refine⟨h.1,h.2.1,by dsimp only; rw [List.length_set]; exact h.2.2.1,fun x hx=>?_⟩
  rcases List.mem_or_eq_of_mem_set hx with hx | hx
  ·exact h.2.2.2 x hx
  ·rw [hx]
   have h1:=h.1
   have hk1:=hk.1
   have hk2:=hk.2
   refine k4G ?_ ?_
   ·unfold z6k
    rw [List.getD_eq_getElem?_getD]
    cases hq:r.Rows[i.toNat]? with
    | none=>show (0:Int)≤0∧(0:Int)≤((2 ^ r.N.toNat:Nat):Int) - 1; have:=Nat.two_pow_pos r.N.toNat; omega
    | some y=>exact h.2.2.2 y (List.mem_of_getElem? hq)
   ·have h2:2 ^ k.toNat < 2 ^ r.N.toNat:=Nat.pow_lt_pow_right (by decide) (by omega)
    constructor
    ·exact Int.natCast_nonneg _
    ·dsimp only; omega
 ·rw [if_neg hc]; exact h
theorem j2k {r:Relation}(h:Valid r)(i k:Int)(a c:Nat):Rl (addP r i k).Rows a c↔Rl r.Rows a c∨(inN r i∧inN r k∧(a:Int)=i∧(c:Int)=k):=by
 unfold addP
 by_cases hc:Valid r∧inN r i∧inN r k
 ·rw [if_pos hc]
  obtain⟨_,hi,hk⟩:=hc
  have hi1:=hi.1
  have hi2:=hi.2
  have hk1:=hk.1
  have hl:=h.2.2.1
  unfold j1Y Rl
  dsimp only
  rw [List.getD_eq_getElem?_getD,List.getElem?_set]
  by_cases e:i.toNat=a
  ·rw [if_pos e,if_pos (by omega),Option.getD_some,z8Q,Nat.testBit_or,Int.toNat_natCast,Nat.testBit_two_pow]
   unfold z6k
   rw [e]
   simp only [Bool.or_eq_true,decide_eq_true_eq]
   constructor
   ·rintro (h1 | h1)
    ·exact .inl h1
    ·exact .inr ⟨hi,hk,by omega,by omega⟩
   ·rintro (h1 | ⟨_,_,_,h1⟩)
    ·exact .inl h1
    ·exact .inr (by omega)
  ·rw [if_neg e,← List.getD_eq_getElem?_getD]
   constructor
   ·exact fun h1=>.inl h1
   ·rintro (h1 | ⟨_,_,h1,_⟩)
    ·exact h1
    ·omega
 ·rw [if_neg hc]
  constructor
  ·exact fun h1=>.inl h1
  ·rintro (h1 | ⟨h1,h2,_⟩)
   ·exact h1
   ·exact absurd ⟨h,h1,h2⟩ hc
def Sub (a b:Relation):Prop:=Valid a∧Valid b∧a.N=b.N∧∀ i j:Nat,Rl a.Rows i j→Rl b.Rows i j
theorem Sub.refl {a:Relation}(h:Valid a):Sub a a:=⟨h,h,rfl,fun _ _ h=>h⟩
theorem Sub.trans {a b c:Relation}(h:Sub a b)(k:Sub b c):Sub a c:=⟨h.1,k.2.1,h.2.2.1.trans k.2.2.1,fun i j x=>k.2.2.2 i j (h.2.2.2 i j x)⟩
theorem k4J {a b:Relation}(h:a.N=b.N)(i:Int):inN a i→inN b i:=fun ⟨h1,h2⟩=>⟨h1,by omega⟩
theorem Sub.add2 {a b:Relation}(h:Sub a b)(i k:Int):Sub (addP a i k) (addP b i k):=by
 refine⟨z3t h.1 i k,z3t h.2.1 i k,by rw [(z3j _ _ _).2,(z3j _ _ _).2]; exact h.2.2.1,fun x y hx=>?_⟩
 rw [j2k h.2.1]
 rcases (j2k h.1 i k x y).1 hx with hx | ⟨h1,h2,h3⟩
 ·exact .inl (h.2.2.2 x y hx)
 ·exact .inr ⟨k4J h.2.2.1 _ h1,k4J h.2.2.1 _ h2,h3⟩
theorem Sub.add {a b:Relation}(h:Sub a b)(i k:Int):Sub a (addP b i k):=
 h.trans ⟨h.2.1,z3t h.2.1 i k,(z3j _ _ _).2.symm,fun x y hx=>(j2k h.2.1 i k x y).2 (.inl hx)⟩
theorem k4b {x y:Int}(hx:0≤x)(h:∀ j,y.toNat.testBit j=true→x.toNat.testBit j=true):orI x y=x:=by
 have:x.toNat ||| y.toNat=x.toNat:=by
  apply Nat.eq_of_testBit_eq
  intro j
  rw [Nat.testBit_or]
  cases hy:y.toNat.testBit j with
  | false=>rw [Bool.or_false]
  | true=>rw [h j hy]; rfl
 unfold orI; rw [this]; omega
theorem Sub.uni {a b:Relation}(h:Sub a b):uniR b a=b:=by
 unfold uniR
 rw [if_pos ⟨h.2.1,h.1,h.2.2.1.symm⟩]
 obtain⟨n,rows⟩:=b
 have:(rows.mapIdx fun j x=>orI x (a.Rows.getD j 0))=rows:=by
  apply List.ext_getElem?
  intro j
  rw [List.getElem?_mapIdx]
  cases hj:rows[j]? with
  | none=>rfl
  | some x=>
   rw [Option.map_some]
   congr 1
   refine k4b (h.2.1.2.2.2 x (List.mem_of_getElem? hj)).1 fun c hc=>?_
   have:=h.2.2.2 j c hc
   unfold Rl at this
   dsimp only at this
   rwa [List.getD_eq_getElem?_getD,hj,Option.getD_some] at this
 rw [this]
theorem k6H {a b:Relation}(hb:b.Rows.length≤1048576)(h:uniR b a=b):z6T a b=some true:=by
 unfold z6T
 rw [j7R hb,Option.bind_some,h,j2a]; rfl
theorem j2l {n:Nat}{s t:List Int}(hs:z2L n s)(ht:z2L n t)(h:∀ i j,Rl s i j→Rl t i j):∀ m i j,Rl (z6c s m) i j→Rl (z6c t m) i j
 | 0,i,j,hx=>h i j hx
 | m+1,i,j,hx=>by
  have hi:=k1E (j8K (q9F hs m)) hx
  have ih:=j2l hs ht h m
  rw [z6c,j7D (q9F ht m) hi]
  rw [z6c,j7D (q9F hs m) hi] at hx
  rcases hx with hx | ⟨h1,h2⟩
  ·exact .inl (ih i j hx)
  ·exact .inr ⟨ih i m h1,ih m j h2⟩
theorem Sub.close2 {a b:Relation}(h:Sub a b):Sub (q5M a) (q5M b):=by
 refine⟨z7b h.1,z7b h.2.1,by rw [(z5j _).2,(z5j _).2]; exact h.2.2.1,fun i j hx=>?_⟩
 have h1:=(z4p h.1).1
 have h2:=(z4p h.2.1).1
 unfold q5M at hx ⊢
 rw [if_pos h.1] at hx
 rw [if_pos h.2.1]
 dsimp only at hx ⊢
 rw [← h.2.2.1] at h2 ⊢
 exact j2l h1 h2 h.2.2.2 _ i j hx
theorem Sub.close {a:Relation}(h:Valid a):Sub a (q5M a):=by
 refine⟨h,z7b h,(z5j _).2.symm,fun i j hx=>?_⟩
 unfold q5M
 rw [if_pos h]
 exact k1F (z4p h).1 _ i j hx
theorem z9F (own:Relation)(a:Nat)(x:Int):∀ (ys:List Int) (i:Nat) (o:Relation),Valid o→Sub o (q8l own a x i ys o)
 | [],i,o,h=>Sub.refl h
 | y :: ys,i,o,h=>by
  rw [q8l]
  by_cases hp:hasP own (a:Int) (i:Int)
  ·rw [if_pos hp]; exact ((Sub.refl h).add x y).trans (z9F own a x ys (i+1) _ (z3t h x y))
  ·rw [if_neg hp]; exact z9F own a x ys (i+1) _ h
theorem j2m (own:Relation)(at' : List Int):∀ (xs:List Int) (a:Nat) (o:Relation),Valid o→Sub o (q8V own at' a xs o)
 | [],a,o,h=>Sub.refl h
 | x :: xs,a,o,h=>by
  rw [q8V]
  have h1:=z9F own a x at' 0 o h
  exact h1.trans (j2m own at' xs (a+1) _ h1.2.1)
theorem j2n {n:Int}(h0:0≤n)(h1:n≤16):Valid ⟨n,List.replicate n.toNat 0⟩:=by
 refine⟨h0,h1,by simp; omega,fun x hx=>?_⟩
 have:=(List.mem_replicate.1 hx).2
 have h2:=Nat.two_pow_pos n.toNat
 dsimp only
 omega
end Go.Proofs.YtpnkinhphabkcaaGreat
namespace Go.Proofs.YtpnkinhphabkcaaGreat
open Go Go.E
theorem z5V {own own' : Relation}(h:∀ a i:Nat,hasP own (a:Int) (i:Int)→hasP own' (a:Int) (i:Int))(a:Nat)(x:Int):∀ (ys:List Int) (i:Nat) (o o' : Relation),Sub o o'→Sub (q8l own a x i ys o) (q8l own' a x i ys o')
 | [],i,o,o',hs=>hs
 | y :: ys,i,o,o',hs=>by
  rw [q8l,q8l]
  by_cases hp:hasP own (a:Int) (i:Int)
  ·rw [if_pos hp,if_pos (h a i hp)]; exact z5V h a x ys (i+1) _ _ (hs.add2 x y)
  ·rw [if_neg hp]
   by_cases hp' : hasP own' (a:Int) (i:Int)
   ·rw [if_pos hp']; exact z5V h a x ys (i+1) _ _ (hs.add x y)
   ·rw [if_neg hp']; exact z5V h a x ys (i+1) _ _ hs
theorem j0a {own own' : Relation}(h:∀ a i:Nat,hasP own (a:Int) (i:Int)→hasP own' (a:Int) (i:Int))(at' : List Int):∀ (xs:List Int) (a:Nat) (o o' : Relation),Sub o o'→Sub (q8V own at' a xs o) (q8V own' at' a xs o')
 | [],a,o,o',hs=>hs
 | x :: xs,a,o,o',hs=>by
  rw [q8V,q8V]
  exact j0a h at' xs (a+1) _ _ (z5V h a x at' 0 o o' hs)
theorem k0o {own own' : Relation}(h:∀ a i:Nat,hasP own (a:Int) (i:Int)→hasP own' (a:Int) (i:Int))(g:Grammar)(r:Rule)(pos:Int){o o' : Relation}(hs:Sub o o'):Sub (z0S g r o pos own) (z0S g r o' pos own'):=j0a h _ _ 0 o o' hs
theorem j6y (g:Grammar)(r:Rule)(pos:Int)(own:Relation){o:Relation}(h:Valid o):Sub o (z0S g r o pos own):=j2m own _ _ 0 o h
noncomputable def indL (g:Grammar) (r:Rule) (all:ByteArray→Relation):Nat→Nat→Relation→Relation
 | 0,_,o=>o
 | m+1,pos,o=>indL g r all m (pos+1) (z0S g r o (pos:Int) (all (q5Q r (pos:Int))))
noncomputable def indR (g:Grammar) (r:Rule) (all:ByteArray→Relation):Relation:=q5M (indL g r all (r.Right.length+1) 0 (locR g r))
theorem j8Y (g:Grammar)(r:Rule)(all:ByteArray→Relation):∀ (m pos:Nat) (o:Relation),Valid o→Sub o (indL g r all m pos o)
 | 0,pos,o,h=>Sub.refl h
 | m+1,pos,o,h=>by
  rw [indL]
  have h1:=j6y g r (pos:Int) (all (q5Q r (pos:Int))) h
  exact h1.trans (j8Y g r all m (pos+1) _ h1.2.1)
theorem j6z {g:Grammar}{r:Rule}{u q:ByteArray→Relation}(h:∀ n a i,n∈r.Right→hasP (u n) ((a:Nat):Int) ((i:Nat):Int)→hasP (q n) (a:Int) (i:Int)):∀ (m k:Nat) (o o' : Relation),k+m=r.Right.length→Sub o o'→Sub (z5U g r k ((r.Right.drop k).map u) o) (indL g r q m (k+1) o')
 | 0,k,o,o',hk,hs=>by
  rw [List.drop_eq_nil_of_le (by omega)]
  exact hs
 | m+1,k,o,o',hk,hs=>by
  have hk' : k < r.Right.length:=by omega
  rw [List.drop_eq_getElem_cons hk',List.map_cons,z5U,indL]
  have e:q5Q r ((k+1:Nat):Int)=r.Right[k]:=z5T (List.getElem?_eq_getElem hk')
  rw [e]
  exact j6z h m (k+1) _ _ (by omega) (k0o (fun a i=>h _ a i (List.getElem_mem hk')) g r _ hs)
theorem k4c {g:Grammar}{r:Rule}{u q:ByteArray→Relation}(hv:Valid (locR g r))(hl:¬ 16 < (occL g r).length)(h:∀ n a i,n∈r.Right→hasP (u n) ((a:Nat):Int) ((i:Nat):Int)→hasP (q n) (a:Int) (i:Int)):Sub (z7z g r (r.Right.map u)) (indR g r q):=by
 have e:z7z g r (r.Right.map u)=q5M (z5U g r 0 (r.Right.map u) (locR g r)):=if_neg hl
 rw [e]
 unfold indR
 refine Sub.close2 ?_
 rw [indL]
 have:=j6z (g:=g) h r.Right.length 0 (locR g r) _ (by omega) (j6y g r ((0:Nat):Int) (q (q5Q r ((0:Nat):Int))) hv)
 rwa [List.drop_zero] at this
theorem k4d {a b:Relation}(ha:Valid a)(hb:Valid b)(hN:a.N=b.N)(h:uniR a b=a):Sub b a:=by
 have hr:(a.Rows.mapIdx fun j x=>orI x (b.Rows.getD j 0))=a.Rows:=by
  unfold uniR at h
  rw [if_pos ⟨ha,hb,hN⟩] at h
  exact congrArg Relation.Rows h
 refine⟨hb,ha,hN.symm,fun i j hj=>?_⟩
 unfold Rl at hj ⊢
 have hl:a.Rows.length=b.Rows.length:=by have:=ha.2.2.1; have:=hb.2.2.1; omega
 by_cases hi:i < a.Rows.length
 ·have h1:(a.Rows.mapIdx fun j x=>orI x (b.Rows.getD j 0))[i]? = a.Rows[i]?:=by rw [hr]
  rw [List.getElem?_mapIdx,List.getElem?_eq_getElem hi,Option.map_some] at h1
  have h1:=Option.some.inj h1
  rw [List.getD_eq_getElem?_getD,List.getElem?_eq_getElem hi,Option.getD_some,← h1]
  unfold orI
  rw [Int.toNat_natCast,Nat.testBit_or,hj,Bool.or_true]
 ·rw [List.getD_eq_getElem?_getD,List.getElem?_eq_none (by omega)] at hj
  simp at hj
theorem k4e {c x:Relation}(h:Sub c x)(hx:j4K x=false):j4K c=false:=by
 unfold j4K at hx ⊢
 rw [decide_eq_false_iff_not] at hx ⊢
 rintro⟨k,hk,hp⟩
 have h2:=h.close2
 refine hx ⟨k,?_,(z3W h2.2.1 k k).2 (h2.2.2.2 k k ((z3W h2.1 k k).1 hp))⟩
 have h3:=h.1.2.2.1
 have h4:=h.2.1.2.2.1
 have h5:=h.2.2.1
 omega
theorem pos0 {g:Grammar}{r:Rule}{m:Nat}(hm:m < (q5C g (q5Q r ((0:Nat):Int))).length):(posL g r ((0:Nat):Int))[m]? = some (m:Int):=by
 unfold posL
 have e:occL g r=occK g r 0++(List.range' 1 r.Right.length).flatMap (occK g r):=by unfold occL; rw [List.range'_succ,List.flatMap_cons]
 have f1:((occK g r 0).zipIdx 0).filter (fun q=>decide (q.1.Pos=((0:Nat):Int)))=(occK g r 0).zipIdx 0:=List.filter_eq_self.2 fun q hq=>by
  have:=List.fst_mem_of_mem_zipIdx hq
  unfold occK at this
  obtain⟨a,_,ha⟩:=List.mem_map.1 this
  rw [← ha]; simp
 have f2:(((List.range' 1 r.Right.length).flatMap (occK g r)).zipIdx (0+(occK g r 0).length)).filter (fun q=>decide (q.1.Pos=((0:Nat):Int)))=[]:=List.filter_eq_nil_iff.2 fun q hq=>by
  have:=List.fst_mem_of_mem_zipIdx hq
  obtain⟨k,hk,hk2⟩:=List.mem_flatMap.1 this
  rw [List.mem_range'_1] at hk
  unfold occK at hk2
  obtain⟨a,_,ha⟩:=List.mem_map.1 hk2
  rw [← ha]
  simp; omega
 rw [e,List.zipIdx_append,List.filter_append,f1,f2,List.append_nil,List.getElem?_map,List.getElem?_zipIdx]
 have hl:m < (occK g r 0).length:=by unfold occK; rw [List.length_map]; exact hm
 rw [List.getElem?_eq_getElem hl]
 simp
theorem k5Y {g:Grammar}(hg:GOk g){r:Rule}(hn:(q5C g r.Left).length≤16)(c:Relation):∃ s,q8h g r c=some s∧Valid s∧s.N=((q5C g r.Left).length:Int)∧∀ a b:Nat,Rl s.Rows a b→hasP c (a:Int) (b:Int):=by
 have hv:=j2n (n:=((q5C g r.Left).length:Int)) (by omega) (by omega)
 have P0:∀ s:List Int × Int,(Valid ⟨s.2,s.1⟩∧s.2=((q5C g r.Left).length:Int)∧∀ a b:Nat,Rl s.1 a b→hasP c (a:Int) (b:Int))→s.1.length≤1048576:=fun s h=>by have:=h.1.2.2.1; have:=h.1.2.1; dsimp only at *; omega
 have key:=z8P (P:=fun _ (s:List Int × Int)=>Valid ⟨s.2,s.1⟩∧s.2=((q5C g r.Left).length:Int)∧∀ a b:Nat,Rl s.1 a b→hasP c (a:Int) (b:Int)) (f:=z1x c (q5C g r.Left)) (xs:=q5C g r.Left) (i:=0) (s:=(List.replicate ((q5C g r.Left).length:Int).toNat 0,((q5C g r.Left).length:Int))) ⟨hv,rfl,fun a b h=>by
   exfalso
   unfold Rl at h
   rw [List.getD_eq_getElem?_getD,List.getElem?_replicate] at h
   split at h<;>simp at h⟩ fun k x s _ _ _ hs=>by
  obtain⟨s1,s2⟩:=s
  have h2:=z8P (P:=fun _ (s:List Int × Int)=>Valid ⟨s.2,s.1⟩∧s.2=((q5C g r.Left).length:Int)∧∀ a b:Nat,Rl s.1 a b→hasP c (a:Int) (b:Int)) (f:=q9T c k x) (xs:=q5C g r.Left) (i:=0) (s:=(s1,s2)) hs fun k2 x2 s _ _ _ hs=>by
   obtain⟨t1,t2⟩:=s
   have hl:=P0 _ hs
   dsimp only at hs hl
   unfold q9T
   dsimp only
   rw [q7Q,j6h (r:=⟨t2,t1⟩) hl]
   simp only [Option.bind_some]
   by_cases p1:hasP c (k:Int) (k2:Int)
   ·have hA:Valid (addP ⟨t2,t1⟩ (k:Int) (k2:Int))∧(addP ⟨t2,t1⟩ (k:Int) (k2:Int)).N=((q5C g r.Left).length:Int)∧∀ a b:Nat,Rl (addP ⟨t2,t1⟩ (k:Int) (k2:Int)).Rows a b→hasP c (a:Int) (b:Int):=by
     refine⟨z3t hs.1 _ _,(z3j _ _ _).2.trans hs.2.1,fun a b h=>?_⟩
     rcases (j2k hs.1 _ _ a b).1 h with h | ⟨_,_,h1,h2⟩
     ·exact hs.2.2 a b h
     ·rw [h1,h2]; exact p1
    by_cases m1:x.Mode=1
    ·by_cases m2:x2.Mode=2
     ·simp only [m1,m2,p1,if_true,decide_true,Option.bind_some]; exact⟨_,rfl,hA⟩
     ·simp only [m1,m2,if_true,if_false,decide_false,Option.bind_some,Bool.false_eq_true]; exact⟨_,rfl,hs⟩
    ·simp only [m1,if_false,Option.bind_some,Bool.false_eq_true]; exact⟨_,rfl,hs⟩
   ·by_cases m1:x.Mode=1
    ·by_cases m2:x2.Mode=2
     ·simp only [m1,m2,p1,if_true,if_false,decide_true,decide_false,Option.bind_some,Bool.false_eq_true]; exact⟨_,rfl,hs⟩
     ·simp only [m1,m2,if_true,if_false,decide_false,Option.bind_some,Bool.false_eq_true]; exact⟨_,rfl,hs⟩
    ·simp only [m1,if_false,Option.bind_some,Bool.false_eq_true]; exact⟨_,rfl,hs⟩
  obtain⟨s',e,h3⟩:=h2
  exact⟨s',by unfold z1x; dsimp only; rw [e]; rfl,h3⟩
 obtain⟨⟨s1,s2⟩,e,h1,h2,h3⟩:=key
 refine⟨⟨s2,s1⟩,?_,h1,h2,h3⟩
 unfold q8h
 rw [z8W hg,Option.bind_some,z7t (by omega) (by omega),Option.bind_some]
 dsimp only
 rw [e]; rfl
end Go.Proofs.YtpnkinhphabkcaaGreat
namespace Go.Proofs.YtpnkinhphabkcaaGreat
open Go Go.E
theorem k0p {α:Type}{nm:α→ByteArray}{xs:List α}(h:j7G nm xs=true):xs.Pairwise fun a b=>nm a≠nm b:=by
 unfold j7G at h
 rw [Option.isNone_iff_eq_none] at h
 rw [List.pairwise_iff_getElem]
 intro i j hi hj hij he
 have h1:=z5o xs [] h j xs[j] (List.getElem?_eq_getElem hj)
 unfold dupB at h1
 rw [List.nil_append,List.any_eq_false] at h1
 exact h1 xs[i] (List.mem_take_iff_getElem.2 ⟨i,by omega,rfl⟩) (by simpa using he)
theorem k2u {y:Symbol}(h:symB y=true){a:Attribute}(ha:a∈y.Attributes):z2M y a.Name=(a,true):=by
 unfold symB at h
 simp only [Bool.and_eq_true] at h
 have hd:=k0p h.2.2.2
 unfold z2M
 cases hf:y.Attributes.find? (fun b=>decide (b.Name=a.Name)) with
 | none=>rw [List.find?_eq_none] at hf; exact absurd (by simp) (hf a ha)
 | some b=>
  have hb:=List.mem_of_find?_eq_some hf
  have he:b.Name=a.Name:=by simpa using List.find?_some hf
  have:b=a:=by
   rcases List.getElem_of_mem hb with ⟨i,hi,rfl⟩
   rcases List.getElem_of_mem ha with ⟨j,hj,rfl⟩
   rw [List.pairwise_iff_getElem] at hd
   rcases Nat.lt_trichotomy i j with h | h | h
   ·exact absurd he (hd i j hi hj h)
   ·subst h; rfl
   ·exact absurd he.symm (hd j i hj hi h)
  rw [this]
theorem Shape.find {g:Grammar}(h:Shape g){r:Rule}(hr:r∈g.Rules){k:Nat}(hk:k < r.Right.length+1):Go.Proofs.YtpnkinhphabkcaaGreat.symB (q6V g (q5Q r (k:Int))).1=true:=by
 have hb:=h.brk 3 (by omega) (by omega) r hr
 unfold z4a at hb
 rw [if_pos rfl] at hb
 simp only [Bool.not_eq_false'] at hb
 unfold j2g at hb
 rw [List.all_eq_true] at hb
 have h1:=hb k (by rw [List.mem_range'_1]; omega)
 unfold q6V at h1 ⊢
 cases hf:g.Symbols.find? (fun y=>decide (y.Name=q5Q r (k:Int))) with
 | none=>rw [hf] at h1; cases h1
 | some y=>exact h.symB (List.mem_of_find?_eq_some hf)
theorem Shape.may {g:Grammar}(h:Shape g){r:Rule}(hr:r∈g.Rules){q:Equation}(hq:q∈r.Equations){u:Occurrence}(hu:u∈attrs q.Expr):mayB g r u=true∧u ∉ reqL g r:=by
 have hb:=h.brk 6 (by omega) (by omega) r hr
 unfold z4a at hb
 rw [if_neg (by omega),if_neg (by omega),if_neg (by omega)] at hb
 unfold misB at hb
 simp only [Bool.not_eq_false'] at hb
 rw [List.all_eq_true] at hb
 have h1:=hb q.Expr (by unfold z4q; rw [List.mem_append]; exact .inl (List.mem_map.2 ⟨q,hq,rfl⟩))
 unfold useB at h1
 rw [List.all_eq_true] at h1
 have hm:=h1 u hu
 refine⟨hm,fun hi=>?_⟩
 unfold reqL at hi
 obtain⟨k,hk,hi⟩:=List.mem_flatMap.1 hi
 rw [List.mem_range'_1] at hk
 unfold reqK at hi
 obtain⟨a,ha,rfl⟩:=List.mem_map.1 hi
 rw [List.mem_filter] at ha
 have hs:=h.find hr (k:=k) (by omega)
 unfold mayB z1D at hm
 rw [if_pos (by dsimp only; omega)] at hm
 dsimp only at hm
 rw [k2u hs ha.1] at hm
 have h2:=ha.2
 simp only [decide_eq_true_eq,Bool.and_eq_true] at h2 hm
 rw [h2] at hm
 by_cases h0:(k:Int)=0
 ·rw [if_pos h0,if_pos h0] at hm; omega
 ·rw [if_neg h0,if_neg h0] at hm; omega
end Go.Proofs.YtpnkinhphabkcaaGreat
namespace Go.Proofs.YtpnkinhphabkcaaGreat
open Go Go.E
theorem k6I (l:List Occurrence)(o:Occurrence):q5x l o=some (ixF l o):=by
 have h:q3T l o=some (ixF l o):=by
  unfold q3T
  refine j1S fun k x=>⟨fun e=>?_,fun e=>?_⟩
  ·unfold q3X; rw [if_pos e.symm]
  ·unfold q3X; rw [if_neg (fun h=>e h.symm)]
 unfold q5x
 rw [h]; rfl
theorem k6J {l:List Occurrence}{u:Occurrence}{a:Nat}(h:(a:Int)=ixF l u):l[a]? = some u:=by
 unfold ixF at h
 by_cases hm:u∈l
 ·rw [if_pos hm] at h
  obtain rfl:a=l.idxOf u:=by omega
  have hl:=List.idxOf_lt_length_of_mem hm
  rw [List.getElem?_eq_getElem hl,List.getElem_idxOf]
 ·rw [if_neg hm] at h; omega
theorem k6K {l:List Occurrence}{u:Occurrence}{a:Nat}(h:(a:Int)=ixF l u):a < l.length:=(List.getElem?_eq_some_iff.1 (k6J h)).1
theorem k4K (l:List Occurrence)(k:Nat)(hk:k < l.length):∀ (us:List Occurrence) (i:Nat) (o:Relation),Valid o→o.N=(l.length:Int) →
  ∃ o',eachL (q6M l k) i us (o.Rows,o.N)=some (o'.Rows,o'.N)∧Valid o'∧o'.N=o.N∧∀ a c:Nat,Rl o'.Rows a c↔Rl o.Rows a c∨(c=k∧∃ u∈us,(a:Int)=ixF l u)
 | [],i,o,hv,hN=>⟨o,rfl,hv,rfl,fun a c=>by simp⟩
 | u :: us,i,o,hv,hN=>by
  have hlen:o.Rows.length≤1048576:=by have:=hv.2.1; have:=hv.2.2.1; omega
  have e:q6M l k i u (o.Rows,o.N)=some ((addP o (ixF l u) (k:Int)).Rows,(addP o (ixF l u) (k:Int)).N):=by
   unfold q6M
   dsimp only
   rw [k6I,Option.bind_some,j0E,j6h hlen,Option.bind_some]
  obtain⟨o',h1,h2,h3,h4⟩:=k4K l k hk us (i+1) (addP o (ixF l u) (k:Int)) (z3t hv _ _) ((z3j _ _ _).2.trans hN)
  refine⟨o',by rw [eachL,e,Option.bind_some]; exact h1,h2,h3.trans (z3j _ _ _).2,fun a c=>?_⟩
  rw [h4,j2k hv]
  have hin:(a:Int)=ixF l u→inN o (ixF l u):=fun h=>⟨by omega,by have:=k6K h; omega⟩
  constructor
  ·rintro ((h | ⟨_,_,h1,h2⟩) | ⟨h1,u',hu,h2⟩)
   ·exact .inl h
   ·exact .inr ⟨by omega,u,by simp,h1⟩
   ·exact .inr ⟨h1,u',by simp [hu],h2⟩
  ·rintro (h | ⟨h1,u',hu,h2⟩)
   ·exact .inl (.inl h)
   ·rcases List.mem_cons.1 hu with rfl | hu
    ·exact .inl (.inr ⟨hin h2,⟨by omega,by omega⟩,h2,by omega⟩)
    ·exact .inr ⟨h1,u',hu,h2⟩
theorem k2v {r:Rule}(hr:Sz.szd r≤1048576)(l:List Occurrence):∀ (m k:Nat) (o:Relation),k+m=l.length→Valid o→o.N=(l.length:Int) →
  ∃ o',eachL (q6N r l) k (l.drop k) (o.Rows,o.N)=some (o'.Rows,o'.N)∧Valid o'∧o'.N=o.N∧∀ a c:Nat,Rl o'.Rows a c↔Rl o.Rows a c∨(k≤c∧∃ x,l[c]? = some x∧∃ u∈attrs (eqAt r x).1,(a:Int)=ixF l u)
 | 0,k,o,hk,hv,hN=>by
  refine⟨o,by rw [List.drop_eq_nil_of_le (by omega)]; rfl,hv,rfl,fun a c=>⟨.inl,?_⟩⟩
  rintro (h | ⟨h1,x,h2,_⟩)
  ·exact h
  ·have:=(List.getElem?_eq_some_iff.1 h2).1; omega
 | m+1,k,o,hk,hv,hN=>by
  have hk' : k < l.length:=by omega
  have hsz:=k1K hr l[k]
  have hf:=k1L hr l[k]
  obtain⟨o1,h1,h2,h3,h4⟩:=k4K l k hk' (attrs (eqAt r l[k]).1) 0 o hv hN
  obtain⟨o',k1,k2,k3,k4⟩:=k2v hr l m (k+1) o1 (by omega) h2 (h3.trans hN)
  have e1:q6N r l k l[k] (o.Rows,o.N)=some (o1.Rows,o1.N):=by
   unfold q6N
   dsimp only
   generalize eqAt r l[k]=z at hsz hf h1
   obtain⟨E,B⟩:=z
   rw [hf.2,Option.bind_some]
   dsimp only
   rw [j4v hsz,Option.bind_some,h1]; rfl
  refine⟨o',by rw [List.drop_eq_getElem_cons hk',eachL,e1,Option.bind_some]; exact k1,k2,k3.trans h3,fun a c=>?_⟩
  rw [k4,h4]
  constructor
  ·rintro ((h | ⟨rfl,u,hu,h⟩) | ⟨hc,h⟩)
   ·exact .inl h
   ·exact .inr ⟨Nat.le_refl _,l[c],List.getElem?_eq_getElem hk',u,hu,h⟩
   ·exact .inr ⟨by omega,h⟩
  ·rintro (h | ⟨hc,x,hx,u,hu,h⟩)
   ·exact .inl (.inl h)
   ·by_cases hck:c=k
    ·subst hck
     rw [List.getElem?_eq_getElem hk'] at hx
     cases hx
     exact .inl (.inr ⟨rfl,u,hu,h⟩)
    ·exact .inr ⟨by omega,x,hx,u,hu,h⟩
theorem j6A (n i j:Nat):¬ Rl (List.replicate n 0) i j:=by
 unfold Rl
 rw [List.getD_eq_getElem?_getD,List.getElem?_replicate]
 split<;>simp
theorem k2w {g:Grammar}{r:Rule}(hg:Sz.szd g≤1048576)(hr:Sz.szd r≤1048576)(hl:(occL g r).length≤16):Valid (locR g r)∧(locR g r).N=((occL g r).length:Int) ∧
  ∀ a c:Nat,Rl (locR g r).Rows a c↔∃ x,(occL g r)[c]? = some x∧∃ u∈attrs (eqAt r x).1,(a:Int)=ixF (occL g r) u:=by
 have h:=(k2n hg hr).2.1
 unfold q6A at h
 rw [j4M (q9p hg) (q6n hr),Option.bind_some,z5h,z7t (by omega) (by omega),Option.bind_some,if_neg (by omega)] at h
 obtain⟨o',h1,h2,h3,h4⟩:=k2v hr (occL g r) (occL g r).length 0 ⟨((occL g r).length:Int),List.replicate (((occL g r).length:Int)).toNat 0⟩ (by omega) (j2n (by omega) (by omega)) rfl
 rw [List.drop_zero] at h1
 rw [h1,Option.bind_some] at h
 have e:locR g r=o':=(Option.some.inj h).symm
 rw [e]
 refine⟨h2,h3,fun a c=>?_⟩
 rw [h4]
 constructor
 ·rintro (h | ⟨_,h⟩)
  ·exact absurd h (j6A _ _ _)
  ·exact h
 ·exact fun h=>.inr ⟨Nat.zero_le _,h⟩
theorem j8Z {α ρ:Type}{f:Nat→α→Unit→Option (Unit ⊕ ρ)}:∀ (xs:List α) (i:Nat),(∀ k x,xs[k]? = some x→f (i+k) x ()=some (.inl ()))→findL f i xs ()=some (.inl ())
 | [],_,_=>rfl
 | x :: xs,i,h=>by
  have h0:=h 0 x rfl
  rw [Nat.add_zero] at h0
  rw [findL,h0]
  exact j8Z xs (i+1) fun k y hk=>by rw [show i+1+k=i+(k+1) by omega]; exact h (k+1) y hk
end Go.Proofs.YtpnkinhphabkcaaGreat
namespace Go.Proofs.YtpnkinhphabkcaaGreat
open Go Go.E
theorem j4R {α β:Type}{p:α→Bool}{g:α→β}{B:Nat}{f:Nat→α→List β→Option (List β)}:∀ (xs:List α) (i:Nat) (s:List β),(∀ k x s,x∈xs→s.length < B→f k x s=some (if p x=true then s++[g x] else s))→s.length+xs.length≤B →
  eachL f i xs s=some (s++(xs.filter p).map g)
 | [],i,s,_,_=>by simp [eachL]
 | x :: xs,i,s,hf,h=>by
  simp only [List.length_cons] at h
  by_cases hp:p x=true
  ·have ih:=j4R xs (i+1) (s++[g x]) (fun k y s hy=>hf k y s (by simp [hy])) (by simp; omega)
   simp [eachL,hf i x s (by simp) (by omega),hp,ih]
  ·have ih:=j4R xs (i+1) s (fun k y s hy=>hf k y s (by simp [hy])) (by omega)
   simp [eachL,hf i x s (by simp) (by omega),hp,ih]
theorem j0H {α β:Type}{g:α→β}{B:Nat}{f:Nat→α→List β→Option (List β)}(xs:List α)(i:Nat)(s:List β)(hf:∀ k x s,x∈xs→s.length < B→f k x s=some (s++[g x]))(h:s.length+xs.length≤B) :
  eachL f i xs s=some (s++xs.map g):=by
 have:=j4R (p:=fun _=>true) (g:=g) (B:=B) (f:=f) xs i s (fun k x s hx hs=>by rw [hf k x s hx hs,if_pos rfl]) h
 rw [this]; congr 2; congr 1; simp
theorem j4S {g:Grammar}{n:ByteArray}(h:(q6V g n).2=true):∃ j y,atS g n=some j∧g.Symbols[j]? = some y∧q6V g n=(y,true)∧y.Name=n:=by
 unfold q6V at h ⊢
 cases hf:g.Symbols.find? fun y=>decide (y.Name=n) with
 | none=>rw [hf] at h; cases h
 | some y=>
  have hn:y.Name=n:=by simpa using List.find?_some (p:=fun y:Symbol=>decide (y.Name=n)) hf
  unfold atS
  cases he:g.Symbols.findIdx? fun y=>decide (y.Name=n) with
  | none=>
   rw [List.findIdx?_eq_none_iff] at he
   have:=he y (List.mem_of_find?_eq_some hf)
   simp [hn] at this
  | some j=>
   refine⟨j,y,rfl,?_,rfl,hn⟩
   rw [List.findIdx?_eq_some_iff_getElem] at he
   obtain⟨hj,h1,h2⟩:=he
   rw [List.find?_eq_some_iff_getElem] at hf
   obtain⟨_,i,hi,hy,h3⟩:=hf
   have:i=j:=by
    rcases Nat.lt_trichotomy i j with hlt | heq | hgt
    ·have:=h2 i hlt; rw [hy] at this; simp [hn] at this
    ·exact heq
    ·have:=h3 j hgt; simp at this; simp at h1; exact absurd h1 this
   subst this
   rw [List.getElem?_eq_getElem hi,hy]
theorem Shape.known {g:Grammar}(h:Shape g){r:Rule}(hr:r∈g.Rules){k:Nat}(hk:k≤r.Right.length):(q6V g (q5Q r (k:Int))).2=true:=by
 have h3:=h.brk 3 (by omega) (by omega) r hr
 unfold z4a at h3
 rw [if_pos rfl,Bool.not_eq_false'] at h3
 unfold j2g at h3
 rw [List.all_eq_true] at h3
 exact h3 k (by rw [List.mem_range'_1]; omega)
theorem Shape.right {g:Grammar}(h:Shape g){r:Rule}(hr:r∈g.Rules){n:ByteArray}(hn:n∈r.Right):(q6V g n).2=true:=by
 obtain⟨k,hk⟩:=List.getElem?_of_mem hn
 have hlt:=(List.getElem?_eq_some_iff.1 hk).1
 have:=h.known hr (k:=k+1) (by omega)
 rwa [z5T hk] at this
theorem Shape.left {g:Grammar}(h:Shape g){r:Rule}(hr:r∈g.Rules):(q6V g r.Left).2=true:=by
 have:=h.known hr (k:=0) (by omega)
 unfold q5Q at this
 rwa [if_pos (by rfl)] at this
theorem Shape.attrs {g:Grammar}(h:Shape g){y:Symbol}(hy:y∈g.Symbols):y.Attributes.length≤4:=by
 have:=h.symB hy
 unfold Go.Proofs.YtpnkinhphabkcaaGreat.symB at this
 simp only [Bool.and_eq_true,decide_eq_true_eq] at this
 exact this.2.2.1
theorem Shape.plain {g:Grammar}(h:Shape g)(n:ByteArray):(q5C g n).length≤4:=by
 refine Nat.le_trans (List.length_filter_le _ _) ?_
 unfold q6V
 cases hf:g.Symbols.find? fun y=>decide (y.Name=n) with
 | none=>simp [zS]
 | some y=>exact h.attrs (List.mem_of_find?_eq_some hf)
theorem j9a (g:Grammar)(n:ByteArray):q9f g n=some (atI g n):=by
 unfold q9f q4J atI atS
 rw [z8V (q:=fun y:Symbol=>decide (y.Name=n)) (c:=fun k=>(k:Int)) fun j x hx=>by
  unfold q6H z0t
  rw [Option.bind_some,← apply_ite some]]
 cases g.Symbols.findIdx? fun y=>decide (y.Name=n) with
 | none=>rfl
 | some j=>dsimp only; rw [Nat.zero_add]; rfl
def Inv (g:Grammar)(all:List Relation):Prop:=all.length=g.Symbols.length∧∀ (k:Nat) (y:Symbol) (a:Relation),g.Symbols[k]? = some y→all[k]? = some a→Valid a∧a.N=((q5C g y.Name).length:Int)
def zR:Relation:=⟨0,[]⟩
def q5N (g:Grammar)(all:List Relation)(n:ByteArray):Relation:=all.getD ((atS g n).getD 0) zR
theorem Inv.at_ {g:Grammar}{all:List Relation}(h:Inv g all){n:ByteArray}(hn:(q6V g n).2=true):∃ j,atS g n=some j∧j < g.Symbols.length∧all[j]? = some (q5N g all n)∧Valid (q5N g all n)∧(q5N g all n).N=((q5C g n).length:Int):=by
 obtain⟨j,y,h1,h2,h3,h4⟩:=j4S hn
 have hj:=(List.getElem?_eq_some_iff.1 h2).1
 have e:all[j]? = some (q5N g all n):=by
  unfold q5N
  rw [h1,Option.getD_some,List.getD_eq_getElem?_getD,List.getElem?_eq_getElem (by rw [h.1]; exact hj)]; rfl
 have:=h.2 j y _ h2 e
 rw [h4] at this
 exact⟨j,h1,hj,e,this⟩
def j2P (g:Grammar)(r:Rule)(all:List Relation):List Relation:=r.Right.map (q5N g all)
theorem j9b {g:Grammar}(hS:Shape g){r:Rule}(hr:r∈g.Rules){all:List Relation}(h:Inv g all):FitL g r (j2P g r all):=by
 refine⟨by unfold j2P; simp,fun k own hk=>?_⟩
 unfold j2P at hk
 rw [List.getElem?_map] at hk
 cases hx:r.Right[k]? with
 | none=>rw [hx] at hk; cases hk
 | some x=>
  rw [hx] at hk; cases hk
  obtain⟨j,_,_,_,h4,h5⟩:=h.at_ (hS.right hr (List.mem_of_getElem? hx))
  rw [z5T hx]
  exact⟨h4,h5⟩
theorem j6B {g:Grammar}(hS:Shape g){r:Rule}(hr:r∈g.Rules):r.Right.length≤3:=by
 have:=hS.ruleB hr
 unfold Go.Proofs.YtpnkinhphabkcaaGreat.ruleB at this
 simp only [Bool.and_eq_true,decide_eq_true_eq] at this
 exact this.2.1.1
theorem j9c {g:Grammar}(hS:Shape g){r:Rule}(hr:r∈g.Rules){all:List Relation}(h:Inv g all):z3r g r all=some (j2P g r all):=by
 have h3:=j6B hS hr
 unfold z3r j2P
 rw [j0H (g:=q5N g all) (B:=1048576) r.Right 0 [] (fun k x s hx hs=>by
  obtain⟨j,h1,h2,h4,_⟩:=h.at_ (hS.right hr hx)
  unfold j1P z0r
  rw [k0j,Option.bind_some]
  have ha:atI g x=(j:Int):=by unfold atI; rw [h1]
  rw [ha]
  by_cases hj:(j:Int) < 0
  ·omega
  ·rw [if_neg hj,Option.bind_some,q3G (by omega),Int.toNat_natCast,h4,Option.bind_some,q3G (by constructor<;>omega)]) (by simp; omega)]
 simp
noncomputable def sumS (g:Grammar) (r:Rule) (c:Relation):Relation:=(q8h g r c).getD ⟨0,[]⟩
theorem k5Z {g:Grammar}(h:GOk g){r:Rule}(hl:ROk r)(c:Relation):q8h g r c=some (sumS g r c)∧z6U g r c=some (sumS g r c):=by
 obtain⟨x,h1,h2,_⟩:=j6i (c:=c) h hl
 unfold sumS
 rw [h1,h2]; exact⟨rfl,rfl⟩
def sumA (all:List Relation):Nat:=(all.map sumR).sum
theorem j9d:∀ (all:List Relation) (k:Nat) (x a:Relation),all[k]? = some a→sumA (all.set k x)+sumR a=sumA all+sumR x
 | [],k,x,a,h=>by simp at h
 | b :: all,0,x,a,h=>by simp at h; subst h; unfold sumA; simp; omega
 | b :: all,k+1,x,a,h=>by
  have ih:=j9d all k x a (by simpa using h)
  unfold sumA at ih ⊢
  simp only [List.set_cons_succ,List.map_cons,List.sum_cons]; omega
theorem Inv.bound {g:Grammar}{all:List Relation}(h:Inv g all):sumA all≤all.length*(16*65535):=by
 have key:∀ l:List Relation,(∀ a∈l,Valid a)→sumA l≤l.length*(16*65535):=by
  intro l
  induction l with
  | nil=>intro _; simp [sumA]
  | cons a l ih=>
   intro hv
   have h1:=k2i (hv a (by simp))
   have h2:=ih fun b hb=>hv b (by simp [hb])
   unfold sumA at h2 ⊢
   simp only [List.map_cons,List.sum_cons,List.length_cons]
   omega
 refine key all fun a ha=>?_
 obtain⟨k,hk⟩:=List.getElem?_of_mem ha
 have hlt:=(List.getElem?_eq_some_iff.1 hk).1
 exact (h.2 k _ a (List.getElem?_eq_getElem (by rw [← h.1]; exact hlt)) hk).1
theorem Valid.len {a:Relation}(h:Valid a):a.Rows.length≤16:=by have:=h.2.2.1; have:=h.2.1; omega
def z4r (g:Grammar):List Relation:=g.Symbols.map fun y=>⟨((q5C g y.Name).length:Int),List.replicate (q5C g y.Name).length 0⟩
theorem j2o {g:Grammar}(hS:Shape g):Inv g (z4r g):=by
 refine⟨by unfold z4r; simp,fun k y a hk ha=>?_⟩
 unfold z4r at ha
 rw [List.getElem?_map,hk] at ha
 cases ha
 have h4:=hS.plain y.Name
 refine⟨⟨by show (0:Int)≤((q5C g y.Name).length:Int); omega,by show ((q5C g y.Name).length:Int)≤16; omega,by simp,fun x hx=>?_⟩,rfl⟩
 rw [List.mem_replicate] at hx
 have:=Nat.one_le_two_pow (n:=((q5C g y.Name).length:Int).toNat)
 show 0≤x∧x≤((2 ^ ((q5C g y.Name).length:Int).toNat:Nat):Int) - 1
 omega
theorem j2p {g:Grammar}(h0:Sz.szd g≤1048576)(hS:Shape g):q8x g=some (z4r g):=by
 have hl:=hS.syms
 unfold q8x z4r
 rw [j0H (g:=fun y:Symbol=>(⟨((q5C g y.Name).length:Int),List.replicate (q5C g y.Name).length 0⟩:Relation)) (B:=1048576) g.Symbols 0 [] (fun k y s hy hs=>by
  unfold z4i
  have:=hS.plain y.Name
  rw [z8X (q9p h0),Option.bind_some,z5h,z7t (by omega) (by omega),Option.bind_some,q3G (by constructor<;>omega),Int.toNat_natCast]) (by simp; omega)]
 simp
theorem j7W {g:Grammar}(h0:Sz.szd g≤1048576)(hS:Shape g):eachL (z1y g) 0 g.Symbols []=some (z4r g):=by
 have hl:=hS.syms
 unfold z4r
 rw [j0H (g:=fun y:Symbol=>(⟨((q5C g y.Name).length:Int),List.replicate (q5C g y.Name).length 0⟩:Relation)) (B:=1048576) g.Symbols 0 [] (fun k y s hy hs=>by
  unfold z1y
  have:=hS.plain y.Name
  rw [z8W (q9p h0),Option.bind_some,z7t (by omega) (by omega),Option.bind_some,q3G (by constructor<;>omega),Int.toNat_natCast]) (by simp; omega)]
 simp
theorem j7X {α β:Type}{p:α→Bool}{g:α→β}{xs:List α}{f:(List β × Int)→Option ((List β × Int) ⊕ List β)}(hf:∀ (k:Nat) x s,xs[k]? = some x→s.length≤k→f (s,(k:Int))=some (.inl (if p x=true then s++[g x] else s,((k+1:Nat):Int))))(he:∀ s,f (s,(xs.length:Int))=some (.inr s)) :
  ∀ (m k:Nat) (s:List β),k+m=xs.length→s.length≤k→q4L f (s,(k:Int))=some (s++((xs.drop k).filter p).map g)
 | 0,k,s,hk,_=>by
  obtain rfl:k=xs.length:=by omega
  rw [q3I (he s)]; simp
 | m+1,k,s,hk,hs=>by
  have hk' : k < xs.length:=by omega
  have h1:=hf k xs[k] s (List.getElem?_eq_getElem hk') hs
  rw [q3W h1,List.drop_eq_getElem_cons hk']
  by_cases hp:p xs[k]=true
  ·rw [if_pos hp,j7X hf he m (k+1) _ (by omega) (by simp; omega),List.filter_cons,if_pos hp]; simp
  ·rw [if_neg hp,j7X hf he m (k+1) _ (by omega) (by omega),List.filter_cons,if_neg hp]
end Go.Proofs.YtpnkinhphabkcaaGreat
namespace Go.Proofs.YtpnkinhphabkcaaGreat
open Go Go.E
theorem k0q {n:Int}{s:List Int}(h0:0≤n)(h1:n≤16)(h:z2L n.toNat s):Valid ⟨n,s⟩:=by
 have hl:=h.1
 refine⟨h0,h1,by show (s.length:Int)=n; omega,fun x hx=>?_⟩
 have:=h.2 x hx
 have:=j4C n
 exact⟨(h.2 x hx).1,by show x≤((2 ^ n.toNat:Nat):Int) - 1; omega⟩
theorem k0r {p:Relation}{l:List Int}(hl:l.length≤16)(k1:Nat)(x1:Int){f:Nat→Int→List Int→Option (List Int)}(hf:∀ k2 x2 s2,f k2 x2 s2=((q7B p x1 x2).bind fun y3=>if y3=true then ((s2[k1]?).bind fun x3=>grd (0≤(k2:Int)∧(k2:Int) < 63) <| grd (0≤x3∧0≤((2 ^ (k2:Int).toNat:Nat):Int)) <| some (List.set s2 k1 ((x3.toNat ||| ((2 ^ (k2:Int).toNat:Nat):Int).toNat:Nat):Int))) else some s2).bind fun s3=>some s3)
  {s:List Int} {v:Int} (hs:s[k1]? = some v) (hv:0≤v) :
  ∃ y:Int,eachL f 0 l s=some (s.set k1 y)∧0≤y∧∀ n,y.toNat.testBit n=true↔v.toNat.testBit n=true∨∃ x2,l[n]? = some x2∧hasP p x1 x2:=by
 have hk1:=(List.getElem?_eq_some_iff.1 hs).1
 have key:∀ (m k:Nat) (v:Int),k+m=l.length→0≤v→∃ y:Int,eachL f k (l.drop k) (s.set k1 v)=some (s.set k1 y)∧0≤y∧∀ n,y.toNat.testBit n=true↔v.toNat.testBit n=true∨(k≤n∧∃ x2,l[n]? = some x2∧hasP p x1 x2):=by
  intro m
  induction m with
  | zero=>
   intro k v hk hv
   refine⟨v,by rw [List.drop_eq_nil_of_le (by omega)]; rfl,hv,fun n=>⟨.inl,fun h=>h.elim id fun ⟨h1,x2,h2,_⟩=>?_⟩⟩
   rw [List.getElem?_eq_none (by omega)] at h2; cases h2
  | succ m ih=>
   intro k v hk hv
   obtain⟨x2,hx2⟩:∃ x2,l[k]? = some x2:=⟨_,List.getElem?_eq_getElem (by omega)⟩
   have hd:l.drop k=x2 :: l.drop (k+1):=by
    rw [List.drop_eq_getElem_cons (by omega)]
    have:l[k]=x2:=by rw [List.getElem?_eq_getElem (by omega)] at hx2; exact Option.some.inj hx2
    rw [this]
   have hsv:(s.set k1 v)[k1]? = some v:=by rw [List.getElem?_set]; simp [hk1]
   by_cases hp:hasP p x1 x2
   ·have e:f k x2 (s.set k1 v)=some (s.set k1 (orI v ((2 ^ k:Nat):Int))):=by
     rw [hf,q7Q,Option.bind_some,if_pos (by simpa using hp),hsv,Option.bind_some,q3G (by constructor<;>omega),q3G ⟨hv,Int.natCast_nonneg _⟩,Option.bind_some,List.set_set]
     rfl
    obtain⟨y,h1,h2,h3⟩:=ih (k+1) (orI v ((2 ^ k:Nat):Int)) (by omega) (j3x _ _)
    refine⟨y,by rw [hd]; simp only [eachL,e,Option.bind_some]; exact h1,h2,fun n=>?_⟩
    rw [h3,z8Q,Nat.testBit_or,Int.toNat_natCast,Nat.testBit_two_pow,Bool.or_eq_true,decide_eq_true_iff]
    constructor
    ·rintro ((h | h) | ⟨h,h'⟩)
     ·exact .inl h
     ·subst h; exact .inr ⟨Nat.le_refl _,x2,hx2,hp⟩
     ·exact .inr ⟨by omega,h'⟩
    ·rintro (h | ⟨h,h'⟩)
     ·exact .inl (.inl h)
     ·by_cases hn:k=n
      ·exact .inl (.inr hn)
      ·exact .inr ⟨by omega,h'⟩
   ·have e:f k x2 (s.set k1 v)=some (s.set k1 v):=by
     rw [hf,q7Q,Option.bind_some,if_neg (by simpa using hp),Option.bind_some]
    obtain⟨y,h1,h2,h3⟩:=ih (k+1) v (by omega) hv
    refine⟨y,by rw [hd]; simp only [eachL,e,Option.bind_some]; exact h1,h2,fun n=>?_⟩
    rw [h3]
    constructor
    ·rintro (h | ⟨h,h'⟩)
     ·exact .inl h
     ·exact .inr ⟨by omega,h'⟩
    ·rintro (h | ⟨h,x3,h4,h5⟩)
     ·exact .inl h
     ·by_cases hn:k=n
      ·subst hn; rw [hx2] at h4; cases h4; exact absurd h5 hp
      ·exact .inr ⟨by omega,x3,h4,h5⟩
 obtain⟨y,h1,h2,h3⟩:=key l.length 0 v (by omega) hv
 have e0:s.set k1 v=s:=by
  apply List.ext_getElem?
  intro q
  rw [List.getElem?_set]
  by_cases hq:k1=q
  ·subst hq; rw [if_pos rfl,if_pos hk1,hs]
  ·rw [if_neg hq]
 rw [List.drop_zero,e0] at h1
 exact⟨y,h1,h2,fun n=>by rw [h3]; simp⟩
theorem j6C:q8e=q5z:=by
 funext p l
 unfold q8e q5z
 rw [z0K,q6v,z5h]
 have e:z0F p l=q6O p l:=by
  funext k x s
  unfold z0F q6O
  have e2:z0E p k x=q8T p k x:=by
   funext k2 x2 s2
   unfold z0E q8T
   rw [j8I]
  rw [e2]
 rw [e]
theorem j6D {p:Relation}(hp:Valid p){l:List Int}(hl:l.length≤16):∃ q,q5z p l=some q∧Valid q∧q.N=l.length∧∀ (m n:Nat) (x y:Int),l[m]? = some x→l[n]? = some y→(hasP q (m:Int) (n:Int)↔hasP p x y):=by
 have key:∀ (m k:Nat) (s:List Int),k+m=l.length→z2L l.length s→(∀ i,k≤i→i < l.length→s[i]? = some 0)→(∀ i x,i < k→l[i]? = some x→∀ n,Rl s i n↔∃ y,l[n]? = some y∧hasP p x y) →
   ∃ s',eachL (q6O p l) k (l.drop k) s=some s'∧z2L l.length s'∧∀ i x,l[i]? = some x→∀ n,Rl s' i n↔∃ y,l[n]? = some y∧hasP p x y:=by
  intro m
  induction m with
  | zero=>
   intro k s hk hok _ h
   exact⟨s,by rw [List.drop_eq_nil_of_le (by omega)]; rfl,hok,fun i x hx=>h i x (by have:=(List.getElem?_eq_some_iff.1 hx).1; omega) hx⟩
  | succ m ih=>
   intro k s hk hok h0 h
   obtain⟨x,hx⟩:∃ x,l[k]? = some x:=⟨_,List.getElem?_eq_getElem (by omega)⟩
   have hd:l.drop k=x :: l.drop (k+1):=by
    rw [List.drop_eq_getElem_cons (by omega)]
    have:l[k]=x:=by rw [List.getElem?_eq_getElem (by omega)] at hx; exact Option.some.inj hx
    rw [this]
   obtain⟨y,h1,h2,h3⟩:=k0r (p:=p) hl k x (f:=q8T p k x) (fun _ _ _=>rfl) (h0 k (Nat.le_refl _) (by omega)) (Int.le_refl _)
   have e:q6O p l k x s=some (s.set k y):=by
    unfold q6O; rw [h1]; rfl
   have hks:k < s.length:=by rw [hok.1]; omega
   have hget:∀ i,(s.set k y)[i]? = if k=i then some y else s[i]?:=fun i=>by
    rw [List.getElem?_set]
    by_cases hi:k=i
    ·subst hi; simp [hks]
    ·simp [hi]
   have hylt:y.toNat < 2 ^ l.length:=by
    apply Nat.lt_pow_two_of_testBit
    intro n hn
    cases hb:y.toNat.testBit n with
    | false=>rfl
    | true=>
     rcases (h3 n).1 hb with h4 | ⟨x2,h4,_⟩
     ·simp at h4
     ·rw [List.getElem?_eq_none (by omega)] at h4; cases h4
   have hok' : z2L l.length (s.set k y):=by
    refine⟨by rw [List.length_set]; exact hok.1,fun z hz=>?_⟩
    rcases List.mem_or_eq_of_mem_set hz with h4 | h4
    ·exact hok.2 z h4
    ·subst h4; exact⟨h2,hylt⟩
   obtain⟨s',k1,k2,k3⟩:=ih (k+1) (s.set k y) (by omega) hok' (fun i hi hil=>by rw [hget,if_neg (by omega)]; exact h0 i (by omega) hil) (fun i x' hi hx' n=>by
    by_cases hik:k=i
    ·subst hik
     rw [hx] at hx'; cases hx'
     have:(s.set k y).getD k 0=y:=by rw [List.getD_eq_getElem?_getD,hget,if_pos rfl]; rfl
     unfold Rl
     rw [this,h3]; simp
    ·have:(s.set k y).getD i 0=s.getD i 0:=by rw [List.getD_eq_getElem?_getD,hget,if_neg hik,List.getD_eq_getElem?_getD]
     have h5:=h i x' (by omega) hx' n
     unfold Rl at h5 ⊢
     rw [this]; exact h5)
   exact⟨s',by rw [hd]; simp only [eachL,e,Option.bind_some]; exact k1,k2,k3⟩
 obtain⟨s',h1,h2,h3⟩:=key l.length 0 (List.replicate l.length 0) (by omega) ⟨by simp,fun x hx=>by
  rw [List.mem_replicate] at hx; rw [hx.2]; exact⟨Int.le_refl _,Nat.two_pow_pos _⟩⟩ (fun i _ hi=>by rw [List.getElem?_replicate,if_pos hi]) (fun i x hi=>absurd hi (Nat.not_lt_zero _))
 have hv:Valid ⟨(l.length:Int),s'⟩:=k0q (Int.natCast_nonneg _) (by omega) (by rw [Int.toNat_natCast]; exact h2)
 refine⟨⟨(l.length:Int),s'⟩,?_,hv,rfl,fun m n x y hx hy=>?_⟩
 ·unfold q5z
  rw [q6v,Option.bind_some,if_pos (by simpa using hp),if_neg (by omega),z7t (Int.natCast_nonneg _) (by omega),Option.bind_some]
  dsimp only
  rw [Int.toNat_natCast]
  rw [List.drop_zero] at h1
  rw [h1]; rfl
 ·rw [z3W hv,h3 m x hx n]
  constructor
  ·rintro⟨y',h4,h5⟩
   rw [hy] at h4; cases h4; exact h5
  ·intro h; exact⟨y,hy,h⟩
end Go.Proofs.YtpnkinhphabkcaaGreat
namespace Go.Proofs.YtpnkinhphabkcaaGreat
open Go Go.E
noncomputable def j4T (x:Relation) (l:List Int):Relation:=(q5z x l).getD ⟨0,[]⟩
theorem j9e {x:Relation}(hx:Valid x){l:List Int}(hl:l.length≤16):q5z x l=some (j4T x l)∧Valid (j4T x l)∧(j4T x l).N=(l.length:Int)∧∀ (m n:Nat) (a b:Int),l[m]? = some a→l[n]? = some b→(hasP (j4T x l) (m:Int) (n:Int)↔hasP x a b):=by
 obtain⟨q,h1,h2,h3,h4⟩:=j6D hx hl
 unfold j4T
 rw [h1]
 exact⟨rfl,h2,h3,h4⟩
theorem Shape.occ16 {g:Grammar}(h:Shape g){r:Rule}(hr:r∈g.Rules):(occL g r).length≤16:=by
 have h3:=j6B h hr
 have:=j4Q (C:=4) (f:=occK g r) (fun k=>by unfold occK; rw [List.length_map]; exact h.plain _) (List.range' 0 (r.Right.length+1))
 rw [List.length_range'] at this
 unfold occL
 omega
theorem k4f (g:Grammar)(r:Rule)(o:Relation)(pos:Int)(own:Relation):(z0S g r o pos own).N=o.N:=(z8d own _ _ 0 o).2
theorem k2x (g:Grammar)(r:Rule)(all:ByteArray→Relation):∀ (m pos:Nat) (o:Relation),(indL g r all m pos o).N=o.N∧(indL g r all m pos o).Rows.length=o.Rows.length
 | 0,pos,o=>⟨rfl,rfl⟩
 | m+1,pos,o=>by
  rw [indL]
  have h1:=k2x g r all m (pos+1) (z0S g r o (pos:Int) (all (q5Q r (pos:Int))))
  exact⟨h1.1.trans (k4f _ _ _ _ _),h1.2.trans (z9E _ _ _ _ _)⟩
theorem j6E {g:Grammar}(h0:Sz.szd g≤1048576)(h:Shape g){r:Rule}(hr:r∈g.Rules)(all:ByteArray→Relation):Valid (locR g r)∧Valid (indR g r all)∧(indR g r all).N=((occL g r).length:Int):=by
 obtain⟨v1,v2,_⟩:=k2w h0 (Nat.le_trans (z2g hr) h0) (h.occ16 hr)
 have hs:=j8Y g r all (r.Right.length+1) 0 (locR g r) v1
 have hc:=Sub.close hs.2.1
 unfold indR
 exact⟨v1,hc.2.1,by rw [← hc.2.2.1,(k2x g r all _ 0 _).1,v2]⟩
theorem j6F {g:Grammar}(h:Shape g)(r:Rule){k:Nat}(hk:k≤r.Right.length):(posL g r (k:Int)).length≤16:=by
 rw [j7U g hk]
 have:=h.plain (q5Q r (k:Int))
 omega
def z8Z (g:Grammar)(all:List Relation)(r:Rule):Prop:=j4K (indR g r (q5N g all))=false∧∀ pos:Nat,pos≤r.Right.length→uniR (q5N g all (q5Q r (pos:Int))) (j4T (indR g r (q5N g all)) (posL g r (pos:Int)))=q5N g all (q5Q r (pos:Int))
theorem k6a {a b c:Relation}(ha:Sub a c)(hb:Sub b c):Sub (uniR a b) c:=by
 have hv:=j6q (b:=b) ha.1
 refine⟨hv.1,ha.2.1,hv.2.trans ha.2.2.1,fun i j h=>?_⟩
 have hN:a.N=b.N:=ha.2.2.1.trans hb.2.2.1.symm
 unfold uniR at h
 rw [if_pos ⟨ha.1,hb.1,hN⟩] at h
 unfold Rl at h
 dsimp only at h
 rw [List.getD_eq_getElem?_getD,List.getElem?_mapIdx] at h
 cases hx:a.Rows[i]? with
 | none=>rw [hx] at h; simp at h
 | some x=>
  rw [hx,Option.map_some,Option.getD_some] at h
  unfold orI at h
  rw [Int.toNat_natCast,Nat.testBit_or,Bool.or_eq_true] at h
  rcases h with h | h
  ·exact ha.2.2.2 i j (by unfold Rl; rw [List.getD_eq_getElem?_getD,hx]; exact h)
  ·exact hb.2.2.2 i j h
theorem k4L {g:Grammar}(h0:Sz.szd g≤1048576)(hS:Shape g){q:List Relation}(hq:Inv g q){r:Rule}(hr:r∈g.Rules)(hst:z8Z g q r){u:ByteArray→Relation}(hu:∀ n a i,n∈r.Right→hasP (u n) ((a:Nat):Int) ((i:Nat):Int)→hasP (q5N g q n) (a:Int) (i:Int)) :
  Sub (sumS g r (z7z g r (r.Right.map u))) (q5N g q r.Left)∧Sub (z7z g r (r.Right.map u)) (indR g r (q5N g q)):=by
 obtain⟨v1,v2,v3⟩:=j6E h0 hS hr (q5N g q)
 have h16:¬ 16 < (occL g r).length:=by have:=hS.occ16 hr; omega
 have hc:=k4c v1 h16 hu
 refine⟨?_,hc⟩
 have hL:q5Q r ((0:Nat):Int)=r.Left:=by unfold q5Q; rw [if_pos (by rfl)]
 have hn:=hS.plain r.Left
 obtain⟨s,e,s1,s2,s3⟩:=k5Y (q9p h0) (r:=r) (by omega) (z7z g r (r.Right.map u))
 have es:sumS g r (z7z g r (r.Right.map u))=s:=by unfold sumS; rw [e]; rfl
 rw [es]
 obtain⟨j,_,_,_,q1,q2⟩:=hq.at_ (hS.left hr)
 obtain⟨p1,p2,p3,p4⟩:=j9e v2 (j6F hS r (k:=0) (Nat.zero_le _))
 have hst0:=hst.2 0 (Nat.zero_le _)
 rw [hL] at hst0
 have hpl:((posL g r ((0:Nat):Int)).length:Int)=((q5C g r.Left).length:Int):=by rw [j7U g (Nat.zero_le _),hL]
 have hcv:=k4d q1 p2 (by rw [q2,p3,hpl]) hst0
 refine⟨s1,q1,by rw [s2,q2],fun a b hab=>hcv.2.2.2 a b ?_⟩
 have hlt:∀ x y:Nat,Rl s.Rows x y→x < (q5C g r.Left).length∧y < (q5C g r.Left).length:=fun x y h=>by
  have:=(z3W s1 x y).2 h
  obtain⟨_,⟨_,i1⟩,⟨_,i2⟩,_⟩:=this
  rw [s2] at i1 i2
  omega
 obtain⟨la,lb⟩:=hlt a b hab
 have ga:=pos0 (g:=g) (r:=r) (m:=a) (by rw [hL]; exact la)
 have gb:=pos0 (g:=g) (r:=r) (m:=b) (by rw [hL]; exact lb)
 rw [← z3W p2,p4 a b _ _ ga gb]
 have:=s3 a b hab
 exact (z3W v2 a b).2 (hc.2.2.2 a b ((z3W hc.1 a b).1 this))
end Go.Proofs.YtpnkinhphabkcaaGreat
namespace Go.Proofs.YtpnkinhphabkcaaGreat
open Go Go.E
def cirG (g:Grammar):Bool:=g.Symbols.any fun y=>y.Attributes.any fun a=>a.Circular
theorem k6b (g:Grammar):q5G g=some (cirG g):=by
 unfold q5G q3O q3R
 rw [q4V (q:=fun y:Symbol=>y.Attributes.any fun a=>a.Circular) fun k y hy=>by
  unfold q5r q5Z q4t q4I
  rw [q4V (q:=fun a:Attribute=>a.Circular) fun k a ha=>by
   unfold q6G z3e
   rw [Option.bind_some]
   cases a.Circular<;>rfl]
  rw [Option.bind_some,Option.bind_some,← apply_ite some]]
 rfl
noncomputable def k0s (g:Grammar):Bool:=z5p g&&(!(colG g||cirG g) && !g.Rules.any farR)
theorem k4g {g:Grammar}(hg:z5p g=true)(hc:colG g=false):(g.Rules.any fun r=>(z4q r).any farB)=g.Rules.any farR:=by
 have:∀ r∈g.Rules,(z4q r).any farB=farR r:=fun r hr=>by
  unfold z4q farR
  rw [k3T hg hc hr,List.flatMap_nil,List.append_nil,List.any_map]; rfl
 rw [Bool.eq_iff_iff,List.any_eq_true,List.any_eq_true]
 exact⟨fun ⟨r,hr,hx⟩=>⟨r,hr,(this r hr)▸hx⟩,fun ⟨r,hr,hx⟩=>⟨r,hr,(this r hr).symm▸hx⟩⟩
theorem k4h {g:Grammar}(h:Sz.szd g≤1048576):z3L g=some (k0s g):=by
 unfold z3L k0s
 rw [k3O h,Option.bind_some]
 cases hg:z5p g with
 | false=>rfl
 | true=>
  rw [if_pos rfl,k3S h]
  simp only [Option.bind_some]
  cases hc:colG g with
  | true=>cases g.Rules.any fun r=>(z4q r).any farB<;>simp [k2g,hc]
  | false=>
   rw [k4g hg hc]
   cases g.Rules.any farR<;>simp [k2g,hc,k6b]
theorem k4i {g:Grammar}(h:Sz.szd g≤1048576):z3S g=some (k0s g):=by
 unfold z3S k0s
 rw [q4D (c:=false) (q:=fun y:Symbol=>!y.Attributes.any fun a=>a.Circular||decide (a.Mode=3)) fun k y hy=>by
  unfold z9T
  rw [q4D (c:=false) (q:=fun a:Attribute=>!(a.Circular||decide (a.Mode=3))) fun k a ha=>by
   unfold z9S
   by_cases hm:a.Mode=3<;>cases hc:a.Circular<;>simp [hm]]
  have e:(y.Attributes.all fun a=>!(a.Circular||decide (a.Mode=3)))=!(y.Attributes.any fun a=>a.Circular||decide (a.Mode=3)):=by rw [List.not_any_eq_all_not]
  rw [e]
  cases y.Attributes.any fun a=>a.Circular||decide (a.Mode=3)<;>rfl]
 have e:(g.Symbols.all fun y=>!y.Attributes.any fun a=>a.Circular||decide (a.Mode=3))=!(colG g||cirG g):=by
  have e1:(g.Symbols.any fun y=>y.Attributes.any fun a=>a.Circular||decide (a.Mode=3))=(colG g||cirG g):=by
   unfold colG cirG
   rw [Bool.eq_iff_iff]
   simp only [List.any_eq_true,Bool.or_eq_true]
   constructor
   ·rintro⟨y,hy,a,ha,h | h⟩
    ·exact .inr ⟨y,hy,a,ha,h⟩
    ·exact .inl ⟨y,hy,a,ha,h⟩
   ·rintro (⟨y,hy,a,ha,h⟩ | ⟨y,hy,a,ha,h⟩)
    ·exact⟨y,hy,a,ha,.inr h⟩
    ·exact⟨y,hy,a,ha,.inl h⟩
  rw [← e1,List.not_any_eq_all_not]
 rw [e]
 cases colG g||cirG g with
 | true=>cases z5p g<;>rfl
 | false=>
  rw [Bool.not_false,if_pos rfl,Option.bind_some,z1H]
  rw [q4D (c:=false) (q:=fun r=>!farR r) fun k r hr=>by
   unfold z9U
   rw [k3R,Option.bind_some]
   cases farR r<;>rfl]
  have e:(g.Rules.all fun r=>!farR r)=!g.Rules.any farR:=by rw [List.not_any_eq_all_not]
  rw [e]
  cases g.Rules.any farR with
  | true=>cases z5p g<;>rfl
  | false=>rw [Bool.not_false,if_pos rfl,Option.bind_some,z1H,j4J h]; cases z5p g<;>rfl
end Go.Proofs.YtpnkinhphabkcaaGreat
namespace Go.Proofs.YtpnkinhphabkcaaGreat
open Go Go.E
theorem Inv.setU {g:Grammar}{all:List Relation}(h:Inv g all){n:ByteArray}{j:Nat}(hj:atS g n=some j)(h2:j < g.Symbols.length)(h4:all[j]? = some (q5N g all n))(h5:Valid (q5N g all n))(b:Relation) :
  Inv g (all.set j (uniR (q5N g all n) b))∧sumA all≤sumA (all.set j (uniR (q5N g all n) b))∧(uniR (q5N g all n) b≠q5N g all n→sumA all < sumA (all.set j (uniR (q5N g all n) b))):=by
 generalize q5N g all n=old at h4 h5
 have hv:=j6q (a:=old) (b:=b) h5
 have hm:=k5R (a:=old) (b:=b) h5
 generalize uniR old b=new at hv hm
 have hset:=j9d all j new old h4
 refine⟨⟨by simpa using h.1,fun k y a hk ha=>?_⟩,by omega,fun hne=>?_⟩
 ·rw [List.getElem?_set] at ha
  by_cases hjk:j=k
  ·subst hjk
   rw [if_pos rfl,if_pos (by rw [h.1]; exact h2)] at ha
   cases ha
   have:=(h.2 j y old hk h4).2
   exact⟨hv.1,hv.2.trans this⟩
  ·rw [if_neg hjk] at ha; exact h.2 k y a hk ha
 ·have h7:sumR old≠sumR new:=fun he=>hne (hm.2 he)
  have:=hm.1
  omega
theorem k2y {α:Type}{l:List α}{j:Nat}{x:α}(h:l[j]? = some x):l.set j x=l:=by
 apply List.ext_getElem?
 intro i
 rw [List.getElem?_set]
 by_cases hi:j=i
 ·subst hi
  have:=(List.getElem?_eq_some_iff.1 h).1
  rw [if_pos rfl,if_pos this,h]
 ·rw [if_neg hi]
theorem j9f {g:Grammar}(h0:Sz.szd g≤1048576)(hS:Shape g){r:Rule}(hr:r∈g.Rules){x:Relation}(hx:Valid x):∀ (m k:Nat) (c:Bool) (all:List Relation),k+m=r.Right.length+1→Inv g all →
  ∃ c' all',eachN (q8q g r x) k m (all,c)=some (all',c')∧q4L (q6w g r x) (all,c,(k:Int))=some (all',c')∧Inv g all'∧sumA all≤sumA all'∧(c'=true→c=true∨sumA all < sumA all') ∧
   (c'=false→c=false∧all'=all∧∀ pos:Nat,k≤pos→pos≤r.Right.length→uniR (q5N g all (q5Q r (pos:Int))) (j4T x (posL g r (pos:Int)))=q5N g all (q5Q r (pos:Int)))
 | 0,k,c,all,hk,h=>by
  refine⟨c,all,rfl,q3I ?_,h,Nat.le_refl _,fun hc=>.inl hc,fun hc=>⟨hc,rfl,fun pos h1 h2=>by omega⟩⟩
  unfold q6w
  dsimp only
  rw [if_neg (by omega)]
 | m+1,k,c,all,hk,h=>by
  have hs:=Nat.le_trans (z2g hr) h0
  have h3:=j6B hS hr
  have hkn:k≤r.Right.length:=by omega
  obtain⟨j,h1,h2,h4,h5,h6⟩:=h.at_ (hS.known hr hkn)
  have hA:atI g (q5Q r (k:Int))=(j:Int):=by unfold atI; rw [h1]
  have hp:=j9e hx (j6F hS r hkn)
  obtain⟨i1,i2,i3⟩:=h.setU h1 h2 h4 h5 (j4T x (posL g r (k:Int)))
  have hlen:=h5.len
  generalize hnew:uniR (q5N g all (q5Q r (k:Int))) (j4T x (posL g r (k:Int)))=new at i1 i2 i3
  have e1:q8q g r x k (all,c)=some (all.set j new,c || !decide (new=q5N g all (q5Q r (k:Int)))):=by
   unfold q8q
   dsimp only
   rw [z8c (q6n hs),Option.bind_some,j9a,Option.bind_some,hA,q3G (by omega),Int.toNat_natCast,h4,Option.bind_some,k2l (q9p h0) (q6n hs),Option.bind_some,j6C,hp.1,Option.bind_some,k5Q (by omega),Option.bind_some,hnew]
   cases c with
   | true=>rfl
   | false=>rw [if_neg (by simp),k5S]; rfl
  have e2:q6w g r x (all,c,(k:Int))=some (.inl (all.set j new,c || !decide (new=q5N g all (q5Q r (k:Int))),((k+1:Nat):Int))):=by
   unfold q6w
   dsimp only
   rw [if_pos (by omega),z3Z (q6n hs),Option.bind_some,k0j,Option.bind_some,hA,q3G (by omega),Int.toNat_natCast,h4,Option.bind_some,j7T (q9p h0) (q6n hs),Option.bind_some,hp.1,Option.bind_some,j7R (by omega),Option.bind_some,hnew]
   cases c with
   | true=>rw [if_pos rfl,Option.bind_some,q3G (by constructor<;>omega)]; rfl
   | false=>rw [if_neg (by simp),j7S,Option.bind_some,Option.bind_some,q3G (by constructor<;>omega)]; rfl
  obtain⟨c',all',f1,f2,f3,f4,f5,f6⟩:=j9f h0 hS hr hx m (k+1) (c || !decide (new=q5N g all (q5Q r (k:Int)))) (all.set j new) (by omega) i1
  refine⟨c',all',by rw [eachN,e1,Option.bind_some]; exact f1,by rw [q3W e2]; exact f2,f3,by omega,fun hc=>?_,fun hc=>?_⟩
  ·rcases f5 hc with q | q
   ·rw [Bool.or_eq_true] at q
    rcases q with q | q
    ·exact .inl q
    ·exact .inr (by have:=i3 (by simpa using q); omega)
   ·exact .inr (by omega)
  ·obtain⟨q1,q2,q3⟩:=f6 hc
   rw [Bool.or_eq_false_iff] at q1
   have hsame:new=q5N g all (q5Q r (k:Int)):=by simpa using q1.2
   have hset:all.set j new=all:=by rw [hsame]; exact k2y h4
   rw [hset] at q2 q3
   refine⟨q1.1,q2,fun pos p1 p2=>?_⟩
   by_cases hpk:pos=k
   ·subst hpk; rw [hnew,hsame]
   ·exact q3 pos (by omega) p2
theorem j6G (own:Relation)(a:Nat)(x:Int):∀ (ys:List Int) (i:Nat) (o:Relation),o.Rows.length≤1048576→eachL (z5H own a x) i ys (o.Rows,o.N)=some ((q8l own a x i ys o).Rows,(q8l own a x i ys o).N)
 | [],i,o,_=>rfl
 | y :: ys,i,o,h=>by
  have e1:z5H own a x i y (o.Rows,o.N)=some ((if hasP own (a:Int) (i:Int) then addP o x y else o).Rows,(if hasP own (a:Int) (i:Int) then addP o x y else o).N):=by
   unfold z5H
   dsimp only
   rw [q7Q,Option.bind_some]
   by_cases hp:hasP own (a:Int) (i:Int)
   ·rw [decide_eq_true hp,if_pos rfl,if_pos hp,j6h h]; rfl
   ·rw [decide_eq_false hp,if_neg (by simp),if_neg hp]; rfl
  have hl:(if hasP own (a:Int) (i:Int) then addP o x y else o).Rows.length≤1048576:=by
   split
   ·rw [(z3j o x y).1]; exact h
   ·exact h
  rw [eachL,e1,Option.bind_some,q8l]
  exact j6G own a x ys (i+1) _ hl
theorem j3E (own:Relation)(at' : List Int):∀ (xs:List Int) (a:Nat) (o:Relation),o.Rows.length≤1048576→eachL (z5I at' own) a xs (o.Rows,o.N)=some ((q8V own at' a xs o).Rows,(q8V own at' a xs o).N)
 | [],a,o,_=>rfl
 | x :: xs,a,o,h=>by
  have hl:(q8l own a x 0 at' o).Rows.length≤1048576:=by rw [(z7u own a x at' 0 o).1]; exact h
  have e1:z5I at' own a x (o.Rows,o.N)=some ((q8l own a x 0 at' o).Rows,(q8l own a x 0 at' o).N):=by
   unfold z5I; dsimp only; rw [j6G own a x at' 0 o h]; rfl
  rw [eachL,e1,Option.bind_some,q8V]
  exact j3E own at' xs (a+1) _ hl
theorem k2z {g:Grammar}(h0:Sz.szd g≤1048576)(hS:Shape g){r:Rule}(hr:r∈g.Rules){all:List Relation}(h:Inv g all):∀ (m k:Nat) (o:Relation),k+m=r.Right.length+1→o.Rows.length≤1048576 →
  eachN (q8p g all r) k m (o.N,o.Rows)=some ((indL g r (q5N g all) m k o).N,(indL g r (q5N g all) m k o).Rows)∧q4L (z2b g r all) ((k:Int),o.Rows,o.N)=some ((indL g r (q5N g all) m k o).Rows,(indL g r (q5N g all) m k o).N)
 | 0,k,o,hk,_=>by
  refine⟨rfl,q3I ?_⟩
  unfold z2b
  dsimp only
  rw [if_neg (by omega)]; rfl
 | m+1,k,o,hk,ho=>by
  have hs:=Nat.le_trans (z2g hr) h0
  have h3:=j6B hS hr
  have hkn:k≤r.Right.length:=by omega
  obtain⟨j,h1,h2,h4,h5,h6⟩:=h.at_ (hS.known hr hkn)
  have hA:atI g (q5Q r (k:Int))=(j:Int):=by unfold atI; rw [h1]
  have hlen:=z9E g r o (k:Int) (q5N g all (q5Q r (k:Int)))
  obtain⟨f1,f2⟩:=k2z h0 hS hr h m (k+1) (z0S g r o (k:Int) (q5N g all (q5Q r (k:Int)))) (by omega) (by rw [hlen]; exact ho)
  have e1:q8p g all r k (o.N,o.Rows)=some ((z0S g r o (k:Int) (q5N g all (q5Q r (k:Int)))).N,(z0S g r o (k:Int) (q5N g all (q5Q r (k:Int)))).Rows):=by
   unfold q8p
   dsimp only
   rw [z8c (q6n hs),Option.bind_some,j9a,Option.bind_some,hA,q3G (by omega),Int.toNat_natCast,h4,Option.bind_some,j6t (q9p h0) (q6n hs) (o:=⟨o.N,o.Rows⟩) ho,Option.bind_some]
  have e2:z2b g r all ((k:Int),o.Rows,o.N)=some (.inl (((k+1:Nat):Int),(z0S g r o (k:Int) (q5N g all (q5Q r (k:Int)))).Rows,(z0S g r o (k:Int) (q5N g all (q5Q r (k:Int)))).N)):=by
   unfold z2b z0r
   dsimp only
   rw [if_pos (by omega),j7T (q9p h0) (q6n hs),Option.bind_some,z3Z (q6n hs),Option.bind_some,k0j,Option.bind_some,hA,if_neg (by omega),Option.bind_some,q3G (by omega),Int.toNat_natCast,h4,Option.bind_some,j3E (q5N g all (q5Q r (k:Int))) _ _ 0 o ho,Option.bind_some]
   dsimp only
   rw [q3G (by constructor<;>omega)]
   rfl
  rw [eachN,e1,Option.bind_some,q3W e2,indL]
  exact⟨f1,f2⟩
theorem j2q {g:Grammar}(h0:Sz.szd g≤1048576)(hS:Shape g):∀ (rs:List Rule) (i:Nat) (c:Bool) (all:List Relation),(∀ r∈rs,r∈g.Rules)→Inv g all →
  (findL (q5P g) i rs (all,c)=some (.inr ([],false))∧findL (q6x g) i rs (all,c)=some (.inr ([],false))) ∨
  ∃ c' all',findL (q5P g) i rs (all,c)=some (.inl (all',c'))∧findL (q6x g) i rs (all,c)=some (.inl (all',c'))∧Inv g all'∧sumA all≤sumA all'∧(c'=true→c=true∨sumA all < sumA all')∧(c'=false→c=false∧all'=all∧∀ r∈rs,z8Z g all r)
 | [],i,c,all,_,h=>.inr ⟨c,all,rfl,rfl,h,Nat.le_refl _,fun hc=>.inl hc,fun hc=>⟨hc,rfl,fun r hr=>by cases hr⟩⟩
 | r :: rs,i,c,all,hrs,h=>by
  have hr:=hrs r (by simp)
  have hs:=Nat.le_trans (z2g hr) h0
  have h3:=j6B hS hr
  obtain⟨l1,l2,l3⟩:=k2n h0 hs
  obtain⟨p1,p2⟩:=k2z h0 hS hr h (r.Right.length+1) 0 (locR g r) (by omega) (by omega)
  obtain⟨v1,v2,v3⟩:=j6E h0 hS hr (q5N g all)
  have hl:(indL g r (q5N g all) (r.Right.length+1) 0 (locR g r)).Rows.length≤1048576:=by rw [(k2x g r _ _ 0 _).2]; omega
  have hcl:q5M (⟨(indL g r (q5N g all) (r.Right.length+1) 0 (locR g r)).N,(indL g r (q5N g all) (r.Right.length+1) 0 (locR g r)).Rows⟩:Relation)=indR g r (q5N g all):=rfl
  have hxl:=v2.len
  have es:z5e g r all=some (indR g r (q5N g all)):=by
   unfold z5e
   rw [l1,Option.bind_some,show q4L (z2b g r all) (0,(locR g r).Rows,(locR g r).N)=_ from p2,Option.bind_some]
   dsimp only
   rw [z8R (r:=⟨(indL g r (q5N g all) (r.Right.length+1) 0 (locR g r)).N,(indL g r (q5N g all) (r.Right.length+1) 0 (locR g r)).Rows⟩) hl,Option.bind_some,hcl]
  cases hlp:j4K (indR g r (q5N g all)) with
  | true=>
   left
   constructor
   ·rw [findL]
    unfold q5P
    dsimp only
    rw [l2,Option.bind_some,q3G (by constructor<;>omega),p1,Option.bind_some]
    dsimp only
    rw [z8S (r:=⟨(indL g r (q5N g all) (r.Right.length+1) 0 (locR g r)).N,(indL g r (q5N g all) (r.Right.length+1) 0 (locR g r)).Rows⟩) hl,Option.bind_some,hcl,j8U (by omega),hlp,Option.bind_some]
    rfl
   ·rw [findL]
    unfold q6x
    dsimp only
    rw [es,Option.bind_some,j4L (by omega),hlp,Option.bind_some]
    rfl
  | false=>
   obtain⟨c1,a1,e1,e2,e3,e4,e5,e6⟩:=j9f h0 hS hr v2 (r.Right.length+1) 0 c all (by omega) h
   have g1:q5P g i r (all,c)=some (.inl (a1,c1)):=by
    unfold q5P
    dsimp only
    rw [l2,Option.bind_some,q3G (by constructor<;>omega),p1,Option.bind_some]
    dsimp only
    rw [z8S (r:=⟨(indL g r (q5N g all) (r.Right.length+1) 0 (locR g r)).N,(indL g r (q5N g all) (r.Right.length+1) 0 (locR g r)).Rows⟩) hl,Option.bind_some,hcl,j8U (by omega),hlp,Option.bind_some,if_neg (by simp),q3G (by constructor<;>omega),e1]
    rfl
   have g2:q6x g i r (all,c)=some (.inl (a1,c1)):=by
    unfold q6x
    dsimp only
    rw [es,Option.bind_some,j4L (by omega),hlp,Option.bind_some,if_neg (by simp),show q4L (q6w g r (indR g r (q5N g all))) (all,c,0)=_ from e2]
    rfl
   rcases j2q h0 hS rs (i+1) c1 a1 (fun x hx=>hrs x (by simp [hx])) e3 with ⟨f1,f2⟩ | ⟨c2,a2,f1,f2,f3,f4,f5,f6⟩
   ·left
    exact⟨by rw [findL,g1,Option.bind_some]; exact f1,by rw [findL,g2,Option.bind_some]; exact f2⟩
   ·right
    refine⟨c2,a2,by rw [findL,g1,Option.bind_some]; exact f1,by rw [findL,g2,Option.bind_some]; exact f2,f3,by omega,fun hc=>?_,fun hc=>?_⟩
    ·rcases f5 hc with q | q
     ·rcases e5 q with q2 | q2
      ·exact .inl q2
      ·exact .inr (by omega)
     ·exact .inr (by omega)
    ·obtain⟨q1,q2,q3⟩:=f6 hc
     obtain⟨w1,w2,w3⟩:=e6 q1
     subst w2
     refine⟨w1,q2,fun y hy=>?_⟩
     rcases List.mem_cons.1 hy with rfl | hy
     ·exact⟨hlp,fun pos hp=>w3 pos (Nat.zero_le _) hp⟩
     ·exact q3 y hy
theorem k4j {g:Grammar}(h0:Sz.szd g≤1048576)(hS:Shape g):∀ (d:Nat) (all:List Relation),Inv g all→g.Symbols.length*(16*65535) - sumA all≤d →
  (q4L (q3L g) (all,true)=some (.inr ([],false))∧q4L (q4Z g) all=some ([],false)) ∨
  ∃ q,q4L (q3L g) (all,true)=some (.inl q)∧q4L (q4Z g) all=some (q,true)∧Inv g q∧∀ r∈g.Rules,z8Z g q r:=by
 intro d
 induction d with
 | zero=>
  intro all h hd
  rcases j2q h0 hS g.Rules 0 false all (fun _ h=>h) h with ⟨f1,f2⟩ | ⟨c,a,f1,f2,f3,f4,f5,f6⟩
  ·left
   exact⟨q3I (by unfold q3L; dsimp only; rw [if_pos rfl,f1]; rfl),q3I (by unfold q4Z; rw [f2]; rfl)⟩
  ·right
   have hb:=f3.bound
   rw [f3.1] at hb
   have hc:c=false:=by
    cases c with
    | false=>rfl
    | true=>
     rcases f5 rfl with h | h
     ·cases h
     ·omega
   subst hc
   obtain⟨_,q2,q3⟩:=f6 rfl
   subst q2
   refine⟨a,?_,?_,f3,q3⟩
   ·have s1:q3L g (a,true)=some (.inl (a,false)):=by unfold q3L; dsimp only; rw [if_pos rfl,f1]; rfl
    have s2:q3L g (a,false)=some (.inr (.inl a)):=by unfold q3L; dsimp only; rw [if_neg (by simp)]
    rw [q3W s1,q3I s2]
   ·exact q3I (by unfold q4Z; rw [f2]; rfl)
 | succ d ih=>
  intro all h hd
  rcases j2q h0 hS g.Rules 0 false all (fun _ h=>h) h with ⟨f1,f2⟩ | ⟨c,a,f1,f2,f3,f4,f5,f6⟩
  ·left
   exact⟨q3I (by unfold q3L; dsimp only; rw [if_pos rfl,f1]; rfl),q3I (by unfold q4Z; rw [f2]; rfl)⟩
  ·cases c with
   | false=>
    right
    obtain⟨_,q2,q3⟩:=f6 rfl
    subst q2
    refine⟨a,?_,?_,f3,q3⟩
    ·have s1:q3L g (a,true)=some (.inl (a,false)):=by unfold q3L; dsimp only; rw [if_pos rfl,f1]; rfl
     have s2:q3L g (a,false)=some (.inr (.inl a)):=by unfold q3L; dsimp only; rw [if_neg (by simp)]
     rw [q3W s1,q3I s2]
    ·exact q3I (by unfold q4Z; rw [f2]; rfl)
   | true=>
    have hlt:sumA all < sumA a:=by
     rcases f5 rfl with h | h
     ·cases h
     ·exact h
    have hb:=f3.bound
    rw [f3.1] at hb
    have s1:q3L g (all,true)=some (.inl (a,true)):=by unfold q3L; dsimp only; rw [if_pos rfl,f1]; rfl
    have s2:q4Z g all=some (.inl a):=by unfold q4Z; rw [f2]; rfl
    rw [q3W s1,q3W s2]
    exact ih a f3 (by omega)
theorem j3F {g:Grammar}(h0:Sz.szd g≤1048576)(hS:Shape g):eachL (z0d g) 0 g.Symbols []=some (z4r g):=by
 have hl:=hS.syms
 unfold z4r
 rw [j0H (g:=fun y:Symbol=>(⟨((q5C g y.Name).length:Int),List.replicate (q5C g y.Name).length 0⟩:Relation)) (B:=1048576) g.Symbols 0 [] (fun k y s hy hs=>by
  unfold z0d
  have:=hS.plain y.Name
  rw [z8W (q9p h0),Option.bind_some,z7t (by omega) (by omega),Option.bind_some,q3G (by constructor<;>omega),Int.toNat_natCast]) (by simp; omega)]
 simp
theorem j6H {g:Grammar}(h0:Sz.szd g≤1048576):∃ q b,q6d g=some (q,b)∧q7O g=some (q,b)∧(b=false→q=[])∧(b=true→z5p g=true∧Inv g q∧∀ r∈g.Rules,z8Z g q r):=by
 unfold q6d q7O
 rw [k4h h0,k4i h0]
 cases hst:k0s g with
 | false=>exact⟨[],false,rfl,rfl,fun _=>rfl,fun h=>by cases h⟩
 | true=>
  have hg:z5p g=true:=by
   unfold k0s at hst
   simp only [Bool.and_eq_true] at hst
   exact hst.1
  have hS:=z5q hg
  rcases k4j h0 hS _ (z4r g) (j2o hS) (Nat.le_refl _) with ⟨f1,f2⟩ | ⟨q,f1,f2,f3,f4⟩
  ·refine⟨[],false,?_,?_,fun _=>rfl,fun h=>by cases h⟩
   ·rw [Option.bind_some,if_pos rfl,j2p h0 hS,Option.bind_some,f1]; rfl
   ·rw [Option.bind_some,if_pos rfl,j3F h0 hS,Option.bind_some,f2]; rfl
  ·refine⟨q,true,?_,?_,fun h=>(by cases h),fun _=>⟨hg,f3,f4⟩⟩
   ·rw [Option.bind_some,if_pos rfl,j2p h0 hS,Option.bind_some,f1]; rfl
   ·rw [Option.bind_some,if_pos rfl,j3F h0 hS,Option.bind_some,f2]; rfl
end Go.Proofs.YtpnkinhphabkcaaGreat
namespace Go.Proofs.YtpnkinhphabkcaaGreat
open Go Go.E
def k6L:Attribute:=⟨⟨#[]⟩,0,0,false⟩
def j2r (r:Relation)(d:List Bool)(n k:Nat):Bool:=(List.range n).all fun i=>!decide (hasP r (i:Int) (k:Int))||d.getD i false
def okK (a:List Attribute)(r:Relation)(d:List Bool)(m:Int)(k:Nat):Bool:=decide ((a.getD k k6L).Mode=m) && !d.getD k false&&j2r r d a.length k
def j0r (a:List Attribute)(r:Relation)(d:List Bool)(m:Int):Option Nat:=(List.range a.length).find? (okK a r d m)
def q7T (a:List Attribute)(r:Relation)(m:Int):Nat→List Bool→List Nat × List Bool
 | 0,d=>([],d)
 | f+1,d=>match j0r a r d m with
  | none=>([],d)
  | some k=>(k :: (q7T a r m f (d.set k true)).1,(q7T a r m f (d.set k true)).2)
def nm (a:List Attribute)(k:Nat):ByteArray:=(a.getD k k6L).Name
theorem z5r {k:Nat}:∀ {d:List Bool},d[k]? = some false→(d.set k true).count false+1=d.count false
 | [],h=>by simp at h
 | x :: d,h=>by
  cases k with
  | zero=>simp at h; subst h; simp
  | succ k=>
   have ih:=z5r (k:=k) (d:=d) (by simpa using h)
   simp only [List.set_cons_succ,List.count_cons]
   omega
theorem q9V {α:Type}{l:List α}{k:Nat}{x z:α}(h:l[k]? = some x):l.getD k z=x:=by rw [List.getD_eq_getElem?_getD,h]; rfl
theorem k6c {a:List Attribute}{r:Relation}{d:List Bool}(hd:d.length=a.length)(k:Nat):q9S (k:Int) a r d=some (j2r r d a.length k):=by
 unfold q9S
 have hany:=j1R (c:=false) (xs:=a) (i:=0) (p:=fun i _=>hasP r (i:Int) (k:Int)∧d.getD i false=false) (f:=z4A (k:Int) r d) fun i x hx=>by
  rw [Nat.zero_add]
  have hi:=(List.getElem?_eq_some_iff.1 hx).1
  obtain⟨b,hb⟩:∃ b,d[i]? = some b:=⟨_,List.getElem?_eq_getElem (by omega)⟩
  rw [q9V hb]
  unfold z4A
  rw [z5S,Option.bind_some]
  by_cases hp:hasP r (i:Int) (k:Int)
  ·rw [if_pos (by simpa using hp),hb,Option.bind_some]
   cases b<;>simp [hp]
  ·rw [if_neg (by simpa using hp)]; simp [hp]
 cases hr:j2r r d a.length k with
 | true=>
  rw [hany.2 fun i x hx hp=>?_]
  ·rfl
  ·rw [Nat.zero_add] at hp
   have hi:=(List.getElem?_eq_some_iff.1 hx).1
   have:=List.all_eq_true.1 hr i (List.mem_range.2 hi)
   rw [decide_eq_true hp.1,hp.2] at this
   cases this
 | false=>
  have:∃ i,i < a.length∧hasP r (i:Int) (k:Int)∧d.getD i false=false:=by
   apply Classical.byContradiction
   intro hn
   have:j2r r d a.length k=true:=List.all_eq_true.2 fun i hi=>by
    have hi':=List.mem_range.1 hi
    by_cases hp:hasP r (i:Int) (k:Int)
    ·cases hb:d.getD i false with
     | true=>simp
     | false=>exact absurd ⟨i,hi',hp,hb⟩ hn
    ·simp [hp]
   rw [this] at hr; cases hr
  obtain⟨i,hi,hp⟩:=this
  rw [hany.1 ⟨i,_,List.getElem?_eq_getElem hi,by rw [Nat.zero_add]; exact hp⟩]; rfl
theorem k6d {a:List Attribute}{r:Relation}{d:List Bool}(hd:d.length=a.length)(hN:r.N=a.length)(k:Nat):z5O r d (k:Int)=some (j2r r d a.length k):=by
 unfold z5O
 rw [hN,Int.toNat_natCast]
 have hany:=z8I (c:=false) (n:=a.length) (i:=0) (p:=fun i=>hasP r (i:Int) (k:Int)∧d.getD i false=false) (f:=z6V r d (k:Int)) fun i hi=>by
  rw [Nat.zero_add]
  obtain⟨b,hb⟩:∃ b,d[i]? = some b:=⟨_,List.getElem?_eq_getElem (by omega)⟩
  rw [q9V hb]
  unfold z6V
  rw [q7Q,Option.bind_some]
  by_cases hp:hasP r (i:Int) (k:Int)
  ·rw [if_pos (by simpa using hp),hb,Option.bind_some]
   cases b<;>simp [hp]
  ·rw [if_neg (by simpa using hp)]; simp [hp]
 cases hr:j2r r d a.length k with
 | true=>
  rw [hany.2 fun i hi hp=>?_]
  ·rfl
  ·rw [Nat.zero_add] at hp
   have:=List.all_eq_true.1 hr i (List.mem_range.2 hi)
   rw [decide_eq_true hp.1,hp.2] at this
   cases this
 | false=>
  have:∃ i,i < a.length∧hasP r (i:Int) (k:Int)∧d.getD i false=false:=by
   apply Classical.byContradiction
   intro hn
   have:j2r r d a.length k=true:=List.all_eq_true.2 fun i hi=>by
    have hi':=List.mem_range.1 hi
    by_cases hp:hasP r (i:Int) (k:Int)
    ·cases hb:d.getD i false with
     | true=>simp
     | false=>exact absurd ⟨i,hi',hp,hb⟩ hn
    ·simp [hp]
   rw [this] at hr; cases hr
  obtain⟨i,hi,hp⟩:=this
  rw [hany.1 ⟨i,hi,by rw [Nat.zero_add]; exact hp⟩]; rfl
theorem j0s {p:Nat→Bool}{n k:Nat}(hk:k < n)(hp:p k=true)(hn:∀ i,i < k→p i=false):(List.range n).find? p=some k:=by
 have e:List.range n=List.range k++(k :: (List.range' (k+1) (n - k - 1))):=by
  rw [List.range_eq_range',List.range_eq_range',show k :: List.range' (k+1) (n - k - 1)=List.range' k (n - k) from by
   rw [show n - k=(n - k - 1)+1 by omega,List.range'_succ]; rfl]
  have:=List.range'_append (s:=0) (m:=k) (n:=n - k) (step:=1)
  simp only [Nat.one_mul,Nat.zero_add] at this
  rw [this]; congr 1; omega
 rw [e,List.find?_append]
 have:(List.range k).find? p=none:=List.find?_eq_none.2 fun i hi=>by
  rw [hn i (List.mem_range.1 hi)]; simp
 rw [this]
 simp [hp]
theorem j2s {p:Nat→Bool}{n:Nat}(hn:∀ i,i < n→p i=false):(List.range n).find? p=none:=
 List.find?_eq_none.2 fun i hi=>by rw [hn i (List.mem_range.1 hi)]; simp
theorem z7g {a:List Attribute}{r:Relation}{d:List Bool}{m:Int}{k:Nat}(h:j0r a r d m=some k):k < a.length∧okK a r d m k=true∧d.getD k false=false:=by
 have h1:=List.mem_of_find?_eq_some h
 have h2:=List.find?_some h
 refine⟨List.mem_range.1 h1,h2,?_⟩
 unfold okK at h2
 simp only [Bool.and_eq_true,Bool.not_eq_true'] at h2
 exact h2.1.2
theorem z5s {d:List Bool}{k:Nat}(hk:k < d.length)(h:d.getD k false=false):d[k]? = some false:=by
 obtain⟨b,hb⟩:∃ b,d[k]? = some b:=⟨_,List.getElem?_eq_getElem hk⟩
 rw [q9V hb] at h; rw [hb,h]
theorem j6I {a:List Attribute}{r:Relation}{m:Int}{d:List Bool}(hd:d.length=a.length)(hn:a.length≤16)(acc:List ByteArray)(hacc:acc.length≤1000):∀ (j k:Nat),k+j=a.length→(∀ i,i < k→okK a r d m i=false) →
  q4L (q3K m a r) (acc,(k:Int),d)=match j0r a r d m with
   | none=>some (acc,d)
   | some q=>q4L (q3K m a r) (acc++[nm a q],0,d.set q true):=by
 intro j
 induction j with
 | zero=>
  intro k hk hno
  have hc:j0r a r d m=none:=j2s fun i hi=>hno i (by omega)
  rw [hc]
  exact q3I (by unfold q3K; dsimp only; rw [if_neg (by omega)])
 | succ j ih=>
  intro k hk hno
  obtain⟨x,hx⟩:∃ x,a[k]? = some x:=⟨_,List.getElem?_eq_getElem (by omega)⟩
  obtain⟨b,hb⟩:∃ b,d[k]? = some b:=⟨_,List.getElem?_eq_getElem (by omega)⟩
  have hin:((if x.Mode=m then grd (0≤(k:Int)) <| (d[(k:Int).toNat]?).bind fun x2=>some (!x2) else some false).bind fun s9=>(if s9=true then (q9S (k:Int) a r d).bind fun y1=>some y1 else some false))=some (okK a r d m k):=by
   unfold okK
   rw [q9V hx,q9V hb,k6c hd]
   by_cases hm:x.Mode=m
   ·rw [if_pos hm,q3G (by omega),Int.toNat_natCast,hb]
    cases b<;>simp [hm]
   ·rw [if_neg hm]; simp [hm]
  cases hok:okK a r d m k with
  | true=>
   have hc:j0r a r d m=some k:=j0s (by omega) hok hno
   rw [hc]
   have e:q3K m a r (acc,(k:Int),d)=some (.inl (acc++[nm a k],0,d.set k true)):=by
    unfold q3K
    dsimp only
    rw [if_pos (by omega),q3G (by omega),Int.toNat_natCast,hx,Option.bind_some]
    rw [Int.toNat_natCast] at hin
    have hin2:=hin
    rw [hok] at hin2
    obtain⟨s9,h1,h2⟩:=bd hin2
    rw [h1,Option.bind_some,h2,Option.bind_some,if_pos rfl,q3G (by constructor<;>omega),q3G (by omega),hb,Option.bind_some,Option.bind_some]
    dsimp only
    rw [q3G (by constructor<;>omega)]
    unfold nm
    rw [q9V hx]; rfl
   rw [q3W e]
  | false=>
   have e:q3K m a r (acc,(k:Int),d)=some (.inl (acc,((k+1:Nat):Int),d)):=by
    unfold q3K
    dsimp only
    rw [if_pos (by omega),q3G (by omega),Int.toNat_natCast,hx,Option.bind_some]
    rw [Int.toNat_natCast] at hin
    have hin2:=hin
    rw [hok] at hin2
    obtain⟨s9,h1,h2⟩:=bd hin2
    rw [h1,Option.bind_some,h2,Option.bind_some,if_neg (by simp),Option.bind_some]
    dsimp only
    rw [q3G (by constructor<;>omega)]; rfl
   rw [q3W e]
   exact ih (k+1) (by omega) fun i hi=>by
    by_cases h:i=k
    ·rw [h]; exact hok
    ·exact hno i (by omega)
theorem j9g {a:List Attribute}{r:Relation}{m:Int}(hn:a.length≤16):∀ (f:Nat) (d:List Bool) (acc:List ByteArray),d.length=a.length→d.count false≤f→acc.length+f≤1000 →
  q4L (q3K m a r) (acc,0,d)=some (acc++(q7T a r m f d).1.map (nm a),(q7T a r m f d).2):=by
 intro f
 induction f with
 | zero=>
  intro d acc hd hc hb
  have hs:=j6I (m:=m) (r:=r) hd hn acc (by omega) a.length 0 (by omega) (fun i hi=>absurd hi (Nat.not_lt_zero _))
  have hcand:j0r a r d m=none:=by
   cases h:j0r a r d m with
   | none=>rfl
   | some k=>
    obtain⟨h1,_,h3⟩:=z7g h
    have:=z5r (z5s (by omega) h3)
    omega
  rw [hcand] at hs
  have hs' : q4L (q3K m a r) (acc,0,d)=some (acc,d):=hs
  rw [hs']; simp [q7T]
 | succ f ih=>
  intro d acc hd hc hb
  have hs:=j6I (m:=m) (r:=r) hd hn acc (by omega) a.length 0 (by omega) (fun i hi=>absurd hi (Nat.not_lt_zero _))
  cases h:j0r a r d m with
  | none=>
   rw [h] at hs
   have hs' : q4L (q3K m a r) (acc,0,d)=some (acc,d):=hs
   rw [hs']; simp [q7T,h]
  | some k=>
   rw [h] at hs
   have hs' : q4L (q3K m a r) (acc,0,d)=q4L (q3K m a r) (acc++[nm a k],0,d.set k true):=hs
   obtain⟨h1,_,h3⟩:=z7g h
   have hcs:=z5r (z5s (by omega) h3)
   rw [hs',ih _ _ (by simp [hd]) (by omega) (by simp; omega)]
   simp [q7T,h]
theorem j2t {a:List Attribute}{r:Relation}{m:Int}{d:List Bool}(hd:d.length=a.length)(hN:r.N=a.length)(hn:a.length≤16):∀ (j:Nat) (at_:Int),j≤a.length →
  q4L (z0J a r m d) (at_,(j:Int) - 1)=some (match (List.range j).find? (okK a r d m) with
   | none=>at_
   | some k=>(k:Int)):=by
 intro j
 induction j with
 | zero=>
  intro at_ _
  exact q3I (by unfold z0J; dsimp only; rw [if_neg (by omega)]; rfl)
 | succ j ih=>
  intro at_ hj
  have ej:((j+1:Nat):Int) - 1=(j:Int):=by omega
  rw [ej]
  obtain⟨x,hx⟩:∃ x,a[j]? = some x:=⟨_,List.getElem?_eq_getElem (by omega)⟩
  obtain⟨b,hb⟩:∃ b,d[j]? = some b:=⟨_,List.getElem?_eq_getElem (by omega)⟩
  have hin:((if x.Mode=m then grd (0≤(j:Int)) <| (d[(j:Int).toNat]?).bind fun x2=>some (!x2) else some false).bind fun s7=>(if s7=true then (z5O r d (j:Int)).bind fun y1=>some y1 else some false))=some (okK a r d m j):=by
   unfold okK
   rw [q9V hx,q9V hb,k6d hd hN]
   by_cases hm:x.Mode=m
   ·rw [if_pos hm,q3G (by omega),Int.toNat_natCast,hb]
    cases b<;>simp [hm]
   ·rw [if_neg hm]; simp [hm]
  have e:z0J a r m d (at_,(j:Int))=some (.inl ((if okK a r d m j=true then (j:Int) else at_),(j:Int) - 1)):=by
   unfold z0J
   dsimp only
   rw [if_pos (by omega),q3G (by omega),Int.toNat_natCast,hx,Option.bind_some]
   rw [Int.toNat_natCast] at hin
   obtain⟨s9,h1,h2⟩:=bd hin
   rw [h1,Option.bind_some,h2,Option.bind_some]
   cases okK a r d m j with
   | true=>rw [if_pos rfl,if_pos rfl,Option.bind_some,q3G (by constructor<;>omega)]
   | false=>rw [if_neg (by simp),if_neg (by simp),Option.bind_some,q3G (by constructor<;>omega)]
  rw [q3W e,ih _ (by omega),List.range_succ,List.find?_append]
  cases hf:(List.range j).find? (okK a r d m) with
  | some k=>rfl
  | none=>
   cases hok:okK a r d m j<;>simp [hok]
theorem j9h {a:List Attribute}{r:Relation}{m:Int}(hN:r.N=a.length)(hn:a.length≤16):∀ (f:Nat) (d:List Bool) (acc:List ByteArray),d.length=a.length→d.count false≤f→acc.length+f≤1000 →
  q4L (z2e a r m) (acc,d)=some (acc++(q7T a r m f d).1.map (nm a),(q7T a r m f d).2):=by
 intro f
 induction f with
 | zero=>
  intro d acc hd hc hb
  have hcand:j0r a r d m=none:=by
   cases h:j0r a r d m with
   | none=>rfl
   | some k=>
    obtain⟨h1,_,h3⟩:=z7g h
    have:=z5r (z5s (by omega) h3)
    omega
  have hs:=j2t (m:=m) hd hN hn a.length (-1) (Nat.le_refl _)
  have hcand' : (List.range a.length).find? (okK a r d m)=none:=hcand
  rw [hcand'] at hs
  have hs' : q4L (z0J a r m d) (-1,(a.length:Int) - 1)=some (-1):=hs
  rw [q3I (r:=(acc,d)) (by unfold z2e; dsimp only; rw [hs',Option.bind_some,if_pos (by omega)])]
  simp [q7T]
 | succ f ih=>
  intro d acc hd hc hb
  have hs:=j2t (m:=m) hd hN hn a.length (-1) (Nat.le_refl _)
  cases h:j0r a r d m with
  | none=>
   have hcand' : (List.range a.length).find? (okK a r d m)=none:=h
   rw [hcand'] at hs
   have hs' : q4L (z0J a r m d) (-1,(a.length:Int) - 1)=some (-1):=hs
   rw [q3I (r:=(acc,d)) (by unfold z2e; dsimp only; rw [hs',Option.bind_some,if_pos (by omega)])]
   simp [q7T,h]
  | some k=>
   obtain⟨h1,_,h3⟩:=z7g h
   have hcand' : (List.range a.length).find? (okK a r d m)=some k:=h
   rw [hcand'] at hs
   obtain⟨x,hx⟩:∃ x,a[k]? = some x:=⟨_,List.getElem?_eq_getElem h1⟩
   have hdk:=z5s (by omega) h3
   have hcs:=z5r hdk
   have e:z2e a r m (acc,d)=some (.inl (acc++[nm a k],d.set k true)):=by
    unfold z2e
    dsimp only
    rw [hs,Option.bind_some]
    dsimp only
    rw [if_neg (by omega),q3G (by omega),Int.toNat_natCast,hdk,Option.bind_some,q3G (by omega),hx,Option.bind_some,q3G (by constructor<;>omega)]
    unfold nm
    rw [q9V hx]
   rw [q3W e,ih _ _ (by simp [hd]) (by omega) (by simp; omega)]
   simp [q7T,h]
theorem j9i {a:List Attribute}{r:Relation}{m:Int}:∀ (f:Nat) (d:List Bool),d.length=a.length→(q7T a r m f d).2.length=a.length∧(q7T a r m f d).2.count false+(q7T a r m f d).1.length=d.count false:=by
 intro f
 induction f with
 | zero=>intro d hd; simp [q7T,hd]
 | succ f ih=>
  intro d hd
  cases h:j0r a r d m with
  | none=>simp [q7T,h,hd]
  | some k=>
   obtain⟨h1,_,h3⟩:=z7g h
   have hcs:=z5r (z5s (by omega) h3)
   have:=ih (d.set k true) (by simp [hd])
   simp only [q7T,h,List.length_cons]
   refine⟨this.1,by omega⟩
def runP (a:List Attribute)(r:Relation):Nat→List (List Nat × List Nat)→List Bool→Option (List (List Nat × List Nat))
 | 0,out,_=>some out
 | f+1,out,d=>
  if out=[]∨0 < d.count false then
   if 0 < a.length∧(q7T a r 1 a.length d).1=[]∧(q7T a r 2 a.length (q7T a r 1 a.length d).2).1=[] then none
   else runP a r f (out++[((q7T a r 1 a.length d).1,(q7T a r 2 a.length (q7T a r 1 a.length d).2).1)]) (q7T a r 2 a.length (q7T a r 1 a.length d).2).2
  else some out
def toPh (a:List Attribute)(q:List Nat × List Nat):Phase:=⟨q.1.map (nm a),q.2.map (nm a)⟩
theorem z9a {d:List Bool}:d.count false≤d.length:=List.count_le_length
theorem z4B (d:List Bool):q5S d false=some (decide (0 < d.count false)):=by
 have h:q7P d false=some (ixF d false):=by
  unfold q7P
  refine j1S fun k x=>⟨fun e=>?_,fun e=>?_⟩
  ·unfold z0e; rw [if_pos e.symm]
  ·unfold z0e; rw [if_neg (fun h=>e h.symm)]
 unfold q5S
 rw [h,Option.bind_some]
 congr 1
 unfold ixF
 by_cases hm:false∈d
 ·rw [if_pos hm]
  have:=List.count_pos_iff.2 hm
  simp [this]
 ·rw [if_neg hm]
  have:¬ 0 < d.count false:=fun h=>hm (List.count_pos_iff.1 h)
  simp [this]
theorem k4k {a:List Attribute}{r:Relation}(hN:r.N=a.length)(hn:a.length≤16):∀ (f:Nat) (out:List (List Nat × List Nat)) (d:List Bool),d.length=a.length→(out=[]→d.count false=a.length)→d.count false+(if out=[] then 1 else 0)≤f→out.length+f≤1000 →
  (∃ d',q4L (z0O a r) (out.map (toPh a),d)=some (match runP a r f out d with | none=>.inr ([],false) | some l=>.inl (l.map (toPh a),d'))) ∧
  ∃ d',q4L (z0P a r) (out.map (toPh a),d,((d.count false:Nat):Int))=some (match runP a r f out d with | none=>.inr ([],false) | some l=>.inl (l.map (toPh a),d')):=by
 intro f
 induction f with
 | zero=>
  intro out d hd hnil hc hb
  have ho:out≠[]:=fun e=>by rw [if_pos e] at hc; omega
  rw [if_neg ho] at hc
  have h0:d.count false=0:=by omega
  have hol:¬ ((out.map (toPh a)).length:Int)=0:=by
   have:=List.length_pos_iff.2 ho
   simp; exact fun e=>ho e
  refine⟨⟨d,q3I ?_⟩,⟨d,q3I ?_⟩⟩
  ·unfold z0O; dsimp only
   rw [if_neg hol,z4B,Option.bind_some,Option.bind_some,if_neg (by simp [h0])]; rfl
  ·unfold z0P; dsimp only
   rw [h0,if_neg (by omega),Option.bind_some,if_neg (by simpa using hol)]; rfl
 | succ f ih=>
  intro out d hd hnil hc hb
  by_cases hgo:out=[]∨0 < d.count false
  ·have hi1:q4u 1 a r d=some ((q7T a r 1 a.length d).1.map (nm a),(q7T a r 1 a.length d).2):=by
    unfold q4u
    rw [j9g hn a.length d [] hd (by have:=z9a (d:=d); omega) (by simp; omega)]; rfl
   have hl1:=j9i (a:=a) (r:=r) (m:=1) a.length d hd
   have hi2:q4u 2 a r (q7T a r 1 a.length d).2=some ((q7T a r 2 a.length (q7T a r 1 a.length d).2).1.map (nm a),(q7T a r 2 a.length (q7T a r 1 a.length d).2).2):=by
    unfold q4u
    rw [j9g hn a.length _ [] hl1.1 (by have:=z9a (d:=(q7T a r 1 a.length d).2); omega) (by simp; omega)]; rfl
   have hl2:=j9i (a:=a) (r:=r) (m:=2) a.length _ hl1.1
   have hs1:z3s a r d 1=some ((q7T a r 1 a.length d).1.map (nm a),(q7T a r 1 a.length d).2):=by
    unfold z3s
    rw [j9h hN hn a.length d [] hd (by have:=z9a (d:=d); omega) (by simp; omega)]; rfl
   have hs2:z3s a r (q7T a r 1 a.length d).2 2=some ((q7T a r 2 a.length (q7T a r 1 a.length d).2).1.map (nm a),(q7T a r 2 a.length (q7T a r 1 a.length d).2).2):=by
    unfold z3s
    rw [j9h hN hn a.length _ [] hl1.1 (by have:=z9a (d:=(q7T a r 1 a.length d).2); omega) (by simp; omega)]; rfl
   have hdl:=z9a (d:=d)
   generalize hq1:(q7T a r 1 a.length d).1=q1 at *
   generalize hd1:(q7T a r 1 a.length d).2=d1 at *
   generalize hq2:(q7T a r 2 a.length d1).1=q2 at *
   generalize hd2:(q7T a r 2 a.length d1).2=d2 at *
   have hrun:runP a r (f+1) out d=if 0 < a.length∧q1=[]∧q2=[] then none else runP a r f (out++[(q1,q2)]) d2:=by
    simp only [runP,hq1,hd1,hq2,hd2]
    rw [if_pos hgo]
   have hci:(if ((out.map (toPh a)).length:Int)=0 then some true else (q5S d false).bind fun y3=>some y3)=some true:=by
    rcases hgo with h | h
    ·rw [h,if_pos (by simp)]
    ·by_cases h2:((out.map (toPh a)).length:Int)=0
     ·rw [if_pos h2]
     ·rw [if_neg h2,z4B,Option.bind_some,decide_eq_true h]
   have hcs:(if 0 < ((d.count false:Nat):Int) then some true else some (decide (((out.map (toPh a)).length:Int)=0)))=some true:=by
    by_cases h:0 < d.count false
    ·rw [if_pos (by omega)]
    ·rw [if_neg (by omega)]
     have:out=[]:=hgo.resolve_right h
     rw [this]; simp
   have hlen:((q1.map (nm a)).length+(q2.map (nm a)).length:Nat)=q1.length+q2.length:=by simp
   by_cases hstop:0 < a.length∧q1=[]∧q2=[]
   ·rw [hrun,if_pos hstop]
    obtain⟨hp,e1,e2⟩:=hstop
    have hcd:0 < d.count false∨out=[]:=hgo.symm
    refine⟨⟨d,q3I ?_⟩,⟨d,q3I ?_⟩⟩
    ·unfold z0O; dsimp only
     rw [hci,Option.bind_some,if_pos rfl,hi1,Option.bind_some]
     dsimp only
     rw [hi2,Option.bind_some]
     dsimp only
     rw [hlen,if_pos (by omega),q3G (by constructor<;>omega),Option.bind_some,if_pos (by simp [e1,e2])]
    ·unfold z0P; dsimp only
     rw [hcs,Option.bind_some,if_pos rfl,hs1,Option.bind_some]
     dsimp only
     rw [hs2,Option.bind_some]
     dsimp only
     rw [hlen,q3G (by constructor<;>omega)]
     have hcp:0 < d.count false:=by
      rcases hgo with h | h
      ·rw [hnil h]; exact hp
      ·exact h
     have hz:((q1.length+q2.length:Nat):Int)=0:=by simp [e1,e2]
     rw [if_pos hz,Option.bind_some,if_pos (decide_eq_true (by omega))]
   ·rw [hrun,if_neg hstop]
    have hne:0 < a.length→¬ ((q1.length+q2.length:Nat):Int)=0:=fun hp h=>hstop ⟨hp,List.length_eq_zero_iff.1 (by omega),List.length_eq_zero_iff.1 (by omega)⟩
    have hex:a.length=0→q1.length+q2.length=0∧d.count false=0:=fun h=>by omega
    have hol:(out++[(q1,q2)]).map (toPh a)=out.map (toPh a)++[toPh a (q1,q2)]:=by simp
    have hle:(if out=[] then 1 else 0)≤1:=by split<;>omega
    have hcount:d2.count false+(if out++[(q1,q2)]=[] then 1 else 0)≤f:=by
     rw [if_neg (by simp)]
     by_cases ha:0 < a.length
     ·have:=hne ha
      omega
     ·have:out=[]∨¬ out=[]:=Classical.em _
      rcases this with h | h
      ·have:=hnil h; rw [if_pos h] at hc; omega
      ·have:=hgo.resolve_left h; omega
    have hih:=ih (out++[(q1,q2)]) d2 hl2.1 (fun h=>absurd h (by simp)) hcount (by rw [List.length_append]; simp; omega)
    obtain⟨⟨di,hi⟩,⟨ds,hs⟩⟩:=hih
    refine⟨⟨di,?_⟩,⟨ds,?_⟩⟩
    ·rw [← hi,hol]
     refine q3W ?_
     unfold z0O; dsimp only
     rw [hci,Option.bind_some,if_pos rfl,hi1,Option.bind_some]
     dsimp only
     rw [hi2,Option.bind_some]
     dsimp only
     rw [hlen]
     have hc8:(if 0 < (a.length:Int) then grd (I64 ((q1.length+q2.length:Nat):Int)) <| some (decide (((q1.length+q2.length:Nat):Int)=0)) else some false)=some false:=by
      by_cases ha:0 < a.length
      ·rw [if_pos (by omega),q3G (by constructor<;>omega),decide_eq_false (hne ha)]
      ·rw [if_neg (by omega)]
     rw [hc8,Option.bind_some,if_neg (by simp),List.length_map,q3G (by constructor<;>omega)]
     rfl
    ·have hcz:((d2.count false:Nat):Int)=((d.count false:Nat):Int) - ((q1.length+q2.length:Nat):Int):=by omega
     rw [← hs,hol,hcz]
     refine q3W ?_
     unfold z0P; dsimp only
     rw [hcs,Option.bind_some,if_pos rfl,hs1,Option.bind_some]
     dsimp only
     rw [hs2,Option.bind_some]
     dsimp only
     rw [hlen,q3G (by constructor<;>omega)]
     have hc9:(if ((q1.length+q2.length:Nat):Int)=0 then some (decide (0 < ((d.count false:Nat):Int))) else some false)=some false:=by
      by_cases ha:0 < a.length
      ·rw [if_neg (hne ha)]
      ·rw [if_pos (by omega),decide_eq_false (by omega)]
     rw [hc9,Option.bind_some,if_neg (by simp),q3G (by constructor<;>omega),List.length_map,q3G (by constructor<;>omega)]
     rfl
  ·have ho:out≠[]:=fun e=>hgo (.inl e)
   have h0:¬ 0 < d.count false:=fun h=>hgo (.inr h)
   have hol:¬ ((out.map (toPh a)).length:Int)=0:=by
    simp; exact ho
   have hrun:runP a r (f+1) out d=some out:=by simp only [runP]; rw [if_neg hgo]
   rw [hrun]
   refine⟨⟨d,q3I ?_⟩,⟨d,q3I ?_⟩⟩
   ·unfold z0O; dsimp only
    rw [if_neg hol,z4B,Option.bind_some,Option.bind_some,if_neg (by simpa using h0)]
   ·unfold z0P; dsimp only
    rw [if_neg (by omega),Option.bind_some,if_neg (fun h=>hol (of_decide_eq_true h))]
end Go.Proofs.YtpnkinhphabkcaaGreat
namespace Go.Proofs.YtpnkinhphabkcaaGreat
open Go Go.E
theorem j7Y {r:Relation}(h:Valid r):q9Q r=some (decide (∃ k:Nat,k < r.Rows.length∧hasP (q5M r) (k:Int) (k:Int))):=by
 have hl:r.Rows.length≤1048576:=by have:=h.2.1; have:=h.2.2.1; omega
 have hN:r.N.toNat=r.Rows.length:=by have:=h.1; have:=h.2.2.1; omega
 unfold q9Q
 rw [q6v,Option.bind_some,if_pos (by simpa using h),z8R hl,Option.bind_some,hN]
 have hf:∀ (k:Nat),(hasP (q5M r) (k:Int) (k:Int)→z2c (q5M r) k ()=some (.inr true))∧(¬ hasP (q5M r) (k:Int) (k:Int)→z2c (q5M r) k ()=some (.inl ())):=fun k=>by
  unfold z2c
  rw [q7Q,Option.bind_some]
  exact⟨fun hp=>if_pos (by simpa using hp),fun hp=>if_neg (by simpa using hp)⟩
 have hany:=z8I (c:=true) (n:=r.Rows.length) (i:=0) (p:=fun k=>hasP (q5M r) (k:Int) (k:Int)) (f:=z2c (q5M r)) fun k _=>by
  rw [Nat.zero_add]; exact hf k
 by_cases hp:∃ k:Nat,k < r.Rows.length∧hasP (q5M r) (k:Int) (k:Int)
 ·rw [decide_eq_true hp]
  obtain⟨k,hk,hpk⟩:=hp
  rw [hany.1 ⟨k,hk,by rw [Nat.zero_add]; exact hpk⟩]; rfl
 ·rw [decide_eq_false hp]
  rw [hany.2 fun k hx hpk=>hp ⟨k,hx,by rw [Nat.zero_add] at hpk; exact hpk⟩]; rfl
def phR (a:List Attribute)(r:Relation):Option (List (List Nat × List Nat)):=
 if Valid r∧r.N=a.length∧¬ (∃ k:Nat,k < r.Rows.length∧hasP (q5M r) (k:Int) (k:Int)) then runP a r (a.length+1) [] (List.replicate a.length false) else none
def phO (a:List Attribute)(r:Relation):List Phase × Bool:=match phR a r with
 | none=>([],false)
 | some l=>(l.map (toPh a),true)
theorem k2A (n:Nat):(List.replicate n false).count false=n:=by simp
theorem j4U {a:List Attribute}{r:Relation}(h:phR a r=none):phO a r=([],false):=by unfold phO; rw [h]
theorem j7Z {a:List Attribute}{r:Relation}(hn:a.length≤16)(hr:r.Rows.length≤1048576):z3U a r=some (phO a r)∧j1T a r=some (phO a r):=by
 have hb:=fun h=>k4k (a:=a) (r:=r) h hn (a.length+1) [] (List.replicate a.length false) (by simp) (fun _=>by simp) (by simp) (by simp; omega)
 unfold z3U j1T
 rw [z0K,q6v,Option.bind_some,Option.bind_some]
 by_cases hv:Valid r
 ·rw [decide_eq_true hv,if_pos rfl]
  rw [Option.bind_some,Option.bind_some]
  by_cases hN:r.N=a.length
  ·have e:(!decide (r.N=(a.length:Int)))=false:=by simp [hN]
   rw [e,if_neg (by simp),if_neg (by simp),j2b hr,j7Y hv]
   by_cases hlp:∃ k:Nat,k < r.Rows.length∧hasP (q5M r) (k:Int) (k:Int)
   ·rw [j4U (if_neg (fun h=>h.2.2 hlp)),decide_eq_true hlp,Option.bind_some,Option.bind_some,Option.bind_some,if_pos rfl,if_pos rfl]
    exact⟨rfl,rfl⟩
   ·have ep:phR a r=runP a r (a.length+1) [] (List.replicate a.length false):=if_pos ⟨hv,hN,hlp⟩
    unfold phO
    rw [ep,decide_eq_false hlp,Option.bind_some,Option.bind_some,Option.bind_some,if_neg (by simp),if_neg (by simp),q3G (by constructor<;>omega),q3G (by constructor<;>omega)]
    obtain⟨⟨d1,h1⟩,⟨d2,h2⟩⟩:=hb hN
    rw [k2A] at h2
    simp only [List.map_nil] at h1 h2
    rw [h1,h2]
    cases runP a r (a.length+1) [] (List.replicate a.length false) with
    | none=>exact⟨rfl,rfl⟩
    | some l=>exact⟨rfl,rfl⟩
  ·have e:(!decide (r.N=(a.length:Int)))=true:=by simp [hN]
   rw [j4U (if_neg (fun h=>hN h.2.1)),e,if_pos rfl,if_pos rfl,Option.bind_some,if_pos rfl]
   exact⟨rfl,rfl⟩
 ·rw [j4U (if_neg (fun h=>hv h.1)),decide_eq_false hv]
  exact⟨rfl,rfl⟩
end Go.Proofs.YtpnkinhphabkcaaGreat
namespace Go.Proofs.YtpnkinhphabkcaaGreat
open Go Go.E
def z9b (g:Grammar)(all q:List Relation):Prop:=∀ n,(q6V g n).2=true→Sub (q5N g all n) (q5N g q n)
theorem k2B {g:Grammar}{all:List Relation}{j i:Nat}{n:ByteArray}(hn:atS g n=some i)(hi:j < all.length)(x:Relation):q5N g (all.set j x) n=if j=i then x else q5N g all n:=by
 unfold q5N
 rw [hn,Option.getD_some,List.getD_eq_getElem?_getD,List.getD_eq_getElem?_getD,List.getElem?_set]
 by_cases h:j=i
 ·subst h; rw [if_pos rfl,if_pos hi,if_pos rfl]; rfl
 ·rw [if_neg h,if_neg h]
theorem k2C {g:Grammar}(h0:Sz.szd g≤1048576)(hS:Shape g){r:Rule}(hr:r∈g.Rules){all:List Relation}(h:Inv g all)(c:Bool)(i:Nat) :
  ∃ c' all',q9s g i r (c,all)=some (c',all')∧Inv g all'∧sumA all≤sumA all'∧(c'=true→c=true∨sumA all < sumA all')∧∀ q,Inv g q→z8Z g q r→z9b g all q→z9b g all' q:=by
 obtain⟨j,h1,h2,h4,h5,h6⟩:=h.at_ (hS.left hr)
 have hs:=Nat.le_trans (z2g hr) h0
 have hA:atI g r.Left=(j:Int):=by unfold atI; rw [h1]
 have hsum:=k5Z (q9p h0) (q6n hs) (z7z g r (j2P g r all))
 have hcs:=(k2o h0 hs (j9b hS hr h)).1
 obtain⟨i1,i2,i3⟩:=h.setU h1 h2 h4 h5 (sumS g r (z7z g r (j2P g r all)))
 have hlen:=h5.len
 have hsub:∀ q,Inv g q→z8Z g q r→z9b g all q→Sub (uniR (q5N g all r.Left) (sumS g r (z7z g r (j2P g r all)))) (q5N g q r.Left):=fun q hq hst ha=>by
  refine k6a (ha _ (hS.left hr)) (k4L h0 hS hq hr hst fun n a b hn hp=>?_).1
  have:=ha n (hS.right hr hn)
  exact (z3W this.2.1 a b).2 (this.2.2.2 a b ((z3W this.1 a b).1 hp))
 generalize hnew:uniR (q5N g all r.Left) (sumS g r (z7z g r (j2P g r all)))=new at i1 i2 i3 hsub
 refine⟨c || !decide (new=q5N g all r.Left),all.set j new,?_,i1,i2,fun hc=>?_,fun q hq hst ha n hn=>?_⟩
 ·unfold q9s
  dsimp only
  rw [k0j,Option.bind_some,hA,q3G (by omega),Int.toNat_natCast,h4,Option.bind_some,j9c hS hr h,Option.bind_some,hcs,Option.bind_some,hsum.1,Option.bind_some,j7R (by omega),Option.bind_some,hnew]
  cases c with
  | true=>rfl
  | false=>rw [if_neg (by simp),j7S]; rfl
 ·rw [Bool.or_eq_true] at hc
  rcases hc with hc | hc
  ·exact .inl hc
  ·exact .inr (i3 (by simpa using hc))
 ·obtain⟨i',y,n1,n2,n3,n4⟩:=j4S hn
  rw [k2B n1 (by rw [h.1]; exact h2)]
  by_cases hji:j=i'
  ·subst hji
   rw [if_pos rfl]
   obtain⟨i2',y2,m1,m2,m3,m4⟩:=j4S (hS.left hr)
   rw [h1] at m1
   cases m1
   rw [n2] at m2
   cases m2
   rw [← n4,m4]
   exact hsub q hq hst ha
  ·rw [if_neg hji]; exact ha n hn
theorem z9G {g:Grammar}(h0:Sz.szd g≤1048576)(hS:Shape g):∀ (rs:List Rule) (i:Nat) (c:Bool) (all:List Relation),(∀ r∈rs,r∈g.Rules)→Inv g all →
  ∃ c' all',eachL (q9s g) i rs (c,all)=some (c',all')∧Inv g all'∧sumA all≤sumA all'∧(c'=true→c=true∨sumA all < sumA all')∧∀ q,Inv g q→(∀ r∈rs,z8Z g q r)→z9b g all q→z9b g all' q
 | [],i,c,all,_,h=>⟨c,all,rfl,h,Nat.le_refl _,fun hc=>.inl hc,fun q _ _ ha=>ha⟩
 | r :: rs,i,c,all,hr,h=>by
  obtain⟨c1,a1,e2,e3,e4,e5,e6⟩:=k2C h0 hS (hr r (by simp)) h c i
  obtain⟨c2,a2,f2,f3,f4,f5,f6⟩:=z9G h0 hS rs (i+1) c1 a1 (fun x hx=>hr x (by simp [hx])) e3
  refine⟨c2,a2,by rw [eachL,e2,Option.bind_some,f2],f3,by omega,fun hc=>?_,fun q hq hst ha=>f6 q hq (fun x hx=>hst x (by simp [hx])) (e6 q hq (hst r (by simp)) ha)⟩
  rcases f5 hc with h1 | h1
  ·rcases e5 h1 with h2 | h2
   ·exact .inl h2
   ·right; omega
  ·right; omega
theorem k2D {g:Grammar}(h0:Sz.szd g≤1048576)(hS:Shape g):∀ (d:Nat) (all:List Relation),Inv g all→g.Symbols.length*(16*65535) - sumA all≤d →
  ∃ u,q4L (q6Z g) all=some (u,true)∧Inv g u∧∀ q,Inv g q→(∀ r∈g.Rules,z8Z g q r)→z9b g all q→z9b g u q:=by
 intro d
 induction d with
 | zero=>
  intro all h hd
  obtain⟨c,a,e2,e3,e4,e5,e6⟩:=z9G h0 hS g.Rules 0 false all (fun _ h=>h) h
  have hb:=e3.bound
  rw [e3.1] at hb
  have hc:c=false:=by
   cases c with
   | false=>rfl
   | true=>
    rcases e5 rfl with h | h
    ·cases h
    ·omega
  subst hc
  exact⟨a,q3I (by unfold q6Z; rw [e2,Option.bind_some]; rfl),e3,e6⟩
 | succ d ih=>
  intro all h hd
  obtain⟨c,a,e2,e3,e4,e5,e6⟩:=z9G h0 hS g.Rules 0 false all (fun _ h=>h) h
  cases c with
  | false=>exact⟨a,q3I (by unfold q6Z; rw [e2,Option.bind_some]; rfl),e3,e6⟩
  | true=>
   have hlt:sumA all < sumA a:=by
    rcases e5 rfl with h | h
    ·cases h
    ·exact h
   have hb:=e3.bound
   rw [e3.1] at hb
   obtain⟨q,q2,q3,q4⟩:=ih a e3 (by omega)
   have s1:q6Z g all=some (.inl a):=by unfold q6Z; rw [e2,Option.bind_some]; rfl
   exact⟨q,by rw [q3W s1]; exact q2,q3,fun x hx hst ha=>q4 x hx hst (e6 x hx hst ha)⟩
theorem k2E {g:Grammar}(hS:Shape g){q:List Relation}(hq:Inv g q):z9b g (z4r g) q:=fun n hn=>by
 obtain⟨j,h1,h2,h4,h5,h6⟩:=(j2o hS).at_ hn
 obtain⟨j',g1,g2,g4,g5,g6⟩:=hq.at_ hn
 refine⟨h5,g5,by rw [h6,g6],fun a b hr=>?_⟩
 exfalso
 obtain⟨y,hy⟩:∃ y,g.Symbols[j]? = some y:=⟨_,List.getElem?_eq_getElem h2⟩
 have e0:(z4r g)[j]? = some ⟨((q5C g y.Name).length:Int),List.replicate (q5C g y.Name).length 0⟩:=by
  unfold z4r; rw [List.getElem?_map,hy]; rfl
 rw [h4] at e0
 rw [Option.some.inj e0] at hr
 exact j6A _ _ _ hr
theorem k6e {g:Grammar}(h0:Sz.szd g≤1048576):∃ u,q6P g=some (u,z5p g)∧(z5p g=true→Inv g u∧∀ q,Inv g q→(∀ r∈g.Rules,z8Z g q r)→z9b g u q):=by
 unfold q6P
 rw [j4J h0]
 cases hg:z5p g with
 | false=>exact⟨[],rfl,fun h=>by cases h⟩
 | true=>
  have hS:=z5q hg
  obtain⟨q,q2,q3,q4⟩:=k2D h0 hS _ (z4r g) (j2o hS) (Nat.le_refl _)
  refine⟨q,?_,fun _=>⟨q3,fun x hx hst=>q4 x hx hst (k2E hS hx)⟩⟩
  rw [Option.bind_some,if_pos rfl,j7W h0 hS,Option.bind_some,q2]; rfl
theorem k6M {g:Grammar}(h0:Sz.szd g≤1048576)(hg:z5p g=true){u:List Relation}(hu:q6P g=some (u,true))(hI:Inv g u)(hl:∀ r∈g.Rules,j4K (z7z g r (j2P g r u))=false):q6I g=some true:=by
 have hS:=z5q hg
 have hR:=hS.rules
 unfold q6I z0w
 rw [j4J h0,hg,Option.bind_some,if_pos rfl,hu,Option.bind_some]
 dsimp only
 have key:=j7X (p:=fun _=>false) (g:=fun r:Rule=>r.Name) (xs:=g.Rules) (f:=q8D g u true) (fun k r s hr hs=>by
  have hk:=(List.getElem?_eq_some_iff.1 hr).1
  have hm:=List.mem_of_getElem? hr
  have hc:=k2o h0 (Nat.le_trans (z2g hm) h0) (j9b hS hm hI)
  unfold q8D
  dsimp only
  rw [if_pos (by omega),if_pos rfl,q3G (by omega),Int.toNat_natCast,hr,Option.bind_some,j9c hS hm hI,Option.bind_some,hc.1,Option.bind_some,j4L (by have:=hc.2.2; omega),hl r hm,Option.bind_some,if_neg (by simp),Option.bind_some,q3G (by constructor<;>omega)]
  rfl) (fun s=>by
  unfold q8D; dsimp only; rw [if_neg (by omega)]) g.Rules.length 0 [] (by omega) (by simp)
 rw [show q4L (q8D g u true) ([],0)=_ from key]
 simp
theorem k0t {g:Grammar}(h0:Sz.szd g≤1048576){q:List Relation}{b:Bool}(hi:q6d g=some (q,b))(hb:b=true→z5p g=true∧Inv g q):∃ ps c,q9E g=some (ps,c)∧(c=true→b=true∧ps.length=g.Symbols.length):=by
 unfold q9E
 rw [hi,Option.bind_some]
 dsimp only
 cases b with
 | false=>exact⟨[],false,rfl,fun h=>by cases h⟩
 | true=>
  obtain⟨hg,hI⟩:=hb rfl
  have hS:=z5q hg
  have hl:=hS.syms
  rw [if_pos rfl]
  have key:∀ (xs:List Symbol) (i:Nat) (s:List (List Phase)),g.Symbols.drop i=xs→s.length=i→i≤g.Symbols.length→(∃ s',findL (q9c g q) i xs s=some (.inl s')∧s'.length=g.Symbols.length)∨findL (q9c g q) i xs s=some (.inr ([],false)):=by
   intro xs
   induction xs with
   | nil=>
    intro i s hx hs hi
    left
    have:g.Symbols.length - i=0:=by rw [← List.length_drop,hx]; rfl
    exact⟨s,rfl,by omega⟩
   | cons x xs ih=>
    intro i s hx hs hi
    have hlt:i < g.Symbols.length:=by
     have:g.Symbols.length - i=xs.length+1:=by rw [← List.length_drop,hx]; rfl
     omega
    have hd:=List.drop_eq_getElem_cons hlt
    rw [hx] at hd
    injection hd with d1 d2
    have hIl:q.length=g.Symbols.length:=hI.1
    obtain⟨y,hq⟩:∃ y,q[i]? = some y:=⟨_,List.getElem?_eq_getElem (by omega)⟩
    obtain⟨v1,v2⟩:=hI.2 i x _ (by rw [d1]; exact List.getElem?_eq_getElem hlt) hq
    have h4:=hS.plain x.Name
    have hv:=v1.len
    have hp:=(j7Z (a:=q5C g x.Name) (r:=y) (by omega) (by omega)).1
    have e:q9c g q i x s=if (phO (q5C g x.Name) y).2=true then some (.inl (s++[(phO (q5C g x.Name) y).1])) else some (.inr ([],false)):=by
     unfold q9c
     rw [z8X (q9p h0),Option.bind_some,hq,Option.bind_some,hp,Option.bind_some]
     generalize phO (q5C g x.Name) y=z
     obtain⟨ps,c⟩:=z
     have hsl:s.length≤4:=by omega
     cases c with
     | false=>exact (if_neg Bool.false_ne_true).trans (if_neg Bool.false_ne_true).symm
     | true=>exact (if_pos rfl).trans ((q3G (by constructor<;>omega)).trans (if_pos rfl).symm)
    rw [findL,e]
    by_cases hb:(phO (q5C g x.Name) y).2=true
    ·rw [if_pos hb,Option.bind_some]
     exact ih (i+1) _ d2.symm (by simp [hs]) (by omega)
    ·rw [if_neg hb]
     exact .inr rfl
  rcases key g.Symbols 0 [] rfl rfl (Nat.zero_le _) with ⟨s',e,h1⟩ | e
  ·rw [e]; exact⟨s',true,rfl,fun _=>⟨rfl,h1⟩⟩
  ·rw [e]; exact⟨[],false,rfl,fun h=>by cases h⟩
theorem GB.gc2 {g:Grammar}(h:GB g):GC2 g:=⟨h.1,h.2.1,h.2.2.1,fun r hr=>by obtain⟨a,c,d⟩:=h.2.2.2 r hr; exact⟨a,by omega,d⟩⟩
theorem k2F {b:List UInt8}(hb:b.length≤1048576):Ok GC2 (q6r b):=by
 unfold q6r
 refine .bind (Q:=GC2) ?_ fun g hg=>.ret hg
 unfold z0s
 obtain⟨z,hz,hz1,hz2⟩:=k6B hb
 obtain⟨zb,zi,zh⟩:=z
 dsimp only at hz1 hz2
 subst hz2
 refine .eq hz ?_
 refine drK (z0f hb _ (cb hz1)) fun y i1 h1 _ hi1=>.ite (fun _=>?_) fun _=>?_
 ·exact drK (k2t hb hi1) fun g i2 h2 hg hi2=>.ret hg
 ·exact drK (j6x hb true hi1) fun g i2 h2 hg hi2=>.ret (GB.gc2 hg)
theorem j6J (a:List UInt8):z4m a=some true:=by
 unfold z4m j8C
 rw [Option.bind_some]
 by_cases hb:1048576 < (a.length:Int)
 ·rw [if_pos (by simpa using hb)]
 rw [if_neg (by simpa using hb)]
 have hb:a.length≤1048576:=by omega
 obtain⟨g,e,hg⟩:=k2F hb
 have hG:=szG hg
 obtain⟨q,b,hi,hs,hf,ht⟩:=j6H hG
 obtain⟨u,hu,hU⟩:=k6e hG
 obtain⟨ps,c,hp,hc⟩:=k0t hG hi fun h=>⟨(ht h).1,(ht h).2.1⟩
 rw [e,Option.bind_some,hi,Option.bind_some]
 dsimp only
 rw [hs,Option.bind_some]
 dsimp only
 rw [if_pos rfl,decide_eq_true rfl,Bool.not_true,Option.bind_some,if_neg (by decide),hp,Option.bind_some]
 dsimp only
 have h1:((if c=true then ((if b=true then (some (!(decide ((ps.length:Int)=(g.Symbols.length:Int))))) else (some true)).bind fun s3=>some s3) else (some false)):Option Bool)=some false:=by
  cases c with
  | false=>rfl
  | true=>
   obtain⟨h1,h2⟩:=hc rfl
   rw [if_pos rfl,if_pos h1,h2,decide_eq_true rfl]; rfl
 rw [h1,Option.bind_some,if_neg (by decide),hu,Option.bind_some]
 dsimp only
 cases b with
 | false=>
  rw [hf rfl]
  rfl
 | true=>
  obtain⟨hgd,hI,hst⟩:=ht rfl
  have hS:=z5q hgd
  obtain⟨uI,uS⟩:=hU hgd
  have hsub:=uS q hI hst
  have hloop:findL (z5L q u) 0 q ()=some (.inl ()):=j8Z q 0 fun k x hk=>by
   have hlt:=(List.getElem?_eq_some_iff.1 hk).1
   have hlt2:k < g.Symbols.length:=by rw [← hI.1]; exact hlt
   have huk:u[k]? = some (u[k]'(by rw [uI.1]; exact hlt2)):=List.getElem?_eq_getElem _
   have hsy:=List.getElem?_eq_getElem hlt2
   have hat:=hS.at_ hsy
   have hfs:(q6V g g.Symbols[k].Name).2=true:=by
    unfold q6V
    cases hf:g.Symbols.find? fun y=>decide (y.Name=g.Symbols[k].Name) with
    | none=>rw [List.find?_eq_none] at hf; exact absurd (by simp) (hf _ (List.getElem_mem hlt2))
    | some y=>rfl
   have h1:=hsub _ hfs
   have ea:q5N g u g.Symbols[k].Name=u[k]'(by rw [uI.1]; exact hlt2):=by unfold q5N; rw [hat,Option.getD_some,List.getD_eq_getElem?_getD,huk]; rfl
   have eb:q5N g q g.Symbols[k].Name=x:=by unfold q5N; rw [hat,Option.getD_some,List.getD_eq_getElem?_getD,hk]; rfl
   rw [ea,eb] at h1
   have hxl:=h1.2.1.len
   unfold z5L
   rw [Nat.zero_add,hk,Option.bind_some,j2a,Option.bind_some,if_pos rfl,huk,Option.bind_some,k6H (by omega) h1.uni,Option.bind_some,if_pos rfl]
  rw [hloop,Option.bind_some,z1H,if_pos rfl]
  rw [hgd] at hu
  rw [k6M hG hgd hu uI fun r hr=>?_]
  ·rfl
  ·refine k4e (k4L hG hS hI hr (hst r hr) fun n a b hn hp=>?_).2 (hst r hr).1
   have:=hsub n (hS.right hr hn)
   exact (z3W this.2.1 a b).2 (this.2.2.2 a b ((z3W this.1 a b).1 hp))
end Go.Proofs.YtpnkinhphabkcaaGreat
