/- What those partial functions come to: plain lemmas on data; each bears its conditions in its statement. -/
import Derived.Test.YtppbkkcekpbaiaaGreatMath1
set_option linter.unusedVariables false
set_option linter.unusedSimpArgs false
set_option linter.ambiguousOpen false
set_option linter.unusedSectionVars false
set_option linter.unnecessarySimpa false
open List renaming getElem?_eq_getElem→Auz,mem_of_getElem?→Ckz,mem_cons→Egz,not_mem_nil→Cfz,mem_append→Clz,mem_of_find?_eq_some→Erz,length_append→Bgz,length_filter_le→Euz,range'→Dxz,length_range'→Fpz,length_singleton→Daz,mem_of_mem_take→Cuz,length_take→Ccz,set→Dzz,length_set→Cxz,getElem?_set→Chz,getElem?_of_mem→Eqz,mem_or_eq_of_mem_set→Fqz,length_nil→Ekz,nil_append→Bwz,getD_eq_getElem?_getD→Ddz,replicate→Cbz,pairwise_iff_getElem→Frz,any_eq_false→Epz,find?_some→Fsz,getElem_of_mem→Ftz,all_eq_true→Exz,mem_range'_1→Fuz,drop_eq_nil_of_le→Enz,drop_eq_getElem_cons→Dbz,getElem?_replicate→Fvz,drop_zero→Fwz,set_cons_succ→Cqz,mem_replicate→Fxz,getElem?_eq_none→Bfz,ext_getElem?→Cnz,append_nil→Bxz,any_eq_true→Eoz,not_any_eq_all_not→Ewz,range→Awz,range_eq_range'→Fyz,find?_append→Fzz,mem_singleton→Byz,length_drop→Cdz,mem_cons_self→Cwz,mem_cons_of_mem→Cjz,drop_replicate→Gaz,eq_nil_of_length_eq_zero→Ayz,mem_append_left→Gbz,countP_cons→Gcz,countP_le_length→Gdz,getElem?_append_left→Bdz,getElem?_append_right→Bez
open Nat renaming zero_add→Ahz,le_trans→Blz,two_pow_pos→Gez,testBit_two_pow→Gfz,lt_trichotomy→Ggz,le_refl→Adz,zero_le→Aiz,not_lt_zero→Ghz
open Int renaming le_refl→Giz,natCast_nonneg→Eaz
open Option renaming getD_some→Dmz
open Bool renaming or_eq_true→Alz,and_eq_true→Akz,not_eq_false'→Gjz,not_false→Flz,or_eq_false_iff→Dtz,not_eq_true'→Amz,false_ne_true→Gkz,true_and→Fkz,not_true→Fgz
namespace Go.Proofs.YtppbkkcekpbaiaaGreat
open Go Go.E
section
variable {α β ρ σ:Type}{Q:β→Prop}{b:List UInt8}
theorem Ok.bif {c:Prop}[Decidable c]{A B:Option α}{k:α→Option β}(h1:c→Ok Q (A.bind k))(h2:¬ c→Ok Q (B.bind k)):Ok Q ((if c then A else B).bind k):=by
 by_cases hc:c
 ·rw[ifP hc];exact h1 hc
 ·rw[ifN hc];exact h2 hc
theorem Ok.bso {x:α}{k:α→Option β}(h:Ok Q (k x)):Ok Q ((some x).bind k):=h
theorem Ok.bbi {γ:Type}{A:Option α}{B:α→Option γ}{k:γ→Option β}(h:Ok Q (A.bind fun x=>(B x).bind k)):Ok Q ((A.bind B).bind k):=by
 rw[Option.bind_assoc];exact h
theorem Ok.bgr {c:Prop}[Decidable c]{A:Option α}{k:α→Option β}(hc:c)(h:Ok Q (A.bind k)):Ok Q ((Go.E.grd c A).bind k):=by rw[q3M hc];exact h
theorem Ok.get {l:List α}{j:Nat}{k:α→Option β}(hj:j<l.length)(h:∀ x,x∈l→Ok Q (k x)):Ok Q ((l[j]?).bind k):=by
 obtain⟨x,hx⟩:∃ x,l[j]?=some x:=⟨_,Auz hj⟩
 rw[hx];exact h x (Ckz hx)
theorem Ok.eq {A:Option α}{x:α}{k:α→Option β}(hA:A=some x)(h:Ok Q (k x)):Ok Q (A.bind k):=by rw[hA];exact h
theorem drK {P:α→Prop}{o:Option (α×L1_)}(ho:Dr b P o){k:α×L1_→Option β}(hk:∀ y i' h',P y→0≤i'→Ok Q (k (y,⟨b,i',h'⟩))):Ok Q (o.bind k):=by
 obtain⟨⟨y,z⟩,rfl,hy,hz,he⟩:=ho
 obtain⟨zb,zi,zh⟩:=z
 dsimp only at he hz hy
 subst he
 exact hk y zi zh hy hz
theorem cb {i h:Int}(hi:0≤i):CB b ⟨b,i,h⟩:=⟨hi,rfl⟩
theorem Dr.re {P:α→Prop}{y:α}{i h:Int}(hy:P y)(hi:0≤i):Dr b P (some (y,(⟨b,i,h⟩:L1_))):=⟨_,rfl,hy,hi,rfl⟩
theorem j6W {P:σ→Prop}{Q:ρ→Prop}{f:σ→Option (σ ⊕ ρ)}(μ:σ→Nat)(hf:∀ s,P s→Ok (fun z=>match z with|.inl s'=>P s'∧μ s'<μ s|.inr r=>Q r) (f s)):∀ s,P s→Ok Q (q4G f s):=by
 have key:∀ n s,μ s<n→P s→Ok Q (q4G f s):=by
  intro n
  induction n with
  | zero=>intro s h;omega
  | succ n ih=>
   intro s h hp
   obtain⟨z,hz,hq⟩:=hf s hp
   cases z with
   | inl s'=>rw[q4b hz];exact ih s' (by have:=hq.2;omega) hq.1
   | inr r=>exact⟨r,q3N hz,hq⟩
 exact fun s hs=>key _ s (Nat.lt_succ_self _) hs
end
theorem k0k {α β:Type}{Q:β→Prop}(P:Nat→List α→Prop){f:Nat→Int×Int×List α→Option (Int×Int×List α)}{k:Int×Int×List α→Option β}{n:Nat}{i h:Int}{l:List α}(hi:0≤i)(h0:P 0 l)
  (hf:∀ j l i h,j<n→0≤i→P j l→Ok (fun s:Int×Int×List α=>0≤s.1∧P (j+1) s.2.2) (f j (i,h,l))) (hk:∀ l i h,0≤i→P n l→Ok Q (k (i,h,l))):Ok Q ((eachN f 0 n (i,h,l)).bind k):=by
 obtain⟨s,e,h1⟩:=j6K (P:=fun k (s:Int×Int×List α)=>0≤s.1∧P k s.2.2) (f:=f) (n:=n) (i:=0) (s:=(i,h,l)) ⟨hi,h0⟩ fun j s _ hj hs=>hf j _ _ _ (by omega) hs.1 hs.2
 rw[e]
 rw[Ahz] at h1
 exact hk _ _ _ h1.1 h1.2
theorem k8W {γ α β:Type}{Q:β→Prop}(P:Nat→List α→Prop){f:Nat→γ→Int×Int×List α→Option (Int×Int×List α)}{k:Int×Int×List α→Option β}{xs:List γ}{i h:Int}{l:List α}(hi:0≤i)(h0:P 0 l)
  (hf:∀ j x l i h,x∈xs→j<xs.length→0≤i→P j l→Ok (fun s:Int×Int×List α=>0≤s.1∧P (j+1) s.2.2) (f j x (i,h,l))) (hk:∀ l i h,0≤i→P xs.length l→Ok Q (k (i,h,l))):Ok Q ((eachL f 0 xs (i,h,l)).bind k):=by
 obtain⟨s,e,h1⟩:=j6L (P:=fun k (s:Int×Int×List α)=>0≤s.1∧P k s.2.2) (f:=f) (xs:=xs) (i:=0) (s:=(i,h,l)) ⟨hi,h0⟩ fun j x s hx _ hj hs=>hf j x _ _ _ hx (by omega) hs.1 hs.2
 rw[e]
 rw[Ahz] at h1
 exact hk _ _ _ h1.1 h1.2
def SB (s:Symbol):Prop:=s.Name.size≤8∧1≤s.as_.length∧s.as_.length≤5∧∀ a∈s.as_,a.Name.size≤8
def RB (r:Rule):Prop:=r.Name.size≤8∧r.Left.size≤8∧r.rt_.length≤5∧(∀ x∈r.rt_,x.size≤8)
def SBs (l:List Symbol):Prop:=1≤l.length∧l.length≤3∧∀ s∈l,SB s
theorem j8H {α:Type}[Sz α]{m:Nat}:∀ {l:List α},(∀ x∈l,Sz.szd x≤m)→szL l≤l.length*(m+1)
 | [],_=>by simp[szL]
 | x::l,h=>by
  have h1:=j8H (m:=m) (l:=l) fun y hy=>h y (by simp[hy])
  have h2:=h x (by simp)
  simp only[szL,lnC,Nat.add_mul];omega
theorem RB.rok {r:Rule}(h:RB r):ROk r:=by have:=h.2.2.1;show r.rt_.length≤1048576;omega
section
variable {b:List UInt8}(hb:b.length≤1048576)
include hb
theorem k9O {x:BA_}(h:x∈[(⟨#[97]⟩:BA_),(⟨#[98]⟩:BA_),(⟨#[99]⟩:BA_),(⟨#[100]⟩:BA_)]):x.size≤8:=by
 simp only[Egz,Cfz,or_false] at h
 rcases h with h|h|h|h<;>rw[h]<;>decide
theorem k7F {nm:BA_}(hn:nm.size≤8)(a2 a3:Bool){i h:Int}(hi:0≤i):Dr b SB (z5T nm a2 a3 ⟨b,i,h⟩):=by
 unfold z5T
 refine drK (q5d hb 4 ⟨hi,rfl⟩) fun y i1 h1 hy hi1=>?_
 have h4:=hy.2.1 (by omega)
 refine .grd (by constructor<;>omega) ?_
 refine k0k (fun k l=>l.length=k∧∀ a∈l,a.Name.size≤8) hi1 ⟨rfl,by simp⟩ (fun k s1 s2 s3 hk hs1 hs=>?_) fun s1 i2 h2 p1 hs=>?_
 ·obtain⟨hs2,hs3⟩:=hs
  unfold j4Z
  dsimp only
  refine .bbi (.get (by simp;omega) fun x1 hx1=>?_)
  have hx1:=k9O hb hx1
  have fin:∀ (t m:Int) (i' h' : Int),0≤i'→Ok (fun s:Int×Int×List At_=>0≤s.1∧(s.2.2.length=k+1∧∀ a∈s.2.2,a.Name.size≤8)) (some (i',h',s1++[(⟨x1,t,m,false⟩:At_)])):=fun t m i' h' hi'=>by
   refine .ret ⟨hi',by simp[hs2],fun a ha=>?_⟩
   simp only[Clz,Egz,Cfz,or_false] at ha
   rcases ha with ha|ha
   ·exact hs3 a ha
   ·rw[ha];exact hx1
  refine .bbi (drK (z1N hb (by simp) ⟨hs1,rfl⟩) fun t i2 h2 _ hi2=>?_)
  refine .bbi (drK (z1N hb (by simp) ⟨hi2,rfl⟩) fun m i3 h3 _ hi3=>?_)
  cases a2<;>cases a3<;>dsimp only
  all_goals
   repeat' first
    | ((with_reducible refine .bso ?_);try dsimp only)
    | (with_reducible exact fin _ _ _ _ (by assumption))
    | ((with_reducible refine .bbi ?_);try dsimp only)
    | (with_reducible refine .bif (fun _=>?_) fun _=>?_)
    | (with_reducible refine .ite (fun _=>?_) fun _=>?_)
    | ((with_reducible refine drK (z0T hb _ (cb (by assumption))) fun _ _ _ _ _=>?_);try dsimp only)
    | ((with_reducible refine drK (z1N hb (by simp) (cb (by assumption))) fun _ _ _ _ _=>?_);try dsimp only)
    | ((with_reducible refine drK (q5d hb _ (cb (by assumption))) fun _ _ _ _ _=>?_);try dsimp only)
    | (refine .bgr (by constructor<;>omega) ?_)
    | (refine .grd (by constructor<;>omega) ?_)
 ·obtain⟨p2,p3⟩:=hs
  dsimp only
  exact Dr.re ⟨hn,by dsimp only;omega,by dsimp only;omega,p3⟩ p1
end
theorem j6X {g:Gm_}(h:SBs g.ss_)(nm:BA_):(q7i g nm).1.as_.length≤5∧∀ a∈(q7i g nm).1.as_,a.Name.size≤8:=by
 unfold q7i
 split
 ·rename_i y hy
  have:=h.2.2 y (Erz hy)
  exact⟨this.2.2.1,this.2.2.2⟩
 ·exact⟨by simp[zS],by simp[zS]⟩
theorem k6M {y:Symbol}(h:∀ a∈y.as_,a.Name.size≤8)(nm:BA_):q6q y nm=some (z3Q y nm):=by
 unfold q6q z3Q
 rw[z3c (p:=fun a=>decide (a.Name=nm)) (r:=fun a=>(a,true)) fun k x _=>⟨fun hp=>by unfold z2C;rw[ifP (by simpa using hp)],fun hp=>by unfold z2C;rw[ifN (by simpa using hp)]⟩]
 cases y.as_.find? fun a=>decide (a.Name=nm)<;>rfl
theorem SBs.g {g:Gm_}(h:SBs g.ss_):GOk g:=fun y hy=>by have:=(h.2.2 y hy).2.2.1;omega
theorem k6N {g:Gm_}(hs:SBs g.ss_){r:Rule}(hr:r.rt_.length≤5)(k:Int):Ok (fun q=>∀ o∈q,o.Name.size≤8) (z3g g r k):=by
 unfold z3g
 refine Ok.bind (Q:=fun q=>∀ o∈q,o.Name.size≤8) (j6W (P:=fun s:List Oc×Int=>0≤s.2∧s.2≤r.rt_.length+1∧(s.1.length:Int)≤5*s.2∧∀ o∈s.1,o.Name.size≤8) (fun s=>(r.rt_.length+1-s.2).toNat) ?_ _ ⟨by simp,by simp;omega,by simp,by simp⟩) fun q hq=>.ret hq
 rintro⟨q,p⟩ ⟨h1,h2,h3,h4⟩
 dsimp only at h1 h2 h3 h4
 unfold j7W
 dsimp only
 refine .ite (fun hp=>?_) fun _=>.ret h4
 refine .eq (z3Z (show r.rt_.length≤1048576 by omega) p) ?_
 refine .eq (z3R hs.g _) ?_
 have hff:=j6X hs (q6k r p)
 generalize q7i g (q6k r p)=fs at hff
 obtain⟨y,yb⟩:=fs
 obtain⟨f1,f2⟩:=hff
 dsimp only at f1 f2 ⊢
 refine Ok.bind (Q:=fun q'=>q'.length≤q.length+5∧∀ o∈q',o.Name.size≤8) ((j6L (P:=fun k q'=>q'.length≤q.length+k∧∀ o∈q',o.Name.size≤8) (i:=0) ⟨by omega,h4⟩ ?_).mono fun q' hq=>⟨by omega,hq.2⟩) fun q' hq=>.grd (by constructor<;>omega) (.ret ⟨⟨by dsimp only;omega,by dsimp only;omega,by dsimp only;omega,hq.2⟩,by dsimp only;omega⟩)
 intro j a l ha _ hj hl
 have hl1:=hl.1
 have hl2:=hl.2
 have ha:=f2 a ha
 unfold j7V
 dsimp only
 have e1:Ok (fun q' : List Oc=>q'.length≤q.length+(j+1)∧∀ o∈q',o.Name.size≤8) (some l):=.ret ⟨by omega,hl2⟩
 have e2:Ok (fun q' : List Oc=>q'.length≤q.length+(j+1)∧∀ o∈q',o.Name.size≤8) (some (l++[(⟨p,a.Name⟩:Oc)])):=.ret ⟨by simp;omega,fun o ho=>by
  simp only[Clz,Egz,Cfz,or_false] at ho
  rcases ho with ho|ho
  ·exact hl2 o ho
  ·rw[ho];exact ha⟩
 have hb:([]:List UInt8).length≤1048576:=by simp
 repeat' first
  | ((with_reducible refine .bso ?_);try dsimp only)
  | (with_reducible exact e1)
  | (with_reducible exact e2)
  | ((with_reducible refine .bbi ?_);try dsimp only)
  | (with_reducible refine .bif (fun _=>?_) fun _=>?_)
  | (with_reducible refine .ite (fun _=>?_) fun _=>?_)
  | ((with_reducible refine drK (z0T hb _ (cb (by assumption))) fun _ _ _ _ _=>?_);try dsimp only)
  | ((with_reducible refine drK (z1N hb (by simp) (cb (by assumption))) fun _ _ _ _ _=>?_);try dsimp only)
  | ((with_reducible refine drK (q5d hb _ (cb (by assumption))) fun _ _ _ _ _=>?_);try dsimp only)
  | (refine .bgr (by constructor<;>omega) ?_)
  | (refine .grd (by constructor<;>omega) ?_)
theorem x0p (a:Int):Ok (fun _=>True) (q5y a):=by
 unfold q5y
 rw[z1m,bsS,z1m,bsS]
 repeat' first
  | exact .ret trivial
  | refine .ite (fun _=>?_) fun _=>?_
theorem x0q (a:Int)(x y:Expr):z4E a x y=some (⟨4,a,0,0,(⟨#[]⟩:BA_),(⟨#[]⟩:BA_),[x,y]⟩:Expr):=rfl
theorem k8X (g:Gm_)(r:Rule)(rem:Bool):∀ (m n1 n2:Nat),m<n1→m<n2→∀ (k d:Int) (o:L1_),d≤m+1→q6Y n1 g r k d rem o=q6Y n2 g r k d rem o:=by
 intro m
 induction m with
 | zero=>
  intro n1 n2 h1 h2 k d o hd
  obtain⟨n1,rfl⟩:∃ q,n1=q+1:=⟨n1-1,by omega⟩
  obtain⟨n2,rfl⟩:∃ q,n2=q+1:=⟨n2-1,by omega⟩
  show q7Z (q6Y n1) g r k d rem o=q7Z (q6Y n2) g r k d rem o
  unfold q7Z
  simp only[ifP (show d<2 by omega),bsS,if_true]
 | succ m ih=>
  intro n1 n2 h1 h2 k d o hd
  obtain⟨n1,rfl⟩:∃ q,n1=q+1:=⟨n1-1,by omega⟩
  obtain⟨n2,rfl⟩:∃ q,n2=q+1:=⟨n2-1,by omega⟩
  show q7Z (q6Y n1) g r k d rem o=q7Z (q6Y n2) g r k d rem o
  have h:∀ k o,q6Y n1 g r k (d-1) rem o=q6Y n2 g r k (d-1) rem o:=fun k o=>ih n1 n2 (by omega) (by omega) k (d-1) o (by omega)
  unfold q7Z
  simp only[h]
section
variable {b:List UInt8}(hb:b.length≤1048576)
include hb
theorem k6O {g:Gm_}(hs:SBs g.ss_){r:Rule}(hr:r.rt_.length≤5)(rem:Bool):∀ (m n:Nat),m<n→∀ (k d i h:Int),d≤m+1→-1000+m≤d→d≤1000→0≤i→Dr b (fun e=>Sz.szd e≤fb m) (q6Y n g r k d rem ⟨b,i,h⟩):=by
 intro m
 induction m with
 | zero=>
  intro n hn k d i h hd hd0 hd1 hi
  obtain⟨n,rfl⟩:∃ q,n=q+1:=⟨n-1,by omega⟩
  show Dr b _ (q7Z (q6Y n) g r k d rem ⟨b,i,h⟩)
  unfold q7Z
  rw[ifP (show d<2 by omega)]
  dsimp only
  rw[bsS]
  dsimp only
  rw[ifP rfl]
  unfold Dr
  have hf:=j5q hb 0
  repeat' first
   | ((with_reducible refine .bso ?_);try dsimp only)
   | ((with_reducible refine .bind (k6N hs hr _) fun _ _=>?_))
   | ((with_reducible refine drK (j1a hb _ (by assumption) (cb (by assumption))) fun _ _ _ _ _=>?_);try dsimp only)
   | ((with_reducible refine .bbi ?_);try dsimp only)
   | (with_reducible refine .bif (fun _=>?_) fun _=>?_)
   | (with_reducible refine .ite (fun _=>?_) fun _=>?_)
   | ((with_reducible refine drK (z0T hb _ (cb (by assumption))) fun _ _ _ _ _=>?_);try dsimp only)
   | ((with_reducible refine drK (z1N hb (by simp) (cb (by assumption))) fun _ _ _ _ _=>?_);try dsimp only)
   | ((with_reducible refine drK (q5d hb _ (cb (by assumption))) fun _ _ _ _ _=>?_);try dsimp only)
   | (refine .bgr (by constructor<;>omega) ?_)
   | (refine .grd (by constructor<;>omega) ?_)
  all_goals refine⟨_,rfl,?_,by assumption,rfl⟩
  all_goals dsimp only
  all_goals first
   | (rw[j5p hb,z4n hb];omega)
   | omega
 | succ m ih=>
  intro n hn k d i h hd hd0 hd1 hi
  obtain⟨n,rfl⟩:∃ q,n=q+1:=⟨n-1,by omega⟩
  have hr1:∀ k i h,0≤i→Dr b (fun e=>Sz.szd e≤fb m) (q6Y n g r k (d-1) rem ⟨b,i,h⟩):=fun k i h hi=>ih n (by omega) k (d-1) i h (by omega) (by omega) (by omega) hi
  show Dr b _ (q7Z (q6Y n) g r k d rem ⟨b,i,h⟩)
  unfold q7Z Dr
  dsimp only
  have hl:=hs.1
  have hf:=j5q hb m
  have hg:=k4b hb m
  have hid:I64 (d-1):=by constructor<;>omega
  repeat' first
   | ((with_reducible refine .bso ?_);try dsimp only)
   | ((with_reducible refine .bind (k6N hs hr _) fun _ _=>?_))
   | ((with_reducible refine drK (j1a hb _ (by assumption) (cb (by assumption))) fun _ _ _ _ _=>?_);try dsimp only)
   | ((with_reducible refine drK (hr1 _ _ _ (by assumption)) fun _ _ _ _ _=>?_);try dsimp only)
   | ((with_reducible refine .bind (x0p _) fun _ _=>?_);try dsimp only)
   | ((with_reducible refine .eq (x0q _ _ _) ?_);try dsimp only)
   | ((with_reducible refine .grd hid ?_))
   | ((with_reducible refine .grd (by omega) ?_))
   | ((with_reducible refine .get (l:=g.ss_) (by omega) fun x hx=>?_);obtain⟨_,_,_,hat⟩:=hs.2.2 x hx)
   | ((with_reducible refine .get (by omega) fun x hx=>?_);have hxn:=hat x hx)
   | ((with_reducible refine .bbi ?_);try dsimp only)
   | (with_reducible refine .bif (fun _=>?_) fun _=>?_)
   | (with_reducible refine .ite (fun _=>?_) fun _=>?_)
   | ((with_reducible refine drK (z0T hb _ (cb (by assumption))) fun _ _ _ _ _=>?_);try dsimp only)
   | ((with_reducible refine drK (z1N hb (by simp) (cb (by assumption))) fun _ _ _ _ _=>?_);try dsimp only)
   | ((with_reducible refine drK (q5d hb _ (cb (by assumption))) fun _ _ _ _ _=>?_);try dsimp only)
   | (refine .bgr (by constructor<;>omega) ?_)
   | (refine .grd (by constructor<;>omega) ?_)
  all_goals refine⟨_,rfl,?_,by assumption,rfl⟩
  all_goals dsimp only at *
  all_goals first
   | (rw[j5p hb,z4n hb];omega)
   | (rw[k7y hb];omega)
   | (rw[k4a hb,z4n hb];omega)
   | (rw[k1b hb,z4n hb];omega)
   | omega
theorem k8Y {g:Gm_}(hs:SBs g.ss_){r:Rule}(hr:r.rt_.length≤5)(rem:Bool)(k d i h:Int)(h0:0≤d)(h3:d≤3)(hi:0≤i):Dr b (fun e=>Sz.szd e≤320) (j0H g r k d rem ⟨b,i,h⟩):=
 k3Z (N:=3) (fun n hn=>k8X g r rem 2 (n+1) n (by omega) (by omega) k d _ (by omega)) (k6O hb hs hr rem 2 3 (by omega) k d i h (by omega) (by omega) (by omega) hi)
end
theorem j0s {α β:Type}{f:α→List β}{C:Nat}(h:∀ x,(f x).length≤C):∀ l:List α,(l.flatMap f).length≤l.length*C
 | []=>by simp
 | x::l=>by
  have h1:=j0s h l
  have h2:=h x
  simp only[List.flatMap_cons,Bgz,lnC,Nat.add_mul];omega
theorem k4P {g:Gm_}(hs:SBs g.ss_)(r:Rule)(k:Nat):(reqK g r k).length≤5∧∀ o∈reqK g r k,o.Name.size≤8:=by
 obtain⟨f1,f2⟩:=j6X hs (q6k r (k:Int))
 unfold reqK
 refine⟨by rw[lnM];exact Blz (Euz _ _) f1,fun o ho=>?_⟩
 obtain⟨a,ha,rfl⟩:=List.mem_map.1 ho
 exact f2 a (List.mem_filter.1 ha).1
theorem k8Z {g:Gm_}(hs:SBs g.ss_){r:Rule}(hr:r.rt_.length≤5):(reqL g r).length≤30∧∀ o∈reqL g r,o.Name.size≤8:=by
 unfold reqL
 refine⟨?_,fun o ho=>?_⟩
 ·have:=j0s (C:=5) (fun k=>(k4P hs r k).1) (Dxz 0 (r.rt_.length+1))
  rw[Fpz] at this
  omega
 ·obtain⟨k,_,hk⟩:=List.mem_flatMap.1 ho
  exact (k4P hs r k).2 o hk
theorem j0t {α:Type}[Sz α](l:List α)(x:α):szL (l++[x])=szL l+(1+Sz.szd x):=by rw[j0B];rfl
theorem j8I (o:Oc)(e:Expr):Sz.szd (⟨o,e⟩:Eqn)=o.Name.size+Sz.szd e:=by rw[j1G,q7t];dsimp only;omega
theorem k7G (s m:BA_)(e f:Expr):Sz.szd (⟨s,m,e,f⟩:Cn)=s.size+m.size+Sz.szd e+Sz.szd f:=by rw[z7p,q7t,q7t];dsimp only;omega
section
variable {b:List UInt8}(hb:b.length≤1048576)
include hb
theorem k9a {g:Gm_}(hs:SBs g.ss_){r:Rule}(hr:RB r)(he:r.es_=[])(rem:Bool){i h:Int}(hi:0≤i):Dr b (fun q=>RB q∧(szL q.es_≤12000∧q.es_.length≤30)∧q.cs_=r.cs_) (z5V g r rem ⟨b,i,h⟩):=by
 have h5:=hr.2.2.1
 obtain⟨q1,q2⟩:=k8Z hs h5
 unfold z5V
 refine .eq (j1f hs.g hr.rok) ?_
 refine k8W (fun j (l:List Eqn)=>l.length=j∧szL l≤j*400) hi (by rw[he];exact⟨rfl,by simp[szL]⟩) (fun j x l i h hx hj hi hl=>?_) fun l i h hi hl=>?_
 ·obtain⟨hl1,hl2⟩:=hl
  have hx:=q2 x hx
  have fin:∀ (e:Expr) (i' h' : Int),Sz.szd e≤320→0≤i'→Ok (fun s:Int×Int×List Eqn=>0≤s.1∧(s.2.2.length=j+1∧szL s.2.2≤(j+1)*400)) (some (i',h',l++[(⟨x,e⟩:Eqn)])):=fun e i' h' h1 hi'=>.ret ⟨hi',by simp[hl1],by dsimp only;rw[j0t,j8I];omega⟩
  unfold j2W
  dsimp only
  refine .bbi (.eq (z3Z (show r.rt_.length≤1048576 by omega) _) ?_)
  refine .bbi (.eq (z3R hs.g _) ?_)
  have hff:=j6X hs (q6k r x.Pos)
  generalize q7i g (q6k r x.Pos)=fs at hff
  obtain⟨y,yb⟩:=fs
  obtain⟨f1,f2⟩:=hff
  dsimp only at f1 f2 ⊢
  refine .bbi (.eq (k6M f2 _) ?_)
  generalize z3Q y x.Name=fa
  obtain⟨a,ab⟩:=fa
  dsimp only
  refine .bbi (drK (q5d hb 3 (cb hi)) fun d i1 h1 hd hi1=>?_)
  have hd3:=hd.2.1 (by omega)
  refine .bgr (by constructor<;>omega) ?_
  refine .bbi (drK (k8Y hb hs (r:=⟨r.Name,r.Left,r.rt_,r.ll_,l,r.cs_⟩) h5 rem _ _ _ _ (by omega) (by omega) hi1) fun e i2 h2 he2 hi2=>?_)
  dsimp only at he2 ⊢
  refine .bbi (.eq (j0n (by have:=k4d hb he2;omega)) ?_)
  refine .bif (fun _=>?_) fun _=>?_
  ·refine .bgr (by constructor<;>omega) ?_
   exact fin _ _ _ he2 hi2
  ·refine .bbi (drK (j1a hb _ (by simp) (cb hi2)) fun e3 i3 h3 he3 hi3=>?_)
   refine .bgr (by constructor<;>omega) ?_
   exact fin _ _ _ (by show Sz.szd e3≤320;have:Sz.szd e3≤8:=he3;omega) hi3
 ·exact⟨_,rfl,⟨hr,⟨by have:=hl.2;dsimp only;omega,by have:=hl.1;dsimp only;omega⟩,rfl⟩,hi,rfl⟩
theorem k9P {g:Gm_}(hs:SBs g.ss_){r:Rule}(hr:RB r)(hc:r.cs_=[]){i h:Int}(hi:0≤i):Dr b (fun q=>RB q∧q.es_=r.es_∧szL q.cs_≤200) (z7F g r ⟨b,i,h⟩):=by
 have h5:=hr.2.2.1
 unfold z7F
 refine k8W (fun _ (l:List Cn)=>l.length≤2∧szL l≤l.length*40) hi (by rw[hc];simp[szL]) (fun j x l i h hx hj hi hl=>?_) fun l i h hi hl=>?_
 ·obtain⟨s1,_,_,s2⟩:=hs.2.2 x hx
  unfold j5b
  dsimp only
  refine k8W (fun _ (l:List Cn)=>l.length≤2∧szL l≤l.length*40) hi hl (fun j2 a l i h ha hj hi hl=>?_) fun l i h hi hl=>.ret ⟨hi,hl⟩
  have ha:=s2 a ha
  unfold j5a
  dsimp only
  refine .bbi ?_
  refine .bif (fun _=>.bso ?_) fun _=>.bso ?_
  ·refine .bbi ?_
   refine .bif (fun h2=>?_) fun _=>.bso ?_
   ·have hl2:l.length<2:=by have:=of_decide_eq_true h2;omega
    refine .bbi (drK (z0T hb _ (cb hi)) fun y i1 h1 _ hi1=>?_)
    refine .bso ?_
    dsimp only
    refine .bif (fun _=>?_) fun _=>.bso ?_
    ·refine .bbi (.bind (k6N hs (r:=⟨r.Name,r.Left,r.rt_,r.ll_,r.es_,l⟩) h5 _) fun q hq=>?_)
     refine .bbi (drK (j1a hb _ hq (cb hi1)) fun e i2 h2 he hi2=>?_)
     refine .bbi (.bind (k6N hs (r:=⟨r.Name,r.Left,r.rt_,r.ll_,r.es_,l⟩) h5 _) fun q3 hq3=>?_)
     refine .bbi (drK (j1a hb _ hq3 (cb hi2)) fun e3 i3 h3 he3 hi3=>?_)
     refine .bgr (by constructor<;>omega) ?_
     refine .bso (.ret ⟨hi3,by dsimp only;simp;omega,?_⟩)
     dsimp only at he he3 ⊢
     rw[j0t,k7G,Bgz,Daz]
     have:=hl.2
     omega
    ·exact .ret ⟨hi1,hl⟩
   ·dsimp only
    refine .bif (fun h=>by cases h) fun _=>.bso (.ret ⟨hi,hl⟩)
  ·refine .bbi ?_
   refine .bif (fun h=>by cases h) fun _=>.bso ?_
   dsimp only
   refine .bif (fun h=>by cases h) fun _=>.bso (.ret ⟨hi,hl⟩)
 ·refine⟨_,rfl,⟨hr,rfl,?_⟩,hi,rfl⟩
  have:=hl.1
  have:=hl.2
  dsimp only
  have h80:l.length*40≤80:=by omega
  omega
end
theorem k9Q {k:Nat}(hk:k<2):Ok (fun x=>x.size≤1) (z1F (k:Int)):=by
 have:k=0∨k=1:=by omega
 rcases this with rfl|rfl
 ·exact⟨⟨#[48]⟩,by unfold z1F;rfl,by decide⟩
 ·refine⟨⟨#[49]⟩,?_,by decide⟩
  unfold z1F
  rw[ifN (by decide)]
  have h1:z4e (((1:Nat):Int),(⟨#[]⟩:BA_))=some (.inl (0,⟨#[49]⟩)):=by
   unfold z4e
   dsimp only
   rw[ifN (by decide),ifN (by decide),q3M (by constructor<;>decide),q3M (by decide),q3M (by constructor<;>decide)]
   rfl
  have h2:z4e (0,(⟨#[49]⟩:BA_))=some (.inr ⟨#[49]⟩):=rfl
  rw[q4b h1,q3N h2]
  rfl
def R0 (r:Rule):Prop:=RB r∧r.es_=[]∧r.cs_=[]
def R1 (r:Rule):Prop:=RB r∧(szL r.es_≤12000∧r.es_.length≤30)∧szL r.cs_≤200
theorem R0.r1 {r:Rule}(h:R0 r):R1 r:=⟨h.1,⟨by rw[h.2.1];simp[szL],by rw[h.2.1];simp⟩,by rw[h.2.2];simp[szL]⟩
def GB (g:Gm_):Prop:=SBs g.ss_∧1≤g.rs_.length∧g.rs_.length≤8∧∀ r∈g.rs_,R1 r
theorem stu {x:BA_}{n:Nat}(h:x∈[(⟨#[115]⟩:BA_),(⟨#[116]⟩:BA_),(⟨#[117]⟩:BA_)].take n):x.size=1:=by
 have h:=Cuz h
 simp only[Egz,Cfz,or_false] at h
 rcases h with h|h|h<;>rw[h]<;>rfl
theorem bsz (x y:BA_):(x++y).size=x.size+y.size:=ByteArray.size_append
section
variable {b:List UInt8}(hb:b.length≤1048576)
include hb
theorem j8J (pl:Bool){i h:Int}(hi:0≤i):Dr b GB (z4q pl ⟨b,i,h⟩):=by
 unfold z4q
 refine drK (q5d hb 3 (cb hi)) fun y i1 h1 hy hi1=>?_
 have h3:=hy.2.1 (by omega)
 have h0:=hy.1
 dsimp only
 refine .grd (by constructor<;>omega) (.grd (by omega) (.grd (by simp;omega) ?_))
 have hlen:([(⟨#[115]⟩:BA_),(⟨#[116]⟩:BA_),(⟨#[117]⟩:BA_)].take ((1+y).toNat)).length=(1+y).toNat:=by rw[Ccz];simp;omega
 refine k0k (fun k (l:List Symbol)=>l.length=k∧∀ s∈l,SB s) hi1 ⟨rfl,by simp⟩ (fun j l i h hj hi hl=>?_) fun syms i2 h2 hi2 hsyms=>?_
 ·unfold j2X
  dsimp only
  refine .get (by rw[hlen];exact hj) fun x hx=>?_
  have hx:=stu hx
  refine drK (k7F hb (by omega) _ _ hi) fun s i1 h1 hs hi1=>?_
  refine .grd (by have:=hl.1;constructor<;>omega) (.ret ⟨hi1,by simp[hl.1],fun a ha=>?_⟩)
  simp only[Clz,Egz,Cfz,or_false] at ha
  rcases ha with ha|ha
  ·exact hl.2 a ha
  ·rw[ha];exact hs
 have hS:SBs syms:=⟨by rw[hsyms.1];omega,by rw[hsyms.1];omega,hsyms.2⟩
 dsimp only
 refine k0k (fun k (l:List Rule)=>k≤l.length∧l.length≤3*k∧∀ r∈l,R0 r) hi2 ⟨by simp,by simp,by simp⟩ (fun j l i h hj hi hl=>?_) fun rules i3 h3 hi3 hr=>?_
 ·unfold j3a
  dsimp only
  refine .get (by rw[hlen];exact hj) fun x hx=>?_
  have hx:=stu hx
  refine .grd (by rw[hx];decide) ?_
  refine drK (z0T hb _ (cb hi)) fun y3 i1 h1 _ hi1=>?_
  have hl1:=hl.1
  have hl2:=hl.2.1
  refine .grd (by constructor<;>omega) ?_
  refine drK (q5d hb 2 (cb hi1)) fun y4 i4 h4 hy4 hi4=>?_
  have h42:=hy4.2.1 (by omega)
  have h40:=hy4.1
  refine .grd (by constructor<;>omega) ?_
  dsimp only
  refine k0k (fun k (q:List Rule)=>q.length=l.length+1+k∧∀ r∈q,R0 r) hi4 ⟨by simp,fun a ha=>?_⟩ (fun j2 q i h hj2 hi hq=>?_) fun q i6 h6 hi6 hq=>?_
  ·simp only[Clz,Egz,Cfz,or_false] at ha
   rcases ha with ha|ha
   ·exact hl.2.2 a ha
   ·rw[ha]
    exact⟨⟨by dsimp only;rw[bsz,hx];decide,by dsimp only;omega,by simp,by simp⟩,rfl,rfl⟩
  ·unfold j2Z
   dsimp only
   refine .grd (by rw[hx];decide) ?_
   refine .bind (k9Q (by omega)) fun nm hnm=>?_
   refine .grd (by rw[bsz,hx];have:(⟨#[112]⟩:BA_).size=1:=rfl;omega) ?_
   refine drK (z0T hb _ (cb hi)) fun y6 i1 h1 _ hi1=>?_
   refine drK (q5d hb 3 (cb hi1)) fun y7 i7 h7 hy7 hi7=>?_
   have h72:=hy7.2.1 (by omega)
   have h70:=hy7.1
   refine .grd (by constructor<;>omega) ?_
   dsimp only
   refine k0k (fun k (q:List BA_)=>q.length=k∧∀ x∈q,x.size≤8) hi7 ⟨rfl,by simp⟩ (fun j4 q4 i h hj4 hi hq4=>?_) fun q4 i8 h8 hi8 hq4=>?_
   ·unfold j2Y
    dsimp only
    refine drK (z5g hb (by intro h;have:=congrArg List.length h;rw[hlen] at this;simp at this;omega) (cb hi)) fun z i1 h1 hz hi1=>?_
    have hz:=stu hz
    refine .grd (by have:=hq4.1;constructor<;>omega) (.ret ⟨hi1,by simp[hq4.1],fun a ha=>?_⟩)
    simp only[Clz,Egz,Cfz,or_false] at ha
    rcases ha with ha|ha
    ·exact hq4.2 a ha
    ·rw[ha];omega
   ·have hq41:=hq4.1
    have hq1:=hq.1
    refine .grd (by constructor<;>omega) (.ret ⟨hi8,by simp;omega,fun a ha=>?_⟩)
    simp only[Clz,Egz,Cfz,or_false] at ha
    rcases ha with ha|ha
    ·exact hq.2 a ha
    ·rw[ha]
     exact⟨⟨by dsimp only;rw[bsz,bsz,hx];have:(⟨#[112]⟩:BA_).size=1:=rfl;omega,by dsimp only;omega,by dsimp only;omega,hq4.2⟩,rfl,rfl⟩
  ·exact .ret ⟨hi6,by dsimp only;have:=hq.1;omega,by dsimp only;have:=hq.1;omega,hq.2⟩
 dsimp only
 have hr1:=hr.1
 have hr2:=hr.2.1
 have key:∀ rs:List Rule,1≤rs.length→rs.length≤8→(∀ r∈rs,R0 r)→Ok (fun r=>GB r.1∧CB b r.2) ((q4G (z9b pl ⟨b,i,h⟩ syms) (0,i3,h3,rs)).bind fun (s14,s15,s16)=>some ((⟨syms,s16⟩:Gm_),(⟨b,s14,s15⟩:L1_))):=by
  intro rs g1 g2 g3
  refine Ok.bind (Q:=fun s:Int×Int×List Rule=>0≤s.1∧s.2.2.length=rs.length∧∀ r∈s.2.2,R1 r) (j6W (P:=fun s:Int×Int×Int×List Rule=>0≤s.1∧s.1≤rs.length∧0≤s.2.1∧s.2.2.2.length=rs.length∧∀ (k:Nat) x,s.2.2.2[k]?=some x→R1 x∧(s.1≤(k:Int)→R0 x)) (fun s=>(rs.length-s.1).toNat) ?_ _ ⟨Giz _,by dsimp only;omega,hi3,rfl,fun k x hx=>⟨(g3 x (Ckz hx)).r1,fun _=>g3 x (Ckz hx)⟩⟩) ?_
  ·rintro⟨p,i5,h5,q⟩ ⟨a1,a2,a3,a4,a5⟩
   dsimp only at a1 a2 a3 a4 a5
   unfold z9b
   dsimp only
   refine .ite (fun hp=>?_) fun _=>.ret ⟨a3,a4,fun r hr=>?_⟩
   ·obtain⟨x,hx⟩:∃ x,q[p.toNat]?=some x:=⟨_,Auz (by omega)⟩
    have hx0:=(a5 _ _ hx).2 (by omega)
    rw[hx]
    have fin:∀ (y:Rule) (i' h' : Int),R1 y→0≤i'→(0≤p+1∧p+1≤rs.length∧0≤i'∧(Dzz q p.toNat y).length=rs.length∧∀ (k:Nat) x,(Dzz q p.toNat y)[k]?=some x→R1 x∧(p+1≤(k:Int)→R0 x))∧(rs.length-(p+1)).toNat<(rs.length-p).toNat:=fun y i' h' hy hi'=>by
     refine⟨⟨by omega,by omega,hi',by rw[Cxz];exact a4,fun k x hk=>?_⟩,by omega⟩
     rw[Chz] at hk
     by_cases e:p.toNat=k
     ·rw[ifP e] at hk
      split at hk
      ·cases hk;exact⟨hy,fun h=>by omega⟩
      ·cases hk
     ·rw[ifN e] at hk
      exact⟨(a5 _ _ hk).1,fun h=>(a5 _ _ hk).2 (by omega)⟩
    refine .bgr a1 (.bbi (.bso ?_))
    refine .bbi (drK (k9a hb (g:=⟨syms,q⟩) hS hx0.1 hx0.2.1 _ a3) fun y i6 h6 hy hi6=>?_)
    obtain⟨b1,b2,b3⟩:=hy
    rw[hx0.2.2] at b3
    dsimp only
    refine .bif (fun _=>.bso ?_) fun _=>?_
    ·exact .grd (by constructor<;>omega) (.ret (fin _ _ h6 ⟨b1,b2,by rw[b3];simp[szL]⟩ hi6))
    ·refine .bbi (drK (k9P hb (g:=⟨syms,q⟩) hS b1 b3 hi6) fun y2 i7 h7 hy2 hi7=>?_)
     refine .bso ?_
     exact .grd (by constructor<;>omega) (.ret (fin _ _ h7 ⟨hy2.1,by rw[hy2.2.1];exact b2,hy2.2.2⟩ hi7))
   ·obtain⟨k,hk⟩:=Eqz hr
    exact (a5 _ _ hk).1
  ·rintro⟨s1,s2,s3⟩ ⟨c1,c2,c3⟩
   exact⟨_,rfl,⟨hS,by dsimp only at c2 ⊢;omega,by dsimp only at c2 ⊢;omega,c3⟩,c1,rfl⟩
 refine .bif (fun h8=>.bgr (by omega) (.bso ?_)) fun h8=>.bso ?_
 ·exact key _ (by rw[Ccz];omega) (by rw[Ccz];omega) fun r hr'=>hr.2.2 r (Cuz hr')
 ·exact key _ (by omega) (by omega) hr.2.2
end
theorem k4Q {α:Type}[Sz α](x:α):∀ (l:List α) (j:Nat),szL (l.set j x)≤szL l+Sz.szd x
 | [],_=>by simp[szL]
 | y::l,0=>by simp only[Dzz,szL];omega
 | y::l,j+1=>by have:=k4Q x l j;simp only[Dzz,szL];omega
theorem k4R {α:Type}[Sz α](l:List α):szL (l.drop 1)≤szL l:=by
 cases l with
 | nil=>simp
 | cons x l=>simp only[List.drop,szL];omega
theorem j5y (a:Int):∀ (l:List Expr) (i:Nat),(∀ x∈l,∃ v,∀ m,fuE x≤m→q8j m x a=some v)→∃ r,∀ m,(∀ x∈l,fuE x≤m)→findL (z0l (q8j m) a) i l ()=some r
 | [],i,_=>⟨.inl (),fun m _=>rfl⟩
 | x::l,i,h=>by
  obtain⟨v,hv⟩:=h x (by simp)
  obtain⟨r,hr⟩:=j5y a l (i+1) fun y hy=>h y (by simp[hy])
  cases v with
  | true=>
   refine⟨r,fun m hm=>?_⟩
   have h1:=hr m fun y hy=>hm y (by simp[hy])
   have h2:z0l (q8j m) a i x ()=some (.inl ()):=by unfold z0l;rw[hv m (hm x (by simp))];rfl
   rw[findL,h2];exact h1
  | false=>
   refine⟨.inr false,fun m hm=>?_⟩
   have h2:z0l (q8j m) a i x ()=some (.inr false):=by unfold z0l;rw[hv m (hm x (by simp))];rfl
   rw[findL,h2];rfl
theorem k4S (e:Expr)(a:Int):∃ v,z6N e a=some v:=by
 have key:∀ e:Expr,∃ v,∀ m,fuE e≤m→q8j m e a=some v:=by
  intro e
  induction e using z1l with
  | h e ih=>
   obtain⟨r,hr⟩:=j5y a e.Args 0 ih
   have:∃ v,∀ m,fuE e≤m+1→z0m (q8j m) e a=some v:=by
    cases r with
    | inl u=>exact⟨_,fun m hm=>by unfold z0m;rw[hr m fun x hx=>by have:=z5z hx;omega];rfl⟩
    | inr q=>exact⟨_,fun m hm=>by unfold z0m;rw[hr m fun x hx=>by have:=z5z hx;omega];rfl⟩
   obtain⟨v,hv⟩:=this
   refine⟨v,fun m hm=>?_⟩
   obtain⟨m,rfl⟩:∃ q,m=q+1:=⟨m-1,by have:=z6v e;omega⟩
   exact hv m hm
 obtain⟨v,hv⟩:=key e
 exact⟨v,z0N (fuE e) hv⟩
def R2 (r:Rule):Prop:=RB r∧szL r.es_≤60000∧szL r.cs_≤200
def GC2 (g:Gm_):Prop:=SBs g.ss_∧1≤g.rs_.length∧g.rs_.length≤8∧∀ r∈g.rs_,R2 r
theorem SB.set {s:Symbol}(h:SB s){x:At_}(hx:x.Name.size≤8):SB ⟨s.Name,Dzz s.as_ 0 x⟩:=by
 refine⟨h.1,by dsimp only;rw[Cxz];exact h.2.1,by dsimp only;rw[Cxz];exact h.2.2.1,fun a ha=>?_⟩
 rcases Fqz ha with ha|ha
 ·exact h.2.2.2 a ha
 ·rw[ha];exact hx
theorem GC2.set {ss:List Symbol}{rs:List Rule}(h:GC2 ⟨ss,rs⟩)(k:Nat){x:Rule}(hx:R2 x):GC2 ⟨ss,rs.set k x⟩:=by
 refine⟨h.1,by dsimp only;rw[Cxz];exact h.2.1,by dsimp only;rw[Cxz];exact h.2.2.1,fun a ha=>?_⟩
 rcases Fqz ha with ha|ha
 ·exact h.2.2.2 a ha
 ·rw[ha];exact hx
section
variable {b:List UInt8}(hb:b.length≤1048576)
include hb
theorem k6P {e:Expr}{n:Nat}(h:Sz.szd e≤n)(hn:n≤1048576)(a:Int):Ok (fun _=>True) (z0X e a):=by
 unfold z0X
 refine .eq (j0n (by have:=k4d hb h;omega)) ?_
 obtain⟨v,hv⟩:=k4S e a
 exact .ite (fun _=>.eq hv (.ret trivial)) fun _=>.ret trivial
theorem k6Q {i h:Int}(hi:0≤i):Dr b (fun r=>RB r∧r.rt_.length≤3∧szL r.es_≤1200∧szL r.cs_≤200) (z7G ⟨b,i,h⟩):=by
 unfold z7G
 refine drK (z5g hb (by simp) (cb hi)) fun y1 i1 h1 hy1 hi1=>?_
 refine drK (z5g hb (by simp) (cb hi1)) fun y2 i2 h2 hy2 hi2=>?_
 refine drK (z0T hb _ (cb hi2)) fun y3 i3 h3 _ hi3=>?_
 refine drK (q5d hb 4 (cb hi3)) fun y4 i4 h4 hy4 hi4=>?_
 have h44:=hy4.2.1 (by omega)
 have h40:=hy4.1
 have n1:y1.size≤8:=by
  simp only[Egz,Cfz,or_false] at hy1
  rcases hy1 with h|h|h<;>subst h<;>(try dsimp only)<;>decide
 have n2:y2.size≤8:=by
  simp only[Egz,Cfz,or_false] at hy2
  rcases hy2 with h|h<;>subst h<;>(try dsimp only)<;>decide
 dsimp only
 refine k0k (fun k (q:List BA_)=>q.length=k∧∀ x∈q,x.size≤8) hi4 ⟨rfl,by simp⟩ (fun j4 q4 i h hj4 hi hq4=>?_) fun q4 i8 h8 hi8 hq4=>?_
 ·unfold j5c
  dsimp only
  refine drK (z5g hb (by simp) (cb hi)) fun z i1 h1 hz hi1=>?_
  refine .grd (by have:=hq4.1;constructor<;>omega) (.ret ⟨hi1,by simp[hq4.1],fun a ha=>?_⟩)
  simp only[Clz,Egz,Cfz,or_false] at ha hz
  rcases ha with ha|ha
  ·exact hq4.2 a ha
  ·rw[ha];rcases hz with h|h|h<;>subst h<;>(try dsimp only)<;>decide
 ·refine drK (q5d hb 4 (cb hi8)) fun y6 i6 h6 hy6 hi6=>?_
  have h64:=hy6.2.1 (by omega)
  dsimp only
  refine k0k (fun k (q:List Eqn)=>q.length≤k∧szL q≤k*400) hi6 ⟨by simp,by simp[szL]⟩ (fun j q i h hj hi hq=>?_) fun q i9 h9 hi9 hq=>?_
  ·have hq1:=hq.1
   have hq2:=hq.2
   unfold j5d
   dsimp only
   refine .bbi (drK (q5d hb 3 (cb hi)) fun y7 i7 h7 hy7 hi7=>?_)
   have h73:=hy7.2.1 (by omega)
   have h70:=hy7.1
   refine .bgr (by constructor<;>omega) (.bbi (drK (k4c hb 2 (by omega) (by omega) (by omega) (cb hi7)) fun e i8 h8 he hi8=>?_))
   have he:Sz.szd e≤320:=he
   refine .bbi (.bind (k6P hb he (by omega) y4) fun v _=>?_)
   refine .bif (fun _=>?_) fun _=>.bso (.ret ⟨hi8,Blz hq1 (Nat.le_succ _),Blz hq2 (Nat.mul_le_mul_right 400 (Nat.le_succ j))⟩)
   refine .bgr (by constructor<;>omega) (.bbi (drK (q5d hb _ (cb hi8)) fun y10 i9 h9 _ hi9=>?_))
   refine .bbi (drK (j9U hb (cb hi9)) fun nm i10 h10 hnm hi10=>?_)
   refine .bgr (by constructor<;>omega) (.bso (.ret ⟨hi10,by dsimp only;simp;omega,?_⟩))
   dsimp only
   rw[j0t,j8I]
   have hnm:nm.size=1:=hnm
   dsimp only
   omega
  ·have hq2:=hq.2
   have hR:RB ⟨y1,y2,q4,y3,q,[]⟩:=⟨n1,n2,by have:=hq4.1;dsimp only;omega,hq4.2⟩
   refine drK (z0T hb _ (cb hi9)) fun y12 i12 h12 _ hi12=>?_
   refine .ite (fun _=>?_) fun _=>⟨_,rfl,⟨hR,by have:=hq4.1;dsimp only;omega,by dsimp only;omega,by simp[szL]⟩,hi12,rfl⟩
   refine drK (q5d hb _ (cb hi12)) fun y13 i13 h13 _ hi13=>?_
   refine .eq rfl ?_
   refine .grd (by simp only[Ekz];constructor<;>omega) ⟨_,rfl,⟨hR,by have:=hq4.1;dsimp only;omega,by dsimp only;omega,?_⟩,hi13,rfl⟩
   dsimp only
   rw[Bwz]
   show 1+Sz.szd (⟨(⟨#[115]⟩:BA_),(⟨#[99]⟩:BA_),_,_⟩:Cn)+0≤200
   rw[k7G,j5p hb,j5p hb,z4n hb]
   decide
theorem k6R {i h:Int}(hi:0≤i):Dr b R2 (z7I ⟨b,i,h⟩):=by
 unfold z7I
 refine drK (k6Q hb hi) fun r i1 h1 hr hi1=>?_
 obtain⟨r1,r2,r3,r4⟩:=hr
 refine drK (q5d hb 12 (cb hi1)) fun y2 i2 h2 _ hi2=>?_
 dsimp only
 refine .ite (fun _=>?_) fun _=>.ite (fun _=>?_) fun _=>.ite (fun _=>?_) fun _=>.ite (fun _=>?_) fun _=>.ite (fun _=>?_) fun _=>?_
 ·refine drK (z5g hb (by simp) (cb hi2)) fun z i3 h3 hz hi3=>⟨_,rfl,⟨⟨?_,r1.2.1,r1.2.2.1,r1.2.2.2⟩,by dsimp only;omega,r4⟩,hi3,rfl⟩
  simp only[Egz,Cfz,or_false] at hz
  rcases hz with h|h|h<;>subst h<;>(try dsimp only)<;>decide
 ·refine .grd (by simp only[lnC,Ekz];constructor<;>omega) ⟨_,rfl,⟨⟨r1.1,r1.2.1,by simp;omega,fun x hx=>?_⟩,by dsimp only;omega,r4⟩,hi2,rfl⟩
  simp only[Clz,Egz,Cfz,or_false] at hx
  rcases hx with h|h|h
  ·exact r1.2.2.2 x h
  ·rw[h];decide
  ·rw[h];decide
 ·refine drK (q5d hb 5 (cb hi2)) fun y4 i4 h4 hy4 hi4=>?_
  have h40:=hy4.1
  have h44:=hy4.2.1 (by omega)
  refine .grd (by constructor<;>omega) ?_
  refine drK (k8D hb (cb hi4)) fun e i5 h5 he hi5=>?_
  have he:Sz.szd e≤30000:=he
  have hl:=q6X r.es_
  refine .grd (by constructor<;>omega) ⟨_,rfl,⟨r1,?_,r4⟩,hi5,rfl⟩
  dsimp only
  rw[j0t,j8I]
  have:(⟨#[97]⟩:BA_).size=1:=rfl
  dsimp only
  omega
 ·exact⟨_,rfl,⟨⟨r1.1,by dsimp only;decide,r1.2.2.1,r1.2.2.2⟩,by dsimp only;omega,r4⟩,hi2,rfl⟩
 ·refine .grd (by constructor<;>omega) ?_
  refine drK (q5d hb _ (cb hi2)) fun y6 i6 h6 hy6 hi6=>?_
  have h60:=hy6.1
  have h61:=hy6.2.1 (by omega)
  refine .grd h60 (.grd (by omega) ⟨_,rfl,⟨⟨r1.1,r1.2.1,by dsimp only;rw[Ccz];omega,fun x hx=>r1.2.2.2 x (Cuz hx)⟩,by dsimp only;omega,r4⟩,hi6,rfl⟩)
 ·exact⟨_,rfl,⟨r1,by dsimp only;omega,r4⟩,hi2,rfl⟩
theorem k6S {i h:Int}(hi:0≤i):Dr b SB (z7J ⟨b,i,h⟩):=by
 unfold z7J
 refine drK (z5g hb (by simp) (cb hi)) fun nm i1 h1 hnm hi1=>?_
 have hnm:nm.size≤8:=by
  simp only[Egz,Cfz,or_false] at hnm
  rcases hnm with h|h|h|h<;>subst h<;>(try dsimp only)<;>decide
 refine drK (k7F hb hnm _ _ hi1) fun s i2 h2 hs hi2=>?_
 refine drK (q5d hb 10 (cb hi2)) fun y3 i3 h3 _ hi3=>?_
 have hl:=hs.2.1
 dsimp only
 refine .ite (fun _=>?_) fun _=>.ite (fun _=>?_) fun _=>.ite (fun _=>?_) fun _=>.ite (fun _=>?_) fun _=>.ite (fun _=>?_) fun _=>?_
 ·exact .get (by omega) fun x hx=>⟨_,rfl,hs.set (by exact hs.2.2.2 x hx),hi3,rfl⟩
 ·exact drK (q5d hb 5 (cb hi3)) fun y4 i4 h4 _ hi4=>.get (by omega) fun x hx=>⟨_,rfl,hs.set (by exact hs.2.2.2 x hx),hi4,rfl⟩
 ·exact drK (q5d hb 6 (cb hi3)) fun y4 i4 h4 _ hi4=>.get (by omega) fun x hx=>⟨_,rfl,hs.set (by exact hs.2.2.2 x hx),hi4,rfl⟩
 ·refine drK (z5g hb (by simp) (cb hi3)) fun z i4 h4 hz hi4=>.get (by omega) fun x hx=>⟨_,rfl,hs.set ?_,hi4,rfl⟩
  simp only[Egz,Cfz,or_false] at hz
  rcases hz with h|h|h<;>subst h<;>(try dsimp only)<;>decide
 ·refine Ok.bind (Q:=fun l:List At_=>1≤l.length∧l.length≤5∧∀ a∈l,a.Name.size≤8) (j6W (P:=fun l:List At_=>1≤l.length∧l.length≤5∧∀ a∈l,a.Name.size≤8) (fun l=>5-l.length) (fun l hl=>?_) _ ⟨hs.2.1,hs.2.2.1,hs.2.2.2⟩) fun l hl=>⟨_,rfl,⟨hs.1,hl.1,hl.2.1,hl.2.2⟩,hi3,rfl⟩
  unfold j5e
  refine .ite (fun h5=>?_) fun _=>.ret hl
  refine .get (by simp;omega) fun x hx=>.grd (by constructor<;>omega) (.ret ⟨⟨by simp,by simp;omega,fun a ha=>?_⟩,by simp;omega⟩)
  simp only[Clz,Egz,Cfz,or_false] at ha hx
  rcases ha with ha|ha
  ·exact hl.2.2 a ha
  ·rw[ha];dsimp only;rcases hx with h|h|h|h|h<;>subst h<;>(try dsimp only)<;>decide
 ·exact⟨_,rfl,hs,hi3,rfl⟩
theorem k4T {i h:Int}(hi:0≤i):Dr b GC2 (z5X ⟨b,i,h⟩):=by
 unfold z5X
 refine drK (z0T hb _ (cb hi)) fun y1 i1 h1 _ hi1=>?_
 refine drK (j8J hb y1 hi1) fun g i2 h2 hg hi2=>?_
 obtain⟨ss,rs⟩:=g
 obtain⟨g1,g2,g3,g4⟩:=hg
 dsimp only at g1 g2 g3 g4
 have hG:GC2 ⟨ss,rs⟩:=⟨g1,g2,g3,fun r hr=>by obtain⟨a,c,d⟩:=g4 r hr;exact⟨a,by omega,d⟩⟩
 refine drK (q5d hb _ (cb hi2)) fun y3 i3 h3 hy3 hi3=>?_
 have h30:=hy3.1
 have h31:=hy3.2.1 (by dsimp only;omega)
 dsimp only at h31
 refine drK (q5d hb 14 (cb hi3)) fun y4 i4 h4 _ hi4=>?_
 have hk:y3.toNat<rs.length:=by omega
 dsimp only
 have same:Ok (fun r:Gm_×L1_=>GC2 r.1∧CB b r.2) (some ((⟨ss,rs⟩:Gm_),(⟨b,i4,h4⟩:L1_))):=⟨_,rfl,hG,hi4,rfl⟩
 refine .ite (fun _=>?_) fun _=>.ite (fun _=>?_) fun _=>.ite (fun _=>?_) fun _=>.ite (fun _=>?_) fun _=>.ite (fun _=>?_) fun _=>.ite (fun _=>?_) fun _=>.ite (fun _=>?_) fun _=>same
 ·exact drK (k6R hb hi4) fun r i5 h5 hr hi5=>.grd h30 (.get hk fun x hx=>⟨_,rfl,hG.set _ hr,hi5,rfl⟩)
 ·refine drK (k6S hb hi4) fun s i5 h5 hs hi5=>.get (by have:=g1.1;omega) fun x hx=>⟨_,rfl,⟨⟨by dsimp only;rw[Cxz];exact g1.1,by dsimp only;rw[Cxz];exact g1.2.1,fun a ha=>?_⟩,g2,g3,hG.2.2.2⟩,hi5,rfl⟩
  rcases Fqz ha with ha|ha
  ·exact g1.2.2 a ha
  ·rw[ha];exact hs
 ·refine .get (by omega) fun x hx=>.grd h30 (.get hk fun r hr=>⟨_,rfl,hG.set _ ?_,hi4,rfl⟩)
  have a:=hG.2.2.2 r hr
  exact⟨⟨(g4 x hx).1.1,a.1.2.1,a.1.2.2.1,a.1.2.2.2⟩,a.2.1,a.2.2⟩
 ·refine .grd h30 (.get hk fun r hr=>.ite (fun h0=>.grd (by omega) ⟨_,rfl,hG.set _ ?_,hi4,rfl⟩) fun _=>same)
  have a:=hG.2.2.2 r hr
  exact⟨a.1,by have:=k4R r.es_;have:=a.2.1;dsimp only;omega,a.2.2⟩
 ·refine .grd h30 (.get hk fun r hr=>.ite (fun h0=>?_) fun _=>same)
  have a:=g4 r hr
  have hl:=q6X r.es_
  have a2:=a.2.1
  refine .get (by omega) fun x hx=>.grd (by constructor<;>omega) ⟨_,rfl,hG.set _ ⟨a.1,?_,a.2.2⟩,hi4,rfl⟩
  have:=j6P hx
  dsimp only
  rw[j0t]
  omega
 ·refine drK (z5g hb (by simp) (cb hi4)) fun z i5 h5 hz hi5=>.grd h30 (.get hk fun r hr=>⟨_,rfl,hG.set _ ?_,hi5,rfl⟩)
  have a:=hG.2.2.2 r hr
  refine⟨⟨a.1.1,?_,a.1.2.2.1,a.1.2.2.2⟩,a.2.1,a.2.2⟩
  simp only[Egz,Cfz,or_false] at hz
  rcases hz with h|h<;>subst h<;>(try dsimp only)<;>decide
 ·refine .grd h30 (.get hk fun r hr=>.ite (fun h0=>?_) fun _=>same)
  refine drK (k4e hb (cb hi4)) fun e i5 h5 he hi5=>?_
  have he:Sz.szd e≤20480:=he
  have a:=g4 r hr
  have a2:=a.2.1
  refine .get (by omega) fun x hx=>⟨_,rfl,hG.set _ ⟨a.1,?_,a.2.2⟩,hi5,rfl⟩
  have h1:=j6P hx
  have h2:=k4Q (⟨x.At,e⟩:Eqn) r.es_ 0
  have h3:Sz.szd x=x.At.Name.size+Sz.szd x.Expr:=j8I x.At x.Expr
  rw[j8I] at h2
  dsimp only
  omega
end
theorem szR {r:Rule}(h:R2 r):Sz.szd r≤60300:=by
 have h1:=j8H (m:=8) h.1.2.2.2
 have:=h.1.2.2.1
 have:=h.1.1
 have:=h.1.2.1
 have:=h.2.1
 have:=h.2.2
 have h9:r.rt_.length*(8+1)≤45:=by omega
 rw[j0j];omega
theorem szS {s:Symbol}(h:SB s):Sz.szd s≤60:=by
 have h1:=j8H (m:=8) (l:=s.as_) fun a ha=>by rw[j6C];exact h.2.2.2 a ha
 have:=h.2.2.1
 have:=h.1
 have h9:s.as_.length*(8+1)≤45:=by omega
 rw[j5j];omega
theorem szG {g:Gm_}(h:GC2 g):Sz.szd g≤1048576:=by
 have h1:=j8H (m:=60) (l:=g.ss_) fun s hs=>szS (h.1.2.2 s hs)
 have h2:=j8H (m:=60300) (l:=g.rs_) fun r hr=>szR (h.2.2.2 r hr)
 have h3:g.ss_.length*(60+1)≤183:=by have:=h.1.2.1;omega
 have h4:g.rs_.length*(60300+1)≤482408:=by have:=h.2.2.1;omega
 rw[z7a];omega
theorem j1h {r:Rl_}(h:Valid r)(i k:Int):Valid (addP r i k):=by
 unfold addP
 by_cases hc:Valid r∧inN r i∧inN r k
 ·rw[ifP hc]
  obtain⟨_,hi,hk⟩:=hc
  unfold j3K
  refine⟨h.1,h.2.1,by dsimp only;rw[Cxz];exact h.2.2.1,fun x hx=>?_⟩
  rcases Fqz hx with hx|hx
  ·exact h.2.2.2 x hx
  ·rw[hx]
   have h1:=h.1
   have hk1:=hk.1
   have hk2:=hk.2
   refine k7D ?_ ?_
   ·unfold z7y
    rw[Ddz]
    cases hq:r.Rows[i.toNat]? with
    | none=>show (0:Int)≤0∧(0:Int)≤((2 ^ r.N.toNat:Nat):Int)-1;have:=Gez r.N.toNat;omega
    | some y=>exact h.2.2.2 y (Ckz hq)
   ·have h2:2 ^ k.toNat<2 ^ r.N.toNat:=Nat.pow_lt_pow_right (by decide) (by omega)
    constructor
    ·exact Eaz _
    ·dsimp only;omega
 ·rw[ifN hc];exact h
theorem k4U {r:Rl_}(h:Valid r)(i k:Int)(a c:Nat):Rl (addP r i k).Rows a c↔Rl r.Rows a c∨(inN r i∧inN r k∧(a:Int)=i∧(c:Int)=k):=by
 unfold addP
 by_cases hc:Valid r∧inN r i∧inN r k
 ·rw[ifP hc]
  obtain⟨_,hi,hk⟩:=hc
  have hi1:=hi.1
  have hi2:=hi.2
  have hk1:=hk.1
  have hl:=h.2.2.1
  unfold j3K Rl
  dsimp only
  rw[Ddz,Chz]
  by_cases e:i.toNat=a
  ·rw[ifP e,ifP (by omega),Dmz,j0o,Nat.testBit_or,tnC,Gfz]
   unfold z7y
   rw[e]
   simp only[Alz,decide_eq_true_eq]
   constructor
   ·rintro (h1|h1)
    ·exact .inl h1
    ·exact .inr ⟨hi,hk,by omega,by omega⟩
   ·rintro (h1|⟨_,_,_,h1⟩)
    ·exact .inl h1
    ·exact .inr (by omega)
  ·rw[ifN e,← Ddz]
   constructor
   ·exact fun h1=>.inl h1
   ·rintro (h1|⟨_,_,h1,_⟩)
    ·exact h1
    ·omega
 ·rw[ifN hc]
  constructor
  ·exact fun h1=>.inl h1
  ·rintro (h1|⟨h1,h2,_⟩)
   ·exact h1
   ·exact absurd ⟨h,h1,h2⟩ hc
def Sub (a b:Rl_):Prop:=Valid a∧Valid b∧a.N=b.N∧∀ i j:Nat,Rl a.Rows i j→Rl b.Rows i j
theorem Sub.refl {a:Rl_}(h:Valid a):Sub a a:=⟨h,h,rfl,fun _ _ h=>h⟩
theorem Sub.trans {a b c:Rl_}(h:Sub a b)(k:Sub b c):Sub a c:=⟨h.1,k.2.1,h.2.2.1.trans k.2.2.1,fun i j x=>k.2.2.2 i j (h.2.2.2 i j x)⟩
theorem Sub.add {a b:Rl_}(h:Sub a b)(i k:Int):Sub a (addP b i k):=
 h.trans ⟨h.2.1,j1h h.2.1 i k,(z8H _ _ _).2.symm,fun x y hx=>(k4U h.2.1 i k x y).2 (.inl hx)⟩
theorem Sub.close {a:Rl_}(h:Valid a):Sub a (q6K a):=by
 refine⟨h,j8x h,(j5s _).2.symm,fun i j hx=>?_⟩
 unfold q6K
 rw[ifP h]
 exact k4h (z8I h).1 _ i j hx
theorem j1i (own:Rl_)(a:Nat)(x:Int):∀ (ys:List Int) (i:Nat) (o:Rl_),Valid o→Sub o (z0f own a x i ys o)
 | [],i,o,h=>Sub.refl h
 | y::ys,i,o,h=>by
  rw[z0f]
  by_cases hp:hasP own (a:Int) (i:Int)
  ·rw[ifP hp];exact ((Sub.refl h).add x y).trans (j1i own a x ys (i+1) _ (j1h h x y))
  ·rw[ifN hp];exact j1i own a x ys (i+1) _ h
theorem j3Z (own:Rl_)(at' : List Int):∀ (xs:List Int) (a:Nat) (o:Rl_),Valid o→Sub o (z1E own at' a xs o)
 | [],a,o,h=>Sub.refl h
 | x::xs,a,o,h=>by
  rw[z1E]
  have h1:=j1i own a x at' 0 o h
  exact h1.trans (j3Z own at' xs (a+1) _ h1.2.1)
theorem k0l {n:Int}(h0:0≤n)(h1:n≤16):Valid ⟨n,Cbz n.toNat 0⟩:=by
 refine⟨h0,h1,by simp;omega,fun x hx=>?_⟩
 have:=(List.mem_replicate.1 hx).2
 have h2:=Gez n.toNat
 dsimp only
 omega
theorem k4V (g:Gm_)(r:Rule)(pos:Int)(own:Rl_){o:Rl_}(h:Valid o):Sub o (z7r g r o pos own):=j3Z own _ _ 0 o h
noncomputable def indL (g:Gm_) (r:Rule) (all:BA_→Rl_):Nat→Nat→Rl_→Rl_
 | 0,_,o=>o
 | m+1,pos,o=>indL g r all m (pos+1) (z7r g r o (pos:Int) (all (q6k r (pos:Int))))
noncomputable def indR (g:Gm_) (r:Rule) (all:BA_→Rl_):Rl_:=q6K (indL g r all (r.rt_.length+1) 0 (locR g r))
theorem k1s (g:Gm_)(r:Rule)(all:BA_→Rl_):∀ (m pos:Nat) (o:Rl_),Valid o→Sub o (indL g r all m pos o)
 | 0,pos,o,h=>Sub.refl h
 | m+1,pos,o,h=>by
  rw[indL]
  have h1:=k4V g r (pos:Int) (all (q6k r (pos:Int))) h
  exact h1.trans (k1s g r all m (pos+1) _ h1.2.1)
theorem j5z {α:Type}{nm:α→BA_}{xs:List α}(h:j9X nm xs=true):xs.Pairwise fun a b=>nm a≠nm b:=by
 unfold j9X at h
 rw[Option.isNone_iff_eq_none] at h
 rw[Frz]
 intro i j hi hj hij he
 have h1:=z4y xs [] h j xs[j] (Auz hj)
 unfold dupB at h1
 rw[Bwz,Epz] at h1
 exact h1 xs[i] (List.mem_take_iff_getElem.2 ⟨i,by omega,rfl⟩) (by simpa using he)
theorem j4a {y:Symbol}(h:symB y=true){a:At_}(ha:a∈y.as_):z3Q y a.Name=(a,true):=by
 unfold symB at h
 simp only[Akz] at h
 have hd:=j5z h.2.2.2
 unfold z3Q
 cases hf:y.as_.find? (fun b=>decide (b.Name=a.Name)) with
 | none=>rw[List.find?_eq_none] at hf;exact absurd (by simp) (hf a ha)
 | some b=>
  have hb:=Erz hf
  have he:b.Name=a.Name:=by simpa using Fsz hf
  have:b=a:=by
   rcases Ftz hb with ⟨i,hi,rfl⟩
   rcases Ftz ha with ⟨j,hj,rfl⟩
   rw[Frz] at hd
   rcases Ggz i j with h|h|h
   ·exact absurd he (hd i j hi hj h)
   ·subst h;rfl
   ·exact absurd he.symm (hd j i hj hi h)
  rw[this]
theorem k2M {g:Gm_}{r:Rule}{k:Nat}(h:symB (q7i g (q6k r (k:Int))).1=true):(reqK g r k).Nodup:=by
 unfold symB at h
 simp only[Akz] at h
 have hd:=j5z h.2.2.2
 unfold reqK
 rw[List.Nodup,List.pairwise_map]
 refine (hd.filter _).imp fun {a b} hab he=>hab ?_
 injection he
theorem Shape.find {g:Gm_}(h:Shape g){r:Rule}(hr:r∈g.rs_){k:Nat}(hk:k<r.rt_.length+1):Go.Proofs.YtppbkkcekpbaiaaGreat.symB (q7i g (q6k r (k:Int))).1=true:=by
 have hb:=h.brk 3 (by omega) (by omega) r hr
 unfold z5k at hb
 rw[ifP rfl] at hb
 simp only[Gjz] at hb
 unfold j3U at hb
 rw[Exz] at hb
 have h1:=hb k (by rw[Fuz];omega)
 unfold q7i at h1 ⊢
 cases hf:g.ss_.find? (fun y=>decide (y.Name=q6k r (k:Int))) with
 | none=>rw[hf] at h1;cases h1
 | some y=>exact h.symB (Erz hf)
theorem Shape.req_nodup {g:Gm_}(h:Shape g){r:Rule}(hr:r∈g.rs_):(reqL g r).Nodup:=by
 unfold reqL
 rw[List.Nodup,List.pairwise_flatMap]
 refine⟨fun k hk=>k2M (h.find hr (by rw[Fuz] at hk;omega)),?_⟩
 have hp:(Dxz 0 (r.rt_.length+1)).Pairwise (·≠·):=List.nodup_range'
 refine hp.imp fun {a b} hab x hx y hy he=>hab ?_
 unfold reqK at hx hy
 obtain⟨_,_,rfl⟩:=List.mem_map.1 hx
 obtain⟨_,_,rfl⟩:=List.mem_map.1 hy
 injection he with e
 omega
theorem Shape.may {g:Gm_}(h:Shape g){r:Rule}(hr:r∈g.rs_){q:Eqn}(hq:q∈r.es_){u:Oc}(hu:u∈Go.Proofs.YtppbkkcekpbaiaaGreat.attrs q.Expr):mayB g r u=true∧u∉reqL g r:=by
 have hb:=h.brk 6 (by omega) (by omega) r hr
 unfold z5k at hb
 rw[ifN (by omega),ifN (by omega),ifN (by omega)] at hb
 unfold misB at hb
 simp only[Gjz] at hb
 rw[Exz] at hb
 have h1:=hb q.Expr (by unfold z5B;rw[Clz];exact .inl (List.mem_map.2 ⟨q,hq,rfl⟩))
 unfold useB at h1
 rw[Exz] at h1
 have hm:=h1 u hu
 refine⟨hm,fun hi=>?_⟩
 unfold reqL at hi
 obtain⟨k,hk,hi⟩:=List.mem_flatMap.1 hi
 rw[Fuz] at hk
 unfold reqK at hi
 obtain⟨a,ha,rfl⟩:=List.mem_map.1 hi
 rw[List.mem_filter] at ha
 have hs:=h.find hr (k:=k) (by omega)
 unfold mayB z2x at hm
 rw[ifP (by dsimp only;omega)] at hm
 dsimp only at hm
 rw[j4a hs ha.1] at hm
 have h2:=ha.2
 simp only[decide_eq_true_eq,Akz] at h2 hm
 rw[h2] at hm
 by_cases h0:(k:Int)=0
 ·rw[ifP h0,ifP h0] at hm;omega
 ·rw[ifN h0,ifN h0] at hm;omega
theorem k9R (l:List Oc)(o:Oc):q5S l o=some (ixF l o):=by
 have h:q4a l o=some (ixF l o):=by
  unfold q4a
  refine j3F fun k x=>⟨fun e=>?_,fun e=>?_⟩
  ·unfold q3U;rw[ifP e.symm]
  ·unfold q3U;rw[ifN (fun h=>e h.symm)]
 unfold q5S
 rw[h];rfl
theorem k9S {l:List Oc}{u:Oc}{a:Nat}(h:(a:Int)=ixF l u):l[a]?=some u:=by
 unfold ixF at h
 by_cases hm:u∈l
 ·rw[ifP hm] at h
  obtain rfl:a=l.idxOf u:=by omega
  have hl:=List.idxOf_lt_length_of_mem hm
  rw[Auz hl,List.getElem_idxOf]
 ·rw[ifN hm] at h;omega
theorem k9T {l:List Oc}{u:Oc}{a:Nat}(h:(a:Int)=ixF l u):a<l.length:=(List.getElem?_eq_some_iff.1 (k9S h)).1
theorem k7H (l:List Oc)(k:Nat)(hk:k<l.length):∀ (us:List Oc) (i:Nat) (o:Rl_),Valid o→o.N=(l.length:Int) →
  ∃ o',eachL (q6Z l k) i us (o.Rows,o.N)=some (o'.Rows,o'.N)∧Valid o'∧o'.N=o.N∧∀ a c:Nat,Rl o'.Rows a c↔Rl o.Rows a c∨(c=k∧∃ u∈us,(a:Int)=ixF l u)
 | [],i,o,hv,hN=>⟨o,rfl,hv,rfl,fun a c=>by simp⟩
 | u::us,i,o,hv,hN=>by
  have hlen:o.Rows.length≤1048576:=by have:=hv.2.1;have:=hv.2.2.1;omega
  have e:q6Z l k i u (o.Rows,o.N)=some ((addP o (ixF l u) (k:Int)).Rows,(addP o (ixF l u) (k:Int)).N):=by
   unfold q6Z
   dsimp only
   rw[k9R,bsS,j6N,k1c hlen,bsS]
  obtain⟨o',h1,h2,h3,h4⟩:=k7H l k hk us (i+1) (addP o (ixF l u) (k:Int)) (j1h hv _ _) ((z8H _ _ _).2.trans hN)
  refine⟨o',by rw[eachL,e,bsS];exact h1,h2,h3.trans (z8H _ _ _).2,fun a c=>?_⟩
  rw[h4,k4U hv]
  have hin:(a:Int)=ixF l u→inN o (ixF l u):=fun h=>⟨by omega,by have:=k9T h;omega⟩
  constructor
  ·rintro ((h|⟨_,_,h1,h2⟩)|⟨h1,u',hu,h2⟩)
   ·exact .inl h
   ·exact .inr ⟨by omega,u,by simp,h1⟩
   ·exact .inr ⟨h1,u',by simp[hu],h2⟩
  ·rintro (h|⟨h1,u',hu,h2⟩)
   ·exact .inl (.inl h)
   ·rcases List.mem_cons.1 hu with rfl|hu
    ·exact .inl (.inr ⟨hin h2,⟨by omega,by omega⟩,h2,by omega⟩)
    ·exact .inr ⟨h1,u',hu,h2⟩
theorem k4W {r:Rule}(hr:Sz.szd r≤1048576)(l:List Oc):∀ (m k:Nat) (o:Rl_),k+m=l.length→Valid o→o.N=(l.length:Int) →
  ∃ o',eachL (q7a r l) k (l.drop k) (o.Rows,o.N)=some (o'.Rows,o'.N)∧Valid o'∧o'.N=o.N∧∀ a c:Nat,Rl o'.Rows a c↔Rl o.Rows a c∨(k≤c∧∃ x,l[c]?=some x∧∃ u∈attrs (eqAt r x).1,(a:Int)=ixF l u)
 | 0,k,o,hk,hv,hN=>by
  refine⟨o,by rw[Enz (by omega)];rfl,hv,rfl,fun a c=>⟨.inl,?_⟩⟩
  rintro (h|⟨h1,x,h2,_⟩)
  ·exact h
  ·have:=(List.getElem?_eq_some_iff.1 h2).1;omega
 | m+1,k,o,hk,hv,hN=>by
  have hk' : k<l.length:=by omega
  have hsz:=j6Q hr l[k]
  have hf:=j9W hr l[k]
  obtain⟨o1,h1,h2,h3,h4⟩:=k7H l k hk' (attrs (eqAt r l[k]).1) 0 o hv hN
  obtain⟨o',k1,k2,k3,k4⟩:=k4W hr l m (k+1) o1 (by omega) h2 (h3.trans hN)
  have e1:q7a r l k l[k] (o.Rows,o.N)=some (o1.Rows,o1.N):=by
   unfold q7a
   dsimp only
   generalize eqAt r l[k]=z at hsz hf h1
   obtain⟨E,B⟩:=z
   rw[hf.2,bsS]
   dsimp only
   rw[j2o hsz,bsS,h1];rfl
  refine⟨o',by rw[Dbz hk',eachL,e1,bsS];exact k1,k2,k3.trans h3,fun a c=>?_⟩
  rw[k4,h4]
  constructor
  ·rintro ((h|⟨rfl,u,hu,h⟩)|⟨hc,h⟩)
   ·exact .inl h
   ·exact .inr ⟨Adz _,l[c],Auz hk',u,hu,h⟩
   ·exact .inr ⟨by omega,h⟩
  ·rintro (h|⟨hc,x,hx,u,hu,h⟩)
   ·exact .inl (.inl h)
   ·by_cases hck:c=k
    ·subst hck
     rw[Auz hk'] at hx
     cases hx
     exact .inl (.inr ⟨rfl,u,hu,h⟩)
    ·exact .inr ⟨by omega,x,hx,u,hu,h⟩
theorem k4X (n i j:Nat):¬ Rl (Cbz n 0) i j:=by
 unfold Rl
 rw[Ddz,Fvz]
 split<;>simp
theorem k4Y {g:Gm_}{r:Rule}(hg:Sz.szd g≤1048576)(hr:Sz.szd r≤1048576)(hl:(occL g r).length≤16):Valid (locR g r)∧(locR g r).N=((occL g r).length:Int) ∧
  ∀ a c:Nat,Rl (locR g r).Rows a c↔∃ x,(occL g r)[c]?=some x∧∃ u∈attrs (eqAt r x).1,(a:Int)=ixF (occL g r) u:=by
 have h:=(k7E hg hr).2.1
 unfold q7B at h
 rw[k0i (q7T hg) (q5e hr),bsS,z8G,j2q (by omega) (by omega),bsS,ifN (by omega)] at h
 obtain⟨o',h1,h2,h3,h4⟩:=k4W hr (occL g r) (occL g r).length 0 ⟨((occL g r).length:Int),Cbz (((occL g r).length:Int)).toNat 0⟩ (by omega) (k0l (by omega) (by omega)) rfl
 rw[Fwz] at h1
 rw[h1,bsS] at h
 have e:locR g r=o':=(Option.some.inj h).symm
 rw[e]
 refine⟨h2,h3,fun a c=>?_⟩
 rw[h4]
 constructor
 ·rintro (h|⟨_,h⟩)
  ·exact absurd h (k4X _ _ _)
  ·exact h
 ·exact fun h=>.inr ⟨Aiz _,h⟩
theorem j6Y {α β:Type}{p:α→Bool}{g:α→β}{B:Nat}{f:Nat→α→List β→Option (List β)}:∀ (xs:List α) (i:Nat) (s:List β),(∀ k x s,x∈xs→s.length<B→f k x s=some (if p x=true then s++[g x] else s))→s.length+xs.length≤B →
  eachL f i xs s=some (s++(xs.filter p).map g)
 | [],i,s,_,_=>by simp[eachL]
 | x::xs,i,s,hf,h=>by
  simp only[lnC] at h
  by_cases hp:p x=true
  ·have ih:=j6Y xs (i+1) (s++[g x]) (fun k y s hy=>hf k y s (by simp[hy])) (by simp;omega)
   simp[eachL,hf i x s (by simp) (by omega),hp,ih]
  ·have ih:=j6Y xs (i+1) s (fun k y s hy=>hf k y s (by simp[hy])) (by omega)
   simp[eachL,hf i x s (by simp) (by omega),hp,ih]
theorem k1t {α β:Type}{g:α→β}{B:Nat}{f:Nat→α→List β→Option (List β)}(xs:List α)(i:Nat)(s:List β)(hf:∀ k x s,x∈xs→s.length<B→f k x s=some (s++[g x]))(h:s.length+xs.length≤B) :
  eachL f i xs s=some (s++xs.map g):=by
 have:=j6Y (p:=fun _=>true) (g:=g) (B:=B) (f:=f) xs i s (fun k x s hx hs=>by rw[hf k x s hx hs,ifP rfl]) h
 rw[this];congr 2;congr 1;simp
theorem k6T {g:Gm_}{n:BA_}(h:(q7i g n).2=true):∃ j y,atS g n=some j∧g.ss_[j]?=some y∧q7i g n=(y,true)∧y.Name=n:=by
 unfold q7i at h ⊢
 cases hf:g.ss_.find? fun y=>decide (y.Name=n) with
 | none=>rw[hf] at h;cases h
 | some y=>
  have hn:y.Name=n:=by simpa using Fsz (p:=fun y:Symbol=>decide (y.Name=n)) hf
  unfold atS
  cases he:g.ss_.findIdx? fun y=>decide (y.Name=n) with
  | none=>
   rw[List.findIdx?_eq_none_iff] at he
   have:=he y (Erz hf)
   simp[hn] at this
  | some j=>
   refine⟨j,y,rfl,?_,rfl,hn⟩
   rw[List.findIdx?_eq_some_iff_getElem] at he
   obtain⟨hj,h1,h2⟩:=he
   rw[List.find?_eq_some_iff_getElem] at hf
   obtain⟨_,i,hi,hy,h3⟩:=hf
   have:i=j:=by
    rcases Ggz i j with hlt|heq|hgt
    ·have:=h2 i hlt;rw[hy] at this;simp[hn] at this
    ·exact heq
    ·have:=h3 j hgt;simp at this;simp at h1;exact absurd h1 this
   subst this
   rw[Auz hi,hy]
theorem Shape.known {g:Gm_}(h:Shape g){r:Rule}(hr:r∈g.rs_){k:Nat}(hk:k≤r.rt_.length):(q7i g (q6k r (k:Int))).2=true:=by
 have h3:=h.brk 3 (by omega) (by omega) r hr
 unfold z5k at h3
 rw[ifP rfl,Gjz] at h3
 unfold j3U at h3
 rw[Exz] at h3
 exact h3 k (by rw[Fuz];omega)
theorem Shape.right {g:Gm_}(h:Shape g){r:Rule}(hr:r∈g.rs_){n:BA_}(hn:n∈r.rt_):(q7i g n).2=true:=by
 obtain⟨k,hk⟩:=Eqz hn
 have hlt:=(List.getElem?_eq_some_iff.1 hk).1
 have:=h.known hr (k:=k+1) (by omega)
 rwa[k0j hk] at this
theorem Shape.left {g:Gm_}(h:Shape g){r:Rule}(hr:r∈g.rs_):(q7i g r.Left).2=true:=by
 have:=h.known hr (k:=0) (by omega)
 unfold q6k at this
 rwa[ifP (by rfl)] at this
theorem Shape.attrs {g:Gm_}(h:Shape g){y:Symbol}(hy:y∈g.ss_):y.as_.length≤4:=by
 have:=h.symB hy
 unfold Go.Proofs.YtppbkkcekpbaiaaGreat.symB at this
 simp only[Akz,decide_eq_true_eq] at this
 exact this.2.2.1
theorem Shape.plain {g:Gm_}(h:Shape g)(n:BA_):(q5C g n).length≤4:=by
 refine Blz (Euz _ _) ?_
 unfold q7i
 cases hf:g.ss_.find? fun y=>decide (y.Name=n) with
 | none=>simp[zS]
 | some y=>exact h.attrs (Erz hf)
theorem k1u (g:Gm_)(n:BA_):q7g g n=some (atI g n):=by
 unfold q7g q4t atI atS
 rw[j0r (q:=fun y:Symbol=>decide (y.Name=n)) (c:=fun k=>(k:Int)) fun j x hx=>by
  unfold q4V q9K
  rw[bsS,← apply_ite some]]
 cases g.ss_.findIdx? fun y=>decide (y.Name=n) with
 | none=>rfl
 | some j=>dsimp only;rw[Ahz];rfl
def Inv (g:Gm_)(all:List Rl_):Prop:=all.length=g.ss_.length∧∀ (k:Nat) (y:Symbol) (a:Rl_),g.ss_[k]?=some y→all[k]?=some a→Valid a∧a.N=((q5C g y.Name).length:Int)
def zR:Rl_:=⟨0,[]⟩
def q7U (g:Gm_)(all:List Rl_)(n:BA_):Rl_:=all.getD ((atS g n).getD 0) zR
theorem Inv.at_ {g:Gm_}{all:List Rl_}(h:Inv g all){n:BA_}(hn:(q7i g n).2=true):∃ j,atS g n=some j∧j<g.ss_.length∧all[j]?=some (q7U g all n)∧Valid (q7U g all n)∧(q7U g all n).N=((q5C g n).length:Int):=by
 obtain⟨j,y,h1,h2,h3,h4⟩:=k6T hn
 have hj:=(List.getElem?_eq_some_iff.1 h2).1
 have e:all[j]?=some (q7U g all n):=by
  unfold q7U
  rw[h1,Dmz,Ddz,Auz (by rw[h.1];exact hj)];rfl
 have:=h.2 j y _ h2 e
 rw[h4] at this
 exact⟨j,h1,hj,e,this⟩
theorem j4b {g:Gm_}(hS:Shape g){r:Rule}(hr:r∈g.rs_):r.rt_.length≤3:=by
 have:=hS.ruleB hr
 unfold Go.Proofs.YtppbkkcekpbaiaaGreat.ruleB at this
 simp only[Akz,decide_eq_true_eq] at this
 exact this.2.1.1
def sumA (all:List Rl_):Nat:=(all.map sumR).sum
theorem k1v:∀ (all:List Rl_) (k:Nat) (x a:Rl_),all[k]?=some a→sumA (all.set k x)+sumR a=sumA all+sumR x
 | [],k,x,a,h=>by simp at h
 | b::all,0,x,a,h=>by simp at h;subst h;unfold sumA;simp;omega
 | b::all,k+1,x,a,h=>by
  have ih:=k1v all k x a (by simpa using h)
  unfold sumA at ih ⊢
  simp only[Cqz,List.map_cons,List.sum_cons];omega
theorem Inv.bound {g:Gm_}{all:List Rl_}(h:Inv g all):sumA all≤all.length*(16*65535):=by
 have key:∀ l:List Rl_,(∀ a∈l,Valid a)→sumA l≤l.length*(16*65535):=by
  intro l
  induction l with
  | nil=>intro _;simp[sumA]
  | cons a l ih=>
   intro hv
   have h1:=k4H (hv a (by simp))
   have h2:=ih fun b hb=>hv b (by simp[hb])
   unfold sumA at h2 ⊢
   simp only[List.map_cons,List.sum_cons,lnC]
   omega
 refine key all fun a ha=>?_
 obtain⟨k,hk⟩:=Eqz ha
 have hlt:=(List.getElem?_eq_some_iff.1 hk).1
 exact (h.2 k _ a (Auz (by rw[← h.1];exact hlt)) hk).1
theorem Valid.len {a:Rl_}(h:Valid a):a.Rows.length≤16:=by have:=h.2.2.1;have:=h.2.1;omega
def j1K (g:Gm_):List Rl_:=g.ss_.map fun y=>⟨((q5C g y.Name).length:Int),Cbz (q5C g y.Name).length 0⟩
theorem k4Z {g:Gm_}(hS:Shape g):Inv g (j1K g):=by
 refine⟨by unfold j1K;simp,fun k y a hk ha=>?_⟩
 unfold j1K at ha
 rw[List.getElem?_map,hk] at ha
 cases ha
 have h4:=hS.plain y.Name
 refine⟨⟨by show (0:Int)≤((q5C g y.Name).length:Int);omega,by show ((q5C g y.Name).length:Int)≤16;omega,by simp,fun x hx=>?_⟩,rfl⟩
 rw[Fxz] at hx
 have:=Nat.one_le_two_pow (n:=((q5C g y.Name).length:Int).toNat)
 show 0≤x∧x≤((2 ^ ((q5C g y.Name).length:Int).toNat:Nat):Int)-1
 omega
theorem j4c {g:Gm_}(h0:Sz.szd g≤1048576)(hS:Shape g):q9c g=some (j1K g):=by
 have hl:=hS.syms
 unfold q9c j1K
 rw[k1t (g:=fun y:Symbol=>(⟨((q5C g y.Name).length:Int),Cbz (q5C g y.Name).length 0⟩:Rl_)) (B:=1048576) g.ss_ 0 [] (fun k y s hy hs=>by
  unfold z5q
  have:=hS.plain y.Name
  rw[z6C (q7T h0),bsS,z8G,j2q (by omega) (by omega),bsS,q3M (by constructor<;>omega),tnC]) (by simp;omega)]
 simp
theorem k2N {n:Int}{s:List Int}(h0:0≤n)(h1:n≤16)(h:z5h n.toNat s):Valid ⟨n,s⟩:=by
 have hl:=h.1
 refine⟨h0,h1,by show (s.length:Int)=n;omega,fun x hx=>?_⟩
 have:=h.2 x hx
 have:=j6M n
 exact⟨(h.2 x hx).1,by show x≤((2 ^ n.toNat:Nat):Int)-1;omega⟩
theorem k2O {p:Rl_}{l:List Int}(hl:l.length≤16)(k1:Nat)(x1:Int){f:Nat→Int→List Int→Option (List Int)}(hf:∀ k2 x2 s2,f k2 x2 s2=((q8G p x1 x2).bind fun y3=>if y3=true then ((s2[k1]?).bind fun x3=>grd (0≤(k2:Int)∧(k2:Int)<63) <| grd (0≤x3∧0≤((2 ^ (k2:Int).toNat:Nat):Int)) <| some (Dzz s2 k1 ((x3.toNat ||| ((2 ^ (k2:Int).toNat:Nat):Int).toNat:Nat):Int))) else some s2).bind fun s3=>some s3)
  {s:List Int} {v:Int} (hs:s[k1]?=some v) (hv:0≤v) :
  ∃ y:Int,eachL f 0 l s=some (s.set k1 y)∧0≤y∧∀ n,y.toNat.testBit n=true↔v.toNat.testBit n=true∨∃ x2,l[n]?=some x2∧hasP p x1 x2:=by
 have hk1:=(List.getElem?_eq_some_iff.1 hs).1
 have key:∀ (m k:Nat) (v:Int),k+m=l.length→0≤v→∃ y:Int,eachL f k (l.drop k) (s.set k1 v)=some (s.set k1 y)∧0≤y∧∀ n,y.toNat.testBit n=true↔v.toNat.testBit n=true∨(k≤n∧∃ x2,l[n]?=some x2∧hasP p x1 x2):=by
  intro m
  induction m with
  | zero=>
   intro k v hk hv
   refine⟨v,by rw[Enz (by omega)];rfl,hv,fun n=>⟨.inl,fun h=>h.elim id fun ⟨h1,x2,h2,_⟩=>?_⟩⟩
   rw[Bfz (by omega)] at h2;cases h2
  | succ m ih=>
   intro k v hk hv
   obtain⟨x2,hx2⟩:∃ x2,l[k]?=some x2:=⟨_,Auz (by omega)⟩
   have hd:l.drop k=x2::l.drop (k+1):=by
    rw[Dbz (by omega)]
    have:l[k]=x2:=by rw[Auz (by omega)] at hx2;exact Option.some.inj hx2
    rw[this]
   have hsv:(s.set k1 v)[k1]?=some v:=by rw[Chz];simp[hk1]
   by_cases hp:hasP p x1 x2
   ·have e:f k x2 (s.set k1 v)=some (s.set k1 (orI v ((2 ^ k:Nat):Int))):=by
     rw[hf,q9F,bsS,ifP (by simpa using hp),hsv,bsS,q3M (by constructor<;>omega),q3M ⟨hv,Eaz _⟩,bsS,List.set_set]
     rfl
    obtain⟨y,h1,h2,h3⟩:=ih (k+1) (orI v ((2 ^ k:Nat):Int)) (by omega) (j5r _ _)
    refine⟨y,by rw[hd];simp only[eachL,e,bsS];exact h1,h2,fun n=>?_⟩
    rw[h3,j0o,Nat.testBit_or,tnC,Gfz,Alz,decide_eq_true_iff]
    constructor
    ·rintro ((h|h)|⟨h,h'⟩)
     ·exact .inl h
     ·subst h;exact .inr ⟨Adz _,x2,hx2,hp⟩
     ·exact .inr ⟨by omega,h'⟩
    ·rintro (h|⟨h,h'⟩)
     ·exact .inl (.inl h)
     ·by_cases hn:k=n
      ·exact .inl (.inr hn)
      ·exact .inr ⟨by omega,h'⟩
   ·have e:f k x2 (s.set k1 v)=some (s.set k1 v):=by
     rw[hf,q9F,bsS,ifN (by simpa using hp),bsS]
    obtain⟨y,h1,h2,h3⟩:=ih (k+1) v (by omega) hv
    refine⟨y,by rw[hd];simp only[eachL,e,bsS];exact h1,h2,fun n=>?_⟩
    rw[h3]
    constructor
    ·rintro (h|⟨h,h'⟩)
     ·exact .inl h
     ·exact .inr ⟨by omega,h'⟩
    ·rintro (h|⟨h,x3,h4,h5⟩)
     ·exact .inl h
     ·by_cases hn:k=n
      ·subst hn;rw[hx2] at h4;cases h4;exact absurd h5 hp
      ·exact .inr ⟨by omega,x3,h4,h5⟩
 obtain⟨y,h1,h2,h3⟩:=key l.length 0 v (by omega) hv
 have e0:s.set k1 v=s:=by
  apply Cnz
  intro q
  rw[Chz]
  by_cases hq:k1=q
  ·subst hq;rw[ifP rfl,ifP hk1,hs]
  ·rw[ifN hq]
 rw[Fwz,e0] at h1
 exact⟨y,h1,h2,fun n=>by rw[h3];simp⟩
theorem j8K:q8K=q5V:=by
 funext p l
 unfold q8K q5V
 rw[z1C,q7d,z8G]
 have e:z1s p l=q7b p l:=by
  funext k x s
  unfold z1s q7b
  have e2:z1r p k x=q9y p k x:=by
   funext k2 x2 s2
   unfold z1r q9y
   rw[k6n]
  rw[e2]
 rw[e]
theorem j8L {p:Rl_}(hp:Valid p){l:List Int}(hl:l.length≤16):∃ q,q5V p l=some q∧Valid q∧q.N=l.length∧∀ (m n:Nat) (x y:Int),l[m]?=some x→l[n]?=some y→(hasP q (m:Int) (n:Int)↔hasP p x y):=by
 have key:∀ (m k:Nat) (s:List Int),k+m=l.length→z5h l.length s→(∀ i,k≤i→i<l.length→s[i]?=some 0)→(∀ i x,i<k→l[i]?=some x→∀ n,Rl s i n↔∃ y,l[n]?=some y∧hasP p x y) →
   ∃ s',eachL (q7b p l) k (l.drop k) s=some s'∧z5h l.length s'∧∀ i x,l[i]?=some x→∀ n,Rl s' i n↔∃ y,l[n]?=some y∧hasP p x y:=by
  intro m
  induction m with
  | zero=>
   intro k s hk hok _ h
   exact⟨s,by rw[Enz (by omega)];rfl,hok,fun i x hx=>h i x (by have:=(List.getElem?_eq_some_iff.1 hx).1;omega) hx⟩
  | succ m ih=>
   intro k s hk hok h0 h
   obtain⟨x,hx⟩:∃ x,l[k]?=some x:=⟨_,Auz (by omega)⟩
   have hd:l.drop k=x::l.drop (k+1):=by
    rw[Dbz (by omega)]
    have:l[k]=x:=by rw[Auz (by omega)] at hx;exact Option.some.inj hx
    rw[this]
   obtain⟨y,h1,h2,h3⟩:=k2O (p:=p) hl k x (f:=q9y p k x) (fun _ _ _=>rfl) (h0 k (Adz _) (by omega)) (Giz _)
   have e:q7b p l k x s=some (s.set k y):=by
    unfold q7b;rw[h1];rfl
   have hks:k<s.length:=by rw[hok.1];omega
   have hget:∀ i,(s.set k y)[i]?=if k=i then some y else s[i]?:=fun i=>by
    rw[Chz]
    by_cases hi:k=i
    ·subst hi;simp[hks]
    ·simp[hi]
   have hylt:y.toNat<2 ^ l.length:=by
    apply Nat.lt_pow_two_of_testBit
    intro n hn
    cases hb:y.toNat.testBit n with
    | false=>rfl
    | true=>
     rcases (h3 n).1 hb with h4|⟨x2,h4,_⟩
     ·simp at h4
     ·rw[Bfz (by omega)] at h4;cases h4
   have hok' : z5h l.length (s.set k y):=by
    refine⟨by rw[Cxz];exact hok.1,fun z hz=>?_⟩
    rcases Fqz hz with h4|h4
    ·exact hok.2 z h4
    ·subst h4;exact⟨h2,hylt⟩
   obtain⟨s',k1,k2,k3⟩:=ih (k+1) (s.set k y) (by omega) hok' (fun i hi hil=>by rw[hget,ifN (by omega)];exact h0 i (by omega) hil) (fun i x' hi hx' n=>by
    by_cases hik:k=i
    ·subst hik
     rw[hx] at hx';cases hx'
     have:(s.set k y).getD k 0=y:=by rw[Ddz,hget,ifP rfl];rfl
     unfold Rl
     rw[this,h3];simp
    ·have:(s.set k y).getD i 0=s.getD i 0:=by rw[Ddz,hget,ifN hik,Ddz]
     have h5:=h i x' (by omega) hx' n
     unfold Rl at h5 ⊢
     rw[this];exact h5)
   exact⟨s',by rw[hd];simp only[eachL,e,bsS];exact k1,k2,k3⟩
 obtain⟨s',h1,h2,h3⟩:=key l.length 0 (Cbz l.length 0) (by omega) ⟨by simp,fun x hx=>by
  rw[Fxz] at hx;rw[hx.2];exact⟨Giz _,Gez _⟩⟩ (fun i _ hi=>by rw[Fvz,ifP hi]) (fun i x hi=>absurd hi (Ghz _))
 have hv:Valid ⟨(l.length:Int),s'⟩:=k2N (Eaz _) (by omega) (by rw[tnC];exact h2)
 refine⟨⟨(l.length:Int),s'⟩,?_,hv,rfl,fun m n x y hx hy=>?_⟩
 ·unfold q5V
  rw[q7d,bsS,ifP (by simpa using hp),ifN (by omega),j2q (Eaz _) (by omega),bsS]
  dsimp only
  rw[tnC]
  rw[Fwz] at h1
  rw[h1];rfl
 ·rw[k8G hv,h3 m x hx n]
  constructor
  ·rintro⟨y',h4,h5⟩
   rw[hy] at h4;cases h4;exact h5
  ·intro h;exact⟨y,hy,h⟩
noncomputable def j6Z (x:Rl_) (l:List Int):Rl_:=(q5V x l).getD ⟨0,[]⟩
theorem k6U {x:Rl_}(hx:Valid x){l:List Int}(hl:l.length≤16):q5V x l=some (j6Z x l)∧Valid (j6Z x l)∧(j6Z x l).N=(l.length:Int)∧∀ (m n:Nat) (a b:Int),l[m]?=some a→l[n]?=some b→(hasP (j6Z x l) (m:Int) (n:Int)↔hasP x a b):=by
 obtain⟨q,h1,h2,h3,h4⟩:=j8L hx hl
 unfold j6Z
 rw[h1]
 exact⟨rfl,h2,h3,h4⟩
theorem Shape.occ16 {g:Gm_}(h:Shape g){r:Rule}(hr:r∈g.rs_):(occL g r).length≤16:=by
 have h3:=j4b h hr
 have:=j0s (C:=4) (f:=occK g r) (fun k=>by unfold occK;rw[lnM];exact h.plain _) (Dxz 0 (r.rt_.length+1))
 rw[Fpz] at this
 unfold occL
 omega
theorem k6V (g:Gm_)(r:Rule)(o:Rl_)(pos:Int)(own:Rl_):(z7r g r o pos own).N=o.N:=(z9t own _ _ 0 o).2
theorem k5a (g:Gm_)(r:Rule)(all:BA_→Rl_):∀ (m pos:Nat) (o:Rl_),(indL g r all m pos o).N=o.N∧(indL g r all m pos o).Rows.length=o.Rows.length
 | 0,pos,o=>⟨rfl,rfl⟩
 | m+1,pos,o=>by
  rw[indL]
  have h1:=k5a g r all m (pos+1) (z7r g r o (pos:Int) (all (q6k r (pos:Int))))
  exact⟨h1.1.trans (k6V _ _ _ _ _),h1.2.trans (j5x _ _ _ _ _)⟩
theorem k5b {g:Gm_}(h0:Sz.szd g≤1048576)(h:Shape g){r:Rule}(hr:r∈g.rs_)(all:BA_→Rl_):Valid (locR g r)∧Valid (indR g r all)∧(indR g r all).N=((occL g r).length:Int):=by
 obtain⟨v1,v2,_⟩:=k4Y h0 (Blz (z1D hr) h0) (h.occ16 hr)
 have hs:=k1s g r all (r.rt_.length+1) 0 (locR g r) v1
 have hc:=Sub.close hs.2.1
 unfold indR
 exact⟨v1,hc.2.1,by rw[← hc.2.2.1,(k5a g r all _ 0 _).1,v2]⟩
theorem k5c {g:Gm_}(h:Shape g)(r:Rule){k:Nat}(hk:k≤r.rt_.length):(posL g r (k:Int)).length≤16:=by
 rw[k8V g hk]
 have:=h.plain (q6k r (k:Int))
 omega
def k5d (g:Gm_)(all:List Rl_)(r:Rule):Prop:=k4K (indR g r (q7U g all))=false∧∀ pos:Nat,pos≤r.rt_.length→uniR (q7U g all (q6k r (pos:Int))) (j6Z (indR g r (q7U g all)) (posL g r (pos:Int)))=q7U g all (q6k r (pos:Int))
def cirG (g:Gm_):Bool:=g.ss_.any fun y=>y.as_.any fun a=>a.Circular
theorem k9b (g:Gm_):q5Z g=some (cirG g):=by
 unfold q5Z q3Z q4f
 rw[q5r (q:=fun y:Symbol=>y.as_.any fun a=>a.Circular) fun k y hy=>by
  unfold q5O q6s q4N q5c
  rw[q5r (q:=fun a:At_=>a.Circular) fun k a ha=>by
   unfold q6V z4h
   rw[bsS]
   cases a.Circular<;>rfl]
  rw[bsS,bsS,← apply_ite some]]
 rfl
noncomputable def k0m (g:Gm_):Bool:=z8R g&&(!(colG g||cirG g) && !g.rs_.any farR)
theorem k6W {g:Gm_}(hg:z8R g=true)(hc:colG g=false):(g.rs_.any fun r=>(z5B r).any farB)=g.rs_.any farR:=by
 have:∀ r∈g.rs_,(z5B r).any farB=farR r:=fun r hr=>by
  unfold z5B farR
  rw[k6L hg hc hr,List.flatMap_nil,Bxz,List.any_map];rfl
 rw[Bool.eq_iff_iff,Eoz,Eoz]
 exact⟨fun ⟨r,hr,hx⟩=>⟨r,hr,(this r hr)▸hx⟩,fun ⟨r,hr,hx⟩=>⟨r,hr,(this r hr).symm▸hx⟩⟩
theorem j7a {g:Gm_}(h:Sz.szd g≤1048576):z1q g=some (k0m g):=by
 unfold z1q k0m
 rw[k6F h,bsS]
 cases hg:z8R g with
 | false=>rfl
 | true=>
  rw[ifP rfl,k6K h]
  simp only[bsS]
  cases hc:colG g with
  | true=>cases g.rs_.any fun r=>(z5B r).any farB<;>simp[k4E,hc]
  | false=>
   rw[k6W hg hc]
   cases g.rs_.any farR<;>simp[k4E,hc,k9b]
theorem k6X {g:Gm_}(h:Sz.szd g≤1048576):z4S g=some (k0m g):=by
 unfold z4S k0m
 rw[q4X (c:=false) (q:=fun y:Symbol=>!y.as_.any fun a=>a.Circular||decide (a.Mode=3)) fun k y hy=>by
  unfold j1w
  rw[q4X (c:=false) (q:=fun a:At_=>!(a.Circular||decide (a.Mode=3))) fun k a ha=>by
   unfold j1v
   by_cases hm:a.Mode=3<;>cases hc:a.Circular<;>simp[hm]]
  have e:(y.as_.all fun a=>!(a.Circular||decide (a.Mode=3)))=!(y.as_.any fun a=>a.Circular||decide (a.Mode=3)):=by rw[Ewz]
  rw[e]
  cases y.as_.any fun a=>a.Circular||decide (a.Mode=3)<;>rfl]
 have e:(g.ss_.all fun y=>!y.as_.any fun a=>a.Circular||decide (a.Mode=3))=!(colG g||cirG g):=by
  have e1:(g.ss_.any fun y=>y.as_.any fun a=>a.Circular||decide (a.Mode=3))=(colG g||cirG g):=by
   unfold colG cirG
   rw[Bool.eq_iff_iff]
   simp only[Eoz,Alz]
   constructor
   ·rintro⟨y,hy,a,ha,h|h⟩
    ·exact .inr ⟨y,hy,a,ha,h⟩
    ·exact .inl ⟨y,hy,a,ha,h⟩
   ·rintro (⟨y,hy,a,ha,h⟩|⟨y,hy,a,ha,h⟩)
    ·exact⟨y,hy,a,ha,.inr h⟩
    ·exact⟨y,hy,a,ha,.inl h⟩
  rw[← e1,Ewz]
 rw[e]
 cases colG g||cirG g with
 | true=>cases z8R g<;>rfl
 | false=>
  rw[Flz,ifP rfl,bsS,z4B]
  rw[q4X (c:=false) (q:=fun r=>!farR r) fun k r hr=>by
   unfold j1x
   rw[k6J,bsS]
   cases farR r<;>rfl]
  have e:(g.rs_.all fun r=>!farR r)=!g.rs_.any farR:=by rw[Ewz]
  rw[e]
  cases g.rs_.any farR with
  | true=>cases z8R g<;>rfl
  | false=>rw[Flz,ifP rfl,bsS,z4B,k6G h];cases z8R g<;>rfl
theorem Inv.setU {g:Gm_}{all:List Rl_}(h:Inv g all){n:BA_}{j:Nat}(hj:atS g n=some j)(h2:j<g.ss_.length)(h4:all[j]?=some (q7U g all n))(h5:Valid (q7U g all n))(b:Rl_) :
  Inv g (all.set j (uniR (q7U g all n) b))∧sumA all≤sumA (all.set j (uniR (q7U g all n) b))∧(uniR (q7U g all n) b≠q7U g all n→sumA all<sumA (all.set j (uniR (q7U g all n) b))):=by
 generalize q7U g all n=old at h4 h5
 have hv:=k4G (a:=old) (b:=b) h5
 have hm:=k8S (a:=old) (b:=b) h5
 generalize uniR old b=new at hv hm
 have hset:=k1v all j new old h4
 refine⟨⟨by simpa using h.1,fun k y a hk ha=>?_⟩,by omega,fun hne=>?_⟩
 ·rw[Chz] at ha
  by_cases hjk:j=k
  ·subst hjk
   rw[ifP rfl,ifP (by rw[h.1];exact h2)] at ha
   cases ha
   have:=(h.2 j y old hk h4).2
   exact⟨hv.1,hv.2.trans this⟩
  ·rw[ifN hjk] at ha;exact h.2 k y a hk ha
 ·have h7:sumR old≠sumR new:=fun he=>hne (hm.2 he)
  have:=hm.1
  omega
theorem k5e {α:Type}{l:List α}{j:Nat}{x:α}(h:l[j]?=some x):l.set j x=l:=by
 apply Cnz
 intro i
 rw[Chz]
 by_cases hi:j=i
 ·subst hi
  have:=(List.getElem?_eq_some_iff.1 h).1
  rw[ifP rfl,ifP this,h]
 ·rw[ifN hi]
theorem k1w {g:Gm_}(h0:Sz.szd g≤1048576)(hS:Shape g){r:Rule}(hr:r∈g.rs_){x:Rl_}(hx:Valid x):∀ (m k:Nat) (c:Bool) (all:List Rl_),k+m=r.rt_.length+1→Inv g all →
  ∃ c' all',eachN (q8X g r x) k m (all,c)=some (all',c')∧q4G (q6L g r x) (all,c,(k:Int))=some (all',c')∧Inv g all'∧sumA all≤sumA all'∧(c'=true→c=true∨sumA all<sumA all') ∧
   (c'=false→c=false∧all'=all∧∀ pos:Nat,k≤pos→pos≤r.rt_.length→uniR (q7U g all (q6k r (pos:Int))) (j6Z x (posL g r (pos:Int)))=q7U g all (q6k r (pos:Int)))
 | 0,k,c,all,hk,h=>by
  refine⟨c,all,rfl,q3N ?_,h,Adz _,fun hc=>.inl hc,fun hc=>⟨hc,rfl,fun pos h1 h2=>by omega⟩⟩
  unfold q6L
  dsimp only
  rw[ifN (by omega)]
 | m+1,k,c,all,hk,h=>by
  have hs:=Blz (z1D hr) h0
  have h3:=j4b hS hr
  have hkn:k≤r.rt_.length:=by omega
  obtain⟨j,h1,h2,h4,h5,h6⟩:=h.at_ (hS.known hr hkn)
  have hA:atI g (q6k r (k:Int))=(j:Int):=by unfold atI;rw[h1]
  have hp:=k6U hx (k5c hS r hkn)
  obtain⟨i1,i2,i3⟩:=h.setU h1 h2 h4 h5 (j6Z x (posL g r (k:Int)))
  have hlen:=h5.len
  generalize hnew:uniR (q7U g all (q6k r (k:Int))) (j6Z x (posL g r (k:Int)))=new at i1 i2 i3
  have e1:q8X g r x k (all,c)=some (all.set j new,c || !decide (new=q7U g all (q6k r (k:Int)))):=by
   unfold q8X
   dsimp only
   rw[z9s (q5e hs),bsS,k1u,bsS,hA,q3M (by omega),tnC,h4,bsS,k4M (q7T h0) (q5e hs),bsS,j8K,hp.1,bsS,k8R (by omega),bsS,hnew]
   cases c with
   | true=>rfl
   | false=>rw[ifN (by simp),k8T];rfl
  have e2:q6L g r x (all,c,(k:Int))=some (.inl (all.set j new,c || !decide (new=q7U g all (q6k r (k:Int))),((k+1:Nat):Int))):=by
   unfold q6L
   dsimp only
   rw[ifP (by omega),z3Z (q5e hs),bsS,k4B,bsS,hA,q3M (by omega),tnC,h4,bsS,k4L (q7T h0) (q5e hs),bsS,hp.1,bsS,k8Q (by omega),bsS,hnew]
   cases c with
   | true=>rw[ifP rfl,bsS,q3M (by constructor<;>omega)];rfl
   | false=>rw[ifN (by simp),k4J,bsS,bsS,q3M (by constructor<;>omega)];rfl
  obtain⟨c',all',f1,f2,f3,f4,f5,f6⟩:=k1w h0 hS hr hx m (k+1) (c || !decide (new=q7U g all (q6k r (k:Int)))) (all.set j new) (by omega) i1
  refine⟨c',all',by rw[eachN,e1,bsS];exact f1,by rw[q4b e2];exact f2,f3,by omega,fun hc=>?_,fun hc=>?_⟩
  ·rcases f5 hc with q|q
   ·rw[Alz] at q
    rcases q with q|q
    ·exact .inl q
    ·exact .inr (by have:=i3 (by simpa using q);omega)
   ·exact .inr (by omega)
  ·obtain⟨q1,q2,q3⟩:=f6 hc
   rw[Dtz] at q1
   have hsame:new=q7U g all (q6k r (k:Int)):=by simpa using q1.2
   have hset:all.set j new=all:=by rw[hsame];exact k5e h4
   rw[hset] at q2 q3
   refine⟨q1.1,q2,fun pos p1 p2=>?_⟩
   by_cases hpk:pos=k
   ·subst hpk;rw[hnew,hsame]
   ·exact q3 pos (by omega) p2
theorem j8M (own:Rl_)(a:Nat)(x:Int):∀ (ys:List Int) (i:Nat) (o:Rl_),o.Rows.length≤1048576→eachL (z6S own a x) i ys (o.Rows,o.N)=some ((z0f own a x i ys o).Rows,(z0f own a x i ys o).N)
 | [],i,o,_=>rfl
 | y::ys,i,o,h=>by
  have e1:z6S own a x i y (o.Rows,o.N)=some ((if hasP own (a:Int) (i:Int) then addP o x y else o).Rows,(if hasP own (a:Int) (i:Int) then addP o x y else o).N):=by
   unfold z6S
   dsimp only
   rw[q9F,bsS]
   by_cases hp:hasP own (a:Int) (i:Int)
   ·rw[decide_eq_true hp,ifP rfl,ifP hp,k1c h];rfl
   ·rw[decide_eq_false hp,ifN (by simp),ifN hp];rfl
  have hl:(if hasP own (a:Int) (i:Int) then addP o x y else o).Rows.length≤1048576:=by
   split
   ·rw[(z8H o x y).1];exact h
   ·exact h
  rw[eachL,e1,bsS,z0f]
  exact j8M own a x ys (i+1) _ hl
theorem j5A (own:Rl_)(at' : List Int):∀ (xs:List Int) (a:Nat) (o:Rl_),o.Rows.length≤1048576→eachL (z6T at' own) a xs (o.Rows,o.N)=some ((z1E own at' a xs o).Rows,(z1E own at' a xs o).N)
 | [],a,o,_=>rfl
 | x::xs,a,o,h=>by
  have hl:(z0f own a x 0 at' o).Rows.length≤1048576:=by rw[(z8J own a x at' 0 o).1];exact h
  have e1:z6T at' own a x (o.Rows,o.N)=some ((z0f own a x 0 at' o).Rows,(z0f own a x 0 at' o).N):=by
   unfold z6T;dsimp only;rw[j8M own a x at' 0 o h];rfl
  rw[eachL,e1,bsS,z1E]
  exact j5A own at' xs (a+1) _ hl
theorem k5f {g:Gm_}(h0:Sz.szd g≤1048576)(hS:Shape g){r:Rule}(hr:r∈g.rs_){all:List Rl_}(h:Inv g all):∀ (m k:Nat) (o:Rl_),k+m=r.rt_.length+1→o.Rows.length≤1048576 →
  eachN (q8W g all r) k m (o.Rows,o.N)=some ((indL g r (q7U g all) m k o).Rows,(indL g r (q7U g all) m k o).N)∧q4G (z2M g r all) ((k:Int),o.Rows,o.N)=some ((indL g r (q7U g all) m k o).Rows,(indL g r (q7U g all) m k o).N)
 | 0,k,o,hk,_=>by
  refine⟨rfl,q3N ?_⟩
  unfold z2M
  dsimp only
  rw[ifN (by omega)];rfl
 | m+1,k,o,hk,ho=>by
  have hs:=Blz (z1D hr) h0
  have h3:=j4b hS hr
  have hkn:k≤r.rt_.length:=by omega
  obtain⟨j,h1,h2,h4,h5,h6⟩:=h.at_ (hS.known hr hkn)
  have hA:atI g (q6k r (k:Int))=(j:Int):=by unfold atI;rw[h1]
  have hlen:=j5x g r o (k:Int) (q7U g all (q6k r (k:Int)))
  obtain⟨f1,f2⟩:=k5f h0 hS hr h m (k+1) (z7r g r o (k:Int) (q7U g all (q6k r (k:Int)))) (by omega) (by rw[hlen];exact ho)
  have e1:q8W g all r k (o.Rows,o.N)=some ((z7r g r o (k:Int) (q7U g all (q6k r (k:Int)))).Rows,(z7r g r o (k:Int) (q7U g all (q6k r (k:Int)))).N):=by
   unfold q8W
   dsimp only
   rw[z9s (q5e hs),bsS,k1u,bsS,hA,q3M (by omega),tnC,h4,bsS,k4O (q7T h0) (q5e hs) (o:=⟨o.N,o.Rows⟩) ho,bsS]
  have e2:z2M g r all ((k:Int),o.Rows,o.N)=some (.inl (((k+1:Nat):Int),(z7r g r o (k:Int) (q7U g all (q6k r (k:Int)))).Rows,(z7r g r o (k:Int) (q7U g all (q6k r (k:Int)))).N)):=by
   unfold z2M z3h
   dsimp only
   rw[ifP (by omega),k4L (q7T h0) (q5e hs),bsS,z3Z (q5e hs),bsS,k4B,bsS,hA,ifN (by omega),bsS,q3M (by omega),tnC,h4,bsS,j5A (q7U g all (q6k r (k:Int))) _ _ 0 o ho,bsS]
   dsimp only
   rw[q3M (by constructor<;>omega)]
   rfl
  rw[eachN,e1,bsS,q4b e2,indL]
  exact⟨f1,f2⟩
theorem j4d {g:Gm_}(h0:Sz.szd g≤1048576)(hS:Shape g):∀ (rs:List Rule) (i:Nat) (c:Bool) (all:List Rl_),(∀ r∈rs,r∈g.rs_)→Inv g all →
  (findL (q6j g) i rs (all,c)=some (.inr ([],false))∧findL (q6M g) i rs (all,c)=some (.inr ([],false))) ∨
  ∃ c' all',findL (q6j g) i rs (all,c)=some (.inl (all',c'))∧findL (q6M g) i rs (all,c)=some (.inl (all',c'))∧Inv g all'∧sumA all≤sumA all'∧(c'=true→c=true∨sumA all<sumA all')∧(c'=false→c=false∧all'=all∧∀ r∈rs,k5d g all r)
 | [],i,c,all,_,h=>.inr ⟨c,all,rfl,rfl,h,Adz _,fun hc=>.inl hc,fun hc=>⟨hc,rfl,fun r hr=>by cases hr⟩⟩
 | r::rs,i,c,all,hrs,h=>by
  have hr:=hrs r (by simp)
  have hs:=Blz (z1D hr) h0
  have h3:=j4b hS hr
  obtain⟨l1,l2,l3⟩:=k7E h0 hs
  obtain⟨p1,p2⟩:=k5f h0 hS hr h (r.rt_.length+1) 0 (locR g r) (by omega) (by omega)
  obtain⟨v1,v2,v3⟩:=k5b h0 hS hr (q7U g all)
  have hl:(indL g r (q7U g all) (r.rt_.length+1) 0 (locR g r)).Rows.length≤1048576:=by rw[(k5a g r _ _ 0 _).2];omega
  have hcl:q6K (⟨(indL g r (q7U g all) (r.rt_.length+1) 0 (locR g r)).N,(indL g r (q7U g all) (r.rt_.length+1) 0 (locR g r)).Rows⟩:Rl_)=indR g r (q7U g all):=rfl
  have hxl:=v2.len
  have es:z6l g r all=some (indR g r (q7U g all)):=by
   unfold z6l
   rw[l1,bsS,show q4G (z2M g r all) (0,(locR g r).Rows,(locR g r).N)=_ from p2,bsS]
   dsimp only
   rw[j3M (r:=⟨(indL g r (q7U g all) (r.rt_.length+1) 0 (locR g r)).N,(indL g r (q7U g all) (r.rt_.length+1) 0 (locR g r)).Rows⟩) hl,bsS,hcl]
  cases hlp:k4K (indR g r (q7U g all)) with
  | true=>
   left
   constructor
   ·rw[findL]
    unfold q6j
    dsimp only
    rw[l2,bsS,q3M (by constructor<;>omega),p1,bsS]
    dsimp only
    rw[j3N (r:=⟨(indL g r (q7U g all) (r.rt_.length+1) 0 (locR g r)).N,(indL g r (q7U g all) (r.rt_.length+1) 0 (locR g r)).Rows⟩) hl,bsS,hcl,k1m (by omega),hlp,bsS]
    rfl
   ·rw[findL]
    unfold q6M
    dsimp only
    rw[es,bsS,k1n (by omega),hlp,bsS]
    rfl
  | false=>
   obtain⟨c1,a1,e1,e2,e3,e4,e5,e6⟩:=k1w h0 hS hr v2 (r.rt_.length+1) 0 c all (by omega) h
   have g1:q6j g i r (all,c)=some (.inl (a1,c1)):=by
    unfold q6j
    dsimp only
    rw[l2,bsS,q3M (by constructor<;>omega),p1,bsS]
    dsimp only
    rw[j3N (r:=⟨(indL g r (q7U g all) (r.rt_.length+1) 0 (locR g r)).N,(indL g r (q7U g all) (r.rt_.length+1) 0 (locR g r)).Rows⟩) hl,bsS,hcl,k1m (by omega),hlp,bsS,ifN (by simp),q3M (by constructor<;>omega),e1]
    rfl
   have g2:q6M g i r (all,c)=some (.inl (a1,c1)):=by
    unfold q6M
    dsimp only
    rw[es,bsS,k1n (by omega),hlp,bsS,ifN (by simp),show q4G (q6L g r (indR g r (q7U g all))) (all,c,0)=_ from e2]
    rfl
   rcases j4d h0 hS rs (i+1) c1 a1 (fun x hx=>hrs x (by simp[hx])) e3 with ⟨f1,f2⟩|⟨c2,a2,f1,f2,f3,f4,f5,f6⟩
   ·left
    exact⟨by rw[findL,g1,bsS];exact f1,by rw[findL,g2,bsS];exact f2⟩
   ·right
    refine⟨c2,a2,by rw[findL,g1,bsS];exact f1,by rw[findL,g2,bsS];exact f2,f3,by omega,fun hc=>?_,fun hc=>?_⟩
    ·rcases f5 hc with q|q
     ·rcases e5 q with q2|q2
      ·exact .inl q2
      ·exact .inr (by omega)
     ·exact .inr (by omega)
    ·obtain⟨q1,q2,q3⟩:=f6 hc
     obtain⟨w1,w2,w3⟩:=e6 q1
     subst w2
     refine⟨w1,q2,fun y hy=>?_⟩
     rcases List.mem_cons.1 hy with rfl|hy
     ·exact⟨hlp,fun pos hp=>w3 pos (Aiz _) hp⟩
     ·exact q3 y hy
theorem k6Y {g:Gm_}(h0:Sz.szd g≤1048576)(hS:Shape g):∀ (d:Nat) (all:List Rl_),Inv g all→g.ss_.length*(16*65535)-sumA all≤d →
  (q4G (q3W g) (all,true)=some (.inr ([],false))∧q4G (q5v g) all=some ([],false)) ∨
  ∃ q,q4G (q3W g) (all,true)=some (.inl q)∧q4G (q5v g) all=some (q,true)∧Inv g q∧∀ r∈g.rs_,k5d g q r:=by
 intro d
 induction d with
 | zero=>
  intro all h hd
  rcases j4d h0 hS g.rs_ 0 false all (fun _ h=>h) h with ⟨f1,f2⟩|⟨c,a,f1,f2,f3,f4,f5,f6⟩
  ·left
   exact⟨q3N (by unfold q3W;dsimp only;rw[ifP rfl,f1];rfl),q3N (by unfold q5v;rw[f2];rfl)⟩
  ·right
   have hb:=f3.bound
   rw[f3.1] at hb
   have hc:c=false:=by
    cases c with
    | false=>rfl
    | true=>
     rcases f5 rfl with h|h
     ·cases h
     ·omega
   subst hc
   obtain⟨_,q2,q3⟩:=f6 rfl
   subst q2
   refine⟨a,?_,?_,f3,q3⟩
   ·have s1:q3W g (a,true)=some (.inl (a,false)):=by unfold q3W;dsimp only;rw[ifP rfl,f1];rfl
    have s2:q3W g (a,false)=some (.inr (.inl a)):=by unfold q3W;dsimp only;rw[ifN (by simp)]
    rw[q4b s1,q3N s2]
   ·exact q3N (by unfold q5v;rw[f2];rfl)
 | succ d ih=>
  intro all h hd
  rcases j4d h0 hS g.rs_ 0 false all (fun _ h=>h) h with ⟨f1,f2⟩|⟨c,a,f1,f2,f3,f4,f5,f6⟩
  ·left
   exact⟨q3N (by unfold q3W;dsimp only;rw[ifP rfl,f1];rfl),q3N (by unfold q5v;rw[f2];rfl)⟩
  ·cases c with
   | false=>
    right
    obtain⟨_,q2,q3⟩:=f6 rfl
    subst q2
    refine⟨a,?_,?_,f3,q3⟩
    ·have s1:q3W g (a,true)=some (.inl (a,false)):=by unfold q3W;dsimp only;rw[ifP rfl,f1];rfl
     have s2:q3W g (a,false)=some (.inr (.inl a)):=by unfold q3W;dsimp only;rw[ifN (by simp)]
     rw[q4b s1,q3N s2]
    ·exact q3N (by unfold q5v;rw[f2];rfl)
   | true=>
    have hlt:sumA all<sumA a:=by
     rcases f5 rfl with h|h
     ·cases h
     ·exact h
    have hb:=f3.bound
    rw[f3.1] at hb
    have s1:q3W g (all,true)=some (.inl (a,true)):=by unfold q3W;dsimp only;rw[ifP rfl,f1];rfl
    have s2:q5v g all=some (.inl a):=by unfold q5v;rw[f2];rfl
    rw[q4b s1,q4b s2]
    exact ih a f3 (by omega)
theorem j5B {g:Gm_}(h0:Sz.szd g≤1048576)(hS:Shape g):eachL (z0Q g) 0 g.ss_ []=some (j1K g):=by
 have hl:=hS.syms
 unfold j1K
 rw[k1t (g:=fun y:Symbol=>(⟨((q5C g y.Name).length:Int),Cbz (q5C g y.Name).length 0⟩:Rl_)) (B:=1048576) g.ss_ 0 [] (fun k y s hy hs=>by
  unfold z0Q
  have:=hS.plain y.Name
  rw[j3Y (q7T h0),bsS,j2q (by omega) (by omega),bsS,q3M (by constructor<;>omega),tnC]) (by simp;omega)]
 simp
theorem z5C {g:Gm_}(h0:Sz.szd g≤1048576):∃ q b,q6u g=some (q,b)∧q8w g=some (q,b)∧(b=false→q=[])∧(b=true→z8R g=true∧Inv g q∧∀ r∈g.rs_,k5d g q r):=by
 unfold q6u q8w
 rw[j7a h0,k6X h0]
 cases hst:k0m g with
 | false=>exact⟨[],false,rfl,rfl,fun _=>rfl,fun h=>by cases h⟩
 | true=>
  have hg:z8R g=true:=by
   unfold k0m at hst
   simp only[Akz] at hst
   exact hst.1
  have hS:=z6B hg
  rcases k6Y h0 hS _ (j1K g) (k4Z hS) (Adz _) with ⟨f1,f2⟩|⟨q,f1,f2,f3,f4⟩
  ·refine⟨[],false,?_,?_,fun _=>rfl,fun h=>by cases h⟩
   ·rw[bsS,ifP rfl,j4c h0 hS,bsS,f1];rfl
   ·rw[bsS,ifP rfl,j5B h0 hS,bsS,f2];rfl
  ·refine⟨q,true,?_,?_,fun h=>(by cases h),fun _=>⟨hg,f3,f4⟩⟩
   ·rw[bsS,ifP rfl,j4c h0 hS,bsS,f1];rfl
   ·rw[bsS,ifP rfl,j5B h0 hS,bsS,f2];rfl
def k0n:At_:=⟨⟨#[]⟩,0,0,false⟩
def j4e (r:Rl_)(d:List Bool)(n k:Nat):Bool:=(Awz n).all fun i=>!decide (hasP r (i:Int) (k:Int))||d.getD i false
def okK (a:List At_)(r:Rl_)(d:List Bool)(m:Int)(k:Nat):Bool:=decide ((a.getD k k0n).Mode=m) && !d.getD k false&&j4e r d a.length k
def j1j (a:List At_)(r:Rl_)(d:List Bool)(m:Int):Option Nat:=(Awz a.length).find? (okK a r d m)
def q7I (a:List At_)(r:Rl_)(m:Int):Nat→List Bool→List Nat×List Bool
 | 0,d=>([],d)
 | f+1,d=>match j1j a r d m with
  | none=>([],d)
  | some k=>(k::(q7I a r m f (d.set k true)).1,(q7I a r m f (d.set k true)).2)
def nm (a:List At_)(k:Nat):BA_:=(a.getD k k0n).Name
theorem z6D {k:Nat}:∀ {d:List Bool},d[k]?=some false→(d.set k true).count false+1=d.count false
 | [],h=>by simp at h
 | x::d,h=>by
  cases k with
  | zero=>simp at h;subst h;simp
  | succ k=>
   have ih:=z6D (k:=k) (d:=d) (by simpa using h)
   simp only[Cqz,List.count_cons]
   omega
theorem z0K {α:Type}{l:List α}{k:Nat}{x z:α}(h:l[k]?=some x):l.getD k z=x:=by rw[Ddz,h];rfl
theorem k9c {a:List At_}{r:Rl_}{d:List Bool}(hd:d.length=a.length)(k:Nat):z0y (k:Int) a r d=some (j4e r d a.length k):=by
 unfold z0y
 have hany:=z8j (c:=false) (xs:=a) (i:=0) (p:=fun i _=>hasP r (i:Int) (k:Int)∧d.getD i false=false) (f:=z5H (k:Int) r d) fun i x hx=>by
  rw[Ahz]
  have hi:=(List.getElem?_eq_some_iff.1 hx).1
  obtain⟨b,hb⟩:∃ b,d[i]?=some b:=⟨_,Auz (by omega)⟩
  rw[z0K hb]
  unfold z5H
  rw[z7f,bsS]
  by_cases hp:hasP r (i:Int) (k:Int)
  ·rw[ifP (by simpa using hp),hb,bsS]
   cases b<;>simp[hp]
  ·rw[ifN (by simpa using hp)];simp[hp]
 cases hr:j4e r d a.length k with
 | true=>
  rw[hany.2 fun i x hx hp=>?_]
  ·rfl
  ·rw[Ahz] at hp
   have hi:=(List.getElem?_eq_some_iff.1 hx).1
   have:=List.all_eq_true.1 hr i (List.mem_range.2 hi)
   rw[decide_eq_true hp.1,hp.2] at this
   cases this
 | false=>
  have:∃ i,i<a.length∧hasP r (i:Int) (k:Int)∧d.getD i false=false:=by
   apply Classical.byContradiction
   intro hn
   have:j4e r d a.length k=true:=List.all_eq_true.2 fun i hi=>by
    have hi':=List.mem_range.1 hi
    by_cases hp:hasP r (i:Int) (k:Int)
    ·cases hb:d.getD i false with
     | true=>simp
     | false=>exact absurd ⟨i,hi',hp,hb⟩ hn
    ·simp[hp]
   rw[this] at hr;cases hr
  obtain⟨i,hi,hp⟩:=this
  rw[hany.1 ⟨i,_,Auz hi,by rw[Ahz];exact hp⟩];rfl
theorem k9d {a:List At_}{r:Rl_}{d:List Bool}(hd:d.length=a.length)(hN:r.N=a.length)(k:Nat):z2O r d (k:Int)=some (j4e r d a.length k):=by
 unfold z2O
 rw[hN,tnC]
 have hany:=j0i (c:=false) (n:=a.length) (i:=0) (p:=fun i=>hasP r (i:Int) (k:Int)∧d.getD i false=false) (f:=z8b r d (k:Int)) fun i hi=>by
  rw[Ahz]
  obtain⟨b,hb⟩:∃ b,d[i]?=some b:=⟨_,Auz (by omega)⟩
  rw[z0K hb]
  unfold z8b
  rw[q9F,bsS]
  by_cases hp:hasP r (i:Int) (k:Int)
  ·rw[ifP (by simpa using hp),hb,bsS]
   cases b<;>simp[hp]
  ·rw[ifN (by simpa using hp)];simp[hp]
 cases hr:j4e r d a.length k with
 | true=>
  rw[hany.2 fun i hi hp=>?_]
  ·rfl
  ·rw[Ahz] at hp
   have:=List.all_eq_true.1 hr i (List.mem_range.2 hi)
   rw[decide_eq_true hp.1,hp.2] at this
   cases this
 | false=>
  have:∃ i,i<a.length∧hasP r (i:Int) (k:Int)∧d.getD i false=false:=by
   apply Classical.byContradiction
   intro hn
   have:j4e r d a.length k=true:=List.all_eq_true.2 fun i hi=>by
    have hi':=List.mem_range.1 hi
    by_cases hp:hasP r (i:Int) (k:Int)
    ·cases hb:d.getD i false with
     | true=>simp
     | false=>exact absurd ⟨i,hi',hp,hb⟩ hn
    ·simp[hp]
   rw[this] at hr;cases hr
  obtain⟨i,hi,hp⟩:=this
  rw[hany.1 ⟨i,hi,by rw[Ahz];exact hp⟩];rfl
theorem j2d {p:Nat→Bool}{n k:Nat}(hk:k<n)(hp:p k=true)(hn:∀ i,i<k→p i=false):(Awz n).find? p=some k:=by
 have e:Awz n=Awz k++(k::(Dxz (k+1) (n-k-1))):=by
  rw[Fyz,Fyz,show k::Dxz (k+1) (n-k-1)=Dxz k (n-k) from by
   rw[show n-k=(n-k-1)+1 by omega,List.range'_succ];rfl]
  have:=List.range'_append (s:=0) (m:=k) (n:=n-k) (step:=1)
  simp only[Nat.one_mul,Ahz] at this
  rw[this];congr 1;omega
 rw[e,Fzz]
 have:(Awz k).find? p=none:=List.find?_eq_none.2 fun i hi=>by
  rw[hn i (List.mem_range.1 hi)];simp
 rw[this]
 simp[hp]
theorem j4f {p:Nat→Bool}{n:Nat}(hn:∀ i,i<n→p i=false):(Awz n).find? p=none:=
 List.find?_eq_none.2 fun i hi=>by rw[hn i (List.mem_range.1 hi)];simp
theorem z8r {a:List At_}{r:Rl_}{d:List Bool}{m:Int}{k:Nat}(h:j1j a r d m=some k):k<a.length∧okK a r d m k=true∧d.getD k false=false:=by
 have h1:=Erz h
 have h2:=Fsz h
 refine⟨List.mem_range.1 h1,h2,?_⟩
 unfold okK at h2
 simp only[Akz,Amz] at h2
 exact h2.1.2
theorem z6E {d:List Bool}{k:Nat}(hk:k<d.length)(h:d.getD k false=false):d[k]?=some false:=by
 obtain⟨b,hb⟩:∃ b,d[k]?=some b:=⟨_,Auz hk⟩
 rw[z0K hb] at h;rw[hb,h]
theorem j8N {a:List At_}{r:Rl_}{m:Int}{d:List Bool}(hd:d.length=a.length)(hn:a.length≤16)(acc:List BA_)(hacc:acc.length≤1000):∀ (j k:Nat),k+j=a.length→(∀ i,i<k→okK a r d m i=false) →
  q4G (q3S m a r) (acc,(k:Int),d)=match j1j a r d m with
   | none=>some (acc,d)
   | some q=>q4G (q3S m a r) (acc++[nm a q],0,d.set q true):=by
 intro j
 induction j with
 | zero=>
  intro k hk hno
  have hc:j1j a r d m=none:=j4f fun i hi=>hno i (by omega)
  rw[hc]
  exact q3N (by unfold q3S;dsimp only;rw[ifN (by omega)])
 | succ j ih=>
  intro k hk hno
  obtain⟨x,hx⟩:∃ x,a[k]?=some x:=⟨_,Auz (by omega)⟩
  obtain⟨b,hb⟩:∃ b,d[k]?=some b:=⟨_,Auz (by omega)⟩
  have hin:((if x.Mode=m then grd (0≤(k:Int)) <| (d[(k:Int).toNat]?).bind fun x2=>some (!x2) else some false).bind fun s9=>(if s9=true then (z0y (k:Int) a r d).bind fun y1=>some y1 else some false))=some (okK a r d m k):=by
   unfold okK
   rw[z0K hx,z0K hb,k9c hd]
   by_cases hm:x.Mode=m
   ·rw[ifP hm,q3M (by omega),tnC,hb]
    cases b<;>simp[hm]
   ·rw[ifN hm];simp[hm]
  cases hok:okK a r d m k with
  | true=>
   have hc:j1j a r d m=some k:=j2d (by omega) hok hno
   rw[hc]
   have e:q3S m a r (acc,(k:Int),d)=some (.inl (acc++[nm a k],0,d.set k true)):=by
    unfold q3S
    dsimp only
    rw[ifP (by omega),q3M (by omega),tnC,hx,bsS]
    rw[tnC] at hin
    have hin2:=hin
    rw[hok] at hin2
    obtain⟨s9,h1,h2⟩:=bd hin2
    rw[h1,bsS,h2,bsS,ifP rfl,q3M (by constructor<;>omega),q3M (by omega),hb,bsS,bsS]
    dsimp only
    rw[q3M (by constructor<;>omega)]
    unfold nm
    rw[z0K hx];rfl
   rw[q4b e]
  | false=>
   have e:q3S m a r (acc,(k:Int),d)=some (.inl (acc,((k+1:Nat):Int),d)):=by
    unfold q3S
    dsimp only
    rw[ifP (by omega),q3M (by omega),tnC,hx,bsS]
    rw[tnC] at hin
    have hin2:=hin
    rw[hok] at hin2
    obtain⟨s9,h1,h2⟩:=bd hin2
    rw[h1,bsS,h2,bsS,ifN (by simp),bsS]
    dsimp only
    rw[q3M (by constructor<;>omega)];rfl
   rw[q4b e]
   exact ih (k+1) (by omega) fun i hi=>by
    by_cases h:i=k
    ·rw[h];exact hok
    ·exact hno i (by omega)
theorem k1x {a:List At_}{r:Rl_}{m:Int}(hn:a.length≤16):∀ (f:Nat) (d:List Bool) (acc:List BA_),d.length=a.length→d.count false≤f→acc.length+f≤1000 →
  q4G (q3S m a r) (acc,0,d)=some (acc++(q7I a r m f d).1.map (nm a),(q7I a r m f d).2):=by
 intro f
 induction f with
 | zero=>
  intro d acc hd hc hb
  have hs:=j8N (m:=m) (r:=r) hd hn acc (by omega) a.length 0 (by omega) (fun i hi=>absurd hi (Ghz _))
  have hcand:j1j a r d m=none:=by
   cases h:j1j a r d m with
   | none=>rfl
   | some k=>
    obtain⟨h1,_,h3⟩:=z8r h
    have:=z6D (z6E (by omega) h3)
    omega
  rw[hcand] at hs
  have hs' : q4G (q3S m a r) (acc,0,d)=some (acc,d):=hs
  rw[hs'];simp[q7I]
 | succ f ih=>
  intro d acc hd hc hb
  have hs:=j8N (m:=m) (r:=r) hd hn acc (by omega) a.length 0 (by omega) (fun i hi=>absurd hi (Ghz _))
  cases h:j1j a r d m with
  | none=>
   rw[h] at hs
   have hs' : q4G (q3S m a r) (acc,0,d)=some (acc,d):=hs
   rw[hs'];simp[q7I,h]
  | some k=>
   rw[h] at hs
   have hs' : q4G (q3S m a r) (acc,0,d)=q4G (q3S m a r) (acc++[nm a k],0,d.set k true):=hs
   obtain⟨h1,_,h3⟩:=z8r h
   have hcs:=z6D (z6E (by omega) h3)
   rw[hs',ih _ _ (by simp[hd]) (by omega) (by simp;omega)]
   simp[q7I,h]
theorem j4g {a:List At_}{r:Rl_}{m:Int}{d:List Bool}(hd:d.length=a.length)(hN:r.N=a.length)(hn:a.length≤16):∀ (j:Nat) (at_:Int),j≤a.length →
  q4G (z1v a r m d) (at_,(j:Int)-1)=some (match (Awz j).find? (okK a r d m) with
   | none=>at_
   | some k=>(k:Int)):=by
 intro j
 induction j with
 | zero=>
  intro at_ _
  exact q3N (by unfold z1v;dsimp only;rw[ifN (by omega)];rfl)
 | succ j ih=>
  intro at_ hj
  have ej:((j+1:Nat):Int)-1=(j:Int):=by omega
  rw[ej]
  obtain⟨x,hx⟩:∃ x,a[j]?=some x:=⟨_,Auz (by omega)⟩
  obtain⟨b,hb⟩:∃ b,d[j]?=some b:=⟨_,Auz (by omega)⟩
  have hin:((if x.Mode=m then grd (0≤(j:Int)) <| (d[(j:Int).toNat]?).bind fun x2=>some (!x2) else some false).bind fun s7=>(if s7=true then (z2O r d (j:Int)).bind fun y1=>some y1 else some false))=some (okK a r d m j):=by
   unfold okK
   rw[z0K hx,z0K hb,k9d hd hN]
   by_cases hm:x.Mode=m
   ·rw[ifP hm,q3M (by omega),tnC,hb]
    cases b<;>simp[hm]
   ·rw[ifN hm];simp[hm]
  have e:z1v a r m d (at_,(j:Int))=some (.inl ((if okK a r d m j=true then (j:Int) else at_),(j:Int)-1)):=by
   unfold z1v
   dsimp only
   rw[ifP (by omega),q3M (by omega),tnC,hx,bsS]
   rw[tnC] at hin
   obtain⟨s9,h1,h2⟩:=bd hin
   rw[h1,bsS,h2,bsS]
   cases okK a r d m j with
   | true=>rw[ifP rfl,ifP rfl,bsS,q3M (by constructor<;>omega)]
   | false=>rw[ifN (by simp),ifN (by simp),bsS,q3M (by constructor<;>omega)]
  rw[q4b e,ih _ (by omega),List.range_succ,Fzz]
  cases hf:(Awz j).find? (okK a r d m) with
  | some k=>rfl
  | none=>
   cases hok:okK a r d m j<;>simp[hok]
theorem k1y {a:List At_}{r:Rl_}{m:Int}(hN:r.N=a.length)(hn:a.length≤16):∀ (f:Nat) (d:List Bool) (acc:List BA_),d.length=a.length→d.count false≤f→acc.length+f≤1000 →
  q4G (z2P a r m) (acc,d)=some (acc++(q7I a r m f d).1.map (nm a),(q7I a r m f d).2):=by
 intro f
 induction f with
 | zero=>
  intro d acc hd hc hb
  have hcand:j1j a r d m=none:=by
   cases h:j1j a r d m with
   | none=>rfl
   | some k=>
    obtain⟨h1,_,h3⟩:=z8r h
    have:=z6D (z6E (by omega) h3)
    omega
  have hs:=j4g (m:=m) hd hN hn a.length (-1) (Adz _)
  have hcand' : (Awz a.length).find? (okK a r d m)=none:=hcand
  rw[hcand'] at hs
  have hs' : q4G (z1v a r m d) (-1,(a.length:Int)-1)=some (-1):=hs
  rw[q3N (r:=(acc,d)) (by unfold z2P;dsimp only;rw[hs',bsS,ifP (by omega)])]
  simp[q7I]
 | succ f ih=>
  intro d acc hd hc hb
  have hs:=j4g (m:=m) hd hN hn a.length (-1) (Adz _)
  cases h:j1j a r d m with
  | none=>
   have hcand' : (Awz a.length).find? (okK a r d m)=none:=h
   rw[hcand'] at hs
   have hs' : q4G (z1v a r m d) (-1,(a.length:Int)-1)=some (-1):=hs
   rw[q3N (r:=(acc,d)) (by unfold z2P;dsimp only;rw[hs',bsS,ifP (by omega)])]
   simp[q7I,h]
  | some k=>
   obtain⟨h1,_,h3⟩:=z8r h
   have hcand' : (Awz a.length).find? (okK a r d m)=some k:=h
   rw[hcand'] at hs
   obtain⟨x,hx⟩:∃ x,a[k]?=some x:=⟨_,Auz h1⟩
   have hdk:=z6E (by omega) h3
   have hcs:=z6D hdk
   have e:z2P a r m (acc,d)=some (.inl (acc++[nm a k],d.set k true)):=by
    unfold z2P
    dsimp only
    rw[hs,bsS]
    dsimp only
    rw[ifN (by omega),q3M (by omega),tnC,hdk,bsS,q3M (by omega),hx,bsS,q3M (by constructor<;>omega)]
    unfold nm
    rw[z0K hx]
   rw[q4b e,ih _ _ (by simp[hd]) (by omega) (by simp;omega)]
   simp[q7I,h]
theorem k1z {a:List At_}{r:Rl_}{m:Int}:∀ (f:Nat) (d:List Bool),d.length=a.length→(q7I a r m f d).2.length=a.length∧(q7I a r m f d).2.count false+(q7I a r m f d).1.length=d.count false:=by
 intro f
 induction f with
 | zero=>intro d hd;simp[q7I,hd]
 | succ f ih=>
  intro d hd
  cases h:j1j a r d m with
  | none=>simp[q7I,h,hd]
  | some k=>
   obtain⟨h1,_,h3⟩:=z8r h
   have hcs:=z6D (z6E (by omega) h3)
   have:=ih (d.set k true) (by simp[hd])
   simp only[q7I,h,lnC]
   refine⟨this.1,by omega⟩
def runP (a:List At_)(r:Rl_):Nat→List (List Nat×List Nat)→List Bool→Option (List (List Nat×List Nat))
 | 0,out,_=>some out
 | f+1,out,d=>
  if out=[]∨0<d.count false then
   if 0<a.length∧(q7I a r 1 a.length d).1=[]∧(q7I a r 2 a.length (q7I a r 1 a.length d).2).1=[] then none
   else runP a r f (out++[((q7I a r 1 a.length d).1,(q7I a r 2 a.length (q7I a r 1 a.length d).2).1)]) (q7I a r 2 a.length (q7I a r 1 a.length d).2).2
  else some out
def toPh (a:List At_)(q:List Nat×List Nat):Ph_:=⟨q.1.map (nm a),q.2.map (nm a)⟩
theorem j0u {d:List Bool}:d.count false≤d.length:=List.count_le_length
theorem z5M (d:List Bool):q6n d false=some (decide (0<d.count false)):=by
 have h:q8p d false=some (ixF d false):=by
  unfold q8p
  refine j3F fun k x=>⟨fun e=>?_,fun e=>?_⟩
  ·unfold z0P;rw[ifP e.symm]
  ·unfold z0P;rw[ifN (fun h=>e h.symm)]
 unfold q6n
 rw[h,bsS]
 congr 1
 unfold ixF
 by_cases hm:false∈d
 ·rw[ifP hm]
  have:=List.count_pos_iff.2 hm
  simp[this]
 ·rw[ifN hm]
  have:¬ 0<d.count false:=fun h=>hm (List.count_pos_iff.1 h)
  simp[this]
theorem k6Z {a:List At_}{r:Rl_}(hN:r.N=a.length)(hn:a.length≤16):∀ (f:Nat) (out:List (List Nat×List Nat)) (d:List Bool),d.length=a.length→(out=[]→d.count false=a.length)→d.count false+(if out=[] then 1 else 0)≤f→out.length+f≤1000 →
  (∃ d',q4G (z1H a r) (out.map (toPh a),d)=some (match runP a r f out d with|none=>.inr ([],false)|some l=>.inl (l.map (toPh a),d'))) ∧
  ∃ d',q4G (z1K a r) (out.map (toPh a),d,((d.count false:Nat):Int))=some (match runP a r f out d with|none=>.inr ([],false)|some l=>.inl (l.map (toPh a),d')):=by
 intro f
 induction f with
 | zero=>
  intro out d hd hnil hc hb
  have ho:out≠[]:=fun e=>by rw[ifP e] at hc;omega
  rw[ifN ho] at hc
  have h0:d.count false=0:=by omega
  have hol:¬ ((out.map (toPh a)).length:Int)=0:=by
   have:=List.length_pos_iff.2 ho
   simp;exact fun e=>ho e
  refine⟨⟨d,q3N ?_⟩,⟨d,q3N ?_⟩⟩
  ·unfold z1H;dsimp only
   rw[ifN hol,z5M,bsS,bsS,ifN (by simp[h0])];rfl
  ·unfold z1K;dsimp only
   rw[h0,ifN (by omega),bsS,ifN (by simpa using hol)];rfl
 | succ f ih=>
  intro out d hd hnil hc hb
  by_cases hgo:out=[]∨0<d.count false
  ·have hi1:q4O 1 a r d=some ((q7I a r 1 a.length d).1.map (nm a),(q7I a r 1 a.length d).2):=by
    unfold q4O
    rw[k1x hn a.length d [] hd (by have:=j0u (d:=d);omega) (by simp;omega)];rfl
   have hl1:=k1z (a:=a) (r:=r) (m:=1) a.length d hd
   have hi2:q4O 2 a r (q7I a r 1 a.length d).2=some ((q7I a r 2 a.length (q7I a r 1 a.length d).2).1.map (nm a),(q7I a r 2 a.length (q7I a r 1 a.length d).2).2):=by
    unfold q4O
    rw[k1x hn a.length _ [] hl1.1 (by have:=j0u (d:=(q7I a r 1 a.length d).2);omega) (by simp;omega)];rfl
   have hl2:=k1z (a:=a) (r:=r) (m:=2) a.length _ hl1.1
   have hs1:z1J a r d 1=some ((q7I a r 1 a.length d).1.map (nm a),(q7I a r 1 a.length d).2):=by
    unfold z1J
    rw[k1y hN hn a.length d [] hd (by have:=j0u (d:=d);omega) (by simp;omega)];rfl
   have hs2:z1J a r (q7I a r 1 a.length d).2 2=some ((q7I a r 2 a.length (q7I a r 1 a.length d).2).1.map (nm a),(q7I a r 2 a.length (q7I a r 1 a.length d).2).2):=by
    unfold z1J
    rw[k1y hN hn a.length _ [] hl1.1 (by have:=j0u (d:=(q7I a r 1 a.length d).2);omega) (by simp;omega)];rfl
   have hdl:=j0u (d:=d)
   generalize hq1:(q7I a r 1 a.length d).1=q1 at *
   generalize hd1:(q7I a r 1 a.length d).2=d1 at *
   generalize hq2:(q7I a r 2 a.length d1).1=q2 at *
   generalize hd2:(q7I a r 2 a.length d1).2=d2 at *
   have hrun:runP a r (f+1) out d=if 0<a.length∧q1=[]∧q2=[] then none else runP a r f (out++[(q1,q2)]) d2:=by
    simp only[runP,hq1,hd1,hq2,hd2]
    rw[ifP hgo]
   have hci:(if ((out.map (toPh a)).length:Int)=0 then some true else (q6n d false).bind fun y3=>some y3)=some true:=by
    rcases hgo with h|h
    ·rw[h,ifP (by simp)]
    ·by_cases h2:((out.map (toPh a)).length:Int)=0
     ·rw[ifP h2]
     ·rw[ifN h2,z5M,bsS,decide_eq_true h]
   have hcs:(if 0<((d.count false:Nat):Int) then some true else some (decide (((out.map (toPh a)).length:Int)=0)))=some true:=by
    by_cases h:0<d.count false
    ·rw[ifP (by omega)]
    ·rw[ifN (by omega)]
     have:out=[]:=hgo.resolve_right h
     rw[this];simp
   have hlen:((q1.map (nm a)).length+(q2.map (nm a)).length:Nat)=q1.length+q2.length:=by simp
   by_cases hstop:0<a.length∧q1=[]∧q2=[]
   ·rw[hrun,ifP hstop]
    obtain⟨hp,e1,e2⟩:=hstop
    have hcd:0<d.count false∨out=[]:=hgo.symm
    refine⟨⟨d,q3N ?_⟩,⟨d,q3N ?_⟩⟩
    ·unfold z1H;dsimp only
     rw[hci,bsS,ifP rfl,hi1,bsS]
     dsimp only
     rw[hi2,bsS]
     dsimp only
     rw[hlen,ifP (by omega),q3M (by constructor<;>omega),bsS,ifP (by simp[e1,e2])]
    ·unfold z1K;dsimp only
     rw[hcs,bsS,ifP rfl,hs1,bsS]
     dsimp only
     rw[hs2,bsS]
     dsimp only
     rw[hlen,q3M (by constructor<;>omega)]
     have hcp:0<d.count false:=by
      rcases hgo with h|h
      ·rw[hnil h];exact hp
      ·exact h
     have hz:((q1.length+q2.length:Nat):Int)=0:=by simp[e1,e2]
     rw[ifP hz,bsS,ifP (decide_eq_true (by omega))]
   ·rw[hrun,ifN hstop]
    have hne:0<a.length→¬ ((q1.length+q2.length:Nat):Int)=0:=fun hp h=>hstop ⟨hp,List.length_eq_zero_iff.1 (by omega),List.length_eq_zero_iff.1 (by omega)⟩
    have hex:a.length=0→q1.length+q2.length=0∧d.count false=0:=fun h=>by omega
    have hol:(out++[(q1,q2)]).map (toPh a)=out.map (toPh a)++[toPh a (q1,q2)]:=by simp
    have hle:(if out=[] then 1 else 0)≤1:=by split<;>omega
    have hcount:d2.count false+(if out++[(q1,q2)]=[] then 1 else 0)≤f:=by
     rw[ifN (by simp)]
     by_cases ha:0<a.length
     ·have:=hne ha
      omega
     ·have:out=[]∨¬ out=[]:=Classical.em _
      rcases this with h|h
      ·have:=hnil h;rw[ifP h] at hc;omega
      ·have:=hgo.resolve_left h;omega
    have hih:=ih (out++[(q1,q2)]) d2 hl2.1 (fun h=>absurd h (by simp)) hcount (by rw[Bgz];simp;omega)
    obtain⟨⟨di,hi⟩,⟨ds,hs⟩⟩:=hih
    refine⟨⟨di,?_⟩,⟨ds,?_⟩⟩
    ·rw[← hi,hol]
     refine q4b ?_
     unfold z1H;dsimp only
     rw[hci,bsS,ifP rfl,hi1,bsS]
     dsimp only
     rw[hi2,bsS]
     dsimp only
     rw[hlen]
     have hc8:(if 0<(a.length:Int) then grd (I64 ((q1.length+q2.length:Nat):Int)) <| some (decide (((q1.length+q2.length:Nat):Int)=0)) else some false)=some false:=by
      by_cases ha:0<a.length
      ·rw[ifP (by omega),q3M (by constructor<;>omega),decide_eq_false (hne ha)]
      ·rw[ifN (by omega)]
     rw[hc8,bsS,ifN (by simp),lnM,q3M (by constructor<;>omega)]
     rfl
    ·have hcz:((d2.count false:Nat):Int)=((d.count false:Nat):Int)-((q1.length+q2.length:Nat):Int):=by omega
     rw[← hs,hol,hcz]
     refine q4b ?_
     unfold z1K;dsimp only
     rw[hcs,bsS,ifP rfl,hs1,bsS]
     dsimp only
     rw[hs2,bsS]
     dsimp only
     rw[hlen,q3M (by constructor<;>omega)]
     have hc9:(if ((q1.length+q2.length:Nat):Int)=0 then some (decide (0<((d.count false:Nat):Int))) else some false)=some false:=by
      by_cases ha:0<a.length
      ·rw[ifN (hne ha)]
      ·rw[ifP (by omega),decide_eq_false (by omega)]
     rw[hc9,bsS,ifN (by simp),q3M (by constructor<;>omega),lnM,q3M (by constructor<;>omega)]
     rfl
  ·have ho:out≠[]:=fun e=>hgo (.inl e)
   have h0:¬ 0<d.count false:=fun h=>hgo (.inr h)
   have hol:¬ ((out.map (toPh a)).length:Int)=0:=by
    simp;exact ho
   have hrun:runP a r (f+1) out d=some out:=by simp only[runP];rw[ifN hgo]
   rw[hrun]
   refine⟨⟨d,q3N ?_⟩,⟨d,q3N ?_⟩⟩
   ·unfold z1H;dsimp only
    rw[ifN hol,z5M,bsS,bsS,ifN (by simpa using h0)]
   ·unfold z1K;dsimp only
    rw[ifN (by omega),bsS,ifN (fun h=>hol (of_decide_eq_true h))]
theorem k0o {r:Rl_}(h:Valid r):z1I r=some (decide (∃ k:Nat,k<r.Rows.length∧hasP (q6K r) (k:Int) (k:Int))):=by
 have hl:r.Rows.length≤1048576:=by have:=h.2.1;have:=h.2.2.1;omega
 have hN:r.N.toNat=r.Rows.length:=by have:=h.1;have:=h.2.2.1;omega
 unfold z1I
 rw[q7d,bsS,ifP (by simpa using h),j3M hl,bsS,hN]
 have hf:∀ (k:Nat),(hasP (q6K r) (k:Int) (k:Int)→z2N (q6K r) k ()=some (.inr true))∧(¬ hasP (q6K r) (k:Int) (k:Int)→z2N (q6K r) k ()=some (.inl ())):=fun k=>by
  unfold z2N
  rw[q9F,bsS]
  exact⟨fun hp=>ifP (by simpa using hp),fun hp=>ifN (by simpa using hp)⟩
 have hany:=j0i (c:=true) (n:=r.Rows.length) (i:=0) (p:=fun k=>hasP (q6K r) (k:Int) (k:Int)) (f:=z2N (q6K r)) fun k _=>by
  rw[Ahz];exact hf k
 by_cases hp:∃ k:Nat,k<r.Rows.length∧hasP (q6K r) (k:Int) (k:Int)
 ·rw[decide_eq_true hp]
  obtain⟨k,hk,hpk⟩:=hp
  rw[hany.1 ⟨k,hk,by rw[Ahz];exact hpk⟩];rfl
 ·rw[decide_eq_false hp]
  rw[hany.2 fun k hx hpk=>hp ⟨k,hx,by rw[Ahz] at hpk;exact hpk⟩];rfl
def phR (a:List At_)(r:Rl_):Option (List (List Nat×List Nat)):=
 if Valid r∧r.N=a.length∧¬ (∃ k:Nat,k<r.Rows.length∧hasP (q6K r) (k:Int) (k:Int)) then runP a r (a.length+1) [] (Cbz a.length false) else none
def phO (a:List At_)(r:Rl_):List Ph_×Bool:=match phR a r with
 | none=>([],false)
 | some l=>(l.map (toPh a),true)
theorem k5g (n:Nat):(Cbz n false).count false=n:=by simp
theorem j7b {a:List At_}{r:Rl_}(h:phR a r=none):phO a r=([],false):=by unfold phO;rw[h]
theorem z9u {a:List At_}{r:Rl_}(hn:a.length≤16)(hr:r.Rows.length≤1048576):z2I a r=some (phO a r)∧z4T a r=some (phO a r):=by
 have hb:=fun h=>k6Z (a:=a) (r:=r) h hn (a.length+1) [] (Cbz a.length false) (by simp) (fun _=>by simp) (by simp) (by simp;omega)
 unfold z2I z4T
 rw[z1C,q7d,bsS,bsS]
 by_cases hv:Valid r
 ·rw[decide_eq_true hv,ifP rfl]
  rw[bsS,bsS]
  by_cases hN:r.N=a.length
  ·have e:(!decide (r.N=(a.length:Int)))=false:=by simp[hN]
   rw[e,ifN (by simp),ifN (by simp),j3O hr,k0o hv]
   by_cases hlp:∃ k:Nat,k<r.Rows.length∧hasP (q6K r) (k:Int) (k:Int)
   ·rw[j7b (ifN (fun h=>h.2.2 hlp)),decide_eq_true hlp,bsS,bsS,bsS,ifP rfl,ifP rfl]
    exact⟨rfl,rfl⟩
   ·have ep:phR a r=runP a r (a.length+1) [] (Cbz a.length false):=ifP ⟨hv,hN,hlp⟩
    unfold phO
    rw[ep,decide_eq_false hlp,bsS,bsS,bsS,ifN (by simp),ifN (by simp),q3M (by constructor<;>omega),q3M (by constructor<;>omega)]
    obtain⟨⟨d1,h1⟩,⟨d2,h2⟩⟩:=hb hN
    rw[k5g] at h2
    simp only[List.map_nil] at h1 h2
    rw[h1,h2]
    cases runP a r (a.length+1) [] (Cbz a.length false) with
    | none=>exact⟨rfl,rfl⟩
    | some l=>exact⟨rfl,rfl⟩
  ·have e:(!decide (r.N=(a.length:Int)))=true:=by simp[hN]
   rw[j7b (ifN (fun h=>hN h.2.1)),e,ifP rfl,ifP rfl,bsS,ifP rfl]
   exact⟨rfl,rfl⟩
 ·rw[j7b (ifN (fun h=>hv h.1)),decide_eq_false hv]
  exact⟨rfl,rfl⟩
end Go.Proofs.YtppbkkcekpbaiaaGreat
set_option maxRecDepth 100000
set_option maxHeartbeats 4000000
namespace Go.Proofs.YtppbkkcekpbaiaaGreat
open Go Go.E
def PB (x:Ph_):Prop:=x.id_.length≤16∧x.sd_.length≤16
def PS (x:List Ph_):Prop:=x.length≤17∧∀ y∈x,PB y
theorem j7c {a:List At_}{r:Rl_}{m:Int}:∀ (f:Nat) (d:List Bool),(q7I a r m f d).1.length≤f
 | 0,d=>by simp[q7I]
 | f+1,d=>by
  rw[q7I]
  split
  ·simp
  ·rename_i k _
   simp only[lnC];have:=j7c (a:=a) (r:=r) (m:=m) f (d.set k true);omega
theorem k5h {a:List At_}{r:Rl_}(ha:a.length≤16):∀ (f:Nat) (out:List (List Nat×List Nat)) (d:List Bool) (l:List (List Nat×List Nat)),runP a r f out d=some l→(∀ p∈out,p.1.length≤16∧p.2.length≤16)→l.length≤out.length+f∧∀ p∈l,p.1.length≤16∧p.2.length≤16
 | 0,out,d,l,h,ho=>by rw[runP] at h;cases h;exact⟨by omega,ho⟩
 | f+1,out,d,l,h,ho=>by
  rw[runP] at h
  split at h
  ·split at h
   ·cases h
   ·have h1:=k5h ha f _ _ l h fun p hp=>by
     rcases List.mem_append.1 hp with hp|hp
     ·exact ho p hp
     ·rw[Byz] at hp
      subst hp
      exact⟨Blz (j7c _ _) ha,Blz (j7c _ _) ha⟩
    exact⟨by have:=h1.1;simp only[Bgz,Daz] at this;omega,h1.2⟩
  ·cases h;exact⟨by omega,ho⟩
theorem k9U {a:List At_}{r:Rl_}(ha:a.length≤16):PS (phO a r).1:=by
 unfold phO
 cases hp:phR a r with
 | none=>exact⟨Aiz _,fun y hy=>nomatch hy⟩
 | some l=>
  have h:=hp
  unfold phR at h
  split at h
  ·obtain⟨h1,h2⟩:=k5h ha _ _ _ _ h (fun p hp=>nomatch hp)
   refine⟨by simp only[lnM];simp only[Ekz] at h1;omega,fun y hy=>?_⟩
   obtain⟨p,hp,rfl⟩:=List.mem_map.1 hy
   obtain⟨h3,h4⟩:=h2 p hp
   exact⟨by simpa[toPh] using h3,by simpa[toPh] using h4⟩
  ·cases h
theorem j5C {g:Gm_}(h0:Sz.szd g≤1048576):∃ ps c,q3V g=some (ps,c)∧q9g g=some (ps,c)∧ps.length≤4∧(∀ p∈ps,PS p):=by
 obtain⟨q,b,e1,e2,hn,hi⟩:=z5C h0
 unfold q3V q9g
 rw[e1,e2,bsS,bsS]
 dsimp only
 cases b with
 | false=>
  refine⟨[],false,rfl,?_,by simp,fun p hp=>(nomatch hp)⟩
  rw[q3N (r:=(.inl [])) (by
   unfold q7E
   dsimp only
   split
   ·rfl
   ·rfl)]
  rfl
 | true=>
  obtain⟨hg,hI,_⟩:=hi rfl
  have hS:=z6B hg
  have hl:=hS.syms
  rw[ifP rfl]
  have key:∀ (xs:List Symbol) (i:Nat) (s:List (List Ph_)),g.ss_.drop i=xs→s.length=i→i≤g.ss_.length→(∀ p∈s,PS p)→(∃ s',findL (q4v g q) i xs s=some (.inl s')∧q4G (q7E g q true) (s,(i:Int))=some (.inl s')∧s'.length=g.ss_.length∧∀ p∈s',PS p)∨(findL (q4v g q) i xs s=some (.inr ([],false))∧q4G (q7E g q true) (s,(i:Int))=some (.inr ([],false))):=by
   intro xs
   induction xs with
   | nil=>
    intro i s hx hs hi hp
    left
    have:g.ss_.length-i=0:=by rw[← Cdz,hx];rfl
    exact⟨s,rfl,q3N (by unfold q7E;dsimp only;exact ifN (by omega)),by omega,hp⟩
   | cons x xs ih=>
    intro i s hx hs hi hps
    have hlt:i<g.ss_.length:=by
     have:g.ss_.length-i=xs.length+1:=by rw[← Cdz,hx];rfl
     omega
    have hd:=Dbz hlt
    rw[hx] at hd
    injection hd with d1 d2
    have hgi:g.ss_[i]?=some x:=by rw[d1];exact Auz hlt
    have hIl:q.length=g.ss_.length:=hI.1
    obtain⟨y,hq⟩:∃ y,q[i]?=some y:=⟨_,Auz (by omega)⟩
    obtain⟨v1,v2⟩:=hI.2 i x _ hgi hq
    have h4:=hS.plain x.Name
    have hv:=v1.len
    obtain⟨hp,hp'⟩:=(z9u (a:=q5C g x.Name) (r:=y) (by omega) (by omega))
    have hb2:=k9U (a:=q5C g x.Name) (r:=y) (by omega)
    have hsl:s.length≤4:=by omega
    have e:q4v g q i x s=if (phO (q5C g x.Name) y).2=true then some (.inl (s++[(phO (q5C g x.Name) y).1])) else some (.inr ([],false)):=by
     unfold q4v
     rw[z6C (q7T h0),bsS,hq,bsS,hp,bsS]
     generalize phO (q5C g x.Name) y=z
     obtain⟨ps,c⟩:=z
     cases c with
     | false=>exact (ifN Gkz).trans (ifN Gkz).symm
     | true=>exact (ifP rfl).trans ((q3M (by constructor<;>omega)).trans (ifP rfl).symm)
    have e' : q7E g q true (s,(i:Int))=if (phO (q5C g x.Name) y).2=true then some (.inl (s++[(phO (q5C g x.Name) y).1],((i+1:Nat):Int))) else some (.inr (.inr ([],false))):=by
     unfold q7E
     dsimp only
     rw[ifP (by omega),ifP rfl,q3M (by omega),tnC,hgi,bsS,j3Y (q7T h0),bsS,q3M (by omega),hq,bsS,hp',bsS]
     generalize phO (q5C g x.Name) y=z
     obtain⟨ps,c⟩:=z
     cases c with
     | false=>exact (ifN Gkz).trans (ifN Gkz).symm
     | true=>exact (ifP rfl).trans ((q3M (by constructor<;>omega)).trans ((q3M (by constructor<;>omega)).trans (ifP rfl).symm))
    rw[findL,e]
    by_cases hb:(phO (q5C g x.Name) y).2=true
    ·rw[ifP hb] at e' ⊢
     rw[bsS,q4b e']
     exact ih (i+1) _ d2.symm (by simp[hs]) (by omega) fun p hp=>by
      rcases List.mem_append.1 hp with hp|hp
      ·exact hps p hp
      ·rw[Byz] at hp;subst hp;exact hb2
    ·rw[ifN hb] at e' ⊢
     exact .inr ⟨rfl,q3N e'⟩
  rcases key g.ss_ 0 [] rfl rfl (Aiz _) (fun p hp=>nomatch hp) with ⟨s',e,e',h1,h2⟩|⟨e,e'⟩
  ·rw[show ((0:Nat):Int)=0 from rfl] at e'
   rw[e,e'];exact⟨s',true,rfl,rfl,by omega,h2⟩
  ·rw[show ((0:Nat):Int)=0 from rfl] at e'
   rw[e,e'];exact⟨[],false,rfl,rfl,by simp,fun p hp=>(nomatch hp)⟩
theorem j0v {α ρ:Type}{c:ρ}{q:α→Bool}:∀ {xs:List α} {i:Nat} {f:Nat→α→Unit→Option (Unit ⊕ ρ)},(∀ k x,x∈xs→f k x ()=some (if q x=true then .inl () else .inr c))→findL f i xs ()=some (if xs.all q=true then .inl () else .inr c)
 | [],i,f,_=>rfl
 | x::xs,i,f,h=>by
  rw[findL,h i x Cwz,bsS]
  cases hq:q x with
  | true=>
   show findL f (i+1) xs ()=_
   rw[j0v fun k y hy=>h k y (Cjz _ hy)]
   simp[hq]
  | false=>simp[hq]
theorem z8s {α:Type}{q:α→Bool}:∀ {xs:List α} {i:Nat} {f:Nat→α→Unit→Option (Unit ⊕ Int)},(∀ k x,x∈xs→f k x ()=some (if q x=true then .inr (k:Int) else .inl ())) →
  ∃ z:Int,(findL f i xs ()).bind (onr (fun r1=>some r1) fun _=>some (-1))=some z∧decide (0≤z)=xs.any q
 | [],i,f,_=>⟨-1,rfl,rfl⟩
 | x::xs,i,f,h=>by
  rw[findL,h i x Cwz,bsS]
  cases hq:q x with
  | true=>exact⟨(i:Int),rfl,by simp[hq]⟩
  | false=>
   obtain⟨z,h1,h2⟩:=z8s (xs:=xs) (i:=i+1) fun k y hy=>h k y (Cjz _ hy)
   exact⟨z,h1,by simp[hq,h2]⟩
theorem j8O {α ρ:Type}:∀ {xs:List α} {i:Nat} {f:Nat→α→Unit→Option (Unit ⊕ ρ)},(∀ k x,∃ z,f k x ()=some z)→∃ z,findL f i xs ()=some z
 | [],i,f,_=>⟨_,rfl⟩
 | x::xs,i,f,h=>by
  obtain⟨z,hz⟩:=h i x
  rw[findL,hz,bsS]
  cases z with
  | inl u=>exact j8O (xs:=xs) (i:=i+1) h
  | inr r=>exact⟨_,rfl⟩
theorem j1k {α β:Type}{g:α→β}{B:Nat}{f:Nat→α→List β→Option (List β)}(hf:∀ k x s,s.length<B→f k x s=some (s++[g x])):∀ (xs:List α) (i:Nat) (s:List β),s.length+xs.length≤B→eachL f i xs s=some (s++xs.map g)
 | [],i,s,_=>by simp[eachL]
 | x::xs,i,s,h=>by
  simp only[lnC] at h
  rw[eachL,hf i x s (by omega),bsS,j1k hf xs (i+1) _ (by simp;omega)]
  simp
theorem k2P (g:Gm_)(n:BA_):q7g g n=z0C g n:=by
 have e:q4V n=z6i n:=by
  funext k x u
  unfold q4V z6i q9K
  rw[bsS]
  by_cases h:x.Name=n<;>simp[h]
 unfold q7g q4t z0C
 rw[e]
 exact Option.bind_fun_some _
theorem j5D (g:Gm_)(n:BA_):∃ k,z0C g n=some k:=by
 obtain⟨z,hz⟩:=j8O (xs:=g.ss_) (i:=0) (f:=z6i n) fun k x=>by
  unfold z6i;by_cases h:x.Name=n
  ·exact⟨_,ifP h⟩
  ·exact⟨_,ifN h⟩
 unfold z0C
 rw[hz]
 cases z with
 | inl u=>exact⟨_,rfl⟩
 | inr r=>exact⟨_,rfl⟩
noncomputable def phS (g:Gm_) (ph:List (List Ph_)) (n:BA_):List Ph_:=(q7l g ph n).getD []
theorem j8P (g:Gm_)(ph:List (List Ph_))(n:BA_):q7l g ph n=some (phS g ph n)∧(phS g ph n=[]∨phS g ph n∈ph):=by
 have:∃ p,q7l g ph n=some p∧(p=[]∨p∈ph):=by
  obtain⟨k,hk⟩:=j5D g n
  unfold q7l
  rw[hk,bsS,z4a,bsS]
  by_cases h:0≤k∧k≤(ph.length:Int)-1
  ·rw[ifP (by simpa using h),q3M h.1]
   obtain⟨x,hx⟩:∃ x,ph[k.toNat]?=some x:=⟨_,Auz (by omega)⟩
   rw[hx]
   exact⟨x,rfl,.inr (Ckz hx)⟩
  ·rw[ifN (by simpa using h)]
   exact⟨[],rfl,.inl rfl⟩
 obtain⟨p,h1,h2⟩:=this
 unfold phS
 rw[h1]
 exact⟨rfl,h2⟩
noncomputable def symS (r:Rule) (k:Int):BA_:=(q4K r k).getD ⟨#[]⟩
theorem k5i {r:Rule}(hl:r.rt_.length≤1048576)(k:Int):q4K r k=some (symS r k):=by
 have:∃ x,q4K r k=some x:=by
  unfold q4K
  by_cases h0:k=0
  ·exact⟨_,ifP h0⟩
  ·rw[ifN h0,z4a,bsS]
   by_cases h:1≤k∧k≤(r.rt_.length:Int)
   ·rw[ifP (by simpa using h),q3M (by constructor<;>omega),q3M (by omega)]
    obtain⟨x,hx⟩:∃ x,r.rt_[(k-1).toNat]?=some x:=⟨_,Auz (by omega)⟩
    exact⟨x,by rw[hx];rfl⟩
   ·exact⟨_,ifN (by simpa using h)⟩
 obtain⟨x,hx⟩:=this
 unfold symS
 rw[hx];rfl
theorem j8Q (r:Rule):symS r 0=r.Left:=by unfold symS q4K;rw[ifP rfl];rfl
theorem j5E {r:Rule}(hl:r.rt_.length≤1048576){k:Int}(h1:1≤k)(h2:k≤(r.rt_.length:Int)):r.rt_[(k-1).toNat]?=some (symS r k):=by
 obtain⟨x,hx⟩:∃ x,r.rt_[(k-1).toNat]?=some x:=⟨_,Auz (by omega)⟩
 unfold symS q4K
 rw[ifN (by omega),z4a,bsS,ifP (by simp;omega),q3M (by constructor<;>omega),q3M (by omega),hx];rfl
noncomputable def phP (g:Gm_) (ph:List (List Ph_)) (r:Rule) (k:Int):List Ph_:=phS g ph (symS r k)
theorem z0t {g:Gm_}{ph:List (List Ph_)}{r:Rule}(hl:r.rt_.length≤1048576)(due K:List Oc)(V:List Int)(k:Int):q5B k ⟨g,ph,r,due,K,V⟩=some (phP g ph r k):=by
 unfold q5B
 dsimp only
 rw[j1b,k5i hl,bsS,k2P]
 have h:=(j8P g ph (symS r k)).1
 unfold q7l at h
 obtain⟨j,hj⟩:=j5D g (symS r k)
 rw[hj,bsS,z4a] at h
 rw[hj,bsS,z8W]
 exact h
theorem j2t (K:List Oc)(o:Oc):q7C K o=some (decide (o∈K)):=by
 unfold q7C
 have hany:=z8j (c:=true) (xs:=K) (i:=0) (p:=fun _ x=>x=o) (f:=z5r o) fun k x _=>by
  unfold z5r
  exact⟨fun h=>ifP h,fun h=>ifN h⟩
 by_cases h:o∈K
 ·obtain⟨j,hj,e⟩:=Ftz h
  rw[hany.1 ⟨j,o,by rw[Auz hj,e],rfl⟩,decide_eq_true h];rfl
 ·rw[hany.2 fun k x hx e=>h (e▸Ckz hx),decide_eq_false h];rfl
theorem j0w (K:List Oc)(o:Oc):q3R K o=some (decide (o∈K)):=by
 unfold q3R q4a
 obtain⟨z,h1,h2⟩:=z8s (q:=fun x=>decide (x=o)) (xs:=K) (i:=0) (f:=q3U o) fun k x _=>by
  unfold q3U
  by_cases h:x=o
  ·rw[ifP h.symm,decide_eq_true h,ifP rfl]
  ·rw[ifN (fun e=>h e.symm),decide_eq_false h,ifN (by simp)]
 rw[h1,bsS,h2]
 congr 1
 by_cases h:o∈K
 ·rw[decide_eq_true h,Eoz];exact⟨o,h,by simp⟩
 ·rw[decide_eq_false h]
  rw[Epz]
  intro x hx e
  exact h (of_decide_eq_true e▸hx)
def z1O (K:List Oc)(pos:Int)(names:List BA_):Bool:=names.all fun n=>decide ((⟨pos,n⟩:Oc)∈K)
theorem k0p {α:Type}(q:α→Bool)(xs:List α):(!xs.any fun x=>!q x)=xs.all q:=by
 induction xs with
 | nil=>rfl
 | cons x xs ih=>simp only[List.any_cons,List.all_cons,← ih];cases q x<;>simp
theorem j8R (z:l28Work)(pos:Int)(names:List BA_):z2R z pos names=some (z1O z.known pos names):=by
 unfold z2R z1O
 rw[j0v (c:=false) (q:=fun n=>decide ((⟨pos,n⟩:Oc)∈z.known)) fun k x _=>by
  unfold j1z
  rw[j2t,bsS]
  by_cases h:(⟨pos,x⟩:Oc)∈z.known<;>simp[h]]
 cases names.all fun n=>decide ((⟨pos,n⟩:Oc)∈z.known)<;>rfl
theorem j4h (v:visits)(pos:Int)(names:List BA_):q8q v pos names=some (z1O v.known pos names):=by
 unfold q8q q4F q4W
 obtain⟨z,h1,h2⟩:=z8s (q:=fun n=>!decide ((⟨pos,n⟩:Oc)∈v.known)) (xs:=names) (i:=0) (f:=q5G v pos) fun k x _=>by
  unfold q5G z0z
  rw[j0w,bsS,bsS]
  split<;>rfl
 rw[h1,bsS,h2,bsS,k0p]
 rfl
theorem j8S {z:l28Work}(pos:Int)(names:List BA_)(h:z.known.length+names.length≤4398046511104):z2Q pos names z=some ⟨z.g,z.r,z.phases,z.known++names.map (fun n=>(⟨pos,n⟩:Oc)),z.visits,z.steps⟩:=by
 unfold z2Q
 rw[j1k (g:=fun n=>(⟨pos,n⟩:Oc)) (B:=4398046511104) (fun k x s hs=>by
  unfold j1y;rw[q3M (by constructor<;>omega)];try rfl) names 0 z.known h];rfl
theorem z8t {v:visits}(pos:Int)(names:List BA_)(h:v.known.length+names.length≤4398046511104):q7j pos names v=some ⟨v.g,v.phases,v.r,v.due,v.known++names.map (fun n=>(⟨pos,n⟩:Oc)),v.next⟩:=by
 unfold q7j
 rw[j1k (g:=fun n=>(⟨pos,n⟩:Oc)) (B:=4398046511104) (fun k x s hs=>by
  unfold z7k;rw[q3M (by constructor<;>omega)]) names 0 v.known h];rfl
noncomputable def z0u (r:Rule) (K:List Oc) (o:Oc):Bool:=(eqAt r o).2&&(attrs (eqAt r o).1).all fun u=>decide (u∈K)
theorem k2Q {z:l28Work}(h:Sz.szd z.r≤1048576)(o:Oc):z3J z o=some (z0u z.r z.known o):=by
 unfold z3J z0u
 rw[j2s h o,bsS]
 dsimp only
 rw[j6J (j6Q h o),bsS,j0v (c:=false) (q:=fun u=>decide (u∈z.known)) fun k x _=>by
  unfold z9Y
  rw[j2t,bsS]
  by_cases h:x∈z.known<;>simp[h]]
 cases (attrs (eqAt z.r o).1).all fun u=>decide (u∈z.known) with
 | true=>simp
 | false=>simp
theorem j5F {v:visits}(h:Sz.szd v.r≤1048576)(o:Oc):q8b v o=some (decide (o∈v.due)&&(!decide (o∈v.known)&&z0u v.r v.known o)):=by
 unfold q8b z0u
 rw[j0w,bsS]
 by_cases h1:o∈v.due
 ·rw[ifP (by simpa using h1),j0w,bsS]
  by_cases h2:o∈v.known
  ·rw[ifP (by simpa using h2)];simp[h2]
  ·rw[ifN (by simpa using h2),(j9W h o).2,bsS]
   dsimp only
   cases h3:(eqAt v.r o).2 with
   | false=>simp
   | true=>
    rw[ifP rfl,j2o (j6Q h o),bsS]
    unfold q4j q4x
    obtain⟨z,e1,e2⟩:=z8s (q:=fun u=>!decide (u∈v.known)) (xs:=attrs (eqAt v.r o).1) (i:=0) (f:=q5n v) fun k x _=>by
     unfold q5n q9x
     rw[j0w,bsS,bsS]
     split<;>rfl
    rw[e1,bsS,e2,bsS,k0p]
    simp[h1,h2]
 ·rw[ifN (by simpa using h1)];simp[h1]
def oS (x:Step):Oc:=⟨x.Pos,x.Name⟩
def at0 (V:List Int)(k:Int):Int:=V.getD k.toNat 0
def zP:Ph_:=⟨[],[]⟩
def addN (K:List Oc)(pos:Int)(names:List BA_):List Oc:=K++names.map fun n=>(⟨pos,n⟩:Oc)
noncomputable def k7a (r:Rule) (R K:List Oc) (x:Step):Bool:=decide (x.Visit=0)&&(decide (oS x∈R)&&(!decide (oS x∈K)&&z0u r K (oS x)))
noncomputable def phAt (g:Gm_) (ph:List (List Ph_)) (r:Rule) (k v:Int):Ph_:=(phP g ph r k).getD v.toNat zP
noncomputable def visB (g:Gm_) (ph:List (List Ph_)) (r:Rule) (K:List Oc) (V:List Int) (x:Step):Bool:=
 decide (x.Name=(⟨#[]⟩:BA_))&&(decide (1≤x.Pos∧x.Pos≤(r.rt_.length:Int))&&(decide (x.Visit=at0 V x.Pos+1)&&(decide (at0 V x.Pos<((phP g ph r x.Pos).length:Int))&&z1O K x.Pos (phAt g ph r x.Pos (at0 V x.Pos)).id_)))
noncomputable def z4b (g:Gm_) (ph:List (List Ph_)) (r:Rule) (K:List Oc) (V:List Int) (x:Step):Bool:=
 decide (x.Pos=0)&&(decide (x.Name=(⟨#[]⟩:BA_))&&(decide (at0 V 0<((phP g ph r 0).length:Int))&&(decide (x.Visit=at0 V 0+1)&&z1O K 0 (phAt g ph r 0 (at0 V 0)).sd_)))
noncomputable def j0x (g:Gm_) (ph:List (List Ph_)) (r:Rule) (R K:List Oc) (V:List Int) (x:Step):Option (List Oc×List Int):=
 if x.Kind=1 then (if k7a r R K x=true then some (K++[oS x],V) else none)
 else if x.Kind=2 then (if visB g ph r K V x=true then some (addN K x.Pos (phAt g ph r x.Pos (at0 V x.Pos)).sd_,V.set x.Pos.toNat (at0 V x.Pos+1)) else none)
 else if x.Kind=3 then (if z4b g ph r K V x=true then some ((if at0 V 0+1<((phP g ph r 0).length:Int) then addN K 0 (phAt g ph r 0 (at0 V 0+1)).id_ else K),V.set 0 (at0 V 0+1)) else none)
 else none
structure Iv (g:Gm_) (ph:List (List Ph_)) (r:Rule) (K:List Oc) (V:List Int) (B:Nat):Prop where
 len:V.length=r.rt_.length+1
 rng:∀ k:Nat,k≤r.rt_.length→0≤V.getD k 0∧V.getD k 0≤((phP g ph r (k:Int)).length:Int)
 kn:K.length≤B
theorem k0q (g:Gm_)(ph:List (List Ph_))(r:Rule)(k:Int):phP g ph r k=[]∨phP g ph r k∈ph:=(j8P g ph (symS r k)).2
def LenP (ph:List (List Ph_)):Prop:=∀ p∈ph,p.length≤1048576∧∀ y∈p,y.id_.length≤1048576∧y.sd_.length≤1048576
theorem k0r {ph:List (List Ph_)}(h:LenP ph)(g:Gm_)(r:Rule)(k:Int):(phP g ph r k).length≤1048576:=by
 rcases k0q g ph r k with e|e
 ·rw[e];simp
 ·exact (h _ e).1
theorem j0y {ph:List (List Ph_)}(h:LenP ph)(g:Gm_)(r:Rule)(k v:Int):(phAt g ph r k v).id_.length≤1048576∧(phAt g ph r k v).sd_.length≤1048576:=by
 unfold phAt
 rw[Ddz]
 cases hx:(phP g ph r k)[v.toNat]? with
 | none=>exact⟨Aiz _,Aiz _⟩
 | some p=>
  show p.id_.length≤_∧p.sd_.length≤_
  have hm:=Ckz hx
  rcases k0q g ph r k with e|e
  ·rw[e] at hm;simp at hm
  ·exact (h _ e).2 _ hm
theorem z0v {g:Gm_}{ph:List (List Ph_)}{r:Rule}{k v:Int}(h0:0≤v)(h1:v<((phP g ph r k).length:Int)):(phP g ph r k)[v.toNat]?=some (phAt g ph r k v):=by
 unfold phAt
 obtain⟨x,hx⟩:∃ x,(phP g ph r k)[v.toNat]?=some x:=⟨_,Auz (by omega)⟩
 rw[Ddz,hx];rfl
section
variable {g:Gm_}{ph:List (List Ph_)}{r:Rule}{R K K' : List Oc}{V V' : List Int}{B:Nat}{x:Step}
theorem Iv.at' (H:Iv g ph r K V B){k:Int}(h0:0≤k)(h1:k≤(r.rt_.length:Int)):0≤at0 V k∧at0 V k≤((phP g ph r k).length:Int)∧V[k.toNat]?=some (at0 V k):=by
 have h:=H.rng k.toNat (by omega)
 have e:((k.toNat:Nat):Int)=k:=by omega
 rw[e] at h
 refine⟨h.1,h.2,?_⟩
 unfold at0
 obtain⟨y,hy⟩:∃ y,V[k.toNat]?=some y:=⟨_,Auz (by rw[H.len];omega)⟩
 rw[Ddz,hy];rfl
theorem k1A {k:Int}{y:Int}(hk:k.toNat<V.length)(j:Int):at0 (V.set k.toNat y) j=if k.toNat=j.toNat then y else at0 V j:=by
 unfold at0
 rw[Ddz,Chz,Ddz]
 by_cases h:k.toNat=j.toNat
 ·rw[ifP h,ifP h,ifP (by omega)];rfl
 ·rw[ifN h,ifN h]
theorem Iv.set (H:Iv g ph r K V B){k:Int}{y:Int}(h0:0≤k)(h1:k≤(r.rt_.length:Int))(y0:0≤y)(y1:y≤((phP g ph r k).length:Int)){K' : List Oc}{B' : Nat}(hK:K'.length≤B'):Iv g ph r K' (V.set k.toNat y) B':=by
 refine⟨by simp[H.len],fun j hj=>?_,hK⟩
 have hkl:k.toNat<V.length:=by rw[H.len];omega
 have:=k1A (y:=y) hkl (j:Int)
 have hj' : at0 (V.set k.toNat y) (j:Int)=(V.set k.toNat y).getD j 0:=by unfold at0;rw[tnC]
 rw[← hj',this]
 by_cases h:k.toNat=((j:Nat):Int).toNat
 ·rw[ifP h]
  have e:((j:Nat):Int)=k:=by omega
  rw[e];exact⟨y0,y1⟩
 ·rw[ifN h]
  have:=H.rng j hj
  unfold at0;rw[tnC];exact this
theorem j7d (hph:LenP ph)(H:Iv g ph r K V B)(hs:j0x g ph r R K V x=some (K',V')):Iv g ph r K' V' (B+1048576):=by
 have hkn:=H.kn
 unfold j0x at hs
 by_cases k1:x.Kind=1
 ·rw[ifP k1] at hs
  split at hs
  ·cases hs
   exact⟨H.len,H.rng,by simp;omega⟩
  ·cases hs
 rw[ifN k1] at hs
 by_cases k2:x.Kind=2
 ·rw[ifP k2] at hs
  split at hs
  ·rename_i hv
   cases hs
   unfold visB at hv
   simp only[Akz,decide_eq_true_eq] at hv
   obtain⟨_,⟨p1,p2⟩,_,p3,_⟩:=hv
   obtain⟨a1,a2,_⟩:=H.at' (k:=x.Pos) (by omega) p2
   have:=(j0y hph g r x.Pos (at0 V x.Pos)).2
   exact H.set (by omega) p2 (by omega) (by omega) (by simp[addN];omega)
  ·cases hs
 rw[ifN k2] at hs
 by_cases k3:x.Kind=3
 ·rw[ifP k3] at hs
  split at hs
  ·rename_i hv
   cases hs
   unfold z4b at hv
   simp only[Akz,decide_eq_true_eq] at hv
   obtain⟨_,_,p3,_⟩:=hv
   obtain⟨a1,a2,_⟩:=H.at' (k:=0) (by omega) (by omega)
   have:=(j0y hph g r 0 (at0 V 0+1)).1
   refine H.set (k:=0) (by omega) (by omega) (by omega) (by omega) ?_
   split
   ·simp[addN];omega
   ·omega
  ·cases hs
 ·rw[ifN k3] at hs;cases hs
theorem k5j (H:Iv g ph r K V B){k:Int}(h0:1≤k)(h1:k≤(r.rt_.length:Int)):(V.drop 1)[(k-1).toNat]?=some (at0 V k):=by
 rw[List.getElem?_drop,show 1+(k-1).toNat=k.toNat by omega]
 exact (H.at' (by omega) h1).2.2
end
section
variable {g:Gm_}{ph:List (List Ph_)}{r:Rule}{R K K' : List Oc}{V V' : List Int}{B:Nat}{x:Step}
theorem z9v (hr:Sz.szd r≤1048576)(H:Iv g ph r K V B)(k:Int):q7r ⟨g,ph,r,R,K,V⟩ k=some (decide (1≤k∧k≤(r.rt_.length:Int))&&(decide (at0 V k<((phP g ph r k).length:Int))&&z1O K k (phAt g ph r k (at0 V k)).id_)):=by
 have hl:=q5e hr
 unfold q7r
 rw[z0t hl,bsS,z8W,bsS]
 dsimp only
 by_cases hp:1≤k∧k≤(r.rt_.length:Int)
 ·obtain⟨a1,a2,a3⟩:=H.at' (k:=k) (by omega) hp.2
  rw[ifP (by simpa using hp),q3M (by omega),a3,bsS,bsS]
  by_cases hc:at0 V k<((phP g ph r k).length:Int)
  ·rw[ifP (by simpa using hc),q3M (by omega),bsS,q3M a1,z0v a1 hc,bsS,j4h,bsS,bsS]
   simp[hp,hc]
  ·rw[ifN (by simpa using hc)];simp[hc]
 ·rw[ifN (by simpa using hp)];simp[hp]
theorem k7b (hph:LenP ph)(hr:Sz.szd r≤1048576)(H:Iv g ph r K V B)(hB:B≤2199023255552){k:Int}(hp:1≤k∧k≤(r.rt_.length:Int))(hc:at0 V k<((phP g ph r k).length:Int)) :
  q7k k ⟨g,ph,r,R,K,V⟩=some ⟨g,ph,r,R,addN K k (phAt g ph r k (at0 V k)).sd_,V.set k.toNat (at0 V k+1)⟩:=by
 have hl:=q5e hr
 have hkn:=H.kn
 obtain⟨a1,a2,a3⟩:=H.at' (k:=k) (by omega) hp.2
 have hpl:=k0r hph g r k
 have hlen:=(j0y hph g r k (at0 V k)).2
 unfold q7k
 rw[z0t hl,bsS]
 dsimp only
 rw[q3M (by omega),a3,bsS,q3M a1,z0v a1 hc,bsS,z8t _ _ (by dsimp only;omega),bsS]
 dsimp only
 rw[q3M (by omega),a3,bsS,q3M (by constructor<;>omega)];rfl
theorem k2R (hph:LenP ph)(hr:Sz.szd r≤1048576)(H:Iv g ph r K V B)(hB:B≤2199023255552):q9h x ⟨g,ph,r,R,K,V⟩=some (match j0x g ph r R K V x with|some (K',V')=>(true,⟨g,ph,r,R,K',V'⟩)|none=>(false,⟨g,ph,r,R,K,V⟩)):=by
 have hl:=q5e hr
 have hkn:=H.kn
 unfold q9h j0x
 dsimp only
 by_cases k1:x.Kind=1
 ·rw[ifP k1,ifP k1]
  unfold k7a
  by_cases h0:x.Visit=0
  ·rw[ifP h0,j5F hr,bsS]
   dsimp only
   have e:(decide (x.Visit=0)&&(decide (oS x∈R)&&(!decide (oS x∈K)&&z0u r K (oS x))))=(decide ((⟨x.Pos,x.Name⟩:Oc)∈R)&&(!decide ((⟨x.Pos,x.Name⟩:Oc)∈K)&&z0u r K (⟨x.Pos,x.Name⟩:Oc))):=by unfold oS;simp[h0]
   rw[e]
   cases (decide ((⟨x.Pos,x.Name⟩:Oc)∈R)&&(!decide ((⟨x.Pos,x.Name⟩:Oc)∈K)&&z0u r K (⟨x.Pos,x.Name⟩:Oc))) with
   | true=>rw[ifP rfl,ifP rfl,q3M (by constructor<;>omega)];rfl
   | false=>rfl
  ·have e:(decide (x.Visit=0)&&(decide (oS x∈R)&&(!decide (oS x∈K)&&z0u r K (oS x))))=false:=by simp[h0]
   rw[ifN h0,e];rfl
 rw[ifN k1,ifN k1]
 by_cases k2:x.Kind=2
 ·rw[ifP k2,ifP k2]
  by_cases hn:x.Name=(⟨#[]⟩:BA_)
  ·rw[ifP hn,z9v hr H,bsS]
   by_cases hm:(decide (1≤x.Pos∧x.Pos≤(r.rt_.length:Int))&&(decide (at0 V x.Pos<((phP g ph r x.Pos).length:Int))&&z1O K x.Pos (phAt g ph r x.Pos (at0 V x.Pos)).id_))=true
   ·rw[ifP hm]
    have hm':=hm
    simp only[Akz,decide_eq_true_eq] at hm'
    obtain⟨hp,hc,hk⟩:=hm'
    obtain⟨a1,a2,a3⟩:=H.at' (k:=x.Pos) (by omega) hp.2
    have hpl:=k0r hph g r x.Pos
    rw[q3M (by omega),a3,bsS,q3M (by constructor<;>omega)]
    by_cases hv:x.Visit=at0 V x.Pos+1
    ·have hb:visB g ph r K V x=true:=by unfold visB;simp[hn,hp.1,hp.2,hv,hc,hk]
     rw[ifP hv,k7b hph hr H hB hp hc,bsS,hb,ifP rfl]
    ·have hb:visB g ph r K V x=false:=by unfold visB;simp[hv]
     rw[ifN hv,hb,ifN (by simp)]
   ·have hb:visB g ph r K V x=false:=by
     cases hq:visB g ph r K V x with
     | false=>rfl
     | true=>
      unfold visB at hq
      simp only[Akz,decide_eq_true_eq] at hq
      exact absurd (by simp only[Akz,decide_eq_true_eq];exact⟨hq.2.1,hq.2.2.2.1,hq.2.2.2.2⟩) hm
    rw[ifN hm,hb,ifN (by simp)]
  ·have hb:visB g ph r K V x=false:=by unfold visB;simp[hn]
   rw[ifN hn,hb,ifN (by simp)]
 rw[ifN k2,ifN k2]
 by_cases k3:x.Kind=3
 ·obtain⟨a1,a2,a3⟩:=H.at' (k:=0) (by omega) (by omega)
  have hpl:=k0r hph g r 0
  have a3' : V[0]?=some (at0 V 0):=a3
  rw[ifP k3,ifP k3,z0t hl,bsS]
  by_cases h1:x.Pos=0
  ·rw[ifP h1]
   by_cases h2:x.Name=(⟨#[]⟩:BA_)
   ·rw[ifP h2,a3',bsS]
    by_cases hv:at0 V 0<((phP g ph r 0).length:Int)
    ·rw[ifN (by omega),q3M (by constructor<;>omega)]
     by_cases h3:x.Visit=at0 V 0+1
     ·rw[ifP h3,q3M a1,z0v a1 hv,bsS,j4h,bsS]
      dsimp only
      cases hk:z1O K 0 (phAt g ph r 0 (at0 V 0)).sd_ with
      | true=>
       have hb:z4b g ph r K V x=true:=by unfold z4b;simp[h1,h2,hv,h3,hk]
       have e0:(V.set 0 (at0 V 0+1))[0]?=some (at0 V 0+1):=by rw[Chz,ifP rfl,ifP (by rw[H.len];omega)]
       rw[hb,ifP rfl,ifP rfl,q3M (by constructor<;>omega),e0,bsS]
       by_cases hw:at0 V 0+1<((phP g ph r 0).length:Int)
       ·have hlen:=(j0y hph g r 0 (at0 V 0+1)).1
        rw[ifP hw,ifP hw,q3M (by omega),z0v (by omega) hw,bsS,z8t _ _ (by dsimp only;omega),bsS];rfl
       ·rw[ifN hw,ifN hw]
      | false=>
       have hb:z4b g ph r K V x=false:=by unfold z4b;simp[hk]
       rw[hb,ifN (by simp),ifN (by simp)]
     ·have hb:z4b g ph r K V x=false:=by unfold z4b;simp[h3]
      rw[ifN h3,hb,ifN (by simp)]
    ·have hb:z4b g ph r K V x=false:=by unfold z4b;simp[hv]
     rw[ifP (by omega),hb,ifN (by simp)]
   ·have hb:z4b g ph r K V x=false:=by unfold z4b;simp[h2]
    rw[ifN h2,hb,ifN (by simp)]
  ·have hb:z4b g ph r K V x=false:=by unfold z4b;simp[h1]
   rw[ifN h1,hb,ifN (by simp)]
 ·rw[ifN k3,ifN k3]
noncomputable def runS (g:Gm_) (ph:List (List Ph_)) (r:Rule) (R:List Oc):List Step→List Oc→List Int→Option (List Oc×List Int)
 | [],K,V=>some (K,V)
 | x::xs,K,V=>if at0 V 0<((phP g ph r 0).length:Int) then (match j0x g ph r R K V x with
  | some (K',V')=>runS g ph r R xs K' V'
  | none=>none) else none
theorem k5k (hph:LenP ph):∀ (xs:List Step) {K:List Oc} {V:List Int} {B:Nat},Iv g ph r K V B→∀ {K' V'},runS g ph r R xs K V=some (K',V')→Iv g ph r K' V' (B+xs.length*1048576)
 | [],K,V,B,H,K',V',h=>by cases h;simpa using H
 | x::xs,K,V,B,H,K',V',h=>by
  rw[runS] at h
  split at h
  ·cases hs:j0x g ph r R K V x with
   | none=>rw[hs] at h;cases h
   | some q=>
    obtain⟨K1,V1⟩:=q
    rw[hs] at h
    have:=k5k hph xs (j7d hph H hs) h
    rw[lnC]
    exact⟨this.len,this.rng,by have:=this.kn;omega⟩
  ·cases h
abbrev stI (r:Rule)(R K:List Oc)(V:List Int):BA_×BA_×Bool×(List Oc)×(List Oc)×(List Int):=(r.Name,r.Left,r.ll_,R,K,V)
theorem iRun (hph:LenP ph)(hr:Sz.szd r≤1048576)(a3:List Step)(y1:visits)(hy:y1.g=g∧y1.phases=ph∧y1.r.rt_=r.rt_∧y1.r.es_=r.es_∧y1.r.cs_=r.cs_)(ha:a3.length≤1048576):∀ (xs:List Step) (i:Nat) {K:List Oc} {V:List Int} {B:Nat},i+xs.length=a3.length→Iv g ph r K V B→B+xs.length*1048576≤2199023255552→(xs=[]∨at0 V 0<((phP g ph r 0).length:Int)) →
  findL (z0D a3 y1 (phP g ph r 0)) i xs (stI r R K V)=some (match runS g ph r R xs K V with|some (K',V')=>.inl (stI r R K' V')|none=>.inr false)
 | [],i,K,V,B,hi,H,hB,hv=>rfl
 | x::xs,i,K,V,B,hi,H,hB,hv=>by
  rw[lnC] at hB hi
  have hv:=hv.resolve_left (by simp)
  have hrec:(⟨y1.g,y1.phases,(⟨r.Name,r.Left,y1.r.rt_,r.ll_,y1.r.es_,y1.r.cs_⟩:Rule),R,K,V⟩:visits)=⟨g,ph,r,R,K,V⟩:=by
   obtain⟨h1,h2,h3,h4,h5⟩:=hy
   rw[h1,h2,h3,h4,h5]
  rw[findL,runS,ifP hv]
  have hstep:z0D a3 y1 (phP g ph r 0) i x (stI r R K V)=some (match j0x g ph r R K V x with|some (K',V')=>(if at0 V' 0=((phP g ph r 0).length:Int)∧xs≠[] then .inr false else .inl (stI r R K' V'))|none=>.inr false):=by
   unfold z0D
   dsimp only
   rw[hrec,k2R hph hr H (by omega),bsS]
   cases hs:j0x g ph r R K V x with
   | none=>rfl
   | some q=>
    obtain⟨K1,V1⟩:=q
    have H1:=j7d hph H hs
    obtain⟨a1,a2,a3'⟩:=H1.at' (k:=0) (by omega) (by omega)
    have a3'' : V1[0]?=some (at0 V1 0):=a3'
    dsimp only
    rw[ifP rfl,a3'',bsS]
    by_cases he:at0 V1 0=((phP g ph r 0).length:Int)
    ·rw[ifP he,bsS]
     dsimp only
     rw[bsS]
     dsimp only
     cases xs with
     | nil=>
      simp only[Ekz] at hi
      rw[ifN (by simp;omega),ifN (by simp)]
     | cons z zs=>
      simp only[lnC] at hi
      rw[ifP (by simp;omega),ifP ⟨he,by simp⟩]
    ·rw[ifN he,bsS]
     dsimp only
     rw[bsS]
     dsimp only
     rw[ifN (by simp),ifN (fun h=>he h.1)]
  rw[hstep,bsS]
  cases hs:j0x g ph r R K V x with
  | none=>rfl
  | some q=>
   obtain⟨K1,V1⟩:=q
   have H1:=j7d hph H hs
   obtain⟨a1,a2,a3'⟩:=H1.at' (k:=0) (by omega) (by omega)
   dsimp only
   by_cases hc:at0 V1 0=((phP g ph r 0).length:Int)∧xs≠[]
   ·rw[ifP hc]
    cases xs with
    | nil=>exact absurd rfl hc.2
    | cons z zs=>rw[runS,ifN (by omega)]
   ·rw[ifN hc]
    refine iRun hph hr a3 y1 hy ha xs (i+1) (by omega) H1 (by omega) ?_
    by_cases hx:xs=[]
    ·exact .inl hx
    ·exact .inr (by have:¬ at0 V1 0=((phP g ph r 0).length:Int):=fun h=>hc ⟨h,hx⟩;omega)
end
section
variable {g:Gm_}{ph:List (List Ph_)}{r:Rule}{R K K' : List Oc}{V V' : List Int}{B:Nat}
noncomputable def z7s (g:Gm_) (ph:List (List Ph_)) (r:Rule) (R K:List Oc) (V:List Int):Bool:=
 R.all (fun o=>decide (o∈K))&&(Awz r.rt_.length).all fun j=>decide (V.getD (j+1) 0=((phP g ph r ((j+1:Nat):Int)).length:Int))
theorem k5l (hr:Sz.szd r≤1048576)(hR:q3T g r=some R)(H:Iv g ph r K V B):z1w ⟨g,r,ph,K,V.drop 1,[]⟩=some (z7s g ph r R K V):=by
 have hl:=q5e hr
 unfold z1w z7s
 dsimp only
 rw[hR,bsS,j0v (c:=false) (q:=fun o=>decide (o∈K)) fun k x _=>by
  unfold j1B
  rw[j2t,bsS]
  by_cases h:x∈K<;>simp[h]]
 cases R.all (fun o=>decide (o∈K)) with
 | false=>rfl
 | true=>
  rw[ifP rfl,bsS]
  show ((findL (z5u ⟨g,r,ph,K,V.drop 1,[]⟩) 0 r.rt_ ()).bind _:Option Bool)=_
  have hany:=z8j (c:=false) (xs:=r.rt_) (i:=0) (p:=fun j _=>V.getD (j+1) 0≠((phP g ph r ((j+1:Nat):Int)).length:Int)) (f:=z5u ⟨g,r,ph,K,V.drop 1,[]⟩) fun j y hy=>by
   rw[Ahz]
   have hj:=(List.getElem?_eq_some_iff.1 hy).1
   have h1:=k5j H (k:=((j+1:Nat):Int)) (by omega) (by omega)
   have h2:=j5E hl (k:=((j+1:Nat):Int)) (by omega) (by omega)
   have e:(((j+1:Nat):Int)-1).toNat=j:=by omega
   rw[e] at h1 h2
   rw[hy] at h2
   cases h2
   have h3:at0 V ((j+1:Nat):Int)=V.getD (j+1) 0:=by unfold at0;rw[tnC]
   unfold z5u
   dsimp only
   rw[h1,bsS,(j8P g ph _).1,bsS,h3]
   exact⟨fun h=>ifN h,fun h=>ifP (Classical.not_not.1 h)⟩
  cases hb:(Awz r.rt_.length).all fun j=>decide (V.getD (j+1) 0=((phP g ph r ((j+1:Nat):Int)).length:Int)) with
  | true=>
   rw[hany.2 fun j y hy hp=>?_]
   ·rfl
   ·rw[Ahz] at hp
    have hj:=(List.getElem?_eq_some_iff.1 hy).1
    have:=List.all_eq_true.1 hb j (List.mem_range.2 hj)
    exact hp (of_decide_eq_true this)
  | false=>
   have:∃ j,j<r.rt_.length∧V.getD (j+1) 0≠((phP g ph r ((j+1:Nat):Int)).length:Int):=by
    apply Classical.byContradiction
    intro hn
    have:((Awz r.rt_.length).all fun j=>decide (V.getD (j+1) 0=((phP g ph r ((j+1:Nat):Int)).length:Int)))=true:=List.all_eq_true.2 fun j hj=>decide_eq_true (Classical.not_not.1 fun h=>hn ⟨j,List.mem_range.1 hj,h⟩)
    rw[this] at hb;cases hb
   obtain⟨j,hj,hp⟩:=this
   rw[hany.1 ⟨j,_,Auz hj,by rw[Ahz];exact hp⟩];rfl
theorem j4i (hr:Sz.szd r≤1048576)(H:Iv g ph r K V B):q5T ⟨g,ph,r,R,K,V⟩=some (z7s g ph r R K V):=by
 have hl:=q5e hr
 have hR:q3P R ⟨g,ph,r,R,K,V⟩=some (!R.all fun o=>decide (o∈K)):=by
  unfold q3P q4s
  obtain⟨z,h1,h2⟩:=z8s (q:=fun u=>!decide (u∈K)) (xs:=R) (i:=0) (f:=q5f ⟨g,ph,r,R,K,V⟩) fun k x _=>by
   unfold q5f q8Y
   rw[j0w,bsS,bsS]
   split<;>rfl
  rw[h1,bsS,h2,← k0p,Bool.not_not]
 have hloop:∀ m j:Nat,j+m=r.rt_.length→(∀ q,q<j→V.getD (q+1) 0=((phP g ph r ((q+1:Nat):Int)).length:Int))→q4G (q8r ⟨g,ph,r,R,K,V⟩) ((j+1:Nat):Int)=some (if ((Awz r.rt_.length).all fun j=>decide (V.getD (j+1) 0=((phP g ph r ((j+1:Nat):Int)).length:Int)))=true then .inl () else .inr false):=by
  intro m
  induction m with
  | zero=>
   intro j hj hq
   have hb:((Awz r.rt_.length).all fun j=>decide (V.getD (j+1) 0=((phP g ph r ((j+1:Nat):Int)).length:Int)))=true:=List.all_eq_true.2 fun q h=>decide_eq_true (hq q (by have:=List.mem_range.1 h;omega))
   rw[hb,ifP rfl]
   exact q3N (by unfold q8r;dsimp only;rw[ifN (by omega)])
  | succ m ih=>
   intro j hj hq
   have h3:at0 V ((j+1:Nat):Int)=V.getD (j+1) 0:=by unfold at0;rw[tnC]
   obtain⟨a1,a2,a3⟩:=H.at' (k:=((j+1:Nat):Int)) (by omega) (by omega)
   rw[h3] at a1 a2 a3
   by_cases hc:V.getD (j+1) 0<((phP g ph r ((j+1:Nat):Int)).length:Int)
   ·have hb:((Awz r.rt_.length).all fun j=>decide (V.getD (j+1) 0=((phP g ph r ((j+1:Nat):Int)).length:Int)))=false:=by
     rw[List.all_eq_false]
     exact⟨j,List.mem_range.2 (by omega),by rw[decide_eq_false (by omega)];exact Gkz⟩
    rw[hb,ifN (by simp)]
    refine q3N ?_
    unfold q8r
    dsimp only
    rw[ifP (by omega),q3M (by omega),a3,bsS,z0t hl,bsS,ifP hc]
   ·rw[q4b (s':=((j+1+1:Nat):Int)) (by
     unfold q8r
     dsimp only
     rw[ifP (by omega),q3M (by omega),a3,bsS,z0t hl,bsS,ifN hc,q3M (by constructor<;>omega)];rfl)]
    refine ih (j+1) (by omega) fun q hq'=>?_
    by_cases e:q=j
    ·rw[e];exact Int.le_antisymm a2 (Int.not_lt.1 hc)
    ·exact hq q (by omega)
 have h0:=hloop r.rt_.length 0 (by omega) (fun q hq=>by omega)
 have e1:((0+1:Nat):Int)=1:=rfl
 rw[e1] at h0
 unfold q5T z7s
 rw[h0,bsS]
 cases (Awz r.rt_.length).all fun j=>decide (V.getD (j+1) 0=((phP g ph r ((j+1:Nat):Int)).length:Int)) with
 | false=>simp
 | true=>
  show (q3P R ⟨g,ph,r,R,K,V⟩).bind _=_
  rw[hR,bsS,Bool.not_not,Bool.and_true]
end
noncomputable def k7c (g:Gm_) (ph:List (List Ph_)) (r:Rule) (R:List Oc) (st:List Step):Bool:=
 if (phP g ph r 0).length=0 then false else match runS g ph r R st (addN [] 0 (phAt g ph r 0 0).id_) (Cbz (r.rt_.length+1) 0) with
  | none=>false
  | some (K,V)=>decide (at0 V 0=((phP g ph r 0).length:Int))&&z7s g ph r R K V
theorem k7d {g:Gm_}{ph:List (List Ph_)}{r:Rule}{st:List Step}(hg:Sz.szd g≤1048576)(hph:LenP ph)(hr:Sz.szd r≤1048576)(hs:st.length≤1048576):q7F g ph r st=some (k7c g ph r (reqL g r) st):=by
 have hl:=q5e hr
 have hR:=j1f (q7T hg) hl
 have hR':=j6S (q7T hg) hl
 generalize reqL g r=R at hR hR' ⊢
 have hlen:=(j0y hph g r 0 0).1
 have hI:Iv g ph r (addN [] 0 (phAt g ph r 0 0).id_) (Cbz (r.rt_.length+1) 0) 1048576:=by
  refine⟨by simp,fun k hk=>?_,by simp[addN];omega⟩
  rw[Ddz,Fvz,ifP (by omega)]
  exact⟨Giz _,by show (0:Int)≤_;omega⟩
 have h00:at0 (Cbz (r.rt_.length+1) 0) 0=0:=by unfold at0;rw[Ddz,Fvz,ifP (by simp)];rfl
 have hdrop:(Cbz (r.rt_.length+1) (0:Int)).drop 1=Cbz r.rt_.length 0:=by rw[Gaz];rfl
 have hp0:phS g ph r.Left=phP g ph r 0:=by unfold phP;rw[j8Q]
 ·unfold q7F k7c z2J
  rw[hR',bsS,q3M (by constructor<;>omega),q3M (by constructor<;>omega),bsS,z0t hl,bsS]
  by_cases h0:(phP g ph r 0).length=0
  ·rw[ifP (by omega),bsS,ifP rfl,ifP h0]
  ·have hx:=z0v (g:=g) (ph:=ph) (r:=r) (k:=0) (v:=0) (by omega) (by omega)
   have hx' : (phP g ph r 0)[0]?=some (phAt g ph r 0 0):=hx
   rw[ifN (by omega),bsS,ifN h0]
   by_cases hst0:st.length=0
   ·obtain rfl:=Ayz hst0
    rw[ifP (by simp),runS]
    have:¬ (0:Int)=((phP g ph r 0).length:Int):=by omega
    dsimp only
    rw[h00];simp[this]
   ·rw[ifN (by simp;exact fun e=>hst0 (by rw[e];rfl)),hx',bsS,z8t _ _ (by dsimp only;simp;omega),bsS]
    dsimp only
    have hst:(r.Name,r.Left,r.ll_,R,[]++(phAt g ph r 0 0).id_.map (fun n=>(⟨0,n⟩:Oc)),(Cbz (r.rt_.length+1) (0:Int)))=stI r R (addN [] 0 (phAt g ph r 0 0).id_) (Cbz (r.rt_.length+1) 0):=rfl
    rw[hst,iRun (g:=g) (ph:=ph) (r:=r) hph hr st _ ⟨rfl,rfl,rfl,rfl,rfl⟩ hs st 0 (by omega) hI (by omega) (.inr (by rw[h00];omega)),bsS]
    cases hrun:runS g ph r R st (addN [] 0 (phAt g ph r 0 0).id_) (Cbz (r.rt_.length+1) 0) with
    | none=>rfl
    | some q=>
     obtain⟨K,V⟩:=q
     have HI:=k5k hph st hI hrun
     obtain⟨a1,a2,a3⟩:=HI.at' (k:=0) (by omega) (by omega)
     have a3' : V[0]?=some (at0 V 0):=a3
     show ((V[0]?).bind fun x4=>(if x4=((phP g ph r 0).length:Int) then (q5T ⟨g,ph,r,R,K,V⟩).bind fun y4=>some y4 else some false).bind fun s11=>some s11)=_
     rw[a3',bsS]
     by_cases he:at0 V 0=((phP g ph r 0).length:Int)
     ·rw[ifP he,j4i hr HI,bsS,bsS];simp[he]
     ·rw[ifN he];simp[he]
theorem j4j {α ρ:Type}{q:α→Bool}{h:α→ρ}:∀ {xs:List α} {i:Nat} {f:Nat→α→Unit→Option (Unit ⊕ ρ)},(∀ k x,x∈xs→f k x ()=some (if q x=true then .inr (h x) else .inl ()))→findL f i xs ()=some (match xs.find? q with|some x=>.inr (h x)|none=>.inl ())
 | [],i,f,_=>rfl
 | x::xs,i,f,hf=>by
  rw[findL,hf i x Cwz,bsS,List.find?_cons]
  cases hq:q x with
  | true=>rfl
  | false=>exact j4j (xs:=xs) (i:=i+1) fun k y hy=>hf k y (Cjz _ hy)
def fndN (q:Nat→Bool):Nat→Nat→Option Nat
 | _,0=>none
 | i,n+1=>if q i=true then some i else fndN q (i+1) n
theorem j0z {q:Nat→Bool}{k:Nat}:∀ {n i:Nat},fndN q i n=some k→i≤k∧k<i+n∧q k=true
 | 0,i,h=>by cases h
 | n+1,i,h=>by
  rw[fndN] at h
  by_cases hq:q i=true
  ·rw[ifP hq] at h;cases h;exact⟨Adz _,by omega,hq⟩
  ·rw[ifN hq] at h
   obtain⟨a,b,c⟩:=j0z (n:=n) h
   exact⟨by omega,by omega,c⟩
theorem j5G {α ρ:Type}{q:Nat→Bool}{h:Nat→ρ}:∀ {xs:List α} {i:Nat} {f:Nat→α→Unit→Option (Unit ⊕ ρ)},(∀ k x,xs[k]?=some x→f (i+k) x ()=some (if q (i+k)=true then .inr (h (i+k)) else .inl ()))→findL f i xs ()=some (match fndN q i xs.length with|some k=>.inr (h k)|none=>.inl ())
 | [],i,f,_=>rfl
 | x::xs,i,f,hf=>by
  rw[findL,show f i x ()=some (if q i=true then .inr (h i) else .inl ()) from hf 0 x rfl,bsS,lnC,fndN]
  by_cases hq:q i=true
  ·rw[ifP hq,ifP hq]
  ·rw[ifN hq,ifN hq]
   refine j5G (xs:=xs) (i:=i+1) fun k y hy=>?_
   have:=hf (k+1) y hy
   rw[show i+1+k=i+(k+1) by omega];exact this
theorem j4k {ph:List (List Ph_)}(h:∀ p∈ph,PS p)(g:Gm_)(r:Rule)(k:Int):PS (phP g ph r k):=by
 rcases k0q g ph r k with e|e
 ·rw[e];exact⟨by simp,fun x hx=>nomatch hx⟩
 ·exact h _ e
theorem k5m {ph:List (List Ph_)}(h:∀ p∈ph,PS p)(g:Gm_)(r:Rule){k v:Int}(h0:0≤v)(h1:v<((phP g ph r k).length:Int)):PB (phAt g ph r k v):=
 (j4k h g r k).2 _ (Ckz (z0v h0 h1))
section
variable {g:Gm_}{ph:List (List Ph_)}{r:Rule}{R K K' : List Oc}{V V' : List Int}{B:Nat}{x:Step}
noncomputable def nxE (r:Rule) (R K:List Oc):Option Oc:=R.find? fun o=>!decide (o∈K)&&z0u r K o
noncomputable def vsB (g:Gm_) (ph:List (List Ph_)) (r:Rule) (K:List Oc) (V:List Int) (j:Nat):Bool:=decide (at0 V ((j+1:Nat):Int)<((phP g ph r ((j+1:Nat):Int)).length:Int))&&z1O K ((j+1:Nat):Int) (phAt g ph r ((j+1:Nat):Int) (at0 V ((j+1:Nat):Int))).id_
noncomputable def nxV (g:Gm_) (ph:List (List Ph_)) (r:Rule) (K:List Oc) (V:List Int):Option Nat:=fndN (vsB g ph r K V) 0 r.rt_.length
noncomputable def vsK (g:Gm_) (ph:List (List Ph_)) (r:Rule) (K:List Oc) (V:List Int) (j:Nat):List Oc:=addN K ((j+1:Nat):Int) (phAt g ph r ((j+1:Nat):Int) (at0 V ((j+1:Nat):Int))).sd_
def vsV (V:List Int)(j:Nat):List Int:=V.set (j+1) (at0 V ((j+1:Nat):Int)+1)
def vsS (V:List Int)(j:Nat):Step:=⟨2,((j+1:Nat):Int),at0 V ((j+1:Nat):Int)+1,(⟨#[]⟩:BA_)⟩
def evS (o:Oc):Step:=⟨1,o.Pos,0,o.Name⟩
theorem j7e (hr:Sz.szd r≤1048576)(hR:q3T g r=some R)(hK:K.length<3000000000000)(vs:List Int)(st:List Step)(hs:st.length<3000000000000):z6m ⟨g,r,ph,K,vs,st⟩=some (match nxE r R K with|some o=>(true,⟨g,r,ph,K++[o],vs,st++[evS o]⟩)|none=>(false,⟨g,r,ph,K,vs,st⟩)):=by
 unfold z6m nxE
 dsimp only
 rw[hR,bsS,j4j (q:=fun o=>!decide (o∈K)&&z0u r K o) (h:=fun o=>((true,⟨g,r,ph,K++[o],vs,st++[evS o]⟩):Bool×l28Work)) fun k x _=>by
  unfold j3h
  dsimp only
  rw[j2t,bsS]
  by_cases h:x∈K
  ·rw[ifP (by simpa using h)];simp[h]
  ·rw[ifN (by simpa using h),k2Q hr,bsS]
   dsimp only
   cases hi:z0u r K x with
   | true=>rw[ifP rfl,q3M (by constructor<;>omega),q3M (by constructor<;>omega)];simp[h,evS]
   | false=>simp]
 cases R.find? (fun o=>!decide (o∈K)&&z0u r K o)<;>rfl
theorem j4l (hph:∀ p∈ph,PS p)(hr:Sz.szd r≤1048576)(H:Iv g ph r K V B)(hB:B≤3000000000000)(st:List Step)(hs:st.length<3000000000000):z4U ⟨g,r,ph,K,V.drop 1,st⟩=some (match nxV g ph r K V with|some j=>(true,⟨g,r,ph,vsK g ph r K V j,(vsV V j).drop 1,st++[vsS V j]⟩)|none=>(false,⟨g,r,ph,K,V.drop 1,st⟩)):=by
 have hl:=q5e hr
 have hkn:=H.kn
 unfold z4U nxV
 dsimp only
 rw[j5G (q:=vsB g ph r K V) (h:=fun j=>((true,⟨g,r,ph,vsK g ph r K V j,(vsV V j).drop 1,st++[vsS V j]⟩):Bool×l28Work)) fun j y hy=>by
  rw[Ahz]
  have hj:=(List.getElem?_eq_some_iff.1 hy).1
  have h1:=k5j H (k:=((j+1:Nat):Int)) (by omega) (by omega)
  have h2:=j5E hl (k:=((j+1:Nat):Int)) (by omega) (by omega)
  have e:(((j+1:Nat):Int)-1).toNat=j:=by omega
  rw[e] at h1 h2
  rw[hy] at h2
  obtain⟨a1,a2,a3⟩:=H.at' (k:=((j+1:Nat):Int)) (by omega) (by omega)
  have hlen:=(j4k hph g r ((j+1:Nat):Int)).1
  have hy2:y=symS r ((j+1:Nat):Int):=Option.some.inj h2
  unfold j1A
  dsimp only
  rw[hy2,(j8P g ph _).1,bsS,h1,bsS]
  show (if at0 V ((j+1:Nat):Int)<((phP g ph r ((j+1:Nat):Int)).length:Int) then _ else _)=_
  by_cases hc:at0 V ((j+1:Nat):Int)<((phP g ph r ((j+1:Nat):Int)).length:Int)
  ·have hx:(phS g ph (symS r ((j+1:Nat):Int)))[(at0 V ((j+1:Nat):Int)).toNat]?=some (phAt g ph r ((j+1:Nat):Int) (at0 V ((j+1:Nat):Int))):=z0v a1 hc
   have hpb:=k5m hph g r a1 hc
   rw[ifP hc,q3M a1,hx,bsS,j8R,bsS]
   dsimp only
   unfold vsB
   cases hk:z1O K ((j+1:Nat):Int) (phAt g ph r ((j+1:Nat):Int) (at0 V ((j+1:Nat):Int))).id_ with
   | true=>
    rw[ifP rfl,q3M (by constructor<;>omega),q3M (by constructor<;>omega),q3M (by constructor<;>omega),j8S _ _ (by dsimp only;have:=hpb.2;omega),bsS]
    dsimp only
    rw[ifP (by rw[decide_eq_true hc];rfl),List.set_drop,show 1+j=j+1 by omega];rfl
   | false=>rw[ifN (by simp),ifN (by simp)]
  ·rw[ifN hc,ifN (by unfold vsB;rw[decide_eq_false hc];simp)]]
 cases fndN (vsB g ph r K V) 0 r.rt_.length<;>rfl
theorem k5n (hph:∀ p∈ph,PS p)(hr:Sz.szd r≤1048576)(H:Iv g ph r K V B)(hB:B≤3000000000000){k:Int}(hp:1≤k∧k≤(r.rt_.length:Int))(hc:at0 V k<((phP g ph r k).length:Int)) :
  q7k k ⟨g,ph,r,R,K,V⟩=some ⟨g,ph,r,R,addN K k (phAt g ph r k (at0 V k)).sd_,V.set k.toNat (at0 V k+1)⟩:=by
 have hl:=q5e hr
 have hkn:=H.kn
 obtain⟨a1,a2,a3⟩:=H.at' (k:=k) (by omega) hp.2
 have hpl:=(j4k hph g r k).1
 have hlen:=(k5m hph g r a1 hc).2
 unfold q7k
 rw[z0t hl,bsS]
 dsimp only
 rw[q3M (by omega),a3,bsS,q3M a1,z0v a1 hc,bsS,z8t _ _ (by dsimp only;omega),bsS]
 dsimp only
 rw[q3M (by omega),a3,bsS,q3M (by constructor<;>omega)];rfl
noncomputable def nxS (g:Gm_) (ph:List (List Ph_)) (r:Rule) (R K:List Oc) (V:List Int):Option (Step×List Oc×List Int):=
 match nxE r R K with
 | some o=>some (evS o,K++[o],V)
 | none=>match nxV g ph r K V with
  | some j=>some (vsS V j,vsK g ph r K V j,vsV V j)
  | none=>none
theorem k1B (hph:∀ p∈ph,PS p)(hr:Sz.szd r≤1048576)(H:Iv g ph r K V B)(hB:B<3000000000000):q8S ⟨g,ph,r,R,K,V⟩=some (match nxS g ph r R K V with|some (x,K',V')=>(x,true,⟨g,ph,r,R,K',V'⟩)|none=>(⟨0,0,0,(⟨#[]⟩:BA_)⟩,false,⟨g,ph,r,R,K,V⟩)):=by
 have hl:=q5e hr
 have hkn:=H.kn
 unfold q8S nxS nxE
 dsimp only
 rw[j4j (q:=fun o=>!decide (o∈K)&&z0u r K o) (h:=fun o=>((evS o,true,⟨g,ph,r,R,K++[o],V⟩):Step×Bool×visits)) fun k x hx=>by
  unfold z7U
  rw[j5F hr,bsS]
  dsimp only
  rw[decide_eq_true hx,Fkz]
  cases (!decide (x∈K)&&z0u r K x) with
  | true=>rw[ifP rfl,q3M (by constructor<;>omega)];rfl
  | false=>rfl]
 cases R.find? (fun o=>!decide (o∈K)&&z0u r K o) with
 | some o=>rfl
 | none=>
  have hloop:∀ m j:Nat,j+m=r.rt_.length→q4G (q9d ⟨g,ph,r,R,K,V⟩) ((j+1:Nat):Int)=some (match fndN (vsB g ph r K V) j m with|some j=>.inr (vsS V j,true,⟨g,ph,r,R,vsK g ph r K V j,vsV V j⟩)|none=>.inl ()):=by
   intro m
   induction m with
   | zero=>
    intro j hj
    exact q3N (by unfold q9d;dsimp only;rw[ifN (by omega)];rfl)
   | succ m ih=>
    intro j hj
    rw[fndN]
    obtain⟨a1,a2,a3⟩:=H.at' (k:=((j+1:Nat):Int)) (by omega) (by omega)
    have hin:decide (1≤((j+1:Nat):Int)∧((j+1:Nat):Int)≤(r.rt_.length:Int))=true:=decide_eq_true (by omega)
    by_cases hv:vsB g ph r K V j=true
    ·rw[ifP hv]
     refine q3N ?_
     have hc:at0 V ((j+1:Nat):Int)<((phP g ph r ((j+1:Nat):Int)).length:Int):=by
      unfold vsB at hv;simp only[Akz,decide_eq_true_eq] at hv;exact hv.1
     unfold q9d
     dsimp only
     rw[ifP (by omega),z9v hr H,hin,Fkz,bsS,show (decide (at0 V ((j+1:Nat):Int)<((phP g ph r ((j+1:Nat):Int)).length:Int))&&z1O K ((j+1:Nat):Int) (phAt g ph r ((j+1:Nat):Int) (at0 V ((j+1:Nat):Int))).id_)=true from hv,ifP rfl,k5n hph hr H (by omega) (by omega) hc,bsS,q3M (by omega)]
     dsimp only
     rw[List.getElem?_set_self (by rw[H.len];omega),bsS]
     rfl
    ·rw[ifN hv]
     rw[q4b (s':=((j+1+1:Nat):Int)) (by
      unfold q9d
      dsimp only
      rw[ifP (by omega),z9v hr H,hin,Fkz,bsS,show (decide (at0 V ((j+1:Nat):Int)<((phP g ph r ((j+1:Nat):Int)).length:Int))&&z1O K ((j+1:Nat):Int) (phAt g ph r ((j+1:Nat):Int) (at0 V ((j+1:Nat):Int))).id_)=false from Bool.eq_false_iff.2 hv,ifN (by simp),q3M (by constructor<;>omega)];rfl)]
     exact ih (j+1) (by omega)
  have h0:=hloop r.rt_.length 0 (by omega)
  have e1:((0+1:Nat):Int)=1:=rfl
  rw[e1] at h0
  dsimp only
  rw[bsS]
  show (q4G (q9d ⟨g,ph,r,R,K,V⟩) 1).bind _=_
  rw[h0,bsS]
  unfold nxV
  cases fndN (vsB g ph r K V) 0 r.rt_.length<;>rfl
end
def nK (R K:List Oc):Nat:=R.countP fun o=>!decide (o∈K)
theorem k0s {R K K' : List Oc}(h:∀ o∈K,o∈K'):nK R K'≤nK R K:=by
 unfold nK
 refine List.countP_mono_left fun o _ ho=>?_
 by_cases h1:o∈K
 ·simp[h o h1] at ho
 ·simp[h1]
theorem k5o {K:List Oc}{o:Oc}(hk:o∉K):∀ {R:List Oc},o∈R→nK R (K++[o])+1≤nK R K
 | x::R,ho=>by
  have hm:nK R (K++[o])≤nK R K:=k0s fun y hy=>Gbz _ hy
  unfold nK at hm ⊢
  rw[Gcz,Gcz]
  by_cases he:o=x
  ·subst he
   have ho' : o∈K++[o]:=by simp
   rw[ifN (by rw[decide_eq_true ho'];simp),ifP (by rw[decide_eq_false hk];rfl)]
   omega
  ·have ih:=k5o hk (R:=R) ((List.mem_cons.1 ho).resolve_left he)
   unfold nK at ih
   by_cases hx:x∈K
   ·have hx' : x∈K++[o]:=Gbz _ hx
    simp only[hx,hx',decide_true,Fgz,Bool.false_eq_true,if_false]
    omega
   ·have hx' : x∉K++[o]:=fun h=>by
     rcases List.mem_append.1 h with h|h
     ·exact hx h
     ·exact he (List.mem_singleton.1 h).symm
    simp only[hx,hx',decide_false,Flz,if_true]
    omega
def sumN (f:Nat→Nat):Nat→Nat
 | 0=>0
 | n+1=>sumN f n+f n
theorem k0t {f:Nat→Nat}{C:Nat}:∀ {n:Nat},(∀ i,i<n→f i≤C)→sumN f n≤n*C
 | 0,_=>Aiz _
 | n+1,h=>by
  have h1:=k0t (n:=n) fun i hi=>h i (by omega)
  have h2:=h n (by omega)
  rw[sumN,Nat.succ_mul];omega
theorem k5p {f f' : Nat→Nat}:∀ {n:Nat},(∀ i,i<n→f' i=f i)→sumN f' n=sumN f n
 | 0,_=>rfl
 | n+1,h=>by rw[sumN,sumN,k5p (n:=n) fun i hi=>h i (by omega),h n (by omega)]
theorem k1C {f f' : Nat→Nat}{j c:Nat}:∀ {n:Nat},j<n→(∀ i,i<n→i≠j→f' i=f i)→f' j+c≤f j→sumN f' n+c≤sumN f n
 | n+1,hj,h,hc=>by
  rw[sumN,sumN]
  by_cases e:j=n
  ·subst e
   rw[k5p (n:=j) fun i hi=>h i (by omega) (by omega)];omega
  ·have h1:=k1C (n:=n) (by omega) (fun i hi hn=>h i (by omega) hn) hc
   rw[h n (by omega) (fun h=>e h.symm)];omega
def wP:List Ph_→Nat
 | []=>0
 | p::l=>p.sd_.length+1+wP l
theorem k9e:∀ {l:List Ph_},(∀ x∈l,PB x)→wP l≤17*l.length
 | [],_=>Aiz _
 | p::l,h=>by
  have h1:=k9e (l:=l) fun x hx=>h x (Cjz _ hx)
  have h2:=(h p Cwz).2
  rw[wP,lnC];omega
theorem k9f {l:List Ph_}{v:Nat}{p:Ph_}(h:l[v]?=some p):wP (l.drop (v+1))+(p.sd_.length+1)≤wP (l.drop v):=by
 obtain⟨h1,h2⟩:=List.getElem?_eq_some_iff.1 h
 rw[Dbz h1,h2,wP];omega
def wI:List Ph_→Nat
 | []=>0
 | p::l=>p.id_.length+1+wI l
theorem k9g:∀ {l:List Ph_},(∀ x∈l,PB x)→wI l≤17*l.length
 | [],_=>Aiz _
 | p::l,h=>by
  have h1:=k9g (l:=l) fun x hx=>h x (Cjz _ hx)
  have h2:=(h p Cwz).1
  rw[wI,lnC];omega
section
variable {g:Gm_}{ph:List (List Ph_)}{r:Rule}{R K K' : List Oc}{V V' : List Int}{B:Nat}{x:Step}
noncomputable def muV (g:Gm_) (ph:List (List Ph_)) (r:Rule) (V:List Int):Nat:=sumN (fun j=>wP ((phP g ph r ((j+1:Nat):Int)).drop (at0 V ((j+1:Nat):Int)).toNat)) r.rt_.length
noncomputable def Phi (g:Gm_) (ph:List (List Ph_)) (r:Rule) (R K:List Oc) (V:List Int):Nat:=K.length+2*nK R K+muV g ph r V
theorem k5q (pos:Int)(ns:List BA_):Phi g ph r R (addN K pos ns) V≤Phi g ph r R K V+ns.length:=by
 have h1:nK R (addN K pos ns)≤nK R K:=k0s fun o ho=>Gbz _ ho
 have h2:(addN K pos ns).length=K.length+ns.length:=by simp[addN]
 unfold Phi;omega
theorem j7f (hph:∀ p∈ph,PS p)(H:Iv g ph r K V B)(h:nxS g ph r R K V=some (x,K',V')):Iv g ph r K' V' K'.length∧Phi g ph r R K' V'+1≤Phi g ph r R K V:=by
 unfold nxS at h
 cases he:nxE r R K with
 | some o=>
  rw[he] at h
  cases h
  refine⟨⟨H.len,H.rng,Adz _⟩,?_⟩
  have h1:=Fsz he
  have h2:=Erz he
  have h3:o∉K:=by
   simp only[Akz,Amz,decide_eq_false_iff_not] at h1
   exact h1.1
  have:=k5o h3 h2
  have e:(K++[o]).length=K.length+1:=by simp
  unfold Phi
  omega
 | none=>
  rw[he] at h
  cases hv:nxV g ph r K V with
  | none=>rw[hv] at h;cases h
  | some j=>
   rw[hv] at h
   cases h
   obtain⟨_,h1,h2⟩:=j0z hv
   have hc:at0 V ((j+1:Nat):Int)<((phP g ph r ((j+1:Nat):Int)).length:Int):=by
    unfold vsB at h2;simp only[Akz,decide_eq_true_eq] at h2;exact h2.1
   obtain⟨a1,a2,a3⟩:=H.at' (k:=((j+1:Nat):Int)) (by omega) (by omega)
   have hkl:((j+1:Nat):Int).toNat<V.length:=by rw[H.len];omega
   refine⟨H.set (k:=((j+1:Nat):Int)) (by omega) (by omega) (by omega) (by omega) (Adz _),?_⟩
   have hx:=z0v (g:=g) (ph:=ph) (r:=r) a1 hc
   have hw:=k9f hx
   have hs:∀ i:Int,at0 (vsV V j) i=if ((j+1:Nat):Int).toNat=i.toNat then at0 V ((j+1:Nat):Int)+1 else at0 V i:=fun i=>k1A hkl i
   have hmu:muV g ph r (vsV V j)+((phAt g ph r ((j+1:Nat):Int) (at0 V ((j+1:Nat):Int))).sd_.length+1)≤muV g ph r V:=by
    unfold muV
    refine k1C (j:=j) (by omega) (fun i hi hn=>?_) ?_
    ·rw[hs,ifN (by omega)]
    ·rw[hs,ifP rfl,show (at0 V ((j+1:Nat):Int)+1).toNat=(at0 V ((j+1:Nat):Int)).toNat+1 by omega]
     exact hw
   have h3:nK R (vsK g ph r K V j)≤nK R K:=k0s fun o ho=>Gbz _ ho
   have h4:(vsK g ph r K V j).length=K.length+(phAt g ph r ((j+1:Nat):Int) (at0 V ((j+1:Nat):Int))).sd_.length:=by simp[vsK,addN]
   unfold Phi
   omega
inductive Blt (g:Gm_) (ph:List (List Ph_)) (r:Rule) (R:List Oc):List Oc→List Int→List Step→List Oc→List Int→Prop
 | nil (K:List Oc) (V:List Int):Blt g ph r R K V [] K V
 | cons {K:List Oc} {V:List Int} {x:Step} {K1:List Oc} {V1:List Int} {xs:List Step} {K2:List Oc} {V2:List Int}:nxS g ph r R K V=some (x,K1,V1)→Blt g ph r R K1 V1 xs K2 V2→Blt g ph r R K V (x::xs) K2 V2
abbrev tupI (q:Step×Bool×visits)(st:List Step):Step×Bool×BA_×BA_×Bool×(List Oc)×(List Oc)×(List Int)×(List Step):=(q.1,q.2.1,q.2.2.r.Name,q.2.2.r.Left,q.2.2.r.ll_,q.2.2.due,q.2.2.known,q.2.2.next,st)
noncomputable def stp (g:Gm_) (ph:List (List Ph_)) (r:Rule) (R K:List Oc) (V:List Int):Step×Bool×visits:=match nxS g ph r R K V with|some (x,K',V')=>(x,true,⟨g,ph,r,R,K',V'⟩)|none=>(⟨0,0,0,(⟨#[]⟩:BA_)⟩,false,⟨g,ph,r,R,K,V⟩)
theorem k5r (hph:∀ p∈ph,PS p)(hr:Sz.szd r≤1048576)(hR:q3T g r=some R)(K0:List Oc)(V0:List Int):∀ (n:Nat) {K:List Oc} {V:List Int} {st:List Step},Phi g ph r R K V≤n→Iv g ph r K V K.length→st.length+Phi g ph r R K V≤10000000 →
  ∃ K' V' st',(∃ xs,st'=st++xs∧Blt g ph r R K V xs K' V')∧Iv g ph r K' V' K'.length∧st'.length+Phi g ph r R K' V'≤st.length+Phi g ph r R K V ∧
   q4G (z2S g ph r) (V.drop 1,r.Name,r.Left,r.ll_,K,st)=some (V'.drop 1,r.Name,r.Left,r.ll_,K',st',false) ∧
   q4G (z6f ⟨g,ph,r,R,K0,V0⟩) (tupI (stp g ph r R K V) st)=some (r.Name,r.Left,r.ll_,R,K',V',st',0,0,0,(⟨#[]⟩:BA_)):=by
 intro n
 induction n with
 | zero=>
  intro K V st hn H hN
  cases hx:nxS g ph r R K V with
  | some q=>
   obtain⟨x,K1,V1⟩:=q
   have:=(j7f hph H hx).2
   omega
  | none=>
   have hk:K.length≤Phi g ph r R K V:=by unfold Phi;omega
   refine⟨K,V,st,⟨[],(Bxz _).symm,.nil _ _⟩,H,Adz _,q3N ?_,q3N ?_⟩
   ·unfold z2S
    unfold nxS at hx
    cases he:nxE r R K with
    | some o=>rw[he] at hx;cases hx
    | none=>
     rw[he] at hx
     cases hv:nxV g ph r K V with
     | some j=>rw[hv] at hx;cases hx
     | none=>
      have e1:=j7e (ph:=ph) hr hR (K:=K) (by omega) (V.drop 1) st (by omega)
      have e2:=j4l hph hr H (by omega) st (by omega)
      rw[he] at e1
      rw[hv] at e2
      dsimp only
      rw[show (⟨g,(⟨r.Name,r.Left,r.rt_,r.ll_,r.es_,r.cs_⟩:Rule),ph,K,V.drop 1,st⟩:l28Work)=⟨g,r,ph,K,V.drop 1,st⟩ from rfl,e1,bsS]
      dsimp only
      rw[ifN (by simp),show (⟨g,(⟨r.Name,r.Left,r.rt_,r.ll_,r.es_,r.cs_⟩:Rule),ph,K,V.drop 1,st⟩:l28Work)=⟨g,r,ph,K,V.drop 1,st⟩ from rfl,e2,bsS]
      rfl
   ·unfold stp z6f
    rw[hx]
    rfl
 | succ n ih=>
  intro K V st hn H hN
  have hk:K.length≤Phi g ph r R K V:=by unfold Phi;omega
  cases hx:nxS g ph r R K V with
  | none=>
   refine⟨K,V,st,⟨[],(Bxz _).symm,.nil _ _⟩,H,Adz _,q3N ?_,q3N ?_⟩
   ·unfold z2S
    unfold nxS at hx
    cases he:nxE r R K with
    | some o=>rw[he] at hx;cases hx
    | none=>
     rw[he] at hx
     cases hv:nxV g ph r K V with
     | some j=>rw[hv] at hx;cases hx
     | none=>
      have e1:=j7e (ph:=ph) hr hR (K:=K) (by omega) (V.drop 1) st (by omega)
      have e2:=j4l hph hr H (by omega) st (by omega)
      rw[he] at e1
      rw[hv] at e2
      dsimp only
      rw[show (⟨g,(⟨r.Name,r.Left,r.rt_,r.ll_,r.es_,r.cs_⟩:Rule),ph,K,V.drop 1,st⟩:l28Work)=⟨g,r,ph,K,V.drop 1,st⟩ from rfl,e1,bsS]
      dsimp only
      rw[ifN (by simp),show (⟨g,(⟨r.Name,r.Left,r.rt_,r.ll_,r.es_,r.cs_⟩:Rule),ph,K,V.drop 1,st⟩:l28Work)=⟨g,r,ph,K,V.drop 1,st⟩ from rfl,e2,bsS]
      rfl
   ·unfold stp z6f
    rw[hx]
    rfl
  | some q=>
   obtain⟨x,K1,V1⟩:=q
   obtain⟨H1,hd⟩:=j7f hph H hx
   have hk1:K1.length≤Phi g ph r R K1 V1:=by unfold Phi;omega
   have hst:(st++[x]).length=st.length+1:=by simp
   obtain⟨K',V',st',⟨ys,hys,hbl⟩,i1,i2,i3,i4⟩:=ih (K:=K1) (V:=V1) (st:=st++[x]) (by omega) H1 (by omega)
   refine⟨K',V',st',⟨x::ys,by rw[hys];simp,.cons hx hbl⟩,i1,by omega,?_,?_⟩
   ·rw[q4b (s':=(V1.drop 1,r.Name,r.Left,r.ll_,K1,st++[x])) ?_]
    ·exact i3
    ·unfold z2S
     have e1:=j7e (ph:=ph) hr hR (K:=K) (by omega) (V.drop 1) st (by omega)
     have e2:=j4l hph hr H (by omega) st (by omega)
     unfold nxS at hx
     dsimp only
     rw[show (⟨g,(⟨r.Name,r.Left,r.rt_,r.ll_,r.es_,r.cs_⟩:Rule),ph,K,V.drop 1,st⟩:l28Work)=⟨g,r,ph,K,V.drop 1,st⟩ from rfl,e1,bsS]
     cases he:nxE r R K with
     | some o=>
      rw[he] at hx
      cases hx
      rfl
     | none=>
      rw[he] at hx
      dsimp only
      rw[ifN (by simp),show (⟨g,(⟨r.Name,r.Left,r.rt_,r.ll_,r.es_,r.cs_⟩:Rule),ph,K,V.drop 1,st⟩:l28Work)=⟨g,r,ph,K,V.drop 1,st⟩ from rfl,e2,bsS]
      cases hv:nxV g ph r K V with
      | none=>rw[hv] at hx;cases hx
      | some j=>
       rw[hv] at hx
       cases hx
       rfl
   ·rw[q4b (s':=tupI (stp g ph r R K1 V1) (st++[x])) ?_]
    ·exact i4
    ·have e:=k1B (R:=R) hph hr H1 (by omega)
     unfold stp z6f
     rw[hx]
     dsimp only
     rw[ifP rfl,q3M (by constructor<;>omega),show (⟨g,ph,(⟨r.Name,r.Left,r.rt_,r.ll_,r.es_,r.cs_⟩:Rule),R,K1,V1⟩:visits)=⟨g,ph,r,R,K1,V1⟩ from rfl,e]
     cases nxS g ph r R K1 V1<;>rfl
end
section
variable {g:Gm_}{ph:List (List Ph_)}{r:Rule}{R K K' : List Oc}{V V' : List Int}{B:Nat}{x:Step}
def fin (i:Nat):Step:=⟨3,0,((i+1:Nat):Int),(⟨#[]⟩:BA_)⟩
inductive Pst (g:Gm_) (ph:List (List Ph_)) (r:Rule) (R:List Oc):Nat→List Ph_→List Oc→List Int→List Step→List Oc→List Int→Prop
 | nil (i:Nat) (K:List Oc) (V:List Int):Pst g ph r R i [] K V [] K V
 | cons {i:Nat} {p:Ph_} {ps:List Ph_} {K:List Oc} {V:List Int} {ys zs:List Step} {K1:List Oc} {V1:List Int} {K2:List Oc} {V2:List Int}:Blt g ph r R (addN K 0 p.id_) V ys K1 V1→Iv g ph r (addN K 0 p.id_) V (addN K 0 p.id_).length→z1O K1 0 p.sd_=true→Pst g ph r R (i+1) ps K1 V1 zs K2 V2→Pst g ph r R i (p::ps) K V (ys++fin i::zs) K2 V2
theorem k1D (hph:∀ p∈ph,PS p)(hr:Sz.szd r≤1048576)(hR:q3T g r=some R)(K0:List Oc)(V0:List Int):∀ (xs:List Ph_) (i:Nat) {K:List Oc} {V:List Int} {st:List Step},i+xs.length≤1048576→Iv g ph r K V K.length→st.length+Phi g ph r R K V+wI xs≤10000000 →
  (∃ K' V' st',(∃ zs,st'=st++zs∧Pst g ph r R i xs K V zs K' V')∧Iv g ph r K' V' K'.length∧st'.length≤10000000∧findL (z2T g ph r) i xs (V.drop 1,r.Name,r.Left,r.ll_,K,st)=some (.inl (V'.drop 1,r.Name,r.Left,r.ll_,K',st')) ∧
   findL (z4u ⟨g,ph,r,R,K0,V0⟩) i xs (r.Name,r.Left,r.ll_,R,K,V,st)=some (.inl (r.Name,r.Left,r.ll_,R,K',V',st'))) ∨
  (findL (z2T g ph r) i xs (V.drop 1,r.Name,r.Left,r.ll_,K,st)=some (.inr ([],false))∧findL (z4u ⟨g,ph,r,R,K0,V0⟩) i xs (r.Name,r.Left,r.ll_,R,K,V,st)=some (.inr ((⟨(⟨#[]⟩:BA_),[]⟩:RPl_),false)))
 | [],i,K,V,st,hi,H,hN=>.inl ⟨K,V,st,⟨[],(Bxz _).symm,.nil _ _ _⟩,H,by omega,rfl,rfl⟩
 | x::xs,i,K,V,st,hi,H,hN=>by
  rw[wI] at hN
  rw[lnC] at hi
  have hk:K.length≤Phi g ph r R K V:=by unfold Phi;omega
  have hadd:=k5q (g:=g) (ph:=ph) (r:=r) (R:=R) (K:=K) (V:=V) 0 x.id_
  have H1:Iv g ph r (addN K 0 x.id_) V (addN K 0 x.id_).length:=⟨H.len,H.rng,Adz _⟩
  obtain⟨K1,V1,st1,⟨ys,hys,hbl⟩,i1,i2,i3,i4⟩:=k5r hph hr hR K0 V0 _ (K:=addN K 0 x.id_) (V:=V) (st:=st) (Adz _) H1 (by omega)
  have hk1:(addN K 0 x.id_).length≤Phi g ph r R (addN K 0 x.id_) V:=by unfold Phi;omega
  have es:z2T g ph r i x (V.drop 1,r.Name,r.Left,r.ll_,K,st)=some (if z1O K1 0 x.sd_=true then .inl (V1.drop 1,r.Name,r.Left,r.ll_,K1,st1++[(⟨3,0,((i+1:Nat):Int),(⟨#[]⟩:BA_)⟩:Step)]) else .inr ([],false)):=by
   unfold z2T
   dsimp only
   rw[j8S _ _ (by dsimp only;omega),bsS]
   dsimp only
   have i3' : q4G (z2S g ph r) (V.drop 1,r.Name,r.Left,r.ll_,K++x.id_.map (fun n=>(⟨0,n⟩:Oc)),st)=some (V1.drop 1,r.Name,r.Left,r.ll_,K1,st1,false):=i3
   rw[i3',bsS]
   dsimp only
   rw[j8R,bsS]
   dsimp only
   by_cases hb:z1O K1 0 x.sd_=true
   ·rw[ifP hb,ifP hb,q3M (by constructor<;>omega)]
   ·rw[ifN hb,ifN hb]
  have ei:z4u ⟨g,ph,r,R,K0,V0⟩ i x (r.Name,r.Left,r.ll_,R,K,V,st)=some (if z1O K1 0 x.sd_=true then .inl (r.Name,r.Left,r.ll_,R,K1,V1,st1++[(⟨3,0,((i+1:Nat):Int),(⟨#[]⟩:BA_)⟩:Step)]) else .inr ((⟨(⟨#[]⟩:BA_),[]⟩:RPl_),false)):=by
   unfold z4u
   dsimp only
   rw[z8t _ _ (by dsimp only;omega),bsS]
   dsimp only
   have e:q8S ⟨g,ph,r,R,K++x.id_.map (fun n=>(⟨0,n⟩:Oc)),V⟩=some (stp g ph r R (addN K 0 x.id_) V):=k1B (R:=R) hph hr H1 (by omega)
   rw[show (⟨g,ph,(⟨r.Name,r.Left,r.rt_,r.ll_,r.es_,r.cs_⟩:Rule),R,K++x.id_.map (fun n=>(⟨0,n⟩:Oc)),V⟩:visits)=⟨g,ph,r,R,K++x.id_.map (fun n=>(⟨0,n⟩:Oc)),V⟩ from rfl,e,bsS]
   generalize stp g ph r R (addN K 0 x.id_) V=q at i4
   obtain⟨q1,q2,q3⟩:=q
   dsimp only at i4 ⊢
   rw[i4,bsS]
   dsimp only
   rw[j4h,bsS]
   dsimp only
   by_cases hb:z1O K1 0 x.sd_=true
   ·rw[ifP hb,ifP hb,q3M (by constructor<;>omega)]
   ·rw[ifN hb,ifN hb]
  rw[findL,findL,es,ei]
  by_cases hb:z1O K1 0 x.sd_=true
  ·rw[ifP hb,ifP hb,bsS,bsS]
   have hl:(st1++[(⟨3,0,((i+1:Nat):Int),(⟨#[]⟩:BA_)⟩:Step)]).length=st1.length+1:=by simp
   rcases k1D hph hr hR K0 V0 xs (i+1) (st:=st1++[(⟨3,0,((i+1:Nat):Int),(⟨#[]⟩:BA_)⟩:Step)]) (by omega) i1 (by omega) with ⟨K2,V2,st2,⟨zs,hzs,hp⟩,j1,j2,j3,j4⟩|h
   ·exact .inl ⟨K2,V2,st2,⟨ys++fin i::zs,by rw[hzs,hys];simp[fin],.cons hbl H1 hb hp⟩,j1,j2,j3,j4⟩
   ·exact .inr h
  ·rw[ifN hb,ifN hb]
   exact .inr ⟨rfl,rfl⟩
theorem k5s (hph:∀ p∈ph,PS p)(hr:Sz.szd r≤1048576)(hR:q3T g r=some R)(hR' : z0n g r=some R)(h3:r.rt_.length≤3)(hRl:R.length≤4194304) :
  ∃ st b pl,st.length≤10000000∧z4x g ph r=some (st,b)∧z6g g ph r=some (pl,b)∧(b=true→pl=⟨r.Name,st⟩∧∃ K' V',Pst g ph r R 0 (phP g ph r 0) [] (Cbz (r.rt_.length+1) 0) st K' V'∧z7s g ph r R K' V'=true):=by
 have hl:=q5e hr
 have hp0:phS g ph r.Left=phP g ph r 0:=by unfold phP;rw[j8Q]
 have hdrop:(Cbz (r.rt_.length+1) (0:Int)).drop 1=Cbz r.rt_.length 0:=by rw[Gaz];rfl
 have hps:=j4k hph g r 0
 have hI:Iv g ph r [] (Cbz (r.rt_.length+1) 0) ([]:List Oc).length:=by
  refine⟨by simp,fun k hk=>?_,Adz _⟩
  rw[Ddz,Fvz,ifP (by omega)]
  exact⟨Giz _,by show (0:Int)≤_;omega⟩
 have hmu:muV g ph r (Cbz (r.rt_.length+1) 0)≤r.rt_.length*289:=by
  unfold muV
  refine k0t fun j hj=>?_
  have h1:at0 (Cbz (r.rt_.length+1) (0:Int)) ((j+1:Nat):Int)=0:=by
   unfold at0
   rw[tnC,Ddz,Fvz,ifP (by omega)];rfl
  have h2:=j4k hph g r ((j+1:Nat):Int)
  rw[h1]
  have:=k9e h2.2
  have:=h2.1
  show wP (phP g ph r ((j+1:Nat):Int))≤289
  omega
 have hnk:nK R []≤R.length:=Gdz
 have hPhi:Phi g ph r R [] (Cbz (r.rt_.length+1) 0)≤9000000:=by
  unfold Phi
  simp only[Ekz]
  omega
 have hw:=k9g hps.2
 have hpl:=hps.1
 have hrun:=k1D hph hr hR [] (Cbz (r.rt_.length+1) 0) (phP g ph r 0) 0 (K:=[]) (V:=Cbz (r.rt_.length+1) 0) (st:=[]) (by omega) hI (by simp only[Ekz];omega)
 have eS:z4x g ph r=(findL (z2T g ph r) 0 (phP g ph r 0) ((Cbz (r.rt_.length+1) (0:Int)).drop 1,r.Name,r.Left,r.ll_,[],[])).bind (onr (fun r1=>some r1) fun (s3,s4,s5,s6,s1,s2)=>(z1w (⟨g,(⟨s4,s5,r.rt_,s6,r.es_,r.cs_⟩:Rule),ph,s1,s3,s2⟩:l28Work)).bind fun y5=>some (s2,y5)):=by
  unfold z4x
  rw[q3M (by constructor<;>omega),(j8P g ph r.Left).1,bsS,hp0,hdrop]
 have eI:z6g g ph r=(findL (z4u ⟨g,ph,r,R,[],Cbz (r.rt_.length+1) 0⟩) 0 (phP g ph r 0) (r.Name,r.Left,r.ll_,R,[],Cbz (r.rt_.length+1) 0,[])).bind (onr (fun r1=>some r1) fun (s3,s4,s5,s6,s1,s7,s2)=>(q5T (⟨g,ph,(⟨s3,s4,r.rt_,s5,r.es_,r.cs_⟩:Rule),s6,s1,s7⟩:visits)).bind fun y8=>some ((⟨r.Name,s2⟩:RPl_),y8)):=by
  unfold z6g z2J
  rw[hR',bsS,q3M (by constructor<;>omega),q3M (by constructor<;>omega),bsS,z0t hl,bsS]
 rcases hrun with ⟨K',V',st',⟨zs,hzs,hp⟩,i1,i2,e1,e2⟩|⟨e1,e2⟩
 ·refine⟨st',z7s g ph r R K' V',⟨r.Name,st'⟩,i2,?_,?_,fun hb=>⟨rfl,K',V',by rw[hzs];exact hp,hb⟩⟩
  ·rw[eS,e1,bsS]
   have:=k5l hr hR i1
   show ((z1w ⟨g,r,ph,K',V'.drop 1,[]⟩).bind fun y5=>some (st',y5))=_
   rw[this,bsS]
  ·rw[eI,e2,bsS]
   show ((q5T ⟨g,ph,r,R,K',V'⟩).bind fun y8=>some ((⟨r.Name,st'⟩:RPl_),y8))=_
   rw[j4i hr i1,bsS]
 ·refine⟨[],false,⟨(⟨#[]⟩:BA_),[]⟩,by simp,?_,?_,fun h=>nomatch h⟩
  ·rw[eS,e1];rfl
  ·rw[eI,e2];rfl
end
theorem z7g {g:Gm_}(h0:Sz.szd g≤1048576){ps:List (List Ph_)}(e:q3V g=some (ps,true)):Shape g:=by
 obtain⟨q,b,e1,e2,hn,hi⟩:=z5C h0
 cases b with
 | false=>
  unfold q3V at e
  rw[e1,bsS] at e
  dsimp only at e
  rw[ifN (by simp)] at e
  cases e
 | true=>
  obtain⟨hg,hI,_⟩:=hi rfl
  exact z6B hg
def PL (p:RPl_):Prop:=p.Steps.length≤10000000
def GP (g:Gm_)(ps:List (List Ph_))(r:Rule)(p:RPl_):Prop:=p.Rule=r.Name∧∃ K V,Pst g ps r (reqL g r) 0 (phP g ps r 0) [] (Cbz (r.rt_.length+1) 0) p.Steps K V∧z7s g ps r (reqL g r) K V=true
theorem k2S {g:Gm_}(h0:Sz.szd g≤1048576):∃ pl c,z3C g=some (pl,c)∧z3K g=some (pl,c)∧pl.length≤8∧(∀ p∈pl,PL p)∧(c=false→pl=[])∧(c=true→∃ ps,q3V g=some (ps,true)∧(∀ p∈ps,PS p)∧pl.length=g.rs_.length∧∀ (j:Nat) p,pl[j]?=some p→∃ r,g.rs_[j]?=some r∧GP g ps r p):=by
 obtain⟨ps,c,e1,e2,hn,hps⟩:=j5C h0
 unfold z3C z3K
 rw[e1,e2,bsS,bsS]
 dsimp only
 cases c with
 | false=>
  refine⟨[],false,rfl,?_,by simp,fun p hp=>(nomatch hp),fun _=>rfl,fun h=>nomatch h⟩
  rw[q3N (r:=(.inl [])) (by
   unfold q9z
   dsimp only
   split
   ·rfl
   ·rfl)]
  rfl
 | true=>
  have hS:=z7g h0 e1
  have hl:=hS.rules
  rw[ifP rfl]
  have key:∀ (xs:List Rule) (i:Nat) (s:List RPl_),g.rs_.drop i=xs→s.length=i→i≤g.rs_.length→(∀ p∈s,PL p)→(∀ (j:Nat) p,s[j]?=some p→∃ r,g.rs_[j]?=some r∧GP g ps r p)→(∃ s',findL (z2i g ps) i xs s=some (.inl s')∧q4G (q9z g ps true) (s,(i:Int))=some (.inl s')∧s'.length=g.rs_.length∧(∀ p∈s',PL p)∧∀ (j:Nat) p,s'[j]?=some p→∃ r,g.rs_[j]?=some r∧GP g ps r p)∨(findL (z2i g ps) i xs s=some (.inr ([],false))∧q4G (q9z g ps true) (s,(i:Int))=some (.inr ([],false))):=by
   intro xs
   induction xs with
   | nil=>
    intro i s hx hs hi hp hgp
    left
    have:g.rs_.length-i=0:=by rw[← Cdz,hx];rfl
    exact⟨s,rfl,q3N (by unfold q9z;dsimp only;exact ifN (by omega)),by omega,hp,hgp⟩
   | cons x xs ih=>
    intro i s hx hs hi hpp hgp
    have hlt:i<g.rs_.length:=by
     have:g.rs_.length-i=xs.length+1:=by rw[← Cdz,hx];rfl
     omega
    have hd:=Dbz hlt
    rw[hx] at hd
    injection hd with d1 d2
    have hgi:g.rs_[i]?=some x:=by rw[d1];exact Auz hlt
    have hxm:x∈g.rs_:=Ckz hgi
    have hxs:Sz.szd x≤1048576:=Blz (z1D hxm) h0
    have h3:=j4b hS hxm
    have hRl:(reqL g x).length≤4194304:=by
     have:=j0s (C:=1048576) (f:=reqK g x) (j6R (q7T h0) x) (Dxz 0 (x.rt_.length+1))
     rw[Fpz] at this
     unfold reqL
     omega
    obtain⟨st,b,pl,r1,r2,r3,r4⟩:=k5s (ph:=ps) hps hxs (j1f (q7T h0) (q5e hxs)) (j6S (q7T h0) (q5e hxs)) h3 hRl
    have hsl:s.length≤8:=by omega
    have e:z2i g ps i x s=if b=true then some (.inl (s++[(⟨x.Name,st⟩:RPl_)])) else some (.inr ([],false)):=by
     unfold z2i
     rw[r3,bsS]
     cases b with
     | false=>
      dsimp only
      rw[ifN (by simp),ifN (by simp)]
     | true=>
      dsimp only
      rw[(r4 rfl).1,ifP rfl,ifP rfl,q3M (by constructor<;>omega)]
    have e' : q9z g ps true (s,(i:Int))=if b=true then some (.inl (s++[(⟨x.Name,st⟩:RPl_)],((i+1:Nat):Int))) else some (.inr (.inr ([],false))):=by
     unfold q9z
     dsimp only
     rw[ifP (by omega),ifP rfl,q3M (by omega),tnC,hgi,bsS,r2,bsS]
     cases b with
     | false=>
      dsimp only
      rw[ifN (by simp),ifN (by simp)]
     | true=>
      dsimp only
      rw[ifP rfl,ifP rfl,q3M (by constructor<;>omega),q3M (by constructor<;>omega)]
      rfl
    rw[findL,e]
    by_cases hb:b=true
    ·rw[ifP hb] at e' ⊢
     rw[bsS,q4b e']
     refine ih (i+1) _ d2.symm (by simp[hs]) (by omega) (fun p hp=>?_) fun j p hj=>?_
     ·rcases List.mem_append.1 hp with hp|hp
      ·exact hpp p hp
      ·rw[Byz] at hp;subst hp;exact r1
     ·rcases Nat.lt_or_ge j s.length with h|h
      ·rw[Bdz h] at hj;exact hgp j p hj
      ·have h':=(List.getElem?_eq_some_iff.1 hj).1
       rw[Bgz,Daz] at h'
       rw[Bez h,show j-s.length=0 by omega] at hj
       cases hj
       exact⟨x,by rw[show j=i by omega];exact hgi,rfl,(r4 hb).2⟩
    ·rw[ifN hb] at e' ⊢
     exact .inr ⟨rfl,q3N e'⟩
  rcases key g.rs_ 0 [] rfl rfl (Aiz _) (fun p hp=>nomatch hp) (fun j p hj=>nomatch hj) with ⟨s',e,e',h1,h2,h3⟩|⟨e,e'⟩
  ·rw[show ((0:Nat):Int)=0 from rfl] at e'
   rw[e,e'];exact⟨s',true,rfl,rfl,by omega,h2,(fun h=>nomatch h),fun _=>⟨ps,rfl,hps,h1,h3⟩⟩
  ·rw[show ((0:Nat):Int)=0 from rfl] at e'
   rw[e,e'];exact⟨[],false,rfl,rfl,by simp,fun p hp=>(nomatch hp),fun _=>rfl,fun h=>nomatch h⟩
section
variable {g:Gm_}{ph:List (List Ph_)}{r:Rule}{R K K' K1 K2:List Oc}{V V' V1 V2:List Int}{B:Nat}{x:Step}
theorem at_z (H:Iv g ph r K V B)(v:Int):at0 (V.set 0 v) 0=v:=by
 have:=k1A (V:=V) (k:=0) (y:=v) (by rw[H.len];show 0<_;omega) 0
 rw[show (0:Int).toNat=0 from rfl,ifP rfl] at this
 exact this
theorem k9V (H:Iv g ph r K V B)(v:Int)(j:Nat):at0 (V.set 0 v) ((j+1:Nat):Int)=at0 V ((j+1:Nat):Int):=by
 have:=k1A (V:=V) (k:=0) (y:=v) (by rw[H.len];show 0<_;omega) ((j+1:Nat):Int)
 rw[show (0:Int).toNat=0 from rfl,ifN (by omega)] at this
 exact this
theorem k7e (H:Iv g ph r K V B)(h:nxS g ph r R K V=some (x,K1,V1))(v:Int):j0x g ph r R K (V.set 0 v) x=some (K1,V1.set 0 v):=by
 unfold nxS at h
 cases he:nxE r R K with
 | some o=>
  rw[he] at h
  cases h
  have h1:=Fsz he
  have h2:=Erz he
  have hb:k7a r R K (evS o)=true:=by
   unfold k7a
   show (decide ((0:Int)=0)&&(decide (o∈R)&&(!decide (o∈K)&&z0u r K o)))=true
   rw[h1];simp[h2]
  unfold j0x
  rw[ifP (show (evS o).Kind=1 from rfl),ifP hb]
  rfl
 | none=>
  rw[he] at h
  cases hv:nxV g ph r K V with
  | none=>rw[hv] at h;cases h
  | some j=>
   rw[hv] at h
   cases h
   obtain⟨_,h1,h2⟩:=j0z hv
   have hz:=k9V H v j
   have hb:visB g ph r K (V.set 0 v) (vsS V j)=true:=by
    unfold visB
    show (decide ((⟨#[]⟩:BA_)=⟨#[]⟩)&&(decide (1≤((j+1:Nat):Int)∧((j+1:Nat):Int)≤(r.rt_.length:Int))&&(decide (at0 V ((j+1:Nat):Int)+1=at0 (V.set 0 v) ((j+1:Nat):Int)+1)&&(decide (at0 (V.set 0 v) ((j+1:Nat):Int)<((phP g ph r ((j+1:Nat):Int)).length:Int))&&z1O K ((j+1:Nat):Int) (phAt g ph r ((j+1:Nat):Int) (at0 (V.set 0 v) ((j+1:Nat):Int))).id_))))=true
    rw[hz,decide_eq_true (show 1≤((j+1:Nat):Int)∧((j+1:Nat):Int)≤(r.rt_.length:Int) by omega)]
    unfold vsB at h2
    rw[h2];simp
   unfold j0x
   rw[ifN (show ¬ (vsS V j).Kind=1 by unfold vsS;simp),ifP (show (vsS V j).Kind=2 from rfl),ifP hb]
   show some (addN K ((j+1:Nat):Int) (phAt g ph r ((j+1:Nat):Int) (at0 (V.set 0 v) ((j+1:Nat):Int))).sd_,(V.set 0 v).set (j+1) (at0 (V.set 0 v) ((j+1:Nat):Int)+1))=some (vsK g ph r K V j,(vsV V j).set 0 v)
   rw[hz,List.set_comm _ _ (show 0≠j+1 by omega)]
   rfl
theorem k9h (hph:∀ p∈ph,PS p)(v:Int)(hv:v<((phP g ph r 0).length:Int))(zs:List Step){ys:List Step}(h:Blt g ph r R K V ys K1 V1):∀ {B:Nat},Iv g ph r K V B→Iv g ph r K1 V1 (B+K1.length)∧runS g ph r R (ys++zs) K (V.set 0 v)=runS g ph r R zs K1 (V1.set 0 v):=by
 induction h with
 | nil K V=>intro B H;exact⟨⟨H.len,H.rng,by omega⟩,rfl⟩
 | cons hx hb ih=>
  intro B H
  obtain⟨H1,_⟩:=j7f hph H hx
  obtain⟨i1,i2⟩:=ih H1
  refine⟨⟨i1.len,i1.rng,by omega⟩,?_⟩
  rw[List.cons_append,runS,ifP (by rw[at_z H];exact hv),k7e H hx v]
  exact i2
theorem k9i (hph:∀ p∈ph,PS p){i:Nat}{ps:List Ph_}{zs:List Step}(h:Pst g ph r R i ps K V zs K2 V2):∀ {B:Nat},Iv g ph r K V B→(phP g ph r 0).drop i=ps→i≤(phP g ph r 0).length →
  (Iv g ph r K2 V2 (B+K2.length))∧runS g ph r R zs (if (i:Int)<((phP g ph r 0).length:Int) then addN K 0 (phAt g ph r 0 (i:Int)).id_ else K) (V.set 0 (i:Int))=some (K2,V2.set 0 ((phP g ph r 0).length:Int)):=by
 induction h with
 | nil i K V=>
  intro B H hd hi
  have:(phP g ph r 0).length-i=0:=by rw[← Cdz,hd];rfl
  have e:i=(phP g ph r 0).length:=by omega
  refine⟨⟨H.len,H.rng,by omega⟩,?_⟩
  rw[runS,ifN (by omega),e]
 | @cons i p ps K V ys zs K1 V1 K2 V2 hbl HI hk hp ih=>
  intro B H hd hi
  have hlt:i<(phP g ph r 0).length:=by
   have:(phP g ph r 0).length-i=ps.length+1:=by rw[← Cdz,hd];rfl
   omega
  have hd':=Dbz hlt
  rw[hd] at hd'
  injection hd' with d1 d2
  have hpa:phAt g ph r 0 (i:Int)=p:=by
   have h1:=z0v (g:=g) (ph:=ph) (r:=r) (k:=0) (v:=(i:Int)) (by omega) (by omega)
   rw[tnC,Auz hlt,← d1] at h1
   exact (Option.some.inj h1).symm
  obtain⟨a1,a2⟩:=k9h hph (i:Int) (by omega) (fin i::zs) hbl HI
  obtain⟨b1,b2⟩:=ih a1 d2.symm (by omega)
  refine⟨⟨b1.len,b1.rng,by omega⟩,?_⟩
  rw[ifP (by omega),hpa,a2,runS]
  have hz:=at_z a1 (i:Int)
  have hb:z4b g ph r K1 (V1.set 0 (i:Int)) (fin i)=true:=by
   unfold z4b
   rw[hz,hpa]
   show (decide ((0:Int)=0)&&(decide ((⟨#[]⟩:BA_)=⟨#[]⟩)&&(decide ((i:Int)<((phP g ph r 0).length:Int))&&(decide (((i+1:Nat):Int)=(i:Int)+1)&&z1O K1 0 p.sd_))))=true
   rw[hk,decide_eq_true (show (i:Int)<((phP g ph r 0).length:Int) by omega),decide_eq_true (show ((i+1:Nat):Int)=(i:Int)+1 by omega)]
   simp
  have hst:j0x g ph r R K1 (V1.set 0 (i:Int)) (fin i)=some ((if (i:Int)+1<((phP g ph r 0).length:Int) then addN K1 0 (phAt g ph r 0 ((i:Int)+1)).id_ else K1),V1.set 0 ((i:Int)+1)):=by
   unfold j0x
   rw[ifN (show ¬ (fin i).Kind=1 by unfold fin;simp),ifN (show ¬ (fin i).Kind=2 by unfold fin;simp),ifP (show (fin i).Kind=3 from rfl),ifP hb,hz,List.set_set]
  rw[ifP (by rw[hz];omega),hst]
  exact b2
theorem k7f (hph:∀ p∈ph,PS p){st:List Step}(h:Pst g ph r R 0 (phP g ph r 0) [] (Cbz (r.rt_.length+1) 0) st K' V')(hw:z7s g ph r R K' V'=true)(hn:(phP g ph r 0).length≠0):k7c g ph r R st=true:=by
 have hI:Iv g ph r [] (Cbz (r.rt_.length+1) 0) 0:=by
  refine⟨by simp,fun k hk=>?_,Adz _⟩
  rw[Ddz,Fvz,ifP (by omega)]
  exact⟨Giz _,by show (0:Int)≤_;omega⟩
 obtain⟨H,hr⟩:=k9i hph h hI rfl (by omega)
 have e0:(Cbz (r.rt_.length+1) (0:Int)).set 0 ((0:Nat):Int)=Cbz (r.rt_.length+1) 0:=by
  rw[List.replicate_succ];rfl
 rw[e0,ifP (by omega)] at hr
 unfold k7c
 have hr' : runS g ph r R st (addN [] 0 (phAt g ph r 0 0).id_) (Cbz (r.rt_.length+1) 0)=some (K',V'.set 0 ((phP g ph r 0).length:Int)):=hr
 rw[ifN hn,hr']
 dsimp only
 rw[at_z H,decide_eq_true rfl,Fkz]
 rw[← hw]
 unfold z7s
 congr 1
 refine congrArg (List.all (Awz r.rt_.length)) (funext fun j=>?_)
 have h1:=k9V H ((phP g ph r 0).length:Int) j
 unfold at0 at h1
 rw[tnC] at h1
 rw[h1]
end
theorem k5t {a:List At_}{r:Rl_}:∀ (f:Nat) (out:List (List Nat×List Nat)) (d:List Bool) (l:List (List Nat×List Nat)),runP a r f out d=some l→(out≠[]∨0<f)→l≠[]
 | 0,out,d,l,h,hne=>by
  rw[runP] at h
  cases h
  exact hne.resolve_right (by omega)
 | f+1,out,d,l,h,hne=>by
  rw[runP] at h
  split at h
  ·split at h
   ·cases h
   ·exact k5t f _ _ l h (.inl (by simp))
  ·rename_i hn
   cases h
   exact fun e=>hn (.inl e)
theorem k7I {a:List At_}{r:Rl_}(h:(phO a r).2=true):(phO a r).1≠[]:=by
 unfold phO at h ⊢
 cases hp:phR a r with
 | none=>rw[hp] at h;cases h
 | some l=>
  have hq:=hp
  unfold phR at hq
  split at hq
  ·have:=k5t _ _ _ _ hq (.inr (by omega))
   simpa using this
  ·cases hq
theorem j1l {a:List At_}{r:Rl_}{m:Int}:∀ (f:Nat) (d:List Bool) (k:Nat),k∈(q7I a r m f d).1→k<a.length∧(a.getD k k0n).Mode=m
 | 0,d,k,h=>nomatch h
 | f+1,d,k,h=>by
  rw[q7I] at h
  cases hc:j1j a r d m with
  | none=>rw[hc] at h;exact nomatch h
  | some j=>
   rw[hc] at h
   rcases List.mem_cons.1 h with e|h
   ·subst e
    have h1:=Fsz hc
    have h2:=List.mem_range.1 (Erz hc)
    unfold okK at h1
    simp only[Akz,decide_eq_true_eq] at h1
    exact⟨h2,h1.1.1⟩
   ·exact j1l f _ k h
def Md (a:List At_)(p:List Nat×List Nat):Prop:=(∀ k∈p.1,k<a.length∧(a.getD k k0n).Mode=1)∧∀ k∈p.2,k<a.length∧(a.getD k k0n).Mode=2
theorem j8T {a:List At_}{r:Rl_}:∀ (f:Nat) (out:List (List Nat×List Nat)) (d:List Bool) (l:List (List Nat×List Nat)),runP a r f out d=some l→(∀ p∈out,Md a p)→∀ p∈l,Md a p
 | 0,out,d,l,h,hp=>by
  rw[runP] at h
  cases h
  exact hp
 | f+1,out,d,l,h,hp=>by
  rw[runP] at h
  split at h
  ·split at h
   ·cases h
   ·refine j8T f _ _ l h fun p hm=>?_
    rcases List.mem_append.1 hm with hm|hm
    ·exact hp p hm
    ·rw[Byz] at hm
     subst hm
     exact⟨fun k hk=>j1l _ _ k hk,fun k hk=>j1l _ _ k hk⟩
  ·cases h
   exact hp
theorem k7J {a:List At_}{k:Nat}{m:Int}(h:k<a.length∧(a.getD k k0n).Mode=m):∃ x∈a,x.Name=nm a k∧x.Mode=m:=by
 refine⟨a.getD k k0n,?_,rfl,h.2⟩
 rw[Ddz,Auz h.1]
 exact List.getElem_mem h.1
theorem k1E {a:List At_}{r:Rl_}:∀ p∈(phO a r).1,(∀ n∈p.id_,∃ x∈a,x.Name=n∧x.Mode=1)∧∀ n∈p.sd_,∃ x∈a,x.Name=n∧x.Mode=2:=by
 unfold phO
 cases hp:phR a r with
 | none=>exact fun p h=>nomatch h
 | some l=>
  have hq:=hp
  unfold phR at hq
  split at hq
  ·have hm:=j8T _ _ _ _ hq (fun p hp=>nomatch hp)
   intro p h
   obtain⟨q,hql,rfl⟩:=List.mem_map.1 h
   obtain⟨h1,h2⟩:=hm q hql
   refine⟨fun n hn=>?_,fun n hn=>?_⟩
   ·obtain⟨k,hk,rfl⟩:=List.mem_map.1 hn
    exact k7J (h1 k hk)
   ·obtain⟨k,hk,rfl⟩:=List.mem_map.1 hn
    exact k7J (h2 k hk)
  ·cases hq
theorem j5H {g:Gm_}(h0:Sz.szd g≤1048576){ps:List (List Ph_)}(e:q3V g=some (ps,true)):∀ (j:Nat) (x:Symbol),g.ss_[j]?=some x→∃ y,ps[j]?=some (phO (q5C g x.Name) y).1∧(phO (q5C g x.Name) y).2=true:=by
 obtain⟨q,b,e1,e2,hn,hi⟩:=z5C h0
 unfold q3V at e
 rw[e1,bsS] at e
 dsimp only at e
 cases b with
 | false=>
  rw[ifN (by simp)] at e
  cases e
 | true=>
  obtain⟨hg,hI,_⟩:=hi rfl
  have hS:=z6B hg
  have hl:=hS.syms
  rw[ifP rfl] at e
  have key:∀ (xs:List Symbol) (i:Nat) (s s' : List (List Ph_)),g.ss_.drop i=xs→s.length=i→findL (q4v g q) i xs s=some (.inl s')→(∀ (j:Nat) (x:Symbol),j<i→g.ss_[j]?=some x→∃ y,s[j]?=some (phO (q5C g x.Name) y).1∧(phO (q5C g x.Name) y).2=true)→∀ (j:Nat) (x:Symbol),g.ss_[j]?=some x→∃ y,s'[j]?=some (phO (q5C g x.Name) y).1∧(phO (q5C g x.Name) y).2=true:=by
   intro xs
   induction xs with
   | nil=>
    intro i s s' hx hs hf hp j x hj
    have:g.ss_.length-i=0:=by rw[← Cdz,hx];rfl
    cases hf
    exact hp j x (by have:=(List.getElem?_eq_some_iff.1 hj).1;omega) hj
   | cons x xs ih=>
    intro i s s' hx hs hf hp
    have hlt:i<g.ss_.length:=by
     have:g.ss_.length-i=xs.length+1:=by rw[← Cdz,hx];rfl
     omega
    have hd:=Dbz hlt
    rw[hx] at hd
    injection hd with d1 d2
    have hgi:g.ss_[i]?=some x:=by rw[d1];exact Auz hlt
    have hIl:q.length=g.ss_.length:=hI.1
    obtain⟨y,hq⟩:∃ y,q[i]?=some y:=⟨_,Auz (by omega)⟩
    obtain⟨v1,v2⟩:=hI.2 i x _ hgi hq
    have h4:=hS.plain x.Name
    have hv:=v1.len
    have hph:=(z9u (a:=q5C g x.Name) (r:=y) (by omega) (by omega)).1
    have hsl:s.length≤4:=by omega
    have e' : q4v g q i x s=if (phO (q5C g x.Name) y).2=true then some (.inl (s++[(phO (q5C g x.Name) y).1])) else some (.inr ([],false)):=by
     unfold q4v
     rw[z6C (q7T h0),bsS,hq,bsS,hph,bsS]
     generalize phO (q5C g x.Name) y=z
     obtain⟨ps,c⟩:=z
     cases c with
     | false=>exact (ifN Gkz).trans (ifN Gkz).symm
     | true=>exact (ifP rfl).trans ((q3M (by constructor<;>omega)).trans (ifP rfl).symm)
    rw[findL,e'] at hf
    by_cases hb:(phO (q5C g x.Name) y).2=true
    ·rw[ifP hb,bsS] at hf
     refine ih (i+1) _ s' d2.symm (by simp[hs]) hf fun j z hj hz=>?_
     by_cases hji:j=i
     ·subst hji
      rw[hgi] at hz
      cases hz
      exact⟨y,by rw[Bez (by omega),hs,Nat.sub_self];rfl,hb⟩
     ·obtain⟨y',h1,h2⟩:=hp j z (by omega) hz
      exact⟨y',by rw[Bdz (by omega)];exact h1,h2⟩
    ·rw[ifN hb,bsS] at hf
     cases hf
  cases hf:findL (q4v g q) 0 g.ss_ [] with
  | none=>rw[hf] at e;cases e
  | some z=>
   rw[hf,bsS] at e
   cases z with
   | inr c=>obtain⟨c1,c2⟩:=c;cases e;exact absurd hf (by
     intro hf
     have:∀ (xs:List Symbol) (i:Nat) (s:List (List Ph_)),findL (q4v g q) i xs s≠some (.inr (ps,true)):=by
      intro xs
      induction xs with
      | nil=>intro i s h;cases h
      | cons x xs ih=>
       intro i s h
       rw[findL] at h
       cases hk:q4v g q i x s with
       | none=>rw[hk] at h;cases h
       | some w=>
        rw[hk,bsS] at h
        cases w with
        | inl s1=>exact ih _ _ h
        | inr w=>
         cases h
         unfold q4v at hk
         rw[z6C (q7T h0),bsS] at hk
         cases hq:q[i]? with
         | none=>rw[hq] at hk;cases hk
         | some y=>
          rw[hq,bsS] at hk
          cases hz:z2I (q5C g x.Name) y with
          | none=>rw[hz] at hk;cases hk
          | some z=>
           obtain⟨z1,z2⟩:=z
           rw[hz,bsS] at hk
           dsimp only at hk
           split at hk
           ·unfold grd at hk
            split at hk<;>cases hk
           ·cases hk
     exact this _ _ _ hf)
   | inl s'=>
    cases e
    exact key g.ss_ 0 [] ps rfl rfl hf fun j x hj=>absurd hj (by omega)
theorem k9j {r:Rule}(hl:r.rt_.length≤1048576)(k:Int):symS r k=q6k r k:=by
 have h1:=k5i hl k
 rw[z3Z hl k] at h1
 exact (Option.some.inj h1).symm
theorem k7g {g:Gm_}(h0:Sz.szd g≤1048576){ps:List (List Ph_)}(e:q3V g=some (ps,true)){n:BA_}(hn:(q7i g n).2=true):∃ y,phS g ps n=(phO (q5C g n) y).1∧(phO (q5C g n) y).2=true:=by
 have hS:=z7g h0 e
 unfold q7i at hn
 cases hf:g.ss_.find? (fun y=>decide (y.Name=n)) with
 | none=>rw[hf] at hn;cases hn
 | some x=>
  have h1:x.Name=n:=by have:=Fsz hf;simpa using this
  obtain⟨k,hk⟩:=Eqz (Erz hf)
  obtain⟨y,h2,h3⟩:=j5H h0 e k x hk
  have h4:=hS.at_ hk
  rw[h1] at h2 h3 h4
  refine⟨y,?_,h3⟩
  have hkl:=(List.getElem?_eq_some_iff.1 h2).1
  have ha:atI g n=(k:Int):=by unfold atI;rw[h4]
  unfold phS q7l
  rw[k4B,bsS,ha,z4a,bsS,ifP (by simp;omega),q3M (by omega),tnC,h2]
  rfl
theorem j7g {g:Gm_}(h0:Sz.szd g≤1048576){ps:List (List Ph_)}(e:q3V g=some (ps,true)){r:Rule}(hr:r∈g.rs_){k:Nat}(hk:k≤r.rt_.length):∃ y,phP g ps r (k:Int)=(phO (q5C g (q6k r (k:Int))) y).1∧(phO (q5C g (q6k r (k:Int))) y).2=true:=by
 have hS:=z7g h0 e
 have hl:=q5e (Blz (z1D hr) h0)
 unfold phP
 rw[k9j hl]
 exact k7g h0 e (hS.known hr hk)
theorem k9W {g:Gm_}(h0:Sz.szd g≤1048576){ps:List (List Ph_)}(e:q3V g=some (ps,true)){r:Rule}(hr:r∈g.rs_){k:Nat}(hk:k≤r.rt_.length):(phP g ps r (k:Int)).length≠0:=by
 obtain⟨y,h1,h2⟩:=j7g h0 e hr hk
 rw[h1]
 exact fun h=>k7I h2 (Ayz h)
def evN (xs:List Step):Nat:=xs.countP fun x=>decide (x.Kind=1)
theorem k9k (xs ys:List Step):evN (xs++ys)=evN xs+evN ys:=List.countP_append ..
theorem j7h (x:Step)(xs:List Step):evN (x::xs)=evN xs+if x.Kind=1 then 1 else 0:=by
 unfold evN
 rw[Gcz]
 by_cases h:x.Kind=1<;>simp[h]
theorem j5I {K:List Oc}{o:Oc}(hk:o∉K):∀ {R:List Oc},R.Nodup→(o∈R→nK R (K++[o])+1=nK R K)∧(o∉R→nK R (K++[o])=nK R K)
 | [],_=>⟨fun h=>absurd h (by simp),fun _=>rfl⟩
 | x::R,hn=>by
  obtain⟨h1,h2⟩:=List.nodup_cons.1 hn
  obtain⟨ih1,ih2⟩:=j5I hk h2
  unfold nK at ih1 ih2 ⊢
  rw[Gcz,Gcz]
  by_cases he:o=x
  ·subst he
   have ho' : o∈K++[o]:=by simp
   have e2:=ih2 h1
   rw[ifN (by rw[decide_eq_true ho'];simp),ifP (by rw[decide_eq_false hk];rfl)]
   exact⟨fun _=>by omega,fun h=>absurd Cwz h⟩
  ·have e:(x∈K++[o])↔x∈K:=by
    rw[Clz,Byz]
    exact⟨fun h=>h.resolve_right fun e=>he e.symm,.inl⟩
   have e' : (!decide (x∈K++[o]))=!decide (x∈K):=by rw[decide_eq_decide.2 e]
   rw[e']
   refine⟨fun h=>?_,fun h=>?_⟩
   ·have:=ih1 ((List.mem_cons.1 h).resolve_left he)
    omega
   ·have:=ih2 fun h'=>h (Cjz _ h')
    omega
theorem k7K {R K L:List Oc}(h:∀ o∈L,o∉R):nK R (K++L)=nK R K:=by
 unfold nK
 refine List.countP_congr fun o ho=>?_
 have e:(o∈K++L)↔o∈K:=by
  rw[Clz]
  exact⟨fun h'=>h'.resolve_right fun h''=>h o h'' ho,.inl⟩
 rw[decide_eq_decide.2 e]
section
variable {g:Gm_}{ph:List (List Ph_)}{r:Rule}{R K K' K1 K2:List Oc}{V V' V1 V2:List Int}{B:Nat}{x:Step}
structure NoR (g:Gm_) (ph:List (List Ph_)) (r:Rule) (R:List Oc):Prop where
 nd:R.Nodup
 inh:∀ p∈phP g ph r 0,∀ n∈p.id_,(⟨0,n⟩:Oc)∉R
 syn:∀ j,j<r.rt_.length→∀ p∈phP g ph r ((j+1:Nat):Int),∀ n∈p.sd_,(⟨((j+1:Nat):Int),n⟩:Oc)∉R
theorem k9X (hn:NoR g ph r R)(h:nxS g ph r R K V=some (x,K1,V1)):nK R K1+(if x.Kind=1 then 1 else 0)=nK R K:=by
 unfold nxS at h
 cases he:nxE r R K with
 | some o=>
  rw[he] at h
  cases h
  have h1:=Fsz he
  have h2:=Erz he
  have h3:o∉K:=by
   simp only[Akz,Amz,decide_eq_false_iff_not] at h1
   exact h1.1
  rw[ifP (show (evS o).Kind=1 from rfl)]
  exact (j5I h3 hn.nd).1 h2
 | none=>
  rw[he] at h
  cases hv:nxV g ph r K V with
  | none=>rw[hv] at h;cases h
  | some j=>
   rw[hv] at h
   cases h
   obtain⟨_,h1,h2⟩:=j0z hv
   have hc:at0 V ((j+1:Nat):Int)<((phP g ph r ((j+1:Nat):Int)).length:Int):=by
    unfold vsB at h2;simp only[Akz,decide_eq_true_eq] at h2;exact h2.1
   rw[ifN (show ¬ (vsS V j).Kind=1 by unfold vsS;simp)]
   unfold vsK addN
   rw[k7K fun o ho=>?_];rfl
   obtain⟨n,hn1,rfl⟩:=List.mem_map.1 ho
   by_cases hz:0≤at0 V ((j+1:Nat):Int)
   ·have hx:=z0v (g:=g) (ph:=ph) (r:=r) hz hc
    exact hn.syn j (by omega) _ (Ckz hx) n hn1
   ·have e:(at0 V ((j+1:Nat):Int)).toNat=0:=by omega
    unfold phAt at hn1
    rw[e] at hn1
    cases hp:phP g ph r ((j+1:Nat):Int) with
    | nil=>rw[hp] at hn1;exact nomatch hn1
    | cons p ps=>
     rw[hp] at hn1
     exact hn.syn j (by omega) p (by rw[hp];exact Cwz) n hn1
theorem k9l (hn:NoR g ph r R){ys:List Step}(h:Blt g ph r R K V ys K1 V1):nK R K1+evN ys=nK R K:=by
 induction h with
 | nil K V=>rfl
 | cons hx hb ih=>
  have:=k9X hn hx
  rw[j7h];omega
theorem k9m (hn:NoR g ph r R){i:Nat}{ps:List Ph_}{zs:List Step}(h:Pst g ph r R i ps K V zs K2 V2):(∀ p∈ps,p∈phP g ph r 0)→nK R K2+evN zs=nK R K:=by
 induction h with
 | nil i K V=>intro _;rfl
 | @cons i p ps K V ys zs K1 V1 K2 V2 hbl HI hk hp ih=>
  intro hm
  have h1:=k9l hn hbl
  have h2:=ih fun q hq=>hm q (Cjz _ hq)
  have h3:nK R (addN K 0 p.id_)=nK R K:=by
   unfold addN
   refine k7K fun o ho=>?_
   obtain⟨n,hn1,rfl⟩:=List.mem_map.1 ho
   exact hn.inh p (hm p Cwz) n hn1
  rw[k9k,j7h,ifN (show ¬ (fin i).Kind=1 by unfold fin;simp)]
  omega
theorem k7h (hn:NoR g ph r R){st:List Step}(h:Pst g ph r R 0 (phP g ph r 0) [] V st K' V')(hw:z7s g ph r R K' V'=true):evN st=R.length:=by
 have h1:=k9m hn h fun p hp=>hp
 have h2:nK R []=R.length:=by
  unfold nK
  exact List.countP_eq_length.2 fun o _=>by simp
 have h3:nK R K'=0:=by
  unfold z7s at hw
  simp only[Akz,Exz] at hw
  unfold nK
  exact List.countP_eq_zero.2 fun o ho=>by rw[hw.1 o ho];simp
 omega
end
section
variable {g:Gm_}{ph:List (List Ph_)}{r:Rule}{R K K' K1 K2:List Oc}{V V' V1 V2:List Int}{x:Step}
theorem k9n (hph:∀ p∈ph,PS p){ys:List Step}(h:Blt g ph r R K V ys K1 V1):∀ {B:Nat},Iv g ph r K V B→Iv g ph r K1 V1 (B+K1.length)∧ys.length+Phi g ph r R K1 V1≤Phi g ph r R K V:=by
 induction h with
 | nil K V=>intro B H;exact⟨⟨H.len,H.rng,by omega⟩,by simp⟩
 | cons hx hb ih=>
  intro B H
  obtain⟨H1,hd⟩:=j7f hph H hx
  obtain⟨i1,i2⟩:=ih H1
  exact⟨⟨i1.len,i1.rng,by omega⟩,by rw[lnC];omega⟩
theorem k9o (hph:∀ p∈ph,PS p){i:Nat}{ps:List Ph_}{zs:List Step}(h:Pst g ph r R i ps K V zs K2 V2):∀ {B:Nat},Iv g ph r K V B→zs.length+Phi g ph r R K2 V2≤Phi g ph r R K V+wI ps:=by
 induction h with
 | nil i K V=>intro B H;simp
 | @cons i p ps K V ys zs K1 V1 K2 V2 hbl HI hk hp ih=>
  intro B H
  obtain⟨i1,i2⟩:=k9n hph hbl HI
  have i3:=ih i1
  have i4:=k5q (g:=g) (ph:=ph) (r:=r) (R:=R) (K:=K) (V:=V) 0 p.id_
  rw[wI,Bgz,lnC]
  omega
theorem k7i (hph:∀ p∈ph,PS p)(h3:r.rt_.length≤3){st:List Step}(h:Pst g ph r R 0 (phP g ph r 0) [] (Cbz (r.rt_.length+1) 0) st K' V'):st.length≤2*R.length+1200:=by
 have hps:=j4k hph g r 0
 have hI:Iv g ph r [] (Cbz (r.rt_.length+1) 0) ([]:List Oc).length:=by
  refine⟨by simp,fun k hk=>?_,Adz _⟩
  rw[Ddz,Fvz,ifP (by omega)]
  exact⟨Giz _,by show (0:Int)≤_;omega⟩
 have hmu:muV g ph r (Cbz (r.rt_.length+1) 0)≤r.rt_.length*289:=by
  unfold muV
  refine k0t fun j hj=>?_
  have h1:at0 (Cbz (r.rt_.length+1) (0:Int)) ((j+1:Nat):Int)=0:=by
   unfold at0
   rw[tnC,Ddz,Fvz,ifP (by omega)];rfl
  have h2:=j4k hph g r ((j+1:Nat):Int)
  rw[h1]
  have:=k9e h2.2
  have:=h2.1
  show wP (phP g ph r ((j+1:Nat):Int))≤289
  omega
 have hnk:nK R []≤R.length:=Gdz
 have hPhi:Phi g ph r R [] (Cbz (r.rt_.length+1) 0)≤2*R.length+r.rt_.length*289:=by
  unfold Phi
  simp only[Ekz]
  omega
 have hw:=k9g hps.2
 have hl:=hps.1
 have:=k9o hph h hI
 omega
theorem j7i {g:Gm_}(h:Shape g){r:Rule}(hr:r∈g.rs_):(reqL g r).length≤16:=by
 have h1:∀ k,(reqK g r k).length≤4:=fun k=>by
  unfold reqK
  rw[lnM]
  refine Blz (Euz _ _) ?_
  unfold q7i
  cases hf:g.ss_.find? fun y=>decide (y.Name=q6k r (k:Int)) with
  | none=>simp[zS]
  | some y=>exact h.attrs (Erz hf)
 have h2:=j0s h1 (Dxz 0 (r.rt_.length+1))
 have h3:=j4b h hr
 unfold reqL
 rw[Fpz] at h2
 omega
end
theorem k1F {g:Gm_}(h:Shape g){r:Rule}(hr:r∈g.rs_){k:Nat}(hk:k≤r.rt_.length){n:BA_}(ho:(⟨(k:Int),n⟩:Oc)∈reqL g r){x:At_}(hx:x∈q5C g (q6k r (k:Int)))(hn:x.Name=n):x.Mode=if (k:Int)=0 then 2 else 1:=by
 unfold reqL at ho
 obtain⟨j,_,hj⟩:=List.mem_flatMap.1 ho
 unfold reqK at hj
 obtain⟨b,hb,e⟩:=List.mem_map.1 hj
 injection e with e1 e2
 have ej:j=k:=by omega
 subst ej
 obtain⟨hb1,hb2⟩:=List.mem_filter.1 hb
 have hs:=h.find hr (k:=j) (by omega)
 have hx1:=(List.mem_filter.1 hx).1
 have f1:=j4a hs hb1
 have f2:=j4a hs hx1
 rw[e2] at f1
 rw[hn,f1] at f2
 injection f2 with f3
 rw[← f3]
 exact of_decide_eq_true hb2
theorem k9Y {g:Gm_}(h0:Sz.szd g≤1048576)(h:Shape g){ps:List (List Ph_)}(e:q3V g=some (ps,true)){r:Rule}(hr:r∈g.rs_):NoR g ps r (reqL g r):=by
 refine⟨h.req_nodup hr,fun p hp n hn ho=>?_,fun j hj p hp n hn ho=>?_⟩
 ·obtain⟨y,h1,h2⟩:=j7g h0 e hr (k:=0) (by omega)
  have hp' : p∈phP g ps r ((0:Nat):Int):=hp
  rw[h1] at hp'
  obtain⟨x,hx,hxn,hm⟩:=(k1E p hp').1 n hn
  have:=k1F h hr (k:=0) (by omega) ho hx hxn
  rw[hm] at this
  simp at this
 ·obtain⟨y,h1,h2⟩:=j7g h0 e hr (k:=j+1) (by omega)
  rw[h1] at hp
  obtain⟨x,hx,hxn,hm⟩:=(k1E p hp).2 n hn
  have:=k1F h hr (k:=j+1) (by omega) ho hx hxn
  rw[hm,ifN (by omega)] at this
  exact absurd this (by decide)
theorem k2T {g:Gm_}(h0:Sz.szd g≤1048576){q:List Rl_}{b:Bool}(hi:q6u g=some (q,b))(hb:b=true→z8R g=true∧Inv g q):∃ ps c,q3V g=some (ps,c)∧(c=true→b=true∧ps.length=g.ss_.length):=by
 unfold q3V
 rw[hi,bsS]
 dsimp only
 cases b with
 | false=>exact⟨[],false,rfl,fun h=>by cases h⟩
 | true=>
  obtain⟨hg,hI⟩:=hb rfl
  have hS:=z6B hg
  have hl:=hS.syms
  rw[ifP rfl]
  have key:∀ (xs:List Symbol) (i:Nat) (s:List (List Ph_)),g.ss_.drop i=xs→s.length=i→i≤g.ss_.length→(∃ s',findL (q4v g q) i xs s=some (.inl s')∧s'.length=g.ss_.length)∨findL (q4v g q) i xs s=some (.inr ([],false)):=by
   intro xs
   induction xs with
   | nil=>
    intro i s hx hs hi
    left
    have:g.ss_.length-i=0:=by rw[← Cdz,hx];rfl
    exact⟨s,rfl,by omega⟩
   | cons x xs ih=>
    intro i s hx hs hi
    have hlt:i<g.ss_.length:=by
     have:g.ss_.length-i=xs.length+1:=by rw[← Cdz,hx];rfl
     omega
    have hd:=Dbz hlt
    rw[hx] at hd
    injection hd with d1 d2
    have hIl:q.length=g.ss_.length:=hI.1
    obtain⟨y,hq⟩:∃ y,q[i]?=some y:=⟨_,Auz (by omega)⟩
    obtain⟨v1,v2⟩:=hI.2 i x _ (by rw[d1];exact Auz hlt) hq
    have h4:=hS.plain x.Name
    have hv:=v1.len
    have hp:=(z9u (a:=q5C g x.Name) (r:=y) (by omega) (by omega)).1
    have e:q4v g q i x s=if (phO (q5C g x.Name) y).2=true then some (.inl (s++[(phO (q5C g x.Name) y).1])) else some (.inr ([],false)):=by
     unfold q4v
     rw[z6C (q7T h0),bsS,hq,bsS,hp,bsS]
     generalize phO (q5C g x.Name) y=z
     obtain⟨ps,c⟩:=z
     have hsl:s.length≤4:=by omega
     cases c with
     | false=>exact (ifN Gkz).trans (ifN Gkz).symm
     | true=>exact (ifP rfl).trans ((q3M (by constructor<;>omega)).trans (ifP rfl).symm)
    rw[findL,e]
    by_cases hb:(phO (q5C g x.Name) y).2=true
    ·rw[ifP hb,bsS]
     exact ih (i+1) _ d2.symm (by simp[hs]) (by omega)
    ·rw[ifN hb]
     exact .inr rfl
  rcases key g.ss_ 0 [] rfl rfl (Aiz _) with ⟨s',e,h1⟩|e
  ·rw[e];exact⟨s',true,rfl,fun _=>⟨rfl,h1⟩⟩
  ·rw[e];exact⟨[],false,rfl,fun h=>by cases h⟩
theorem GB.gc2 {g:Gm_}(h:GB g):GC2 g:=⟨h.1,h.2.1,h.2.2.1,fun r hr=>by obtain⟨a,c,d⟩:=h.2.2.2 r hr;exact⟨a,by omega,d⟩⟩
theorem k5u {b:List UInt8}(hb:b.length≤1048576):Ok GC2 (q9I b):=by
 unfold q9I
 refine .bind (Q:=GC2) ?_ fun g hg=>.ret hg
 unfold z1h
 obtain⟨z,hz,hz1,hz2⟩:=k9L hb
 obtain⟨zb,zi,zh⟩:=z
 dsimp only at hz1 hz2
 subst hz2
 refine .eq hz ?_
 refine drK (z0T hb _ (cb hz1)) fun y i1 h1 _ hi1=>.ite (fun _=>?_) fun _=>?_
 ·exact drK (k4T hb hi1) fun g i2 h2 hg hi2=>.ret hg
 ·exact drK (j8J hb true hi1) fun g i2 h2 hg hi2=>.ret (GB.gc2 hg)
theorem j2u {α:Type}{f:Nat→α→Unit→Option (Unit ⊕ Bool)}:∀ (xs:List α) (i:Nat),(∀ k x,xs[k]?=some x→f (i+k) x ()=some (.inl ()))→findL f i xs ()=some (.inl ())
 | [],i,_=>rfl
 | x::xs,i,h=>by
  have h0:=h 0 x rfl
  rw[Nat.add_zero] at h0
  rw[findL,h0,bsS]
  exact j2u xs (i+1) fun k y hy=>by
   have:=h (k+1) y hy
   rwa[show i+1+k=i+(k+1) by omega]
theorem j5J (l:List Step):z1L l l=some true:=by
 unfold z1L
 rw[ifP rfl,j2u l 0 fun k x hx=>by unfold z9Z;rw[Ahz,hx,bsS,ifP rfl]];rfl
theorem k2U (l:List RPl_):z3L l l=some true:=by
 unfold z3L
 rw[ifP rfl,j2u l 0 fun k x hx=>by unfold j0a;rw[Ahz,hx,bsS,ifP rfl,j5J];rfl];rfl
theorem Shape.rnames {g:Gm_}(h:Shape g){k j:Nat}{x y:Rule}(hk:g.rs_[k]?=some x)(hj:g.rs_[j]?=some y)(hn:x.Name=y.Name):k=j:=by
 have key:∀ {k j:Nat} {x y:Rule},g.rs_[k]?=some x→g.rs_[j]?=some y→x.Name=y.Name→¬ k<j:=by
  intro k j x y hk hj hn hlt
  have:=z4y _ _ h.rule j y hj
  unfold z3d at this
  rw[Dtz] at this
  have h2:=this.2
  unfold dupB at h2
  rw[Bwz,Epz] at h2
  exact h2 x (Ckz (i:=k) (by rw[List.getElem?_take,ifP hlt];exact hk)) (by simpa using hn)
 have h1:=key hk hj hn
 have h2:=key hj hk hn.symm
 omega
theorem j5K {pl:List RPl_}{n:BA_}:∀ {xs:List RPl_} {i j:Nat} {p:RPl_},xs[j]?=some p→p.Rule=n→(∀ k q,k<j→xs[k]?=some q→q.Rule≠n)→findL (z6U n) i xs ()=some (.inr p.Steps)
 | [],i,j,p,h,_,_=>by rw[List.getElem?_nil] at h;cases h
 | x::xs,i,0,p,h,hn,_=>by
  cases h
  rw[findL,z6U,ifP hn,bsS]
 | x::xs,i,j+1,p,h,hn,hq=>by
  rw[findL,z6U,ifN (hq 0 x (by omega) rfl),bsS]
  exact j5K (pl:=pl) h hn fun k q hk hq'=>hq (k+1) q (by omega) hq'
theorem j4m:∀ (xs:List Step) (i:Nat) (s:Int),0≤s→s+xs.length≤1000000000→eachL (z1g 1) i xs s=some (s+(evN xs:Nat))
 | [],i,s,_,_=>by
  rw[eachL,show evN []=0 from rfl];simp
 | x::xs,i,s,h0,h1=>by
  rw[lnC] at h1
  rw[eachL,j7h]
  unfold z1g
  by_cases hx:x.Kind=1
  ·rw[ifP hx,q3M (by constructor<;>omega),bsS,bsS,ifP hx]
   have:=j4m xs (i+1) (s+1) (by omega) (by omega)
   unfold z1g at this
   rw[this]
   congr 1
   omega
  ·rw[ifN hx,bsS,bsS,ifN hx]
   have:=j4m xs (i+1) s (by omega) (by omega)
   unfold z1g at this
   rw[this,Nat.add_zero]
def reqN (g:Gm_):List Rule→Nat
 | []=>0
 | r::rs=>(reqL g r).length+reqN g rs
section
variable {g:Gm_}{ps:List (List Ph_)}{pl:List RPl_}
theorem k9p (h0:Sz.szd g≤1048576)(e:q3V g=some (ps,true)):z1q g=some true:=by
 rw[j7a h0]
 cases hs:k0m g with
 | true=>rfl
 | false=>
  exfalso
  unfold q3V q6u at e
  rw[j7a h0,hs,bsS] at e
  rw[ifN (by simp),bsS] at e
  dsimp only at e
  rw[ifN (by simp)] at e
  cases e
theorem k0u (h0:Sz.szd g≤1048576)(h:Shape g)(e:q3V g=some (ps,true))(hps:∀ p∈ps,PS p){r:Rule}(hr:r∈g.rs_){p:RPl_}(hg:GP g ps r p):q7F g ps r p.Steps=some true∧evN p.Steps=(reqL g r).length∧p.Steps.length≤2000:=by
 obtain⟨_,K,V,hp,hw⟩:=hg
 have hl:=k7i hps (j4b h hr) hp
 have hR:=j7i h hr
 have hn:=k9W h0 e hr (k:=0) (by omega)
 have hb:=k7f hps hp hw hn
 have hlp:LenP ps:=fun q hq=>by
  have h1:=hps q hq
  refine⟨Blz h1.1 (by omega),fun y hy=>?_⟩
  have h2:=h1.2 y hy
  exact⟨Blz h2.1 (by omega),Blz h2.2 (by omega)⟩
 have h3:=k7d (st:=p.Steps) h0 hlp (Blz (z1D hr) h0) (by omega)
 exact⟨by rw[h3,hb],k7h (k9Y h0 h e hr) hp hw,by omega⟩
theorem j1L (h0:Sz.szd g≤1048576)(h:Shape g)(e:q3V g=some (ps,true))(hps:∀ p∈ps,PS p)(hlen:pl.length=g.rs_.length)(hGP:∀ (j:Nat) p,pl[j]?=some p→∃ r,g.rs_[j]?=some r∧GP g ps r p):∀ (xs:List Rule) (i:Nat) (s:Int),g.rs_.drop i=xs→0≤s→s+16*xs.length≤1000000→findL (z2s g pl ps) i xs s=some (.inl (s+(reqN g xs:Nat)))
 | [],i,s,_,_,_=>by rw[findL,show reqN g []=0 from rfl];simp
 | r::rs,i,s,hd,hs0,hs=>by
  have hlt:i<g.rs_.length:=by
   have:g.rs_.length-i=rs.length+1:=by rw[← Cdz,hd];rfl
   omega
  have hdc:=Dbz hlt
  rw[hd] at hdc
  injection hdc with d1 d2
  have hgi:g.rs_[i]?=some r:=by rw[d1];exact Auz hlt
  have hr:=Ckz hgi
  obtain⟨p,hp⟩:∃ p,pl[i]?=some p:=⟨_,Auz (by omega)⟩
  obtain⟨r',hr',hgp⟩:=hGP i p hp
  rw[hgi] at hr'
  cases hr'
  obtain⟨c1,c2,c3⟩:=k0u h0 h e hps hr hgp
  have hR:=j7i h hr
  have hst:z6n pl r.Name=some p.Steps:=by
   unfold z6n z8D q9A
   rw[j5K (pl:=pl) hp hgp.1 fun k q hk hq hn=>by
    obtain⟨r2,hr2,hg2⟩:=hGP k q hq
    have:=h.rnames hr2 hgi (by rw[← hg2.1,hn])
    omega,bsS,j0C,bsS,q3M (by simp only[Ekz];constructor<;>omega)]
   rfl
  rw[lnC] at hs
  have hstep:z2s g pl ps i r s=some (.inl (s+((reqL g r).length:Int))):=by
   unfold z2s
   rw[j1f (q7T h0) (q5e (Blz (z1D hr) h0)),bsS,q3M (by constructor<;>omega),hst,bsS,hp,bsS,j5J,bsS,ifP rfl,c1,bsS,ifP rfl]
  rw[findL,hstep,bsS]
  show findL (z2s g pl ps) (i+1) rs (s+((reqL g r).length:Int))=_
  rw[j1L h0 h e hps hlen hGP rs (i+1) _ d2.symm (by omega) (by omega),reqN,Int.natCast_add,Int.add_assoc]
theorem j4n (h0:Sz.szd g≤1048576)(h:Shape g)(e:q3V g=some (ps,true))(hps:∀ p∈ps,PS p)(hGP:∀ (j:Nat) p,pl[j]?=some p→∃ r,g.rs_[j]?=some r∧GP g ps r p):∀ (xs:List RPl_) (i:Nat) (s:Int),pl.drop i=xs→pl.length=g.rs_.length→0≤s→s+2000*xs.length≤1000000→eachL (z3v 1) i xs s=some (s+(reqN g (g.rs_.drop i):Nat))
 | [],i,s,hd,hlen,_,_=>by
  have:pl.length-i=0:=by rw[← Cdz,hd];rfl
  rw[Enz (by omega),show reqN g []=0 from rfl,eachL];simp
 | p::rs,i,s,hd,hlen,hs0,hs=>by
  have hlt:i<pl.length:=by
   have:pl.length-i=rs.length+1:=by rw[← Cdz,hd];rfl
   omega
  have hdc:=Dbz hlt
  rw[hd] at hdc
  injection hdc with d1 d2
  have hp:pl[i]?=some p:=by rw[d1];exact Auz hlt
  obtain⟨r,hr,hgp⟩:=hGP i p hp
  obtain⟨c1,c2,c3⟩:=k0u h0 h e hps (Ckz hr) hgp
  have hi:=(List.getElem?_eq_some_iff.1 hr)
  obtain⟨hi1,hi2⟩:=hi
  rw[lnC] at hs
  have hR:=j7i h (Ckz hr)
  have hstep:z3v 1 i p s=some (s+((reqL g r).length:Int)):=by
   unfold z3v
   rw[j4m p.Steps 0 s hs0 (by omega),bsS,c2]
  rw[eachL,hstep,bsS,j4n h0 h e hps hGP rs (i+1) _ d2.symm hlen (by omega) (by omega),Dbz hi1,hi2,reqN,Int.natCast_add,Int.add_assoc]
theorem k7j (h0:Sz.szd g≤1048576)(h:Shape g)(e:q3V g=some (ps,true))(hps:∀ p∈ps,PS p)(hlen:pl.length=g.rs_.length)(hGP:∀ (j:Nat) p,pl[j]?=some p→∃ r,g.rs_[j]?=some r∧GP g ps r p)(hsy:ps.length=g.ss_.length)(hne:∀ q∈ps,q≠[]):z3M g ps pl=some true:=by
 have hcf:q4u ps=some false:=by
  have key:∀ (xs:List (List Ph_)) (i:Nat),(∀ q∈xs,q≠[])→findL q5q i xs ()=some (.inl ()):=by
   intro xs
   induction xs with
   | nil=>intro i _;rfl
   | cons x xs ih=>
    intro i hx
    have h1:¬ (x.length:Int)=0:=fun hl=>hx x Cwz (Ayz (by omega))
    rw[findL]
    unfold q5q z1f
    rw[bsS,ifN (by simpa using h1),bsS]
    have:=ih (i+1) fun q hq=>hx q (Cjz _ hq)
    unfold q5q z1f at this
    exact this
  unfold q4u q5w
  rw[key ps 0 hne];rfl
 unfold z3M
 rw[k9p h0 e,bsS,ifP rfl,hsy,decide_eq_true rfl,Fgz,bsS,ifN (by simp),hlen,decide_eq_true rfl,Fgz,bsS,ifN (by simp),hcf,bsS,bsS,ifN (by simp),j2u g.rs_ 0 fun k r hr=>by
  rw[Ahz]
  have hk:=(List.getElem?_eq_some_iff.1 hr).1
  obtain⟨p,hp⟩:∃ p,pl[k]?=some p:=⟨_,Auz (by omega)⟩
  obtain⟨r',hr',hgp⟩:=hGP k p hp
  rw[hr] at hr'
  cases hr'
  unfold j0b
  rw[hp,bsS,ifP hgp.1,(k0u h0 h e hps (Ckz hr) hgp).1];rfl]
 rfl
end
theorem j8U (a:List UInt8):z5v a=some true:=by
 unfold z5v k0X
 rw[bsS]
 by_cases hb:1048576<(a.length:Int)
 ·rw[ifP (by simpa using hb)]
 rw[ifN (by simpa using hb)]
 have hb:a.length≤1048576:=by omega
 obtain⟨g,e,hg⟩:=k5u hb
 have hG:=szG hg
 obtain⟨pl,c,e1,e2,hl,hi,hf,ht⟩:=k2S hG
 rw[e,bsS,e1,bsS]
 dsimp only
 rw[e2,bsS]
 dsimp only
 rw[ifP rfl,k2U,bsS,bsS,ifN (by decide)]
 cases c with
 | false=>rw[hf rfl];rfl
 | true=>
  obtain⟨ps,p1,p2,hlen,hGP⟩:=ht rfl
  obtain⟨ps',c',s1,s2,s3,s4⟩:=j5C hG
  rw[p1] at s1
  cases s1
  have hS:=z7g hG p1
  have hst:=j5H hG p1
  obtain⟨q,b,q1,q2,q3,q4⟩:=z5C hG
  obtain⟨ps2,c2,w1,w2⟩:=k2T hG q1 fun h=>⟨(q4 h).1,(q4 h).2.1⟩
  rw[p1] at w1
  cases w1
  have hlp:ps.length=g.ss_.length:=(w2 rfl).2
  have hne:∀ q∈ps,q≠[]:=fun q hq=>by
   obtain⟨j,hj,e⟩:=Ftz hq
   obtain⟨x,hx⟩:∃ x,g.ss_[j]?=some x:=⟨_,Auz (by omega)⟩
   obtain⟨y,t1,t2⟩:=hst j x hx
   rw[Auz hj,e] at t1
   rw[Option.some.inj t1]
   exact k7I t2
  rw[ifP rfl,s2,bsS]
  dsimp only
  have hrl:=hS.rules.2
  rw[j1L hG hS p1 p2 hlen hGP g.rs_ 0 0 rfl (by omega) (by omega),bsS,z4B,k7j hG hS p1 p2 hlen hGP hlp hne,bsS,ifP rfl]
  unfold z4i
  rw[j4n hG hS p1 p2 hGP pl 0 0 rfl hlen (by omega) (by omega),bsS,bsS,Fwz]
  simp
end Go.Proofs.YtppbkkcekpbaiaaGreat
