/- What those partial functions come to: plain lemmas on data; each bears its conditions in its statement. -/
import Derived.Test.YtomdlgffolbdkaaGreatMath1
set_option linter.unusedVariables false
set_option linter.unusedSimpArgs false
set_option linter.ambiguousOpen false
set_option linter.unusedSectionVars false
set_option linter.unnecessarySimpa false
namespace Go.Proofs.YtomdlgffolbdkaaGreat
open Go Go.E
theorem j2D {g:Gm_}(h:SBs g.Symbols)(nm:ByteArray):(q6M g nm).1.Attributes.length≤5∧∀ a∈(q6M g nm).1.Attributes,a.Name.size≤8:=by
 unfold q6M
 split
 ·rename_i y hy
  have:=h.2.2 y (List.mem_of_find?_eq_some hy)
  exact⟨this.2.2.1,this.2.2.2⟩
 ·exact⟨by simp[zS],by simp[zS]⟩
theorem k1W {y:Symbol}(h:∀ a∈y.Attributes,a.Name.size≤8)(nm:ByteArray):q5G y nm=some (z2p y nm):=by
 unfold q5G z2p
 rw[z0R (p:=fun a=>decide (a.Name=nm)) (r:=fun a=>(a,true)) fun k x _=>⟨fun hp=>by unfold z0z;rw[ifP (by simpa using hp)],fun hp=>by unfold z0z;rw[ifN (by simpa using hp)]⟩]
 cases y.Attributes.find? fun a=>decide (a.Name=nm)<;>rfl
theorem SBs.g {g:Gm_}(h:SBs g.Symbols):GOk g:=fun y hy=>by have:=(h.2.2 y hy).2.2.1;omega
theorem k1X {g:Gm_}(hs:SBs g.Symbols){r:Rule}(hr:r.Right.length≤5)(k:Int):Ok (fun q=>∀ o∈q,o.Name.size≤8) (z0U g r k):=by
 unfold z0U
 refine Ok.bind (Q:=fun q=>∀ o∈q,o.Name.size≤8) (j2C (P:=fun s:List Oc×Int=>0≤s.2∧s.2≤r.Right.length+1∧(s.1.length:Int)≤5*s.2∧∀ o∈s.1,o.Name.size≤8) (fun s=>(r.Right.length+1-s.2).toNat) ?_ _ ⟨by simp,by simp;omega,by simp,by simp⟩) fun q hq=>.ret hq
 rintro⟨q,p⟩ ⟨h1,h2,h3,h4⟩
 dsimp only at h1 h2 h3 h4
 unfold j3w
 dsimp only
 refine .ite (fun hp=>?_) fun _=>.ret h4
 refine .eq (z4e (show r.Right.length≤1048576 by omega) p) ?_
 refine .eq (z1q hs.g _) ?_
 have hff:=j2D hs (q8l r p)
 generalize q6M g (q8l r p)=fs at hff
 obtain⟨y,yb⟩:=fs
 obtain⟨f1,f2⟩:=hff
 dsimp only at f1 f2 ⊢
 refine Ok.bind (Q:=fun q'=>q'.length≤q.length+5∧∀ o∈q',o.Name.size≤8) ((j2r (P:=fun k q'=>q'.length≤q.length+k∧∀ o∈q',o.Name.size≤8) (i:=0) ⟨by omega,h4⟩ ?_).mono fun q' hq=>⟨by omega,hq.2⟩) fun q' hq=>.grd (by constructor<;>omega) (.ret ⟨⟨by dsimp only;omega,by dsimp only;omega,by dsimp only;omega,hq.2⟩,by dsimp only;omega⟩)
 intro j a l ha _ hj hl
 have hl1:=hl.1
 have hl2:=hl.2
 have ha:=f2 a ha
 unfold j3v
 dsimp only
 have e1:Ok (fun q' : List Oc=>q'.length≤q.length+(j+1)∧∀ o∈q',o.Name.size≤8) (some l):=.ret ⟨by omega,hl2⟩
 have e2:Ok (fun q' : List Oc=>q'.length≤q.length+(j+1)∧∀ o∈q',o.Name.size≤8) (some (l++[(⟨p,a.Name⟩:Oc)])):=.ret ⟨by simp;omega,fun o ho=>by
  simp only[List.mem_append,List.mem_cons,List.not_mem_nil,or_false] at ho
  rcases ho with ho|ho
  ·exact hl2 o ho
  ·rw[ho];exact ha⟩
 have hb:([]:List UInt8).length≤1048576:=by simp
 repeat' first
  | ((with_reducible refine .bso ?_);try dsimp only)
  | (with_reducible exact e1)
  | (with_reducible exact e2)
  | ((with_reducible refine .bbi ?_);try dsimp only)
  | (with_reducible refine .bif (fun _=>?_) fun _=>?_)
  | (with_reducible refine .ite (fun _=>?_) fun _=>?_)
  | ((with_reducible refine drK (q8V hb _ (cb (by assumption))) fun _ _ _ _ _=>?_);try dsimp only)
  | ((with_reducible refine drK (q9C hb (by simp) (cb (by assumption))) fun _ _ _ _ _=>?_);try dsimp only)
  | ((with_reducible refine drK (q4L hb _ (cb (by assumption))) fun _ _ _ _ _=>?_);try dsimp only)
  | (refine .bgr (by constructor<;>omega) ?_)
  | (refine .grd (by constructor<;>omega) ?_)
theorem k5d (a:Int):Ok (fun _=>True) (q4Z a):=by
 unfold q4Z
 rw[q8R,bsS,q8R,bsS]
 repeat' first
  | exact .ret trivial
  | refine .ite (fun _=>?_) fun _=>?_
theorem k5e (a:Int)(x y:Expr):z1T a x y=some (⟨4,a,0,0,(⟨#[]⟩:ByteArray),(⟨#[]⟩:ByteArray),[x,y]⟩:Expr):=rfl
theorem k3Q (g:Gm_)(r:Rule)(rem:Bool):∀ (m n1 n2:Nat),m<n1→m<n2→∀ (k d:Int) (o:l1Cur),d≤m+1→q6l n1 g r k d rem o=q6l n2 g r k d rem o:=by
 intro m
 induction m with
 | zero=>
  intro n1 n2 h1 h2 k d o hd
  obtain⟨n1,rfl⟩:∃ q,n1=q+1:=⟨n1-1,by omega⟩
  obtain⟨n2,rfl⟩:∃ q,n2=q+1:=⟨n2-1,by omega⟩
  show q6Q (q6l n1) g r k d rem o=q6Q (q6l n2) g r k d rem o
  unfold q6Q
  simp only[ifP (show d<2 by omega),bsS,if_true]
 | succ m ih=>
  intro n1 n2 h1 h2 k d o hd
  obtain⟨n1,rfl⟩:∃ q,n1=q+1:=⟨n1-1,by omega⟩
  obtain⟨n2,rfl⟩:∃ q,n2=q+1:=⟨n2-1,by omega⟩
  show q6Q (q6l n1) g r k d rem o=q6Q (q6l n2) g r k d rem o
  have h:∀ k o,q6l n1 g r k (d-1) rem o=q6l n2 g r k (d-1) rem o:=fun k o=>ih n1 n2 (by omega) (by omega) k (d-1) o (by omega)
  unfold q6Q
  simp only[h]
section
variable {b:List UInt8}(hb:b.length≤1048576)
include hb
theorem k1Y {g:Gm_}(hs:SBs g.Symbols){r:Rule}(hr:r.Right.length≤5)(rem:Bool):∀ (m n:Nat),m<n→∀ (k d i h:Int),d≤m+1→-1000+m≤d→d≤1000→0≤i→Dr b (fun e=>Sz.szd e≤fb m) (q6l n g r k d rem ⟨b,i,h⟩):=by
 intro m
 induction m with
 | zero=>
  intro n hn k d i h hd hd0 hd1 hi
  obtain⟨n,rfl⟩:∃ q,n=q+1:=⟨n-1,by omega⟩
  show Dr b _ (q6Q (q6l n) g r k d rem ⟨b,i,h⟩)
  unfold q6Q
  rw[ifP (show d<2 by omega)]
  dsimp only
  rw[bsS]
  dsimp only
  rw[ifP rfl]
  unfold Dr
  have hf:=j1l hb 0
  repeat' first
   | ((with_reducible refine .bso ?_);try dsimp only)
   | ((with_reducible refine .bind (k1X hs hr _) fun _ _=>?_))
   | ((with_reducible refine drK (z7H hb _ (by assumption) (cb (by assumption))) fun _ _ _ _ _=>?_);try dsimp only)
   | ((with_reducible refine .bbi ?_);try dsimp only)
   | (with_reducible refine .bif (fun _=>?_) fun _=>?_)
   | (with_reducible refine .ite (fun _=>?_) fun _=>?_)
   | ((with_reducible refine drK (q8V hb _ (cb (by assumption))) fun _ _ _ _ _=>?_);try dsimp only)
   | ((with_reducible refine drK (q9C hb (by simp) (cb (by assumption))) fun _ _ _ _ _=>?_);try dsimp only)
   | ((with_reducible refine drK (q4L hb _ (cb (by assumption))) fun _ _ _ _ _=>?_);try dsimp only)
   | (refine .bgr (by constructor<;>omega) ?_)
   | (refine .grd (by constructor<;>omega) ?_)
  all_goals refine⟨_,rfl,?_,by assumption,rfl⟩
  all_goals dsimp only
  all_goals first
   | (rw[j1k hb,z1G hb];omega)
   | omega
 | succ m ih=>
  intro n hn k d i h hd hd0 hd1 hi
  obtain⟨n,rfl⟩:∃ q,n=q+1:=⟨n-1,by omega⟩
  have hr1:∀ k i h,0≤i→Dr b (fun e=>Sz.szd e≤fb m) (q6l n g r k (d-1) rem ⟨b,i,h⟩):=fun k i h hi=>ih n (by omega) k (d-1) i h (by omega) (by omega) (by omega) hi
  show Dr b _ (q6Q (q6l n) g r k d rem ⟨b,i,h⟩)
  unfold q6Q Dr
  dsimp only
  have hl:=hs.1
  have hf:=j1l hb m
  have hg:=j9x hb m
  have hid:I64 (d-1):=by constructor<;>omega
  repeat' first
   | ((with_reducible refine .bso ?_);try dsimp only)
   | ((with_reducible refine .bind (k1X hs hr _) fun _ _=>?_))
   | ((with_reducible refine drK (z7H hb _ (by assumption) (cb (by assumption))) fun _ _ _ _ _=>?_);try dsimp only)
   | ((with_reducible refine drK (hr1 _ _ _ (by assumption)) fun _ _ _ _ _=>?_);try dsimp only)
   | ((with_reducible refine .bind (k5d _) fun _ _=>?_);try dsimp only)
   | ((with_reducible refine .eq (k5e _ _ _) ?_);try dsimp only)
   | ((with_reducible refine .grd hid ?_))
   | ((with_reducible refine .grd (by omega) ?_))
   | ((with_reducible refine .get (l:=g.Symbols) (by omega) fun x hx=>?_);obtain⟨_,_,_,hat⟩:=hs.2.2 x hx)
   | ((with_reducible refine .get (by omega) fun x hx=>?_);have hxn:=hat x hx)
   | ((with_reducible refine .bbi ?_);try dsimp only)
   | (with_reducible refine .bif (fun _=>?_) fun _=>?_)
   | (with_reducible refine .ite (fun _=>?_) fun _=>?_)
   | ((with_reducible refine drK (q8V hb _ (cb (by assumption))) fun _ _ _ _ _=>?_);try dsimp only)
   | ((with_reducible refine drK (q9C hb (by simp) (cb (by assumption))) fun _ _ _ _ _=>?_);try dsimp only)
   | ((with_reducible refine drK (q4L hb _ (cb (by assumption))) fun _ _ _ _ _=>?_);try dsimp only)
   | (refine .bgr (by constructor<;>omega) ?_)
   | (refine .grd (by constructor<;>omega) ?_)
  all_goals refine⟨_,rfl,?_,by assumption,rfl⟩
  all_goals dsimp only at *
  all_goals first
   | (rw[j1k hb,z1G hb];omega)
   | (rw[k2y hb];omega)
   | (rw[j9w hb,z1G hb];omega)
   | (rw[j6A hb,z1G hb];omega)
   | omega
theorem k3R {g:Gm_}(hs:SBs g.Symbols){r:Rule}(hr:r.Right.length≤5)(rem:Bool)(k d i h:Int)(h0:0≤d)(h3:d≤3)(hi:0≤i):Dr b (fun e=>Sz.szd e≤320) (z7r g r k d rem ⟨b,i,h⟩):=
 j9v (N:=3) (fun n hn=>k3Q g r rem 2 (n+1) n (by omega) (by omega) k d _ (by omega)) (k1Y hb hs hr rem 2 3 (by omega) k d i h (by omega) (by omega) (by omega) hi)
end
theorem j6O {α β:Type}{f:α→List β}{C:Nat}(h:∀ x,(f x).length≤C):∀ l:List α,(l.flatMap f).length≤l.length*C
 | []=>by simp
 | x::l=>by
  have h1:=j6O h l
  have h2:=h x
  simp only[List.flatMap_cons,List.length_append,lnC,Nat.add_mul];omega
theorem k0k {g:Gm_}(hs:SBs g.Symbols)(r:Rule)(k:Nat):(reqK g r k).length≤5∧∀ o∈reqK g r k,o.Name.size≤8:=by
 obtain⟨f1,f2⟩:=j2D hs (q8l r (k:Int))
 unfold reqK
 refine⟨by rw[lnM];exact Nat.le_trans (List.length_filter_le _ _) f1,fun o ho=>?_⟩
 obtain⟨a,ha,rfl⟩:=List.mem_map.1 ho
 exact f2 a (List.mem_filter.1 ha).1
theorem k3S {g:Gm_}(hs:SBs g.Symbols){r:Rule}(hr:r.Right.length≤5):(reqL g r).length≤30∧∀ o∈reqL g r,o.Name.size≤8:=by
 unfold reqL
 refine⟨?_,fun o ho=>?_⟩
 ·have:=j6O (C:=5) (fun k=>(k0k hs r k).1) (List.range' 0 (r.Right.length+1))
  rw[List.length_range'] at this
  omega
 ·obtain⟨k,_,hk⟩:=List.mem_flatMap.1 ho
  exact (k0k hs r k).2 o hk
theorem z7c {α:Type}[Sz α](l:List α)(x:α):szL (l++[x])=szL l+(1+Sz.szd x):=by rw[z7k];rfl
theorem j4l (o:Oc)(e:Expr):Sz.szd (⟨o,e⟩:Eqn)=o.Name.size+Sz.szd e:=by rw[z8d,q6u];dsimp only;omega
theorem k2D (s m:ByteArray)(e f:Expr):Sz.szd (⟨s,m,e,f⟩:Cn)=s.size+m.size+Sz.szd e+Sz.szd f:=by rw[z4o,q6u,q6u];dsimp only;omega
section
variable {b:List UInt8}(hb:b.length≤1048576)
include hb
theorem k3T {g:Gm_}(hs:SBs g.Symbols){r:Rule}(hr:RB r)(he:r.Equations=[])(rem:Bool){i h:Int}(hi:0≤i):Dr b (fun q=>RB q∧(szL q.Equations≤12000∧q.Equations.length≤30)∧q.Contributions=r.Contributions) (z3h g r rem ⟨b,i,h⟩):=by
 have h5:=hr.2.2.1
 obtain⟨q1,q2⟩:=k3S hs h5
 unfold z3h
 refine .eq (j5x hs.g hr.rok) ?_
 refine k3P (fun j (l:List Eqn)=>l.length=j∧szL l≤j*400) hi (by rw[he];exact⟨rfl,by simp[szL]⟩) (fun j x l i h hx hj hi hl=>?_) fun l i h hi hl=>?_
 ·obtain⟨hl1,hl2⟩:=hl
  have hx:=q2 x hx
  have fin:∀ (e:Expr) (i' h' : Int),Sz.szd e≤320→0≤i'→Ok (fun s:Int×Int×List Eqn=>0≤s.1∧(s.2.2.length=j+1∧szL s.2.2≤(j+1)*400)) (some (i',h',l++[(⟨x,e⟩:Eqn)])):=fun e i' h' h1 hi'=>.ret ⟨hi',by simp[hl1],by dsimp only;rw[z7c,j4l];omega⟩
  unfold z9j
  dsimp only
  refine .bbi (.eq (z4e (show r.Right.length≤1048576 by omega) _) ?_)
  refine .bbi (.eq (z1q hs.g _) ?_)
  have hff:=j2D hs (q8l r x.Pos)
  generalize q6M g (q8l r x.Pos)=fs at hff
  obtain⟨y,yb⟩:=fs
  obtain⟨f1,f2⟩:=hff
  dsimp only at f1 f2 ⊢
  refine .bbi (.eq (k1W f2 _) ?_)
  generalize z2p y x.Name=fa
  obtain⟨a,ab⟩:=fa
  dsimp only
  refine .bbi (drK (q4L hb 3 (cb hi)) fun d i1 h1 hd hi1=>?_)
  have hd3:=hd.2.1 (by omega)
  refine .bgr (by constructor<;>omega) ?_
  refine .bbi (drK (k3R hb hs (r:=⟨r.Name,r.Left,r.Right,r.Literal,l,r.Contributions⟩) h5 rem _ _ _ _ (by omega) (by omega) hi1) fun e i2 h2 he2 hi2=>?_)
  dsimp only at he2 ⊢
  refine .bbi (.eq (z6W (by have:=j9z hb he2;omega)) ?_)
  refine .bif (fun _=>?_) fun _=>?_
  ·refine .bgr (by constructor<;>omega) ?_
   exact fin _ _ _ he2 hi2
  ·refine .bbi (drK (z7H hb _ (by simp) (cb hi2)) fun e3 i3 h3 he3 hi3=>?_)
   refine .bgr (by constructor<;>omega) ?_
   exact fin _ _ _ (by show Sz.szd e3≤320;have:Sz.szd e3≤8:=he3;omega) hi3
 ·exact⟨_,rfl,⟨hr,⟨by have:=hl.2;dsimp only;omega,by have:=hl.1;dsimp only;omega⟩,rfl⟩,hi,rfl⟩
theorem k4H {g:Gm_}(hs:SBs g.Symbols){r:Rule}(hr:RB r)(hc:r.Contributions=[]){i h:Int}(hi:0≤i):Dr b (fun q=>RB q∧q.Equations=r.Equations∧szL q.Contributions≤200) (z4C g r ⟨b,i,h⟩):=by
 have h5:=hr.2.2.1
 unfold z4C
 refine k3P (fun _ (l:List Cn)=>l.length≤2∧szL l≤l.length*40) hi (by rw[hc];simp[szL]) (fun j x l i h hx hj hi hl=>?_) fun l i h hi hl=>?_
 ·obtain⟨s1,_,_,s2⟩:=hs.2.2 x hx
  unfold j0V
  dsimp only
  refine k3P (fun _ (l:List Cn)=>l.length≤2∧szL l≤l.length*40) hi hl (fun j2 a l i h ha hj hi hl=>?_) fun l i h hi hl=>.ret ⟨hi,hl⟩
  have ha:=s2 a ha
  unfold j0U
  dsimp only
  refine .bbi ?_
  refine .bif (fun _=>.bso ?_) fun _=>.bso ?_
  ·refine .bbi ?_
   refine .bif (fun h2=>?_) fun _=>.bso ?_
   ·have hl2:l.length<2:=by have:=of_decide_eq_true h2;omega
    refine .bbi (drK (q8V hb _ (cb hi)) fun y i1 h1 _ hi1=>?_)
    refine .bso ?_
    dsimp only
    refine .bif (fun _=>?_) fun _=>.bso ?_
    ·refine .bbi (.bind (k1X hs (r:=⟨r.Name,r.Left,r.Right,r.Literal,r.Equations,l⟩) h5 _) fun q hq=>?_)
     refine .bbi (drK (z7H hb _ hq (cb hi1)) fun e i2 h2 he hi2=>?_)
     refine .bbi (.bind (k1X hs (r:=⟨r.Name,r.Left,r.Right,r.Literal,r.Equations,l⟩) h5 _) fun q3 hq3=>?_)
     refine .bbi (drK (z7H hb _ hq3 (cb hi2)) fun e3 i3 h3 he3 hi3=>?_)
     refine .bgr (by constructor<;>omega) ?_
     refine .bso (.ret ⟨hi3,by dsimp only;simp;omega,?_⟩)
     dsimp only at he he3 ⊢
     rw[z7c,k2D,List.length_append,List.length_singleton]
     have:=hl.2
     omega
    ·exact .ret ⟨hi1,hl⟩
   ·dsimp only
    refine .bif (fun h=>by cases h) fun _=>.bso (.ret ⟨hi,hl⟩)
  ·refine .bbi ?_
   refine .bif (fun h=>by cases h) fun _=>.bso ?_
   dsimp only
   refine .bif (fun h=>by cases h) fun _=>.bso (.ret ⟨hi,hl⟩)
 ·refine⟨_,rfl,⟨hr,rfl,?_⟩,hi,rfl⟩
  have:=hl.1
  have:=hl.2
  dsimp only
  have h80:l.length*40≤80:=by omega
  omega
end
theorem k4I {k:Nat}(hk:k<2):Ok (fun x=>x.size≤1) (q9y (k:Int)):=by
 have:k=0∨k=1:=by omega
 rcases this with rfl|rfl
 ·exact⟨⟨#[48]⟩,by unfold q9y;rfl,by decide⟩
 ·refine⟨⟨#[49]⟩,?_,by decide⟩
  unfold q9y
  rw[ifN (by decide)]
  have h1:z1z (((1:Nat):Int),(⟨#[]⟩:ByteArray))=some (.inl (0,⟨#[49]⟩)):=by
   unfold z1z
   dsimp only
   rw[ifN (by decide),ifN (by decide),q3U (by constructor<;>decide),q3U (by decide),q3U (by constructor<;>decide)]
   rfl
  have h2:z1z (0,(⟨#[49]⟩:ByteArray))=some (.inr ⟨#[49]⟩):=rfl
  rw[q4X h1,q4g h2]
  rfl
def R0 (r:Rule):Prop:=RB r∧r.Equations=[]∧r.Contributions=[]
def R1 (r:Rule):Prop:=RB r∧(szL r.Equations≤12000∧r.Equations.length≤30)∧szL r.Contributions≤200
theorem R0.r1 {r:Rule}(h:R0 r):R1 r:=⟨h.1,⟨by rw[h.2.1];simp[szL],by rw[h.2.1];simp⟩,by rw[h.2.2];simp[szL]⟩
def GB (g:Gm_):Prop:=SBs g.Symbols∧1≤g.Rules.length∧g.Rules.length≤8∧∀ r∈g.Rules,R1 r
theorem stu {x:ByteArray}{n:Nat}(h:x∈[(⟨#[115]⟩:ByteArray),(⟨#[116]⟩:ByteArray),(⟨#[117]⟩:ByteArray)].take n):x.size=1:=by
 have h:=List.mem_of_mem_take h
 simp only[List.mem_cons,List.not_mem_nil,or_false] at h
 rcases h with h|h|h<;>rw[h]<;>rfl
theorem bsz (x y:ByteArray):(x++y).size=x.size+y.size:=ByteArray.size_append
section
variable {b:List UInt8}(hb:b.length≤1048576)
include hb
theorem j4m (pl:Bool){i h:Int}(hi:0≤i):Dr b GB (z1J pl ⟨b,i,h⟩):=by
 unfold z1J
 refine drK (q4L hb 3 (cb hi)) fun y i1 h1 hy hi1=>?_
 have h3:=hy.2.1 (by omega)
 have h0:=hy.1
 dsimp only
 refine .grd (by constructor<;>omega) (.grd (by omega) (.grd (by simp;omega) ?_))
 have hlen:([(⟨#[115]⟩:ByteArray),(⟨#[116]⟩:ByteArray),(⟨#[117]⟩:ByteArray)].take ((1+y).toNat)).length=(1+y).toNat:=by rw[List.length_take];simp;omega
 refine j5J (fun k (l:List Symbol)=>l.length=k∧∀ s∈l,SB s) hi1 ⟨rfl,by simp⟩ (fun j l i h hj hi hl=>?_) fun syms i2 h2 hi2 hsyms=>?_
 ·unfold z9k
  dsimp only
  refine .get (by rw[hlen];exact hj) fun x hx=>?_
  have hx:=stu hx
  refine drK (k2C hb (by omega) _ _ hi) fun s i1 h1 hs hi1=>?_
  refine .grd (by have:=hl.1;constructor<;>omega) (.ret ⟨hi1,by simp[hl.1],fun a ha=>?_⟩)
  simp only[List.mem_append,List.mem_cons,List.not_mem_nil,or_false] at ha
  rcases ha with ha|ha
  ·exact hl.2 a ha
  ·rw[ha];exact hs
 have hS:SBs syms:=⟨by rw[hsyms.1];omega,by rw[hsyms.1];omega,hsyms.2⟩
 dsimp only
 refine j5J (fun k (l:List Rule)=>k≤l.length∧l.length≤3*k∧∀ r∈l,R0 r) hi2 ⟨by simp,by simp,by simp⟩ (fun j l i h hj hi hl=>?_) fun rules i3 h3 hi3 hr=>?_
 ·unfold z9n
  dsimp only
  refine .get (by rw[hlen];exact hj) fun x hx=>?_
  have hx:=stu hx
  refine .grd (by rw[hx];decide) ?_
  refine drK (q8V hb _ (cb hi)) fun y3 i1 h1 _ hi1=>?_
  have hl1:=hl.1
  have hl2:=hl.2.1
  refine .grd (by constructor<;>omega) ?_
  refine drK (q4L hb 2 (cb hi1)) fun y4 i4 h4 hy4 hi4=>?_
  have h42:=hy4.2.1 (by omega)
  have h40:=hy4.1
  refine .grd (by constructor<;>omega) ?_
  dsimp only
  refine j5J (fun k (q:List Rule)=>q.length=l.length+1+k∧∀ r∈q,R0 r) hi4 ⟨by simp,fun a ha=>?_⟩ (fun j2 q i h hj2 hi hq=>?_) fun q i6 h6 hi6 hq=>?_
  ·simp only[List.mem_append,List.mem_cons,List.not_mem_nil,or_false] at ha
   rcases ha with ha|ha
   ·exact hl.2.2 a ha
   ·rw[ha]
    exact⟨⟨by dsimp only;rw[bsz,hx];decide,by dsimp only;omega,by simp,by simp⟩,rfl,rfl⟩
  ·unfold z9m
   dsimp only
   refine .grd (by rw[hx];decide) ?_
   refine .bind (k4I (by omega)) fun nm hnm=>?_
   refine .grd (by rw[bsz,hx];have:(⟨#[112]⟩:ByteArray).size=1:=rfl;omega) ?_
   refine drK (q8V hb _ (cb hi)) fun y6 i1 h1 _ hi1=>?_
   refine drK (q4L hb 3 (cb hi1)) fun y7 i7 h7 hy7 hi7=>?_
   have h72:=hy7.2.1 (by omega)
   have h70:=hy7.1
   refine .grd (by constructor<;>omega) ?_
   dsimp only
   refine j5J (fun k (q:List ByteArray)=>q.length=k∧∀ x∈q,x.size≤8) hi7 ⟨rfl,by simp⟩ (fun j4 q4 i h hj4 hi hq4=>?_) fun q4 i8 h8 hi8 hq4=>?_
   ·unfold z9l
    dsimp only
    refine drK (z2n hb (by intro h;have:=congrArg List.length h;rw[hlen] at this;simp at this;omega) (cb hi)) fun z i1 h1 hz hi1=>?_
    have hz:=stu hz
    refine .grd (by have:=hq4.1;constructor<;>omega) (.ret ⟨hi1,by simp[hq4.1],fun a ha=>?_⟩)
    simp only[List.mem_append,List.mem_cons,List.not_mem_nil,or_false] at ha
    rcases ha with ha|ha
    ·exact hq4.2 a ha
    ·rw[ha];omega
   ·have hq41:=hq4.1
    have hq1:=hq.1
    refine .grd (by constructor<;>omega) (.ret ⟨hi8,by simp;omega,fun a ha=>?_⟩)
    simp only[List.mem_append,List.mem_cons,List.not_mem_nil,or_false] at ha
    rcases ha with ha|ha
    ·exact hq.2 a ha
    ·rw[ha]
     exact⟨⟨by dsimp only;rw[bsz,bsz,hx];have:(⟨#[112]⟩:ByteArray).size=1:=rfl;omega,by dsimp only;omega,by dsimp only;omega,hq4.2⟩,rfl,rfl⟩
  ·exact .ret ⟨hi6,by dsimp only;have:=hq.1;omega,by dsimp only;have:=hq.1;omega,hq.2⟩
 dsimp only
 have hr1:=hr.1
 have hr2:=hr.2.1
 have key:∀ rs:List Rule,1≤rs.length→rs.length≤8→(∀ r∈rs,R0 r)→Ok (fun r=>GB r.1∧CB b r.2) ((q5w (z5R pl ⟨b,i,h⟩ syms) (0,i3,h3,rs)).bind fun (s14,s15,s16)=>some ((⟨syms,s16⟩:Gm_),(⟨b,s14,s15⟩:l1Cur))):=by
  intro rs g1 g2 g3
  refine Ok.bind (Q:=fun s:Int×Int×List Rule=>0≤s.1∧s.2.2.length=rs.length∧∀ r∈s.2.2,R1 r) (j2C (P:=fun s:Int×Int×Int×List Rule=>0≤s.1∧s.1≤rs.length∧0≤s.2.1∧s.2.2.2.length=rs.length∧∀ (k:Nat) x,s.2.2.2[k]?=some x→R1 x∧(s.1≤(k:Int)→R0 x)) (fun s=>(rs.length-s.1).toNat) ?_ _ ⟨Int.le_refl _,by dsimp only;omega,hi3,rfl,fun k x hx=>⟨(g3 x (List.mem_of_getElem? hx)).r1,fun _=>g3 x (List.mem_of_getElem? hx)⟩⟩) ?_
  ·rintro⟨p,i5,h5,q⟩ ⟨a1,a2,a3,a4,a5⟩
   dsimp only at a1 a2 a3 a4 a5
   unfold z5R
   dsimp only
   refine .ite (fun hp=>?_) fun _=>.ret ⟨a3,a4,fun r hr=>?_⟩
   ·obtain⟨x,hx⟩:∃ x,q[p.toNat]?=some x:=⟨_,List.getElem?_eq_getElem (by omega)⟩
    have hx0:=(a5 _ _ hx).2 (by omega)
    rw[hx]
    have fin:∀ (y:Rule) (i' h' : Int),R1 y→0≤i'→(0≤p+1∧p+1≤rs.length∧0≤i'∧(List.set q p.toNat y).length=rs.length∧∀ (k:Nat) x,(List.set q p.toNat y)[k]?=some x→R1 x∧(p+1≤(k:Int)→R0 x))∧(rs.length-(p+1)).toNat<(rs.length-p).toNat:=fun y i' h' hy hi'=>by
     refine⟨⟨by omega,by omega,hi',by rw[List.length_set];exact a4,fun k x hk=>?_⟩,by omega⟩
     rw[List.getElem?_set] at hk
     by_cases e:p.toNat=k
     ·rw[ifP e] at hk
      split at hk
      ·cases hk;exact⟨hy,fun h=>by omega⟩
      ·cases hk
     ·rw[ifN e] at hk
      exact⟨(a5 _ _ hk).1,fun h=>(a5 _ _ hk).2 (by omega)⟩
    refine .bgr a1 (.bbi (.bso ?_))
    refine .bbi (drK (k3T hb (g:=⟨syms,q⟩) hS hx0.1 hx0.2.1 _ a3) fun y i6 h6 hy hi6=>?_)
    obtain⟨b1,b2,b3⟩:=hy
    rw[hx0.2.2] at b3
    dsimp only
    refine .bif (fun _=>.bso ?_) fun _=>?_
    ·exact .grd (by constructor<;>omega) (.ret (fin _ _ h6 ⟨b1,b2,by rw[b3];simp[szL]⟩ hi6))
    ·refine .bbi (drK (k4H hb (g:=⟨syms,q⟩) hS b1 b3 hi6) fun y2 i7 h7 hy2 hi7=>?_)
     refine .bso ?_
     exact .grd (by constructor<;>omega) (.ret (fin _ _ h7 ⟨hy2.1,by rw[hy2.2.1];exact b2,hy2.2.2⟩ hi7))
   ·obtain⟨k,hk⟩:=List.getElem?_of_mem hr
    exact (a5 _ _ hk).1
  ·rintro⟨s1,s2,s3⟩ ⟨c1,c2,c3⟩
   exact⟨_,rfl,⟨hS,by dsimp only at c2 ⊢;omega,by dsimp only at c2 ⊢;omega,c3⟩,c1,rfl⟩
 refine .bif (fun h8=>.bgr (by omega) (.bso ?_)) fun h8=>.bso ?_
 ·exact key _ (by rw[List.length_take];omega) (by rw[List.length_take];omega) fun r hr'=>hr.2.2 r (List.mem_of_mem_take hr')
 ·exact key _ (by omega) (by omega) hr.2.2
end
theorem j2E {α β:Type}{p:α→Bool}{g:α→β}{B:Nat}{f:Nat→α→List β→Option (List β)}:∀ (xs:List α) (i:Nat) (s:List β),(∀ k x s,x∈xs→s.length<B→f k x s=some (if p x=true then s++[g x] else s))→s.length+xs.length≤B →
  eachL f i xs s=some (s++(xs.filter p).map g)
 | [],i,s,_,_=>by simp[eachL]
 | x::xs,i,s,hf,h=>by
  simp only[lnC] at h
  by_cases hp:p x=true
  ·have ih:=j2E xs (i+1) (s++[g x]) (fun k y s hy=>hf k y s (by simp[hy])) (by simp;omega)
   simp[eachL,hf i x s (by simp) (by omega),hp,ih]
  ·have ih:=j2E xs (i+1) s (fun k y s hy=>hf k y s (by simp[hy])) (by omega)
   simp[eachL,hf i x s (by simp) (by omega),hp,ih]
theorem z7d {α β:Type}{g:α→β}{B:Nat}{f:Nat→α→List β→Option (List β)}(xs:List α)(i:Nat)(s:List β)(hf:∀ k x s,x∈xs→s.length<B→f k x s=some (s++[g x]))(h:s.length+xs.length≤B) :
  eachL f i xs s=some (s++xs.map g):=by
 have:=j2E (p:=fun _=>true) (g:=g) (B:=B) (f:=f) xs i s (fun k x s hx hs=>by rw[hf k x s hx hs,ifP rfl]) h
 rw[this];congr 2;congr 1;simp
theorem j6P {g:Gm_}{n:ByteArray}(h:(q6M g n).2=true):∃ j y,atS g n=some j∧g.Symbols[j]?=some y∧q6M g n=(y,true)∧y.Name=n:=by
 unfold q6M at h ⊢
 cases hf:g.Symbols.find? fun y=>decide (y.Name=n) with
 | none=>rw[hf] at h;cases h
 | some y=>
  have hn:y.Name=n:=by simpa using List.find?_some (p:=fun y:Symbol=>decide (y.Name=n)) hf
  unfold atS
  cases he:g.Symbols.findIdx? fun y=>decide (y.Name=n) with
  | none=>
   rw[List.findIdx?_eq_none_iff] at he
   have:=he y (List.mem_of_find?_eq_some hf)
   simp[hn] at this
  | some j=>
   refine⟨j,y,rfl,?_,rfl,hn⟩
   rw[List.findIdx?_eq_some_iff_getElem] at he
   obtain⟨hj,h1,h2⟩:=he
   rw[List.find?_eq_some_iff_getElem] at hf
   obtain⟨_,i,hi,hy,h3⟩:=hf
   have:i=j:=by
    rcases Nat.lt_trichotomy i j with hlt|heq|hgt
    ·have:=h2 i hlt;rw[hy] at this;simp[hn] at this
    ·exact heq
    ·have:=h3 j hgt;simp at this;simp at h1;exact absurd h1 this
   subst this
   rw[List.getElem?_eq_getElem hi,hy]
theorem Shape.known {g:Gm_}(h:Shape g){r:Rule}(hr:r∈g.Rules){k:Nat}(hk:k≤r.Right.length):(q6M g (q8l r (k:Int))).2=true:=by
 have h3:=h.brk 3 (by omega) (by omega) r hr
 unfold z3H at h3
 rw[ifP rfl,Bool.not_eq_false'] at h3
 unfold j1q at h3
 rw[List.all_eq_true] at h3
 exact h3 k (by rw[List.mem_range'_1];omega)
theorem Shape.right {g:Gm_}(h:Shape g){r:Rule}(hr:r∈g.Rules){n:ByteArray}(hn:n∈r.Right):(q6M g n).2=true:=by
 obtain⟨k,hk⟩:=List.getElem?_of_mem hn
 have hlt:=(List.getElem?_eq_some_iff.1 hk).1
 have:=h.known hr (k:=k+1) (by omega)
 rwa[z6k hk] at this
theorem Shape.left {g:Gm_}(h:Shape g){r:Rule}(hr:r∈g.Rules):(q6M g r.Left).2=true:=by
 have:=h.known hr (k:=0) (by omega)
 unfold q8l at this
 rwa[ifP (by rfl)] at this
theorem Shape.attrs {g:Gm_}(h:Shape g){y:Symbol}(hy:y∈g.Symbols):y.Attributes.length≤4:=by
 have:=h.symB hy
 unfold Go.Proofs.YtomdlgffolbdkaaGreat.symB at this
 simp only[Bool.and_eq_true,decide_eq_true_eq] at this
 exact this.2.2.1
theorem Shape.plain {g:Gm_}(h:Shape g)(n:ByteArray):(q7v g n).length≤4:=by
 refine Nat.le_trans (List.length_filter_le _ _) ?_
 unfold q6M
 cases hf:g.Symbols.find? fun y=>decide (y.Name=n) with
 | none=>simp[zS]
 | some y=>exact h.attrs (List.mem_of_find?_eq_some hf)
theorem j6Q (g:Gm_)(n:ByteArray):q8m g n=some (atI g n):=by
 unfold q8m q4K atI atS
 rw[z2s (q:=fun y:Symbol=>decide (y.Name=n)) (c:=fun k=>(k:Int)) fun j x hx=>by
  unfold q6i q9l
  rw[bsS,← apply_ite some]]
 cases g.Symbols.findIdx? fun y=>decide (y.Name=n) with
 | none=>rfl
 | some j=>dsimp only;rw[Nat.zero_add];rfl
def Inv (g:Gm_)(all:List Rl_):Prop:=all.length=g.Symbols.length∧∀ (k:Nat) (y:Symbol) (a:Rl_),g.Symbols[k]?=some y→all[k]?=some a→Valid a∧a.N=((q7v g y.Name).length:Int)
def zR:Rl_:=⟨0,[]⟩
def k0l (g:Gm_)(all:List Rl_)(n:ByteArray):Rl_:=all.getD ((atS g n).getD 0) zR
theorem Inv.at_ {g:Gm_}{all:List Rl_}(h:Inv g all){n:ByteArray}(hn:(q6M g n).2=true):∃ j,atS g n=some j∧j<g.Symbols.length∧all[j]?=some (k0l g all n)∧Valid (k0l g all n)∧(k0l g all n).N=((q7v g n).length:Int):=by
 obtain⟨j,y,h1,h2,h3,h4⟩:=j6P hn
 have hj:=(List.getElem?_eq_some_iff.1 h2).1
 have e:all[j]?=some (k0l g all n):=by
  unfold k0l
  rw[h1,Option.getD_some,List.getD_eq_getElem?_getD,List.getElem?_eq_getElem (by rw[h.1];exact hj)];rfl
 have:=h.2 j y _ h2 e
 rw[h4] at this
 exact⟨j,h1,hj,e,this⟩
theorem z5M {g:Gm_}(hS:Shape g){r:Rule}(hr:r∈g.Rules):r.Right.length≤3:=by
 have:=hS.ruleB hr
 unfold Go.Proofs.YtomdlgffolbdkaaGreat.ruleB at this
 simp only[Bool.and_eq_true,decide_eq_true_eq] at this
 exact this.2.1.1
noncomputable def sumS (g:Gm_) (r:Rule) (c:Rl_):Rl_:=(q7r g r c).getD ⟨0,[]⟩
theorem k0m {g:Gm_}(h:GOk g){r:Rule}(hl:ROk r)(c:Rl_):q7r g r c=some (sumS g r c)∧q9A g r c=some (sumS g r c):=by
 obtain⟨x,h1,h2,_⟩:=j3W (c:=c) h hl
 unfold sumS
 rw[h1,h2];exact⟨rfl,rfl⟩
def sumA (all:List Rl_):Nat:=(all.map sumR).sum
theorem Inv.bound {g:Gm_}{all:List Rl_}(h:Inv g all):sumA all≤all.length*(16*65535):=by
 have key:∀ l:List Rl_,(∀ a∈l,Valid a)→sumA l≤l.length*(16*65535):=by
  intro l
  induction l with
  | nil=>intro _;simp[sumA]
  | cons a l ih=>
   intro hv
   have h1:=k0e (hv a (by simp))
   have h2:=ih fun b hb=>hv b (by simp[hb])
   unfold sumA at h2 ⊢
   simp only[List.map_cons,List.sum_cons,lnC]
   omega
 refine key all fun a ha=>?_
 obtain⟨k,hk⟩:=List.getElem?_of_mem ha
 have hlt:=(List.getElem?_eq_some_iff.1 hk).1
 exact (h.2 k _ a (List.getElem?_eq_getElem (by rw[← h.1];exact hlt)) hk).1
theorem k0n {α:Type}[Sz α](x:α):∀ (l:List α) (j:Nat),szL (l.set j x)≤szL l+Sz.szd x
 | [],_=>by simp[szL]
 | y::l,0=>by simp only[List.set,szL];omega
 | y::l,j+1=>by have:=k0n x l j;simp only[List.set,szL];omega
theorem k0o {α:Type}[Sz α](l:List α):szL (l.drop 1)≤szL l:=by
 cases l with
 | nil=>simp
 | cons x l=>simp only[List.drop,szL];omega
theorem j1t (a:Int):∀ (l:List Expr) (i:Nat),(∀ x∈l,∃ v,∀ m,fuE x≤m→q6W m x a=some v)→∃ r,∀ m,(∀ x∈l,fuE x≤m)→findL (q8A (q6W m) a) i l ()=some r
 | [],i,_=>⟨.inl (),fun m _=>rfl⟩
 | x::l,i,h=>by
  obtain⟨v,hv⟩:=h x (by simp)
  obtain⟨r,hr⟩:=j1t a l (i+1) fun y hy=>h y (by simp[hy])
  cases v with
  | true=>
   refine⟨r,fun m hm=>?_⟩
   have h1:=hr m fun y hy=>hm y (by simp[hy])
   have h2:q8A (q6W m) a i x ()=some (.inl ()):=by unfold q8A;rw[hv m (hm x (by simp))];rfl
   rw[findL,h2];exact h1
  | false=>
   refine⟨.inr false,fun m hm=>?_⟩
   have h2:q8A (q6W m) a i x ()=some (.inr false):=by unfold q8A;rw[hv m (hm x (by simp))];rfl
   rw[findL,h2];rfl
theorem k0p (e:Expr)(a:Int):∃ v,z3P e a=some v:=by
 have key:∀ e:Expr,∃ v,∀ m,fuE e≤m→q6W m e a=some v:=by
  intro e
  induction e using z1g with
  | h e ih=>
   obtain⟨r,hr⟩:=j1t a e.Args 0 ih
   have:∃ v,∀ m,fuE e≤m+1→q8B (q6W m) e a=some v:=by
    cases r with
    | inl u=>exact⟨_,fun m hm=>by unfold q8B;rw[hr m fun x hx=>by have:=z4p hx;omega];rfl⟩
    | inr q=>exact⟨_,fun m hm=>by unfold q8B;rw[hr m fun x hx=>by have:=z4p hx;omega];rfl⟩
   obtain⟨v,hv⟩:=this
   refine⟨v,fun m hm=>?_⟩
   obtain⟨m,rfl⟩:∃ q,m=q+1:=⟨m-1,by have:=z5e e;omega⟩
   exact hv m hm
 obtain⟨v,hv⟩:=key e
 exact⟨v,q9H (fuE e) hv⟩
def R2 (r:Rule):Prop:=RB r∧szL r.Equations≤60000∧szL r.Contributions≤200
def GC2 (g:Gm_):Prop:=SBs g.Symbols∧1≤g.Rules.length∧g.Rules.length≤8∧∀ r∈g.Rules,R2 r
theorem SB.set {s:Symbol}(h:SB s){x:At_}(hx:x.Name.size≤8):SB ⟨s.Name,List.set s.Attributes 0 x⟩:=by
 refine⟨h.1,by dsimp only;rw[List.length_set];exact h.2.1,by dsimp only;rw[List.length_set];exact h.2.2.1,fun a ha=>?_⟩
 rcases List.mem_or_eq_of_mem_set ha with ha|ha
 ·exact h.2.2.2 a ha
 ·rw[ha];exact hx
theorem GC2.set {ss:List Symbol}{rs:List Rule}(h:GC2 ⟨ss,rs⟩)(k:Nat){x:Rule}(hx:R2 x):GC2 ⟨ss,rs.set k x⟩:=by
 refine⟨h.1,by dsimp only;rw[List.length_set];exact h.2.1,by dsimp only;rw[List.length_set];exact h.2.2.1,fun a ha=>?_⟩
 rcases List.mem_or_eq_of_mem_set ha with ha|ha
 ·exact h.2.2.2 a ha
 ·rw[ha];exact hx
section
variable {b:List UInt8}(hb:b.length≤1048576)
include hb
theorem k1Z {e:Expr}{n:Nat}(h:Sz.szd e≤n)(hn:n≤1048576)(a:Int):Ok (fun _=>True) (q8Z e a):=by
 unfold q8Z
 refine .eq (z6W (by have:=j9z hb h;omega)) ?_
 obtain⟨v,hv⟩:=k0p e a
 exact .ite (fun _=>.eq hv (.ret trivial)) fun _=>.ret trivial
theorem k2a {i h:Int}(hi:0≤i):Dr b (fun r=>RB r∧r.Right.length≤3∧szL r.Equations≤1200∧szL r.Contributions≤200) (z4D ⟨b,i,h⟩):=by
 unfold z4D
 refine drK (z2n hb (by simp) (cb hi)) fun y1 i1 h1 hy1 hi1=>?_
 refine drK (z2n hb (by simp) (cb hi1)) fun y2 i2 h2 hy2 hi2=>?_
 refine drK (q8V hb _ (cb hi2)) fun y3 i3 h3 _ hi3=>?_
 refine drK (q4L hb 4 (cb hi3)) fun y4 i4 h4 hy4 hi4=>?_
 have h44:=hy4.2.1 (by omega)
 have h40:=hy4.1
 have n1:y1.size≤8:=by
  simp only[List.mem_cons,List.not_mem_nil,or_false] at hy1
  rcases hy1 with h|h|h<;>subst h<;>(try dsimp only)<;>decide
 have n2:y2.size≤8:=by
  simp only[List.mem_cons,List.not_mem_nil,or_false] at hy2
  rcases hy2 with h|h<;>subst h<;>(try dsimp only)<;>decide
 dsimp only
 refine j5J (fun k (q:List ByteArray)=>q.length=k∧∀ x∈q,x.size≤8) hi4 ⟨rfl,by simp⟩ (fun j4 q4 i h hj4 hi hq4=>?_) fun q4 i8 h8 hi8 hq4=>?_
 ·unfold j0W
  dsimp only
  refine drK (z2n hb (by simp) (cb hi)) fun z i1 h1 hz hi1=>?_
  refine .grd (by have:=hq4.1;constructor<;>omega) (.ret ⟨hi1,by simp[hq4.1],fun a ha=>?_⟩)
  simp only[List.mem_append,List.mem_cons,List.not_mem_nil,or_false] at ha hz
  rcases ha with ha|ha
  ·exact hq4.2 a ha
  ·rw[ha];rcases hz with h|h|h<;>subst h<;>(try dsimp only)<;>decide
 ·refine drK (q4L hb 4 (cb hi8)) fun y6 i6 h6 hy6 hi6=>?_
  have h64:=hy6.2.1 (by omega)
  dsimp only
  refine j5J (fun k (q:List Eqn)=>q.length≤k∧szL q≤k*400) hi6 ⟨by simp,by simp[szL]⟩ (fun j q i h hj hi hq=>?_) fun q i9 h9 hi9 hq=>?_
  ·have hq1:=hq.1
   have hq2:=hq.2
   unfold j0X
   dsimp only
   refine .bbi (drK (q4L hb 3 (cb hi)) fun y7 i7 h7 hy7 hi7=>?_)
   have h73:=hy7.2.1 (by omega)
   have h70:=hy7.1
   refine .bgr (by constructor<;>omega) (.bbi (drK (j9y hb 2 (by omega) (by omega) (by omega) (cb hi7)) fun e i8 h8 he hi8=>?_))
   have he:Sz.szd e≤320:=he
   refine .bbi (.bind (k1Z hb he (by omega) y4) fun v _=>?_)
   refine .bif (fun _=>?_) fun _=>.bso (.ret ⟨hi8,Nat.le_trans hq1 (Nat.le_succ _),Nat.le_trans hq2 (Nat.mul_le_mul_right 400 (Nat.le_succ j))⟩)
   refine .bgr (by constructor<;>omega) (.bbi (drK (q4L hb _ (cb hi8)) fun y10 i9 h9 _ hi9=>?_))
   refine .bbi (drK (j5v hb (cb hi9)) fun nm i10 h10 hnm hi10=>?_)
   refine .bgr (by constructor<;>omega) (.bso (.ret ⟨hi10,by dsimp only;simp;omega,?_⟩))
   dsimp only
   rw[z7c,j4l]
   have hnm:nm.size=1:=hnm
   dsimp only
   omega
  ·have hq2:=hq.2
   have hR:RB ⟨y1,y2,q4,y3,q,[]⟩:=⟨n1,n2,by have:=hq4.1;dsimp only;omega,hq4.2⟩
   refine drK (q8V hb _ (cb hi9)) fun y12 i12 h12 _ hi12=>?_
   refine .ite (fun _=>?_) fun _=>⟨_,rfl,⟨hR,by have:=hq4.1;dsimp only;omega,by dsimp only;omega,by simp[szL]⟩,hi12,rfl⟩
   refine drK (q4L hb _ (cb hi12)) fun y13 i13 h13 _ hi13=>?_
   refine .eq rfl ?_
   refine .grd (by simp only[List.length_nil];constructor<;>omega) ⟨_,rfl,⟨hR,by have:=hq4.1;dsimp only;omega,by dsimp only;omega,?_⟩,hi13,rfl⟩
   dsimp only
   rw[List.nil_append]
   show 1+Sz.szd (⟨(⟨#[115]⟩:ByteArray),(⟨#[99]⟩:ByteArray),_,_⟩:Cn)+0≤200
   rw[k2D,j1k hb,j1k hb,z1G hb]
   decide
theorem k2b {i h:Int}(hi:0≤i):Dr b R2 (z4F ⟨b,i,h⟩):=by
 unfold z4F
 refine drK (k2a hb hi) fun r i1 h1 hr hi1=>?_
 obtain⟨r1,r2,r3,r4⟩:=hr
 refine drK (q4L hb 12 (cb hi1)) fun y2 i2 h2 _ hi2=>?_
 dsimp only
 refine .ite (fun _=>?_) fun _=>.ite (fun _=>?_) fun _=>.ite (fun _=>?_) fun _=>.ite (fun _=>?_) fun _=>.ite (fun _=>?_) fun _=>?_
 ·refine drK (z2n hb (by simp) (cb hi2)) fun z i3 h3 hz hi3=>⟨_,rfl,⟨⟨?_,r1.2.1,r1.2.2.1,r1.2.2.2⟩,by dsimp only;omega,r4⟩,hi3,rfl⟩
  simp only[List.mem_cons,List.not_mem_nil,or_false] at hz
  rcases hz with h|h|h<;>subst h<;>(try dsimp only)<;>decide
 ·refine .grd (by simp only[lnC,List.length_nil];constructor<;>omega) ⟨_,rfl,⟨⟨r1.1,r1.2.1,by simp;omega,fun x hx=>?_⟩,by dsimp only;omega,r4⟩,hi2,rfl⟩
  simp only[List.mem_append,List.mem_cons,List.not_mem_nil,or_false] at hx
  rcases hx with h|h|h
  ·exact r1.2.2.2 x h
  ·rw[h];decide
  ·rw[h];decide
 ·refine drK (q4L hb 5 (cb hi2)) fun y4 i4 h4 hy4 hi4=>?_
  have h40:=hy4.1
  have h44:=hy4.2.1 (by omega)
  refine .grd (by constructor<;>omega) ?_
  refine drK (k3x hb (cb hi4)) fun e i5 h5 he hi5=>?_
  have he:Sz.szd e≤30000:=he
  have hl:=q7g r.Equations
  refine .grd (by constructor<;>omega) ⟨_,rfl,⟨r1,?_,r4⟩,hi5,rfl⟩
  dsimp only
  rw[z7c,j4l]
  have:(⟨#[97]⟩:ByteArray).size=1:=rfl
  dsimp only
  omega
 ·exact⟨_,rfl,⟨⟨r1.1,by dsimp only;decide,r1.2.2.1,r1.2.2.2⟩,by dsimp only;omega,r4⟩,hi2,rfl⟩
 ·refine .grd (by constructor<;>omega) ?_
  refine drK (q4L hb _ (cb hi2)) fun y6 i6 h6 hy6 hi6=>?_
  have h60:=hy6.1
  have h61:=hy6.2.1 (by omega)
  refine .grd h60 (.grd (by omega) ⟨_,rfl,⟨⟨r1.1,r1.2.1,by dsimp only;rw[List.length_take];omega,fun x hx=>r1.2.2.2 x (List.mem_of_mem_take hx)⟩,by dsimp only;omega,r4⟩,hi6,rfl⟩)
 ·exact⟨_,rfl,⟨r1,by dsimp only;omega,r4⟩,hi2,rfl⟩
theorem k2c {i h:Int}(hi:0≤i):Dr b SB (z4G ⟨b,i,h⟩):=by
 unfold z4G
 refine drK (z2n hb (by simp) (cb hi)) fun nm i1 h1 hnm hi1=>?_
 have hnm:nm.size≤8:=by
  simp only[List.mem_cons,List.not_mem_nil,or_false] at hnm
  rcases hnm with h|h|h|h<;>subst h<;>(try dsimp only)<;>decide
 refine drK (k2C hb hnm _ _ hi1) fun s i2 h2 hs hi2=>?_
 refine drK (q4L hb 10 (cb hi2)) fun y3 i3 h3 _ hi3=>?_
 have hl:=hs.2.1
 dsimp only
 refine .ite (fun _=>?_) fun _=>.ite (fun _=>?_) fun _=>.ite (fun _=>?_) fun _=>.ite (fun _=>?_) fun _=>.ite (fun _=>?_) fun _=>?_
 ·exact .get (by omega) fun x hx=>⟨_,rfl,hs.set (by exact hs.2.2.2 x hx),hi3,rfl⟩
 ·exact drK (q4L hb 5 (cb hi3)) fun y4 i4 h4 _ hi4=>.get (by omega) fun x hx=>⟨_,rfl,hs.set (by exact hs.2.2.2 x hx),hi4,rfl⟩
 ·exact drK (q4L hb 6 (cb hi3)) fun y4 i4 h4 _ hi4=>.get (by omega) fun x hx=>⟨_,rfl,hs.set (by exact hs.2.2.2 x hx),hi4,rfl⟩
 ·refine drK (z2n hb (by simp) (cb hi3)) fun z i4 h4 hz hi4=>.get (by omega) fun x hx=>⟨_,rfl,hs.set ?_,hi4,rfl⟩
  simp only[List.mem_cons,List.not_mem_nil,or_false] at hz
  rcases hz with h|h|h<;>subst h<;>(try dsimp only)<;>decide
 ·refine Ok.bind (Q:=fun l:List At_=>1≤l.length∧l.length≤5∧∀ a∈l,a.Name.size≤8) (j2C (P:=fun l:List At_=>1≤l.length∧l.length≤5∧∀ a∈l,a.Name.size≤8) (fun l=>5-l.length) (fun l hl=>?_) _ ⟨hs.2.1,hs.2.2.1,hs.2.2.2⟩) fun l hl=>⟨_,rfl,⟨hs.1,hl.1,hl.2.1,hl.2.2⟩,hi3,rfl⟩
  unfold j0Y
  refine .ite (fun h5=>?_) fun _=>.ret hl
  refine .get (by simp;omega) fun x hx=>.grd (by constructor<;>omega) (.ret ⟨⟨by simp,by simp;omega,fun a ha=>?_⟩,by simp;omega⟩)
  simp only[List.mem_append,List.mem_cons,List.not_mem_nil,or_false] at ha hx
  rcases ha with ha|ha
  ·exact hl.2.2 a ha
  ·rw[ha];dsimp only;rcases hx with h|h|h|h|h<;>subst h<;>(try dsimp only)<;>decide
 ·exact⟨_,rfl,hs,hi3,rfl⟩
theorem k0q {i h:Int}(hi:0≤i):Dr b GC2 (z3j ⟨b,i,h⟩):=by
 unfold z3j
 refine drK (q8V hb _ (cb hi)) fun y1 i1 h1 _ hi1=>?_
 refine drK (j4m hb y1 hi1) fun g i2 h2 hg hi2=>?_
 obtain⟨ss,rs⟩:=g
 obtain⟨g1,g2,g3,g4⟩:=hg
 dsimp only at g1 g2 g3 g4
 have hG:GC2 ⟨ss,rs⟩:=⟨g1,g2,g3,fun r hr=>by obtain⟨a,c,d⟩:=g4 r hr;exact⟨a,by omega,d⟩⟩
 refine drK (q4L hb _ (cb hi2)) fun y3 i3 h3 hy3 hi3=>?_
 have h30:=hy3.1
 have h31:=hy3.2.1 (by dsimp only;omega)
 dsimp only at h31
 refine drK (q4L hb 14 (cb hi3)) fun y4 i4 h4 _ hi4=>?_
 have hk:y3.toNat<rs.length:=by omega
 dsimp only
 have same:Ok (fun r:Gm_×l1Cur=>GC2 r.1∧CB b r.2) (some ((⟨ss,rs⟩:Gm_),(⟨b,i4,h4⟩:l1Cur))):=⟨_,rfl,hG,hi4,rfl⟩
 refine .ite (fun _=>?_) fun _=>.ite (fun _=>?_) fun _=>.ite (fun _=>?_) fun _=>.ite (fun _=>?_) fun _=>.ite (fun _=>?_) fun _=>.ite (fun _=>?_) fun _=>.ite (fun _=>?_) fun _=>same
 ·exact drK (k2b hb hi4) fun r i5 h5 hr hi5=>.grd h30 (.get hk fun x hx=>⟨_,rfl,hG.set _ hr,hi5,rfl⟩)
 ·refine drK (k2c hb hi4) fun s i5 h5 hs hi5=>.get (by have:=g1.1;omega) fun x hx=>⟨_,rfl,⟨⟨by dsimp only;rw[List.length_set];exact g1.1,by dsimp only;rw[List.length_set];exact g1.2.1,fun a ha=>?_⟩,g2,g3,hG.2.2.2⟩,hi5,rfl⟩
  rcases List.mem_or_eq_of_mem_set ha with ha|ha
  ·exact g1.2.2 a ha
  ·rw[ha];exact hs
 ·refine .get (by omega) fun x hx=>.grd h30 (.get hk fun r hr=>⟨_,rfl,hG.set _ ?_,hi4,rfl⟩)
  have a:=hG.2.2.2 r hr
  exact⟨⟨(g4 x hx).1.1,a.1.2.1,a.1.2.2.1,a.1.2.2.2⟩,a.2.1,a.2.2⟩
 ·refine .grd h30 (.get hk fun r hr=>.ite (fun h0=>.grd (by omega) ⟨_,rfl,hG.set _ ?_,hi4,rfl⟩) fun _=>same)
  have a:=hG.2.2.2 r hr
  exact⟨a.1,by have:=k0o r.Equations;have:=a.2.1;dsimp only;omega,a.2.2⟩
 ·refine .grd h30 (.get hk fun r hr=>.ite (fun h0=>?_) fun _=>same)
  have a:=g4 r hr
  have hl:=q7g r.Equations
  have a2:=a.2.1
  refine .get (by omega) fun x hx=>.grd (by constructor<;>omega) ⟨_,rfl,hG.set _ ⟨a.1,?_,a.2.2⟩,hi4,rfl⟩
  have:=j2v hx
  dsimp only
  rw[z7c]
  omega
 ·refine drK (z2n hb (by simp) (cb hi4)) fun z i5 h5 hz hi5=>.grd h30 (.get hk fun r hr=>⟨_,rfl,hG.set _ ?_,hi5,rfl⟩)
  have a:=hG.2.2.2 r hr
  refine⟨⟨a.1.1,?_,a.1.2.2.1,a.1.2.2.2⟩,a.2.1,a.2.2⟩
  simp only[List.mem_cons,List.not_mem_nil,or_false] at hz
  rcases hz with h|h<;>subst h<;>(try dsimp only)<;>decide
 ·refine .grd h30 (.get hk fun r hr=>.ite (fun h0=>?_) fun _=>same)
  refine drK (j9A hb (cb hi4)) fun e i5 h5 he hi5=>?_
  have he:Sz.szd e≤20480:=he
  have a:=g4 r hr
  have a2:=a.2.1
  refine .get (by omega) fun x hx=>⟨_,rfl,hG.set _ ⟨a.1,?_,a.2.2⟩,hi5,rfl⟩
  have h1:=j2v hx
  have h2:=k0n (⟨x.At,e⟩:Eqn) r.Equations 0
  have h3:Sz.szd x=x.At.Name.size+Sz.szd x.Expr:=j4l x.At x.Expr
  rw[j4l] at h2
  dsimp only
  omega
end
theorem szR {r:Rule}(h:R2 r):Sz.szd r≤60300:=by
 have h1:=j4k (m:=8) h.1.2.2.2
 have:=h.1.2.2.1
 have:=h.1.1
 have:=h.1.2.1
 have:=h.2.1
 have:=h.2.2
 have h9:r.Right.length*(8+1)≤45:=by omega
 rw[z6R];omega
theorem szS {s:Symbol}(h:SB s):Sz.szd s≤60:=by
 have h1:=j4k (m:=8) (l:=s.Attributes) fun a ha=>by rw[j2i];exact h.2.2.2 a ha
 have:=h.2.2.1
 have:=h.1
 have h9:s.Attributes.length*(8+1)≤45:=by omega
 rw[j1e];omega
theorem szG {g:Gm_}(h:GC2 g):Sz.szd g≤1048576:=by
 have h1:=j4k (m:=60) (l:=g.Symbols) fun s hs=>szS (h.1.2.2 s hs)
 have h2:=j4k (m:=60300) (l:=g.Rules) fun r hr=>szR (h.2.2.2 r hr)
 have h3:g.Symbols.length*(60+1)≤183:=by have:=h.1.2.1;omega
 have h4:g.Rules.length*(60300+1)≤482408:=by have:=h.2.2.1;omega
 rw[z4a];omega
theorem j8j {r:Rl_}(h:Valid r)(i k:Int):Valid (addP r i k):=by
 unfold addP
 by_cases hc:Valid r∧inN r i∧inN r k
 ·rw[ifP hc]
  obtain⟨_,hi,hk⟩:=hc
  unfold z9V
  refine⟨h.1,h.2.1,by dsimp only;rw[List.length_set];exact h.2.2.1,fun x hx=>?_⟩
  rcases List.mem_or_eq_of_mem_set hx with hx|hx
  ·exact h.2.2.2 x hx
  ·rw[hx]
   have h1:=h.1
   have hk1:=hk.1
   have hk2:=hk.2
   refine k4E ?_ ?_
   ·unfold z5O
    rw[List.getD_eq_getElem?_getD]
    cases hq:r.Rows[i.toNat]? with
    | none=>show (0:Int)≤0∧(0:Int)≤((2 ^ r.N.toNat:Nat):Int)-1;have:=Nat.two_pow_pos r.N.toNat;omega
    | some y=>exact h.2.2.2 y (List.mem_of_getElem? hq)
   ·have h2:2 ^ k.toNat<2 ^ r.N.toNat:=Nat.pow_lt_pow_right (by decide) (by omega)
    constructor
    ·exact Int.natCast_nonneg _
    ·dsimp only;omega
 ·rw[ifN hc];exact h
theorem k3U {r:Rl_}(h:Valid r)(i k:Int)(a c:Nat):Rl (addP r i k).Rows a c↔Rl r.Rows a c∨(inN r i∧inN r k∧(a:Int)=i∧(c:Int)=k):=by
 unfold addP
 by_cases hc:Valid r∧inN r i∧inN r k
 ·rw[ifP hc]
  obtain⟨_,hi,hk⟩:=hc
  have hi1:=hi.1
  have hi2:=hi.2
  have hk1:=hk.1
  have hl:=h.2.2.1
  unfold z9V Rl
  dsimp only
  rw[List.getD_eq_getElem?_getD,List.getElem?_set]
  by_cases e:i.toNat=a
  ·rw[ifP e,ifP (by omega),Option.getD_some,j3V,Nat.testBit_or,tnC,Nat.testBit_two_pow]
   unfold z5O
   rw[e]
   simp only[Bool.or_eq_true,decide_eq_true_eq]
   constructor
   ·rintro (h1|h1)
    ·exact .inl h1
    ·exact .inr ⟨hi,hk,by omega,by omega⟩
   ·rintro (h1|⟨_,_,_,h1⟩)
    ·exact .inl h1
    ·exact .inr (by omega)
  ·rw[ifN e,← List.getD_eq_getElem?_getD]
   constructor
   ·exact fun h1=>.inl h1
   ·rintro (h1|⟨_,_,h1,_⟩)
    ·exact h1
    ·omega
 ·rw[ifN hc]
  constructor
  ·exact fun h1=>.inl h1
  ·rintro (h1|⟨h1,h2,_⟩)
   ·exact h1
   ·exact absurd ⟨h,h1,h2⟩ hc
def Sub (a b:Rl_):Prop:=Valid a∧Valid b∧a.N=b.N∧∀ i j:Nat,Rl a.Rows i j→Rl b.Rows i j
theorem Sub.refl {a:Rl_}(h:Valid a):Sub a a:=⟨h,h,rfl,fun _ _ h=>h⟩
theorem Sub.trans {a b c:Rl_}(h:Sub a b)(k:Sub b c):Sub a c:=⟨h.1,k.2.1,h.2.2.1.trans k.2.2.1,fun i j x=>k.2.2.2 i j (h.2.2.2 i j x)⟩
theorem j5K {n:Int}(h0:0≤n)(h1:n≤16):Valid ⟨n,List.replicate n.toNat 0⟩:=by
 refine⟨h0,h1,by simp;omega,fun x hx=>?_⟩
 have:=(List.mem_replicate.1 hx).2
 have h2:=Nat.two_pow_pos n.toNat
 dsimp only
 omega
end Go.Proofs.YtomdlgffolbdkaaGreat
set_option maxRecDepth 100000
set_option maxHeartbeats 4000000
namespace Go.Proofs.YtomdlgffolbdkaaGreat
open Go Go.E
theorem j2F:∀ (n:Nat) (l:List Nat),l.Nodup→(∀ x∈l,x<n)→l.length≤n
 | 0,[],_,_=>Nat.le_refl _
 | 0,x::l,_,h=>absurd (h x List.mem_cons_self) (Nat.not_lt_zero _)
 | n+1,l,hd,h=>by
  by_cases hn:n∈l
  ·have h1:=j2F n (l.erase n) (hd.erase n) fun x hx=>by
    have h2:=(List.Nodup.mem_erase_iff hd).1 hx
    have:=h x h2.2
    have:=h2.1
    omega
   rw[List.length_erase_of_mem hn] at h1
   omega
  ·have:=j2F n l hd fun x hx=>by
    have h2:=h x hx
    have:x≠n:=fun e=>hn (e▸hx)
    omega
   omega
def j4n:List Bool→Nat
 | []=>0
 | b::bs=>(if b=true then 1 else 0)+2*j4n bs
theorem k0r:∀ l:List Bool,j4n l<2 ^ l.length
 | []=>by decide
 | b::bs=>by
  have:=k0r bs
  rw[j4n,lnC,Nat.pow_succ]
  split<;>omega
theorem j2G:∀ {l m:List Bool},l.length=m.length→j4n l=j4n m→l=m
 | [],[],_,_=>rfl
 | [],_::_,h,_=>by simp at h
 | _::_,[],h,_=>by simp at h
 | b::bs,c::cs,h,e=>by
  rw[j4n,j4n] at e
  have h' : bs.length=cs.length:=by simpa using h
  cases b<;>cases c<;>simp at e
  ·rw[j2G h' (by omega)]
  ·omega
  ·omega
  ·rw[j2G h' (by omega)]
theorem k0s {α:Type}{p q:α→Bool}(h:∀ x,p x=true→q x=true→False):∀ l:List α,(l.filter p).length+(l.filter q).length≤l.length
 | []=>Nat.le_refl _
 | x::l=>by
  have:=k0s h l
  rw[List.filter_cons,List.filter_cons,lnC]
  cases hp:p x<;>cases hq:q x
  ·simp;omega
  ·simp;omega
  ·simp;omega
  ·exact absurd hq (fun hq=>h x hp hq)
theorem k3V {a b:Rl_}(ha:Valid a)(hb:Valid b)(hN:a.N=b.N)(h:∀ i j:Nat,Rl a.Rows i j↔Rl b.Rows i j):a=b:=by
 obtain⟨n,xs⟩:=a
 obtain⟨m,ys⟩:=b
 have h1:=ha.2.2.1
 have h2:=hb.2.2.1
 dsimp only at h1 h2 hN
 have e:xs=ys:=by
  apply List.ext_getElem?
  intro i
  by_cases hi:i<xs.length
  ·obtain⟨x,hx⟩:∃ x,xs[i]?=some x:=⟨_,List.getElem?_eq_getElem hi⟩
   obtain⟨y,hy⟩:∃ y,ys[i]?=some y:=⟨_,List.getElem?_eq_getElem (by omega)⟩
   have hx0:=(ha.2.2.2 x (List.mem_of_getElem? hx)).1
   have hy0:=(hb.2.2.2 y (List.mem_of_getElem? hy)).1
   have:x.toNat=y.toNat:=by
    apply Nat.eq_of_testBit_eq
    intro j
    have:=h i j
    unfold Rl at this
    dsimp only at this
    rw[List.getD_eq_getElem?_getD,List.getD_eq_getElem?_getD,hx,hy,Option.getD_some,Option.getD_some] at this
    exact Bool.eq_iff_iff.2 this
   rw[hx,hy]
   congr 1
   omega
  ·rw[List.getElem?_eq_none (by omega),List.getElem?_eq_none (by omega)]
 rw[e,hN]
def z8x (L:List At_)(s:Rl_):Prop:=Valid s∧s.N=(L.length:Int)∧∀ a b:Nat,Rl s.Rows a b→∃ x y,L[a]?=some x∧x.Mode=1∧L[b]?=some y∧y.Mode=2
def z2X (L:List At_)(m:Int)(a:Nat):Bool:=decide ((L[a]?).map (·.Mode)=some m)
def z7e (L:List At_):List (Nat×Nat):=((List.range L.length).filter (z2X L 1)).flatMap fun a=>((List.range L.length).filter (z2X L 2)).map fun b=>(a,b)
theorem z7P {α β:Type}{f:α→List β}{n:Nat}(h:∀ x,(f x).length=n):∀ l:List α,(l.flatMap f).length=l.length*n
 | []=>by simp
 | x::l=>by rw[List.flatMap_cons,List.length_append,h,z7P h l,lnC,Nat.succ_mul];omega
theorem k0t {L:List At_}(h:L.length≤4):(z7e L).length≤4:=by
 unfold z7e
 rw[z7P (n:=((List.range L.length).filter (z2X L 2)).length) fun x=>by rw[lnM]]
 have h1:=k0s (p:=z2X L 1) (q:=z2X L 2) (fun x h1 h2=>by
  unfold z2X at h1 h2
  have h1:=of_decide_eq_true h1
  have h2:=of_decide_eq_true h2
  rw[h1] at h2
  cases h2) (List.range L.length)
 rw[List.length_range] at h1
 generalize ((List.range L.length).filter (z2X L 1)).length=x at h1
 generalize ((List.range L.length).filter (z2X L 2)).length=y at h1
 have:x=0∨x=1∨x=2∨x=3∨x=4:=by omega
 rcases this with e|e|e|e|e<;>subst e<;>omega
noncomputable def k0u (L:List At_) (s:Rl_):Nat:=j4n ((z7e L).map fun p=>s.Rows.getD p.1 0 |>.toNat.testBit p.2)
theorem k3W {L:List At_}(h:L.length≤4)(s:Rl_):k0u L s<16:=by
 have h1:=k0r ((z7e L).map fun p=>s.Rows.getD p.1 0 |>.toNat.testBit p.2)
 have h2:=k0t h
 rw[lnM] at h1
 have h3:2 ^ (z7e L).length≤2 ^ 4:=Nat.pow_le_pow_right (by decide) h2
 unfold k0u
 omega
theorem k2d {L:List At_}{s t:Rl_}(hs:z8x L s)(ht:z8x L t)(h:k0u L s=k0u L t):s=t:=by
 have e:=j2G (by simp) h
 have key:∀ {s t:Rl_},z8x L s→((z7e L).map fun p=>(s.Rows.getD p.1 0).toNat.testBit p.2)=((z7e L).map fun p=>(t.Rows.getD p.1 0).toNat.testBit p.2)→∀ i j:Nat,Rl s.Rows i j→Rl t.Rows i j:=by
  intro s t hs e i j h
  obtain⟨x,y,h1,h2,h3,h4⟩:=hs.2.2 i j h
  have hm:(i,j)∈z7e L:=by
   unfold z7e
   refine List.mem_flatMap.2 ⟨i,List.mem_filter.2 ⟨List.mem_range.2 (List.getElem?_eq_some_iff.1 h1).1,by unfold z2X;rw[h1];simp[h2]⟩,?_⟩
   exact List.mem_map.2 ⟨j,List.mem_filter.2 ⟨List.mem_range.2 (List.getElem?_eq_some_iff.1 h3).1,by unfold z2X;rw[h3];simp[h4]⟩,rfl⟩
  have:=(List.map_inj_left.1 e) (i,j) hm
  unfold Rl at h ⊢
  dsimp only at this
  rw[← this];exact h
 exact k3V hs.1 ht.1 (hs.2.1.trans ht.2.1.symm) fun i j=>⟨key hs e i j,key ht e.symm i j⟩
theorem z4f {L:List At_}(h:L.length≤4){l:List Rl_}(hn:l.Nodup)(hl:∀ s∈l,z8x L s):l.length≤16:=by
 have:=j2F 16 (l.map (k0u L)) (by
  rw[List.Nodup,List.pairwise_map]
  refine List.Pairwise.imp_of_mem ?_ hn
  intro a b ha hb hne hc
  exact hne (k2d (hl a ha) (hl b hb) hc)) fun x hx=>by
  obtain⟨s,_,rfl⟩:=List.mem_map.1 hx
  exact k3W h s
 rwa[lnM] at this
theorem k0v {g:Gm_}(hg:GOk g){r:Rule}(hn:(q7v g r.Left).length≤16)(c:Rl_):∃ s,q7r g r c=some s∧z8x (q7v g r.Left) s:=by
 have hv:=j5K (n:=((q7v g r.Left).length:Int)) (by omega) (by omega)
 have P0:∀ s:List Int×Int,z8x (q7v g r.Left) ⟨s.2,s.1⟩→s.1.length≤1048576:=fun s h=>by have:=h.1.2.2.1;have:=h.1.2.1;dsimp only at *;omega
 obtain⟨s',e,h3⟩:=z2H (P:=fun _ (s:List Int×Int)=>z8x (q7v g r.Left) ⟨s.2,s.1⟩) (f:=z0n c (q7v g r.Left)) (xs:=q7v g r.Left) (i:=0) (s:=(List.replicate ((q7v g r.Left).length:Int).toNat 0,((q7v g r.Left).length:Int))) ⟨hv,rfl,fun a b h=>by
   exfalso
   unfold Rl at h
   rw[List.getD_eq_getElem?_getD,List.getElem?_replicate] at h
   split at h<;>simp at h⟩ fun k x s hx hs=>by
  rw[Nat.zero_add]
  obtain⟨s1,s2⟩:=s
  obtain⟨s',e,h3⟩:=z2H (P:=fun _ (s:List Int×Int)=>z8x (q7v g r.Left) ⟨s.2,s.1⟩) (f:=q8L c k x) (xs:=q7v g r.Left) (i:=0) (s:=(s1,s2)) hs fun k2 x2 s hx2 hs=>by
   rw[Nat.zero_add]
   obtain⟨t1,t2⟩:=s
   have hl:=P0 _ hs
   dsimp only at hs hl
   unfold q8L
   dsimp only
   rw[z2o,j9C (r:=⟨t2,t1⟩) hl]
   simp only[bsS]
   by_cases p1:hasP c (k:Int) (k2:Int)
   ·by_cases m1:x.Mode=1
    ·by_cases m2:x2.Mode=2
     ·simp only[m1,m2,p1,if_true,decide_true,bsS]
      refine⟨_,rfl,j8j hs.1 _ _,(j2t _ _ _).2.trans hs.2.1,fun a b h=>?_⟩
      rcases (k3U hs.1 _ _ a b).1 h with h|⟨_,_,h1,h2⟩
      ·exact hs.2.2 a b h
      ·have e1:a=k:=by omega
       have e2:b=k2:=by omega
       subst e1;subst e2
       exact⟨x,x2,hx,m1,hx2,m2⟩
     ·simp only[m1,m2,if_true,if_false,decide_false,bsS,Bool.false_eq_true];exact⟨_,rfl,hs⟩
    ·simp only[m1,if_false,bsS,Bool.false_eq_true];exact⟨_,rfl,hs⟩
   ·by_cases m1:x.Mode=1
    ·by_cases m2:x2.Mode=2
     ·simp only[m1,m2,p1,if_true,if_false,decide_true,decide_false,bsS,Bool.false_eq_true];exact⟨_,rfl,hs⟩
     ·simp only[m1,m2,if_true,if_false,decide_false,bsS,Bool.false_eq_true];exact⟨_,rfl,hs⟩
    ·simp only[m1,if_false,bsS,Bool.false_eq_true];exact⟨_,rfl,hs⟩
  exact⟨s',by unfold z0n;dsimp only;rw[e];rfl,h3⟩
 obtain⟨s1,s2⟩:=s'
 refine⟨⟨s2,s1⟩,?_,h3⟩
 unfold q7r
 rw[j4g hg,bsS,k1C (by omega) (by omega),bsS]
 dsimp only
 rw[e];rfl
def q7z:List Nat→Nat
 | []=>1
 | c::cs=>c*q7z cs
def digL:List Nat→Nat→List Nat
 | [],_=>[]
 | _::cs,n=>(n / q7z cs)::digL cs (n % q7z cs)
def z7Q:List Nat→List Nat→Option (List Nat)
 | c::cs,d::ds=>match z7Q cs ds with
  | some ds'=>some (d::ds')
  | none=>if d+1<c then some ((d+1)::List.replicate cs.length 0) else none
 | _,_=>none
theorem j2H:∀ (cs:List Nat) (n:Nat),(digL cs n).length=cs.length
 | [],_=>rfl
 | _::cs,n=>by rw[digL,lnC,j2H cs,lnC]
theorem j2I:∀ cs:List Nat,digL cs 0=List.replicate cs.length 0
 | []=>rfl
 | c::cs=>by rw[digL,Nat.zero_div,Nat.zero_mod,j2I cs,lnC,List.replicate_succ]
theorem j6R:∀ (cs:List Nat) (n:Nat),n<q7z cs→z7Q cs (digL cs n)=if n+1<q7z cs then some (digL cs (n+1)) else none
 | [],n,h=>by
  rw[q7z] at h
  rw[ifN (by rw[q7z];omega)];rfl
 | c::cs,n,h=>by
  rw[q7z] at h ⊢
  have hP:0<q7z cs:=Nat.pos_of_ne_zero fun e=>by rw[e] at h;omega
  have hr:=Nat.mod_lt n hP
  have hq:n / q7z cs<c:=(Nat.div_lt_iff_lt_mul hP).2 h
  have hn:=Nat.div_add_mod n (q7z cs)
  rw[digL,z7Q,j6R cs _ hr]
  generalize hQ:n / q7z cs=q at hq hn ⊢
  generalize hR:n % q7z cs=r at hr hn ⊢
  generalize hPe:q7z cs=P at h hP hr hn ⊢
  by_cases h1:r+1<P
  ·rw[ifP h1]
   have hc:n+1<c*P:=by
    have:(q+1)*P≤c*P:=Nat.mul_le_mul_right _ hq
    rw[Nat.succ_mul,Nat.mul_comm] at this
    omega
   have e1:(n+1) / P=q:=by
    rw[← hn]
    rw[show P*q+r+1=(r+1)+P*q by omega,Nat.add_mul_div_left _ _ hP,Nat.div_eq_of_lt h1,Nat.zero_add]
   have e2:(n+1) % P=r+1:=by
    rw[← hn,show P*q+r+1=(r+1)+P*q by omega,Nat.add_mul_mod_self_left,Nat.mod_eq_of_lt h1]
   rw[ifP hc,digL,hPe,e1,e2]
  ·rw[ifN h1]
   have hr1:r+1=P:=by omega
   have hn1:n+1=P*(q+1):=by rw[Nat.mul_succ];omega
   have e1:(n+1) / P=q+1:=by rw[hn1,Nat.mul_div_cancel_left _ hP]
   have e2:(n+1) % P=0:=by rw[hn1,Nat.mul_mod_right]
   dsimp only
   by_cases h2:q+1<c
   ·have hc:n+1<c*P:=by
     rw[hn1,Nat.mul_comm c P]
     exact (Nat.mul_lt_mul_left hP).2 h2
    rw[ifP h2,ifP hc,digL,hPe,e1,e2,j2I]
   ·have hc:¬ n+1<c*P:=by
     have:c=q+1:=by omega
     rw[hn1,this,Nat.mul_comm P];omega
    rw[ifN h2,ifN hc]
theorem j0h:∀ (cs:List Nat) (n:Nat),q7z (cs++[n])=q7z cs*n
 | [],n=>by simp[q7z]
 | c::cs,n=>by rw[List.cons_append,q7z,q7z,j0h cs,Nat.mul_assoc]
theorem j6S (n:Nat):∀ (cs:List Nat) (m:Nat),m<q7z cs*n→digL (cs++[n]) m=digL cs (m / n)++[m % n]
 | [],m,h=>by
  rw[q7z,Nat.one_mul] at h
  show [m / 1]=[m % n]
  rw[Nat.div_one,Nat.mod_eq_of_lt h]
 | c::cs,m,h=>by
  rw[q7z] at h
  have hP:0<q7z cs*n:=Nat.pos_of_ne_zero fun e=>by rw[Nat.mul_assoc,e] at h;omega
  rw[List.cons_append,digL,digL,j0h,j6S n cs _ (Nat.mod_lt _ hP),Nat.mod_mul_left_div_self,Nat.mod_mul_left_mod,Nat.div_div_eq_div_mul,Nat.mul_comm n]
  rfl
def chL (cs:List Nat):List (List Nat):=(List.range (q7z cs)).map (digL cs)
theorem j4o (n:Nat):∀ p:Nat,List.range (p*n)=(List.range p).flatMap fun i=>(List.range n).map fun j=>i*n+j
 | 0=>by simp
 | p+1=>by
  rw[Nat.succ_mul,List.range_add,j4o n p,List.range_succ,List.flatMap_append]
  simp
theorem z8h {α β:Type}{f g:α→List β}:∀ {l:List α},(∀ x∈l,f x=g x)→l.flatMap f=l.flatMap g
 | [],_=>rfl
 | x::l,h=>by rw[List.flatMap_cons,List.flatMap_cons,h x List.mem_cons_self,z8h fun y hy=>h y (List.mem_cons_of_mem _ hy)]
theorem k3X (cs:List Nat)(n:Nat):chL (cs++[n])=(chL cs).flatMap fun c=>(List.range n).map fun j=>c++[j]:=by
 unfold chL
 rw[j0h,j4o,List.map_flatMap,List.flatMap_map]
 refine z8h fun i hi=>?_
 rw[List.map_map]
 refine List.map_congr_left fun j hj=>?_
 have h1:=List.mem_range.1 hi
 have h2:=List.mem_range.1 hj
 have hlt:i*n+j<q7z cs*n:=by
  have:(i+1)*n≤q7z cs*n:=Nat.mul_le_mul_right _ h1
  rw[Nat.succ_mul] at this
  omega
 show digL (cs++[n]) (i*n+j)=digL cs i++[j]
 have hn:0<n:=by omega
 rw[j6S n cs _ hlt]
 rw[show i*n+j=j+n*i by rw[Nat.mul_comm,Nat.add_comm],Nat.add_mul_div_left _ _ hn,Nat.div_eq_of_lt h2,Nat.zero_add,Nat.add_mul_mod_self_left,Nat.mod_eq_of_lt h2]
theorem j2J:∀ {cs:List Nat},(∀ c∈cs,0<c)→0<q7z cs
 | [],_=>Nat.one_pos
 | c::cs,h=>Nat.mul_pos (h c List.mem_cons_self) (j2J fun x hx=>h x (List.mem_cons_of_mem _ hx))
theorem j4p:∀ {cs:List Nat},0∈cs→q7z cs=0
 | c::cs,h=>by
  rw[q7z]
  rcases List.mem_cons.1 h with e|e
  ·rw[← e,Nat.zero_mul]
  ·rw[j4p e,Nat.mul_zero]
theorem k0w {b:Nat}:∀ {cs:List Nat},(∀ c∈cs,c≤b)→q7z cs≤b ^ cs.length
 | [],_=>Nat.le_refl _
 | c::cs,h=>by
  rw[q7z,lnC,Nat.pow_succ,Nat.mul_comm]
  exact Nat.mul_le_mul (k0w fun x hx=>h x (List.mem_cons_of_mem _ hx)) (h c List.mem_cons_self)
theorem k0x:∀ {cs:List Nat} {n:Nat},n<q7z cs→∀ (i d c:Nat),(digL cs n)[i]?=some d→cs[i]?=some c→d<c
 | [],n,h,i,d,c,h1,h2=>by rw[List.getElem?_nil] at h2;cases h2
 | x::cs,n,h,0,d,c,h1,h2=>by
  cases h1
  cases h2
  rw[q7z] at h
  have hP:0<q7z cs:=Nat.pos_of_ne_zero fun e=>by rw[e] at h;omega
  exact (Nat.div_lt_iff_lt_mul hP).2 h
 | x::cs,n,h,i+1,d,c,h1,h2=>by
  rw[q7z] at h
  have hP:0<q7z cs:=Nat.pos_of_ne_zero fun e=>by rw[e] at h;omega
  exact k0x (Nat.mod_lt _ hP) i d c h1 h2
def nzR:Rl_:=⟨0,[]⟩
def atN (g:Gm_)(n:ByteArray):Nat:=(atS g n).getD 0
def InvS (g:Gm_)(A:List (List Rl_)):Prop:=A.length=g.Symbols.length∧∀ (k:Nat) (y:Symbol) (L:List Rl_),g.Symbols[k]?=some y→A[k]?=some L→L.Nodup∧∀ a∈L,z8x (q7v g y.Name) a
def lsA (g:Gm_)(A:List (List Rl_))(n:ByteArray):List Rl_:=A.getD (atN g n) []
theorem j6T {g:Gm_}{n:ByteArray}(hn:(q6M g n).2=true):∃ y,atI g n=(atN g n:Int)∧g.Symbols[atN g n]?=some y∧y.Name=n:=by
 obtain⟨j,y,h1,h2,h3,h4⟩:=j6P hn
 have e:atN g n=j:=by unfold atN;rw[h1];rfl
 refine⟨y,?_,by rw[e];exact h2,h4⟩
 unfold atI;rw[h1,e]
theorem InvS.at_ {g:Gm_}{A:List (List Rl_)}(h:InvS g A){n:ByteArray}(hn:(q6M g n).2=true):atI g n=(atN g n:Int)∧atN g n<A.length∧A[atN g n]?=some (lsA g A n)∧(lsA g A n).Nodup∧∀ a∈lsA g A n,z8x (q7v g n) a:=by
 obtain⟨y,h1,h2,h3⟩:=j6T hn
 have hj:=(List.getElem?_eq_some_iff.1 h2).1
 have e:A[atN g n]?=some (lsA g A n):=by
  unfold lsA
  rw[List.getD_eq_getElem?_getD,List.getElem?_eq_getElem (by rw[h.1];exact hj)];rfl
 have:=h.2 _ y _ h2 e
 rw[h3] at this
 exact⟨h1,by rw[h.1];exact hj,e,this⟩
theorem InvS.le {g:Gm_}(hS:Shape g){A:List (List Rl_)}(h:InvS g A){n:ByteArray}(hn:(q6M g n).2=true):(lsA g A n).length≤16:=
 z4f (hS.plain n) (h.at_ hn).2.2.2.1 (h.at_ hn).2.2.2.2
def q6e (g:Gm_)(r:Rule)(A:List (List Rl_)):List Nat:=r.Right.map fun n=>(lsA g A n).length
def z3I (g:Gm_)(r:Rule)(A:List (List Rl_))(c:List Nat):List Rl_:=(r.Right.zip c).map fun p=>(lsA g A p.1).getD p.2 nzR
def iL (l:List Nat):List Int:=l.map (fun n:Nat=>((n:Nat):Int))
def Ch (g:Gm_)(r:Rule)(A:List (List Rl_))(c:List Nat):Prop:=c.length=r.Right.length∧∀ (i:Nat) (n:ByteArray) (d:Nat),r.Right[i]?=some n→c[i]?=some d→d<(lsA g A n).length
theorem k4J {g:Gm_}{r:Rule}{A:List (List Rl_)}{c:List Nat}(h:c∈chL (q6e g r A)):Ch g r A c:=by
 unfold chL at h
 obtain⟨m,hm,rfl⟩:=List.mem_map.1 h
 refine⟨by rw[j2H];unfold q6e;rw[lnM],fun i n d h1 h2=>?_⟩
 refine k0x (List.mem_range.1 hm) i d _ h2 ?_
 unfold q6e
 rw[List.getElem?_map,h1];rfl
theorem z7f {g:Gm_}{r:Rule}{A:List (List Rl_)}{c:List Nat}(h:Ch g r A c):(z3I g r A c).length=r.Right.length:=by
 unfold z3I
 rw[lnM,List.length_zip,h.1,Nat.min_self]
theorem j2K {g:Gm_}{r:Rule}{A:List (List Rl_)}{c:List Nat}(h:Ch g r A c){i:Nat}{n:ByteArray}{d:Nat}(h1:r.Right[i]?=some n)(h2:c[i]?=some d) :
  ∃ own,(z3I g r A c)[i]?=some own∧(lsA g A n)[d]?=some own:=by
 have hd:=h.2 i n d h1 h2
 refine⟨(lsA g A n)[d],?_,List.getElem?_eq_getElem hd⟩
 unfold z3I
 have hz:(r.Right.zip c)[i]?=some (n,d):=List.getElem?_zip_eq_some.2 ⟨h1,h2⟩
 rw[List.getElem?_map,hz]
 simp only[Option.map_some]
 rw[List.getD_eq_getElem?_getD,List.getElem?_eq_getElem hd];rfl
theorem j4q {g:Gm_}(hS:Shape g){r:Rule}(hr:r∈g.Rules){A:List (List Rl_)}(hA:InvS g A){c:List Nat}(h:Ch g r A c):FitL g r (z3I g r A c):=by
 refine⟨z7f h,fun k own hk=>?_⟩
 have hlt:=(List.getElem?_eq_some_iff.1 hk).1
 rw[z7f h] at hlt
 obtain⟨n,hn⟩:∃ n,r.Right[k]?=some n:=⟨_,List.getElem?_eq_getElem hlt⟩
 obtain⟨d,hd⟩:∃ d,c[k]?=some d:=⟨_,List.getElem?_eq_getElem (by rw[h.1];exact hlt)⟩
 obtain⟨own',h1,h2⟩:=j2K h hn hd
 rw[hk] at h1;cases h1
 have:=(hA.at_ (hS.right hr (List.mem_of_getElem? hn))).2.2.2.2 own (List.mem_of_getElem? h2)
 rw[z6k hn]
 exact⟨this.1,this.2.1⟩
noncomputable def ownR (g:Gm_) (r:Rule) (A:List (List Rl_)) (c:List Nat):Rl_:=sumS g r (j0D g r (z3I g r A c))
theorem j6U {g:Gm_}(h0:Sz.szd g≤1048576)(hS:Shape g)(r:Rule)(x:Rl_):z8x (q7v g r.Left) (sumS g r x):=by
 obtain⟨s,h1,h2⟩:=k0v (z2V h0) (r:=r) (by have:=hS.plain r.Left;omega) x
 unfold sumS
 rw[h1];exact h2
noncomputable def stA (w:Nat) (s:Rl_) (q:List (List Rl_)×Bool):List (List Rl_)×Bool:=if s∈q.1.getD w [] then q else (q.1.set w (q.1.getD w []++[s]),true)
def Ext (A B:List (List Rl_)):Prop:=B.length=A.length∧∀ (k:Nat) (L:List Rl_),A[k]?=some L→∃ t,B[k]?=some (L++t)
theorem Ext.rfl' (A:List (List Rl_)):Ext A A:=⟨rfl,fun k L h=>⟨[],by rw[List.append_nil];exact h⟩⟩
def tot (A:List (List Rl_)):Nat:=(A.map (·.length)).sum
theorem k0y:∀ (A:List (List Rl_)) (k:Nat) (x a:List Rl_),A[k]?=some a→tot (A.set k x)+a.length=tot A+x.length
 | [],k,x,a,h=>by simp at h
 | b::A,0,x,a,h=>by simp at h;subst h;unfold tot;simp;omega
 | b::A,k+1,x,a,h=>by
  have ih:=k0y A k x a (by simpa using h)
  unfold tot at ih ⊢
  simp only[List.set_cons_succ,List.map_cons,List.sum_cons];omega
theorem InvS.bound {g:Gm_}(hS:Shape g){A:List (List Rl_)}(h:InvS g A):tot A≤g.Symbols.length*16:=by
 have key:∀ l:List (List Rl_),(∀ a∈l,a.length≤16)→tot l≤l.length*16:=by
  intro l
  induction l with
  | nil=>intro _;simp[tot]
  | cons a l ih=>
   intro hv
   have h1:=hv a (by simp)
   have h2:=ih fun b hb=>hv b (by simp[hb])
   unfold tot at h2 ⊢
   simp only[List.map_cons,List.sum_cons,lnC]
   omega
 rw[← h.1]
 refine key A fun L hL=>?_
 obtain⟨k,hk⟩:=List.getElem?_of_mem hL
 have hlt:=(List.getElem?_eq_some_iff.1 hk).1
 obtain⟨y,hy⟩:∃ y,g.Symbols[k]?=some y:=⟨_,List.getElem?_eq_getElem (by rw[← h.1];exact hlt)⟩
 exact z4f (hS.plain y.Name) (h.2 k y L hy hk).1 (h.2 k y L hy hk).2
structure Mv (g:Gm_) (A:List (List Rl_)) (q q' : List (List Rl_)×Bool):Prop where
 inv:InvS g q'.1
 ext:Ext A q'.1
 le:tot q.1≤tot q'.1
 up:q'.2=true→q.2=true∨tot q.1<tot q'.1
 no:q'.2=false→q'=q
theorem Mv.refl {g:Gm_}{A:List (List Rl_)}{q:List (List Rl_)×Bool}(h:InvS g q.1)(he:Ext A q.1):Mv g A q q:=⟨h,he,Nat.le_refl _,fun h=>.inl h,fun _=>rfl⟩
theorem Mv.trans {g:Gm_}{A:List (List Rl_)}{p q s:List (List Rl_)×Bool}(h1:Mv g A p q)(h2:Mv g A q s):Mv g A p s:=
 ⟨h2.inv,h2.ext,Nat.le_trans h1.le h2.le,fun h=>by
  rcases h2.up h with h|h
  ·rcases h1.up h with h|h
   ·exact .inl h
   ·exact .inr (Nat.lt_of_lt_of_le h h2.le)
  ·exact .inr (Nat.lt_of_le_of_lt h1.le h),fun h=>by
  have e:=h2.no h
  rw[e] at h ⊢
  exact h1.no h⟩
theorem k2e {g:Gm_}(hS:Shape g){r:Rule}(hr:r∈g.Rules){A:List (List Rl_)}{q:List (List Rl_)×Bool}(h:InvS g q.1)(he:Ext A q.1){s:Rl_}(hs:z8x (q7v g r.Left) s):Mv g A q (stA (atN g r.Left) s q):=by
 unfold stA
 have hk:=hS.left hr
 obtain⟨h1,h2,h3,h4,h5⟩:=h.at_ hk
 have hg:q.1.getD (atN g r.Left) []=lsA g q.1 r.Left:=rfl
 rw[hg]
 by_cases hm:s∈lsA g q.1 r.Left
 ·rw[ifP hm];exact .refl h he
 ·rw[ifN hm]
  have ht:=k0y q.1 (atN g r.Left) (lsA g q.1 r.Left++[s]) _ h3
  rw[List.length_append,List.length_singleton] at ht
  refine⟨⟨by rw[List.length_set];exact h.1,fun k y L hy hL=>?_⟩,⟨by rw[List.length_set];exact he.1,fun k L hL=>?_⟩,by dsimp only;omega,fun _=>.inr (by dsimp only;omega),fun h=>by cases h⟩
  ·dsimp only at hL
   by_cases e:atN g r.Left=k
   ·subst e
    rw[List.getElem?_set_self h2] at hL
    cases hL
    obtain⟨y',_,h7,h8⟩:=j6T hk
    rw[hy] at h7;cases h7
    rw[h8]
    refine⟨List.nodup_append.2 ⟨h4,by simp,fun a ha b hb e=>?_⟩,fun a ha=>?_⟩
    ·rw[List.mem_singleton] at hb;subst hb;subst e;exact hm ha
    ·rcases List.mem_append.1 ha with ha|ha
     ·exact h5 a ha
     ·rw[List.mem_singleton] at ha;subst ha;exact hs
   ·rw[List.getElem?_set_ne e] at hL
    exact h.2 k y L hy hL
  ·obtain⟨t,e2⟩:=he.2 k L hL
   by_cases e:atN g r.Left=k
   ·subst e
    rw[h3] at e2
    refine⟨t++[s],?_⟩
    dsimp only
    rw[List.getElem?_set_self h2,Option.some.inj e2,List.append_assoc]
   ·exact⟨t,by dsimp only;rw[List.getElem?_set_ne e];exact e2⟩
theorem Mv.fold {α:Type}{g:Gm_}{A:List (List Rl_)}{f:List (List Rl_)×Bool→α→List (List Rl_)×Bool}:∀ (l:List α) (q:List (List Rl_)×Bool),InvS g q.1→Ext A q.1→(∀ q x,x∈l→InvS g q.1→Ext A q.1→Mv g A q (f q x))→Mv g A q (l.foldl f q)
 | [],q,h,he,_=>.refl h he
 | x::l,q,h,he,hf=>by
  have h1:=hf q x (by simp) h he
  exact h1.trans (Mv.fold l _ h1.inv h1.ext fun q y hy=>hf q y (by simp[hy]))
noncomputable def runR (g:Gm_) (A:List (List Rl_)) (q:List (List Rl_)×Bool) (r:Rule):List (List Rl_)×Bool:=(chL (q6e g r A)).foldl (fun q c=>stA (atN g r.Left) (ownR g r A c) q) q
theorem j6V {g:Gm_}(h0:Sz.szd g≤1048576)(hS:Shape g){r:Rule}(hr:r∈g.Rules){A:List (List Rl_)}{q:List (List Rl_)×Bool}(h:InvS g q.1)(he:Ext A q.1):Mv g A q (runR g A q r):=
 Mv.fold _ q h he fun q c _ h he=>k2e hS hr h he (j6U h0 hS r _)
theorem z5q (l:List Nat)(i:Nat):(iL l)[i]?=(l[i]?).map fun n:Nat=>(n:Int):=by unfold iL;rw[List.getElem?_map]
theorem z7g (l:List Nat):(iL l).length=l.length:=by unfold iL;rw[lnM]
theorem k4K (l m:List Nat):iL (l++m)=iL l++iL m:=by unfold iL;rw[List.map_append]
theorem k4L (l:List Nat)(i x:Nat):(iL l).set i (x:Int)=iL (l.set i x):=by unfold iL;rw[List.map_set]
theorem j4r:∀ (m:Nat) (cs ds e:List Nat),ds.length=cs.length→z7Q (cs.drop m) (ds.drop m)=some e→z7Q cs ds=some (ds.take m++e)
 | 0,cs,ds,e,_,h=>by simpa using h
 | m+1,[],ds,e,hl,h=>by rw[List.drop_nil] at h;simp[z7Q] at h
 | m+1,c::cs,[],e,hl,h=>by simp at hl
 | m+1,c::cs,d::ds,e,hl,h=>by
  rw[z7Q,j4r m cs ds e (by simpa using hl) (by simpa using h)];rfl
def k0z (cs ds:List Nat)(q:Int×List Int):Prop:=match z7Q cs ds with
 | none=>q.1<0
 | some e=>0≤q.1∧∃ x:Nat,q.2[q.1.toNat]?=some (x:Int)∧x≤1048576∧q.2.set q.1.toNat ((x+1:Nat):Int)=iL e
theorem j6W {cs ds:List Nat}{f:(Int×List Int)→Option ((Int×List Int) ⊕ (Int×List Int))}(hf:f=q3Y (iL cs))(hl:ds.length=cs.length)(hd:∀ (i d c:Nat),ds[i]?=some d→cs[i]?=some c→d<c∧c≤1048576)(hn:cs.length≤1048576) :
  ∀ m:Nat,m≤cs.length→z7Q (cs.drop m) (ds.drop m)=none→∃ q,q5w f ((m:Int)-1,iL (ds.take m++List.replicate (cs.length-m) 0))=some q∧k0z cs ds q
 | 0,_,h=>by
  refine⟨_,q4g (r:=_) (by rw[hf];unfold q3Y;dsimp only;rw[ifN (by omega)]),?_⟩
  unfold k0z
  rw[List.drop_zero,List.drop_zero] at h
  rw[h]
  show (0:Int)-1<0
  omega
 | m+1,hm,h=>by
  have hm1:m<cs.length:=hm
  have hm2:m<ds.length:=by omega
  obtain⟨c,hc⟩:∃ c,cs[m]?=some c:=⟨_,List.getElem?_eq_getElem hm1⟩
  obtain⟨d,hdd⟩:∃ d,ds[m]?=some d:=⟨_,List.getElem?_eq_getElem hm2⟩
  obtain⟨h1,h2⟩:=hd m d c hdd hc
  have ed:ds.drop m=d::ds.drop (m+1):=by rw[List.drop_eq_getElem_cons hm2];rw[List.getElem?_eq_getElem hm2] at hdd;rw[Option.some.inj hdd]
  have ec:cs.drop m=c::cs.drop (m+1):=by rw[List.drop_eq_getElem_cons hm1];rw[List.getElem?_eq_getElem hm1] at hc;rw[Option.some.inj hc]
  have et:ds.take (m+1)=ds.take m++[d]:=by rw[List.take_add_one,hdd];rfl
  have hlen:(ds.take m).length=m:=by rw[List.length_take];omega
  have hg:(iL (ds.take (m+1)++List.replicate (cs.length-(m+1)) 0))[m]?=some (d:Int):=by
   rw[z5q,et,List.append_assoc,List.getElem?_append_right (by omega),hlen,Nat.sub_self];rfl
  have hset:∀ x:Nat,(iL (ds.take (m+1)++List.replicate (cs.length-(m+1)) 0)).set m (x:Int)=iL (ds.take m++x::List.replicate (cs.length-(m+1)) 0):=fun x=>by
   rw[k4L,et,List.append_assoc,List.set_append_right _ _ (by omega),hlen,Nat.sub_self];rfl
  have hN:(((m+1:Nat):Int)-1)=(m:Int):=by omega
  by_cases e:d=c-1
  ·have hs:f (((m+1:Nat):Int)-1,iL (ds.take (m+1)++List.replicate (cs.length-(m+1)) 0))=some (.inl ((m:Int)-1,iL (ds.take m++List.replicate (cs.length-m) 0))):=by
    rw[hf]
    unfold q3Y
    dsimp only
    rw[hN,ifP (by omega),q3U (by omega),tnC,hg,bsS,q3U (by omega),z5q,hc,Option.map_some,bsS,q3U ⟨by omega,by omega⟩,ifP (by omega),q3U ⟨by omega,by omega⟩]
    have:=hset 0
    rw[show ((0:Nat):Int)=0 from rfl] at this
    rw[this,show cs.length-m=(cs.length-(m+1))+1 by omega,List.replicate_succ]
   rw[q4X hs]
   refine j6W hf hl hd hn m (by omega) ?_
   rw[ec,ed,z7Q,h]
   dsimp only
   rw[ifN (by omega)]
  ·refine⟨_,q4g (r:=_) (by
    rw[hf]
    unfold q3Y
    dsimp only
    rw[hN,ifP (by omega),q3U (by omega),tnC,hg,bsS,q3U (by omega),z5q,hc,Option.map_some,bsS,q3U ⟨by omega,by omega⟩,ifN (by omega)]),?_⟩
   have hx:z7Q cs ds=some (ds.take m++(d+1)::List.replicate (cs.length-(m+1)) 0):=by
    refine j4r m cs ds _ hl ?_
    rw[ec,ed,z7Q,h]
    dsimp only
    rw[ifP (by omega),List.length_drop]
   unfold k0z
   rw[hx]
   dsimp only
   refine⟨by omega,d,?_,by omega,?_⟩
   ·rw[tnC];exact hg
   ·rw[tnC];exact hset (d+1)
theorem j8k {cs ds:List Nat}{f:(Int×List Int)→Option ((Int×List Int) ⊕ (Int×List Int))}(hf:f=q3Y (iL cs))(hl:ds.length=cs.length)(hd:∀ (i d c:Nat),ds[i]?=some d→cs[i]?=some c→d<c∧c≤1048576)(hn:cs.length≤1048576) :
  ∃ q,q5w f (((iL cs).length:Int)-1,iL ds)=some q∧k0z cs ds q:=by
 have:=j6W hf hl hd hn cs.length (Nat.le_refl _) (by rw[List.drop_length,z7Q];intro a b c d h;simp at h)
 rw[Nat.sub_self,List.replicate_zero,List.append_nil,← hl,List.take_length] at this
 rw[z7g,← hl];exact this
def sms (F:List (List found)):List (List Rl_):=F.map fun l=>l.map found.summary
theorem j5L (F:List (List found))(k:Nat):(sms F)[k]?=(F[k]?).map fun l=>l.map found.summary:=by unfold sms;rw[List.getElem?_map]
theorem k2f (l:List Int)(h:l.length≤1048576):q5Z l=some l:=by
 unfold q5Z
 rw[q3U (by rw[List.length_nil];constructor<;>omega)]
theorem k3Y (fs:List found)(s:Rl_):q4o fs s=some (decide (s∈fs.map found.summary)):=by
 unfold q4o q4V
 rw[z2s (q:=fun f:found=>decide (f.summary=s)) (c:=fun k=>(k:Int)) fun j x hx=>by
  unfold q6t z1c
  rw[k3L,bsS,bsS,← apply_ite some]]
 cases e:fs.findIdx? fun f=>decide (f.summary=s) with
 | none=>
  rw[List.findIdx?_eq_none_iff] at e
  have:¬ s∈fs.map found.summary:=fun h=>by
   obtain⟨f,h1,h2⟩:=List.mem_map.1 h
   have:=e f h1
   simp[h2] at this
  rw[decide_eq_false this];rfl
 | some j=>
  rw[List.findIdx?_eq_some_iff_getElem] at e
  obtain⟨hj,h1,h2⟩:=e
  have:s∈fs.map found.summary:=List.mem_map.2 ⟨fs[j],List.getElem_mem hj,of_decide_eq_true h1⟩
  rw[decide_eq_true this]
  dsimp only
  simp only[bsS,z7l]
  rw[decide_eq_true (by omega)]
theorem k3Z {g:Gm_}(h0:Sz.szd g≤1048576)(hS:Shape g){r:Rule}(hr:r∈g.Rules){F:List (List found)}{b:Bool}(hi:InvS g (sms F)){c:List Int}(hc:c.length≤1048576)(x:Rl_) :
  ∃ F',z1k c x g F b r (atI g r.Left)=some (true,F',(stA (atN g r.Left) (sumS g r x) (sms F,b)).2)∧sms F'=(stA (atN g r.Left) (sumS g r x) (sms F,b)).1:=by
 obtain⟨h1,h2,h3,h4,h5⟩:=hi.at_ (hS.left hr)
 have hle:=hi.le hS (hS.left hr)
 have hw:atN g r.Left<F.length:=by unfold sms at h2;rwa[lnM] at h2
 obtain⟨fs,hf⟩:∃ fs,F[atN g r.Left]?=some fs:=⟨_,List.getElem?_eq_getElem hw⟩
 have hm:lsA g (sms F) r.Left=fs.map found.summary:=by
  rw[j5L,hf] at h3
  exact (Option.some.inj h3).symm
 have hgd:(sms F).getD (atN g r.Left) []=fs.map found.summary:=hm
 rw[hm,lnM] at hle
 unfold z1k stA
 dsimp only
 rw[hgd,(k0m (z2V h0) (by have:=z5M hS hr;show r.Right.length≤1048576;omega) x).2,bsS,h1,q3U (by omega),tnC,hf,bsS,k3Y,bsS]
 by_cases hs:sumS g r x∈fs.map found.summary
 ·rw[ifP (decide_eq_true hs),ifP hs]
  exact⟨F,rfl,rfl⟩
 ·rw[decide_eq_false hs,ifN Bool.false_ne_true,ifN hs,k2f c hc,bsS,q3U (by constructor<;>omega)]
  refine⟨_,rfl,?_⟩
  unfold sms
  rw[List.map_set,List.map_append];rfl
theorem k2g {g:Gm_}(hS:Shape g){r:Rule}(hr:r∈g.Rules){A:List (List Rl_)}(hA:InvS g A){F:List (List found)}(he:Ext A (sms F)){c:List Nat}(h:Ch g r A c) :
  eachL (q5I F (iL (r.Right.map (atN g)))) 0 (iL c) []=some (z3I g r A c):=by
 have h3:=z5M hS hr
 obtain⟨s',e,hp⟩:=z2H (P:=fun k s=>s=(z3I g r A c).take k) (f:=q5I F (iL (r.Right.map (atN g)))) (xs:=iL c) (i:=0) (s:=[]) (by rw[List.take_zero]) fun k x s hx hs=>by
  rw[Nat.zero_add] at hs ⊢
  rw[z5q] at hx
  cases hd:c[k]? with
  | none=>rw[hd] at hx;cases hx
  | some d=>
   rw[hd] at hx;cases hx
   have hlt:=(List.getElem?_eq_some_iff.1 hd).1
   rw[h.1] at hlt
   obtain⟨n,hn⟩:∃ n,r.Right[k]?=some n:=⟨_,List.getElem?_eq_getElem hlt⟩
   obtain⟨own,h1,h2⟩:=j2K h hn hd
   obtain⟨t,ht⟩:=he.2 _ _ (hA.at_ (hS.right hr (List.mem_of_getElem? hn))).2.2.1
   rw[j5L] at ht
   cases hf:F[atN g n]? with
   | none=>rw[hf] at ht;cases ht
   | some fs=>
    rw[hf] at ht
    have ht:fs.map found.summary=lsA g A n++t:=Option.some.inj ht
    have hd2:=h.2 k n d hn hd
    have hfd:(fs.map found.summary)[d]?=some own:=by rw[ht,List.getElem?_append_left hd2];exact h2
    rw[List.getElem?_map] at hfd
    cases hq:fs[d]? with
    | none=>rw[hq] at hfd;cases hfd
    | some q=>
     rw[hq] at hfd
     have hfd:=Option.some.inj hfd
     have hsl:s.length≤3:=by rw[hs,List.length_take,z7f h];omega
     refine⟨s++[own],?_,?_⟩
     ·unfold q5I
      rw[z5q,List.getElem?_map,hn]
      simp only[Option.map_some,bsS]
      rw[q3U (by omega),tnC,hf,bsS,q3U (by omega),tnC,hq,bsS,q3U (by constructor<;>omega),hfd]
     ·rw[hs,List.take_add_one,h1];rfl
 rw[e,hp,z7g,Nat.zero_add,h.1,← z7f h,List.take_length]
theorem j8l {g:Gm_}(h0:Sz.szd g≤1048576)(hS:Shape g){r:Rule}(hr:r∈g.Rules){A:List (List Rl_)}(hA:InvS g A){F:List (List found)}{b:Bool}(hi:InvS g (sms F))(he:Ext A (sms F)){c:List Nat}(h:Ch g r A c) :
  ∃ F',q5p (iL c) g F b r (atI g r.Left) g r F (iL (r.Right.map (atN g)))=some (true,F',(stA (atN g r.Left) (ownR g r A c) (sms F,b)).2,F')∧sms F'=(stA (atN g r.Left) (ownR g r A c) (sms F,b)).1:=by
 have h3:=z5M hS hr
 obtain⟨_,e2,_⟩:=k0j h0 (Nat.le_trans (z5m hr) h0) (j4q hS hr hA h)
 obtain⟨F',e,hF⟩:=k3Z h0 hS hr (b:=b) hi (c:=iL c) (by rw[z7g,h.1];omega) (j0D g r (z3I g r A c))
 refine⟨F',?_,hF⟩
 unfold q5p
 rw[k2g hS hr hA he h,bsS,e2,bsS,e];rfl
theorem k2E {g:Gm_}(hS:Shape g){r:Rule}(hr:r∈g.Rules){A:List (List Rl_)}(hA:InvS g A):∀ c∈q6e g r A,c≤16:=fun c hc=>by
 obtain⟨n,h1,rfl⟩:=List.mem_map.1 hc
 exact hA.le hS (hS.right hr h1)
theorem j0i (g:Gm_)(r:Rule)(A:List (List Rl_)):(q6e g r A).length=r.Right.length:=by unfold q6e;rw[lnM]
theorem k4M {g:Gm_}{r:Rule}{A:List (List Rl_)}{n:Nat}(h:n<q7z (q6e g r A)):Ch g r A (digL (q6e g r A) n):=k4J (List.mem_map.2 ⟨n,List.mem_range.2 h,rfl⟩)
theorem j6X {g:Gm_}(h0:Sz.szd g≤1048576)(hS:Shape g){r:Rule}(hr:r∈g.Rules){A:List (List Rl_)}(hA:InvS g A) :
  ∀ (d n:Nat) (F:List (List found)) (b:Bool),n<q7z (q6e g r A)→q7z (q6e g r A)-n=d→InvS g (sms F)→Ext A (sms F) →
   ∃ F' b',q5w (q4f (iL (q6e g r A)) g r (atI g r.Left) g r (iL (r.Right.map (atN g)))) (iL (digL (q6e g r A) n),F,b)=some (.inr (F',b',F')) ∧
    (sms F',b')=((chL (q6e g r A)).drop n).foldl (fun q c=>stA (atN g r.Left) (ownR g r A c) q) (sms F,b)
 | 0,n,F,b,hn,hd,hi,he=>by omega
 | d+1,n,F,b,hn,hd,hi,he=>by
  have hch:=k4M hn
  obtain⟨F1,e1,hF1⟩:=j8l h0 hS hr hA (b:=b) hi he hch
  have mv:=k2e (A:=A) hS hr (q:=(sms F,b)) hi he (j6U h0 hS r (j0D g r (z3I g r A (digL (q6e g r A) n))))
  have h3:=z5M hS hr
  have hcl:=j0i g r A
  obtain⟨q,e2,hq⟩:=j8k (cs:=q6e g r A) (ds:=digL (q6e g r A) n) rfl (j2H _ _) (fun i d c h1 h2=>⟨k0x hn i d c h1 h2,by have:=k2E hS hr hA c (List.mem_of_getElem? h2);omega⟩) (by omega)
  obtain⟨q1,q2⟩:=q
  have hdrop:(chL (q6e g r A)).drop n=digL (q6e g r A) n::(chL (q6e g r A)).drop (n+1):=by
   have hl:n<(chL (q6e g r A)).length:=by unfold chL;rw[lnM,List.length_range];exact hn
   have hg:(chL (q6e g r A))[n]?=some (digL (q6e g r A) n):=by
    unfold chL
    rw[List.getElem?_map,List.getElem?_range hn];rfl
   rw[List.getElem?_eq_getElem hl] at hg
   rw[List.drop_eq_getElem_cons hl,Option.some.inj hg]
  rw[hdrop,List.foldl_cons]
  have e3:(sms F1,(stA (atN g r.Left) (ownR g r A (digL (q6e g r A) n)) (sms F,b)).2)=stA (atN g r.Left) (ownR g r A (digL (q6e g r A) n)) (sms F,b):=by rw[hF1]
  rw[← e3]
  have hi1:InvS g (sms F1):=by rw[hF1];exact mv.inv
  have he1:Ext A (sms F1):=by rw[hF1];exact mv.ext
  unfold k0z at hq
  rw[j6R _ _ hn] at hq
  by_cases hlast:n+1<q7z (q6e g r A)
  ·rw[ifP hlast] at hq
   obtain⟨k0,x,hx,hxl,hset⟩:=hq
   dsimp only at k0 hx hset
   have hs:q4f (iL (q6e g r A)) g r (atI g r.Left) g r (iL (r.Right.map (atN g))) (iL (digL (q6e g r A) n),F,b)=some (.inl (iL (digL (q6e g r A) (n+1)),F1,(stA (atN g r.Left) (ownR g r A (digL (q6e g r A) n)) (sms F,b)).2)):=by
    unfold q4f
    dsimp only
    rw[e1,bsS]
    dsimp only
    rw[ifP rfl,e2,bsS]
    dsimp only
    rw[ifN (by omega),q3U k0,hx,bsS,q3U ⟨by omega,by omega⟩,← hset]
    rfl
   rw[q4X hs]
   exact j6X h0 hS hr hA d (n+1) F1 _ hlast (by omega) hi1 he1
  ·rw[ifN hlast] at hq
   dsimp only at hq
   refine⟨F1,_,q4g (by
    unfold q4f
    dsimp only
    rw[e1,bsS]
    dsimp only
    rw[ifP rfl,e2,bsS]
    dsimp only
    rw[ifP hq]),?_⟩
   have:(chL (q6e g r A)).drop (n+1)=[]:=List.drop_eq_nil_of_le (by unfold chL;rw[lnM,List.length_range];omega)
   rw[this];rfl
theorem j4s (l:List Nat):q6p (iL l) 0=some (decide (0∈l)):=by
 unfold q6p q8u
 rw[z2s (q:=fun x:Int=>decide (x=0)) (c:=fun k=>(k:Int)) fun j x hx=>by
  unfold z2b
  by_cases h:x=0
  ·rw[ifP h.symm,ifP (decide_eq_true h)]
  ·rw[ifN (fun e=>h e.symm),ifN (by simpa using h)]]
 cases e:(iL l).findIdx? fun x=>decide (x=0) with
 | none=>
  rw[List.findIdx?_eq_none_iff] at e
  have:¬ 0∈l:=fun h=>by
   have:=e 0 (List.mem_map.2 ⟨0,h,rfl⟩)
   simp at this
  rw[decide_eq_false this];rfl
 | some j=>
  rw[List.findIdx?_eq_some_iff_getElem] at e
  obtain⟨hj,h1,h2⟩:=e
  have h3:(iL l)[j]=0:=of_decide_eq_true h1
  have:(0:Nat)∈l:=by
   have h4:(iL l)[j]?=some 0:=by rw[List.getElem?_eq_getElem hj,h3]
   rw[z5q] at h4
   cases h5:l[j]? with
   | none=>rw[h5] at h4;cases h4
   | some n=>
    rw[h5] at h4
    have h4:(n:Int)=0:=Option.some.inj h4
    have:n=0:=by omega
    subst this
    exact List.mem_of_getElem? h5
  rw[decide_eq_true this]
  simp only[bsS,z7l]
  rw[decide_eq_true (by omega)]
theorem k4a {cs:List Nat}(h:0∈cs):chL cs=[]:=by unfold chL;rw[j4p h];rfl
theorem k4b {g:Gm_}(h0:Sz.szd g≤1048576)(hS:Shape g){r:Rule}(hr:r∈g.Rules){A:List (List Rl_)}(hA:InvS g A){F:List (List found)}(b:Bool)(hi:InvS g (sms F))(he:Ext A (sms F)) :
  ∃ F' b',q4i (iL (q6e g r A)) g F b r (atI g r.Left) g r F (iL (r.Right.map (atN g)))=some (F',b',F')∧(sms F',b')=runR g A (sms F,b) r:=by
 unfold q4i runR
 rw[j4s,bsS]
 have h3:=z5M hS hr
 have hcl:=j0i g r A
 by_cases hz:0∈q6e g r A
 ·rw[ifP (decide_eq_true hz),k4a hz]
  exact⟨F,b,rfl,rfl⟩
 ·rw[decide_eq_false hz,ifN Bool.false_ne_true,z7g,q3U (by refine⟨?_,?_,?_⟩<;>omega)]
  have hp:0<q7z (q6e g r A):=j2J fun c hc=>Nat.pos_of_ne_zero fun e=>hz (e▸hc)
  obtain⟨F',b',e,hF⟩:=j6X h0 hS hr hA _ 0 F b hp rfl hi he
  rw[j2I,show iL (List.replicate (q6e g r A).length 0)=List.replicate (q6e g r A).length (0:Int) by unfold iL;rw[List.map_replicate];rfl] at e
  rw[e]
  rw[List.drop_zero] at hF
  exact⟨F',b',rfl,hF⟩
theorem j5M {F:List (List found)}(h:F.length≤1048576):eachL z5U 0 F ([]:List Int)=some (F.map fun l:List found=>(l.length:Int)):=by
 rw[z7d (g:=fun l:List found=>(l.length:Int)) (B:=1048576) F 0 [] (fun k x s hx hs=>by
  unfold z5U
  rw[q3U (by constructor<;>omega)]) (by rw[List.length_nil];omega),List.nil_append]
theorem j5N (F:List (List found)):(F.map fun l:List found=>(l.length:Int))=iL ((sms F).map (·.length)):=by
 induction F with
 | nil=>rfl
 | cons l F ih=>
  unfold iL sms at ih ⊢
  simp only[List.map_cons,lnM] at ih ⊢
  rw[ih]
theorem j8m {F:List (List found)}(h:F.length≤1048576):z3p F=some (iL ((sms F).map (·.length))):=by
 unfold z3p
 rw[j5M h,j5N];rfl
theorem bnd8 {l:List Int}(h:l.length≤3):((l.length:Int)+1)*8≤140737488355328∧(l.length:Int)+1≤9223372036854775807:=by constructor<;>omega
theorem j5O {g:Gm_}(hS:Shape g){r:Rule}(hr:r∈g.Rules){A:List (List Rl_)}(hA:InvS g A){k:Nat}{n:ByteArray}(hn:r.Right[k]?=some n) :
  q6b g (iL (A.map (·.length))) k n ((iL (q6e g r A)).take k,(iL (r.Right.map (atN g))).take k)=some ((iL (q6e g r A)).take (k+1),(iL (r.Right.map (atN g))).take (k+1)):=by
 have h3:=z5M hS hr
 have hlt:=(List.getElem?_eq_some_iff.1 hn).1
 obtain⟨k1,k2,k3,_,_⟩:=hA.at_ (hS.right hr (List.mem_of_getElem? hn))
 have e1:(iL (q6e g r A)).take (k+1)=(iL (q6e g r A)).take k++[((lsA g A n).length:Int)]:=by
  rw[List.take_add_one,z5q]
  unfold q6e
  rw[List.getElem?_map,hn];rfl
 have e2:(iL (r.Right.map (atN g))).take (k+1)=(iL (r.Right.map (atN g))).take k++[(atN g n:Int)]:=by
  rw[List.take_add_one,z5q,List.getElem?_map,hn];rfl
 have b1:((iL (q6e g r A)).take k).length≤3:=Nat.le_trans (List.length_take_le _ _) (by omega)
 have b2:((iL (r.Right.map (atN g))).take k).length≤3:=Nat.le_trans (List.length_take_le _ _) (by omega)
 have hx:(iL (A.map (·.length)))[atN g n]?=some ((lsA g A n).length:Int):=by rw[z5q,List.getElem?_map,k3];rfl
 rw[e1,e2]
 generalize (iL (q6e g r A)).take k=s1 at b1
 generalize (iL (r.Right.map (atN g))).take k=s2 at b2
 generalize iL (A.map (·.length))=cc at hx
 unfold q6b
 dsimp only
 rw[j6Q,bsS,k1,q3U (by omega),tnC,hx,bsS,q3U (bnd8 b1),q3U (bnd8 b2)]
theorem k0A {g:Gm_}(h0:Sz.szd g≤1048576)(hS:Shape g){r:Rule}(hr:r∈g.Rules){A:List (List Rl_)}(hA:InvS g A){F:List (List found)}(b:Bool)(hi:InvS g (sms F))(he:Ext A (sms F)) :
  ∃ F' b',q5y g r F (iL (A.map (·.length))) g F b r (atI g r.Left)=some (F',b')∧(sms F',b')=runR g A (sms F,b) r:=by
 have h3:=z5M hS hr
 obtain⟨F',b',e,hF⟩:=k4b h0 hS hr hA b hi he
 refine⟨F',b',?_,hF⟩
 unfold q5y
 obtain⟨s',e2,hp⟩:=z2H (P:=fun k (s:List Int×List Int)=>s=((iL (q6e g r A)).take k,(iL (r.Right.map (atN g))).take k)) (f:=q6b g (iL (A.map (·.length)))) (xs:=r.Right) (i:=0) (s:=([],[])) (by rw[List.take_zero,List.take_zero]) fun k n s hn hs=>by
  rw[Nat.zero_add] at hs ⊢
  rw[hs]
  exact⟨_,j5O hS hr hA hn,rfl⟩
 rw[Nat.zero_add] at hp
 rw[e2,hp,List.take_of_length_le (by rw[z7g,j0i];omega),List.take_of_length_le (by rw[z7g,lnM];omega),bsS]
 dsimp only
 rw[e];rfl
theorem j6Y {g:Gm_}(h0:Sz.szd g≤1048576)(hS:Shape g){A:List (List Rl_)}(hA:InvS g A):∀ (rs:List Rule) (i:Nat) (F:List (List found)) (b:Bool),(∀ r∈rs,r∈g.Rules)→InvS g (sms F)→Ext A (sms F) →
  ∃ F' b',eachL (z3V g (iL (A.map (·.length)))) i rs (F,b)=some (F',b')∧(sms F',b')=rs.foldl (runR g A) (sms F,b)
 | [],i,F,b,_,hi,he=>⟨F,b,rfl,rfl⟩
 | r::rs,i,F,b,hrs,hi,he=>by
  have hr:=hrs r (by simp)
  obtain⟨F1,b1,e1,hF1⟩:=k0A h0 hS hr hA b hi he
  have mv:=j6V h0 hS hr (q:=(sms F,b)) hi he
  rw[← hF1] at mv
  obtain⟨F2,b2,e2,hF2⟩:=j6Y h0 hS hA rs (i+1) F1 b1 (fun x hx=>hrs x (by simp[hx])) mv.inv mv.ext
  refine⟨F2,b2,?_,by rw[List.foldl_cons,← hF1];exact hF2⟩
  rw[eachL,show z3V g (iL (A.map (·.length))) i r (F,b)=some (F1,b1) by
   unfold z3V
   dsimp only
   rw[j6Q,bsS,e1];rfl,bsS]
  exact e2
noncomputable def z2J (g:Gm_) (A:List (List Rl_)):List (List Rl_)×Bool:=g.Rules.foldl (runR g A) (A,false)
theorem j6Z {g:Gm_}(h0:Sz.szd g≤1048576)(hS:Shape g){A:List (List Rl_)}(hA:InvS g A):Mv g A (A,false) (z2J g A):=
 Mv.fold _ _ hA (.rfl' A) fun q r hr h he=>j6V h0 hS hr h he
theorem j4t {g:Gm_}(h0:Sz.szd g≤1048576)(hS:Shape g){F:List (List found)}(hi:InvS g (sms F)) :
  ∃ F',z3W g F=some (if (z2J g (sms F)).2=true then .inl F' else .inr F')∧sms F'=(z2J g (sms F)).1:=by
 obtain⟨F',b',e,hF⟩:=j6Y h0 hS hi g.Rules 0 F false (fun _ h=>h) hi (.rfl' _)
 have hl:F.length≤1048576:=by
  have h1:=hi.1
  have h2:=hS.syms.2
  unfold sms at h1
  rw[lnM] at h1
  omega
 have hr:z2J g (sms F)=(sms F',b'):=hF.symm
 refine⟨F',?_,by rw[hr]⟩
 unfold z3W
 rw[j8m hl,bsS,e,bsS,hr]
 dsimp only
 cases b'<;>rfl
theorem j8n {A:List (List Rl_)}(h:A.length≤1048576):z1o A=some (iL (A.map (·.length))):=by
 unfold z1o
 rw[z7d (g:=fun l:List Rl_=>(l.length:Int)) (B:=1048576) A 0 [] (fun k x s hx hs=>by
  unfold z6N
  rw[q3U (by constructor<;>omega)]) (by rw[List.length_nil];omega),bsS,List.nil_append]
 unfold iL
 rw[List.map_map];rfl
theorem k0B (n:Nat):q9L 0 (n:Int)=some (n:Int):=by
 rw[j5u]
 by_cases h:(n:Int) > 0
 ·rw[ifP h]
 ·rw[ifN h,show (n:Int)=0 by omega]
theorem j5P {g:Gm_}(hS:Shape g){r:Rule}(hr:r∈g.Rules){A:List (List Rl_)}(hA:InvS g A):z0j g r (iL (A.map (·.length)))=some ((chL (q6e g r A)).map iL):=by
 have h3:=z5M hS hr
 unfold z0j
 have key:∀ (k:Nat),k≤r.Right.length→(∀ c∈(q6e g r A).take k,c≤16)∧((q6e g r A).take k).length=k:=fun k hk=>by
  refine⟨fun c hc=>k2E hS hr hA c (List.mem_of_mem_take hc),?_⟩
  rw[List.length_take,j0i];omega
 obtain⟨s',e2,hp⟩:=z2H (P:=fun k (s:List (List Int))=>s=(chL ((q6e g r A).take k)).map iL) (f:=z2R g (iL (A.map (·.length)))) (xs:=r.Right) (i:=0) (s:=[[]]) (by rw[List.take_zero];rfl) fun k n s hn hs=>by
  rw[Nat.zero_add] at hs ⊢
  have hlt:=(List.getElem?_eq_some_iff.1 hn).1
  have hkn:=hS.right hr (List.mem_of_getElem? hn)
  obtain⟨k1,k2,k3,_,_⟩:=hA.at_ hkn
  have hle:=hA.le hS hkn
  have htk:(q6e g r A).take (k+1)=(q6e g r A).take k++[(lsA g A n).length]:=by
   rw[List.take_add_one]
   unfold q6e
   rw[List.getElem?_map,hn];rfl
  have hcl:(chL ((q6e g r A).take k)).length≤256:=by
   unfold chL
   rw[lnM,List.length_range]
   have h4:=k0w (key k (by omega)).1
   rw[(key k (by omega)).2] at h4
   have h5:16 ^ k≤16 ^ 2:=Nat.pow_le_pow_right (by omega) (by omega)
   omega
  refine⟨(chL ((q6e g r A).take (k+1))).map iL,?_,rfl⟩
  unfold z2R
  rw[k0b,bsS,k1,k0B (atN g n),bsS,q3U (by omega),tnC,z5q,List.getElem?_map,k3]
  simp only[Option.map_some,bsS]
  rw[hs,htk,k3X]
  obtain⟨s2,e3,hp2⟩:=z2H (P:=fun j (s:List (List Int))=>s=(((chL ((q6e g r A).take k)).take j).flatMap fun c=>(List.range (lsA g A n).length).map fun d=>iL (c++[d]))) (f:=z2Q ((lsA g A n).length:Int)) (xs:=(chL ((q6e g r A).take k)).map iL) (i:=0) (s:=[]) (by rw[List.take_zero];rfl) fun j x s hx hs2=>by
   rw[Nat.zero_add] at hs2 ⊢
   rw[List.getElem?_map] at hx
   cases hc:(chL ((q6e g r A).take k))[j]? with
   | none=>rw[hc] at hx;cases hx
   | some c=>
    rw[hc] at hx;cases hx
    have hj:=(List.getElem?_eq_some_iff.1 hc).1
    have hclen:c.length=k:=by
     obtain⟨m,hm,rfl⟩:=List.mem_map.1 (List.mem_of_getElem? hc)
     rw[j2H,(key k (by omega)).2]
    have hsl:s.length≤256*16:=by
     rw[hs2,z7P (n:=(lsA g A n).length) fun c=>by rw[lnM,List.length_range]]
     rw[List.length_take]
     exact Nat.mul_le_mul (by omega) hle
    unfold z2Q
    rw[tnC]
    obtain⟨s3,e4,hp3⟩:=z6Q (P:=fun d (t:List (List Int))=>t=s++(List.range d).map fun d=>iL (c++[d])) (f:=z2P (iL c)) (n:=(lsA g A n).length) (i:=0) (s:=s) (by rw[List.range_zero,List.map_nil,List.append_nil]) fun d t h1 h2 ht=>by
     have htl:t.length≤256*16+16:=by rw[ht,List.length_append,lnM,List.length_range];omega
     refine⟨_,by
      unfold z2P
      rw[q3U (by rw[List.length_nil,z7g];constructor<;>omega),q3U (by rw[z7g];constructor<;>omega),q3U (by constructor<;>omega)],?_⟩
     rw[ht,List.range_succ,List.map_append,List.append_assoc,List.map_cons,List.map_nil,k4K c [d]];rfl
    refine⟨s3,by rw[e4];rfl,?_⟩
    rw[hp3,Nat.zero_add,hs2,List.take_add_one,hc,List.flatMap_append]
    simp
  rw[e3]
  rw[Nat.zero_add,lnM,List.take_length] at hp2
  rw[hp2,List.map_flatMap]
  simp only[List.map_map,bsS]
  rfl
 rw[e2,hp,Nat.zero_add,List.take_of_length_le (by rw[j0i];omega)];rfl
theorem k4N {l:List Rl_}(h:l.length≤16):((l.length:Int)+1)*32≤140737488355328∧(l.length:Int)+1≤9223372036854775807:=by constructor<;>omega
theorem j8o {g:Gm_}(hS:Shape g){r:Rule}(hr:r∈g.Rules){A:List (List Rl_)}(hA:InvS g A){c:List Nat}(h:Ch g r A c){k d:Nat}(hd:c[k]?=some d) :
  z3Y g r A k (d:Int) ((z3I g r A c).take k)=some ((z3I g r A c).take (k+1)):=by
 have h3:=z5M hS hr
 have hlt:=(List.getElem?_eq_some_iff.1 hd).1
 rw[h.1] at hlt
 obtain⟨n,hn⟩:∃ n,r.Right[k]?=some n:=⟨_,List.getElem?_eq_getElem hlt⟩
 obtain⟨own,h1,h2⟩:=j2K h hn hd
 obtain⟨k1,k2,k3,_,_⟩:=hA.at_ (hS.right hr (List.mem_of_getElem? hn))
 have e1:(z3I g r A c).take (k+1)=(z3I g r A c).take k++[own]:=by rw[List.take_add_one,h1];rfl
 have b1:((z3I g r A c).take k).length≤16:=Nat.le_trans (List.length_take_le _ _) (by omega)
 rw[e1]
 generalize (z3I g r A c).take k=s at b1
 unfold z3Y
 rw[hn,bsS,k0b,bsS,k1,k0B,bsS,q3U (by omega),tnC,k3,bsS,q3U (by omega),tnC,h2,bsS,q3U (k4N b1)]
theorem k2h {g:Gm_}(hS:Shape g){r:Rule}(hr:r∈g.Rules){A:List (List Rl_)}(hA:InvS g A){c:List Nat}(h:Ch g r A c) :
  z3u g r A (iL c)=some (z3I g r A c):=by
 unfold z3u
 obtain⟨s',e,hp⟩:=z2H (P:=fun k s=>s=(z3I g r A c).take k) (f:=z3Y g r A) (xs:=iL c) (i:=0) (s:=[]) (by rw[List.take_zero]) fun k x s hx hs=>by
  rw[Nat.zero_add] at hs ⊢
  rw[z5q] at hx
  cases hd:c[k]? with
  | none=>rw[hd] at hx;cases hx
  | some d=>
   rw[hd] at hx
   have hx:(d:Int)=x:=Option.some.inj hx
   rw[hs,← hx]
   exact⟨_,j8o hS hr hA h hd,rfl⟩
 rw[e,hp,z7g,Nat.zero_add,h.1,← z7f h,List.take_length];rfl
theorem k4c (l:List Rl_)(s:Rl_):z4W l s=some (decide (s∈l)):=by
 unfold z4W
 rw[z2s (q:=fun f:Rl_=>decide (f=s)) (c:=fun _=>true) fun j x hx=>by
  unfold j0Z
  rw[j2A,bsS,← apply_ite some]]
 cases e:l.findIdx? fun f=>decide (f=s) with
 | none=>
  rw[List.findIdx?_eq_none_iff] at e
  have:¬ s∈l:=fun h=>by
   have:=e s h
   simp at this
  rw[decide_eq_false this];rfl
 | some j=>
  rw[List.findIdx?_eq_some_iff_getElem] at e
  obtain⟨hj,h1,h2⟩:=e
  have h1:l[j]=s:=of_decide_eq_true h1
  have:s∈l:=h1▸List.getElem_mem hj
  rw[decide_eq_true this];rfl
theorem k4d {g:Gm_}(h0:Sz.szd g≤1048576)(hS:Shape g){r:Rule}(hr:r∈g.Rules){A:List (List Rl_)}(hA:InvS g A){q:List (List Rl_)×Bool}(hi:InvS g q.1){c:List Nat}(h:Ch g r A c)(k:Nat) :
  z2C g A r (atI g r.Left) k (iL c) q=some (stA (atN g r.Left) (ownR g r A c) q):=by
 obtain⟨B,b⟩:=q
 obtain⟨h1,h2,h3,h4,h5⟩:=hi.at_ (hS.left hr)
 have hle:=hi.le hS (hS.left hr)
 dsimp only at h1 h2 h3 h4 h5 hle
 have hgd:B.getD (atN g r.Left) []=lsA g B r.Left:=rfl
 obtain⟨e1,_,_⟩:=k0j h0 (Nat.le_trans (z5m hr) h0) (j4q hS hr hA h)
 have h3r:=z5M hS hr
 unfold z2C stA
 dsimp only
 rw[k2h hS hr hA h,bsS,e1,bsS,(k0m (z2V h0) (by show r.Right.length≤1048576;omega) _).1,bsS,h1,q3U (by omega),tnC,h3,bsS,k4c,bsS,hgd]
 rw[show sumS g r (j0D g r (z3I g r A c))=ownR g r A c from rfl]
 by_cases hm:ownR g r A c∈lsA g B r.Left
 ·rw[ifP (decide_eq_true hm),ifP hm];rfl
 ·rw[decide_eq_false hm,ifN Bool.false_ne_true,ifN hm,q3U (k4N hle)];rfl
theorem k0C {g:Gm_}(h0:Sz.szd g≤1048576)(hS:Shape g){r:Rule}(hr:r∈g.Rules){A:List (List Rl_)}(hA:InvS g A):∀ (cs:List (List Nat)) (k:Nat) (q:List (List Rl_)×Bool),(∀ c∈cs,Ch g r A c)→InvS g q.1→Ext A q.1 →
  eachL (z2C g A r (atI g r.Left)) k (cs.map iL) q=some (cs.foldl (fun q c=>stA (atN g r.Left) (ownR g r A c) q) q)
 | [],k,q,_,_,_=>rfl
 | c::cs,k,q,hc,hi,he=>by
  have mv:=k2e (A:=A) hS hr (q:=q) hi he (j6U h0 hS r (j0D g r (z3I g r A c)))
  rw[List.map_cons,eachL,k4d h0 hS hr hA hi (hc c (by simp)),bsS,List.foldl_cons]
  exact k0C h0 hS hr hA cs (k+1) _ (fun x hx=>hc x (by simp[hx])) mv.inv mv.ext
theorem k0D {g:Gm_}(h0:Sz.szd g≤1048576)(hS:Shape g){A:List (List Rl_)}(hA:InvS g A):∀ (rs:List Rule) (i:Nat) (q:List (List Rl_)×Bool),(∀ r∈rs,r∈g.Rules)→InvS g q.1→Ext A q.1 →
  eachL (z2D g A) i rs q=some (rs.foldl (runR g A) q)
 | [],i,q,_,_,_=>rfl
 | r::rs,i,q,hrs,hi,he=>by
  have hr:=hrs r (by simp)
  have mv:=j6V h0 hS hr hi he
  have hl:A.length≤1048576:=by have h1:=hA.1;have h2:=hS.syms.2;omega
  have e:z2D g A i r q=some (runR g A q r):=by
   unfold z2D
   obtain⟨B,b⟩:=q
   dsimp only
   rw[j8n hl,bsS,j5P hS hr hA,bsS,k0b,bsS,k0C h0 hS hr hA _ 0 (B,b) (fun c hc=>k4J hc) hi he,bsS]
   rfl
  rw[eachL,e,bsS,List.foldl_cons]
  exact k0D h0 hS hA rs (i+1) _ (fun x hx=>hrs x (by simp[hx])) mv.inv mv.ext
theorem z7h {g:Gm_}(h0:Sz.szd g≤1048576)(hS:Shape g){A:List (List Rl_)}(hA:InvS g A):z0K g A=some (z2J g A):=by
 have hl:A.length≤4:=by have h1:=hA.1;have h2:=hS.syms.2;omega
 unfold z0K
 rw[z7d (g:=fun l:List Rl_=>l) (B:=1048576) A 0 [] (fun k x s hx hs=>by
  obtain⟨j,hj⟩:=List.getElem?_of_mem hx
  have hlt:=(List.getElem?_eq_some_iff.1 hj).1
  obtain⟨y,hy⟩:∃ y,g.Symbols[j]?=some y:=⟨_,List.getElem?_eq_getElem (by rw[← hA.1];exact hlt)⟩
  have hx16:x.length≤16:=z4f (hS.plain y.Name) (hA.2 j y x hy hj).1 (hA.2 j y x hy hj).2
  unfold z8a
  rw[q3U (by rw[List.length_nil];constructor<;>omega),q3U (by constructor<;>omega)]) (by rw[List.length_nil];omega),bsS,List.nil_append,List.map_id',k0D h0 hS hA g.Rules 0 (A,false) (fun _ h=>h) hA (.rfl' A),bsS]
 rfl
theorem k4O {g:Gm_}(h0:Sz.szd g≤1048576)(hS:Shape g):∀ (d:Nat) (F:List (List found)),InvS g (sms F)→g.Symbols.length*16-tot (sms F)≤d →
  ∃ F',q5w (z3W g) F=some F'∧q5w (q6L g) (sms F)=some (sms F',true)∧InvS g (sms F'):=by
 intro d
 induction d with
 | zero=>
  intro F hi hd
  obtain⟨F1,e1,hF⟩:=j4t h0 hS hi
  have mv:=j6Z h0 hS hi
  have hb:=mv.inv.bound hS
  have hc:(z2J g (sms F)).2=false:=by
   cases hq:(z2J g (sms F)).2 with
   | false=>rfl
   | true=>
    rcases mv.up hq with h|h
    ·cases h
    ·dsimp only at h;omega
  have hno:=mv.no hc
  rw[hc,ifN Bool.false_ne_true] at e1
  have hF1:sms F1=sms F:=by rw[hF,hno]
  refine⟨F1,q4g e1,?_,by rw[hF1];exact hi⟩
  rw[hF1]
  exact q4g (by unfold q6L;rw[z7h h0 hS hi,bsS,hno];rfl)
 | succ d ih=>
  intro F hi hd
  obtain⟨F1,e1,hF⟩:=j4t h0 hS hi
  have mv:=j6Z h0 hS hi
  have hb:=mv.inv.bound hS
  cases hq:(z2J g (sms F)).2 with
  | false=>
   have hno:=mv.no hq
   rw[hq,ifN Bool.false_ne_true] at e1
   have hF1:sms F1=sms F:=by rw[hF,hno]
   refine⟨F1,q4g e1,?_,by rw[hF1];exact hi⟩
   rw[hF1]
   exact q4g (by unfold q6L;rw[z7h h0 hS hi,bsS,hno];rfl)
  | true=>
   rw[hq,ifP rfl] at e1
   have hlt:tot (sms F)<tot (sms F1):=by
    rw[hF]
    rcases mv.up hq with h|h
    ·cases h
    ·exact h
   obtain⟨F',h1,h2,h3⟩:=ih F1 (by rw[hF];exact mv.inv) (by omega)
   refine⟨F',by rw[q4X e1];exact h1,?_,h3⟩
   have s1:q6L g (sms F)=some (.inl (sms F1)):=by
    unfold q6L
    rw[z7h h0 hS hi,bsS,hF]
    dsimp only
    rw[hq];rfl
   rw[q4X s1];exact h2
theorem k0E {g:Gm_}(h0:Sz.szd g≤1048576)(hS:Shape g):∃ F,z3r g=some F∧q5w (q6L g) (List.replicate g.Symbols.length [])=some (sms F,true)∧InvS g (sms F):=by
 have e:sms (List.replicate g.Symbols.length [])=List.replicate g.Symbols.length []:=by unfold sms;rw[List.map_replicate];rfl
 obtain⟨F,h1,h2,h3⟩:=k4O h0 hS _ (List.replicate g.Symbols.length []) (by
  rw[e]
  refine⟨by rw[List.length_replicate],fun k y L _ hL=>?_⟩
  rw[List.getElem?_replicate] at hL
  split at hL
  ·cases hL;exact⟨List.nodup_nil,fun a ha=>by simp at ha⟩
  ·cases hL) (Nat.le_refl _)
 rw[e] at h2
 have hs:=hS.syms.2
 refine⟨F,?_,h2,h3⟩
 unfold z3r
 rw[q3U (by refine⟨?_,?_,?_⟩<;>omega),h1];rfl
theorem j4u {σ ρ:Type}{f:σ→Option (σ ⊕ ρ)}{r:ρ}:∀ (n:Nat) (s:σ),z6p f n s=some r→∃ s',f s'=some (.inr r)
 | 0,s,h=>by cases h
 | n+1,s,h=>by
  rw[z6p] at h
  cases e:f s with
  | none=>rw[e] at h;cases h
  | some x=>
   rw[e,bsS] at h
   cases x with
   | inl s'=>exact j4u n s' h
   | inr q=>cases h;exact⟨s,e⟩
theorem j8p {g:Gm_}(h0:Sz.szd g≤1048576)(hS:Shape g){A B:List (List Rl_)}(hA:InvS g A)(h:q5w (q6L g) B=some (A,true)):(z2J g A).2=false:=by
 obtain⟨n,hn⟩:=z3b.1 h
 obtain⟨s,hs⟩:=j4u n B hn
 unfold q6L at hs
 cases e:z0K g s with
 | none=>rw[e] at hs;cases hs
 | some y=>
  obtain⟨y2,y3⟩:=y
  rw[e,bsS] at hs
  cases y3 with
  | true=>cases hs
  | false=>
   cases hs
   rw[z7h h0 hS hA] at e
   rw[Option.some.inj e]
theorem j5Q {α:Type}{g:Gm_}{A:List (List Rl_)}{f:List (List Rl_)×Bool→α→List (List Rl_)×Bool}:∀ (l:List α) (q:List (List Rl_)×Bool),InvS g q.1→Ext A q.1→(∀ q x,x∈l→InvS g q.1→Ext A q.1→Mv g A q (f q x))→(l.foldl f q).2=false→∀ x∈l,f q x=q
 | [],q,h,he,_,_=>fun x hx=>by simp at hx
 | y::l,q,h,he,hf,hn=>by
  have h1:=hf q y (by simp) h he
  have h2:=Mv.fold l _ h1.inv h1.ext fun q x hx=>hf q x (by simp[hx])
  rw[List.foldl_cons] at hn
  have e2:=h2.no hn
  rw[e2] at hn
  have e1:=h1.no hn
  intro x hx
  rcases List.mem_cons.1 hx with e|e
  ·rw[e];exact e1
  ·have e3:(l.foldl f q).2=false:=by
    have:(l.foldl f (f q y)).2=false:=by rw[e2];exact hn
    rwa[e1] at this
   exact j5Q l q h he (fun q x hx=>hf q x (by simp[hx])) e3 x e
theorem j8q {g:Gm_}(h0:Sz.szd g≤1048576)(hS:Shape g){A:List (List Rl_)}(hA:InvS g A)(hc:(z2J g A).2=false){r:Rule}(hr:r∈g.Rules){c:List Nat}(hm:c∈chL (q6e g r A)):ownR g r A c∈lsA g A r.Left:=by
 have h1:=j5Q (f:=runR g A) g.Rules (A,false) hA (.rfl' A) (fun q r hr h he=>j6V h0 hS hr h he) hc r hr
 have h2:(runR g A (A,false) r).2=false:=by rw[h1]
 have h3:=j5Q (f:=fun q c=>stA (atN g r.Left) (ownR g r A c) q) (chL (q6e g r A)) (A,false) hA (.rfl' A) (fun q c _ h he=>k2e hS hr h he (j6U h0 hS r _)) h2 c hm
 unfold stA at h3
 by_cases hq:ownR g r A c∈(A,false).1.getD (atN g r.Left) []
 ·exact hq
 ·rw[ifN hq] at h3
  have:=congrArg Prod.snd h3
  cases this
def Hp (A:List (List Rl_))(hs:List Int):Prop:=∀ j,hs.getD j 0≠0→A.getD j []≠[]
theorem k0F {g:Gm_}(h0:Sz.szd g≤1048576)(hS:Shape g){A:List (List Rl_)}(hA:InvS g A)(hc:(z2J g A).2=false){hs:List Int}(hq:Hp A hs){n:ByteArray}(h:z5o g hs n=true):A.getD (atN g n) []≠[]:=by
 unfold z5o at h
 obtain⟨r,hr,h1⟩:=List.any_eq_true.1 h
 rw[Bool.and_eq_true] at h1
 obtain⟨h1,h2⟩:=h1
 have h1:=of_decide_eq_true h1
 have hp:0<q7z (q6e g r A):=j2J fun c hcm=>by
  obtain⟨m,hm,rfl⟩:=List.mem_map.1 hcm
  have h3:=List.all_eq_true.1 h2 m hm
  unfold okAt at h3
  cases hj:atS g m with
  | none=>rw[hj] at h3;cases h3
  | some j=>
   rw[hj] at h3
   have h3:=of_decide_eq_true h3
   have h4:=hq j (by omega)
   have:atN g m=j:=by unfold atN;rw[hj];rfl
   unfold lsA
   rw[this]
   exact List.length_pos_iff.2 h4
 have:=j8q h0 hS hA hc hr (List.mem_map.2 ⟨0,List.mem_range.2 hp,rfl⟩)
 rw[h1] at this
 intro e
 unfold lsA at this
 rw[e] at this
 simp at this
theorem Hp.set {A:List (List Rl_)}{hs:List Int}(h:Hp A hs){k:Nat}{v:Int}(hk:A.getD k []≠[]):Hp A (hs.set k v):=fun j hj=>by
 by_cases e:k=j
 ·rw[← e];exact hk
 ·refine h j ?_
  rw[List.getD_eq_getElem?_getD,List.getElem?_set_ne e,← List.getD_eq_getElem?_getD] at hj
  exact hj
theorem k2F {g:Gm_}(h0:Sz.szd g≤1048576)(hS:Shape g){A:List (List Rl_)}(hA:InvS g A)(hc:(z2J g A).2=false){hs:List Int}(h:HsOk g hs)(hq:Hp A hs){v:Int}(hv:0≤v):∀ (xs:List Symbol) (i:Nat) (s:List Int),i+xs.length=g.Symbols.length→(∀ j x,xs[j]?=some x→g.Symbols[i+j]?=some x)→HsOk g s→Hp A s →
  ∃ t,eachL (q9j g hs v) i xs s=some t∧HsOk g t∧Hp A t
 | [],i,s,_,_,hs',hp=>⟨s,rfl,hs',hp⟩
 | x::xs,i,s,hi,hx,hs',hp=>by
  simp only[lnC] at hi
  have e1:=k4D (x:=x) h (v:=v) (k:=i) (by omega) hs'.1
  have hxi:g.Symbols[i]?=some x:=hx 0 x rfl
  have hat:atN g x.Name=i:=by unfold atN;rw[hS.at_ hxi];rfl
  have hn:HsOk g (if (decide (hs.getD i 0=0)&&z5o g hs x.Name)=true then s.set i v else s)∧Hp A (if (decide (hs.getD i 0=0)&&z5o g hs x.Name)=true then s.set i v else s):=by
   by_cases hb:(decide (hs.getD i 0=0)&&z5o g hs x.Name)=true
   ·rw[ifP hb]
    rw[Bool.and_eq_true] at hb
    have:=k0F h0 hS hA hc hq hb.2
    rw[hat] at this
    exact⟨hs'.set hv,hp.set this⟩
   ·rw[ifN hb];exact⟨hs',hp⟩
  obtain⟨t,h1,h3,h4⟩:=k2F h0 hS hA hc h hq hv xs (i+1) _ (by omega) (fun j y hy=>by rw[show i+1+j=i+(j+1) by omega];exact hx (j+1) y hy) hn.1 hn.2
  exact⟨t,by rw[eachL,e1,bsS,h1],h3,h4⟩
theorem j5R {g:Gm_}(h0:Sz.szd g≤1048576)(hS:Shape g){A:List (List Rl_)}(hA:InvS g A)(hc:(z2J g A).2=false):∃ l,q7W g=some l∧HsOk g l∧Hp A l:=by
 have hn:=hS.syms.2
 have key:∀ (m k:Nat) (hs:List Int),k+m=g.Symbols.length+1→1≤k→HsOk g hs→Hp A hs→∃ t,q5w (q5E g) (hs,(k:Int))=some t∧HsOk g t∧Hp A t:=by
  intro m
  induction m with
  | zero=>
   intro k hs hk _ h hp
   refine⟨hs,q4g ?_,h,hp⟩
   unfold q5E;dsimp only;rw[ifN (by omega)]
  | succ m ih=>
   intro k hs hk h1 h hp
   have hl:=h.1
   obtain⟨t,e1,e3,e4⟩:=k2F h0 hS hA hc h hp (v:=(k:Int)) (by omega) g.Symbols 0 hs (by omega) (fun j x hx=>by rw[Nat.zero_add];exact hx) h hp
   obtain⟨q,f1,f3,f4⟩:=ih (k+1) t (by omega) (by omega) e3 e4
   refine⟨q,?_,f3,f4⟩
   have e:q5E g (hs,(k:Int))=some (.inl (t,((k+1:Nat):Int))):=by
    unfold q5E;dsimp only
    rw[ifP (by omega),q3U (by simp only[List.length_nil];constructor<;>omega),e1,bsS,q3U (by constructor<;>omega)];rfl
   rw[q4X e];exact f1
 have hz:∀ j,(List.replicate g.Symbols.length (0:Int)).getD j 0=0:=fun j=>by rw[List.getD_eq_getElem?_getD,List.getElem?_replicate];split<;>simp
 obtain⟨t,f1,f3,f4⟩:=key g.Symbols.length 1 (List.replicate g.Symbols.length 0) (by omega) (by omega) ⟨by simp,fun j=>by rw[hz];omega⟩ (fun j hj=>absurd (hz j) hj)
 refine⟨t,?_,f3,f4⟩
 unfold q7W
 rw[q3U (by refine⟨?_,?_,?_⟩<;>omega),show q5w (q5E g) (List.replicate g.Symbols.length 0,1)=some t from f1];rfl
theorem k2i {g:Gm_}(h0:Sz.szd g≤1048576)(hg:j4e g=true){A:List (List Rl_)}(hA:InvS g A)(hc:(z2J g A).2=false):∀ L∈A,L≠[]:=by
 have hS:=j1s hg
 obtain⟨l,e0,e2,e3⟩:=j5R h0 hS hA hc
 obtain⟨l',e1,e0',_⟩:=z5p (g:=g) (by have:=hS.syms.2;omega)
 rw[e0] at e0'
 obtain rfl:l=l':=Option.some.inj e0'
 have hne:∀ x∈l,x≠0:=by
  unfold j4e at hg
  rw[decide_eq_true_eq] at hg
  unfold j5H at hg
  by_cases hz:(z4q g).1=0
  ·rw[ifP hz] at hg
   cases ht:g.Rules.findIdx? fun r=>!typR g r with
   | some k=>rw[ht] at hg;cases hg
   | none=>
    rw[ht] at hg
    unfold hgtL at hg
    rw[e1,Option.getD_some] at hg
    cases hl:l.findIdx? fun x=>decide (x=0) with
    | some k=>rw[hl] at hg;cases hg
    | none=>
     rw[List.findIdx?_eq_none_iff] at hl
     intro x hx e
     have:=hl x hx
     simp[e] at this
  ·rw[ifN hz] at hg;exact absurd hg hz
 intro L hL
 obtain⟨k,hk⟩:=List.getElem?_of_mem hL
 have hlt:=(List.getElem?_eq_some_iff.1 hk).1
 have hkl:k<l.length:=by rw[e2.1,← hA.1];exact hlt
 have h1:=e3 k (by rw[List.getD_eq_getElem?_getD,List.getElem?_eq_getElem hkl];exact hne _ (List.getElem_mem hkl))
 rw[List.getD_eq_getElem?_getD,hk] at h1
 exact h1
theorem GB.gc2 {g:Gm_}(h:GB g):GC2 g:=⟨h.1,h.2.1,h.2.2.1,fun r hr=>by obtain⟨a,c,d⟩:=h.2.2.2 r hr;exact⟨a,by omega,d⟩⟩
theorem k0G {b:List UInt8}(hb:b.length≤1048576):Ok GC2 (q8f b):=by
 unfold q8f
 obtain⟨z,hz,hz1,hz2⟩:=k4A hb
 obtain⟨zb,zi,zh⟩:=z
 dsimp only at hz1 hz2
 subst hz2
 refine .eq hz ?_
 refine drK (q8V hb _ (cb hz1)) fun y i1 h1 _ hi1=>.ite (fun _=>?_) fun _=>?_
 ·exact drK (k0q hb hi1) fun g i2 h2 hg hi2=>.ret hg
 ·exact drK (j4m hb true hi1) fun g i2 h2 hg hi2=>.ret (GB.gc2 hg)
theorem k2j {g:Gm_}(hS:Shape g){F:List (List found)}(hA:InvS g (sms F)):eachL z3X 0 F ([]:List (List Rl_))=some (sms F):=by
 have hl:F.length≤4:=by
  have h1:=hA.1
  have h2:=hS.syms.2
  unfold sms at h1
  rw[lnM] at h1
  omega
 rw[z7d (g:=fun l:List found=>l.map found.summary) (B:=1048576) F 0 [] (fun k x s hx hs=>by
  obtain⟨j,hj⟩:=List.getElem?_of_mem hx
  have hlt:=(List.getElem?_eq_some_iff.1 hj).1
  have hsm:(sms F)[j]?=some (x.map found.summary):=by rw[j5L,hj];rfl
  have hlt2:=(List.getElem?_eq_some_iff.1 hsm).1
  obtain⟨y,hy⟩:∃ y,g.Symbols[j]?=some y:=⟨_,List.getElem?_eq_getElem (by rw[← hA.1];exact hlt2)⟩
  have hx16:(x.map found.summary).length≤16:=z4f (hS.plain y.Name) (hA.2 j y _ hy hsm).1 (hA.2 j y _ hy hsm).2
  rw[lnM] at hx16
  unfold z3X
  rw[z7d (g:=found.summary) (B:=1048576) x 0 [] (fun k x s hx hs=>by
   unfold z6I
   rw[q3U (by constructor<;>omega)]) (by rw[List.length_nil];omega),bsS,q3U (by constructor<;>omega),List.nil_append]) (by rw[List.length_nil];omega),List.nil_append]
 rfl
theorem j7a {L:List Rl_}(hn:L.Nodup){k:Nat}{x:Rl_}(hx:L[k]?=some x):∀ (m j:Nat),j+m=k→findN (z0o L x) j m ()=some (.inl ())
 | 0,j,h=>rfl
 | m+1,j,h=>by
  have hk:=(List.getElem?_eq_some_iff.1 hx).1
  obtain⟨y,hy⟩:∃ y,L[j]?=some y:=⟨_,List.getElem?_eq_getElem (by omega)⟩
  have hne:x≠y:=fun e=>by
   subst e
   have h1:=(List.getElem?_eq_some_iff.1 hx)
   have h2:=(List.getElem?_eq_some_iff.1 hy)
   obtain⟨a1,a2⟩:=h1
   obtain⟨b1,b2⟩:=h2
   exact List.pairwise_iff_getElem.1 hn j k b1 a1 (by omega) (b2.trans a2.symm)
  have e:z0o L x j ()=some (.inl ()):=by
   unfold z0o
   rw[hy,bsS,j2A,bsS,decide_eq_false hne,ifN Bool.false_ne_true]
  rw[findN,e,bsS]
  exact j7a hn hx m (j+1) (by omega)
theorem k2G {L:List Rl_}(hn:L.Nodup):∀ (xs:List Rl_) (k:Nat),(∀ j x,xs[j]?=some x→L[k+j]?=some x)→findL (z0p L L) k xs ()=some (.inl ())
 | [],k,_=>rfl
 | x::xs,k,h=>by
  have hx:L[k]?=some x:=h 0 x rfl
  have e:z0p L L k x ()=some (.inl ()):=by
   unfold z0p
   rw[hx,bsS,j2A,bsS,decide_eq_true rfl,ifP rfl,j7a hn hx k 0 (by omega)];rfl
  rw[findL,e,bsS]
  exact k2G hn xs (k+1) fun j y hy=>by rw[show k+1+j=k+(j+1) by omega];exact h (j+1) y hy
theorem j7b {A:List (List Rl_)}(hn:∀ L∈A,L.Nodup∧L≠[]):∀ (xs:List (List Rl_)) (k:Nat),(∀ j x,xs[j]?=some x→A[k+j]?=some x)→findL (z0q A) k xs ()=some (.inl ())
 | [],k,_=>rfl
 | L::xs,k,h=>by
  have hx:A[k]?=some L:=h 0 L rfl
  obtain⟨h1,h2⟩:=hn L (List.mem_of_getElem? hx)
  have hp:=List.length_pos_iff.2 h2
  have e:z0q A k L ()=some (.inl ()):=by
   unfold z0q
   rw[hx,bsS,ifP rfl,ifN (by omega),k2G h1 L 0 fun j x hj=>by rw[Nat.zero_add];exact hj];rfl
  rw[findL,e,bsS]
  exact j7b hn xs (k+1) fun j y hy=>by rw[show k+1+j=k+(j+1) by omega];exact h (j+1) y hy
theorem j0E (a:List UInt8):z1f a=some true:=by
 unfold z1f j6u
 rw[bsS]
 by_cases hb:1048576<(a.length:Int)
 ·rw[ifP (by simpa using hb)]
 rw[ifN (by simpa using hb)]
 have hb:a.length≤1048576:=by omega
 obtain⟨g,e,hg⟩:=k0G hb
 have hG:=szG hg
 have hgd:z9u g=some (j4e g):=by
  unfold z9u
  rw[j6K hG,bsS];rfl
 rw[e,bsS]
 unfold z2z z2E
 rw[k1U hG,k1V hG,bsS,bsS,hgd]
 cases hgb:j4e g with
 | false=>
  simp only[Bool.false_eq_true,if_false,if_true,bsS,decide_true,Bool.not_true]
  rfl
 | true=>
  have hS:=j1s hgb
  obtain⟨F,h1,h2,h3⟩:=k0E hG hS
  have hs:=hS.syms.2
  have hne:=k2i hG hgb h3 (j8p hG hS h3 h2)
  rw[ifP rfl,ifP rfl,h1,bsS,k2j hS h3,bsS,bsS,q3U (by refine⟨?_,?_,?_⟩<;>omega),h2]
  simp only[bsS,if_true,decide_true,Bool.not_true,Bool.false_eq_true,if_false]
  rw[j7b (A:=sms F) (fun L hL=>⟨by
   obtain⟨k,hk⟩:=List.getElem?_of_mem hL
   have hlt:=(List.getElem?_eq_some_iff.1 hk).1
   obtain⟨y,hy⟩:∃ y,g.Symbols[k]?=some y:=⟨_,List.getElem?_eq_getElem (by rw[← h3.1];exact hlt)⟩
   exact (h3.2 k y L hy hk).1,hne L hL⟩) (sms F) 0 fun j x hj=>by rw[Nat.zero_add];exact hj]
  rfl
end Go.Proofs.YtomdlgffolbdkaaGreat
