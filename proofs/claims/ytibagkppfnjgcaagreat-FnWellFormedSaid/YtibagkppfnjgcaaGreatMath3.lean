/- What those partial functions come to: plain lemmas on data; each bears its conditions in its statement. -/
import Derived.Test.YtibagkppfnjgcaaGreatMath2
set_option linter.unusedVariables false
set_option linter.unusedSimpArgs false
set_option linter.ambiguousOpen false
set_option linter.unusedSectionVars false
set_option linter.unnecessarySimpa false
namespace Go.Proofs.YtibagkppfnjgcaaGreat
open Go Go.E
theorem j6C {α:Type}[Sz α](x:α):∀ (l:List α) (j:Nat),szL (l.set j x)≤szL l+Sz.szd x
 | [],_=>by simp [szL]
 | y :: l,0=>by simp only [List.set,szL]; omega
 | y :: l,j+1=>by have:=j6C x l j; simp only [List.set,szL]; omega
theorem j6D {α:Type}[Sz α](l:List α):szL (l.drop 1)≤szL l:=by
 cases l with
 | nil=>simp
 | cons x l=>simp only [List.drop,szL]; omega
theorem z9i (a:Int):∀ (l:List Expr) (i:Nat),(∀ x∈l,∃ v,∀ m,fuE x≤m→q6o m x a=some v)→∃ r,∀ m,(∀ x∈l,fuE x≤m)→findL (q7W (q6o m) a) i l ()=some r
 | [],i,_=>⟨.inl (),fun m _=>rfl⟩
 | x :: l,i,h=>by
  obtain⟨v,hv⟩:=h x (by simp)
  obtain⟨r,hr⟩:=z9i a l (i+1) fun y hy=>h y (by simp [hy])
  cases v with
  | true=>
   refine⟨r,fun m hm=>?_⟩
   have h1:=hr m fun y hy=>hm y (by simp [hy])
   have h2:q7W (q6o m) a i x ()=some (.inl ()):=by unfold q7W; rw [hv m (hm x (by simp))]; rfl
   rw [findL,h2]; exact h1
  | false=>
   refine⟨.inr false,fun m hm=>?_⟩
   have h2:q7W (q6o m) a i x ()=some (.inr false):=by unfold q7W; rw [hv m (hm x (by simp))]; rfl
   rw [findL,h2]; rfl
theorem j6E (e:Expr)(a:Int):∃ v,z2x e a=some v:=by
 have key:∀ e:Expr,∃ v,∀ m,fuE e≤m→q6o m e a=some v:=by
  intro e
  induction e using q8m with
  | h e ih=>
   obtain⟨r,hr⟩:=z9i a e.Args 0 ih
   have:∃ v,∀ m,fuE e≤m+1→q7X (q6o m) e a=some v:=by
    cases r with
    | inl u=>exact⟨_,fun m hm=>by unfold q7X; rw [hr m fun x hx=>by have:=z1m hx; omega]; rfl⟩
    | inr q=>exact⟨_,fun m hm=>by unfold q7X; rw [hr m fun x hx=>by have:=z1m hx; omega]; rfl⟩
   obtain⟨v,hv⟩:=this
   refine⟨v,fun m hm=>?_⟩
   obtain⟨m,rfl⟩:∃ q,m=q+1:=⟨m - 1,by have:=z1C e; omega⟩
   exact hv m hm
 obtain⟨v,hv⟩:=key e
 exact⟨v,q7j (fuE e) hv⟩
def R2 (r:Rule):Prop:=RB r∧szL r.Equations≤60000∧szL r.Contributions≤200
def GC2 (g:Grammar):Prop:=SBs g.Symbols∧1≤g.Rules.length∧g.Rules.length≤8∧∀ r∈g.Rules,R2 r
theorem SB.set {s:Symbol}(h:SB s){x:Attribute}(hx:x.Name.size≤8):SB ⟨s.Name,List.set s.Attributes 0 x⟩:=by
 refine⟨h.1,by dsimp only; rw [List.length_set]; exact h.2.1,by dsimp only; rw [List.length_set]; exact h.2.2.1,fun a ha=>?_⟩
 rcases List.mem_or_eq_of_mem_set ha with ha | ha
 ·exact h.2.2.2 a ha
 ·rw [ha]; exact hx
theorem GC2.set {ss:List Symbol}{rs:List Rule}(h:GC2 ⟨ss,rs⟩)(k:Nat){x:Rule}(hx:R2 x):GC2 ⟨ss,rs.set k x⟩:=by
 refine⟨h.1,by dsimp only; rw [List.length_set]; exact h.2.1,by dsimp only; rw [List.length_set]; exact h.2.2.1,fun a ha=>?_⟩
 rcases List.mem_or_eq_of_mem_set ha with ha | ha
 ·exact h.2.2.2 a ha
 ·rw [ha]; exact hx
section
variable {b:List UInt8}(hb:b.length≤1048576)
include hb
theorem j8g {e:Expr}{n:Nat}(h:Sz.szd e≤n)(hn:n≤1048576)(a:Int):Ok (fun _=>True) (q8v e a):=by
 unfold q8v
 refine .eq (z5l (by have:=j6a hb h; omega)) ?_
 obtain⟨v,hv⟩:=j6E e a
 exact .ite (fun _=>.eq hv (.ret trivial)) fun _=>.ret trivial
theorem j8h {i h:Int}(hi:0≤i):Dr b (fun r=>RB r∧r.Right.length≤3∧szL r.Equations≤1200∧szL r.Contributions≤200) (z3i ⟨b,i,h⟩):=by
 unfold z3i
 refine drK (z1n hb (by simp) (cb hi)) fun y1 i1 h1 hy1 hi1=>?_
 refine drK (z1n hb (by simp) (cb hi1)) fun y2 i2 h2 hy2 hi2=>?_
 refine drK (q7w hb _ (cb hi2)) fun y3 i3 h3 _ hi3=>?_
 refine drK (q4d hb 4 (cb hi3)) fun y4 i4 h4 hy4 hi4=>?_
 have h44:=hy4.2.1 (by omega)
 have h40:=hy4.1
 have n1:y1.size≤8:=by
  simp only [List.mem_cons,List.not_mem_nil,or_false] at hy1
  rcases hy1 with h | h | h<;>subst h<;>(try dsimp only)<;>decide
 have n2:y2.size≤8:=by
  simp only [List.mem_cons,List.not_mem_nil,or_false] at hy2
  rcases hy2 with h | h<;>subst h<;>(try dsimp only)<;>decide
 dsimp only
 refine j3a (fun k (q:List ByteArray)=>q.length=k∧∀ x∈q,x.size≤8) hi4 ⟨rfl,by simp⟩ (fun j4 q4 i h hj4 hi hq4=>?_) fun q4 i8 h8 hi8 hq4=>?_
 ·unfold z8S
  dsimp only
  refine drK (z1n hb (by simp) (cb hi)) fun z i1 h1 hz hi1=>?_
  refine .grd (by have:=hq4.1; constructor<;>omega) (.ret ⟨hi1,by simp [hq4.1],fun a ha=>?_⟩)
  simp only [List.mem_append,List.mem_cons,List.not_mem_nil,or_false] at ha hz
  rcases ha with ha | ha
  ·exact hq4.2 a ha
  ·rw [ha]; rcases hz with h | h | h<;>subst h<;>(try dsimp only)<;>decide
 ·refine drK (q4d hb 4 (cb hi8)) fun y6 i6 h6 hy6 hi6=>?_
  have h64:=hy6.2.1 (by omega)
  dsimp only
  refine j3a (fun k (q:List Equation)=>q.length≤k∧szL q≤k*400) hi6 ⟨by simp,by simp [szL]⟩ (fun j q i h hj hi hq=>?_) fun q i9 h9 hi9 hq=>?_
  ·have hq1:=hq.1
   have hq2:=hq.2
   unfold z8T
   dsimp only
   refine .bbi (drK (q4d hb 3 (cb hi)) fun y7 i7 h7 hy7 hi7=>?_)
   have h73:=hy7.2.1 (by omega)
   have h70:=hy7.1
   refine .bgr (by constructor<;>omega) (.bbi (drK (j5Z hb 2 (by omega) (by omega) (by omega) (cb hi7)) fun e i8 h8 he hi8=>?_))
   have he:Sz.szd e≤320:=he
   refine .bbi (.bind (j8g hb he (by omega) y4) fun v _=>?_)
   refine .bif (fun _=>?_) fun _=>.bso (.ret ⟨hi8,Nat.le_trans hq1 (Nat.le_succ _),Nat.le_trans hq2 (Nat.mul_le_mul_right 400 (Nat.le_succ j))⟩)
   refine .bgr (by constructor<;>omega) (.bbi (drK (q4d hb _ (cb hi8)) fun y10 i9 h9 _ hi9=>?_))
   refine .bbi (drK (j2J hb (cb hi9)) fun nm i10 h10 hnm hi10=>?_)
   refine .bgr (by constructor<;>omega) (.bso (.ret ⟨hi10,by dsimp only; simp; omega,?_⟩))
   dsimp only
   rw [z5p,z8e]
   have hnm:nm.size=1:=hnm
   dsimp only
   omega
  ·have hq2:=hq.2
   have hR:RB ⟨y1,y2,q4,y3,q,[]⟩:=⟨n1,n2,by have:=hq4.1; dsimp only; omega,hq4.2⟩
   refine drK (q7w hb _ (cb hi9)) fun y12 i12 h12 _ hi12=>?_
   refine .ite (fun _=>?_) fun _=>⟨_,rfl,⟨hR,by have:=hq4.1; dsimp only; omega,by dsimp only; omega,by simp [szL]⟩,hi12,rfl⟩
   refine drK (q4d hb _ (cb hi12)) fun y13 i13 h13 _ hi13=>?_
   refine .eq rfl ?_
   refine .grd (by simp only [List.length_nil]; constructor<;>omega) ⟨_,rfl,⟨hR,by have:=hq4.1; dsimp only; omega,by dsimp only; omega,?_⟩,hi13,rfl⟩
   dsimp only
   rw [List.nil_append]
   show 1+Sz.szd (⟨(⟨#[115]⟩:ByteArray),(⟨#[99]⟩:ByteArray),_,_⟩:Contribution)+0≤200
   rw [j8I,z7W hb,z7W hb,q9z hb]
   decide
theorem j8i {i h:Int}(hi:0≤i):Dr b R2 (z3k ⟨b,i,h⟩):=by
 unfold z3k
 refine drK (j8h hb hi) fun r i1 h1 hr hi1=>?_
 obtain⟨r1,r2,r3,r4⟩:=hr
 refine drK (q4d hb 12 (cb hi1)) fun y2 i2 h2 _ hi2=>?_
 dsimp only
 refine .ite (fun _=>?_) fun _=>.ite (fun _=>?_) fun _=>.ite (fun _=>?_) fun _=>.ite (fun _=>?_) fun _=>.ite (fun _=>?_) fun _=>?_
 ·refine drK (z1n hb (by simp) (cb hi2)) fun z i3 h3 hz hi3=>⟨_,rfl,⟨⟨?_,r1.2.1,r1.2.2.1,r1.2.2.2⟩,by dsimp only; omega,r4⟩,hi3,rfl⟩
  simp only [List.mem_cons,List.not_mem_nil,or_false] at hz
  rcases hz with h | h | h<;>subst h<;>(try dsimp only)<;>decide
 ·refine .grd (by simp only [List.length_cons,List.length_nil]; constructor<;>omega) ⟨_,rfl,⟨⟨r1.1,r1.2.1,by simp; omega,fun x hx=>?_⟩,by dsimp only; omega,r4⟩,hi2,rfl⟩
  simp only [List.mem_append,List.mem_cons,List.not_mem_nil,or_false] at hx
  rcases hx with h | h | h
  ·exact r1.2.2.2 x h
  ·rw [h]; decide
  ·rw [h]; decide
 ·refine drK (q4d hb 5 (cb hi2)) fun y4 i4 h4 hy4 hi4=>?_
  have h40:=hy4.1
  have h44:=hy4.2.1 (by omega)
  refine .grd (by constructor<;>omega) ?_
  refine drK (j9s hb (cb hi4)) fun e i5 h5 he hi5=>?_
  have he:Sz.szd e≤30000:=he
  have hl:=q6C r.Equations
  refine .grd (by constructor<;>omega) ⟨_,rfl,⟨r1,?_,r4⟩,hi5,rfl⟩
  dsimp only
  rw [z5p,z8e]
  have:(⟨#[97]⟩:ByteArray).size=1:=rfl
  dsimp only
  omega
 ·exact⟨_,rfl,⟨⟨r1.1,by dsimp only; decide,r1.2.2.1,r1.2.2.2⟩,by dsimp only; omega,r4⟩,hi2,rfl⟩
 ·refine .grd (by constructor<;>omega) ?_
  refine drK (q4d hb _ (cb hi2)) fun y6 i6 h6 hy6 hi6=>?_
  have h60:=hy6.1
  have h61:=hy6.2.1 (by omega)
  refine .grd h60 (.grd (by omega) ⟨_,rfl,⟨⟨r1.1,r1.2.1,by dsimp only; rw [List.length_take]; omega,fun x hx=>r1.2.2.2 x (List.mem_of_mem_take hx)⟩,by dsimp only; omega,r4⟩,hi6,rfl⟩)
 ·exact⟨_,rfl,⟨r1,by dsimp only; omega,r4⟩,hi2,rfl⟩
theorem j8j {i h:Int}(hi:0≤i):Dr b SB (z3l ⟨b,i,h⟩):=by
 unfold z3l
 refine drK (z1n hb (by simp) (cb hi)) fun nm i1 h1 hnm hi1=>?_
 have hnm:nm.size≤8:=by
  simp only [List.mem_cons,List.not_mem_nil,or_false] at hnm
  rcases hnm with h | h | h | h<;>subst h<;>(try dsimp only)<;>decide
 refine drK (j8H hb hnm _ _ hi1) fun s i2 h2 hs hi2=>?_
 refine drK (q4d hb 10 (cb hi2)) fun y3 i3 h3 _ hi3=>?_
 have hl:=hs.2.1
 dsimp only
 refine .ite (fun _=>?_) fun _=>.ite (fun _=>?_) fun _=>.ite (fun _=>?_) fun _=>.ite (fun _=>?_) fun _=>.ite (fun _=>?_) fun _=>?_
 ·exact .get (by omega) fun x hx=>⟨_,rfl,hs.set (by exact hs.2.2.2 x hx),hi3,rfl⟩
 ·exact drK (q4d hb 5 (cb hi3)) fun y4 i4 h4 _ hi4=>.get (by omega) fun x hx=>⟨_,rfl,hs.set (by exact hs.2.2.2 x hx),hi4,rfl⟩
 ·exact drK (q4d hb 6 (cb hi3)) fun y4 i4 h4 _ hi4=>.get (by omega) fun x hx=>⟨_,rfl,hs.set (by exact hs.2.2.2 x hx),hi4,rfl⟩
 ·refine drK (z1n hb (by simp) (cb hi3)) fun z i4 h4 hz hi4=>.get (by omega) fun x hx=>⟨_,rfl,hs.set ?_,hi4,rfl⟩
  simp only [List.mem_cons,List.not_mem_nil,or_false] at hz
  rcases hz with h | h | h<;>subst h<;>(try dsimp only)<;>decide
 ·refine Ok.bind (Q:=fun l:List Attribute=>1≤l.length∧l.length≤5∧∀ a∈l,a.Name.size≤8) (z2J (P:=fun l:List Attribute=>1≤l.length∧l.length≤5∧∀ a∈l,a.Name.size≤8) (fun l=>5 - l.length) (fun l hl=>?_) _ ⟨hs.2.1,hs.2.2.1,hs.2.2.2⟩) fun l hl=>⟨_,rfl,⟨hs.1,hl.1,hl.2.1,hl.2.2⟩,hi3,rfl⟩
  unfold z8V
  refine .ite (fun h5=>?_) fun _=>.ret hl
  refine .get (by simp; omega) fun x hx=>.grd (by constructor<;>omega) (.ret ⟨⟨by simp,by simp; omega,fun a ha=>?_⟩,by simp; omega⟩)
  simp only [List.mem_append,List.mem_cons,List.not_mem_nil,or_false] at ha hx
  rcases ha with ha | ha
  ·exact hl.2.2 a ha
  ·rw [ha]; dsimp only; rcases hx with h | h | h | h | h<;>subst h<;>(try dsimp only)<;>decide
 ·exact⟨_,rfl,hs,hi3,rfl⟩
theorem j6F {i h:Int}(hi:0≤i):Dr b GC2 (z2a ⟨b,i,h⟩):=by
 unfold z2a
 refine drK (q7w hb _ (cb hi)) fun y1 i1 h1 _ hi1=>?_
 refine drK (j1E hb y1 hi1) fun g i2 h2 hg hi2=>?_
 obtain⟨ss,rs⟩:=g
 obtain⟨g1,g2,g3,g4⟩:=hg
 dsimp only at g1 g2 g3 g4
 have hG:GC2 ⟨ss,rs⟩:=⟨g1,g2,g3,fun r hr=>by obtain⟨a,c,d⟩:=g4 r hr; exact⟨a,by omega,d⟩⟩
 refine drK (q4d hb _ (cb hi2)) fun y3 i3 h3 hy3 hi3=>?_
 have h30:=hy3.1
 have h31:=hy3.2.1 (by dsimp only; omega)
 dsimp only at h31
 refine drK (q4d hb 14 (cb hi3)) fun y4 i4 h4 _ hi4=>?_
 have hk:y3.toNat < rs.length:=by omega
 dsimp only
 have same:Ok (fun r:Grammar × l1Cur=>GC2 r.1∧CB b r.2) (some ((⟨ss,rs⟩:Grammar),(⟨b,i4,h4⟩:l1Cur))):=⟨_,rfl,hG,hi4,rfl⟩
 refine .ite (fun _=>?_) fun _=>.ite (fun _=>?_) fun _=>.ite (fun _=>?_) fun _=>.ite (fun _=>?_) fun _=>.ite (fun _=>?_) fun _=>.ite (fun _=>?_) fun _=>.ite (fun _=>?_) fun _=>same
 ·exact drK (j8i hb hi4) fun r i5 h5 hr hi5=>.grd h30 (.get hk fun x hx=>⟨_,rfl,hG.set _ hr,hi5,rfl⟩)
 ·refine drK (j8j hb hi4) fun s i5 h5 hs hi5=>.get (by have:=g1.1; omega) fun x hx=>⟨_,rfl,⟨⟨by dsimp only; rw [List.length_set]; exact g1.1,by dsimp only; rw [List.length_set]; exact g1.2.1,fun a ha=>?_⟩,g2,g3,hG.2.2.2⟩,hi5,rfl⟩
  rcases List.mem_or_eq_of_mem_set ha with ha | ha
  ·exact g1.2.2 a ha
  ·rw [ha]; exact hs
 ·refine .get (by omega) fun x hx=>.grd h30 (.get hk fun r hr=>⟨_,rfl,hG.set _ ?_,hi4,rfl⟩)
  have a:=hG.2.2.2 r hr
  exact⟨⟨(g4 x hx).1.1,a.1.2.1,a.1.2.2.1,a.1.2.2.2⟩,a.2.1,a.2.2⟩
 ·refine .grd h30 (.get hk fun r hr=>.ite (fun h0=>.grd (by omega) ⟨_,rfl,hG.set _ ?_,hi4,rfl⟩) fun _=>same)
  have a:=hG.2.2.2 r hr
  exact⟨a.1,by have:=j6D r.Equations; have:=a.2.1; dsimp only; omega,a.2.2⟩
 ·refine .grd h30 (.get hk fun r hr=>.ite (fun h0=>?_) fun _=>same)
  have a:=g4 r hr
  have hl:=q6C r.Equations
  have a2:=a.2.1
  refine .get (by omega) fun x hx=>.grd (by constructor<;>omega) ⟨_,rfl,hG.set _ ⟨a.1,?_,a.2.2⟩,hi4,rfl⟩
  have:=j0a hx
  dsimp only
  rw [z5p]
  omega
 ·refine drK (z1n hb (by simp) (cb hi4)) fun z i5 h5 hz hi5=>.grd h30 (.get hk fun r hr=>⟨_,rfl,hG.set _ ?_,hi5,rfl⟩)
  have a:=hG.2.2.2 r hr
  refine⟨⟨a.1.1,?_,a.1.2.2.1,a.1.2.2.2⟩,a.2.1,a.2.2⟩
  simp only [List.mem_cons,List.not_mem_nil,or_false] at hz
  rcases hz with h | h<;>subst h<;>(try dsimp only)<;>decide
 ·refine .grd h30 (.get hk fun r hr=>.ite (fun h0=>?_) fun _=>same)
  refine drK (j6b hb (cb hi4)) fun e i5 h5 he hi5=>?_
  have he:Sz.szd e≤20480:=he
  have a:=g4 r hr
  have a2:=a.2.1
  refine .get (by omega) fun x hx=>⟨_,rfl,hG.set _ ⟨a.1,?_,a.2.2⟩,hi5,rfl⟩
  have h1:=j0a hx
  have h2:=j6C (⟨x.At,e⟩:Equation) r.Equations 0
  have h3:Sz.szd x=x.At.Name.size+Sz.szd x.Expr:=z8e x.At x.Expr
  rw [z8e] at h2
  dsimp only
  omega
end
theorem szR {r:Rule}(h:R2 r):Sz.szd r≤60300:=by
 have h1:=j1D (m:=8) h.1.2.2.2
 have:=h.1.2.2.1
 have:=h.1.1
 have:=h.1.2.1
 have:=h.2.1
 have:=h.2.2
 have h9:r.Right.length*(8+1)≤45:=by omega
 rw [z5f]; omega
theorem szS {s:Symbol}(h:SB s):Sz.szd s≤60:=by
 have h1:=j1D (m:=8) (l:=s.Attributes) fun a ha=>by rw [z9R]; exact h.2.2.2 a ha
 have:=h.2.2.1
 have:=h.1
 have h9:s.Attributes.length*(8+1)≤45:=by omega
 rw [z8X]; omega
theorem szG {g:Grammar}(h:GC2 g):Sz.szd g≤1048576:=by
 have h1:=j1D (m:=60) (l:=g.Symbols) fun s hs=>szS (h.1.2.2 s hs)
 have h2:=j1D (m:=60300) (l:=g.Rules) fun r hr=>szR (h.2.2.2 r hr)
 have h3:g.Symbols.length*(60+1)≤183:=by have:=h.1.2.1; omega
 have h4:g.Rules.length*(60300+1)≤482408:=by have:=h.2.2.1; omega
 rw [z2E]; omega
end Go.Proofs.YtibagkppfnjgcaaGreat
namespace Go.Proofs.YtibagkppfnjgcaaGreat
open Go Go.E
theorem j4X {α:Type}{nm:α→ByteArray}{xs:List α}(h:j2M nm xs=true):xs.Pairwise fun a b=>nm a≠nm b:=by
 unfold j2M at h
 rw [Option.isNone_iff_eq_none] at h
 rw [List.pairwise_iff_getElem]
 intro i j hi hj hij he
 have h1:=z2q xs [] h j xs[j] (List.getElem?_eq_getElem hj)
 unfold dupB at h1
 rw [List.nil_append,List.any_eq_false] at h1
 exact h1 xs[i] (List.mem_take_iff_getElem.2 ⟨i,by omega,rfl⟩) (by simpa using he)
theorem j6G {y:Symbol}(h:symB y=true){a:Attribute}(ha:a∈y.Attributes):z0u y a.Name=(a,true):=by
 unfold symB at h
 simp only [Bool.and_eq_true] at h
 have hd:=j4X h.2.2.2
 unfold z0u
 cases hf:y.Attributes.find? (fun b=>decide (b.Name=a.Name)) with
 | none=>rw [List.find?_eq_none] at hf; exact absurd (by simp) (hf a ha)
 | some b=>
  have hb:=List.mem_of_find?_eq_some hf
  have he:b.Name=a.Name:=by simpa using List.find?_some hf
  have:b=a:=by
   rcases List.getElem_of_mem hb with ⟨i,hi,rfl⟩
   rcases List.getElem_of_mem ha with ⟨j,hj,rfl⟩
   rw [List.pairwise_iff_getElem] at hd
   rcases Nat.lt_trichotomy i j with h | h | h
   ·exact absurd he (hd i j hi hj h)
   ·subst h; rfl
   ·exact absurd he.symm (hd j i hj hi h)
  rw [this]
theorem Shape.find {g:Grammar}(h:Shape g){r:Rule}(hr:r∈g.Rules){k:Nat}(hk:k < r.Right.length+1):Go.Proofs.YtibagkppfnjgcaaGreat.symB (q7c g (q9A r (k:Int))).1=true:=by
 have hb:=h.brk 3 (by omega) (by omega) r hr
 unfold z1F at hb
 rw [if_pos rfl] at hb
 simp only [Bool.not_eq_false'] at hb
 unfold z9f at hb
 rw [List.all_eq_true] at hb
 have h1:=hb k (by rw [List.mem_range'_1]; omega)
 unfold q7c at h1 ⊢
 cases hf:g.Symbols.find? (fun y=>decide (y.Name=q9A r (k:Int))) with
 | none=>rw [hf] at h1; cases h1
 | some y=>exact h.symB (List.mem_of_find?_eq_some hf)
theorem Shape.may {g:Grammar}(h:Shape g){r:Rule}(hr:r∈g.Rules){q:Equation}(hq:q∈r.Equations){u:Occurrence}(hu:u∈z5j q.Expr):mayB g r u=true∧u ∉ reqL g r:=by
 have hb:=h.brk 6 (by omega) (by omega) r hr
 unfold z1F at hb
 rw [if_neg (by omega),if_neg (by omega),if_neg (by omega)] at hb
 unfold misB at hb
 simp only [Bool.not_eq_false'] at hb
 rw [List.all_eq_true] at hb
 have h1:=hb q.Expr (by unfold z1E; rw [List.mem_append]; exact .inl (List.mem_map.2 ⟨q,hq,rfl⟩))
 unfold useB at h1
 rw [List.all_eq_true] at h1
 have hm:=h1 u hu
 refine⟨hm,fun hi=>?_⟩
 unfold reqL at hi
 obtain⟨k,hk,hi⟩:=List.mem_flatMap.1 hi
 rw [List.mem_range'_1] at hk
 unfold reqK at hi
 obtain⟨a,ha,rfl⟩:=List.mem_map.1 hi
 rw [List.mem_filter] at ha
 have hs:=h.find hr (k:=k) (by omega)
 unfold mayB q9B at hm
 rw [if_pos (by dsimp only; omega)] at hm
 dsimp only at hm
 rw [j6G hs ha.1] at hm
 have h2:=ha.2
 simp only [decide_eq_true_eq,Bool.and_eq_true] at h2 hm
 rw [h2] at hm
 by_cases h0:(k:Int)=0
 ·rw [if_pos h0,if_pos h0] at hm; omega
 ·rw [if_neg h0,if_neg h0] at hm; omega
theorem j9H (l:List Occurrence)(o:Occurrence):q7G l o=some (decide (o∈l)):=by
 unfold q7G q7P
 rw [z2p (q:=fun x=>decide (x=o)) (c:=fun k=>(k:Int)) fun k x hx=>by
  unfold z1l
  by_cases h:x=o
  ·rw [if_pos h,if_pos (by simpa using h)]
  ·rw [if_neg h,if_neg (by simpa using h)]]
 cases hf:l.findIdx? (fun x=>decide (x=o)) with
 | none=>
  rw [List.findIdx?_eq_none_iff] at hf
  rw [decide_eq_false (fun h=>by simpa using hf o h)]
  rfl
 | some j=>
  have hm:o∈l:=by
   rw [List.findIdx?_eq_some_iff_getElem] at hf
   obtain⟨hj,he,_⟩:=hf
   have:l[j]=o:=by simpa using he
   exact this▸List.getElem_mem hj
  rw [decide_eq_true hm]
  show some (decide (0≤((0+j:Nat):Int)))=some true
  rw [decide_eq_true (Int.natCast_nonneg _)]
end Go.Proofs.YtibagkppfnjgcaaGreat
namespace Go.Proofs.YtibagkppfnjgcaaGreat
open Go Go.E
theorem Ok.get' {α β:Type}{Q:β→Prop}{l:List α}{j:Nat}{k:α→Option β}(hj:j < l.length)(h:∀ x,l[j]? = some x→Ok Q (k x)):Ok Q ((l[j]?).bind k):=by
 obtain⟨x,hx⟩:∃ x,l[j]? = some x:=⟨_,List.getElem?_eq_getElem hj⟩
 rw [hx]; exact h x hx
theorem j3V {x:Equation}(e:Expr):∀ (l:List Equation) (j:Nat),l[j]? = some x→szL (l.set j (⟨x.At,e⟩:Equation))≤szL l+Sz.szd e
 | [],_,h=>by simp at h
 | y :: l,0,h=>by
  simp at h
  subst h
  have h3:Sz.szd y=y.At.Name.size+Sz.szd y.Expr:=z8e y.At y.Expr
  simp only [List.set,szL]
  rw [z8e]; omega
 | y :: l,j+1,h=>by
  have:=j3V e l j (by simpa using h)
  simp only [List.set,szL]; omega
theorem SBs.setA {l:List Symbol}(h:SBs l){x:Symbol}(hx:x∈l){a:Attribute}(ha:a∈x.Attributes)(p q:Nat):SBs (l.set p (⟨x.Name,x.Attributes.set q (⟨a.Name,a.Type_,a.Mode,true⟩:Attribute)⟩:Symbol)):=by
 have hs:=h.2.2 x hx
 refine⟨by rw [List.length_set]; exact h.1,by rw [List.length_set]; exact h.2.1,fun s hs'=>?_⟩
 rcases List.mem_or_eq_of_mem_set hs' with h1 | h1
 ·exact h.2.2 s h1
 ·rw [h1]
  refine⟨hs.1,by dsimp only; rw [List.length_set]; exact hs.2.1,by dsimp only; rw [List.length_set]; exact hs.2.2.1,fun c hc=>?_⟩
  rcases List.mem_or_eq_of_mem_set hc with h2 | h2
  ·exact hs.2.2.2 c h2
  ·rw [h2]; exact hs.2.2.2 a ha
theorem k0j (l:List Occurrence):∀ (m n1 n2:Nat),m < n1→m < n2→∀ (d:Int) (o:l1Cur),d≤m+1→q6q n1 l d o=q6q n2 l d o:=by
 intro m
 induction m with
 | zero=>
  intro n1 n2 h1 h2 d o hd
  obtain⟨n1,rfl⟩:∃ q,n1=q+1:=⟨n1 - 1,by omega⟩
  obtain⟨n2,rfl⟩:∃ q,n2=q+1:=⟨n2 - 1,by omega⟩
  show q6X (q6q n1) l d o=q6X (q6q n2) l d o
  unfold q6X
  simp only [if_pos (show d < 2 by omega)]
 | succ m ih=>
  intro n1 n2 h1 h2 d o hd
  obtain⟨n1,rfl⟩:∃ q,n1=q+1:=⟨n1 - 1,by omega⟩
  obtain⟨n2,rfl⟩:∃ q,n2=q+1:=⟨n2 - 1,by omega⟩
  show q6X (q6q n1) l d o=q6X (q6q n2) l d o
  have h:∀ o,q6q n1 l (d - 1) o=q6q n2 l (d - 1) o:=fun o=>ih n1 n2 (by omega) (by omega) (d - 1) o (by omega)
  unfold q6X
  simp only [h]
section
variable {b:List UInt8}(hb:b.length≤1048576)
include hb
theorem j8k (n t:Int):q5z n t=some (⟨1,n,0,t,(⟨#[]⟩:ByteArray),(⟨#[]⟩:ByteArray),[]⟩:Expr):=rfl
theorem j9I {l:List Occurrence}(hl:∀ o∈l,o.Name.size≤8):∀ (m n:Nat),m < n→∀ (d i h:Int),d≤m+1→-1000+m≤d→d≤1000→0≤i→Dr b (fun e=>Sz.szd e≤fb m) (q6q n l d ⟨b,i,h⟩):=by
 intro m
 induction m with
 | zero=>
  intro n hn d i h hd hd0 hd1 hi
  obtain⟨n,rfl⟩:∃ q,n=q+1:=⟨n - 1,by omega⟩
  show Dr b _ (q6X (q6q n) l d ⟨b,i,h⟩)
  unfold q6X
  rw [if_pos (show d < 2 by omega)]
  have hf:=z5X hb 0
  refine drK (z3J hb _ hl (cb hi)) fun e i1 h1 he hi1=>⟨_,rfl,?_,hi1,rfl⟩
  have he:Sz.szd e≤8:=he
  dsimp only
  omega
 | succ m ih=>
  intro n hn d i h hd hd0 hd1 hi
  obtain⟨n,rfl⟩:∃ q,n=q+1:=⟨n - 1,by omega⟩
  have hr1:∀ i h,0≤i→Dr b (fun e=>Sz.szd e≤fb m) (q6q n l (d - 1) ⟨b,i,h⟩):=fun i h hi=>ih n (by omega) (d - 1) i h (by omega) (by omega) (by omega) hi
  show Dr b _ (q6X (q6q n) l d ⟨b,i,h⟩)
  unfold q6X Dr
  dsimp only
  have hf:=z5X hb m
  have hg:=j2K hb m
  have hid:I64 (d - 1):=by constructor<;>omega
  repeat' first
   | ((with_reducible refine .bso ?_); try dsimp only)
   | ((with_reducible refine drK (z3J hb _ hl (cb (by assumption))) fun _ _ _ _ _=>?_); try dsimp only)
   | ((with_reducible refine drK (hr1 _ _ (by assumption)) fun _ _ _ _ _=>?_); try dsimp only)
   | ((with_reducible refine .eq (k0g _ _ _) ?_); try dsimp only)
   | ((with_reducible refine .eq (j8k hb _ _) ?_); try dsimp only)
   | ((with_reducible refine .grd hid ?_))
   | ((with_reducible refine .bbi ?_); try dsimp only)
   | (with_reducible refine .bif (fun _=>?_) fun _=>?_)
   | (with_reducible refine .ite (fun _=>?_) fun _=>?_)
   | ((with_reducible refine drK (q7w hb _ (cb (by assumption))) fun _ _ _ _ _=>?_); try dsimp only)
   | ((with_reducible refine drK (q8n hb (by simp) (cb (by assumption))) fun _ _ _ _ _=>?_); try dsimp only)
   | ((with_reducible refine drK (q4d hb _ (cb (by assumption))) fun _ _ _ _ _=>?_); try dsimp only)
   | (refine .bgr (by constructor<;>omega) ?_)
   | (refine .grd (by constructor<;>omega) ?_)
  all_goals refine⟨_,rfl,?_,by assumption,rfl⟩
  all_goals dsimp only at *
  all_goals first
   | (rw [j1r hb,z7W hb,q9z hb]; omega)
   | (rw [j1r hb,q9z hb]; omega)
   | omega
theorem k0k {l:List Occurrence}(hl:∀ o∈l,o.Name.size≤8)(d i h:Int)(h0:0≤d)(h3:d≤3)(hi:0≤i):Dr b (fun e=>Sz.szd e≤320) (z7k l d ⟨b,i,h⟩):=
 j2I (N:=3) (fun n hn=>k0j l 2 (n+1) n (by omega) (by omega) d _ (by omega)) (j9I hb hl 2 3 (by omega) d i h (by omega) (by omega) (by omega) hi)
theorem j4Y {p:Int}{l:List Symbol}(hp0:0≤p)(hp:p < l.length)(hl:SBs l){i h:Int}(hi:0≤i)(o1 o2:Int):Ok (fun s:Int × Int × List Symbol=>0≤s.1∧SBs s.2.2∧s.2.2.length=l.length) (q5m (z4t ⟨b,o1,o2⟩ p) (0,i,h,l)):=by
 refine z2J (P:=fun s:Int × Int × Int × List Symbol=>0≤s.1∧0≤s.2.1∧SBs s.2.2.2∧s.2.2.2.length=l.length) (fun s=>(6 - s.1).toNat) ?_ _ ⟨Int.le_refl _,hi,hl,rfl⟩
 rintro⟨k,i1,h1,q⟩ ⟨a1,a2,a3,a4⟩
 dsimp only at a1 a2 a3 a4
 unfold z4t
 dsimp only
 refine .grd hp0 (.get (by omega) fun x1 hx1=>?_)
 have hs:=a3.2.2 x1 hx1
 refine .ite (fun hk=>?_) fun _=>.ret ⟨a2,a3,a4⟩
 have h5:=hs.2.2.1
 refine Ok.bind (Q:=fun s:List Symbol × Int × Int=>0≤s.2.1∧SBs s.1∧s.1.length=l.length) ?_ fun s hs'=>.grd (by constructor<;>omega) (.ret ⟨⟨by dsimp only; omega,hs'.1,hs'.2.1,hs'.2.2⟩,by dsimp only; omega⟩)
 refine .grd a1 (.get (by omega) fun x2 hx2=>.ite (fun _=>?_) fun _=>.ret ⟨a2,a3,a4⟩)
 refine drK (q7w hb _ (cb a2)) fun y i2 h2 _ hi2=>.ite (fun _=>.ret ⟨hi2,a3,a4⟩) fun _=>.ret ⟨hi2,a3.setA hx1 hx2 _ _,by dsimp only; rw [List.length_set]; exact a4⟩
theorem j8l {ss:List Symbol}{rs:List Rule}(hS:SBs ss){x:Rule}(hx:R1 x)(y:List Occurrence){i h:Int}(hi:0≤i)(o1 o2:Int):Ok (fun s:Int × Int × List Equation=>0≤s.1∧szL s.2.2≤60000) (q5m (z4u ⟨b,o1,o2⟩ ss rs x y) (0,i,h,x.Equations)):=by
 obtain⟨x1,⟨x2,x3⟩,x4⟩:=hx
 refine z2J (P:=fun s:Int × Int × Int × List Equation=>0≤s.1∧s.1≤x.Equations.length∧0≤s.2.1∧s.2.2.2.length=x.Equations.length∧(szL s.2.2.2:Int)≤12000+320*s.1) (fun s=>(x.Equations.length - s.1).toNat) ?_ _ ⟨Int.le_refl _,by dsimp only; omega,hi,rfl,by dsimp only; omega⟩
 rintro⟨k,i1,h1,q⟩ ⟨a1,a2,a3,a4,a5⟩
 dsimp only at a1 a2 a3 a4 a5
 unfold z4u
 dsimp only
 refine .ite (fun hk=>?_) fun _=>.ret ⟨a3,by dsimp only; omega⟩
 refine Ok.bind (Q:=fun s:Int × Int × List Equation=>0≤s.1∧s.2.2.length=x.Equations.length∧(szL s.2.2:Int)≤12000+320*(k+1)) ?_ fun s hs=>.grd (by constructor<;>omega) (.ret ⟨⟨by dsimp only; omega,by dsimp only; omega,hs.1,hs.2.1,hs.2.2⟩,by dsimp only; omega⟩)
 refine .grd a1 (Ok.get' (by omega) fun z hz=>.eq (j0g _ _) (.ite (fun _=>?_) fun _=>.ret ⟨a3,a4,by dsimp only; omega⟩))
 refine drK (q7w hb _ (cb a3)) fun y5 i2 h2 _ hi2=>.ite (fun _=>.ret ⟨hi2,a4,by dsimp only; omega⟩) fun _=>?_
 refine .bind (j6A (g:=⟨ss,rs⟩) hS (r:=⟨x.Name,x.Left,x.Right,x.Literal,q,x.Contributions⟩) x1.2.2.1 _) fun y6 hy6=>?_
 refine drK (k0k hb hy6 _ _ _ (by omega) (by omega) hi2) fun e i3 h3 he hi3=>.ret ⟨hi3,by dsimp only; rw [List.length_set]; exact a4,?_⟩
 have h1:=j3V e q k.toNat hz
 have he:Sz.szd e≤320:=he
 dsimp only
 omega
theorem j6H {i h:Int}(hi:0≤i):Dr b GC2 (z2c ⟨b,i,h⟩):=by
 unfold z2c
 refine drK (j1E hb true hi) fun g i1 h1 hg hi1=>?_
 obtain⟨ss,rs⟩:=g
 obtain⟨g1,g2,g3,g4⟩:=hg
 dsimp only at g1 g2 g3 g4 ⊢
 refine Ok.bind (Q:=fun s:Int × Int × List Symbol=>0≤s.1∧SBs s.2.2) (z2J (P:=fun s:Int × Int × Int × List Symbol=>0≤s.1∧s.1≤ss.length∧0≤s.2.1∧SBs s.2.2.2∧s.2.2.2.length=ss.length) (fun s=>(ss.length - s.1).toNat) ?_ _ ⟨Int.le_refl _,by dsimp only; omega,hi1,g1,rfl⟩) ?_
 ·rintro⟨p,i2,h2,l⟩ ⟨a1,a2,a3,a4,a5⟩
  dsimp only at a1 a2 a3 a4 a5
  unfold z7l
  dsimp only
  refine .ite (fun hp=>?_) fun _=>.ret ⟨a3,a4⟩
  have hl3:=g1.2.1
  exact Ok.bind (j4Y hb a1 hp a4 a3 i h) fun s hs=>.grd (by constructor<;>omega) (.ret ⟨⟨by dsimp only; omega,by dsimp only; omega,hs.1,hs.2.1,by dsimp only; rw [hs.2.2]; exact a5⟩,by dsimp only; omega⟩)
 rintro⟨i2,h2,l⟩ ⟨b1,b2⟩
 dsimp only at b1 b2 ⊢
 refine Ok.bind (Q:=fun s:Int × Int × List Rule=>0≤s.1∧s.2.2.length=rs.length∧∀ r∈s.2.2,R2 r) (z2J (P:=fun s:Int × Int × Int × List Rule=>0≤s.1∧s.1≤rs.length∧0≤s.2.1∧s.2.2.2.length=rs.length∧∀ (k:Nat) x,s.2.2.2[k]? = some x→R2 x∧(s.1≤(k:Int)→R1 x)) (fun s=>(rs.length - s.1).toNat) ?_ _ ⟨Int.le_refl _,by dsimp only; omega,b1,rfl,fun k x hx=>?_⟩) ?_
 ·rintro⟨p,i3,h3,q⟩ ⟨a1,a2,a3,a4,a5⟩
  dsimp only at a1 a2 a3 a4 a5
  unfold z7m
  dsimp only
  refine .ite (fun hp=>?_) fun _=>.ret ⟨a3,a4,fun r hr=>?_⟩
  ·refine .grd a1 (Ok.get' (by omega) fun x hx=>?_)
   have hx1:=(a5 _ _ hx).2 (by omega)
   refine .eq (j0l (g:=⟨l,q⟩) b2.g hx1.1.rok).1 ?_
   refine Ok.bind (j8l hb b2 hx1 _ a3 i h) fun s hs=>.grd (by constructor<;>omega) (.ret ⟨⟨by dsimp only; omega,by dsimp only; omega,hs.1,by dsimp only; rw [List.length_set]; exact a4,fun k y hk=>?_⟩,by dsimp only; omega⟩)
   dsimp only at hk ⊢
   rw [List.getElem?_set] at hk
   by_cases e:p.toNat=k
   ·rw [if_pos e] at hk
    split at hk
    ·cases hk; exact⟨⟨hx1.1,hs.2,hx1.2.2⟩,fun h=>by omega⟩
    ·cases hk
   ·rw [if_neg e] at hk
    exact⟨(a5 _ _ hk).1,fun h=>(a5 _ _ hk).2 (by omega)⟩
  ·obtain⟨k,hk⟩:=List.getElem?_of_mem hr
   exact (a5 _ _ hk).1
 ·have hx1:=g4 x (List.mem_of_getElem? hx)
  exact⟨⟨hx1.1,by have:=hx1.2.1; omega,hx1.2.2⟩,fun _=>hx1⟩
 ·rintro⟨s1,s2,s3⟩ ⟨c1,c2,c3⟩
  exact⟨_,rfl,⟨b2,by dsimp only at c2 ⊢; omega,by dsimp only at c2 ⊢; omega,c3⟩,c1,rfl⟩
theorem j6I:Ok GC2 (q6r b):=by
 unfold q6r
 obtain⟨z,hz,hz1,hz2⟩:=k0b hb
 obtain⟨zb,zi,zh⟩:=z
 dsimp only at hz1 hz2
 subst hz2
 refine .eq hz ?_
 refine drK (q7w hb _ (cb hz1)) fun y i1 h1 _ hi1=>.ite (fun _=>?_) fun _=>?_
 ·exact drK (j6F hb hi1) fun g i2 h2 hg hi2=>.ret hg
 ·exact drK (j6H hb hi1) fun g i2 h2 hg hi2=>.ret hg
end
theorem j3W {α ρ:Type}{f:Nat→α→Unit→Option (Unit ⊕ ρ)}:∀ (xs:List α) (i:Nat),(∀ k x,xs[k]? = some x→f (i+k) x ()=some (.inl ()))→findL f i xs ()=some (.inl ())
 | [],_,_=>rfl
 | x :: xs,i,h=>by
  have h0:=h 0 x rfl
  rw [Nat.add_zero] at h0
  rw [findL,h0]
  exact j3W xs (i+1) fun k y hk=>by rw [show i+1+k=i+(k+1) by omega]; exact h (k+1) y hk
theorem j8m (l:List Occurrence):q6L l l=some true:=by
 unfold q6L
 rw [if_pos rfl,j3W l 0 fun k x hk=>by
  unfold z1k
  rw [Nat.zero_add,hk,Option.bind_some,if_pos rfl],Option.bind_some]
 rfl
theorem j6J (a:List UInt8):q9w a=some true:=by
 unfold q9w j3F
 rw [Option.bind_some]
 by_cases hb:1048576 < (a.length:Int)
 ·rw [if_pos (by simpa using hb)]
 rw [if_neg (by simpa using hb)]
 have hb:a.length≤1048576:=by omega
 obtain⟨g,e,hg⟩:=j6I hb
 have hG:=szG hg
 rw [e,Option.bind_some,j8d hG,Option.bind_some,j8c hG,Option.bind_some,if_pos rfl]
 have hn:=(j0e hG).2
 have hgd:z7Q g=some (z8c g):=by
  unfold z7Q
  rw [j3Q hG,Option.bind_some]; rfl
 by_cases h:j4W g=true
 ·rw [h]
  have hw:=h
  unfold j4W at hw
  simp only [Bool.and_eq_true,List.all_eq_true] at hw
  have e:=j0f (c:=false) (q:=fun _=>true) (n:=g.Rules.length) (f:=q5R g true) (fun k hk=>by
   have hr:g.Rules[k]∈g.Rules:=List.getElem_mem hk
   have hR:=Nat.le_trans (z1P hr) hG
   have hc:=j0l (z3L hG) (q7x hR)
   have hm:=(hw.2.2 g.Rules[k] hr).1
   unfold z8z at hm
   rw [List.all_eq_true] at hm
   unfold q5R
   rw [if_pos (by omega),Option.bind_some,if_pos rfl,q3o (by omega),show ((k:Int)).toNat=k from rfl,List.getElem?_eq_getElem hk,Option.bind_some,hc.2,Option.bind_some,hc.1,Option.bind_some,j8m,Option.bind_some,if_pos rfl,q3O (c:=false) (q:=fun _=>true) fun i q hq=>by
    have hmq:=hm q hq
    unfold z2U
    rw [j9H,Option.bind_some]
    by_cases hi:q.At∈z4h g g.Rules[k]
    ·rw [decide_eq_true hi,Bool.not_true,Bool.false_or] at hmq
     rw [decide_eq_true hi,if_pos rfl,j3T (Nat.le_trans (z2H hq) hR),Option.bind_some,hmq,if_pos rfl,if_pos rfl]
    ·rw [decide_eq_false hi,if_neg (by decide),if_pos rfl],if_pos (by simp),Option.bind_some,q9E,q3o (by constructor<;>omega),if_pos rfl]; rfl) (by
   unfold q5R; rw [if_neg (by omega)]; rfl) g.Rules.length 0 (by omega)
  rw [show q5m (q5R g true) 0=_ from e,if_pos (by simp),Option.bind_some,q9E,if_pos rfl,hgd,hw.1]
  rfl
 ·rw [Bool.not_eq_true] at h
  rw [h]
  have e:q5m (q5R g false) 0=some (.inl ()):=q4u (by
   unfold q5R
   rw [ite_self]; rfl)
  rw [e,Option.bind_some]
  rfl
end Go.Proofs.YtibagkppfnjgcaaGreat
