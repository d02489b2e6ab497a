/- What those partial functions come to: plain lemmas on data; each bears its conditions in its statement. -/
import Derived.Test.YtgkepiefcpfimaaGreatDoorMath5
set_option linter.unusedVariables false
set_option linter.unusedSimpArgs false
set_option linter.ambiguousOpen false
set_option linter.unusedSectionVars false
set_option linter.unnecessarySimpa false
open List renaming mem_of_mem_take→Eyz,mem_cons→Dsz,not_mem_nil→Daz,length_take→Brz,mem_append→Ciz,mem_of_getElem?→Bvz,getElem?_eq_getElem→Cmz,set→Doz,length_set→Clz,getElem?_set→Cjz,getElem?_of_mem→Emz,mem_or_eq_of_mem_set→Ezz,getD_eq_getElem?_getD→Cwz,replicate→Bqz,pairwise_iff_getElem→Faz,mem_of_find?_eq_some→Eaz,getElem_of_mem→Fbz,all_eq_true→Eiz,mem_range'_1→Fcz,drop_eq_nil_of_le→Dez,drop_eq_getElem_cons→Csz,getElem?_replicate→Fdz,drop_zero→Fez,mem_replicate→Ffz,getElem?_eq_none→Avz,any_eq_true→Egz,not_any_eq_all_not→Ekz
open Int renaming le_refl→Fgz,natCast_nonneg→Dpz
open Nat renaming le_trans→Bgz,two_pow_pos→Fhz,testBit_two_pow→Fiz,lt_trichotomy→Fjz,le_refl→Acz
open Option renaming getD_some→Cbz
open Bool renaming or_eq_true→Agz,and_eq_true→Afz,not_eq_false'→Fkz
namespace Go.Proofs.YtgkepiefcpfimaaGreatDoor
open Go Go.E
def R0 (r:Rule):Prop:=RB r∧r.es_=[]∧r.cs_=[]
def R1 (r:Rule):Prop:=RB r∧(szL r.es_≤12000∧r.es_.length≤30)∧szL r.cs_≤200
theorem R0.r1 {r:Rule}(h:R0 r):R1 r:=⟨h.1,⟨by rw[h.2.1];simp[szL],by rw[h.2.1];simp⟩,by rw[h.2.2];simp[szL]⟩
def GB (g:Gm_):Prop:=SBs g.ss_∧1≤g.rs_.length∧g.rs_.length≤8∧∀ r∈g.rs_,R1 r
theorem stu {x:BA_}{n:Nat}(h:x∈[(⟨#[115]⟩:BA_),(⟨#[116]⟩:BA_),(⟨#[117]⟩:BA_)].take n):x.size=1:=by
 have h:=Eyz h
 simp only[Dsz,Daz,or_false] at h
 rcases h with h|h|h<;>rw[h]<;>rfl
theorem bsz (x y:BA_):(x++y).size=x.size+y.size:=ByteArray.size_append
section
variable {b:List UInt8}(hb:b.length≤1048576)
include hb
theorem j8q (pl:Bool){i h:Int}(hi:0≤i):Dr b GB (z4e pl ⟨b,i,h⟩):=by
 unfold z4e
 refine drK (q5d hb 3 (cb hi)) fun y i1 h1 hy hi1=>?_
 have h3:=hy.2.1 (by omega)
 have h0:=hy.1
 dsimp only
 refine .grd (by constructor<;>omega) (.grd (by omega) (.grd (by simp;omega) ?_))
 have hlen:([(⟨#[115]⟩:BA_),(⟨#[116]⟩:BA_),(⟨#[117]⟩:BA_)].take ((1+y).toNat)).length=(1+y).toNat:=by rw[Brz];simp;omega
 refine j9S (fun k (l:List Symbol)=>l.length=k∧∀ s∈l,SB s) hi1 ⟨rfl,by simp⟩ (fun j l i h hj hi hl=>?_) fun syms i2 h2 hi2 hsyms=>?_
 ·unfold j2T
  dsimp only
  refine .get (by rw[hlen];exact hj) fun x hx=>?_
  have hx:=stu hx
  refine drK (k7g hb (by omega) _ _ hi) fun s i1 h1 hs hi1=>?_
  refine .grd (by have:=hl.1;constructor<;>omega) (.ret ⟨hi1,by simp[hl.1],fun a ha=>?_⟩)
  simp only[Ciz,Dsz,Daz,or_false] at ha
  rcases ha with ha|ha
  ·exact hl.2 a ha
  ·rw[ha];exact hs
 have hS:SBs syms:=⟨by rw[hsyms.1];omega,by rw[hsyms.1];omega,hsyms.2⟩
 dsimp only
 refine j9S (fun k (l:List Rule)=>k≤l.length∧l.length≤3*k∧∀ r∈l,R0 r) hi2 ⟨by simp,by simp,by simp⟩ (fun j l i h hj hi hl=>?_) fun rules i3 h3 hi3 hr=>?_
 ·unfold j2W
  dsimp only
  refine .get (by rw[hlen];exact hj) fun x hx=>?_
  have hx:=stu hx
  refine .grd (by rw[hx];decide) ?_
  refine drK (z0Q hb _ (cb hi)) fun y3 i1 h1 _ hi1=>?_
  have hl1:=hl.1
  have hl2:=hl.2.1
  refine .grd (by constructor<;>omega) ?_
  refine drK (q5d hb 2 (cb hi1)) fun y4 i4 h4 hy4 hi4=>?_
  have h42:=hy4.2.1 (by omega)
  have h40:=hy4.1
  refine .grd (by constructor<;>omega) ?_
  dsimp only
  refine j9S (fun k (q:List Rule)=>q.length=l.length+1+k∧∀ r∈q,R0 r) hi4 ⟨by simp,fun a ha=>?_⟩ (fun j2 q i h hj2 hi hq=>?_) fun q i6 h6 hi6 hq=>?_
  ·simp only[Ciz,Dsz,Daz,or_false] at ha
   rcases ha with ha|ha
   ·exact hl.2.2 a ha
   ·rw[ha]
    exact⟨⟨by dsimp only;rw[bsz,hx];decide,by dsimp only;omega,by simp,by simp⟩,rfl,rfl⟩
  ·unfold j2V
   dsimp only
   refine .grd (by rw[hx];decide) ?_
   refine .bind (k9n (by omega)) fun nm hnm=>?_
   refine .grd (by rw[bsz,hx];have:(⟨#[112]⟩:BA_).size=1:=rfl;omega) ?_
   refine drK (z0Q hb _ (cb hi)) fun y6 i1 h1 _ hi1=>?_
   refine drK (q5d hb 3 (cb hi1)) fun y7 i7 h7 hy7 hi7=>?_
   have h72:=hy7.2.1 (by omega)
   have h70:=hy7.1
   refine .grd (by constructor<;>omega) ?_
   dsimp only
   refine j9S (fun k (q:List BA_)=>q.length=k∧∀ x∈q,x.size≤8) hi7 ⟨rfl,by simp⟩ (fun j4 q4 i h hj4 hi hq4=>?_) fun q4 i8 h8 hi8 hq4=>?_
   ·unfold j2U
    dsimp only
    refine drK (z4W hb (by intro h;have:=congrArg List.length h;rw[hlen] at this;simp at this;omega) (cb hi)) fun z i1 h1 hz hi1=>?_
    have hz:=stu hz
    refine .grd (by have:=hq4.1;constructor<;>omega) (.ret ⟨hi1,by simp[hq4.1],fun a ha=>?_⟩)
    simp only[Ciz,Dsz,Daz,or_false] at ha
    rcases ha with ha|ha
    ·exact hq4.2 a ha
    ·rw[ha];omega
   ·have hq41:=hq4.1
    have hq1:=hq.1
    refine .grd (by constructor<;>omega) (.ret ⟨hi8,by simp;omega,fun a ha=>?_⟩)
    simp only[Ciz,Dsz,Daz,or_false] at ha
    rcases ha with ha|ha
    ·exact hq.2 a ha
    ·rw[ha]
     exact⟨⟨by dsimp only;rw[bsz,bsz,hx];have:(⟨#[112]⟩:BA_).size=1:=rfl;omega,by dsimp only;omega,by dsimp only;omega,hq4.2⟩,rfl,rfl⟩
  ·exact .ret ⟨hi6,by dsimp only;have:=hq.1;omega,by dsimp only;have:=hq.1;omega,hq.2⟩
 dsimp only
 have hr1:=hr.1
 have hr2:=hr.2.1
 have key:∀ rs:List Rule,1≤rs.length→rs.length≤8→(∀ r∈rs,R0 r)→Ok (fun r=>GB r.1∧CB b r.2) ((q4D (z8W pl ⟨b,i,h⟩ syms) (0,i3,h3,rs)).bind fun (s14,s15,s16)=>some ((⟨syms,s16⟩:Gm_),(⟨b,s14,s15⟩:L1_))):=by
  intro rs g1 g2 g3
  refine Ok.bind (Q:=fun s:Int×Int×List Rule=>0≤s.1∧s.2.2.length=rs.length∧∀ r∈s.2.2,R1 r) (j6K (P:=fun s:Int×Int×Int×List Rule=>0≤s.1∧s.1≤rs.length∧0≤s.2.1∧s.2.2.2.length=rs.length∧∀ (k:Nat) x,s.2.2.2[k]?=some x→R1 x∧(s.1≤(k:Int)→R0 x)) (fun s=>(rs.length-s.1).toNat) ?_ _ ⟨Fgz _,by dsimp only;omega,hi3,rfl,fun k x hx=>⟨(g3 x (Bvz hx)).r1,fun _=>g3 x (Bvz hx)⟩⟩) ?_
  ·rintro⟨p,i5,h5,q⟩ ⟨a1,a2,a3,a4,a5⟩
   dsimp only at a1 a2 a3 a4 a5
   unfold z8W
   dsimp only
   refine .ite (fun hp=>?_) fun _=>.ret ⟨a3,a4,fun r hr=>?_⟩
   ·obtain⟨x,hx⟩:∃ x,q[p.toNat]?=some x:=⟨_,Cmz (by omega)⟩
    have hx0:=(a5 _ _ hx).2 (by omega)
    rw[hx]
    have fin:∀ (y:Rule) (i' h' : Int),R1 y→0≤i'→(0≤p+1∧p+1≤rs.length∧0≤i'∧(Doz q p.toNat y).length=rs.length∧∀ (k:Nat) x,(Doz q p.toNat y)[k]?=some x→R1 x∧(p+1≤(k:Int)→R0 x))∧(rs.length-(p+1)).toNat<(rs.length-p).toNat:=fun y i' h' hy hi'=>by
     refine⟨⟨by omega,by omega,hi',by rw[Clz];exact a4,fun k x hk=>?_⟩,by omega⟩
     rw[Cjz] at hk
     by_cases e:p.toNat=k
     ·rw[ifP e] at hk
      split at hk
      ·cases hk;exact⟨hy,fun h=>by omega⟩
      ·cases hk
     ·rw[ifN e] at hk
      exact⟨(a5 _ _ hk).1,fun h=>(a5 _ _ hk).2 (by omega)⟩
    refine .bgr a1 (.bbi (.bso ?_))
    refine .bbi (drK (k8E hb (g:=⟨syms,q⟩) hS hx0.1 hx0.2.1 _ a3) fun y i6 h6 hy hi6=>?_)
    obtain⟨b1,b2,b3⟩:=hy
    rw[hx0.2.2] at b3
    dsimp only
    refine .bif (fun _=>.bso ?_) fun _=>?_
    ·exact .grd (by constructor<;>omega) (.ret (fin _ _ h6 ⟨b1,b2,by rw[b3];simp[szL]⟩ hi6))
    ·refine .bbi (drK (k9m hb (g:=⟨syms,q⟩) hS b1 b3 hi6) fun y2 i7 h7 hy2 hi7=>?_)
     refine .bso ?_
     exact .grd (by constructor<;>omega) (.ret (fin _ _ h7 ⟨hy2.1,by rw[hy2.2.1];exact b2,hy2.2.2⟩ hi7))
   ·obtain⟨k,hk⟩:=Emz hr
    exact (a5 _ _ hk).1
  ·rintro⟨s1,s2,s3⟩ ⟨c1,c2,c3⟩
   exact⟨_,rfl,⟨hS,by dsimp only at c2 ⊢;omega,by dsimp only at c2 ⊢;omega,c3⟩,c1,rfl⟩
 refine .bif (fun h8=>.bgr (by omega) (.bso ?_)) fun h8=>.bso ?_
 ·exact key _ (by rw[Brz];omega) (by rw[Brz];omega) fun r hr'=>hr.2.2 r (Eyz hr')
 ·exact key _ (by omega) (by omega) hr.2.2
end
theorem k4t {α:Type}[Sz α](x:α):∀ (l:List α) (j:Nat),szL (l.set j x)≤szL l+Sz.szd x
 | [],_=>by simp[szL]
 | y::l,0=>by simp only[Doz,szL];omega
 | y::l,j+1=>by have:=k4t x l j;simp only[Doz,szL];omega
theorem k4u {α:Type}[Sz α](l:List α):szL (l.drop 1)≤szL l:=by
 cases l with
 | nil=>simp
 | cons x l=>simp only[List.drop,szL];omega
theorem j5t (a:Int):∀ (l:List Expr) (i:Nat),(∀ x∈l,∃ v,∀ m,fuE x≤m→q8d m x a=some v)→∃ r,∀ m,(∀ x∈l,fuE x≤m)→findL (z0l (q8d m) a) i l ()=some r
 | [],i,_=>⟨.inl (),fun m _=>rfl⟩
 | x::l,i,h=>by
  obtain⟨v,hv⟩:=h x (by simp)
  obtain⟨r,hr⟩:=j5t a l (i+1) fun y hy=>h y (by simp[hy])
  cases v with
  | true=>
   refine⟨r,fun m hm=>?_⟩
   have h1:=hr m fun y hy=>hm y (by simp[hy])
   have h2:z0l (q8d m) a i x ()=some (.inl ()):=by unfold z0l;rw[hv m (hm x (by simp))];rfl
   rw[findL,h2];exact h1
  | false=>
   refine⟨.inr false,fun m hm=>?_⟩
   have h2:z0l (q8d m) a i x ()=some (.inr false):=by unfold z0l;rw[hv m (hm x (by simp))];rfl
   rw[findL,h2];rfl
theorem k4v (e:Expr)(a:Int):∃ v,z6y e a=some v:=by
 have key:∀ e:Expr,∃ v,∀ m,fuE e≤m→q8d m e a=some v:=by
  intro e
  induction e using z1f with
  | h e ih=>
   obtain⟨r,hr⟩:=j5t a e.Args 0 ih
   have:∃ v,∀ m,fuE e≤m+1→z0m (q8d m) e a=some v:=by
    cases r with
    | inl u=>exact⟨_,fun m hm=>by unfold z0m;rw[hr m fun x hx=>by have:=z5p hx;omega];rfl⟩
    | inr q=>exact⟨_,fun m hm=>by unfold z0m;rw[hr m fun x hx=>by have:=z5p hx;omega];rfl⟩
   obtain⟨v,hv⟩:=this
   refine⟨v,fun m hm=>?_⟩
   obtain⟨m,rfl⟩:∃ q,m=q+1:=⟨m-1,by have:=z6l e;omega⟩
   exact hv m hm
 obtain⟨v,hv⟩:=key e
 exact⟨v,z0K (fuE e) hv⟩
def R2 (r:Rule):Prop:=RB r∧szL r.es_≤60000∧szL r.cs_≤200
def GC2 (g:Gm_):Prop:=SBs g.ss_∧1≤g.rs_.length∧g.rs_.length≤8∧∀ r∈g.rs_,R2 r
theorem SB.set {s:Symbol}(h:SB s){x:At_}(hx:x.Name.size≤8):SB ⟨s.Name,Doz s.as_ 0 x⟩:=by
 refine⟨h.1,by dsimp only;rw[Clz];exact h.2.1,by dsimp only;rw[Clz];exact h.2.2.1,fun a ha=>?_⟩
 rcases Ezz ha with ha|ha
 ·exact h.2.2.2 a ha
 ·rw[ha];exact hx
theorem GC2.set {ss:List Symbol}{rs:List Rule}(h:GC2 ⟨ss,rs⟩)(k:Nat){x:Rule}(hx:R2 x):GC2 ⟨ss,rs.set k x⟩:=by
 refine⟨h.1,by dsimp only;rw[Clz];exact h.2.1,by dsimp only;rw[Clz];exact h.2.2.1,fun a ha=>?_⟩
 rcases Ezz ha with ha|ha
 ·exact h.2.2.2 a ha
 ·rw[ha];exact hx
section
variable {b:List UInt8}(hb:b.length≤1048576)
include hb
theorem k6v {e:Expr}{n:Nat}(h:Sz.szd e≤n)(hn:n≤1048576)(a:Int):Ok (fun _=>True) (z0U e a):=by
 unfold z0U
 refine .eq (j0n (by have:=k3G hb h;omega)) ?_
 obtain⟨v,hv⟩:=k4v e a
 exact .ite (fun _=>.eq hv (.ret trivial)) fun _=>.ret trivial
theorem k6w {i h:Int}(hi:0≤i):Dr b (fun r=>RB r∧r.rt_.length≤3∧szL r.es_≤1200∧szL r.cs_≤200) (z7s ⟨b,i,h⟩):=by
 unfold z7s
 refine drK (z4W hb (by simp) (cb hi)) fun y1 i1 h1 hy1 hi1=>?_
 refine drK (z4W hb (by simp) (cb hi1)) fun y2 i2 h2 hy2 hi2=>?_
 refine drK (z0Q hb _ (cb hi2)) fun y3 i3 h3 _ hi3=>?_
 refine drK (q5d hb 4 (cb hi3)) fun y4 i4 h4 hy4 hi4=>?_
 have h44:=hy4.2.1 (by omega)
 have h40:=hy4.1
 have n1:y1.size≤8:=by
  simp only[Dsz,Daz,or_false] at hy1
  rcases hy1 with h|h|h<;>subst h<;>(try dsimp only)<;>decide
 have n2:y2.size≤8:=by
  simp only[Dsz,Daz,or_false] at hy2
  rcases hy2 with h|h<;>subst h<;>(try dsimp only)<;>decide
 dsimp only
 refine j9S (fun k (q:List BA_)=>q.length=k∧∀ x∈q,x.size≤8) hi4 ⟨rfl,by simp⟩ (fun j4 q4 i h hj4 hi hq4=>?_) fun q4 i8 h8 hi8 hq4=>?_
 ·unfold j4Y
  dsimp only
  refine drK (z4W hb (by simp) (cb hi)) fun z i1 h1 hz hi1=>?_
  refine .grd (by have:=hq4.1;constructor<;>omega) (.ret ⟨hi1,by simp[hq4.1],fun a ha=>?_⟩)
  simp only[Ciz,Dsz,Daz,or_false] at ha hz
  rcases ha with ha|ha
  ·exact hq4.2 a ha
  ·rw[ha];rcases hz with h|h|h<;>subst h<;>(try dsimp only)<;>decide
 ·refine drK (q5d hb 4 (cb hi8)) fun y6 i6 h6 hy6 hi6=>?_
  have h64:=hy6.2.1 (by omega)
  dsimp only
  refine j9S (fun k (q:List Eqn)=>q.length≤k∧szL q≤k*400) hi6 ⟨by simp,by simp[szL]⟩ (fun j q i h hj hi hq=>?_) fun q i9 h9 hi9 hq=>?_
  ·have hq1:=hq.1
   have hq2:=hq.2
   unfold j4Z
   dsimp only
   refine .bbi (drK (q5d hb 3 (cb hi)) fun y7 i7 h7 hy7 hi7=>?_)
   have h73:=hy7.2.1 (by omega)
   have h70:=hy7.1
   refine .bgr (by constructor<;>omega) (.bbi (drK (k3F hb 2 (by omega) (by omega) (by omega) (cb hi7)) fun e i8 h8 he hi8=>?_))
   have he:Sz.szd e≤320:=he
   refine .bbi (.bind (k6v hb he (by omega) y4) fun v _=>?_)
   refine .bif (fun _=>?_) fun _=>.bso (.ret ⟨hi8,Bgz hq1 (Nat.le_succ _),Bgz hq2 (Nat.mul_le_mul_right 400 (Nat.le_succ j))⟩)
   refine .bgr (by constructor<;>omega) (.bbi (drK (q5d hb _ (cb hi8)) fun y10 i9 h9 _ hi9=>?_))
   refine .bbi (drK (j9B hb (cb hi9)) fun nm i10 h10 hnm hi10=>?_)
   refine .bgr (by constructor<;>omega) (.bso (.ret ⟨hi10,by dsimp only;simp;omega,?_⟩))
   dsimp only
   rw[j0t,j8p]
   have hnm:nm.size=1:=hnm
   dsimp only
   omega
  ·have hq2:=hq.2
   have hR:RB ⟨y1,y2,q4,y3,q,[]⟩:=⟨n1,n2,by have:=hq4.1;dsimp only;omega,hq4.2⟩
   refine drK (z0Q hb _ (cb hi9)) fun y12 i12 h12 _ hi12=>?_
   refine .ite (fun _=>?_) fun _=>⟨_,rfl,⟨hR,by have:=hq4.1;dsimp only;omega,by dsimp only;omega,by simp[szL]⟩,hi12,rfl⟩
   refine drK (q5d hb _ (cb hi12)) fun y13 i13 h13 _ hi13=>?_
   refine .eq rfl ?_
   refine .grd (by simp only[List.length_nil];constructor<;>omega) ⟨_,rfl,⟨hR,by have:=hq4.1;dsimp only;omega,by dsimp only;omega,?_⟩,hi13,rfl⟩
   dsimp only
   rw[List.nil_append]
   show 1+Sz.szd (⟨(⟨#[115]⟩:BA_),(⟨#[99]⟩:BA_),_,_⟩:Cn)+0≤200
   rw[k7h,j5k hb,j5k hb,z4b hb]
   decide
theorem k6x {i h:Int}(hi:0≤i):Dr b R2 (z7u ⟨b,i,h⟩):=by
 unfold z7u
 refine drK (k6w hb hi) fun r i1 h1 hr hi1=>?_
 obtain⟨r1,r2,r3,r4⟩:=hr
 refine drK (q5d hb 12 (cb hi1)) fun y2 i2 h2 _ hi2=>?_
 dsimp only
 refine .ite (fun _=>?_) fun _=>.ite (fun _=>?_) fun _=>.ite (fun _=>?_) fun _=>.ite (fun _=>?_) fun _=>.ite (fun _=>?_) fun _=>?_
 ·refine drK (z4W hb (by simp) (cb hi2)) fun z i3 h3 hz hi3=>⟨_,rfl,⟨⟨?_,r1.2.1,r1.2.2.1,r1.2.2.2⟩,by dsimp only;omega,r4⟩,hi3,rfl⟩
  simp only[Dsz,Daz,or_false] at hz
  rcases hz with h|h|h<;>subst h<;>(try dsimp only)<;>decide
 ·refine .grd (by simp only[lnC,List.length_nil];constructor<;>omega) ⟨_,rfl,⟨⟨r1.1,r1.2.1,by simp;omega,fun x hx=>?_⟩,by dsimp only;omega,r4⟩,hi2,rfl⟩
  simp only[Ciz,Dsz,Daz,or_false] at hx
  rcases hx with h|h|h
  ·exact r1.2.2.2 x h
  ·rw[h];decide
  ·rw[h];decide
 ·refine drK (q5d hb 5 (cb hi2)) fun y4 i4 h4 hy4 hi4=>?_
  have h40:=hy4.1
  have h44:=hy4.2.1 (by omega)
  refine .grd (by constructor<;>omega) ?_
  refine drK (k8h hb (cb hi4)) fun e i5 h5 he hi5=>?_
  have he:Sz.szd e≤30000:=he
  have hl:=q8w r.es_
  refine .grd (by constructor<;>omega) ⟨_,rfl,⟨r1,?_,r4⟩,hi5,rfl⟩
  dsimp only
  rw[j0t,j8p]
  have:(⟨#[97]⟩:BA_).size=1:=rfl
  dsimp only
  omega
 ·exact⟨_,rfl,⟨⟨r1.1,by dsimp only;decide,r1.2.2.1,r1.2.2.2⟩,by dsimp only;omega,r4⟩,hi2,rfl⟩
 ·refine .grd (by constructor<;>omega) ?_
  refine drK (q5d hb _ (cb hi2)) fun y6 i6 h6 hy6 hi6=>?_
  have h60:=hy6.1
  have h61:=hy6.2.1 (by omega)
  refine .grd h60 (.grd (by omega) ⟨_,rfl,⟨⟨r1.1,r1.2.1,by dsimp only;rw[Brz];omega,fun x hx=>r1.2.2.2 x (Eyz hx)⟩,by dsimp only;omega,r4⟩,hi6,rfl⟩)
 ·exact⟨_,rfl,⟨r1,by dsimp only;omega,r4⟩,hi2,rfl⟩
theorem k6y {i h:Int}(hi:0≤i):Dr b SB (z7v ⟨b,i,h⟩):=by
 unfold z7v
 refine drK (z4W hb (by simp) (cb hi)) fun nm i1 h1 hnm hi1=>?_
 have hnm:nm.size≤8:=by
  simp only[Dsz,Daz,or_false] at hnm
  rcases hnm with h|h|h|h<;>subst h<;>(try dsimp only)<;>decide
 refine drK (k7g hb hnm _ _ hi1) fun s i2 h2 hs hi2=>?_
 refine drK (q5d hb 10 (cb hi2)) fun y3 i3 h3 _ hi3=>?_
 have hl:=hs.2.1
 dsimp only
 refine .ite (fun _=>?_) fun _=>.ite (fun _=>?_) fun _=>.ite (fun _=>?_) fun _=>.ite (fun _=>?_) fun _=>.ite (fun _=>?_) fun _=>?_
 ·exact .get (by omega) fun x hx=>⟨_,rfl,hs.set (by exact hs.2.2.2 x hx),hi3,rfl⟩
 ·exact drK (q5d hb 5 (cb hi3)) fun y4 i4 h4 _ hi4=>.get (by omega) fun x hx=>⟨_,rfl,hs.set (by exact hs.2.2.2 x hx),hi4,rfl⟩
 ·exact drK (q5d hb 6 (cb hi3)) fun y4 i4 h4 _ hi4=>.get (by omega) fun x hx=>⟨_,rfl,hs.set (by exact hs.2.2.2 x hx),hi4,rfl⟩
 ·refine drK (z4W hb (by simp) (cb hi3)) fun z i4 h4 hz hi4=>.get (by omega) fun x hx=>⟨_,rfl,hs.set ?_,hi4,rfl⟩
  simp only[Dsz,Daz,or_false] at hz
  rcases hz with h|h|h<;>subst h<;>(try dsimp only)<;>decide
 ·refine Ok.bind (Q:=fun l:List At_=>1≤l.length∧l.length≤5∧∀ a∈l,a.Name.size≤8) (j6K (P:=fun l:List At_=>1≤l.length∧l.length≤5∧∀ a∈l,a.Name.size≤8) (fun l=>5-l.length) (fun l hl=>?_) _ ⟨hs.2.1,hs.2.2.1,hs.2.2.2⟩) fun l hl=>⟨_,rfl,⟨hs.1,hl.1,hl.2.1,hl.2.2⟩,hi3,rfl⟩
  unfold j5a
  refine .ite (fun h5=>?_) fun _=>.ret hl
  refine .get (by simp;omega) fun x hx=>.grd (by constructor<;>omega) (.ret ⟨⟨by simp,by simp;omega,fun a ha=>?_⟩,by simp;omega⟩)
  simp only[Ciz,Dsz,Daz,or_false] at ha hx
  rcases ha with ha|ha
  ·exact hl.2.2 a ha
  ·rw[ha];dsimp only;rcases hx with h|h|h|h|h<;>subst h<;>(try dsimp only)<;>decide
 ·exact⟨_,rfl,hs,hi3,rfl⟩
theorem k4w {i h:Int}(hi:0≤i):Dr b GC2 (z5O ⟨b,i,h⟩):=by
 unfold z5O
 refine drK (z0Q hb _ (cb hi)) fun y1 i1 h1 _ hi1=>?_
 refine drK (j8q hb y1 hi1) fun g i2 h2 hg hi2=>?_
 obtain⟨ss,rs⟩:=g
 obtain⟨g1,g2,g3,g4⟩:=hg
 dsimp only at g1 g2 g3 g4
 have hG:GC2 ⟨ss,rs⟩:=⟨g1,g2,g3,fun r hr=>by obtain⟨a,c,d⟩:=g4 r hr;exact⟨a,by omega,d⟩⟩
 refine drK (q5d hb _ (cb hi2)) fun y3 i3 h3 hy3 hi3=>?_
 have h30:=hy3.1
 have h31:=hy3.2.1 (by dsimp only;omega)
 dsimp only at h31
 refine drK (q5d hb 14 (cb hi3)) fun y4 i4 h4 _ hi4=>?_
 have hk:y3.toNat<rs.length:=by omega
 dsimp only
 have same:Ok (fun r:Gm_×L1_=>GC2 r.1∧CB b r.2) (some ((⟨ss,rs⟩:Gm_),(⟨b,i4,h4⟩:L1_))):=⟨_,rfl,hG,hi4,rfl⟩
 refine .ite (fun _=>?_) fun _=>.ite (fun _=>?_) fun _=>.ite (fun _=>?_) fun _=>.ite (fun _=>?_) fun _=>.ite (fun _=>?_) fun _=>.ite (fun _=>?_) fun _=>.ite (fun _=>?_) fun _=>same
 ·exact drK (k6x hb hi4) fun r i5 h5 hr hi5=>.grd h30 (.get hk fun x hx=>⟨_,rfl,hG.set _ hr,hi5,rfl⟩)
 ·refine drK (k6y hb hi4) fun s i5 h5 hs hi5=>.get (by have:=g1.1;omega) fun x hx=>⟨_,rfl,⟨⟨by dsimp only;rw[Clz];exact g1.1,by dsimp only;rw[Clz];exact g1.2.1,fun a ha=>?_⟩,g2,g3,hG.2.2.2⟩,hi5,rfl⟩
  rcases Ezz ha with ha|ha
  ·exact g1.2.2 a ha
  ·rw[ha];exact hs
 ·refine .get (by omega) fun x hx=>.grd h30 (.get hk fun r hr=>⟨_,rfl,hG.set _ ?_,hi4,rfl⟩)
  have a:=hG.2.2.2 r hr
  exact⟨⟨(g4 x hx).1.1,a.1.2.1,a.1.2.2.1,a.1.2.2.2⟩,a.2.1,a.2.2⟩
 ·refine .grd h30 (.get hk fun r hr=>.ite (fun h0=>.grd (by omega) ⟨_,rfl,hG.set _ ?_,hi4,rfl⟩) fun _=>same)
  have a:=hG.2.2.2 r hr
  exact⟨a.1,by have:=k4u r.es_;have:=a.2.1;dsimp only;omega,a.2.2⟩
 ·refine .grd h30 (.get hk fun r hr=>.ite (fun h0=>?_) fun _=>same)
  have a:=g4 r hr
  have hl:=q8w r.es_
  have a2:=a.2.1
  refine .get (by omega) fun x hx=>.grd (by constructor<;>omega) ⟨_,rfl,hG.set _ ⟨a.1,?_,a.2.2⟩,hi4,rfl⟩
  have:=j6D hx
  dsimp only
  rw[j0t]
  omega
 ·refine drK (z4W hb (by simp) (cb hi4)) fun z i5 h5 hz hi5=>.grd h30 (.get hk fun r hr=>⟨_,rfl,hG.set _ ?_,hi5,rfl⟩)
  have a:=hG.2.2.2 r hr
  refine⟨⟨a.1.1,?_,a.1.2.2.1,a.1.2.2.2⟩,a.2.1,a.2.2⟩
  simp only[Dsz,Daz,or_false] at hz
  rcases hz with h|h<;>subst h<;>(try dsimp only)<;>decide
 ·refine .grd h30 (.get hk fun r hr=>.ite (fun h0=>?_) fun _=>same)
  refine drK (k3H hb (cb hi4)) fun e i5 h5 he hi5=>?_
  have he:Sz.szd e≤20480:=he
  have a:=g4 r hr
  have a2:=a.2.1
  refine .get (by omega) fun x hx=>⟨_,rfl,hG.set _ ⟨a.1,?_,a.2.2⟩,hi5,rfl⟩
  have h1:=j6D hx
  have h2:=k4t (⟨x.At,e⟩:Eqn) r.es_ 0
  have h3:Sz.szd x=x.At.Name.size+Sz.szd x.Expr:=j8p x.At x.Expr
  rw[j8p] at h2
  dsimp only
  omega
end
theorem szR {r:Rule}(h:R2 r):Sz.szd r≤60300:=by
 have h1:=j8o (m:=8) h.1.2.2.2
 have:=h.1.2.2.1
 have:=h.1.1
 have:=h.1.2.1
 have:=h.2.1
 have:=h.2.2
 have h9:r.rt_.length*(8+1)≤45:=by omega
 rw[j0j];omega
theorem szS {s:Symbol}(h:SB s):Sz.szd s≤60:=by
 have h1:=j8o (m:=8) (l:=s.as_) fun a ha=>by rw[j0i];exact h.2.2.2 a ha
 have:=h.2.2.1
 have:=h.1
 have h9:s.as_.length*(8+1)≤45:=by omega
 rw[j0U];omega
theorem szG {g:Gm_}(h:GC2 g):Sz.szd g≤1048576:=by
 have h1:=j8o (m:=60) (l:=g.ss_) fun s hs=>szS (h.1.2.2 s hs)
 have h2:=j8o (m:=60300) (l:=g.rs_) fun r hr=>szR (h.2.2.2 r hr)
 have h3:g.ss_.length*(60+1)≤183:=by have:=h.1.2.1;omega
 have h4:g.rs_.length*(60300+1)≤482408:=by have:=h.2.2.1;omega
 rw[z4V];omega
theorem j1g {r:Rl_}(h:Valid r)(i k:Int):Valid (addP r i k):=by
 unfold addP
 by_cases hc:Valid r∧inN r i∧inN r k
 ·rw[ifP hc]
  obtain⟨_,hi,hk⟩:=hc
  unfold j3G
  refine⟨h.1,h.2.1,by dsimp only;rw[Clz];exact h.2.2.1,fun x hx=>?_⟩
  rcases Ezz hx with hx|hx
  ·exact h.2.2.2 x hx
  ·rw[hx]
   have h1:=h.1
   have hk1:=hk.1
   have hk2:=hk.2
   refine k7e ?_ ?_
   ·unfold z7j
    rw[Cwz]
    cases hq:r.Rows[i.toNat]? with
    | none=>show (0:Int)≤0∧(0:Int)≤((2 ^ r.N.toNat:Nat):Int)-1;have:=Fhz r.N.toNat;omega
    | some y=>exact h.2.2.2 y (Bvz hq)
   ·have h2:2 ^ k.toNat<2 ^ r.N.toNat:=Nat.pow_lt_pow_right (by decide) (by omega)
    constructor
    ·exact Dpz _
    ·dsimp only;omega
 ·rw[ifN hc];exact h
theorem k4x {r:Rl_}(h:Valid r)(i k:Int)(a c:Nat):Rl (addP r i k).Rows a c↔Rl r.Rows a c∨(inN r i∧inN r k∧(a:Int)=i∧(c:Int)=k):=by
 unfold addP
 by_cases hc:Valid r∧inN r i∧inN r k
 ·rw[ifP hc]
  obtain⟨_,hi,hk⟩:=hc
  have hi1:=hi.1
  have hi2:=hi.2
  have hk1:=hk.1
  have hl:=h.2.2.1
  unfold j3G Rl
  dsimp only
  rw[Cwz,Cjz]
  by_cases e:i.toNat=a
  ·rw[ifP e,ifP (by omega),Cbz,j0o,Nat.testBit_or,tnC,Fiz]
   unfold z7j
   rw[e]
   simp only[Agz,decide_eq_true_eq]
   constructor
   ·rintro (h1|h1)
    ·exact .inl h1
    ·exact .inr ⟨hi,hk,by omega,by omega⟩
   ·rintro (h1|⟨_,_,_,h1⟩)
    ·exact .inl h1
    ·exact .inr (by omega)
  ·rw[ifN e,← Cwz]
   constructor
   ·exact fun h1=>.inl h1
   ·rintro (h1|⟨_,_,h1,_⟩)
    ·exact h1
    ·omega
 ·rw[ifN hc]
  constructor
  ·exact fun h1=>.inl h1
  ·rintro (h1|⟨h1,h2,_⟩)
   ·exact h1
   ·exact absurd ⟨h,h1,h2⟩ hc
def Sub (a b:Rl_):Prop:=Valid a∧Valid b∧a.N=b.N∧∀ i j:Nat,Rl a.Rows i j→Rl b.Rows i j
theorem Sub.refl {a:Rl_}(h:Valid a):Sub a a:=⟨h,h,rfl,fun _ _ h=>h⟩
theorem Sub.trans {a b c:Rl_}(h:Sub a b)(k:Sub b c):Sub a c:=⟨h.1,k.2.1,h.2.2.1.trans k.2.2.1,fun i j x=>k.2.2.2 i j (h.2.2.2 i j x)⟩
theorem Sub.add {a b:Rl_}(h:Sub a b)(i k:Int):Sub a (addP b i k):=
 h.trans ⟨h.2.1,j1g h.2.1 i k,(z8y _ _ _).2.symm,fun x y hx=>(k4x h.2.1 i k x y).2 (.inl hx)⟩
theorem Sub.close {a:Rl_}(h:Valid a):Sub a (q6J a):=by
 refine⟨h,j8e h,(j5n _).2.symm,fun i j hx=>?_⟩
 unfold q6J
 rw[ifP h]
 exact k3K (z8z h).1 _ i j hx
theorem j1h (own:Rl_)(a:Nat)(x:Int):∀ (ys:List Int) (i:Nat) (o:Rl_),Valid o→Sub o (z0g own a x i ys o)
 | [],i,o,h=>Sub.refl h
 | y::ys,i,o,h=>by
  rw[z0g]
  by_cases hp:hasP own (a:Int) (i:Int)
  ·rw[ifP hp];exact ((Sub.refl h).add x y).trans (j1h own a x ys (i+1) _ (j1g h x y))
  ·rw[ifN hp];exact j1h own a x ys (i+1) _ h
theorem j3V (own:Rl_)(at' : List Int):∀ (xs:List Int) (a:Nat) (o:Rl_),Valid o→Sub o (z1v own at' a xs o)
 | [],a,o,h=>Sub.refl h
 | x::xs,a,o,h=>by
  rw[z1v]
  have h1:=j1h own a x at' 0 o h
  exact h1.trans (j3V own at' xs (a+1) _ h1.2.1)
theorem j9T {n:Int}(h0:0≤n)(h1:n≤16):Valid ⟨n,Bqz n.toNat 0⟩:=by
 refine⟨h0,h1,by simp;omega,fun x hx=>?_⟩
 have:=(List.mem_replicate.1 hx).2
 have h2:=Fhz n.toNat
 dsimp only
 omega
theorem k4y (g:Gm_)(r:Rule)(pos:Int)(own:Rl_){o:Rl_}(h:Valid o):Sub o (z7d g r o pos own):=j3V own _ _ 0 o h
noncomputable def indL (g:Gm_) (r:Rule) (all:BA_→Rl_):Nat→Nat→Rl_→Rl_
 | 0,_,o=>o
 | m+1,pos,o=>indL g r all m (pos+1) (z7d g r o (pos:Int) (all (q6q r (pos:Int))))
noncomputable def indR (g:Gm_) (r:Rule) (all:BA_→Rl_):Rl_:=q6J (indL g r all (r.rt_.length+1) 0 (locR g r))
theorem k0W (g:Gm_)(r:Rule)(all:BA_→Rl_):∀ (m pos:Nat) (o:Rl_),Valid o→Sub o (indL g r all m pos o)
 | 0,pos,o,h=>Sub.refl h
 | m+1,pos,o,h=>by
  rw[indL]
  have h1:=k4y g r (pos:Int) (all (q6q r (pos:Int))) h
  exact h1.trans (k0W g r all m (pos+1) _ h1.2.1)
theorem k2l {α:Type}{nm:α→BA_}{xs:List α}(h:j9F nm xs=true):xs.Pairwise fun a b=>nm a≠nm b:=by
 unfold j9F at h
 rw[Option.isNone_iff_eq_none] at h
 rw[Faz]
 intro i j hi hj hij he
 have h1:=z4m xs [] h j xs[j] (Cmz hj)
 unfold dupB at h1
 rw[List.nil_append,List.any_eq_false] at h1
 exact h1 xs[i] (List.mem_take_iff_getElem.2 ⟨i,by omega,rfl⟩) (by simpa using he)
theorem k4z {y:Symbol}(h:symB y=true){a:At_}(ha:a∈y.as_):z3G y a.Name=(a,true):=by
 unfold symB at h
 simp only[Afz] at h
 have hd:=k2l h.2.2.2
 unfold z3G
 cases hf:y.as_.find? (fun b=>decide (b.Name=a.Name)) with
 | none=>rw[List.find?_eq_none] at hf;exact absurd (by simp) (hf a ha)
 | some b=>
  have hb:=Eaz hf
  have he:b.Name=a.Name:=by simpa using List.find?_some hf
  have:b=a:=by
   rcases Fbz hb with ⟨i,hi,rfl⟩
   rcases Fbz ha with ⟨j,hj,rfl⟩
   rw[Faz] at hd
   rcases Fjz i j with h|h|h
   ·exact absurd he (hd i j hi hj h)
   ·subst h;rfl
   ·exact absurd he.symm (hd j i hj hi h)
  rw[this]
theorem Shape.find {g:Gm_}(h:Shape g){r:Rule}(hr:r∈g.rs_){k:Nat}(hk:k<r.rt_.length+1):Go.Proofs.YtgkepiefcpfimaaGreatDoor.symB (q7C g (q6q r (k:Int))).1=true:=by
 have hb:=h.brk 3 (by omega) (by omega) r hr
 unfold z5a at hb
 rw[ifP rfl] at hb
 simp only[Fkz] at hb
 unfold j3Q at hb
 rw[Eiz] at hb
 have h1:=hb k (by rw[Fcz];omega)
 unfold q7C at h1 ⊢
 cases hf:g.ss_.find? (fun y=>decide (y.Name=q6q r (k:Int))) with
 | none=>rw[hf] at h1;cases h1
 | some y=>exact h.symB (Eaz hf)
theorem Shape.may {g:Gm_}(h:Shape g){r:Rule}(hr:r∈g.rs_){q:Eqn}(hq:q∈r.es_){u:Oc}(hu:u∈Go.Proofs.YtgkepiefcpfimaaGreatDoor.attrs q.Expr):mayB g r u=true∧u∉reqL g r:=by
 have hb:=h.brk 6 (by omega) (by omega) r hr
 unfold z5a at hb
 rw[ifN (by omega),ifN (by omega),ifN (by omega)] at hb
 unfold misB at hb
 simp only[Fkz] at hb
 rw[Eiz] at hb
 have h1:=hb q.Expr (by unfold z5r;rw[Ciz];exact .inl (List.mem_map.2 ⟨q,hq,rfl⟩))
 unfold useB at h1
 rw[Eiz] at h1
 have hm:=h1 u hu
 refine⟨hm,fun hi=>?_⟩
 unfold reqL at hi
 obtain⟨k,hk,hi⟩:=List.mem_flatMap.1 hi
 rw[Fcz] at hk
 unfold reqK at hi
 obtain⟨a,ha,rfl⟩:=List.mem_map.1 hi
 rw[List.mem_filter] at ha
 have hs:=h.find hr (k:=k) (by omega)
 unfold mayB z2n at hm
 rw[ifP (by dsimp only;omega)] at hm
 dsimp only at hm
 rw[k4z hs ha.1] at hm
 have h2:=ha.2
 simp only[decide_eq_true_eq,Afz] at h2 hm
 rw[h2] at hm
 by_cases h0:(k:Int)=0
 ·rw[ifP h0,ifP h0] at hm;omega
 ·rw[ifN h0,ifN h0] at hm;omega
theorem k9o (l:List Oc)(o:Oc):q5O l o=some (ixF l o):=by
 have h:q4d l o=some (ixF l o):=by
  unfold q4d
  refine j3B fun k x=>⟨fun e=>?_,fun e=>?_⟩
  ·unfold q3X;rw[ifP e.symm]
  ·unfold q3X;rw[ifN (fun h=>e h.symm)]
 unfold q5O
 rw[h];rfl
theorem k9p {l:List Oc}{u:Oc}{a:Nat}(h:(a:Int)=ixF l u):l[a]?=some u:=by
 unfold ixF at h
 by_cases hm:u∈l
 ·rw[ifP hm] at h
  obtain rfl:a=l.idxOf u:=by omega
  have hl:=List.idxOf_lt_length_of_mem hm
  rw[Cmz hl,List.getElem_idxOf]
 ·rw[ifN hm] at h;omega
theorem k9q {l:List Oc}{u:Oc}{a:Nat}(h:(a:Int)=ixF l u):a<l.length:=(List.getElem?_eq_some_iff.1 (k9p h)).1
theorem k7i (l:List Oc)(k:Nat)(hk:k<l.length):∀ (us:List Oc) (i:Nat) (o:Rl_),Valid o→o.N=(l.length:Int) →
  ∃ o',eachL (q6X l k) i us (o.Rows,o.N)=some (o'.Rows,o'.N)∧Valid o'∧o'.N=o.N∧∀ a c:Nat,Rl o'.Rows a c↔Rl o.Rows a c∨(c=k∧∃ u∈us,(a:Int)=ixF l u)
 | [],i,o,hv,hN=>⟨o,rfl,hv,rfl,fun a c=>by simp⟩
 | u::us,i,o,hv,hN=>by
  have hlen:o.Rows.length≤1048576:=by have:=hv.2.1;have:=hv.2.2.1;omega
  have e:q6X l k i u (o.Rows,o.N)=some ((addP o (ixF l u) (k:Int)).Rows,(addP o (ixF l u) (k:Int)).N):=by
   unfold q6X
   dsimp only
   rw[k9o,bsS,j6B,k0G hlen,bsS]
  obtain⟨o',h1,h2,h3,h4⟩:=k7i l k hk us (i+1) (addP o (ixF l u) (k:Int)) (j1g hv _ _) ((z8y _ _ _).2.trans hN)
  refine⟨o',by rw[eachL,e,bsS];exact h1,h2,h3.trans (z8y _ _ _).2,fun a c=>?_⟩
  rw[h4,k4x hv]
  have hin:(a:Int)=ixF l u→inN o (ixF l u):=fun h=>⟨by omega,by have:=k9q h;omega⟩
  constructor
  ·rintro ((h|⟨_,_,h1,h2⟩)|⟨h1,u',hu,h2⟩)
   ·exact .inl h
   ·exact .inr ⟨by omega,u,by simp,h1⟩
   ·exact .inr ⟨h1,u',by simp[hu],h2⟩
  ·rintro (h|⟨h1,u',hu,h2⟩)
   ·exact .inl (.inl h)
   ·rcases List.mem_cons.1 hu with rfl|hu
    ·exact .inl (.inr ⟨hin h2,⟨by omega,by omega⟩,h2,by omega⟩)
    ·exact .inr ⟨h1,u',hu,h2⟩
theorem k4A {r:Rule}(hr:Sz.szd r≤1048576)(l:List Oc):∀ (m k:Nat) (o:Rl_),k+m=l.length→Valid o→o.N=(l.length:Int) →
  ∃ o',eachL (q6Y r l) k (l.drop k) (o.Rows,o.N)=some (o'.Rows,o'.N)∧Valid o'∧o'.N=o.N∧∀ a c:Nat,Rl o'.Rows a c↔Rl o.Rows a c∨(k≤c∧∃ x,l[c]?=some x∧∃ u∈attrs (eqAt r x).1,(a:Int)=ixF l u)
 | 0,k,o,hk,hv,hN=>by
  refine⟨o,by rw[Dez (by omega)];rfl,hv,rfl,fun a c=>⟨.inl,?_⟩⟩
  rintro (h|⟨h1,x,h2,_⟩)
  ·exact h
  ·have:=(List.getElem?_eq_some_iff.1 h2).1;omega
 | m+1,k,o,hk,hv,hN=>by
  have hk' : k<l.length:=by omega
  have hsz:=j6E hr l[k]
  have hf:=j9D hr l[k]
  obtain⟨o1,h1,h2,h3,h4⟩:=k7i l k hk' (attrs (eqAt r l[k]).1) 0 o hv hN
  obtain⟨o',k1,k2,k3,k4⟩:=k4A hr l m (k+1) o1 (by omega) h2 (h3.trans hN)
  have e1:q6Y r l k l[k] (o.Rows,o.N)=some (o1.Rows,o1.N):=by
   unfold q6Y
   dsimp only
   generalize eqAt r l[k]=z at hsz hf h1
   obtain⟨E,B⟩:=z
   rw[hf.2,bsS]
   dsimp only
   rw[j2h hsz,bsS,h1];rfl
  refine⟨o',by rw[Csz hk',eachL,e1,bsS];exact k1,k2,k3.trans h3,fun a c=>?_⟩
  rw[k4,h4]
  constructor
  ·rintro ((h|⟨rfl,u,hu,h⟩)|⟨hc,h⟩)
   ·exact .inl h
   ·exact .inr ⟨Acz _,l[c],Cmz hk',u,hu,h⟩
   ·exact .inr ⟨by omega,h⟩
  ·rintro (h|⟨hc,x,hx,u,hu,h⟩)
   ·exact .inl (.inl h)
   ·by_cases hck:c=k
    ·subst hck
     rw[Cmz hk'] at hx
     cases hx
     exact .inl (.inr ⟨rfl,u,hu,h⟩)
    ·exact .inr ⟨by omega,x,hx,u,hu,h⟩
theorem k4B (n i j:Nat):¬ Rl (Bqz n 0) i j:=by
 unfold Rl
 rw[Cwz,Fdz]
 split<;>simp
theorem k4C {g:Gm_}{r:Rule}(hg:Sz.szd g≤1048576)(hr:Sz.szd r≤1048576)(hl:(occL g r).length≤16):Valid (locR g r)∧(locR g r).N=((occL g r).length:Int) ∧
  ∀ a c:Nat,Rl (locR g r).Rows a c↔∃ x,(occL g r)[c]?=some x∧∃ u∈attrs (eqAt r x).1,(a:Int)=ixF (occL g r) u:=by
 have h:=(k7f hg hr).2.1
 unfold q7w at h
 rw[j9Q (q9I hg) (q5y hr),bsS,z8x,j2j (by omega) (by omega),bsS,ifN (by omega)] at h
 obtain⟨o',h1,h2,h3,h4⟩:=k4A hr (occL g r) (occL g r).length 0 ⟨((occL g r).length:Int),Bqz (((occL g r).length:Int)).toNat 0⟩ (by omega) (j9T (by omega) (by omega)) rfl
 rw[Fez] at h1
 rw[h1,bsS] at h
 have e:locR g r=o':=(Option.some.inj h).symm
 rw[e]
 refine⟨h2,h3,fun a c=>?_⟩
 rw[h4]
 constructor
 ·rintro (h|⟨_,h⟩)
  ·exact absurd h (k4B _ _ _)
  ·exact h
 ·exact fun h=>.inr ⟨Nat.zero_le _,h⟩
theorem j6M {α β:Type}{p:α→Bool}{g:α→β}{B:Nat}{f:Nat→α→List β→Option (List β)}:∀ (xs:List α) (i:Nat) (s:List β),(∀ k x s,x∈xs→s.length<B→f k x s=some (if p x=true then s++[g x] else s))→s.length+xs.length≤B →
  eachL f i xs s=some (s++(xs.filter p).map g)
 | [],i,s,_,_=>by simp[eachL]
 | x::xs,i,s,hf,h=>by
  simp only[lnC] at h
  by_cases hp:p x=true
  ·have ih:=j6M xs (i+1) (s++[g x]) (fun k y s hy=>hf k y s (by simp[hy])) (by simp;omega)
   simp[eachL,hf i x s (by simp) (by omega),hp,ih]
  ·have ih:=j6M xs (i+1) s (fun k y s hy=>hf k y s (by simp[hy])) (by omega)
   simp[eachL,hf i x s (by simp) (by omega),hp,ih]
theorem k0X {α β:Type}{g:α→β}{B:Nat}{f:Nat→α→List β→Option (List β)}(xs:List α)(i:Nat)(s:List β)(hf:∀ k x s,x∈xs→s.length<B→f k x s=some (s++[g x]))(h:s.length+xs.length≤B) :
  eachL f i xs s=some (s++xs.map g):=by
 have:=j6M (p:=fun _=>true) (g:=g) (B:=B) (f:=f) xs i s (fun k x s hx hs=>by rw[hf k x s hx hs,ifP rfl]) h
 rw[this];congr 2;congr 1;simp
theorem k6z {g:Gm_}{n:BA_}(h:(q7C g n).2=true):∃ j y,atS g n=some j∧g.ss_[j]?=some y∧q7C g n=(y,true)∧y.Name=n:=by
 unfold q7C at h ⊢
 cases hf:g.ss_.find? fun y=>decide (y.Name=n) with
 | none=>rw[hf] at h;cases h
 | some y=>
  have hn:y.Name=n:=by simpa using List.find?_some (p:=fun y:Symbol=>decide (y.Name=n)) hf
  unfold atS
  cases he:g.ss_.findIdx? fun y=>decide (y.Name=n) with
  | none=>
   rw[List.findIdx?_eq_none_iff] at he
   have:=he y (Eaz hf)
   simp[hn] at this
  | some j=>
   refine⟨j,y,rfl,?_,rfl,hn⟩
   rw[List.findIdx?_eq_some_iff_getElem] at he
   obtain⟨hj,h1,h2⟩:=he
   rw[List.find?_eq_some_iff_getElem] at hf
   obtain⟨_,i,hi,hy,h3⟩:=hf
   have:i=j:=by
    rcases Fjz i j with hlt|heq|hgt
    ·have:=h2 i hlt;rw[hy] at this;simp[hn] at this
    ·exact heq
    ·have:=h3 j hgt;simp at this;simp at h1;exact absurd h1 this
   subst this
   rw[Cmz hi,hy]
theorem Shape.known {g:Gm_}(h:Shape g){r:Rule}(hr:r∈g.rs_){k:Nat}(hk:k≤r.rt_.length):(q7C g (q6q r (k:Int))).2=true:=by
 have h3:=h.brk 3 (by omega) (by omega) r hr
 unfold z5a at h3
 rw[ifP rfl,Fkz] at h3
 unfold j3Q at h3
 rw[Eiz] at h3
 exact h3 k (by rw[Fcz];omega)
theorem Shape.right {g:Gm_}(h:Shape g){r:Rule}(hr:r∈g.rs_){n:BA_}(hn:n∈r.rt_):(q7C g n).2=true:=by
 obtain⟨k,hk⟩:=Emz hn
 have hlt:=(List.getElem?_eq_some_iff.1 hk).1
 have:=h.known hr (k:=k+1) (by omega)
 rwa[j9R hk] at this
theorem Shape.left {g:Gm_}(h:Shape g){r:Rule}(hr:r∈g.rs_):(q7C g r.Left).2=true:=by
 have:=h.known hr (k:=0) (by omega)
 unfold q6q at this
 rwa[ifP (by rfl)] at this
theorem Shape.attrs {g:Gm_}(h:Shape g){y:Symbol}(hy:y∈g.ss_):y.as_.length≤4:=by
 have:=h.symB hy
 unfold Go.Proofs.YtgkepiefcpfimaaGreatDoor.symB at this
 simp only[Afz,decide_eq_true_eq] at this
 exact this.2.2.1
theorem Shape.plain {g:Gm_}(h:Shape g)(n:BA_):(q7d g n).length≤4:=by
 refine Bgz (List.length_filter_le _ _) ?_
 unfold q7C
 cases hf:g.ss_.find? fun y=>decide (y.Name=n) with
 | none=>simp[zS]
 | some y=>exact h.attrs (Eaz hf)
theorem k0Y (g:Gm_)(n:BA_):q7f g n=some (atI g n):=by
 unfold q7f q4v atI atS
 rw[j0r (q:=fun y:Symbol=>decide (y.Name=n)) (c:=fun k=>(k:Int)) fun j x hx=>by
  unfold q4V q9N
  rw[bsS,← apply_ite some]]
 cases g.ss_.findIdx? fun y=>decide (y.Name=n) with
 | none=>rfl
 | some j=>dsimp only;rw[Nat.zero_add];rfl
def Inv (g:Gm_)(all:List Rl_):Prop:=all.length=g.ss_.length∧∀ (k:Nat) (y:Symbol) (a:Rl_),g.ss_[k]?=some y→all[k]?=some a→Valid a∧a.N=((q7d g y.Name).length:Int)
def zR:Rl_:=⟨0,[]⟩
def q7O (g:Gm_)(all:List Rl_)(n:BA_):Rl_:=all.getD ((atS g n).getD 0) zR
theorem Inv.at_ {g:Gm_}{all:List Rl_}(h:Inv g all){n:BA_}(hn:(q7C g n).2=true):∃ j,atS g n=some j∧j<g.ss_.length∧all[j]?=some (q7O g all n)∧Valid (q7O g all n)∧(q7O g all n).N=((q7d g n).length:Int):=by
 obtain⟨j,y,h1,h2,h3,h4⟩:=k6z hn
 have hj:=(List.getElem?_eq_some_iff.1 h2).1
 have e:all[j]?=some (q7O g all n):=by
  unfold q7O
  rw[h1,Cbz,Cwz,Cmz (by rw[h.1];exact hj)];rfl
 have:=h.2 j y _ h2 e
 rw[h4] at this
 exact⟨j,h1,hj,e,this⟩
theorem j5u {g:Gm_}(hS:Shape g){r:Rule}(hr:r∈g.rs_):r.rt_.length≤3:=by
 have:=hS.ruleB hr
 unfold Go.Proofs.YtgkepiefcpfimaaGreatDoor.ruleB at this
 simp only[Afz,decide_eq_true_eq] at this
 exact this.2.1.1
def sumA (all:List Rl_):Nat:=(all.map sumR).sum
theorem k0Z:∀ (all:List Rl_) (k:Nat) (x a:Rl_),all[k]?=some a→sumA (all.set k x)+sumR a=sumA all+sumR x
 | [],k,x,a,h=>by simp at h
 | b::all,0,x,a,h=>by simp at h;subst h;unfold sumA;simp;omega
 | b::all,k+1,x,a,h=>by
  have ih:=k0Z all k x a (by simpa using h)
  unfold sumA at ih ⊢
  simp only[List.set_cons_succ,List.map_cons,List.sum_cons];omega
theorem Inv.bound {g:Gm_}{all:List Rl_}(h:Inv g all):sumA all≤all.length*(16*65535):=by
 have key:∀ l:List Rl_,(∀ a∈l,Valid a)→sumA l≤l.length*(16*65535):=by
  intro l
  induction l with
  | nil=>intro _;simp[sumA]
  | cons a l ih=>
   intro hv
   have h1:=k4k (hv a (by simp))
   have h2:=ih fun b hb=>hv b (by simp[hb])
   unfold sumA at h2 ⊢
   simp only[List.map_cons,List.sum_cons,lnC]
   omega
 refine key all fun a ha=>?_
 obtain⟨k,hk⟩:=Emz ha
 have hlt:=(List.getElem?_eq_some_iff.1 hk).1
 exact (h.2 k _ a (Cmz (by rw[← h.1];exact hlt)) hk).1
theorem Valid.len {a:Rl_}(h:Valid a):a.Rows.length≤16:=by have:=h.2.2.1;have:=h.2.1;omega
def j1E (g:Gm_):List Rl_:=g.ss_.map fun y=>⟨((q7d g y.Name).length:Int),Bqz (q7d g y.Name).length 0⟩
theorem k4D {g:Gm_}(hS:Shape g):Inv g (j1E g):=by
 refine⟨by unfold j1E;simp,fun k y a hk ha=>?_⟩
 unfold j1E at ha
 rw[List.getElem?_map,hk] at ha
 cases ha
 have h4:=hS.plain y.Name
 refine⟨⟨by show (0:Int)≤((q7d g y.Name).length:Int);omega,by show ((q7d g y.Name).length:Int)≤16;omega,by simp,fun x hx=>?_⟩,rfl⟩
 rw[Ffz] at hx
 have:=Nat.one_le_two_pow (n:=((q7d g y.Name).length:Int).toNat)
 show 0≤x∧x≤((2 ^ ((q7d g y.Name).length:Int).toNat:Nat):Int)-1
 omega
theorem j3W {g:Gm_}(h0:Sz.szd g≤1048576)(hS:Shape g):q9a g=some (j1E g):=by
 have hl:=hS.syms
 unfold q9a j1E
 rw[k0X (g:=fun y:Symbol=>(⟨((q7d g y.Name).length:Int),Bqz (q7d g y.Name).length 0⟩:Rl_)) (B:=1048576) g.ss_ 0 [] (fun k y s hy hs=>by
  unfold z5i
  have:=hS.plain y.Name
  rw[j0s (q9I h0),bsS,z8x,j2j (by omega) (by omega),bsS,q3P (by constructor<;>omega),tnC]) (by simp;omega)]
 simp
theorem k2m {n:Int}{s:List Int}(h0:0≤n)(h1:n≤16)(h:z4X n.toNat s):Valid ⟨n,s⟩:=by
 have hl:=h.1
 refine⟨h0,h1,by show (s.length:Int)=n;omega,fun x hx=>?_⟩
 have:=h.2 x hx
 have:=j6A n
 exact⟨(h.2 x hx).1,by show x≤((2 ^ n.toNat:Nat):Int)-1;omega⟩
theorem k2n {p:Rl_}{l:List Int}(hl:l.length≤16)(k1:Nat)(x1:Int){f:Nat→Int→List Int→Option (List Int)}(hf:∀ k2 x2 s2,f k2 x2 s2=((q8A p x1 x2).bind fun y3=>if y3=true then ((s2[k1]?).bind fun x3=>grd (0≤(k2:Int)∧(k2:Int)<63) <| grd (0≤x3∧0≤((2 ^ (k2:Int).toNat:Nat):Int)) <| some (Doz s2 k1 ((x3.toNat ||| ((2 ^ (k2:Int).toNat:Nat):Int).toNat:Nat):Int))) else some s2).bind fun s3=>some s3)
  {s:List Int} {v:Int} (hs:s[k1]?=some v) (hv:0≤v) :
  ∃ y:Int,eachL f 0 l s=some (s.set k1 y)∧0≤y∧∀ n,y.toNat.testBit n=true↔v.toNat.testBit n=true∨∃ x2,l[n]?=some x2∧hasP p x1 x2:=by
 have hk1:=(List.getElem?_eq_some_iff.1 hs).1
 have key:∀ (m k:Nat) (v:Int),k+m=l.length→0≤v→∃ y:Int,eachL f k (l.drop k) (s.set k1 v)=some (s.set k1 y)∧0≤y∧∀ n,y.toNat.testBit n=true↔v.toNat.testBit n=true∨(k≤n∧∃ x2,l[n]?=some x2∧hasP p x1 x2):=by
  intro m
  induction m with
  | zero=>
   intro k v hk hv
   refine⟨v,by rw[Dez (by omega)];rfl,hv,fun n=>⟨.inl,fun h=>h.elim id fun ⟨h1,x2,h2,_⟩=>?_⟩⟩
   rw[Avz (by omega)] at h2;cases h2
  | succ m ih=>
   intro k v hk hv
   obtain⟨x2,hx2⟩:∃ x2,l[k]?=some x2:=⟨_,Cmz (by omega)⟩
   have hd:l.drop k=x2::l.drop (k+1):=by
    rw[Csz (by omega)]
    have:l[k]=x2:=by rw[Cmz (by omega)] at hx2;exact Option.some.inj hx2
    rw[this]
   have hsv:(s.set k1 v)[k1]?=some v:=by rw[Cjz];simp[hk1]
   by_cases hp:hasP p x1 x2
   ·have e:f k x2 (s.set k1 v)=some (s.set k1 (orI v ((2 ^ k:Nat):Int))):=by
     rw[hf,q9H,bsS,ifP (by simpa using hp),hsv,bsS,q3P (by constructor<;>omega),q3P ⟨hv,Dpz _⟩,bsS,List.set_set]
     rfl
    obtain⟨y,h1,h2,h3⟩:=ih (k+1) (orI v ((2 ^ k:Nat):Int)) (by omega) (j5m _ _)
    refine⟨y,by rw[hd];simp only[eachL,e,bsS];exact h1,h2,fun n=>?_⟩
    rw[h3,j0o,Nat.testBit_or,tnC,Fiz,Agz,decide_eq_true_iff]
    constructor
    ·rintro ((h|h)|⟨h,h'⟩)
     ·exact .inl h
     ·subst h;exact .inr ⟨Acz _,x2,hx2,hp⟩
     ·exact .inr ⟨by omega,h'⟩
    ·rintro (h|⟨h,h'⟩)
     ·exact .inl (.inl h)
     ·by_cases hn:k=n
      ·exact .inl (.inr hn)
      ·exact .inr ⟨by omega,h'⟩
   ·have e:f k x2 (s.set k1 v)=some (s.set k1 v):=by
     rw[hf,q9H,bsS,ifN (by simpa using hp),bsS]
    obtain⟨y,h1,h2,h3⟩:=ih (k+1) v (by omega) hv
    refine⟨y,by rw[hd];simp only[eachL,e,bsS];exact h1,h2,fun n=>?_⟩
    rw[h3]
    constructor
    ·rintro (h|⟨h,h'⟩)
     ·exact .inl h
     ·exact .inr ⟨by omega,h'⟩
    ·rintro (h|⟨h,x3,h4,h5⟩)
     ·exact .inl h
     ·by_cases hn:k=n
      ·subst hn;rw[hx2] at h4;cases h4;exact absurd h5 hp
      ·exact .inr ⟨by omega,x3,h4,h5⟩
 obtain⟨y,h1,h2,h3⟩:=key l.length 0 v (by omega) hv
 have e0:s.set k1 v=s:=by
  apply List.ext_getElem?
  intro q
  rw[Cjz]
  by_cases hq:k1=q
  ·subst hq;rw[ifP rfl,ifP hk1,hs]
  ·rw[ifN hq]
 rw[Fez,e0] at h1
 exact⟨y,h1,h2,fun n=>by rw[h3];simp⟩
theorem j8r:q8G=q5Q:=by
 funext p l
 unfold q8G q5Q
 rw[z1u,q7b,z8x]
 have e:z1k p l=q7a p l:=by
  funext k x s
  unfold z1k q7a
  have e2:z1j p k x=q9y p k x:=by
   funext k2 x2 s2
   unfold z1j q9y
   rw[k5T]
  rw[e2]
 rw[e]
theorem j8s {p:Rl_}(hp:Valid p){l:List Int}(hl:l.length≤16):∃ q,q5Q p l=some q∧Valid q∧q.N=l.length∧∀ (m n:Nat) (x y:Int),l[m]?=some x→l[n]?=some y→(hasP q (m:Int) (n:Int)↔hasP p x y):=by
 have key:∀ (m k:Nat) (s:List Int),k+m=l.length→z4X l.length s→(∀ i,k≤i→i<l.length→s[i]?=some 0)→(∀ i x,i<k→l[i]?=some x→∀ n,Rl s i n↔∃ y,l[n]?=some y∧hasP p x y) →
   ∃ s',eachL (q7a p l) k (l.drop k) s=some s'∧z4X l.length s'∧∀ i x,l[i]?=some x→∀ n,Rl s' i n↔∃ y,l[n]?=some y∧hasP p x y:=by
  intro m
  induction m with
  | zero=>
   intro k s hk hok _ h
   exact⟨s,by rw[Dez (by omega)];rfl,hok,fun i x hx=>h i x (by have:=(List.getElem?_eq_some_iff.1 hx).1;omega) hx⟩
  | succ m ih=>
   intro k s hk hok h0 h
   obtain⟨x,hx⟩:∃ x,l[k]?=some x:=⟨_,Cmz (by omega)⟩
   have hd:l.drop k=x::l.drop (k+1):=by
    rw[Csz (by omega)]
    have:l[k]=x:=by rw[Cmz (by omega)] at hx;exact Option.some.inj hx
    rw[this]
   obtain⟨y,h1,h2,h3⟩:=k2n (p:=p) hl k x (f:=q9y p k x) (fun _ _ _=>rfl) (h0 k (Acz _) (by omega)) (Fgz _)
   have e:q7a p l k x s=some (s.set k y):=by
    unfold q7a;rw[h1];rfl
   have hks:k<s.length:=by rw[hok.1];omega
   have hget:∀ i,(s.set k y)[i]?=if k=i then some y else s[i]?:=fun i=>by
    rw[Cjz]
    by_cases hi:k=i
    ·subst hi;simp[hks]
    ·simp[hi]
   have hylt:y.toNat<2 ^ l.length:=by
    apply Nat.lt_pow_two_of_testBit
    intro n hn
    cases hb:y.toNat.testBit n with
    | false=>rfl
    | true=>
     rcases (h3 n).1 hb with h4|⟨x2,h4,_⟩
     ·simp at h4
     ·rw[Avz (by omega)] at h4;cases h4
   have hok' : z4X l.length (s.set k y):=by
    refine⟨by rw[Clz];exact hok.1,fun z hz=>?_⟩
    rcases Ezz hz with h4|h4
    ·exact hok.2 z h4
    ·subst h4;exact⟨h2,hylt⟩
   obtain⟨s',k1,k2,k3⟩:=ih (k+1) (s.set k y) (by omega) hok' (fun i hi hil=>by rw[hget,ifN (by omega)];exact h0 i (by omega) hil) (fun i x' hi hx' n=>by
    by_cases hik:k=i
    ·subst hik
     rw[hx] at hx';cases hx'
     have:(s.set k y).getD k 0=y:=by rw[Cwz,hget,ifP rfl];rfl
     unfold Rl
     rw[this,h3];simp
    ·have:(s.set k y).getD i 0=s.getD i 0:=by rw[Cwz,hget,ifN hik,Cwz]
     have h5:=h i x' (by omega) hx' n
     unfold Rl at h5 ⊢
     rw[this];exact h5)
   exact⟨s',by rw[hd];simp only[eachL,e,bsS];exact k1,k2,k3⟩
 obtain⟨s',h1,h2,h3⟩:=key l.length 0 (Bqz l.length 0) (by omega) ⟨by simp,fun x hx=>by
  rw[Ffz] at hx;rw[hx.2];exact⟨Fgz _,Fhz _⟩⟩ (fun i _ hi=>by rw[Fdz,ifP hi]) (fun i x hi=>absurd hi (Nat.not_lt_zero _))
 have hv:Valid ⟨(l.length:Int),s'⟩:=k2m (Dpz _) (by omega) (by rw[tnC];exact h2)
 refine⟨⟨(l.length:Int),s'⟩,?_,hv,rfl,fun m n x y hx hy=>?_⟩
 ·unfold q5Q
  rw[q7b,bsS,ifP (by simpa using hp),ifN (by omega),j2j (Dpz _) (by omega),bsS]
  dsimp only
  rw[tnC]
  rw[Fez] at h1
  rw[h1];rfl
 ·rw[k8k hv,h3 m x hx n]
  constructor
  ·rintro⟨y',h4,h5⟩
   rw[hy] at h4;cases h4;exact h5
  ·intro h;exact⟨y,hy,h⟩
noncomputable def j6N (x:Rl_) (l:List Int):Rl_:=(q5Q x l).getD ⟨0,[]⟩
theorem k6A {x:Rl_}(hx:Valid x){l:List Int}(hl:l.length≤16):q5Q x l=some (j6N x l)∧Valid (j6N x l)∧(j6N x l).N=(l.length:Int)∧∀ (m n:Nat) (a b:Int),l[m]?=some a→l[n]?=some b→(hasP (j6N x l) (m:Int) (n:Int)↔hasP x a b):=by
 obtain⟨q,h1,h2,h3,h4⟩:=j8s hx hl
 unfold j6N
 rw[h1]
 exact⟨rfl,h2,h3,h4⟩
theorem Shape.occ16 {g:Gm_}(h:Shape g){r:Rule}(hr:r∈g.rs_):(occL g r).length≤16:=by
 have h3:=j5u h hr
 have:=j2m (C:=4) (f:=occK g r) (fun k=>by unfold occK;rw[lnM];exact h.plain _) (List.range' 0 (r.rt_.length+1))
 rw[List.length_range'] at this
 unfold occL
 omega
theorem k6B (g:Gm_)(r:Rule)(o:Rl_)(pos:Int)(own:Rl_):(z7d g r o pos own).N=o.N:=(z9r own _ _ 0 o).2
theorem k4E (g:Gm_)(r:Rule)(all:BA_→Rl_):∀ (m pos:Nat) (o:Rl_),(indL g r all m pos o).N=o.N∧(indL g r all m pos o).Rows.length=o.Rows.length
 | 0,pos,o=>⟨rfl,rfl⟩
 | m+1,pos,o=>by
  rw[indL]
  have h1:=k4E g r all m (pos+1) (z7d g r o (pos:Int) (all (q6q r (pos:Int))))
  exact⟨h1.1.trans (k6B _ _ _ _ _),h1.2.trans (j5s _ _ _ _ _)⟩
theorem k4F {g:Gm_}(h0:Sz.szd g≤1048576)(h:Shape g){r:Rule}(hr:r∈g.rs_)(all:BA_→Rl_):Valid (locR g r)∧Valid (indR g r all)∧(indR g r all).N=((occL g r).length:Int):=by
 obtain⟨v1,v2,_⟩:=k4C h0 (Bgz (z2R hr) h0) (h.occ16 hr)
 have hs:=k0W g r all (r.rt_.length+1) 0 (locR g r) v1
 have hc:=Sub.close hs.2.1
 unfold indR
 exact⟨v1,hc.2.1,by rw[← hc.2.2.1,(k4E g r all _ 0 _).1,v2]⟩
theorem k4G {g:Gm_}(h:Shape g)(r:Rule){k:Nat}(hk:k≤r.rt_.length):(posL g r (k:Int)).length≤16:=by
 rw[k8z g hk]
 have:=h.plain (q6q r (k:Int))
 omega
def k4H (g:Gm_)(all:List Rl_)(r:Rule):Prop:=k4n (indR g r (q7O g all))=false∧∀ pos:Nat,pos≤r.rt_.length→uniR (q7O g all (q6q r (pos:Int))) (j6N (indR g r (q7O g all)) (posL g r (pos:Int)))=q7O g all (q6q r (pos:Int))
def cirG (g:Gm_):Bool:=g.ss_.any fun y=>y.as_.any fun a=>a.Circular
theorem k8F (g:Gm_):q5U g=some (cirG g):=by
 unfold q5U q4c q4h
 rw[q5p (q:=fun y:Symbol=>y.as_.any fun a=>a.Circular) fun k y hy=>by
  unfold q5K q6o q4N q5c
  rw[q5p (q:=fun a:At_=>a.Circular) fun k a ha=>by
   unfold q6U z3V
   rw[bsS]
   cases a.Circular<;>rfl]
  rw[bsS,bsS,← apply_ite some]]
 rfl
noncomputable def k2o (g:Gm_):Bool:=z8J g&&(!(colG g||cirG g) && !g.rs_.any farR)
theorem k6C {g:Gm_}(hg:z8J g=true)(hc:colG g=false):(g.rs_.any fun r=>(z5r r).any farB)=g.rs_.any farR:=by
 have:∀ r∈g.rs_,(z5r r).any farB=farR r:=fun r hr=>by
  unfold z5r farR
  rw[k6r hg hc hr,List.flatMap_nil,List.append_nil,List.any_map];rfl
 rw[Bool.eq_iff_iff,Egz,Egz]
 exact⟨fun ⟨r,hr,hx⟩=>⟨r,hr,(this r hr)▸hx⟩,fun ⟨r,hr,hx⟩=>⟨r,hr,(this r hr).symm▸hx⟩⟩
theorem k6D {g:Gm_}(h:Sz.szd g≤1048576):z4B g=some (k2o g):=by
 unfold z4B k2o
 rw[k6l h,bsS]
 cases hg:z8J g with
 | false=>rfl
 | true=>
  rw[ifP rfl,k6q h]
  simp only[bsS]
  cases hc:colG g with
  | true=>cases g.rs_.any fun r=>(z5r r).any farB<;>simp[k4h,hc]
  | false=>
   rw[k6C hg hc]
   cases g.rs_.any farR<;>simp[k4h,hc,k8F]
theorem k6E {g:Gm_}(h:Sz.szd g≤1048576):z4J g=some (k2o g):=by
 unfold z4J k2o
 rw[q4X (c:=false) (q:=fun y:Symbol=>!y.as_.any fun a=>a.Circular||decide (a.Mode=3)) fun k y hy=>by
  unfold j1s
  rw[q4X (c:=false) (q:=fun a:At_=>!(a.Circular||decide (a.Mode=3))) fun k a ha=>by
   unfold j1r
   by_cases hm:a.Mode=3<;>cases hc:a.Circular<;>simp[hm]]
  have e:(y.as_.all fun a=>!(a.Circular||decide (a.Mode=3)))=!(y.as_.any fun a=>a.Circular||decide (a.Mode=3)):=by rw[Ekz]
  rw[e]
  cases y.as_.any fun a=>a.Circular||decide (a.Mode=3)<;>rfl]
 have e:(g.ss_.all fun y=>!y.as_.any fun a=>a.Circular||decide (a.Mode=3))=!(colG g||cirG g):=by
  have e1:(g.ss_.any fun y=>y.as_.any fun a=>a.Circular||decide (a.Mode=3))=(colG g||cirG g):=by
   unfold colG cirG
   rw[Bool.eq_iff_iff]
   simp only[Egz,Agz]
   constructor
   ·rintro⟨y,hy,a,ha,h|h⟩
    ·exact .inr ⟨y,hy,a,ha,h⟩
    ·exact .inl ⟨y,hy,a,ha,h⟩
   ·rintro (⟨y,hy,a,ha,h⟩|⟨y,hy,a,ha,h⟩)
    ·exact⟨y,hy,a,ha,.inr h⟩
    ·exact⟨y,hy,a,ha,.inl h⟩
  rw[← e1,Ekz]
 rw[e]
 cases colG g||cirG g with
 | true=>cases z8J g<;>rfl
 | false=>
  rw[Bool.not_false,ifP rfl,bsS,z4p]
  rw[q4X (c:=false) (q:=fun r=>!farR r) fun k r hr=>by
   unfold j1t
   rw[k6p,bsS]
   cases farR r<;>rfl]
  have e:(g.rs_.all fun r=>!farR r)=!g.rs_.any farR:=by rw[Ekz]
  rw[e]
  cases g.rs_.any farR with
  | true=>cases z8J g<;>rfl
  | false=>rw[Bool.not_false,ifP rfl,bsS,z4p,k6m h];cases z8J g<;>rfl
end Go.Proofs.YtgkepiefcpfimaaGreatDoor
