/- Abstract states of a walk: plain lemmas on the model, without conditions of their own. -/
import Derived.Test.YtnhofaohogianaaGreatEng3
set_option linter.unusedVariables false
set_option linter.unusedSimpArgs false
set_option linter.ambiguousOpen false
set_option linter.unusedSectionVars false
set_option linter.unnecessarySimpa false
open List renaming flatMap_cons→Bgz,getElem?_take→Anz,map_cons→Bhz,getElem?_drop→Azz
open Nat renaming zero_add→Adz
namespace Go.A
open Go Go.E
section
variable {P:Program}{S:Start}{n:Nat}{ρ:AE}{σ:St}{o:Oper}{rd:List Nat}{v:X}
theorem LT.val (h:∀ σ1 F g w ρc,Sim S F g σ1 w→(∀ i∈rd,σ1 i=fnOf σ i)→(∀ x∈o.op.operands,vr (SM F S.B) w g (evX ρ x) (E.ev ρc x))→∃ vc,Ev P ρc o w vc∧vr (SM F S.B) w g v vc):LT P S o ρ σ rd v []:=by
 intro σ1 F g w ρc hs hr _ hv
 obtain⟨vc,h1,h2⟩:=h σ1 F g w ρc hs hr hv
 rw[show (execOp (E.ev ρc) o).run P w=.ok (.value vc) w from h1]
 exact⟨F,g,hs,Pres.refl,h2⟩
theorem q2I {x:Operand}(ho:o.op=.move x):LT P S o ρ σ [] (evX ρ x) []:=
 LT.val fun _ _ _ _ ρc _ _ hv=>⟨E.ev ρc x,q3c ho rfl,hv x (by simp[ho,Op.operands])⟩
theorem LT.as {x:Operand}(ho:o.op=.assign x):LT P S o ρ σ [] (evX ρ x) []:=
 LT.val fun _ _ _ _ ρc _ _ hv=>⟨E.ev ρc x,q2p ho rfl,hv x (by simp[ho,Op.operands])⟩
theorem q2J {c x y:Operand}{m:Md}{b:Bool}(ho:o.op=.pick c x y)(hc:evX ρ c=.d m (.b b)):LT P S o ρ σ [] (if b then evX ρ x else evX ρ y) []:=
 LT.val fun _ F g w ρc _ _ hv=>by
  have h1:=hv c (by simp[ho,Op.operands])
  rw[hc,vr,rdC] at h1
  refine⟨_,q2q ho h1 rfl rfl,?_⟩
  cases b
  ·exact hv y (by simp[ho,Op.operands])
  ·exact hv x (by simp[ho,Op.operands])
section
variable {F:Nat→Prop}{g:Nat→G}{w:World}{σ1:Nat→Root}
theorem z7t (hs:Sim S F g σ1 w){r k:Nat}{es:List (List Cell)}(he:(∃ m hs,σ1 r=.deep m k es hs)∨∃ m xs,σ1 r=.row m k xs∧es=xs.map (elOf m)):∃ v L gs,g r=.row v k L gs∧rowOk (SM F S.B) w es v k L gs:=by
 have h1:=hs.roots r
 rcases he with ⟨m,hs,he⟩|⟨m,xs,he,rfl⟩<;>rw[he] at h1<;>cases hg:g r<;>rw[hg] at h1<;>first|exact h1.elim|(obtain⟨⟨rfl,h1⟩,_⟩:=h1;exact⟨_,_,_,rfl,h1⟩)|(obtain⟨rfl,h1⟩:=h1;exact⟨_,_,_,rfl,h1⟩)
theorem z6u (hs:Sim S F g σ1 w){r:Nat}{cs:List X}(he:σ1 r=.box cs):∃ b T vs,g r=.box b T∧Blk w b T vs∧vrs (SM F S.B) w g cs vs:=by
 have h1:=hs.roots r
 rw[he] at h1
 cases hg:g r<;>rw[hg] at h1<;>first|exact h1.elim|exact⟨_,_,h1.choose,rfl,h1.choose_spec.1,h1.choose_spec.2⟩
theorem vrs.len {S1:Md→Nat→Prop}:∀ {xs:List X} {vs:List Value},vrs S1 w g xs vs→vs.length=xs.length
 | [],_,h=>by rw[vrs] at h;subst h;rfl
 | x::xs,_,h=>by rw[vrs] at h;obtain⟨v,r,rfl,_,h3⟩:=h;simp[h3.len]
theorem vrs.get {S1:Md→Nat→Prop}:∀ {xs:List X} {vs:List Value},vrs S1 w g xs vs→∀ {c:Nat} {x:X},xs[c]?=some x→∃ v,vs[c]?=some v∧vr S1 w g x v
 | [],_,h,c,x,hx=>by simp at hx
 | y::xs,_,h,c,x,hx=>by
  rw[vrs] at h
  obtain⟨v,r,rfl,h2,h3⟩:=h
  cases c with
  | zero=>simp at hx;subst hx;exact⟨v,rfl,h2⟩
  | succ c=>simpa using h3.get (c:=c) (by simpa using hx)
theorem vrs.take {S1:Md→Nat→Prop}:∀ {xs:List X} {vs:List Value},vrs S1 w g xs vs→∀ k,vrs S1 w g (xs.take k) (vs.take k)
 | [],_,h,k=>by rw[vrs] at h;subst h;simp[vrs]
 | x::xs,_,h,0=>by simp[vrs]
 | x::xs,_,h,k+1=>by
  rw[vrs] at h
  obtain⟨v,r,rfl,h2,h3⟩:=h
  simp only[List.take_succ_cons,vrs]
  exact⟨v,_,rfl,h2,h3.take k⟩
theorem vrs.drop {S1:Md→Nat→Prop}:∀ {xs:List X} {vs:List Value},vrs S1 w g xs vs→∀ k,vrs S1 w g (xs.drop k) (vs.drop k)
 | [],_,h,k=>by rw[vrs] at h;subst h;simp[vrs]
 | x::xs,_,h,0=>by simpa using h
 | x::xs,_,h,k+1=>by
  rw[vrs] at h
  obtain⟨v,r,rfl,h2,h3⟩:=h
  simpa using h3.drop k
theorem vrs.append {S1:Md→Nat→Prop}:∀ {xs ys:List X} {vs us:List Value},vrs S1 w g xs vs→vrs S1 w g ys us→vrs S1 w g (xs++ys) (vs++us)
 | [],ys,_,us,h,h2=>by rw[vrs] at h;subst h;simpa using h2
 | x::xs,ys,_,us,h,k=>by
  rw[vrs] at h
  obtain⟨v,r,rfl,h2,h3⟩:=h
  simp only[List.cons_append,vrs]
  exact⟨v,_,rfl,h2,h3.append k⟩
theorem vrs.set {S1:Md→Nat→Prop}:∀ {xs:List X} {vs:List Value},vrs S1 w g xs vs→∀ {c:Nat} {x:X} {v:Value},vr S1 w g x v→vrs S1 w g (xs.set c x) (vs.set c v)
 | [],_,h,c,x,v,hx=>by rw[vrs] at h;subst h;simp[vrs]
 | y::xs,_,h,0,x,v,hx=>by
  rw[vrs] at h
  obtain⟨u,r,rfl,h2,h3⟩:=h
  simp only[List.set_cons_zero,vrs]
  exact⟨v,r,rfl,hx,h3⟩
 | y::xs,_,h,c+1,x,v,hx=>by
  rw[vrs] at h
  obtain⟨u,r,rfl,h2,h3⟩:=h
  simp only[List.set_cons_succ,vrs]
  exact⟨u,_,rfl,h2,h3.set hx⟩
theorem j4s:∀ {k:Nat} {es:List (List Cell)} {gs:List (List GC)} {S1:Md→Nat→Prop},all2 (elOk S1 w k) es gs→∀ {j:Nat} {ge:List GC},gs[j]?=some ge→∀ c gc,ge[c]?=some gc→(q5k gs)[j*k+c]?=some gc.val
 | k,[],_,_,h,j,ge,hj,_,_,_=>by rw[show _=[] from h] at hj;simp at hj
 | k,e::es,_,S1,⟨g1,r,h1,h2,h3⟩,0,ge,hj,c,gc,hc=>by
  subst h1
  simp at hj;subst hj
  have hlt:c<g1.length:=(List.getElem?_eq_some_iff.1 hc).1
  simp only[q5k,Bgz,Nat.zero_mul,Adz]
  rw[List.getElem?_append_left (by simpa using hlt)]
  simp[hc]
 | k,e::es,_,S1,⟨g1,r,h1,h2,h3⟩,j+1,ge,hj,c,gc,hc=>by
  subst h1
  have ih:=j4s h3 (j:=j) (by simpa using hj) c gc hc
  have hl:(g1.map (·.val)).length=k:=by rw[lnM,h2.2.len,h2.1]
  have hm:(j+1)*k=k+j*k:=by rw[Nat.add_mul];omega
  simp only[q5k,Bgz]
  rw[List.getElem?_append_right (by omega),show (j+1)*k+c-(g1.map (·.val)).length=j*k+c by omega]
  exact ih
end
theorem q3j {T:TypeId}{x:Operand}{i k r c:Nat}{cs:List X}(ho:o.op=.fieldAddr T x i)(hT:z7p P T i=some k)(hx:evX ρ x=.pb r c)(hσ:fnOf σ r=.box cs):LT P S o ρ σ [r] (.pb r (c+k)) []:=
 LT.val fun σ1 F g w ρc hs hr hv=>by
  have h1:=hv x (by simp[ho,Op.operands])
  obtain⟨b,T',vs,hg,hb,hc⟩:=z6u hs ((hr r (by simp)).trans hσ)
  rw[hx,vr,hg] at h1
  exact⟨_,q0H ho hT h1,by rw[vr,hg]⟩
theorem q3k {T:TypeId}{x:Operand}{i k:Nat}{m:Md}{ds:List D}(ho:o.op=.fieldAddr T x i)(hT:z7p P T i=some k)(hx:evX ρ x=.pf m ds):LT P S o ρ σ [] (.pf m (ds.drop k)) []:=
 LT.val fun σ1 F g w ρc hs hr hv=>by
  have h1:=hv x (by simp[ho,Op.operands])
  rw[hx,vr] at h1
  obtain⟨b,off,cs,h1,h2,h3,h4,h5⟩:=h1
  refine⟨_,q0H ho hT h1,?_⟩
  rw[vr]
  exact⟨b,off+k,cs.drop k,rfl,h2,h3,h4.sub k _ fun i v hv=>by simpa using hv,h5.drop k⟩
def esAt (x:Root):Option (Nat×Nat)→Option (Nat×List (List Cell))
 | none=>match x with|.row m k xs=>some (k,xs.map (elOf m))|.deep _ k es _=>some (k,es)|_=>none
 | some _=>none
theorem OwnR.at {w:World}{k:Nat}{v:Value}{n:Nat}{L:List Nat}{cs:List Value}(h:OwnR w k v n L cs):n=0∨∃ b c T cur,v=.slice (some ⟨b,0,none⟩) n c∧At w b 0 cs∧b∈L∧w.heap[b]?=some (.cells cur T (0,0))∧n*k≤cur.size∧cur.toList.take (n*k)=cs:=by
 obtain⟨e,⟨_,h⟩,hL⟩:=h
 rcases h with ⟨_,h⟩|⟨b,cap,cur,h,_,h2,h3,h4,h5,h6⟩
 ·exact .inl h
 ·refine .inr ⟨b,cap,e,cur,h,?_,by rw[hL,h];simp[Value.ownBlock],h2,by rw[h5];exact Nat.mul_le_mul_right _ h3,h6⟩
  intro c v hv
  rw[Adz,cell_of_row w b _ _ e (0,0) h2]
  rw[← h6,Anz] at hv
  split at hv
  ·simpa using hv
  ·cases hv
theorem j4t {F:Nat→Prop}{g:Nat→G}{w:World}{σ1:Nat→Root}(hs:Sim S F g σ1 w){r k:Nat}{l:Option (Nat×Nat)}{es:List (List Cell)}(he:esAt (σ1 r) l=some (k,es)) :
  ∃ (v:Value) (k0:Nat) (L:List Nat) (gs:List (List GC)),g r=.row v k0 L gs∧∃ (u:Value) (LL:List Nat) (cs:List Value),G.at (.row v k0 L gs) l=some (u,k)∧OwnR w k u es.length LL cs∧(∀ b∈LL,b∈bl (g r)) ∧
   ∀ (j:Nat) (e:List Cell),es[j]?=some e→e.length=k∧∃ vs:List Value,vs.length=k∧(∀ (c:Nat) (v:Value),vs[c]?=some v→cs[j*k+c]?=some v)∧∀ (c:Nat) (cell:Cell),e[c]?=some cell→∃ vc,vs[c]?=some vc∧(∃ gc,(gs[j]?).bind (·[c]?)=some gc∧gc.val=vc)∧(match cell with
    | Cell.d m x=>rdC (SM F S.B m) w x vc
    | Cell.nl _=>vc=.slice none 0 0
    | Cell.u=>vc.oneCell'=true
    | _=>True):=by
 cases l with
 | none=>
  have:(∃ m hs,σ1 r=.deep m k es hs)∨∃ m xs,σ1 r=.row m k xs∧es=xs.map (elOf m):=by
   revert he
   cases σ1 r<;>intro he<;>simp[esAt] at he
   ·obtain⟨rfl,rfl⟩:=he;exact .inr ⟨_,_,rfl,rfl⟩
   ·obtain⟨rfl,rfl⟩:=he;exact .inl ⟨_,_,rfl⟩
  obtain⟨v,L,gs,hg,hrow⟩:=z7t hs this
  refine⟨v,k,L,gs,hg,v,L,q5k gs,rfl,hrow.1,fun b hb=>by rw[hg];simp[bl,hb],fun j e hj=>?_⟩
  obtain⟨ge,hge,hel⟩:=hrow.2.get hj
  refine⟨hel.1,ge.map (·.val),by rw[lnM,hel.2.len,hel.1],fun c v hv=>?_,fun c cell hc=>?_⟩
  ·rw[List.getElem?_map] at hv
   cases hgc:ge[c]? with
   | none=>rw[hgc] at hv;cases hv
   | some gc=>
    rw[hgc] at hv
    cases hv
    exact j4s hrow.2 hge c gc hgc
  ·obtain⟨gc,hgc,hcl⟩:=hel.2.get hc
   refine⟨gc.val,by simp[hgc],⟨gc,by simp[hge,hgc],rfl⟩,?_⟩
   cases cell with
   | d m y=>exact hcl.2.2
   | nl k=>exact hcl.2.2
   | u=>exact hcl.2.2
   | _=>trivial
 | some jc=>cases he
theorem q3l {T:TypeId}{x:Operand}{i k r j c:Nat}{l:Option (Nat×Nat)}{p:Nat×List (List Cell)}(ho:o.op=.fieldAddr T x i)(hT:z7p P T i=some k)(hx:evX ρ x=.pe r l j c)(hσ:esAt (fnOf σ r) l=some p):LT P S o ρ σ [r] (.pe r l j (c+k)) []:=
 LT.val fun σ1 F g w ρc hs hr hv=>by
  have h1:=hv x (by simp[ho,Op.operands])
  obtain⟨v,k',L,gs,hg,u,LL,cs,hat,_⟩:=j4t hs (r:=r) (l:=l) (k:=p.1) (es:=p.2) (by rw[hr r (by simp)];exact hσ)
  rw[hx,vr,hg] at h1
  obtain⟨b,n,cp,h2,h3,h4⟩:=h1 u _ hat
  refine⟨_,q0H ho hT h4,?_⟩
  rw[vr,hg]
  intro u' q' hat'
  rw[hat] at hat'
  cases hat'
  exact⟨b,n,cp,h2,h3,by rw[Nat.add_assoc]⟩
def dX:Md→D→X
 | m,.sl k xs=>.d m (.sl k xs)
 | m,.a cs=>.d m (.a cs)
 | _,x=>.d .fz x
theorem k4C {S1:Md→Nat→Prop}{w:World}{g:Nat→G}{m:Md}{x:D}{v:Value}(h:rdC (S1 m) w x v):vr S1 w g (dX m x) v:=by
 cases x<;>simp only[dX]<;>rw[vr]<;>first|exact h|(rw[rdC] at h ⊢;exact h)
theorem j9J {S1:Md→Nat→Prop}{w:World}{g:Nat→G}{m:Md}:∀ {xs:List D} {vs:List Value},rdCs (S1 m) w xs vs→vrs S1 w g (xs.map (dX m)) vs
 | [],_,h=>by rw[rdCs] at h;subst h;simp[vrs]
 | x::xs,_,h=>by
  rw[rdCs] at h
  obtain⟨v,r,rfl,h2,h3⟩:=h
  rw[Bhz,vrs]
  exact⟨v,r,rfl,k4C h2,j9J h3⟩
theorem q3m {T:TypeId}{x:Operand}{r c:Nat}{cs:List X}{y:X}(ho:o.op=.load T x)(hT:aggT P T=some false)(hx:evX ρ x=.pb r c)(hσ:fnOf σ r=.box cs)(hc:cs[c]?=some y):LT P S o ρ σ [r] y []:=
 LT.val fun σ1 F g w ρc hs hr hv=>by
  have h1:=hv x (by simp[ho,Op.operands])
  obtain⟨b,T',vs,hg,hb,hcs⟩:=z6u hs ((hr r (by simp)).trans hσ)
  rw[hx,vr,hg] at h1
  obtain⟨v,hv1,hv2⟩:=hcs.get hc
  exact⟨v,q0B ho hT h1 (hb.cell hv1),hv2⟩
theorem q2K {T k:TypeId}{x:Operand}{r c:Nat}{cs:List X}(ho:o.op=.load T x)(hT:aggT P T=some true)(hk:szT P T=some k)(hx:evX ρ x=.pb r c)(hσ:fnOf σ r=.box cs)(hc:((cs.drop c).take k).length=k):LT P S o ρ σ [r] (.ag ((cs.drop c).take k)) []:=
 LT.val fun σ1 F g w ρc hs hr hv=>by
  have h1:=hv x (by simp[ho,Op.operands])
  obtain⟨b,T',vs,hg,hb,hcs⟩:=z6u hs ((hr r (by simp)).trans hσ)
  rw[hx,vr,hg] at h1
  have h2:=(hcs.drop c).take k
  refine⟨_,q1a ho hT hk h1 (hb.part c k) (h2.len.trans hc),?_⟩
  rw[vr]
  exact⟨_,rfl,h2⟩
theorem q3n {T:TypeId}{x:Operand}{m:Md}{d:D}{ds:List D}(ho:o.op=.load T x)(hT:aggT P T=some false)(hx:evX ρ x=.pf m (d::ds)):LT P S o ρ σ [] (dX m d) []:=
 LT.val fun σ1 F g w ρc hs hr hv=>by
  have h1:=hv x (by simp[ho,Op.operands])
  rw[hx,vr] at h1
  obtain⟨b,off,cs,h1,h2,h3,h4,h5⟩:=h1
  rw[rdCs] at h5
  obtain⟨v,r,rfl,h6,_⟩:=h5
  exact⟨v,q0B ho hT h1 (h4.cell0 rfl),k4C h6⟩
theorem q0K {T k:TypeId}{x:Operand}{m:Md}{ds:List D}(ho:o.op=.load T x)(hT:aggT P T=some true)(hk:szT P T=some k)(hx:evX ρ x=.pf m ds)(hl:(ds.take k).length=k):LT P S o ρ σ [] (.ag ((ds.take k).map (dX m))) []:=
 LT.val fun σ1 F g w ρc hs hr hv=>by
  have h1:=hv x (by simp[ho,Op.operands])
  rw[hx,vr] at h1
  obtain⟨b,off,cs,h1,h2,h3,h4,h5⟩:=h1
  have h6:=h5.take k
  refine⟨_,q1a (cs:=cs.take k) ho hT hk h1 ?_ (h6.len.trans hl),?_⟩
  ·have:=h4.sub 0 (cs.take k) fun i v hv=>by
    rw[Adz]
    rw[Anz] at hv
    split at hv
    ·exact hv
    ·cases hv
   simpa using this
  ·rw[vr]
   exact⟨_,rfl,j9J h6⟩
def j1P (hx:List (Nat×Nat))(c:Nat):Cell→Option X
 | .d m x=>some (dX m x)
 | .nl k=>some (.nl k)
 | .u=>match hx.find? (fun p=>Nat.beq p.1 c) with|some p=>some (.ref p.2 none)|none=>some .u
 | _=>none
def z9j (hx:List (Nat×Nat)):Nat→List Cell→Option (List X)
 | _,[]=>some []
 | c,x::xs=>match j1P hx c x,z9j hx (c+1) xs with
  | some y,some ys=>some (y::ys)
  | _,_=>none
def HxOf (x:Root)(j:Nat)(hx:List (Nat×Nat)):Prop:=hx=[]∨∃ m k es,x=.deep m k es (hx.map fun p=>(j,p.1,p.2))
theorem k2l {F:Nat→Prop}{g:Nat→G}{w:World}{σ1:Nat→Root}(hs:Sim S F g σ1 w){r k:Nat}{l:Option (Nat×Nat)}{es:List (List Cell)}(he:esAt (σ1 r) l=some (k,es)){j:Nat}{e:List Cell}(hj:es[j]?=some e){hx:List (Nat×Nat)}(hhx:HxOf (σ1 r) j hx) :
  ∃ v k0 L gs,g r=.row v k0 L gs∧∃ b A' c',G.at (.row v k0 L gs) l=some (.slice (some ⟨b,0,none⟩) A' c',k)∧j<A'∧e.length=k∧∃ vs,vs.length=k∧At w b (j*k) vs ∧
   b∈bl (g r)∧∀ c cell,e[c]?=some cell→∃ vc,vs[c]?=some vc∧∀ x,j1P hx c cell=some x→vr (SM F S.B) w g x vc:=by
 have hlt:j<es.length:=(List.getElem?_eq_some_iff.1 hj).1
 obtain⟨v,k0,L,gs,hg,u,LL,cs,hat,hown,hb,hel⟩:=j4t hs he
 obtain⟨hl,vs,hvl,hvs,hcell⟩:=hel j e hj
 rcases hown.at with h0|⟨b,c',T,cur,rfl,hba,hbL,_⟩
 ·omega
 ·refine⟨v,k0,L,gs,hg,b,_,_,hat,hlt,hl,vs,hvl,?_,hb b hbL,fun c cell hc=>?_⟩
  ·intro c v hv
   have:=hba _ _ (hvs c v hv)
   rwa[Adz] at this
  ·obtain⟨vc,h1,⟨gc,h3,h4⟩,h2⟩:=hcell c cell hc
   refine⟨vc,h1,fun x hX=>?_⟩
   cases cell with
   | d m y=>simp only[j1P] at hX;cases hX;exact k4C h2
   | nl k=>simp only[j1P] at hX;cases hX;rw[vr];exact h2
   | u=>
    simp only[j1P] at hX
    split at hX
    ·rename_i p hp
     cases hX
     have hpm:=List.mem_of_find?_eq_some hp
     have hpc:=Nat.eq_of_beq_eq_true (by simpa using List.find?_some hp)
     rcases hhx with rfl|⟨m1,k1,es1,hr⟩
     ·cases hpm
     ·have h5:=hs.roots r
      rw[hr,hg] at h5
      have h6:=h5.2.1 (j,p.1,p.2) (List.mem_map.2 ⟨p,hpm,rfl⟩) gc (by rw[hpc];exact h3)
      rw[vr]
      revert h6
      cases g p.2<;>intro h6<;>first|exact h6.elim|trivial|skip
      intro u q hu
      rw[← h4]
      exact h6 u q hu
    ·cases hX;rw[vr];trivial
   | o=>cases hX
   | w=>cases hX
theorem q1l {T:TypeId}{x:Operand}{r j c:Nat}{l:Option (Nat×Nat)}{p:Nat×List (List Cell)}{e:List Cell}{cell:Cell}{y:X}(ho:o.op=.load T x)(hT:aggT P T=some false)(hx:evX ρ x=.pe r l j c)(hσ:esAt (fnOf σ r) l=some p)(hj:p.2[j]?=some e)(hc:e[c]?=some cell){hx' : List (Nat×Nat)}(hh:HxOf (fnOf σ r) j hx')(hy:j1P hx' c cell=some y):LT P S o ρ σ [r] y []:=
 LT.val fun σ1 F g w ρc hs hr hv=>by
  have h1:=hv x (by simp[ho,Op.operands])
  obtain⟨v,k,L,gs,hg,b,A',c',hat,hlt,hlen,vs,hvl,hvat,_,hcells⟩:=k2l hs (k:=p.1) (es:=p.2) (by rw[hr r (by simp)];exact hσ) hj (hx:=hx') (by rw[hr r (by simp)];exact hh)
  rw[hx,vr,hg] at h1
  obtain⟨b',n',cp',h2,h3,h4⟩:=h1 _ _ hat
  cases h2
  obtain⟨vc,h5,h6⟩:=hcells c cell hc
  refine⟨vc,q0B ho hT h4 (hvat c vc h5),h6 y hy⟩
theorem j2u {S1:Md→Nat→Prop}{w:World}{g:Nat→G}{hx:List (Nat×Nat)}:∀ {e:List Cell} {c:Nat} {ys:List X} {vs:List Value},z9j hx c e=some ys→vs.length=e.length→(∀ i cell,e[i]?=some cell→∃ vc,vs[i]?=some vc∧∀ x,j1P hx (c+i) cell=some x→vr S1 w g x vc)→vrs S1 w g ys vs
 | [],c,ys,vs,h,hl,_=>by simp[z9j] at h;subst h;rw[vrs];exact List.eq_nil_of_length_eq_zero hl
 | a::e,c,ys,vs,h,hl,hc=>by
  simp only[z9j] at h
  split at h
  ·rename_i y ys' h1 h2
   cases h
   cases vs with
   | nil=>simp at hl
   | cons v vs=>
    obtain⟨vc,h3,h4⟩:=hc 0 a rfl
    simp at h3
    subst h3
    rw[vrs]
    refine⟨v,vs,rfl,h4 y h1,j2u h2 (by simpa using hl) fun i cell hi=>?_⟩
    obtain⟨vc,h5,h6⟩:=hc (i+1) cell (by simpa using hi)
    exact⟨vc,by simpa using h5,fun x hx=>h6 x (by rw[show c+(i+1)=c+1+i by omega];exact hx)⟩
  ·cases h
theorem q0L {T k:TypeId}{x:Operand}{r j c:Nat}{l:Option (Nat×Nat)}{p:Nat×List (List Cell)}{e:List Cell}{ys:List X}(ho:o.op=.load T x)(hT:aggT P T=some true)(hk:szT P T=some k)(hx:evX ρ x=.pe r l j c)(hσ:esAt (fnOf σ r) l=some p)(hj:p.2[j]?=some e)(hl:((e.drop c).take k).length=k){hx' : List (Nat×Nat)}(hh:HxOf (fnOf σ r) j hx')(hy:z9j hx' c ((e.drop c).take k)=some ys):LT P S o ρ σ [r] (.ag ys) []:=
 LT.val fun σ1 F g w ρc hs hr hv=>by
  have h1:=hv x (by simp[ho,Op.operands])
  obtain⟨v,k',L,gs,hg,b,A',c',hat,hlt,hlen,vs,hvl,hvat,_,hcells⟩:=k2l hs (k:=p.1) (es:=p.2) (by rw[hr r (by simp)];exact hσ) hj (hx:=hx') (by rw[hr r (by simp)];exact hh)
  rw[hx,vr,hg] at h1
  obtain⟨b',n',cp',h2,h3,h4⟩:=h1 _ _ hat
  cases h2
  have hl2:((vs.drop c).take k).length=k:=by
   simp only[List.length_take,List.length_drop] at hl ⊢;omega
  refine⟨_,q1a (cs:=(vs.drop c).take k) ho hT hk h4 (hvat.part c k) hl2,?_⟩
  rw[vr]
  refine⟨_,rfl,j2u hy (hl2.trans hl.symm) fun i cell hi=>?_⟩
  rw[Anz] at hi
  split at hi
  ·rename_i hik
   rw[Azz] at hi
   obtain⟨vc,h5,h6⟩:=hcells (c+i) cell hi
   exact⟨vc,by rw[Anz,ifP hik,Azz];exact h5,h6⟩
  ·cases hi
end
section
variable {P:Program}{S:Start}{n:Nat}{ρ:AE}{σ:St}{o:Oper}
theorem rd1.len {S1:Nat→Prop}{w:World}{x:D}{c:List Value}(h:rd1 S1 w x c):c.length=x.cells.length:=rdCs.len h
theorem q3o {T e k:TypeId}{x i:Operand}{m m' : Md}{xs:List D}{q:IntKind}{j:Int}{y:D}(ho:o.op=.indexAddr T x i)(hT:q7i P T=some e)(hk:szT P e=some k)(hx:evX ρ x=.d m (.sl k xs))(hi:evX ρ i=.d m' (.i q j))(h0:0≤j)(hj:xs[j.toNat]?=some y):LT P S o ρ σ [] (.pf m y.cells) []:=
 LT.val fun σ1 F g w ρc hs hr hv=>by
  have h1:=hv x (by simp[ho,Op.operands])
  have h2:=hv i (by simp[ho,Op.operands])
  rw[hx,vr,rdC] at h1
  rw[hi,vr,rdC] at h2
  replace h2:=h2.1
  obtain⟨A,cap,cells,h3,h4,h5,h6,h7⟩:=h1
  have hlt:j.toNat<xs.length:=(List.getElem?_eq_some_iff.1 hj).1
  rcases h7 with h7|⟨b,off,rfl,hb,hbl,hat⟩
  ·rw[h7] at hlt;simp at hlt
  ·obtain⟨c,hc1,hc2,hc3⟩:=h6.get hj
   refine⟨_,q0J ho hT hk h3 rfl h2 h0 (by omega),?_⟩
   rw[vr]
   exact⟨b,_,c,rfl,hb,hbl,hat.sub _ c hc3,hc2⟩
theorem q1m {T e k:TypeId}{x i:Operand}{m' : Md}{r:Nat}{l:Option (Nat×Nat)}{es:List (List Cell)}{q:IntKind}{j:Int}{y:List Cell}(ho:o.op=.indexAddr T x i)(hT:q7i P T=some e)(hk:szT P e=some k)(hx:evX ρ x=.ref r l)(hσ:esAt (fnOf σ r) l=some (k,es))(hi:evX ρ i=.d m' (.i q j))(h0:0≤j)(hj:es[j.toNat]?=some y):LT P S o ρ σ [r] (.pe r l j.toNat 0) []:=
 LT.val fun σ1 F g w ρc hs hr hv=>by
  have h1:=hv x (by simp[ho,Op.operands])
  have h2:=hv i (by simp[ho,Op.operands])
  rw[hi,vr,rdC] at h2
  replace h2:=h2.1
  obtain⟨v,k',L,gs,hg,b,n',c',hat,hlt,hlen,_⟩:=k2l hs (by rw[hr r (by simp)];exact hσ) hj (hx:=[]) (.inl rfl)
  rw[hx,vr,hg] at h1
  have h3:=h1 _ _ hat
  refine⟨_,q0J ho hT hk h3 rfl h2 h0 (by omega),?_⟩
  rw[vr,hg]
  intro u q2 hat'
  rw[hat] at hat'
  cases hat'
  exact⟨b,n',c',rfl,hlt,by simp⟩
theorem q3p {T e k:TypeId}{x i:Operand}{m' : Md}{r lo n:Nat}{l:Option (Nat×Nat)}{es:List (List Cell)}{q:IntKind}{j:Int}{y:List Cell}(ho:o.op=.indexAddr T x i)(hT:q7i P T=some e)(hk:szT P e=some k)(hx:evX ρ x=.vs r l lo n)(hσ:esAt (fnOf σ r) l=some (k,es))(hi:evX ρ i=.d m' (.i q j))(h0:0≤j)(hn:j.toNat<n)(hj:es[lo+j.toNat]?=some y):LT P S o ρ σ [r] (.pe r l (lo+j.toNat) 0) []:=
 LT.val fun σ1 F g w ρc hs hr hv=>by
  have h1:=hv x (by simp[ho,Op.operands])
  have h2:=hv i (by simp[ho,Op.operands])
  rw[hi,vr,rdC] at h2
  replace h2:=h2.1
  obtain⟨v,k',L,gs,hg,b,n',c',hat,hlt,hlen,_⟩:=k2l hs (by rw[hr r (by simp)];exact hσ) hj (hx:=[]) (.inl rfl)
  rw[hx,vr,hg] at h1
  obtain⟨A,mm,cp,A',cp',e1,h3,h4,h5,h6,h7⟩:=h1 _ _ hat
  rcases h7 with h7|⟨b',e2,e3⟩
  ·omega
  ·cases e1
   cases e2
   refine⟨_,q0J ho hT hk h4 e3 h2 h0 (by omega),?_⟩
   rw[vr,hg]
   intro u q2 hat'
   rw[hat] at hat'
   cases hat'
   exact⟨b,n',c',rfl,hlt,by rw[Nat.add_mul];rfl⟩
theorem q1n {T e:TypeId}{x:Operand}{m:Md}{xs:List D}{k k' : Nat}(ho:o.op=.call { callee:=.builtin .len,args:=#[x],argTypes:=#[T] })(hT:q7i P T=some e)(hx:evX ρ x=.d m (.sl k' xs))(hk:xs.length=k):LT P S o ρ σ [] (.d .fz (.i .i64 k)) []:=
 LT.val fun σ1 F g w ρc hs hr hv=>by
  have h1:=hv x (by simp[ho,Op.operands,Call.operands])
  rw[hx,vr,rdC] at h1
  obtain⟨A,cap,cells,h3,h4,h5,_⟩:=h1
  subst hk
  have h5:cap≤9223372036854775807:=h5
  exact⟨_,q0I ho hT h3,by rw[vr,rdC];exact⟨rfl,by simp only[rngI];omega⟩⟩
theorem q0M {T e:TypeId}{x:Operand}{r:Nat}{l:Option (Nat×Nat)}{es:List (List Cell)}{k k' : Nat}(ho:o.op=.call { callee:=.builtin .len,args:=#[x],argTypes:=#[T] })(hT:q7i P T=some e)(hx:evX ρ x=.ref r l)(hσ:esAt (fnOf σ r) l=some (k',es))(hk:es.length=k):LT P S o ρ σ [r] (.d .fz (.i .i64 k)) []:=
 LT.val fun σ1 F g w ρc hs hr hv=>by
  have h1:=hv x (by simp[ho,Op.operands,Call.operands])
  obtain⟨v,k0,L,gs,hg,u,LL,cs,hat,hown,_⟩:=j4t hs (r:=r) (l:=l) (by rw[hr r (by simp)];exact hσ)
  obtain⟨A,c,rfl,h4,h5⟩:=hown.form
  rw[hx,vr,hg] at h1
  subst hk
  have h5:c≤9223372036854775807:=h5
  exact⟨_,q0I ho hT (h1 _ _ hat),by rw[vr,rdC];exact⟨rfl,by simp only[rngI];omega⟩⟩
theorem q2L {T e:TypeId}{x:Operand}{r lo k:Nat}{l:Option (Nat×Nat)}{p:Nat×List (List Cell)}(ho:o.op=.call { callee:=.builtin .len,args:=#[x],argTypes:=#[T] })(hT:q7i P T=some e)(hx:evX ρ x=.vs r l lo k)(hσ:esAt (fnOf σ r) l=some p):LT P S o ρ σ [r] (.d .fz (.i .i64 k)) []:=
 LT.val fun σ1 F g w ρc hs hr hv=>by
  have h1:=hv x (by simp[ho,Op.operands,Call.operands])
  obtain⟨v,k0,L,gs,hg,u,LL,cs,hat,hown,_⟩:=j4t hs (r:=r) (l:=l) (k:=p.1) (es:=p.2) (by rw[hr r (by simp)];exact hσ)
  rw[hx,vr,hg] at h1
  obtain⟨_,_,_,A',cp',_,_,h4,h5,h6,_⟩:=h1 _ _ hat
  have h6:cp'≤9223372036854775807:=h6
  exact⟨_,q0I ho hT h4,by rw[vr,rdC];exact⟨rfl,by simp only[rngI];omega⟩⟩
theorem q2M {T:TypeId}{x:Operand}{m:Md}{s:BA_}(ho:o.op=.call { callee:=.builtin .len,args:=#[x],argTypes:=#[T] })(hT:P.underlying T=some .string)(hx:evX ρ x=.d m (.s s)):LT P S o ρ σ [] (.d .fz (.i .i64 s.size)) []:=
 LT.val fun σ1 F g w ρc hs hr hv=>by
  have h1:=hv x (by simp[ho,Op.operands,Call.operands])
  rw[hx,vr,rdC] at h1
  have h2:=h1.2
  exact⟨_,q2r ho hT h1.1,by rw[vr,rdC];exact⟨rfl,by simp only[rngI];omega⟩⟩
theorem rdC.cut {S1:Nat→Prop}{w:World}{k:Nat}{xs:List D}{A:Option Addr}{m c:Nat}(h:rdC S1 w (.sl k xs) (.slice A m c)){l h' : Nat}(hlh:l≤h')(hh:h'≤xs.length):rdC S1 w (.sl k ((xs.take h').drop l)) (cutS A l h' c k):=by
 rw[rdC] at h ⊢
 obtain⟨A',cap,cells,e,h1,h2,h3,h4⟩:=h
 cases e
 refine⟨if c=l then A else A.map (·.add (l*k)),c-l,(cells.take (h'*k)).drop (l*k),by simp[cutS,List.length_drop,List.length_take,Nat.min_eq_left hh],by simp;omega,by omega,(h3.take h').drop l,?_⟩
 rcases h4 with rfl|⟨b,o,rfl,hb,hbl,ha⟩
 ·left;simp
 ·by_cases hlc:c=l
  ·left
   have:l=h':=by omega
   subst this
   simp
  ·right
   refine⟨b,o+l*k,?_,hb,hbl,fun j v hv=>?_⟩
   ·have hadd:(⟨b,o,none⟩:Addr).add (l*k)=⟨b,o+l*k,none⟩:=by unfold Addr.add;split<;>simp_all
    simp[ifN hlc,hadd]
   ·rw[Azz,Anz] at hv
    split at hv
    ·rw[Nat.add_assoc];exact ha _ v hv
    ·cases hv
theorem j5U {j:Int}(h:0≤j):((j.toNat:Nat):Int)=j:=Int.toNat_of_nonneg h
theorem q3q {T e k:TypeId}{x hi:Operand}{m m2:Md}{xs:List D}{q' : IntKind}{b:Int}(ho:o.op=.slice T x none (some hi) none)(hT:q7i P T=some e)(hk:szT P e=some k)(hx:evX ρ x=.d m (.sl k xs))(hh:evX ρ hi=.d m2 (.i q' b))
  (h1:0≤b) (h3:b.toNat≤xs.length):LT P S o ρ σ [] (.d m (.sl k (xs.take b.toNat))) []:=
 LT.val fun σ1 F g w ρc hs hr hv=>by
  have e1:=hv x (by simp[ho,Op.operands])
  have e3:=hv hi (by simp[ho,Op.operands])
  rw[hh,vr,rdC] at e3
  replace e3:=e3.1
  rw[← j5U h1] at e3
  rw[hx,vr] at e1
  have e4:=e1
  rw[rdC] at e4
  obtain⟨A,cap,_,e5,h4,_⟩:=e4
  rw[e5] at e1
  exact⟨_,q1g ho hT hk e5 e3 (by omega),by rw[vr];exact e1.cut (l:=0) (Nat.zero_le _) h3⟩
theorem q3r {T e k:TypeId}{x lo:Operand}{m m1:Md}{xs:List D}{q:IntKind}{a:Int}(ho:o.op=.slice T x (some lo) none none)(hT:q7i P T=some e)(hk:szT P e=some k)(hx:evX ρ x=.d m (.sl k xs))(hl:evX ρ lo=.d m1 (.i q a))
  (h0:0≤a) (h2:a.toNat≤xs.length):LT P S o ρ σ [] (.d m (.sl k (xs.drop a.toNat))) []:=
 LT.val fun σ1 F g w ρc hs hr hv=>by
  have e1:=hv x (by simp[ho,Op.operands])
  have e2:=hv lo (by simp[ho,Op.operands])
  rw[hl,vr,rdC] at e2
  replace e2:=e2.1
  rw[← j5U h0] at e2
  rw[hx,vr] at e1
  have e4:=e1
  rw[rdC] at e4
  obtain⟨A,cap,_,e5,h4,_⟩:=e4
  rw[e5] at e1
  refine⟨_,q2d ho hT hk e5 e2 (by omega),?_⟩
  rw[vr]
  have:=e1.cut (l:=a.toNat) (h':=xs.length) h2 (Nat.le_refl _)
  rwa[List.take_length] at this
theorem k2m {v:Value}{A:Option Addr}{n c l h k:Nat}(hv:v=.slice A n c)(h1:l≤h)(h2:h≤n)(h3:n≤c)(h4:c≤maxLen)(hA:n=0∨∃ b,A=some ⟨b,0,none⟩):j2q v k l (h-l) (cutS A l h c k):=by
 refine⟨A,n,c,if c=l then A else A.map (·.add (l*k)),c-l,hv,by omega,rfl,by omega,by omega,?_⟩
 by_cases hlc:c=l
 ·left;omega
 ·rcases hA with hA|⟨b,rfl⟩
  ·left;omega
  ·right
   refine⟨b,rfl,?_⟩
   have hadd:(⟨b,0,none⟩:Addr).add (l*k)=⟨b,l*k,none⟩:=by unfold Addr.add;split<;>simp_all
   simp[ifN hlc,hadd]
theorem q3s {T e k:TypeId}{x:Operand}{lo hi:Option Operand}{r:Nat}{l:Option (Nat×Nat)}{es:List (List Cell)}{a b:Int}(ho:o.op=.slice T x lo hi none)(hT:q7i P T=some e)(hk:szT P e=some k)(hx:evX ρ x=.ref r l)(hσ:esAt (fnOf σ r) l=some (k,es))
  (hl:match lo with|some y=>∃ m q,evX ρ y=.d m (.i q a)|none=>a=0) (hh:match hi with|some y=>∃ m q,evX ρ y=.d m (.i q b)|none=>b=es.length∧lo≠none)
  (h0:0≤a) (h1:0≤b) (h2:a.toNat≤b.toNat) (h3:b.toNat≤es.length):LT P S o ρ σ [r] (.vs r l a.toNat (b.toNat-a.toNat)) []:=
 LT.val fun σ1 F g w ρc hs hr hv=>by
  have hσ' : esAt (σ1 r) l=some (k,es):=by rw[hr r (by simp)];exact hσ
  have e1:=hv x (by simp[ho,Op.operands])
  obtain⟨v,k',L,gs,hg,u,LL,cs,hat,hown,_⟩:=j4t hs hσ'
  obtain⟨A,c,rfl,h5,h6⟩:=hown.form
  rw[hx,vr,hg] at e1
  have e2:=e1 _ _ hat
  have hA:es.length=0∨∃ b,A=some ⟨b,0,none⟩:=hown.at.imp id fun ⟨b,c',_,_,e,_⟩=>by cases e;exact⟨b,rfl⟩
  have fin:∀ vc,Ev P ρc o w vc→vc=cutS A a.toNat b.toNat c k→∃ vc,Ev P ρc o w vc∧vr (SM F S.B) w g (.vs r l a.toNat (b.toNat-a.toNat)) vc:=fun vc hev hvc=>by
   refine⟨vc,hev,?_⟩
   rw[vr,hg]
   intro u' q' hat'
   rw[hat] at hat'
   cases hat'
   subst hvc
   exact k2m rfl h2 h3 h5 h6 hA
  cases lo with
  | none=>
   simp only at hl
   subst hl
   cases hi with
   | none=>exact absurd rfl hh.2
   | some y=>
    obtain⟨m,q1,hy⟩:=hh
    have e3:=hv y (by simp[ho,Op.operands])
    rw[hy,vr,rdC] at e3
    replace e3:=e3.1
    rw[← j5U h1] at e3
    exact fin _ (q1g ho hT hk e2 e3 (by omega)) rfl
  | some y=>
   obtain⟨m,q1,hy⟩:=hl
   have e3:=hv y (by simp[ho,Op.operands])
   rw[hy,vr,rdC] at e3
   replace e3:=e3.1
   rw[← j5U h0] at e3
   cases hi with
   | none=>
    obtain⟨rfl,_⟩:=hh
    exact fin _ (q2d ho hT hk e2 e3 (by simpa using h2)) rfl
   | some z=>
    obtain⟨m2,q2,hz⟩:=hh
    have e4:=hv z (by simp[ho,Op.operands])
    rw[hz,vr,rdC] at e4
    replace e4:=e4.1
    rw[← j5U h1] at e4
    exact fin _ (q2A ho hT hk e2 e3 e4 h2 (by omega)) rfl
def cv:D→Option Value
 | .i k n=>some (.int k n)
 | .b b=>some (.bool b)
 | .s t=>some (.string t)
 | _=>none
theorem j9K {S1:Nat→Prop}{w:World}{x:D}{u v:Value}(h:cv x=some u):rdC S1 w x v↔v=u∧rngD x:=by
 cases x<;>simp only[cv] at h<;>cases h<;>simp only[rdC,rngD,and_true]
def cvX:X→Option Value
 | .d _ x=>cv x
 | _=>none
theorem j7t {S1:Md→Nat→Prop}{w:World}{g:Nat→G}{x:X}{u v:Value}(h:cvX x=some u)(hv:vr S1 w g x v):v=u:=by
 cases x<;>simp only[cvX] at h<;>first|(rw[vr] at hv;exact ((j9K h).1 hv).1)|cases h
def rngX:X→Prop
 | .d _ x=>rngD x
 | _=>True
theorem j5V {S1:Md→Nat→Prop}{w:World}{g:Nat→G}{x:X}{u v:Value}(h:cvX x=some u)(hv:vr S1 w g x v):rngX x:=by
 cases x<;>simp only[cvX] at h<;>first|(rw[vr] at hv;exact ((j9K h).1 hv).2)|cases h
def cvL:List X→Option (List Value)
 | []=>some []
 | x::xs=>match cvX x,cvL xs with
  | some v,some vs=>some (v::vs)
  | _,_=>none
theorem j5W {S1:Md→Nat→Prop}{w:World}{g:Nat→G}:∀ {xs:List X} {us vs:List Value},cvL xs=some us→vrs S1 w g xs vs→vs=us
 | [],us,vs,h,k=>by simp only[cvL] at h;cases h;rw[vrs] at k;exact k
 | x::xs,us,vs,h,k=>by
  simp only[cvL] at h
  split at h
  ·rename_i v vs' h1 h2
   cases h
   rw[vrs] at k
   obtain⟨v',r,rfl,k1,k2⟩:=k
   rw[j7t h1 k1,j5W h2 k2]
  ·cases h
theorem q0R {op:BinOp}{T U:TypeId}{x y:Operand}{X1 Y1:X}{u v r:Value}{z:D}(ho:o.op=.binOp op T x y U)(hx:evX ρ x=X1)(hy:evX ρ y=Y1)(hu:cvX X1=some u)(hv:cvX Y1=some v)(h:rngX X1→rngX Y1→Bin P op T u v r∧rngD z)(hz:cv z=some r):LT P S o ρ σ [] (.d .fz z) []:=
 LT.val fun σ1 F g w ρc hs hr hw=>by
  have e1:=hw x (by simp[ho,Op.operands])
  have e2:=hw y (by simp[ho,Op.operands])
  rw[hx] at e1
  rw[hy] at e2
  obtain⟨h1,h2⟩:=h (j5V hu e1) (j5V hv e2)
  exact⟨r,q1b ho (j7t hu e1) (j7t hv e2) h1,by rw[vr,j9K hz];exact⟨rfl,h2⟩⟩
theorem q1o {op:BinOp}{T U:TypeId}{x y:Operand}{xs ys:List X}{us vs:List Value}{r:Value}{z:D}(ho:o.op=.binOp op T x y U)(hx:evX ρ x=.ag xs)(hy:evX ρ y=.ag ys)(hu:cvL xs=some us)(hv:cvL ys=some vs)(h:Bin P op T (.agg us.toArray) (.agg vs.toArray) r)(hz:cv z=some r)(hrz:rngD z):LT P S o ρ σ [] (.d .fz z) []:=
 LT.val fun σ1 F g w ρc hs hr hw=>by
  have e1:=hw x (by simp[ho,Op.operands])
  have e2:=hw y (by simp[ho,Op.operands])
  rw[hx,vr] at e1
  rw[hy,vr] at e2
  obtain⟨xs',e1,k1⟩:=e1
  obtain⟨ys',e2,k2⟩:=e2
  rw[j5W hu k1] at e1
  rw[j5W hv k2] at e2
  exact⟨r,q1b ho e1 e2 h,by rw[vr,j9K hz];exact⟨rfl,hrz⟩⟩
theorem q3t {T:TypeId}{x:Operand}{m:Md}{b:Bool}(ho:o.op=.unOp .not T x)(hx:evX ρ x=.d m (.b b)):LT P S o ρ σ [] (.d .fz (.b (!b))) []:=
 LT.val fun σ1 F g w ρc hs hr hw=>by
  have e1:=hw x (by simp[ho,Op.operands])
  rw[hx,vr,rdC] at e1
  exact⟨_,q3d ho e1,by rw[vr,rdC]⟩
theorem q2f {x:Operand}{X1:X}{u r:Value}{z:D}(hm:x∈o.op.operands)(hx:evX ρ x=X1)(hu:cvX X1=some u)(h:rngX X1→(∀ ρc w,E.ev ρc x=u→Ev P ρc o w r)∧rngD z)(hz:cv z=some r):LT P S o ρ σ [] (.d .fz z) []:=
 LT.val fun σ1 F g w ρc hs hr hw=>by
  have e1:=hw x hm
  rw[hx] at e1
  obtain⟨h1,h2⟩:=h (j5V hu e1)
  exact⟨r,h1 ρc w (j7t hu e1),by rw[vr,j9K hz];exact⟨rfl,h2⟩⟩
theorem LT.ext {x:Operand}{k:Nat}{xs:List X}{y:X}(ho:o.op=.extract x k)(hx:evX ρ x=.tu xs)(hy:xs[k]?=some y):LT P S o ρ σ [] y []:=
 LT.val fun σ1 F g w ρc hs hr hw=>by
  have e1:=hw x (by simp[ho,Op.operands])
  rw[hx,vr] at e1
  obtain⟨vs,e1,k1⟩:=e1
  obtain⟨v,h1,h2⟩:=k1.get hy
  exact⟨v,Ev.ex ho e1 (by simpa using h1),h2⟩
theorem q3u {T ft off:TypeId}{x:Operand}{i:Nat}{xs:List X}{y:X}(ho:o.op=.field T x i)(hT:z5b P T i=some (ft,off))(hg:aggT P ft=some false)(hx:evX ρ x=.ag xs)(hy:xs[off]?=some y):LT P S o ρ σ [] y []:=
 LT.val fun σ1 F g w ρc hs hr hw=>by
  have e1:=hw x (by simp[ho,Op.operands])
  rw[hx,vr] at e1
  obtain⟨vs,e1,k1⟩:=e1
  obtain⟨v,h1,h2⟩:=k1.get hy
  exact⟨v,q3i ho hT hg e1 h1,h2⟩
theorem q2N {T ft off k:TypeId}{x:Operand}{i:Nat}{xs:List X}(ho:o.op=.field T x i)(hT:z5b P T i=some (ft,off))(hg:aggT P ft=some true)(hk:szT P ft=some k)(hx:evX ρ x=.ag xs):LT P S o ρ σ [] (.ag ((xs.drop off).take k)) []:=
 LT.val fun σ1 F g w ρc hs hr hw=>by
  have e1:=hw x (by simp[ho,Op.operands])
  rw[hx,vr] at e1
  obtain⟨vs,e1,k1⟩:=e1
  refine⟨_,q2H ho hT hg hk e1,?_⟩
  rw[vr]
  refine⟨(vs.drop off).take k,?_,(k1.drop off).take k⟩
  congr 1
  apply Array.ext'
  simp[List.extract_eq_take_drop]
theorem q2O {x:Operand}{r c:Nat}{cs:List X}(ho:o.op=.nilCheck x)(hx:evX ρ x=.pb r c)(hσ:fnOf σ r=.box cs):LT P S o ρ σ [r] (.pb r c) []:=
 LT.val fun σ1 F g w ρc hs hr hv=>by
  have h1:=hv x (by simp[ho,Op.operands])
  obtain⟨b,T',vs,hg,hb,hc⟩:=z6u hs ((hr r (by simp)).trans hσ)
  rw[hx,vr,hg] at h1
  exact⟨_,q2G ho h1,by rw[vr,hg]⟩
theorem z8v {S1:Md→Nat→Prop}{w:World}{g:Nat→G}{ρc:Env}:∀ {l:List Operand},(∀ x∈l,vr S1 w g (evX ρ x) (E.ev ρc x))→vrs S1 w g (l.map (evX ρ)) (l.map (E.ev ρc))
 | [],_=>by simp[vrs]
 | x::l,h=>by
  rw[Bhz,Bhz,vrs]
  exact⟨_,_,rfl,h x (by simp),z8v fun y hy=>h y (by simp[hy])⟩
theorem q3v {f:Nat}{c:Array Operand}(ho:o.op=.makeFunc (.func f) #[] c):LT P S o ρ σ [] (.fn f (c.toList.map (evX ρ))) []:=
 LT.val fun σ1 F g w ρc hs hr hv=>by
  refine⟨_,q2F (vs:=[]) (us:=c.toList.map (E.ev ρc)) ho rfl rfl,?_⟩
  rw[vr]
  exact⟨_,rfl,z8v fun x hx=>hv x (by simp[ho,Op.operands];simpa using hx)⟩
def X.cells:X→List X
 | .ag cs=>cs
 | x=>[x]
def z9B (σ:Nat→Root):X→Bool
 | .d _ _=>true
 | .nl _=>true
 | .fn _ _=>true
 | .pf _ _=>true
 | .ref r l=>(esAt (σ r) l).isSome
 | .vs r l _ _=>(esAt (σ r) l).isSome
 | .pe r l _ _=>(esAt (σ r) l).isSome
 | .pb r _=>match σ r with|.box _=>true|_=>false
 | _=>false
def q7C:X→List Nat
 | .ref r _=>[r]
 | .vs r _ _ _=>[r]
 | .pe r _ _ _=>[r]
 | .pb r _=>[r]
 | _=>[]
theorem j7u {F:Nat→Prop}{g:Nat→G}{w:World}{σ1:Nat→Root}(hs:Sim S F g σ1 w){x:X}{v:Value}(h:z9B σ1 x=true)(hv:vr (SM F S.B) w g x v):v.oneCell'=true:=by
 cases x<;>simp only[z9B] at h<;>rw[vr] at hv
 ·exact hv.one
 ·cases h
 ·cases h
 ·obtain⟨⟨k,es⟩,he⟩:=Option.isSome_iff_exists.1 h
  obtain⟨v',k0,L,gs,hg,u,LL,cs,hat,hown,_⟩:=j4t hs he
  obtain⟨A,c,rfl,_⟩:=hown.form
  rw[hg] at hv
  rw[hv _ _ hat];rfl
 ·obtain⟨⟨k,es⟩,he⟩:=Option.isSome_iff_exists.1 h
  obtain⟨v',k0,L,gs,hg,u,LL,cs,hat,hown,_⟩:=j4t hs he
  obtain⟨A,c,rfl,_⟩:=hown.form
  rw[hg] at hv
  obtain⟨_,_,_,_,_,_,_,h4,_⟩:=hv _ _ hat
  rw[h4];rfl
 ·rename_i r c
  cases hσ:σ1 r<;>rw[hσ] at h<;>try cases h
  obtain⟨b,T,vs,hg,_⟩:=z6u hs hσ
  rw[hg] at hv
  rw[hv];rfl
 ·obtain⟨⟨k,es⟩,he⟩:=Option.isSome_iff_exists.1 h
  obtain⟨v',k0,L,gs,hg,u,LL,cs,hat,hown,_⟩:=j4t hs he
  obtain⟨A,c,rfl,_⟩:=hown.form
  rw[hg] at hv
  obtain⟨_,_,_,_,_,h4⟩:=hv _ _ hat
  rw[h4];rfl
 ·obtain⟨b,o,cs,rfl,_⟩:=hv;rfl
 ·obtain⟨vs,rfl,_⟩:=hv;rfl
 ·rw[hv];rfl
 ·cases h
 ·cases h
 ·cases h
theorem z7u {v:Value}(h:v.oneCell'=true):v.cells.toList=[v]:=by
 cases v<;>simp[Value.oneCell'] at h<;>simp[Value.cells]
def z3r (σ:Nat→Root):X→Bool
 | .ag _=>true
 | x=>z9B σ x
theorem z4s {F:Nat→Prop}{g:Nat→G}{w:World}{σ1:Nat→Root}(hs:Sim S F g σ1 w){x:X}{v:Value}(h:z3r σ1 x=true)(hv:vr (SM F S.B) w g x v):vrs (SM F S.B) w g x.cells v.cells.toList:=by
 have one:z9B σ1 x=true→vrs (SM F S.B) w g [x] v.cells.toList:=fun h1=>by rw[z7u (j7u hs h1 hv),vrs];exact⟨v,[],rfl,hv,by rw[vrs]⟩
 cases x with
 | ag cs=>rw[vr] at hv;obtain⟨vs,rfl,hvs⟩:=hv;simpa[X.cells,Value.cells] using hvs
 | _=>exact one h
theorem j0i {σ1 σ2:Nat→Root}{x:X}(h:∀ r∈q7C x,σ1 r=σ2 r):z9B σ1 x=z9B σ2 x:=by
 cases x<;>simp only[z9B]<;>simp only[q7C,List.mem_singleton,forall_eq] at h<;>first|rfl|rw[h]
theorem z2f {σ1 σ2:Nat→Root}{x:X}(h:∀ r∈q7C x,σ1 r=σ2 r):z3r σ1 x=z3r σ2 x:=by
 cases x<;>first|rfl|exact j0i h
def layP {α:Type}(places:List (Nat×Nat))(cells:List α):List (Nat×List α)→List α
 | []=>cells
 | (i,l)::rest=>match places[i]? with
  | some (off,_)=>layP places (cells.take off++l++cells.drop (off+l.length)) rest
  | none=>[]
theorem j7v (places:List (Nat×Nat)):∀ (pl:List (Nat×List Value)) (cells:List Value),lay places cells pl=layP places cells pl
 | [],_=>rfl
 | (i,l)::rest,cells=>by
  rw[lay,layP]
  cases places[i]? with
  | none=>rfl
  | some p=>exact j7v places rest _
theorem j7w {S1:Md→Nat→Prop}{w:World}{g:Nat→G}(places:List (Nat×Nat)):∀ (pl:List (Nat×List X)) (ql:List (Nat×List Value)) (cells:List X) (vs:List Value),vrs S1 w g cells vs→all2 (fun p q=>p.1=q.1∧vrs S1 w g p.2 q.2) pl ql→vrs S1 w g (layP places cells pl) (layP places vs ql)
 | [],ql,cells,vs,h,h2=>by rw[show ql=[] from h2];exact h
 | (i,l)::rest,_,cells,vs,h,⟨(j,l'),r,h1,⟨h3,h4⟩,h5⟩=>by
  subst h1
  simp only at h3 h4
  subst h3
  rw[layP,layP]
  split
  ·refine j7w places rest r _ _ (((h.take _).append h4).append ?_) h5
   rw[h4.len]
   exact h.drop _
  ·rw[vrs]
theorem LT.build {T:TypeId}{parts:Array (Nat×Operand)}{places:List (Nat×Nat)}{z:List Value}{zs:List X}{xs:List (Nat×X)}{ys:List X}(ho:o.op=.build T parts)(hp:j0f P T=some places)(hz:z2M P T=some z)(hzs:∀ S1 w g,vrs S1 w g zs z)
  (hx:parts.toList.map (fun p=>(p.1,evX ρ p.2))=xs) (hs:xs.all (fun p=>z3r (fnOf σ) p.2)=true) (hf:z3H places zs.length (xs.map fun p=>(p.1,p.2.cells.length))=true) (hy:layP places zs (xs.map fun p=>(p.1,p.2.cells))=ys) :
  LT P S o ρ σ (xs.flatMap fun p=>q7C p.2) (.ag ys) []:=
 LT.val fun σ1 F g w ρc hsim hr hv=>by
  subst hx
  subst hy
  have hall:∀ p∈parts.toList,vrs (SM F S.B) w g (evX ρ p.2).cells (E.ev ρc p.2).cells.toList:=fun p hp=>by
   refine z4s hsim ?_ (hv p.2 ?_)
   ·rw[z2f (σ2:=fnOf σ) fun r hrr=>hr r (by simp only[List.mem_flatMap,List.mem_map];exact⟨_,⟨p,hp,rfl⟩,hrr⟩)]
    have:=List.all_eq_true.1 hs (p.1,evX ρ p.2) (List.mem_map.2 ⟨p,hp,rfl⟩)
    exact this
   ·simp only[ho,Op.operands]
    simpa using ⟨p.1,by simpa using hp⟩
  have hlen:∀ l:List (Nat×Operand),(∀ p∈l,vrs (SM F S.B) w g (evX ρ p.2).cells (E.ev ρc p.2).cells.toList)→(l.map (fun p=>(p.1,E.ev ρc p.2))).map (fun p=>(p.1,p.2.cells.toList.length))=(l.map (fun p=>(p.1,evX ρ p.2))).map (fun p=>(p.1,p.2.cells.length)) ∧
    all2 (fun (p:Nat×List X) (q:Nat×List Value)=>p.1=q.1∧vrs (SM F S.B) w g p.2 q.2) ((l.map (fun p=>(p.1,evX ρ p.2))).map fun p=>(p.1,p.2.cells)) ((l.map (fun p=>(p.1,E.ev ρc p.2))).map fun p=>(p.1,p.2.cells.toList)):=by
   intro l
   induction l with
   | nil=>intro _;exact⟨rfl,rfl⟩
   | cons p l ih=>
    intro h
    obtain⟨h1,h2⟩:=ih fun q hq=>h q (by simp[hq])
    have h3:=h p (by simp)
    simp only[Bhz]
    refine⟨?_,?_⟩
    ·rw[h1,h3.len]
    ·exact⟨_,_,rfl,⟨rfl,h3⟩,h2⟩
  obtain⟨h1,h2⟩:=hlen parts.toList hall
  refine⟨_,Ev.build (pl:=(parts.toList.map (fun p=>(p.1,E.ev ρc p.2))).map fun p=>(p.1,p.2.cells.toList)) ho hp hz rfl rfl ?_ rfl,?_⟩
  ·rw[← (hzs (SM F S.B) w g).len] at hf
   simp only[List.map_map] at h1 hf ⊢
   have e:(List.map ((fun p=>(p.1,p.2.length)) ∘ (fun p=>(p.1,p.2.cells.toList)) ∘ fun (p:Nat×Operand)=>(p.1,E.ev ρc p.2)) parts.toList)=List.map ((fun (p:Nat×X)=>(p.1,p.2.cells.length)) ∘ fun p=>(p.1,evX ρ p.2)) parts.toList:=h1
   rw[e];exact hf
  ·rw[vr,j7v]
   exact⟨_,rfl,j7w places _ _ _ _ (hzs _ _ _) h2⟩
end
end Go.A
