/- Abstract states of a walk: plain lemmas on the model, without conditions of their own. -/
import Derived.Test.YtodhafdaelcnlaaGreatEng3
set_option linter.unusedVariables false
set_option linter.unusedSimpArgs false
set_option linter.ambiguousOpen false
set_option linter.unusedSectionVars false
set_option linter.unnecessarySimpa false
open List renaming flatMap_cons->Bkz,getElem?_take->Anz,map_cons->Blz,getElem?_drop->Baz
open Nat renaming zero_add->Adz
namespace Go.A
open Go Go.E
section
variable {P:Program}{S:Start}{n:Nat}{ρ:AE}{σ:St}{o:Oper}{rd:List Nat}{v:X}
theorem LT.val (h:∀ σ1 F g w ρc,bu S F g σ1 w->(∀ i∈rd,σ1 i=ak σ i)->(∀ x∈o.op.operands,vr (SM F S.B) w g (aF ρ x) (E.ev ρc x))->∃ vc,Ev P ρc o w vc/\vr (SM F S.B) w g v vc):LT P S o ρ σ rd v []:=by
 intro σ1 F g w ρc hs Z _ hv;obtain⟨vc,U,K⟩:=h σ1 F g w ρc hs Z hv;rw[show (execOp (E.ev ρc) o).run P w=.ok (.value vc) w from U];exact⟨F,g,hs,b9.refl,K⟩
theorem LT.mv {x:Operand}(ho:o.op=.move x):LT P S o ρ σ [] (aF ρ x) []:=
 LT.val λ_ _ _ _ ρc _ _ hv=>⟨E.ev ρc x,H8 ho rfl,hv x (by simp[ho,Op.operands])⟩
theorem LT.as {x:Operand}(ho:o.op=.assign x):LT P S o ρ σ [] (aF ρ x) []:=
 LT.val λ_ _ _ _ ρc _ _ hv=>⟨E.ev ρc x,C2 ho rfl,hv x (by simp[ho,Op.operands])⟩
theorem R8 {c x y:Operand}{m:Md}{b:Bool}(ho:o.op=.pick c x y)(hc:aF ρ c=.d m (.b b)):LT P S o ρ σ [] (if b then aF ρ x else aF ρ y) []:=
 LT.val λ_ F g w ρc _ _ hv=>by
  have U:=hv c (by simp[ho,Op.operands]);rw[hc,vr,rdC] at U;refine⟨_,Sv ho U rfl rfl,?_⟩;cases b;exact hv y (by simp[ho,Op.operands]);exact hv x (by simp[ho,Op.operands])
section
variable {F:Nat->Prop}{g:Nat->G}{w:World}{σ1:Nat->az}
theorem mw (hs:bu S F g σ1 w){r k:Nat}{es:List (List Cell)}(he:(∃ m hs,σ1 r=.deep m k es hs)∨∃ m xs,σ1 r=.row m k xs/\es=xs.map (bN m)):∃ v L gs,g r=.row v k L gs/\rowOk (SM F S.B) w es v k L gs:=by
 have U:=hs.roots r;rcases he with ⟨m,hs,he⟩|⟨m,xs,he,rfl⟩<;>rw[he] at U<;>cases hg:g r<;>rw[hg] at U<;>first|exact U.elim|(obtain⟨⟨rfl,U⟩,_⟩:=U;exact⟨_,_,_,rfl,U⟩)|(obtain⟨rfl,U⟩:=U;exact⟨_,_,_,rfl,U⟩)
theorem oS (hs:bu S F g σ1 w){r:Nat}{cs:List X}(he:σ1 r=.box cs):∃ b T vs,g r=.box b T/\dE w b T vs/\aS (SM F S.B) w g cs vs:=by
 have U:=hs.roots r;rw[he] at U;cases hg:g r<;>rw[hg] at U<;>first|exact U.elim|exact⟨_,_,U.choose,rfl,U.choose_spec.1,U.choose_spec.2⟩
theorem aS.len {S1:Md->Nat->Prop}:∀ {xs:List X} {vs:List Value},aS S1 w g xs vs->vs.length=xs.length
 | [],_,h=>by rw[aS] at h;subst h;rfl
 | x::xs,_,h=>by rw[aS] at h;obtain⟨v,r,rfl,_,h3⟩:=h;simp[h3.len]
theorem aS.get {S1:Md->Nat->Prop}:∀ {xs:List X} {vs:List Value},aS S1 w g xs vs->∀ {c:Nat} {x:X},xs[c]?=some x->∃ v,vs[c]?=some v/\vr S1 w g x v
 | [],_,h,c,x,hx=>by simp at hx
 | y::xs,_,h,c,x,hx=>by
  rw[aS] at h;obtain⟨v,r,rfl,K,h3⟩:=h;cases c with
  | zero=>simp at hx;subst hx;exact⟨v,rfl,K⟩
  | succ c=>simpa using h3.get (c:=c) (by simpa using hx)
theorem aS.take {S1:Md->Nat->Prop}:∀ {xs:List X} {vs:List Value},aS S1 w g xs vs->∀ k,aS S1 w g (xs.take k) (vs.take k)
 | [],_,h,k=>by rw[aS] at h;subst h;simp[aS]
 | x::xs,_,h,0=>by simp[aS]
 | x::xs,_,h,k+1=>by
  rw[aS] at h;obtain⟨v,r,rfl,K,h3⟩:=h;simp only[List.take_succ_cons,aS];exact⟨v,_,rfl,K,h3.take k⟩
theorem aS.drop {S1:Md->Nat->Prop}:∀ {xs:List X} {vs:List Value},aS S1 w g xs vs->∀ k,aS S1 w g (xs.drop k) (vs.drop k)
 | [],_,h,k=>by rw[aS] at h;subst h;simp[aS]
 | x::xs,_,h,0=>by simpa using h
 | x::xs,_,h,k+1=>by
  rw[aS] at h;obtain⟨v,r,rfl,K,h3⟩:=h;simpa using h3.drop k
theorem aS.append {S1:Md->Nat->Prop}:∀ {xs ys:List X} {vs us:List Value},aS S1 w g xs vs->aS S1 w g ys us->aS S1 w g (xs++ys) (vs++us)
 | [],ys,_,us,h,K=>by rw[aS] at h;subst h;simpa using K
 | x::xs,ys,_,us,h,k=>by
  rw[aS] at h;obtain⟨v,r,rfl,K,h3⟩:=h;simp only[List.cons_append,aS];exact⟨v,_,rfl,K,h3.append k⟩
theorem aS.set {S1:Md->Nat->Prop}:∀ {xs:List X} {vs:List Value},aS S1 w g xs vs->∀ {c:Nat} {x:X} {v:Value},vr S1 w g x v->aS S1 w g (xs.set c x) (vs.set c v)
 | [],_,h,c,x,v,hx=>by rw[aS] at h;subst h;simp[aS]
 | y::xs,_,h,0,x,v,hx=>by
  rw[aS] at h;obtain⟨u,r,rfl,K,h3⟩:=h;simp only[List.set_cons_zero,aS];exact⟨v,r,rfl,hx,h3⟩
 | y::xs,_,h,c+1,x,v,hx=>by
  rw[aS] at h;obtain⟨u,r,rfl,K,h3⟩:=h;simp only[List.set_cons_succ,aS];exact⟨u,_,rfl,K,h3.set hx⟩
theorem L9:∀ {k:Nat} {es:List (List Cell)} {gs:List (List GC)} {S1:Md->Nat->Prop},aQ (eZ S1 w k) es gs->∀ {j:Nat} {ge:List GC},gs[j]?=some ge->∀ c gc,ge[c]?=some gc->(bU gs)[j*k+c]?=some gc.val
 | k,[],_,_,h,j,ge,hj,_,_,_=>by rw[show _=[] from h] at hj;simp at hj
 | k,e::es,_,S1,⟨g1,r,U,K,h3⟩,0,ge,hj,c,gc,hc=>by
  subst U;simp at hj;subst hj;have hlt:c<g1.length:=(List.getElem?_eq_some_iff.1 hc).1;simp only[bU,Bkz,Nat.zero_mul,Adz];rw[List.getElem?_append_left (by simpa using hlt)];simp[hc]
 | k,e::es,_,S1,⟨g1,r,U,K,h3⟩,j+1,ge,hj,c,gc,hc=>by
  subst U;have ih:=L9 h3 (j:=j) (by simpa using hj) c gc hc;have hl:(g1.map (·.val)).length=k:=by rw[bc,K.2.len,K.1]
  have hm:(j+1)*k=k+j*k:=by rw[Nat.add_mul];omega
  simp only[bU,Bkz];rw[List.getElem?_append_right (by omega),show (j+1)*k+c-(g1.map (·.val)).length=j*k+c by omega];exact ih
end
theorem QL {T:TypeId}{x:Operand}{i k r c:Nat}{cs:List X}(ho:o.op=.fieldAddr T x i)(hT:my P T i=some k)(hx:aF ρ x=.pb r c)(hσ:ak σ r=.box cs):LT P S o ρ σ [r] (.pb r (c+k)) []:=
 LT.val λσ1 F g w ρc hs Z hv=>by
  have U:=hv x (by simp[ho,Op.operands]);obtain⟨b,T',vs,hg,Y,hc⟩:=oS hs ((Z r (by simp)).trans hσ);rw[hx,vr,hg] at U;exact⟨_,qq ho hT U,by rw[vr,hg]⟩
theorem RE {T:TypeId}{x:Operand}{i k:Nat}{m:Md}{ds:List D}(ho:o.op=.fieldAddr T x i)(hT:my P T i=some k)(hx:aF ρ x=.pf m ds):LT P S o ρ σ [] (.pf m (ds.drop k)) []:=
 LT.val λσ1 F g w ρc hs Z hv=>by
  have U:=hv x (by simp[ho,Op.operands]);rw[hx,vr] at U;obtain⟨b,off,cs,U,K,h3,h4,h5⟩:=U;refine⟨_,qq ho hT U,?_⟩;rw[vr];exact⟨b,off+k,cs.drop k,rfl,K,h3,h4.sub k _ λi v hv=>by simpa using hv,h5.drop k⟩
def dM (x:az):Option (Nat×Nat)->Option (Nat×List (List Cell))
 | none=>match x with|.row m k xs=>some (k,xs.map (bN m))|.deep _ k es _=>some (k,es)|_=>none
 | some _=>none
theorem bI.at {w:World}{k:Nat}{v:Value}{n:Nat}{L:List Nat}{cs:List Value}(h:bI w k v n L cs):n=0∨∃ b c T cur,v=.slice (some ⟨b,0,none⟩) n c/\At w b 0 cs/\b∈L/\w.heap[b]?=some (.cells cur T (0,0))/\n*k<=cur.size/\cur.toList.take (n*k)=cs:=by
 obtain⟨e,⟨_,h⟩,hL⟩:=h;rcases h with ⟨_,h⟩|⟨b,cap,cur,h,_,K,h3,h4,h5,h6⟩
 exact .inl h;refine .inr ⟨b,cap,e,cur,h,?_,by rw[hL,h];simp[Value.ownBlock],K,by rw[h5];exact Nat.mul_le_mul_right _ h3,h6⟩;intro c v hv;rw[Adz,cell_of_row w b _ _ e (0,0) K];rw[← h6,Anz] at hv;split at hv;simpa using hv;cases hv
theorem oJ {F:Nat->Prop}{g:Nat->G}{w:World}{σ1:Nat->az}(hs:bu S F g σ1 w){r k:Nat}{l:Option (Nat×Nat)}{es:List (List Cell)}(he:dM (σ1 r) l=some (k,es)) :
  ∃ (v:Value) (k0:Nat) (L:List Nat) (gs:List (List GC)),g r=.row v k0 L gs/\∃ (u:Value) (LL:List Nat) (cs:List Value),G.at (.row v k0 L gs) l=some (u,k)/\bI w k u es.length LL cs/\(∀ b∈LL,b∈bl (g r)) /\
   ∀ (j:Nat) (e:List Cell),es[j]?=some e->e.length=k/\∃ vs:List Value,vs.length=k/\(∀ (c:Nat) (v:Value),vs[c]?=some v->cs[j*k+c]?=some v)/\∀ (c:Nat) (cell:Cell),e[c]?=some cell->∃ vc,vs[c]?=some vc/\(∃ gc,(gs[j]?).bind (·[c]?)=some gc/\gc.val=vc)/\(match cell with
    | Cell.d m x=>rdC (SM F S.B m) w x vc
    | Cell.nl _=>vc=.slice none 0 0
    | Cell.u=>vc.oneCell'=true
    | _=>True):=by
 cases l with
 | none=>
  have:(∃ m hs,σ1 r=.deep m k es hs)∨∃ m xs,σ1 r=.row m k xs/\es=xs.map (bN m):=by
   revert he;cases σ1 r<;>intro he<;>simp[dM] at he;obtain⟨rfl,rfl⟩:=he;exact .inr ⟨_,_,rfl,rfl⟩;obtain⟨rfl,rfl⟩:=he;exact .inl ⟨_,_,rfl⟩
  obtain⟨v,L,gs,hg,hrow⟩:=mw hs this;refine⟨v,k,L,gs,hg,v,L,bU gs,rfl,hrow.1,λb Y=>by rw[hg];simp[bl,Y],λj e hj=>?_⟩;obtain⟨ge,hge,hel⟩:=hrow.2.get hj;refine⟨hel.1,ge.map (·.val),by rw[bc,hel.2.len,hel.1],λc v hv=>?_,λc cell hc=>?_⟩;rw[List.getElem?_map] at hv;cases hgc:ge[c]? with
  | none=>rw[hgc] at hv;cases hv
  | some gc=>
   rw[hgc] at hv;cases hv;exact L9 hrow.2 hge c gc hgc
  obtain⟨gc,hgc,hcl⟩:=hel.2.get hc;refine⟨gc.val,by simp[hgc],⟨gc,by simp[hge,hgc],rfl⟩,?_⟩;cases cell with
  | d m y=>exact hcl.2.2
  | nl k=>exact hcl.2.2
  | u=>exact hcl.2.2
  | _=>trivial
 | some jc=>cases he
theorem RD {T:TypeId}{x:Operand}{i k r j c:Nat}{l:Option (Nat×Nat)}{p:Nat×List (List Cell)}(ho:o.op=.fieldAddr T x i)(hT:my P T i=some k)(hx:aF ρ x=.pe r l j c)(hσ:dM (ak σ r) l=some p):LT P S o ρ σ [r] (.pe r l j (c+k)) []:=
 LT.val λσ1 F g w ρc hs Z hv=>by
  have U:=hv x (by simp[ho,Op.operands]);obtain⟨v,k',L,gs,hg,u,LL,cs,hat,_⟩:=oJ hs (r:=r) (l:=l) (k:=p.1) (es:=p.2) (by rw[Z r (by simp)];exact hσ);rw[hx,vr,hg] at U;obtain⟨b,n,cp,K,h3,h4⟩:=U u _ hat
  refine⟨_,qq ho hT h4,?_⟩;rw[vr,hg];intro u' q' hat';rw[hat] at hat';cases hat';exact⟨b,n,cp,K,h3,by rw[Nat.add_assoc]⟩
def dX:Md->D->X
 | m,.sl k xs=>.d m (.sl k xs)
 | m,.a cs=>.d m (.a cs)
 | _,x=>.d .fz x
theorem DX {S1:Md->Nat->Prop}{w:World}{g:Nat->G}{m:Md}{x:D}{v:Value}(h:rdC (S1 m) w x v):vr S1 w g (dX m x) v:=by
 cases x<;>simp only[dX]<;>rw[vr]<;>first|exact h|(rw[rdC] at h ⊢;exact h)
theorem I3 {S1:Md->Nat->Prop}{w:World}{g:Nat->G}{m:Md}:∀ {xs:List D} {vs:List Value},rdCs (S1 m) w xs vs->aS S1 w g (xs.map (dX m)) vs
 | [],_,h=>by rw[rdCs] at h;subst h;simp[aS]
 | x::xs,_,h=>by
  rw[rdCs] at h;obtain⟨v,r,rfl,K,h3⟩:=h;rw[Blz,aS];exact⟨v,r,rfl,DX K,I3 h3⟩
theorem RA {T:TypeId}{x:Operand}{r c:Nat}{cs:List X}{y:X}(ho:o.op=.load T x)(hT:cV P T=some false)(hx:aF ρ x=.pb r c)(hσ:ak σ r=.box cs)(hc:cs[c]?=some y):LT P S o ρ σ [r] y []:=
 LT.val λσ1 F g w ρc hs Z hv=>by
  have U:=hv x (by simp[ho,Op.operands]);obtain⟨b,T',vs,hg,Y,hcs⟩:=oS hs ((Z r (by simp)).trans hσ);rw[hx,vr,hg] at U;obtain⟨v,hv1,hv2⟩:=hcs.get hc;exact⟨v,qp ho hT U (Y.cell hv1),hv2⟩
theorem R7 {T k:TypeId}{x:Operand}{r c:Nat}{cs:List X}(ho:o.op=.load T x)(hT:cV P T=some true)(hk:ca P T=some k)(hx:aF ρ x=.pb r c)(hσ:ak σ r=.box cs)(hc:((cs.drop c).take k).length=k):LT P S o ρ σ [r] (.ag ((cs.drop c).take k)) []:=
 LT.val λσ1 F g w ρc hs Z hv=>by
  have U:=hv x (by simp[ho,Op.operands]);obtain⟨b,T',vs,hg,Y,hcs⟩:=oS hs ((Z r (by simp)).trans hσ);rw[hx,vr,hg] at U;have K:=(hcs.drop c).take k;refine⟨_,C4 ho hT hk U (Y.part c k) (K.len.trans hc),?_⟩;rw[vr];exact⟨_,rfl,K⟩
theorem Rz {T:TypeId}{x:Operand}{m:Md}{d:D}{ds:List D}(ho:o.op=.load T x)(hT:cV P T=some false)(hx:aF ρ x=.pf m (d::ds)):LT P S o ρ σ [] (dX m d) []:=
 LT.val λσ1 F g w ρc hs Z hv=>by
  have U:=hv x (by simp[ho,Op.operands]);rw[hx,vr] at U;obtain⟨b,off,cs,U,K,h3,h4,h5⟩:=U;rw[rdCs] at h5;obtain⟨v,r,rfl,h6,_⟩:=h5;exact⟨v,qp ho hT U (h4.cell0 rfl),DX h6⟩
theorem R6 {T k:TypeId}{x:Operand}{m:Md}{ds:List D}(ho:o.op=.load T x)(hT:cV P T=some true)(hk:ca P T=some k)(hx:aF ρ x=.pf m ds)(hl:(ds.take k).length=k):LT P S o ρ σ [] (.ag ((ds.take k).map (dX m))) []:=
 LT.val λσ1 F g w ρc hs Z hv=>by
  have U:=hv x (by simp[ho,Op.operands]);rw[hx,vr] at U;obtain⟨b,off,cs,U,K,h3,h4,h5⟩:=U;have h6:=h5.take k;refine⟨_,C4 (cs:=cs.take k) ho hT hk U ?_ (h6.len.trans hl),?_⟩;have:=h4.sub 0 (cs.take k) λi v hv=>by
   rw[Adz];rw[Anz] at hv;split at hv;exact hv;cases hv
  simpa using this;rw[vr];exact⟨_,rfl,I3 h6⟩
def mg (hx:List (Nat×Nat))(c:Nat):Cell->Option X
 | .d m x=>some (dX m x)
 | .nl k=>some (.nl k)
 | .u=>match hx.find? (λp=>Nat.beq p.1 c) with|some p=>some (.ref p.2 none)|none=>some .u
 | _=>none
def oR (hx:List (Nat×Nat)):Nat->List Cell->Option (List X)
 | _,[]=>some []
 | c,x::xs=>match mg hx c x,oR hx (c+1) xs with
  | some y,some ys=>some (y::ys)
  | _,_=>none
def qP (x:az)(j:Nat)(hx:List (Nat×Nat)):Prop:=hx=[]∨∃ m k es,x=.deep m k es (hx.map λp=>(j,p.1,p.2))
theorem Ap {F:Nat->Prop}{g:Nat->G}{w:World}{σ1:Nat->az}(hs:bu S F g σ1 w){r k:Nat}{l:Option (Nat×Nat)}{es:List (List Cell)}(he:dM (σ1 r) l=some (k,es)){j:Nat}{e:List Cell}(hj:es[j]?=some e){hx:List (Nat×Nat)}(hhx:qP (σ1 r) j hx) :
  ∃ v k0 L gs,g r=.row v k0 L gs/\∃ b A' c',G.at (.row v k0 L gs) l=some (.slice (some ⟨b,0,none⟩) A' c',k)/\j<A'/\e.length=k/\∃ vs,vs.length=k/\At w b (j*k) vs /\
   b∈bl (g r)/\∀ c cell,e[c]?=some cell->∃ vc,vs[c]?=some vc/\∀ x,mg hx c cell=some x->vr (SM F S.B) w g x vc:=by
 have hlt:j<es.length:=(List.getElem?_eq_some_iff.1 hj).1;obtain⟨v,k0,L,gs,hg,u,LL,cs,hat,hown,Y,hel⟩:=oJ hs he;obtain⟨hl,vs,hvl,hvs,hcell⟩:=hel j e hj;rcases hown.at with h0|⟨b,c',T,cur,rfl,hba,hbL,_⟩
 omega;refine⟨v,k0,L,gs,hg,b,_,_,hat,hlt,hl,vs,hvl,?_,Y b hbL,λc cell hc=>?_⟩;intro c v hv;have:=hba _ _ (hvs c v hv);rwa[Adz] at this;obtain⟨vc,U,⟨gc,h3,h4⟩,K⟩:=hcell c cell hc;refine⟨vc,U,λx hX=>?_⟩;cases cell with
 | d m y=>simp only[mg] at hX;cases hX;exact DX K
 | nl k=>simp only[mg] at hX;cases hX;rw[vr];exact K
 | u=>
  simp only[mg] at hX;split at hX;rename_i p hp;cases hX;have hpm:=List.mem_of_find?_eq_some hp;have hpc:=Nat.eq_of_beq_eq_true (by simpa using List.find?_some hp);rcases hhx with rfl|⟨m1,k1,es1,Z⟩
  cases hpm;have h5:=hs.roots r;rw[Z,hg] at h5;have h6:=h5.2.1 (j,p.1,p.2) (List.mem_map.2 ⟨p,hpm,rfl⟩) gc (by rw[hpc];exact h3);rw[vr];revert h6;cases g p.2<;>intro h6<;>first|exact h6.elim|trivial|skip
  intro u q hu;rw[← h4];exact h6 u q hu;cases hX;rw[vr];trivial
 | o=>cases hX
 | w=>cases hX
theorem Ac {T:TypeId}{x:Operand}{r j c:Nat}{l:Option (Nat×Nat)}{p:Nat×List (List Cell)}{e:List Cell}{cell:Cell}{y:X}(ho:o.op=.load T x)(hT:cV P T=some false)(hx:aF ρ x=.pe r l j c)(hσ:dM (ak σ r) l=some p)(hj:p.2[j]?=some e)(hc:e[c]?=some cell){hx' : List (Nat×Nat)}(hh:qP (ak σ r) j hx')(hy:mg hx' c cell=some y):LT P S o ρ σ [r] y []:=
 LT.val λσ1 F g w ρc hs Z hv=>by
  have U:=hv x (by simp[ho,Op.operands]);obtain⟨v,k,L,gs,hg,b,A',c',hat,hlt,hlen,vs,hvl,hvat,_,hcells⟩:=Ap hs (k:=p.1) (es:=p.2) (by rw[Z r (by simp)];exact hσ) hj (hx:=hx') (by rw[Z r (by simp)];exact hh);rw[hx,vr,hg] at U;obtain⟨b',n',cp',K,h3,h4⟩:=U _ _ hat
  cases K;obtain⟨vc,h5,h6⟩:=hcells c cell hc;refine⟨vc,qp ho hT h4 (hvat c vc h5),h6 y hy⟩
theorem MM {S1:Md->Nat->Prop}{w:World}{g:Nat->G}{hx:List (Nat×Nat)}:∀ {e:List Cell} {c:Nat} {ys:List X} {vs:List Value},oR hx c e=some ys->vs.length=e.length->(∀ i cell,e[i]?=some cell->∃ vc,vs[i]?=some vc/\∀ x,mg hx (c+i) cell=some x->vr S1 w g x vc)->aS S1 w g ys vs
 | [],c,ys,vs,h,hl,_=>by simp[oR] at h;subst h;rw[aS];exact List.eq_nil_of_length_eq_zero hl
 | a::e,c,ys,vs,h,hl,hc=>by
  simp only[oR] at h;split at h;rename_i y ys' U K;cases h;cases vs with
  | nil=>simp at hl
  | cons v vs=>
   obtain⟨vc,h3,h4⟩:=hc 0 a rfl;simp at h3;subst h3;rw[aS];refine⟨v,vs,rfl,h4 y U,MM K (by simpa using hl) λi cell hi=>?_⟩;obtain⟨vc,h5,h6⟩:=hc (i+1) cell (by simpa using hi);exact⟨vc,by simpa using h5,λx hx=>h6 x (by rw[show c+(i+1)=c+1+i by omega];exact hx)⟩
  cases h
theorem Dl {T k:TypeId}{x:Operand}{r j c:Nat}{l:Option (Nat×Nat)}{p:Nat×List (List Cell)}{e:List Cell}{ys:List X}(ho:o.op=.load T x)(hT:cV P T=some true)(hk:ca P T=some k)(hx:aF ρ x=.pe r l j c)(hσ:dM (ak σ r) l=some p)(hj:p.2[j]?=some e)(hl:((e.drop c).take k).length=k){hx' : List (Nat×Nat)}(hh:qP (ak σ r) j hx')(hy:oR hx' c ((e.drop c).take k)=some ys):LT P S o ρ σ [r] (.ag ys) []:=
 LT.val λσ1 F g w ρc hs Z hv=>by
  have U:=hv x (by simp[ho,Op.operands]);obtain⟨v,k',L,gs,hg,b,A',c',hat,hlt,hlen,vs,hvl,hvat,_,hcells⟩:=Ap hs (k:=p.1) (es:=p.2) (by rw[Z r (by simp)];exact hσ) hj (hx:=hx') (by rw[Z r (by simp)];exact hh);rw[hx,vr,hg] at U;obtain⟨b',n',cp',K,h3,h4⟩:=U _ _ hat
  cases K;have hl2:((vs.drop c).take k).length=k:=by
   simp only[List.length_take,List.length_drop] at hl ⊢;omega
  refine⟨_,C4 (cs:=(vs.drop c).take k) ho hT hk h4 (hvat.part c k) hl2,?_⟩;rw[vr];refine⟨_,rfl,MM hy (hl2.trans hl.symm) λi cell hi=>?_⟩;rw[Anz] at hi;split at hi;rename_i hik;rw[Baz] at hi;obtain⟨vc,h5,h6⟩:=hcells (c+i) cell hi;exact⟨vc,by rw[Anz,ao hik,Baz];exact h5,h6⟩;cases hi
end
section
variable {P:Program}{S:Start}{n:Nat}{ρ:AE}{σ:St}{o:Oper}
theorem rd1.len {S1:Nat->Prop}{w:World}{x:D}{c:List Value}(h:rd1 S1 w x c):c.length=x.cells.length:=rdCs.len h
theorem Ry {T e k:TypeId}{x i:Operand}{m m' : Md}{xs:List D}{q:IntKind}{j:Int}{y:D}(ho:o.op=.indexAddr T x i)(hT:cZ P T=some e)(hk:ca P e=some k)(hx:aF ρ x=.d m (.sl k xs))(hi:aF ρ i=.d m' (.i q j))(h0:0<=j)(hj:xs[j.toNat]?=some y):LT P S o ρ σ [] (.pf m y.cells) []:=
 LT.val λσ1 F g w ρc hs Z hv=>by
  have U:=hv x (by simp[ho,Op.operands]);have K:=hv i (by simp[ho,Op.operands]);rw[hx,vr,rdC] at U;rw[hi,vr,rdC] at K;replace K:=K.1;obtain⟨A,cap,cells,h3,h4,h5,h6,h7⟩:=U;have hlt:j.toNat<xs.length:=(List.getElem?_eq_some_iff.1 hj).1;rcases h7 with h7|⟨b,off,rfl,Y,hbl,hat⟩
  rw[h7] at hlt;simp at hlt;obtain⟨c,hc1,hc2,hc3⟩:=h6.get hj;refine⟨_,Dm ho hT hk h3 rfl K h0 (by omega),?_⟩;rw[vr];exact⟨b,_,c,rfl,Y,hbl,hat.sub _ c hc3,hc2⟩
theorem Ab {T e k:TypeId}{x i:Operand}{m' : Md}{r:Nat}{l:Option (Nat×Nat)}{es:List (List Cell)}{q:IntKind}{j:Int}{y:List Cell}(ho:o.op=.indexAddr T x i)(hT:cZ P T=some e)(hk:ca P e=some k)(hx:aF ρ x=.ref r l)(hσ:dM (ak σ r) l=some (k,es))(hi:aF ρ i=.d m' (.i q j))(h0:0<=j)(hj:es[j.toNat]?=some y):LT P S o ρ σ [r] (.pe r l j.toNat 0) []:=
 LT.val λσ1 F g w ρc hs Z hv=>by
  have U:=hv x (by simp[ho,Op.operands]);have K:=hv i (by simp[ho,Op.operands]);rw[hi,vr,rdC] at K;replace K:=K.1;obtain⟨v,k',L,gs,hg,b,n',c',hat,hlt,hlen,_⟩:=Ap hs (by rw[Z r (by simp)];exact hσ) hj (hx:=[]) (.inl rfl);rw[hx,vr,hg] at U;have h3:=U _ _ hat
  refine⟨_,Dm ho hT hk h3 rfl K h0 (by omega),?_⟩;rw[vr,hg];intro u q2 hat';rw[hat] at hat';cases hat';exact⟨b,n',c',rfl,hlt,by simp⟩
theorem Rx {T e k:TypeId}{x i:Operand}{m' : Md}{r lo n:Nat}{l:Option (Nat×Nat)}{es:List (List Cell)}{q:IntKind}{j:Int}{y:List Cell}(ho:o.op=.indexAddr T x i)(hT:cZ P T=some e)(hk:ca P e=some k)(hx:aF ρ x=.vs r l lo n)(hσ:dM (ak σ r) l=some (k,es))(hi:aF ρ i=.d m' (.i q j))(h0:0<=j)(hn:j.toNat<n)(hj:es[lo+j.toNat]?=some y):LT P S o ρ σ [r] (.pe r l (lo+j.toNat) 0) []:=
 LT.val λσ1 F g w ρc hs Z hv=>by
  have U:=hv x (by simp[ho,Op.operands]);have K:=hv i (by simp[ho,Op.operands]);rw[hi,vr,rdC] at K;replace K:=K.1;obtain⟨v,k',L,gs,hg,b,n',c',hat,hlt,hlen,_⟩:=Ap hs (by rw[Z r (by simp)];exact hσ) hj (hx:=[]) (.inl rfl);rw[hx,vr,hg] at U;obtain⟨A,mm,cp,A',cp',e1,h3,h4,h5,h6,h7⟩:=U _ _ hat
  rcases h7 with h7|⟨b',e2,e3⟩
  omega;cases e1;cases e2;refine⟨_,Dm ho hT hk h4 e3 K h0 (by omega),?_⟩;rw[vr,hg];intro u q2 hat';rw[hat] at hat';cases hat';exact⟨b,n',c',rfl,hlt,by rw[Nat.add_mul];rfl⟩
theorem Iu {T e:TypeId}{x:Operand}{m:Md}{xs:List D}{k k' : Nat}(ho:o.op=.call { callee:=.builtin .len,args:=#[x],argTypes:=#[T] })(hT:cZ P T=some e)(hx:aF ρ x=.d m (.sl k' xs))(hk:xs.length=k):LT P S o ρ σ [] (.d .fz (.i .i64 k)) []:=
 LT.val λσ1 F g w ρc hs Z hv=>by
  have U:=hv x (by simp[ho,Op.operands,Call.operands]);rw[hx,vr,rdC] at U;obtain⟨A,cap,cells,h3,h4,h5,_⟩:=U;subst hk;have h5:cap<=9223372036854775807:=h5;exact⟨_,Do ho hT h3,by rw[vr,rdC];exact⟨rfl,by simp only[eT];omega⟩⟩
theorem Dk {T e:TypeId}{x:Operand}{r:Nat}{l:Option (Nat×Nat)}{es:List (List Cell)}{k k' : Nat}(ho:o.op=.call { callee:=.builtin .len,args:=#[x],argTypes:=#[T] })(hT:cZ P T=some e)(hx:aF ρ x=.ref r l)(hσ:dM (ak σ r) l=some (k',es))(hk:es.length=k):LT P S o ρ σ [r] (.d .fz (.i .i64 k)) []:=
 LT.val λσ1 F g w ρc hs Z hv=>by
  have U:=hv x (by simp[ho,Op.operands,Call.operands]);obtain⟨v,k0,L,gs,hg,u,LL,cs,hat,hown,_⟩:=oJ hs (r:=r) (l:=l) (by rw[Z r (by simp)];exact hσ);obtain⟨A,c,rfl,h4,h5⟩:=hown.form;rw[hx,vr,hg] at U;subst hk;have h5:c<=9223372036854775807:=h5;exact⟨_,Do ho hT (U _ _ hat),by rw[vr,rdC];exact⟨rfl,by simp only[eT];omega⟩⟩
theorem R5 {T e:TypeId}{x:Operand}{r lo k:Nat}{l:Option (Nat×Nat)}{p:Nat×List (List Cell)}(ho:o.op=.call { callee:=.builtin .len,args:=#[x],argTypes:=#[T] })(hT:cZ P T=some e)(hx:aF ρ x=.vs r l lo k)(hσ:dM (ak σ r) l=some p):LT P S o ρ σ [r] (.d .fz (.i .i64 k)) []:=
 LT.val λσ1 F g w ρc hs Z hv=>by
  have U:=hv x (by simp[ho,Op.operands,Call.operands]);obtain⟨v,k0,L,gs,hg,u,LL,cs,hat,hown,_⟩:=oJ hs (r:=r) (l:=l) (k:=p.1) (es:=p.2) (by rw[Z r (by simp)];exact hσ);rw[hx,vr,hg] at U;obtain⟨_,_,_,A',cp',_,_,h4,h5,h6,_⟩:=U _ _ hat
  have h6:cp'<=9223372036854775807:=h6;exact⟨_,Do ho hT h4,by rw[vr,rdC];exact⟨rfl,by simp only[eT];omega⟩⟩
theorem R4 {T:TypeId}{x:Operand}{m:Md}{s:ar}(ho:o.op=.call { callee:=.builtin .len,args:=#[x],argTypes:=#[T] })(hT:P.underlying T=some .string)(hx:aF ρ x=.d m (.s s)):LT P S o ρ σ [] (.d .fz (.i .i64 s.size)) []:=
 LT.val λσ1 F g w ρc hs Z hv=>by
  have U:=hv x (by simp[ho,Op.operands,Call.operands]);rw[hx,vr,rdC] at U;have K:=U.2;exact⟨_,Su ho hT U.1,by rw[vr,rdC];exact⟨rfl,by simp only[eT];omega⟩⟩
theorem rdC.cut {S1:Nat->Prop}{w:World}{k:Nat}{xs:List D}{A:Option Addr}{m c:Nat}(h:rdC S1 w (.sl k xs) (.slice A m c)){l h' : Nat}(hlh:l<=h')(hh:h'<=xs.length):rdC S1 w (.sl k ((xs.take h').drop l)) (eL A l h' c k):=by
 rw[rdC] at h ⊢;obtain⟨A',cap,cells,e,U,K,h3,h4⟩:=h;cases e;refine⟨if c=l then A else A.map (·.add (l*k)),c-l,(cells.take (h'*k)).drop (l*k),by simp[eL,List.length_drop,List.length_take,Nat.min_eq_left hh],by simp;omega,by omega,(h3.take h').drop l,?_⟩;rcases h4 with rfl|⟨b,o,rfl,Y,hbl,ha⟩
 left;simp;by_cases hlc:c=l;left;have:l=h':=by omega
 subst this;simp;right;refine⟨b,o+l*k,?_,Y,hbl,λj v hv=>?_⟩;have hadd:(⟨b,o,none⟩:Addr).add (l*k)=⟨b,o+l*k,none⟩:=by unfold Addr.add;split<;>simp_all
 simp[an hlc,hadd];rw[Baz,Anz] at hv;split at hv;rw[Nat.add_assoc];exact ha _ v hv;cases hv
theorem oI {j:Int}(h:0<=j):((j.toNat:Nat):Int)=j:=Int.toNat_of_nonneg h
theorem Rw {T e k:TypeId}{x hi:Operand}{m m2:Md}{xs:List D}{q' : IntKind}{b:Int}(ho:o.op=.slice T x none (some hi) none)(hT:cZ P T=some e)(hk:ca P e=some k)(hx:aF ρ x=.d m (.sl k xs))(hh:aF ρ hi=.d m2 (.i q' b))
  (U:0<=b) (h3:b.toNat<=xs.length):LT P S o ρ σ [] (.d m (.sl k (xs.take b.toNat))) []:=
 LT.val λσ1 F g w ρc hs Z hv=>by
  have e1:=hv x (by simp[ho,Op.operands]);have e3:=hv hi (by simp[ho,Op.operands]);rw[hh,vr,rdC] at e3;replace e3:=e3.1;rw[← oI U] at e3;rw[hx,vr] at e1;have e4:=e1;rw[rdC] at e4;obtain⟨A,cap,_,e5,h4,_⟩:=e4;rw[e5] at e1;exact⟨_,Ad ho hT hk e5 e3 (by omega),by rw[vr];exact e1.cut (l:=0) (Nat.zero_le _) h3⟩
theorem Rv {T e k:TypeId}{x lo:Operand}{m m1:Md}{xs:List D}{q:IntKind}{a:Int}(ho:o.op=.slice T x (some lo) none none)(hT:cZ P T=some e)(hk:ca P e=some k)(hx:aF ρ x=.d m (.sl k xs))(hl:aF ρ lo=.d m1 (.i q a))
  (h0:0<=a) (K:a.toNat<=xs.length):LT P S o ρ σ [] (.d m (.sl k (xs.drop a.toNat))) []:=
 LT.val λσ1 F g w ρc hs Z hv=>by
  have e1:=hv x (by simp[ho,Op.operands]);have e2:=hv lo (by simp[ho,Op.operands]);rw[hl,vr,rdC] at e2;replace e2:=e2.1;rw[← oI h0] at e2;rw[hx,vr] at e1;have e4:=e1;rw[rdC] at e4;obtain⟨A,cap,_,e5,h4,_⟩:=e4;rw[e5] at e1;refine⟨_,Ih ho hT hk e5 e2 (by omega),?_⟩;rw[vr];have:=e1.cut (l:=a.toNat) (h':=xs.length) K (Nat.le_refl _);rwa[List.take_length] at this
theorem U8 {v:Value}{A:Option Addr}{n c l h k:Nat}(hv:v=.slice A n c)(U:l<=h)(K:h<=n)(h3:n<=c)(h4:c<=maxLen)(hA:n=0∨∃ b,A=some ⟨b,0,none⟩):oU v k l (h-l) (eL A l h c k):=by
 refine⟨A,n,c,if c=l then A else A.map (·.add (l*k)),c-l,hv,by omega,rfl,by omega,by omega,?_⟩;by_cases hlc:c=l;left;omega;rcases hA with hA|⟨b,rfl⟩
 left;omega;right;refine⟨b,rfl,?_⟩;have hadd:(⟨b,0,none⟩:Addr).add (l*k)=⟨b,l*k,none⟩:=by unfold Addr.add;split<;>simp_all
 simp[an hlc,hadd]
theorem Ru {T e k:TypeId}{x:Operand}{lo hi:Option Operand}{r:Nat}{l:Option (Nat×Nat)}{es:List (List Cell)}{a b:Int}(ho:o.op=.slice T x lo hi none)(hT:cZ P T=some e)(hk:ca P e=some k)(hx:aF ρ x=.ref r l)(hσ:dM (ak σ r) l=some (k,es))
  (hl:match lo with|some y=>∃ m q,aF ρ y=.d m (.i q a)|none=>a=0) (hh:match hi with|some y=>∃ m q,aF ρ y=.d m (.i q b)|none=>b=es.length/\lo≠none)
  (h0:0<=a) (U:0<=b) (K:a.toNat<=b.toNat) (h3:b.toNat<=es.length):LT P S o ρ σ [r] (.vs r l a.toNat (b.toNat-a.toNat)) []:=
 LT.val λσ1 F g w ρc hs Z hv=>by
  have hσ' : dM (σ1 r) l=some (k,es):=by rw[Z r (by simp)];exact hσ
  have e1:=hv x (by simp[ho,Op.operands]);obtain⟨v,k',L,gs,hg,u,LL,cs,hat,hown,_⟩:=oJ hs hσ';obtain⟨A,c,rfl,h5,h6⟩:=hown.form;rw[hx,vr,hg] at e1;have e2:=e1 _ _ hat
  have hA:es.length=0∨∃ b,A=some ⟨b,0,none⟩:=hown.at.imp id λ⟨b,c',_,_,e,_⟩=>by cases e;exact⟨b,rfl⟩
  have fin:∀ vc,Ev P ρc o w vc->vc=eL A a.toNat b.toNat c k->∃ vc,Ev P ρc o w vc/\vr (SM F S.B) w g (.vs r l a.toNat (b.toNat-a.toNat)) vc:=λvc hev hvc=>by
   refine⟨vc,hev,?_⟩;rw[vr,hg];intro u' q' hat';rw[hat] at hat';cases hat';subst hvc;exact U8 rfl K h3 h5 h6 hA
  cases lo with
  | none=>
   simp only at hl;subst hl;cases hi with
   | none=>exact absurd rfl hh.2
   | some y=>
    obtain⟨m,q1,hy⟩:=hh;have e3:=hv y (by simp[ho,Op.operands]);rw[hy,vr,rdC] at e3;replace e3:=e3.1;rw[← oI U] at e3;exact fin _ (Ad ho hT hk e2 e3 (by omega)) rfl
  | some y=>
   obtain⟨m,q1,hy⟩:=hl;have e3:=hv y (by simp[ho,Op.operands]);rw[hy,vr,rdC] at e3;replace e3:=e3.1;rw[← oI h0] at e3;cases hi with
   | none=>
    obtain⟨rfl,_⟩:=hh;exact fin _ (Ih ho hT hk e2 e3 (by simpa using K)) rfl
   | some z=>
    obtain⟨m2,q2,hz⟩:=hh;have e4:=hv z (by simp[ho,Op.operands]);rw[hz,vr,rdC] at e4;replace e4:=e4.1;rw[← oI U] at e4;exact fin _ (Sg ho hT hk e2 e3 e4 K (by omega)) rfl
def cv:D->Option Value
 | .i k n=>some (.int k n)
 | .b b=>some (.bool b)
 | .s t=>some (.string t)
 | _=>none
theorem wq {S1:Nat->Prop}{w:World}{x:D}{u v:Value}(h:cv x=some u):rdC S1 w x v↔v=u/\fH x:=by
 cases x<;>simp only[cv] at h<;>cases h<;>simp only[rdC,fH,and_true]
def iI:X->Option Value
 | .d _ x=>cv x
 | _=>none
theorem AB {S1:Md->Nat->Prop}{w:World}{g:Nat->G}{x:X}{u v:Value}(h:iI x=some u)(hv:vr S1 w g x v):v=u:=by
 cases x<;>simp only[iI] at h<;>first|(rw[vr] at hv;exact ((wq h).1 hv).1)|cases h
def fY:X->Prop
 | .d _ x=>fH x
 | _=>True
theorem EA {S1:Md->Nat->Prop}{w:World}{g:Nat->G}{x:X}{u v:Value}(h:iI x=some u)(hv:vr S1 w g x v):fY x:=by
 cases x<;>simp only[iI] at h<;>first|(rw[vr] at hv;exact ((wq h).1 hv).2)|cases h
def mj:List X->Option (List Value)
 | []=>some []
 | x::xs=>match iI x,mj xs with
  | some v,some vs=>some (v::vs)
  | _,_=>none
theorem Ez {S1:Md->Nat->Prop}{w:World}{g:Nat->G}:∀ {xs:List X} {us vs:List Value},mj xs=some us->aS S1 w g xs vs->vs=us
 | [],us,vs,h,k=>by simp only[mj] at h;cases h;rw[aS] at k;exact k
 | x::xs,us,vs,h,k=>by
  simp only[mj] at h;split at h;rename_i v vs' U K;cases h;rw[aS] at k;obtain⟨v',r,rfl,k1,k2⟩:=k;rw[AB U k1,Ez K k2];cases h
theorem Aa {op:BinOp}{T Z7:TypeId}{x y:Operand}{X1 Y1:X}{u v r:Value}{z:D}(ho:o.op=.binOp op T x y Z7)(hx:aF ρ x=X1)(hy:aF ρ y=Y1)(hu:iI X1=some u)(hv:iI Y1=some v)(h:fY X1->fY Y1->cI P op T u v r/\fH z)(hz:cv z=some r):LT P S o ρ σ [] (.d .fz z) []:=
 LT.val λσ1 F g w ρc hs Z hw=>by
  have e1:=hw x (by simp[ho,Op.operands]);have e2:=hw y (by simp[ho,Op.operands]);rw[hx] at e1;rw[hy] at e2;obtain⟨U,K⟩:=h (EA hu e1) (EA hv e2);exact⟨r,C3 ho (AB hu e1) (AB hv e2) U,by rw[vr,wq hz];exact⟨rfl,K⟩⟩
theorem Is {op:BinOp}{T Z7:TypeId}{x y:Operand}{xs ys:List X}{us vs:List Value}{r:Value}{z:D}(ho:o.op=.binOp op T x y Z7)(hx:aF ρ x=.ag xs)(hy:aF ρ y=.ag ys)(hu:mj xs=some us)(hv:mj ys=some vs)(h:cI P op T (.agg us.toArray) (.agg vs.toArray) r)(hz:cv z=some r)(hrz:fH z):LT P S o ρ σ [] (.d .fz z) []:=
 LT.val λσ1 F g w ρc hs Z hw=>by
  have e1:=hw x (by simp[ho,Op.operands]);have e2:=hw y (by simp[ho,Op.operands]);rw[hx,vr] at e1;rw[hy,vr] at e2;obtain⟨xs',e1,k1⟩:=e1;obtain⟨ys',e2,k2⟩:=e2;rw[Ez hu k1] at e1;rw[Ez hv k2] at e2;exact⟨r,C3 ho e1 e2 h,by rw[vr,wq hz];exact⟨rfl,hrz⟩⟩
theorem Rt {T:TypeId}{x:Operand}{m:Md}{b:Bool}(ho:o.op=.unOp .not T x)(hx:aF ρ x=.d m (.b b)):LT P S o ρ σ [] (.d .fz (.b (!b))) []:=
 LT.val λσ1 F g w ρc hs Z hw=>by
  have e1:=hw x (by simp[ho,Op.operands]);rw[hx,vr,rdC] at e1;exact⟨_,QS ho e1,by rw[vr,rdC]⟩
theorem Dg {x:Operand}{X1:X}{u r:Value}{z:D}(hm:x∈o.op.operands)(hx:aF ρ x=X1)(hu:iI X1=some u)(h:fY X1->(∀ ρc w,E.ev ρc x=u->Ev P ρc o w r)/\fH z)(hz:cv z=some r):LT P S o ρ σ [] (.d .fz z) []:=
 LT.val λσ1 F g w ρc hs Z hw=>by
  have e1:=hw x hm;rw[hx] at e1;obtain⟨U,K⟩:=h (EA hu e1);exact⟨r,U ρc w (AB hu e1),by rw[vr,wq hz];exact⟨rfl,K⟩⟩
theorem LT.ext {x:Operand}{k:Nat}{xs:List X}{y:X}(ho:o.op=.extract x k)(hx:aF ρ x=.tu xs)(hy:xs[k]?=some y):LT P S o ρ σ [] y []:=
 LT.val λσ1 F g w ρc hs Z hw=>by
  have e1:=hw x (by simp[ho,Op.operands]);rw[hx,vr] at e1;obtain⟨vs,e1,k1⟩:=e1;obtain⟨v,U,K⟩:=k1.get hy;exact⟨v,Ev.ex ho e1 (by simpa using U),K⟩
theorem Rs {T ft off:TypeId}{x:Operand}{i:Nat}{xs:List X}{y:X}(ho:o.op=.field T x i)(hT:nG P T i=some (ft,off))(hg:cV P ft=some false)(hx:aF ρ x=.ag xs)(hy:xs[off]?=some y):LT P S o ρ σ [] y []:=
 LT.val λσ1 F g w ρc hs Z hw=>by
  have e1:=hw x (by simp[ho,Op.operands]);rw[hx,vr] at e1;obtain⟨vs,e1,k1⟩:=e1;obtain⟨v,U,K⟩:=k1.get hy;exact⟨v,QM ho hT hg e1 U,K⟩
theorem R3 {T ft off k:TypeId}{x:Operand}{i:Nat}{xs:List X}(ho:o.op=.field T x i)(hT:nG P T i=some (ft,off))(hg:cV P ft=some true)(hk:ca P ft=some k)(hx:aF ρ x=.ag xs):LT P S o ρ σ [] (.ag ((xs.drop off).take k)) []:=
 LT.val λσ1 F g w ρc hs Z hw=>by
  have e1:=hw x (by simp[ho,Op.operands]);rw[hx,vr] at e1;obtain⟨vs,e1,k1⟩:=e1;refine⟨_,R9 ho hT hg hk e1,?_⟩;rw[vr];refine⟨(vs.drop off).take k,?_,(k1.drop off).take k⟩;congr 1;apply Array.ext';simp[List.extract_eq_take_drop]
theorem Ra {x:Operand}{r c:Nat}{cs:List X}(ho:o.op=.nilCheck x)(hx:aF ρ x=.pb r c)(hσ:ak σ r=.box cs):LT P S o ρ σ [r] (.pb r c) []:=
 LT.val λσ1 F g w ρc hs Z hv=>by
  have U:=hv x (by simp[ho,Op.operands]);obtain⟨b,T',vs,hg,Y,hc⟩:=oS hs ((Z r (by simp)).trans hσ);rw[hx,vr,hg] at U;exact⟨_,Sa ho U,by rw[vr,hg]⟩
theorem Bt {S1:Md->Nat->Prop}{w:World}{g:Nat->G}{ρc:Env}:∀ {l:List Operand},(∀ x∈l,vr S1 w g (aF ρ x) (E.ev ρc x))->aS S1 w g (l.map (aF ρ)) (l.map (E.ev ρc))
 | [],_=>by simp[aS]
 | x::l,h=>by
  rw[Blz,Blz,aS];exact⟨_,_,rfl,h x (by simp),Bt λy hy=>h y (by simp[hy])⟩
theorem Rr {f:Nat}{c:Array Operand}(ho:o.op=.makeFunc (.func f) #[] c):LT P S o ρ σ [] (.fn f (c.toList.map (aF ρ))) []:=
 LT.val λσ1 F g w ρc hs Z hv=>by
  refine⟨_,Sb (vs:=[]) (us:=c.toList.map (E.ev ρc)) ho rfl rfl,?_⟩;rw[vr];exact⟨_,rfl,Bt λx hx=>hv x (by simp[ho,Op.operands];simpa using hx)⟩
def X.cells:X->List X
 | .ag cs=>cs
 | x=>[x]
def km (σ:Nat->az):X->Bool
 | .d _ _=>true
 | .nl _=>true
 | .fn _ _=>true
 | .pf _ _=>true
 | .ref r l=>(dM (σ r) l).isSome
 | .vs r l _ _=>(dM (σ r) l).isSome
 | .pe r l _ _=>(dM (σ r) l).isSome
 | .pb r _=>match σ r with|.box _=>true|_=>false
 | _=>false
def dn:X->List Nat
 | .ref r _=>[r]
 | .vs r _ _ _=>[r]
 | .pe r _ _ _=>[r]
 | .pb r _=>[r]
 | _=>[]
theorem KZ {F:Nat->Prop}{g:Nat->G}{w:World}{σ1:Nat->az}(hs:bu S F g σ1 w){x:X}{v:Value}(h:km σ1 x=true)(hv:vr (SM F S.B) w g x v):v.oneCell'=true:=by
 cases x<;>simp only[km] at h<;>rw[vr] at hv;exact hv.one;cases h;cases h;obtain⟨⟨k,es⟩,he⟩:=Option.isSome_iff_exists.1 h;obtain⟨v',k0,L,gs,hg,u,LL,cs,hat,hown,_⟩:=oJ hs he;obtain⟨A,c,rfl,_⟩:=hown.form;rw[hg] at hv;rw[hv _ _ hat];rfl;obtain⟨⟨k,es⟩,he⟩:=Option.isSome_iff_exists.1 h;obtain⟨v',k0,L,gs,hg,u,LL,cs,hat,hown,_⟩:=oJ hs he;obtain⟨A,c,rfl,_⟩:=hown.form;rw[hg] at hv;obtain⟨_,_,_,_,_,_,_,h4,_⟩:=hv _ _ hat
 rw[h4];rfl;rename_i r c;cases hσ:σ1 r<;>rw[hσ] at h<;>try cases h
 obtain⟨b,T,vs,hg,_⟩:=oS hs hσ;rw[hg] at hv;rw[hv];rfl;obtain⟨⟨k,es⟩,he⟩:=Option.isSome_iff_exists.1 h;obtain⟨v',k0,L,gs,hg,u,LL,cs,hat,hown,_⟩:=oJ hs he;obtain⟨A,c,rfl,_⟩:=hown.form;rw[hg] at hv;obtain⟨_,_,_,_,_,h4⟩:=hv _ _ hat
 rw[h4];rfl;obtain⟨b,o,cs,rfl,_⟩:=hv;rfl;obtain⟨vs,rfl,_⟩:=hv;rfl;rw[hv];rfl;cases h
theorem G5 {v:Value}(h:v.oneCell'=true):v.cells.toList=[v]:=by
 cases v<;>simp[Value.oneCell'] at h<;>simp[Value.cells]
def gk (σ:Nat->az):X->Bool
 | .ag _=>true
 | x=>km σ x
theorem pg {F:Nat->Prop}{g:Nat->G}{w:World}{σ1:Nat->az}(hs:bu S F g σ1 w){x:X}{v:Value}(h:gk σ1 x=true)(hv:vr (SM F S.B) w g x v):aS (SM F S.B) w g x.cells v.cells.toList:=by
 have one:km σ1 x=true->aS (SM F S.B) w g [x] v.cells.toList:=λU=>by rw[G5 (KZ hs U hv),aS];exact⟨v,[],rfl,hv,by rw[aS]⟩
 cases x with
 | ag cs=>rw[vr] at hv;obtain⟨vs,rfl,hvs⟩:=hv;simpa[X.cells,Value.cells] using hvs
 | _=>exact one h
theorem Nv {σ1 σ2:Nat->az}{x:X}(h:∀ r∈dn x,σ1 r=σ2 r):km σ1 x=km σ2 x:=by
 cases x<;>simp only[km]<;>simp only[dn,List.mem_singleton,forall_eq] at h<;>first|rfl|rw[h]
theorem uy {σ1 σ2:Nat->az}{x:X}(h:∀ r∈dn x,σ1 r=σ2 r):gk σ1 x=gk σ2 x:=by
 cases x<;>first|rfl|exact Nv h
def gL {α:Type}(places:List (Nat×Nat))(cells:List α):List (Nat×List α)->List α
 | []=>cells
 | (i,l)::rest=>match places[i]? with
  | some (off,_)=>gL places (cells.take off++l++cells.drop (off+l.length)) rest
  | none=>[]
theorem KY (places:List (Nat×Nat)):∀ (pl:List (Nat×List Value)) (cells:List Value),lay places cells pl=gL places cells pl
 | [],_=>rfl
 | (i,l)::rest,cells=>by
  rw[lay,gL];cases places[i]? with
  | none=>rfl
  | some p=>exact KY places rest _
theorem KX {S1:Md->Nat->Prop}{w:World}{g:Nat->G}(places:List (Nat×Nat)):∀ (pl:List (Nat×List X)) (ql:List (Nat×List Value)) (cells:List X) (vs:List Value),aS S1 w g cells vs->aQ (λp q=>p.1=q.1/\aS S1 w g p.2 q.2) pl ql->aS S1 w g (gL places cells pl) (gL places vs ql)
 | [],ql,cells,vs,h,K=>by rw[show ql=[] from K];exact h
 | (i,l)::rest,_,cells,vs,h,⟨(j,l'),r,U,⟨h3,h4⟩,h5⟩=>by
  subst U;simp only at h3 h4;subst h3;rw[gL,gL];split;refine KX places rest r _ _ (((h.take _).append h4).append ?_) h5;rw[h4.len];exact h.drop _;rw[aS]
theorem LT.build {T:TypeId}{parts:Array (Nat×Operand)}{places:List (Nat×Nat)}{z:List Value}{zs:List X}{xs:List (Nat×X)}{ys:List X}(ho:o.op=.build T parts)(hp:wL P T=some places)(hz:fQ P T=some z)(hzs:∀ S1 w g,aS S1 w g zs z)
  (hx:parts.toList.map (λp=>(p.1,aF ρ p.2))=xs) (hs:xs.all (λp=>gk (ak σ) p.2)=true) (hf:gl places zs.length (xs.map λp=>(p.1,p.2.cells.length))=true) (hy:gL places zs (xs.map λp=>(p.1,p.2.cells))=ys) :
  LT P S o ρ σ (xs.flatMap λp=>dn p.2) (.ag ys) []:=
 LT.val λσ1 F g w ρc hsim Z hv=>by
  subst hx;subst hy;have hall:∀ p∈parts.toList,aS (SM F S.B) w g (aF ρ p.2).cells (E.ev ρc p.2).cells.toList:=λp hp=>by
   refine pg hsim ?_ (hv p.2 ?_);rw[uy (σ2:=ak σ) λr hrr=>Z r (by simp only[List.mem_flatMap,List.mem_map];exact⟨_,⟨p,hp,rfl⟩,hrr⟩)];have:=List.all_eq_true.1 hs (p.1,aF ρ p.2) (List.mem_map.2 ⟨p,hp,rfl⟩);exact this;simp only[ho,Op.operands];simpa using ⟨p.1,by simpa using hp⟩
  have hlen:∀ l:List (Nat×Operand),(∀ p∈l,aS (SM F S.B) w g (aF ρ p.2).cells (E.ev ρc p.2).cells.toList)->(l.map (λp=>(p.1,E.ev ρc p.2))).map (λp=>(p.1,p.2.cells.toList.length))=(l.map (λp=>(p.1,aF ρ p.2))).map (λp=>(p.1,p.2.cells.length)) /\
    aQ (λ(p:Nat×List X) (q:Nat×List Value)=>p.1=q.1/\aS (SM F S.B) w g p.2 q.2) ((l.map (λp=>(p.1,aF ρ p.2))).map λp=>(p.1,p.2.cells)) ((l.map (λp=>(p.1,E.ev ρc p.2))).map λp=>(p.1,p.2.cells.toList)):=by
   intro l
   induction l with
   | nil=>intro _;exact⟨rfl,rfl⟩
   | cons p l ih=>
    intro h;obtain⟨U,K⟩:=ih λq hq=>h q (by simp[hq]);have h3:=h p (by simp);simp only[Blz];refine⟨?_,?_⟩;rw[U,h3.len];exact⟨_,_,rfl,⟨rfl,h3⟩,K⟩
  obtain⟨U,K⟩:=hlen parts.toList hall;refine⟨_,Ev.build (pl:=(parts.toList.map (λp=>(p.1,E.ev ρc p.2))).map λp=>(p.1,p.2.cells.toList)) ho hp hz rfl rfl ?_ rfl,?_⟩;rw[← (hzs (SM F S.B) w g).len] at hf;simp only[List.map_map] at U hf ⊢;have e:(List.map ((λp=>(p.1,p.2.length)) ∘ (λp=>(p.1,p.2.cells.toList)) ∘ λ(p:Nat×Operand)=>(p.1,E.ev ρc p.2)) parts.toList)=List.map ((λ(p:Nat×X)=>(p.1,p.2.cells.length)) ∘ λp=>(p.1,aF ρ p.2)) parts.toList:=U;rw[e];exact hf;rw[vr,KY];exact⟨_,rfl,KX places _ _ _ _ (hzs _ _ _) K⟩
end
end Go.A
