/- Abstract states of a walk: plain lemmas on the model, without conditions of their own. -/
import Derived.Test.YtodhafdaelcnlaaGreatEng3
set_option linter.unusedVariables false
set_option linter.unusedSimpArgs false
set_option linter.ambiguousOpen false
set_option linter.unusedSectionVars false
set_option linter.unnecessarySimpa false
open List renaming flatMap_cons->Bkz,getElem?_take->Anz,map_cons->Blz,getElem?_drop->Baz
open Nat renaming zero_add->Adz
namespace Go.A
open Go Go.E
section
variable {P:Program}{S:Start}{n:Nat}{ρ:AE}{σ:St}{o:Oper}{rd:List Nat}{v:X}
theorem LT.val (h:∀ σ1 F g w ρc,bu S F g σ1 w->(∀ i∈rd,σ1 i=ak σ i)->(∀ x∈o.op.operands,vr (SM F S.B) w g (aH ρ x) (E.ev ρc x))->∃ vc,Ev P ρc o w vc/\vr (SM F S.B) w g v vc):LT P S o ρ σ rd v []:=by
 intro σ1 F g w ρc hs Z _ hv;obtain⟨vc,U,K⟩:=h σ1 F g w ρc hs Z hv;rw[show (execOp (E.ev ρc) o).run P w=.ok (.value vc) w from U];exact⟨F,g,hs,cr.refl,K⟩
theorem LT.mv {x:Operand}(ho:o.op=.move x):LT P S o ρ σ [] (aH ρ x) []:=
 LT.val λ_ _ _ _ ρc _ _ hv=>⟨E.ev ρc x,If ho rfl,hv x (by simp[ho,Op.operands])⟩
theorem LT.as {x:Operand}(ho:o.op=.assign x):LT P S o ρ σ [] (aH ρ x) []:=
 LT.val λ_ _ _ _ ρc _ _ hv=>⟨E.ev ρc x,Dc ho rfl,hv x (by simp[ho,Op.operands])⟩
theorem Ss {c x y:Operand}{m:Md}{b:Bool}(ho:o.op=.pick c x y)(hc:aH ρ c=.d m (.b b)):LT P S o ρ σ [] (if b then aH ρ x else aH ρ y) []:=
 LT.val λ_ F g w ρc _ _ hv=>by
  have U:=hv c (by simp[ho,Op.operands]);rw[hc,vr,rdC] at U;refine⟨_,RX ho U rfl rfl,?_⟩;cases b;exact hv y (by simp[ho,Op.operands]);exact hv x (by simp[ho,Op.operands])
section
variable {F:Nat->Prop}{g:Nat->G}{w:World}{σ1:Nat->aA}
theorem mM (hs:bu S F g σ1 w){r k:Nat}{es:List (List Cell)}(he:(∃ m hs,σ1 r=.deep m k es hs)∨∃ m xs,σ1 r=.row m k xs/\es=xs.map (bT m)):∃ v L gs,g r=.row v k L gs/\rowOk (SM F S.B) w es v k L gs:=by
 have U:=hs.roots r;rcases he with ⟨m,hs,he⟩|⟨m,xs,he,rfl⟩<;>rw[he] at U<;>cases hg:g r<;>rw[hg] at U<;>first|exact U.elim|(obtain⟨⟨rfl,U⟩,_⟩:=U;exact⟨_,_,_,rfl,U⟩)|(obtain⟨rfl,U⟩:=U;exact⟨_,_,_,rfl,U⟩)
theorem pj (hs:bu S F g σ1 w){r:Nat}{cs:List X}(he:σ1 r=.box cs):∃ b T vs,g r=.box b T/\dN w b T vs/\aU (SM F S.B) w g cs vs:=by
 have U:=hs.roots r;rw[he] at U;cases hg:g r<;>rw[hg] at U<;>first|exact U.elim|exact⟨_,_,U.choose,rfl,U.choose_spec.1,U.choose_spec.2⟩
theorem aU.len {S1:Md->Nat->Prop}:∀ {xs:List X} {vs:List Value},aU S1 w g xs vs->vs.length=xs.length
 | [],_,h=>by rw[aU] at h;subst h;rfl
 | x::xs,_,h=>by rw[aU] at h;obtain⟨v,r,rfl,_,h3⟩:=h;simp[h3.len]
theorem aU.get {S1:Md->Nat->Prop}:∀ {xs:List X} {vs:List Value},aU S1 w g xs vs->∀ {c:Nat} {x:X},xs[c]?=some x->∃ v,vs[c]?=some v/\vr S1 w g x v
 | [],_,h,c,x,hx=>by simp at hx
 | y::xs,_,h,c,x,hx=>by
  rw[aU] at h;obtain⟨v,r,rfl,K,h3⟩:=h;cases c with
  | zero=>simp at hx;subst hx;exact⟨v,rfl,K⟩
  | succ c=>simpa using h3.get (c:=c) (by simpa using hx)
theorem aU.take {S1:Md->Nat->Prop}:∀ {xs:List X} {vs:List Value},aU S1 w g xs vs->∀ k,aU S1 w g (xs.take k) (vs.take k)
 | [],_,h,k=>by rw[aU] at h;subst h;simp[aU]
 | x::xs,_,h,0=>by simp[aU]
 | x::xs,_,h,k+1=>by
  rw[aU] at h;obtain⟨v,r,rfl,K,h3⟩:=h;simp only[List.take_succ_cons,aU];exact⟨v,_,rfl,K,h3.take k⟩
theorem aU.drop {S1:Md->Nat->Prop}:∀ {xs:List X} {vs:List Value},aU S1 w g xs vs->∀ k,aU S1 w g (xs.drop k) (vs.drop k)
 | [],_,h,k=>by rw[aU] at h;subst h;simp[aU]
 | x::xs,_,h,0=>by simpa using h
 | x::xs,_,h,k+1=>by
  rw[aU] at h;obtain⟨v,r,rfl,K,h3⟩:=h;simpa using h3.drop k
theorem aU.append {S1:Md->Nat->Prop}:∀ {xs ys:List X} {vs us:List Value},aU S1 w g xs vs->aU S1 w g ys us->aU S1 w g (xs++ys) (vs++us)
 | [],ys,_,us,h,K=>by rw[aU] at h;subst h;simpa using K
 | x::xs,ys,_,us,h,k=>by
  rw[aU] at h;obtain⟨v,r,rfl,K,h3⟩:=h;simp only[List.cons_append,aU];exact⟨v,_,rfl,K,h3.append k⟩
theorem aU.set {S1:Md->Nat->Prop}:∀ {xs:List X} {vs:List Value},aU S1 w g xs vs->∀ {c:Nat} {x:X} {v:Value},vr S1 w g x v->aU S1 w g (xs.set c x) (vs.set c v)
 | [],_,h,c,x,v,hx=>by rw[aU] at h;subst h;simp[aU]
 | y::xs,_,h,0,x,v,hx=>by
  rw[aU] at h;obtain⟨u,r,rfl,K,h3⟩:=h;simp only[List.set_cons_zero,aU];exact⟨v,r,rfl,hx,h3⟩
 | y::xs,_,h,c+1,x,v,hx=>by
  rw[aU] at h;obtain⟨u,r,rfl,K,h3⟩:=h;simp only[List.set_cons_succ,aU];exact⟨u,_,rfl,K,h3.set hx⟩
theorem MP:∀ {k:Nat} {es:List (List Cell)} {gs:List (List GC)} {S1:Md->Nat->Prop},aS (fq S1 w k) es gs->∀ {j:Nat} {ge:List GC},gs[j]?=some ge->∀ c gc,ge[c]?=some gc->(b0 gs)[j*k+c]?=some gc.val
 | k,[],_,_,h,j,ge,hj,_,_,_=>by rw[show _=[] from h] at hj;simp at hj
 | k,e::es,_,S1,⟨g1,r,U,K,h3⟩,0,ge,hj,c,gc,hc=>by
  subst U;simp at hj;subst hj;have hlt:c<g1.length:=(List.getElem?_eq_some_iff.1 hc).1;simp only[b0,Bkz,Nat.zero_mul,Adz];rw[List.getElem?_append_left (by simpa using hlt)];simp[hc]
 | k,e::es,_,S1,⟨g1,r,U,K,h3⟩,j+1,ge,hj,c,gc,hc=>by
  subst U;have ih:=MP h3 (j:=j) (by simpa using hj) c gc hc;have hl:(g1.map (·.val)).length=k:=by rw[bh,K.2.len,K.1]
  have hm:(j+1)*k=k+j*k:=by rw[Nat.add_mul];omega
  simp only[b0,Bkz];rw[List.getElem?_append_right (by omega),show (j+1)*k+c-(g1.map (·.val)).length=j*k+c by omega];exact ih
end
theorem Q2 {T:TypeId}{x:Operand}{i k r c:Nat}{cs:List X}(ho:o.op=.fieldAddr T x i)(hT:mN P T i=some k)(hx:aH ρ x=.pb r c)(hσ:ak σ r=.box cs):LT P S o ρ σ [r] (.pb r (c+k)) []:=
 LT.val λσ1 F g w ρc hs Z hv=>by
  have U:=hv x (by simp[ho,Op.operands]);obtain⟨b,T',vs,hg,Y,hc⟩:=pj hs ((Z r (by simp)).trans hσ);rw[hx,vr,hg] at U;exact⟨_,qH ho hT U,by rw[vr,hg]⟩
theorem Q1 {T:TypeId}{x:Operand}{i k:Nat}{m:Md}{ds:List D}(ho:o.op=.fieldAddr T x i)(hT:mN P T i=some k)(hx:aH ρ x=.pf m ds):LT P S o ρ σ [] (.pf m (ds.drop k)) []:=
 LT.val λσ1 F g w ρc hs Z hv=>by
  have U:=hv x (by simp[ho,Op.operands]);rw[hx,vr] at U;obtain⟨b,off,cs,U,K,h3,h4,h5⟩:=U;refine⟨_,qH ho hT U,?_⟩;rw[vr];exact⟨b,off+k,cs.drop k,rfl,K,h3,h4.sub k _ λi v hv=>by simpa using hv,h5.drop k⟩
def dW (x:aA):Option (Nat×Nat)->Option (Nat×List (List Cell))
 | none=>match x with|.row m k xs=>some (k,xs.map (bT m))|.deep _ k es _=>some (k,es)|_=>none
 | some _=>none
theorem bR.at {w:World}{k:Nat}{v:Value}{n:Nat}{L:List Nat}{cs:List Value}(h:bR w k v n L cs):n=0∨∃ b c T cur,v=.slice (some ⟨b,0,none⟩) n c/\At w b 0 cs/\b∈L/\w.heap[b]?=some (.cells cur T (0,0))/\n*k<=cur.size/\cur.toList.take (n*k)=cs:=by
 obtain⟨e,⟨_,h⟩,hL⟩:=h;rcases h with ⟨_,h⟩|⟨b,cap,cur,h,_,K,h3,h4,h5,h6⟩
 exact .inl h;refine .inr ⟨b,cap,e,cur,h,?_,by rw[hL,h];simp[Value.ownBlock],K,by rw[h5];exact Nat.mul_le_mul_right _ h3,h6⟩;intro c v hv;rw[Adz,cell_of_row w b _ _ e (0,0) K];rw[← h6,Anz] at hv;split at hv;simpa using hv;cases hv
theorem oZ {F:Nat->Prop}{g:Nat->G}{w:World}{σ1:Nat->aA}(hs:bu S F g σ1 w){r k:Nat}{l:Option (Nat×Nat)}{es:List (List Cell)}(he:dW (σ1 r) l=some (k,es)) :
  ∃ (v:Value) (k0:Nat) (L:List Nat) (gs:List (List GC)),g r=.row v k0 L gs/\∃ (u:Value) (LL:List Nat) (cs:List Value),G.at (.row v k0 L gs) l=some (u,k)/\bR w k u es.length LL cs/\(∀ b∈LL,b∈bl (g r)) /\
   ∀ (j:Nat) (e:List Cell),es[j]?=some e->e.length=k/\∃ vs:List Value,vs.length=k/\(∀ (c:Nat) (v:Value),vs[c]?=some v->cs[j*k+c]?=some v)/\∀ (c:Nat) (cell:Cell),e[c]?=some cell->∃ vc,vs[c]?=some vc/\(∃ gc,(gs[j]?).bind (·[c]?)=some gc/\gc.val=vc)/\(match cell with
    | Cell.d m x=>rdC (SM F S.B m) w x vc
    | Cell.nl _=>vc=.slice none 0 0
    | Cell.u=>vc.oneCell'=true
    | _=>True):=by
 cases l with
 | none=>
  have:(∃ m hs,σ1 r=.deep m k es hs)∨∃ m xs,σ1 r=.row m k xs/\es=xs.map (bT m):=by
   revert he;cases σ1 r<;>intro he<;>simp[dW] at he;obtain⟨rfl,rfl⟩:=he;exact .inr ⟨_,_,rfl,rfl⟩;obtain⟨rfl,rfl⟩:=he;exact .inl ⟨_,_,rfl⟩
  obtain⟨v,L,gs,hg,hrow⟩:=mM hs this;refine⟨v,k,L,gs,hg,v,L,b0 gs,rfl,hrow.1,λb Y=>by rw[hg];simp[bl,Y],λj e hj=>?_⟩;obtain⟨ge,hge,hel⟩:=hrow.2.get hj;refine⟨hel.1,ge.map (·.val),by rw[bh,hel.2.len,hel.1],λc v hv=>?_,λc cell hc=>?_⟩;rw[List.getElem?_map] at hv;cases hgc:ge[c]? with
  | none=>rw[hgc] at hv;cases hv
  | some gc=>
   rw[hgc] at hv;cases hv;exact MP hrow.2 hge c gc hgc
  obtain⟨gc,hgc,hcl⟩:=hel.2.get hc;refine⟨gc.val,by simp[hgc],⟨gc,by simp[hge,hgc],rfl⟩,?_⟩;cases cell with
  | d m y=>exact hcl.2.2
  | nl k=>exact hcl.2.2
  | u=>exact hcl.2.2
  | _=>trivial
 | some jc=>cases he
theorem Q0 {T:TypeId}{x:Operand}{i k r j c:Nat}{l:Option (Nat×Nat)}{p:Nat×List (List Cell)}(ho:o.op=.fieldAddr T x i)(hT:mN P T i=some k)(hx:aH ρ x=.pe r l j c)(hσ:dW (ak σ r) l=some p):LT P S o ρ σ [r] (.pe r l j (c+k)) []:=
 LT.val λσ1 F g w ρc hs Z hv=>by
  have U:=hv x (by simp[ho,Op.operands]);obtain⟨v,k',L,gs,hg,u,LL,cs,hat,_⟩:=oZ hs (r:=r) (l:=l) (k:=p.1) (es:=p.2) (by rw[Z r (by simp)];exact hσ);rw[hx,vr,hg] at U;obtain⟨b,n,cp,K,h3,h4⟩:=U u _ hat
  refine⟨_,qH ho hT h4,?_⟩;rw[vr,hg];intro u' q' hat';rw[hat] at hat';cases hat';exact⟨b,n,cp,K,h3,by rw[Nat.add_assoc]⟩
def dX:Md->D->X
 | m,.sl k xs=>.d m (.sl k xs)
 | m,.a cs=>.d m (.a cs)
 | _,x=>.d .fz x
theorem D2 {S1:Md->Nat->Prop}{w:World}{g:Nat->G}{m:Md}{x:D}{v:Value}(h:rdC (S1 m) w x v):vr S1 w g (dX m x) v:=by
 cases x<;>simp only[dX]<;>rw[vr]<;>first|exact h|(rw[rdC] at h ⊢;exact h)
theorem Jj {S1:Md->Nat->Prop}{w:World}{g:Nat->G}{m:Md}:∀ {xs:List D} {vs:List Value},rdCs (S1 m) w xs vs->aU S1 w g (xs.map (dX m)) vs
 | [],_,h=>by rw[rdCs] at h;subst h;simp[aU]
 | x::xs,_,h=>by
  rw[rdCs] at h;obtain⟨v,r,rfl,K,h3⟩:=h;rw[Blz,aU];exact⟨v,r,rfl,D2 K,Jj h3⟩
theorem RV {T:TypeId}{x:Operand}{r c:Nat}{cs:List X}{y:X}(ho:o.op=.load T x)(hT:cY P T=some false)(hx:aH ρ x=.pb r c)(hσ:ak σ r=.box cs)(hc:cs[c]?=some y):LT P S o ρ σ [r] y []:=
 LT.val λσ1 F g w ρc hs Z hv=>by
  have U:=hv x (by simp[ho,Op.operands]);obtain⟨b,T',vs,hg,Y,hcs⟩:=pj hs ((Z r (by simp)).trans hσ);rw[hx,vr,hg] at U;obtain⟨v,hv1,hv2⟩:=hcs.get hc;exact⟨v,qG ho hT U (Y.cell hv1),hv2⟩
theorem Sr {T k:TypeId}{x:Operand}{r c:Nat}{cs:List X}(ho:o.op=.load T x)(hT:cY P T=some true)(hk:cu P T=some k)(hx:aH ρ x=.pb r c)(hσ:ak σ r=.box cs)(hc:((cs.drop c).take k).length=k):LT P S o ρ σ [r] (.ag ((cs.drop c).take k)) []:=
 LT.val λσ1 F g w ρc hs Z hv=>by
  have U:=hv x (by simp[ho,Op.operands]);obtain⟨b,T',vs,hg,Y,hcs⟩:=pj hs ((Z r (by simp)).trans hσ);rw[hx,vr,hg] at U;have K:=(hcs.drop c).take k;refine⟨_,De ho hT hk U (Y.part c k) (K.len.trans hc),?_⟩;rw[vr];exact⟨_,rfl,K⟩
theorem RU {T:TypeId}{x:Operand}{m:Md}{d:D}{ds:List D}(ho:o.op=.load T x)(hT:cY P T=some false)(hx:aH ρ x=.pf m (d::ds)):LT P S o ρ σ [] (dX m d) []:=
 LT.val λσ1 F g w ρc hs Z hv=>by
  have U:=hv x (by simp[ho,Op.operands]);rw[hx,vr] at U;obtain⟨b,off,cs,U,K,h3,h4,h5⟩:=U;rw[rdCs] at h5;obtain⟨v,r,rfl,h6,_⟩:=h5;exact⟨v,qG ho hT U (h4.cell0 rfl),D2 h6⟩
theorem Sq {T k:TypeId}{x:Operand}{m:Md}{ds:List D}(ho:o.op=.load T x)(hT:cY P T=some true)(hk:cu P T=some k)(hx:aH ρ x=.pf m ds)(hl:(ds.take k).length=k):LT P S o ρ σ [] (.ag ((ds.take k).map (dX m))) []:=
 LT.val λσ1 F g w ρc hs Z hv=>by
  have U:=hv x (by simp[ho,Op.operands]);rw[hx,vr] at U;obtain⟨b,off,cs,U,K,h3,h4,h5⟩:=U;have h6:=h5.take k;refine⟨_,De (cs:=cs.take k) ho hT hk U ?_ (h6.len.trans hl),?_⟩;have:=h4.sub 0 (cs.take k) λi v hv=>by
   rw[Adz];rw[Anz] at hv;split at hv;exact hv;cases hv
  simpa using this;rw[vr];exact⟨_,rfl,Jj h6⟩
def mB (hx:List (Nat×Nat))(c:Nat):Cell->Option X
 | .d m x=>some (dX m x)
 | .nl k=>some (.nl k)
 | .u=>match hx.find? (λp=>Nat.beq p.1 c) with|some p=>some (.ref p.2 none)|none=>some .u
 | _=>none
def pg (hx:List (Nat×Nat)):Nat->List Cell->Option (List X)
 | _,[]=>some []
 | c,x::xs=>match mB hx c x,pg hx (c+1) xs with
  | some y,some ys=>some (y::ys)
  | _,_=>none
def rm (x:aA)(j:Nat)(hx:List (Nat×Nat)):Prop:=hx=[]∨∃ m k es,x=.deep m k es (hx.map λp=>(j,p.1,p.2))
theorem AB {F:Nat->Prop}{g:Nat->G}{w:World}{σ1:Nat->aA}(hs:bu S F g σ1 w){r k:Nat}{l:Option (Nat×Nat)}{es:List (List Cell)}(he:dW (σ1 r) l=some (k,es)){j:Nat}{e:List Cell}(hj:es[j]?=some e){hx:List (Nat×Nat)}(hhx:rm (σ1 r) j hx) :
  ∃ v k0 L gs,g r=.row v k0 L gs/\∃ b A' c',G.at (.row v k0 L gs) l=some (.slice (some ⟨b,0,none⟩) A' c',k)/\j<A'/\e.length=k/\∃ vs,vs.length=k/\At w b (j*k) vs /\
   b∈bl (g r)/\∀ c cell,e[c]?=some cell->∃ vc,vs[c]?=some vc/\∀ x,mB hx c cell=some x->vr (SM F S.B) w g x vc:=by
 have hlt:j<es.length:=(List.getElem?_eq_some_iff.1 hj).1;obtain⟨v,k0,L,gs,hg,u,LL,cs,hat,hown,Y,hel⟩:=oZ hs he;obtain⟨hl,vs,hvl,hvs,hcell⟩:=hel j e hj;rcases hown.at with h0|⟨b,c',T,cur,rfl,hba,hbL,_⟩
 omega;refine⟨v,k0,L,gs,hg,b,_,_,hat,hlt,hl,vs,hvl,?_,Y b hbL,λc cell hc=>?_⟩;intro c v hv;have:=hba _ _ (hvs c v hv);rwa[Adz] at this;obtain⟨vc,U,⟨gc,h3,h4⟩,K⟩:=hcell c cell hc;refine⟨vc,U,λx hX=>?_⟩;cases cell with
 | d m y=>simp only[mB] at hX;cases hX;exact D2 K
 | nl k=>simp only[mB] at hX;cases hX;rw[vr];exact K
 | u=>
  simp only[mB] at hX;split at hX;rename_i p hp;cases hX;have hpm:=List.mem_of_find?_eq_some hp;have hpc:=Nat.eq_of_beq_eq_true (by simpa using List.find?_some hp);rcases hhx with rfl|⟨m1,k1,es1,Z⟩
  cases hpm;have h5:=hs.roots r;rw[Z,hg] at h5;have h6:=h5.2.1 (j,p.1,p.2) (List.mem_map.2 ⟨p,hpm,rfl⟩) gc (by rw[hpc];exact h3);rw[vr];revert h6;cases g p.2<;>intro h6<;>first|exact h6.elim|trivial|skip
  intro u q hu;rw[← h4];exact h6 u q hu;cases hX;rw[vr];trivial
 | o=>cases hX
 | w=>cases hX
theorem Ak {T:TypeId}{x:Operand}{r j c:Nat}{l:Option (Nat×Nat)}{p:Nat×List (List Cell)}{e:List Cell}{cell:Cell}{y:X}(ho:o.op=.load T x)(hT:cY P T=some false)(hx:aH ρ x=.pe r l j c)(hσ:dW (ak σ r) l=some p)(hj:p.2[j]?=some e)(hc:e[c]?=some cell){hx' : List (Nat×Nat)}(hh:rm (ak σ r) j hx')(hy:mB hx' c cell=some y):LT P S o ρ σ [r] y []:=
 LT.val λσ1 F g w ρc hs Z hv=>by
  have U:=hv x (by simp[ho,Op.operands]);obtain⟨v,k,L,gs,hg,b,A',c',hat,hlt,hlen,vs,hvl,hvat,_,hcells⟩:=AB hs (k:=p.1) (es:=p.2) (by rw[Z r (by simp)];exact hσ) hj (hx:=hx') (by rw[Z r (by simp)];exact hh);rw[hx,vr,hg] at U;obtain⟨b',n',cp',K,h3,h4⟩:=U _ _ hat
  cases K;obtain⟨vc,h5,h6⟩:=hcells c cell hc;refine⟨vc,qG ho hT h4 (hvat c vc h5),h6 y hy⟩
theorem Nf {S1:Md->Nat->Prop}{w:World}{g:Nat->G}{hx:List (Nat×Nat)}:∀ {e:List Cell} {c:Nat} {ys:List X} {vs:List Value},pg hx c e=some ys->vs.length=e.length->(∀ i cell,e[i]?=some cell->∃ vc,vs[i]?=some vc/\∀ x,mB hx (c+i) cell=some x->vr S1 w g x vc)->aU S1 w g ys vs
 | [],c,ys,vs,h,hl,_=>by simp[pg] at h;subst h;rw[aU];exact List.eq_nil_of_length_eq_zero hl
 | a::e,c,ys,vs,h,hl,hc=>by
  simp only[pg] at h;split at h;rename_i y ys' U K;cases h;cases vs with
  | nil=>simp at hl
  | cons v vs=>
   obtain⟨vc,h3,h4⟩:=hc 0 a rfl;simp at h3;subst h3;rw[aU];refine⟨v,vs,rfl,h4 y U,Nf K (by simpa using hl) λi cell hi=>?_⟩;obtain⟨vc,h5,h6⟩:=hc (i+1) cell (by simpa using hi);exact⟨vc,by simpa using h5,λx hx=>h6 x (by rw[show c+(i+1)=c+1+i by omega];exact hx)⟩
  cases h
theorem Dz {T k:TypeId}{x:Operand}{r j c:Nat}{l:Option (Nat×Nat)}{p:Nat×List (List Cell)}{e:List Cell}{ys:List X}(ho:o.op=.load T x)(hT:cY P T=some true)(hk:cu P T=some k)(hx:aH ρ x=.pe r l j c)(hσ:dW (ak σ r) l=some p)(hj:p.2[j]?=some e)(hl:((e.drop c).take k).length=k){hx' : List (Nat×Nat)}(hh:rm (ak σ r) j hx')(hy:pg hx' c ((e.drop c).take k)=some ys):LT P S o ρ σ [r] (.ag ys) []:=
 LT.val λσ1 F g w ρc hs Z hv=>by
  have U:=hv x (by simp[ho,Op.operands]);obtain⟨v,k',L,gs,hg,b,A',c',hat,hlt,hlen,vs,hvl,hvat,_,hcells⟩:=AB hs (k:=p.1) (es:=p.2) (by rw[Z r (by simp)];exact hσ) hj (hx:=hx') (by rw[Z r (by simp)];exact hh);rw[hx,vr,hg] at U;obtain⟨b',n',cp',K,h3,h4⟩:=U _ _ hat
  cases K;have hl2:((vs.drop c).take k).length=k:=by
   simp only[List.length_take,List.length_drop] at hl ⊢;omega
  refine⟨_,De (cs:=(vs.drop c).take k) ho hT hk h4 (hvat.part c k) hl2,?_⟩;rw[vr];refine⟨_,rfl,Nf hy (hl2.trans hl.symm) λi cell hi=>?_⟩;rw[Anz] at hi;split at hi;rename_i hik;rw[Baz] at hi;obtain⟨vc,h5,h6⟩:=hcells (c+i) cell hi;exact⟨vc,by rw[Anz,ao hik,Baz];exact h5,h6⟩;cases hi
end
section
variable {P:Program}{S:Start}{n:Nat}{ρ:AE}{σ:St}{o:Oper}
theorem rd1.len {S1:Nat->Prop}{w:World}{x:D}{c:List Value}(h:rd1 S1 w x c):c.length=x.cells.length:=rdCs.len h
theorem RS {T e k:TypeId}{x i:Operand}{m m' : Md}{xs:List D}{q:IntKind}{j:Int}{y:D}(ho:o.op=.indexAddr T x i)(hT:db P T=some e)(hk:cu P e=some k)(hx:aH ρ x=.d m (.sl k xs))(hi:aH ρ i=.d m' (.i q j))(h0:0<=j)(hj:xs[j.toNat]?=some y):LT P S o ρ σ [] (.pf m y.cells) []:=
 LT.val λσ1 F g w ρc hs Z hv=>by
  have U:=hv x (by simp[ho,Op.operands]);have K:=hv i (by simp[ho,Op.operands]);rw[hx,vr,rdC] at U;rw[hi,vr,rdC] at K;replace K:=K.1;obtain⟨A,cap,cells,h3,h4,h5,h6,h7⟩:=U;have hlt:j.toNat<xs.length:=(List.getElem?_eq_some_iff.1 hj).1;rcases h7 with h7|⟨b,off,rfl,Y,hbl,hat⟩
  rw[h7] at hlt;simp at hlt;obtain⟨c,hc1,hc2,hc3⟩:=h6.get hj;refine⟨_,DC ho hT hk h3 rfl K h0 (by omega),?_⟩;rw[vr];exact⟨b,_,c,rfl,Y,hbl,hat.sub _ c hc3,hc2⟩
theorem Aj {T e k:TypeId}{x i:Operand}{m' : Md}{r:Nat}{l:Option (Nat×Nat)}{es:List (List Cell)}{q:IntKind}{j:Int}{y:List Cell}(ho:o.op=.indexAddr T x i)(hT:db P T=some e)(hk:cu P e=some k)(hx:aH ρ x=.ref r l)(hσ:dW (ak σ r) l=some (k,es))(hi:aH ρ i=.d m' (.i q j))(h0:0<=j)(hj:es[j.toNat]?=some y):LT P S o ρ σ [r] (.pe r l j.toNat 0) []:=
 LT.val λσ1 F g w ρc hs Z hv=>by
  have U:=hv x (by simp[ho,Op.operands]);have K:=hv i (by simp[ho,Op.operands]);rw[hi,vr,rdC] at K;replace K:=K.1;obtain⟨v,k',L,gs,hg,b,n',c',hat,hlt,hlen,_⟩:=AB hs (by rw[Z r (by simp)];exact hσ) hj (hx:=[]) (.inl rfl);rw[hx,vr,hg] at U;have h3:=U _ _ hat
  refine⟨_,DC ho hT hk h3 rfl K h0 (by omega),?_⟩;rw[vr,hg];intro u q2 hat';rw[hat] at hat';cases hat';exact⟨b,n',c',rfl,hlt,by simp⟩
theorem RR {T e k:TypeId}{x i:Operand}{m' : Md}{r lo n:Nat}{l:Option (Nat×Nat)}{es:List (List Cell)}{q:IntKind}{j:Int}{y:List Cell}(ho:o.op=.indexAddr T x i)(hT:db P T=some e)(hk:cu P e=some k)(hx:aH ρ x=.vs r l lo n)(hσ:dW (ak σ r) l=some (k,es))(hi:aH ρ i=.d m' (.i q j))(h0:0<=j)(hn:j.toNat<n)(hj:es[lo+j.toNat]?=some y):LT P S o ρ σ [r] (.pe r l (lo+j.toNat) 0) []:=
 LT.val λσ1 F g w ρc hs Z hv=>by
  have U:=hv x (by simp[ho,Op.operands]);have K:=hv i (by simp[ho,Op.operands]);rw[hi,vr,rdC] at K;replace K:=K.1;obtain⟨v,k',L,gs,hg,b,n',c',hat,hlt,hlen,_⟩:=AB hs (by rw[Z r (by simp)];exact hσ) hj (hx:=[]) (.inl rfl);rw[hx,vr,hg] at U;obtain⟨A,mm,cp,A',cp',e1,h3,h4,h5,h6,h7⟩:=U _ _ hat
  rcases h7 with h7|⟨b',e2,e3⟩
  omega;cases e1;cases e2;refine⟨_,DC ho hT hk h4 e3 K h0 (by omega),?_⟩;rw[vr,hg];intro u q2 hat';rw[hat] at hat';cases hat';exact⟨b,n',c',rfl,hlt,by rw[Nat.add_mul];rfl⟩
theorem Io {T e:TypeId}{x:Operand}{m:Md}{xs:List D}{k k' : Nat}(ho:o.op=.call { callee:=.builtin .len,args:=#[x],argTypes:=#[T] })(hT:db P T=some e)(hx:aH ρ x=.d m (.sl k' xs))(hk:xs.length=k):LT P S o ρ σ [] (.d .fz (.i .i64 k)) []:=
 LT.val λσ1 F g w ρc hs Z hv=>by
  have U:=hv x (by simp[ho,Op.operands,Call.operands]);rw[hx,vr,rdC] at U;obtain⟨A,cap,cells,h3,h4,h5,_⟩:=U;subst hk;have h5:cap<=9223372036854775807:=h5;exact⟨_,DG ho hT h3,by rw[vr,rdC];exact⟨rfl,by simp only[fj];omega⟩⟩
theorem Dy {T e:TypeId}{x:Operand}{r:Nat}{l:Option (Nat×Nat)}{es:List (List Cell)}{k k' : Nat}(ho:o.op=.call { callee:=.builtin .len,args:=#[x],argTypes:=#[T] })(hT:db P T=some e)(hx:aH ρ x=.ref r l)(hσ:dW (ak σ r) l=some (k',es))(hk:es.length=k):LT P S o ρ σ [r] (.d .fz (.i .i64 k)) []:=
 LT.val λσ1 F g w ρc hs Z hv=>by
  have U:=hv x (by simp[ho,Op.operands,Call.operands]);obtain⟨v,k0,L,gs,hg,u,LL,cs,hat,hown,_⟩:=oZ hs (r:=r) (l:=l) (by rw[Z r (by simp)];exact hσ);obtain⟨A,c,rfl,h4,h5⟩:=hown.form;rw[hx,vr,hg] at U;subst hk;have h5:c<=9223372036854775807:=h5;exact⟨_,DG ho hT (U _ _ hat),by rw[vr,rdC];exact⟨rfl,by simp only[fj];omega⟩⟩
theorem Sn {T e:TypeId}{x:Operand}{r lo k:Nat}{l:Option (Nat×Nat)}{p:Nat×List (List Cell)}(ho:o.op=.call { callee:=.builtin .len,args:=#[x],argTypes:=#[T] })(hT:db P T=some e)(hx:aH ρ x=.vs r l lo k)(hσ:dW (ak σ r) l=some p):LT P S o ρ σ [r] (.d .fz (.i .i64 k)) []:=
 LT.val λσ1 F g w ρc hs Z hv=>by
  have U:=hv x (by simp[ho,Op.operands,Call.operands]);obtain⟨v,k0,L,gs,hg,u,LL,cs,hat,hown,_⟩:=oZ hs (r:=r) (l:=l) (k:=p.1) (es:=p.2) (by rw[Z r (by simp)];exact hσ);rw[hx,vr,hg] at U;obtain⟨_,_,_,A',cp',_,_,h4,h5,h6,_⟩:=U _ _ hat
  have h6:cp'<=9223372036854775807:=h6;exact⟨_,DG ho hT h4,by rw[vr,rdC];exact⟨rfl,by simp only[fj];omega⟩⟩
theorem Sm {T:TypeId}{x:Operand}{m:Md}{s:ar}(ho:o.op=.call { callee:=.builtin .len,args:=#[x],argTypes:=#[T] })(hT:P.underlying T=some .string)(hx:aH ρ x=.d m (.s s)):LT P S o ρ σ [] (.d .fz (.i .i64 s.size)) []:=
 LT.val λσ1 F g w ρc hs Z hv=>by
  have U:=hv x (by simp[ho,Op.operands,Call.operands]);rw[hx,vr,rdC] at U;have K:=U.2;exact⟨_,SP ho hT U.1,by rw[vr,rdC];exact⟨rfl,by simp only[fj];omega⟩⟩
theorem rdC.cut {S1:Nat->Prop}{w:World}{k:Nat}{xs:List D}{A:Option Addr}{m c:Nat}(h:rdC S1 w (.sl k xs) (.slice A m c)){l h' : Nat}(hlh:l<=h')(hh:h'<=xs.length):rdC S1 w (.sl k ((xs.take h').drop l)) (eU A l h' c k):=by
 rw[rdC] at h ⊢;obtain⟨A',cap,cells,e,U,K,h3,h4⟩:=h;cases e;refine⟨if c=l then A else A.map (·.add (l*k)),c-l,(cells.take (h'*k)).drop (l*k),by simp[eU,List.length_drop,List.length_take,Nat.min_eq_left hh],by simp;omega,by omega,(h3.take h').drop l,?_⟩;rcases h4 with rfl|⟨b,o,rfl,Y,hbl,ha⟩
 left;simp;by_cases hlc:c=l;left;have:l=h':=by omega
 subst this;simp;right;refine⟨b,o+l*k,?_,Y,hbl,λj v hv=>?_⟩;have hadd:(⟨b,o,none⟩:Addr).add (l*k)=⟨b,o+l*k,none⟩:=by unfold Addr.add;split<;>simp_all
 simp[an hlc,hadd];rw[Baz,Anz] at hv;split at hv;rw[Nat.add_assoc];exact ha _ v hv;cases hv
theorem oY {j:Int}(h:0<=j):((j.toNat:Nat):Int)=j:=Int.toNat_of_nonneg h
theorem RQ {T e k:TypeId}{x hi:Operand}{m m2:Md}{xs:List D}{q' : IntKind}{b:Int}(ho:o.op=.slice T x none (some hi) none)(hT:db P T=some e)(hk:cu P e=some k)(hx:aH ρ x=.d m (.sl k xs))(hh:aH ρ hi=.d m2 (.i q' b))
  (U:0<=b) (h3:b.toNat<=xs.length):LT P S o ρ σ [] (.d m (.sl k (xs.take b.toNat))) []:=
 LT.val λσ1 F g w ρc hs Z hv=>by
  have e1:=hv x (by simp[ho,Op.operands]);have e3:=hv hi (by simp[ho,Op.operands]);rw[hh,vr,rdC] at e3;replace e3:=e3.1;rw[← oY U] at e3;rw[hx,vr] at e1;have e4:=e1;rw[rdC] at e4;obtain⟨A,cap,_,e5,h4,_⟩:=e4;rw[e5] at e1;exact⟨_,Al ho hT hk e5 e3 (by omega),by rw[vr];exact e1.cut (l:=0) (Nat.zero_le _) h3⟩
theorem RP {T e k:TypeId}{x lo:Operand}{m m1:Md}{xs:List D}{q:IntKind}{a:Int}(ho:o.op=.slice T x (some lo) none none)(hT:db P T=some e)(hk:cu P e=some k)(hx:aH ρ x=.d m (.sl k xs))(hl:aH ρ lo=.d m1 (.i q a))
  (h0:0<=a) (K:a.toNat<=xs.length):LT P S o ρ σ [] (.d m (.sl k (xs.drop a.toNat))) []:=
 LT.val λσ1 F g w ρc hs Z hv=>by
  have e1:=hv x (by simp[ho,Op.operands]);have e2:=hv lo (by simp[ho,Op.operands]);rw[hl,vr,rdC] at e2;replace e2:=e2.1;rw[← oY h0] at e2;rw[hx,vr] at e1;have e4:=e1;rw[rdC] at e4;obtain⟨A,cap,_,e5,h4,_⟩:=e4;rw[e5] at e1;refine⟨_,Il ho hT hk e5 e2 (by omega),?_⟩;rw[vr];have:=e1.cut (l:=a.toNat) (h':=xs.length) K (Nat.le_refl _);rwa[List.take_length] at this
theorem V6 {v:Value}{A:Option Addr}{n c l h k:Nat}(hv:v=.slice A n c)(U:l<=h)(K:h<=n)(h3:n<=c)(h4:c<=maxLen)(hA:n=0∨∃ b,A=some ⟨b,0,none⟩):pn v k l (h-l) (eU A l h c k):=by
 refine⟨A,n,c,if c=l then A else A.map (·.add (l*k)),c-l,hv,by omega,rfl,by omega,by omega,?_⟩;by_cases hlc:c=l;left;omega;rcases hA with hA|⟨b,rfl⟩
 left;omega;right;refine⟨b,rfl,?_⟩;have hadd:(⟨b,0,none⟩:Addr).add (l*k)=⟨b,l*k,none⟩:=by unfold Addr.add;split<;>simp_all
 simp[an hlc,hadd]
theorem RO {T e k:TypeId}{x:Operand}{lo hi:Option Operand}{r:Nat}{l:Option (Nat×Nat)}{es:List (List Cell)}{a b:Int}(ho:o.op=.slice T x lo hi none)(hT:db P T=some e)(hk:cu P e=some k)(hx:aH ρ x=.ref r l)(hσ:dW (ak σ r) l=some (k,es))
  (hl:match lo with|some y=>∃ m q,aH ρ y=.d m (.i q a)|none=>a=0) (hh:match hi with|some y=>∃ m q,aH ρ y=.d m (.i q b)|none=>b=es.length/\lo≠none)
  (h0:0<=a) (U:0<=b) (K:a.toNat<=b.toNat) (h3:b.toNat<=es.length):LT P S o ρ σ [r] (.vs r l a.toNat (b.toNat-a.toNat)) []:=
 LT.val λσ1 F g w ρc hs Z hv=>by
  have hσ' : dW (σ1 r) l=some (k,es):=by rw[Z r (by simp)];exact hσ
  have e1:=hv x (by simp[ho,Op.operands]);obtain⟨v,k',L,gs,hg,u,LL,cs,hat,hown,_⟩:=oZ hs hσ';obtain⟨A,c,rfl,h5,h6⟩:=hown.form;rw[hx,vr,hg] at e1;have e2:=e1 _ _ hat
  have hA:es.length=0∨∃ b,A=some ⟨b,0,none⟩:=hown.at.imp id λ⟨b,c',_,_,e,_⟩=>by cases e;exact⟨b,rfl⟩
  have fin:∀ vc,Ev P ρc o w vc->vc=eU A a.toNat b.toNat c k->∃ vc,Ev P ρc o w vc/\vr (SM F S.B) w g (.vs r l a.toNat (b.toNat-a.toNat)) vc:=λvc hev hvc=>by
   refine⟨vc,hev,?_⟩;rw[vr,hg];intro u' q' hat';rw[hat] at hat';cases hat';subst hvc;exact V6 rfl K h3 h5 h6 hA
  cases lo with
  | none=>
   simp only at hl;subst hl;cases hi with
   | none=>exact absurd rfl hh.2
   | some y=>
    obtain⟨m,q1,hy⟩:=hh;have e3:=hv y (by simp[ho,Op.operands]);rw[hy,vr,rdC] at e3;replace e3:=e3.1;rw[← oY U] at e3;exact fin _ (Al ho hT hk e2 e3 (by omega)) rfl
  | some y=>
   obtain⟨m,q1,hy⟩:=hl;have e3:=hv y (by simp[ho,Op.operands]);rw[hy,vr,rdC] at e3;replace e3:=e3.1;rw[← oY h0] at e3;cases hi with
   | none=>
    obtain⟨rfl,_⟩:=hh;exact fin _ (Il ho hT hk e2 e3 (by simpa using K)) rfl
   | some z=>
    obtain⟨m2,q2,hz⟩:=hh;have e4:=hv z (by simp[ho,Op.operands]);rw[hz,vr,rdC] at e4;replace e4:=e4.1;rw[← oY U] at e4;exact fin _ (SE ho hT hk e2 e3 e4 K (by omega)) rfl
def cv:D->Option Value
 | .i k n=>some (.int k n)
 | .b b=>some (.bool b)
 | .s t=>some (.string t)
 | _=>none
theorem wC {S1:Nat->Prop}{w:World}{x:D}{u v:Value}(h:cv x=some u):rdC S1 w x v↔v=u/\fY x:=by
 cases x<;>simp only[cv] at h<;>cases h<;>simp only[rdC,fY,and_true]
def iT:X->Option Value
 | .d _ x=>cv x
 | _=>none
theorem AH {S1:Md->Nat->Prop}{w:World}{g:Nat->G}{x:X}{u v:Value}(h:iT x=some u)(hv:vr S1 w g x v):v=u:=by
 cases x<;>simp only[iT] at h<;>first|(rw[vr] at hv;exact ((wC h).1 hv).1)|cases h
def gx:X->Prop
 | .d _ x=>fY x
 | _=>True
theorem EM {S1:Md->Nat->Prop}{w:World}{g:Nat->G}{x:X}{u v:Value}(h:iT x=some u)(hv:vr S1 w g x v):gx x:=by
 cases x<;>simp only[iT] at h<;>first|(rw[vr] at hv;exact ((wC h).1 hv).2)|cases h
def mF:List X->Option (List Value)
 | []=>some []
 | x::xs=>match iT x,mF xs with
  | some v,some vs=>some (v::vs)
  | _,_=>none
theorem EL {S1:Md->Nat->Prop}{w:World}{g:Nat->G}:∀ {xs:List X} {us vs:List Value},mF xs=some us->aU S1 w g xs vs->vs=us
 | [],us,vs,h,k=>by simp only[mF] at h;cases h;rw[aU] at k;exact k
 | x::xs,us,vs,h,k=>by
  simp only[mF] at h;split at h;rename_i v vs' U K;cases h;rw[aU] at k;obtain⟨v',r,rfl,k1,k2⟩:=k;rw[AH U k1,EL K k2];cases h
theorem Ai {op:BinOp}{T Z7:TypeId}{x y:Operand}{X1 Y1:X}{u v r:Value}{z:D}(ho:o.op=.binOp op T x y Z7)(hx:aH ρ x=X1)(hy:aH ρ y=Y1)(hu:iT X1=some u)(hv:iT Y1=some v)(h:gx X1->gx Y1->cK P op T u v r/\fY z)(hz:cv z=some r):LT P S o ρ σ [] (.d .fz z) []:=
 LT.val λσ1 F g w ρc hs Z hw=>by
  have e1:=hw x (by simp[ho,Op.operands]);have e2:=hw y (by simp[ho,Op.operands]);rw[hx] at e1;rw[hy] at e2;obtain⟨U,K⟩:=h (EM hu e1) (EM hv e2);exact⟨r,Dd ho (AH hu e1) (AH hv e2) U,by rw[vr,wC hz];exact⟨rfl,K⟩⟩
theorem Im {op:BinOp}{T Z7:TypeId}{x y:Operand}{xs ys:List X}{us vs:List Value}{r:Value}{z:D}(ho:o.op=.binOp op T x y Z7)(hx:aH ρ x=.ag xs)(hy:aH ρ y=.ag ys)(hu:mF xs=some us)(hv:mF ys=some vs)(h:cK P op T (.agg us.toArray) (.agg vs.toArray) r)(hz:cv z=some r)(hrz:fY z):LT P S o ρ σ [] (.d .fz z) []:=
 LT.val λσ1 F g w ρc hs Z hw=>by
  have e1:=hw x (by simp[ho,Op.operands]);have e2:=hw y (by simp[ho,Op.operands]);rw[hx,vr] at e1;rw[hy,vr] at e2;obtain⟨xs',e1,k1⟩:=e1;obtain⟨ys',e2,k2⟩:=e2;rw[EL hu k1] at e1;rw[EL hv k2] at e2;exact⟨r,Dd ho e1 e2 h,by rw[vr,wC hz];exact⟨rfl,hrz⟩⟩
theorem RN {T:TypeId}{x:Operand}{m:Md}{b:Bool}(ho:o.op=.unOp .not T x)(hx:aH ρ x=.d m (.b b)):LT P S o ρ σ [] (.d .fz (.b (!b))) []:=
 LT.val λσ1 F g w ρc hs Z hw=>by
  have e1:=hw x (by simp[ho,Op.operands]);rw[hx,vr,rdC] at e1;exact⟨_,Q8 ho e1,by rw[vr,rdC]⟩
theorem Du {x:Operand}{X1:X}{u r:Value}{z:D}(hm:x∈o.op.operands)(hx:aH ρ x=X1)(hu:iT X1=some u)(h:gx X1->(∀ ρc w,E.ev ρc x=u->Ev P ρc o w r)/\fY z)(hz:cv z=some r):LT P S o ρ σ [] (.d .fz z) []:=
 LT.val λσ1 F g w ρc hs Z hw=>by
  have e1:=hw x hm;rw[hx] at e1;obtain⟨U,K⟩:=h (EM hu e1);exact⟨r,U ρc w (AH hu e1),by rw[vr,wC hz];exact⟨rfl,K⟩⟩
theorem LT.ext {x:Operand}{k:Nat}{xs:List X}{y:X}(ho:o.op=.extract x k)(hx:aH ρ x=.tu xs)(hy:xs[k]?=some y):LT P S o ρ σ [] y []:=
 LT.val λσ1 F g w ρc hs Z hw=>by
  have e1:=hw x (by simp[ho,Op.operands]);rw[hx,vr] at e1;obtain⟨vs,e1,k1⟩:=e1;obtain⟨v,U,K⟩:=k1.get hy;exact⟨v,Ev.ex ho e1 (by simpa using U),K⟩
theorem RL {T ft off:TypeId}{x:Operand}{i:Nat}{xs:List X}{y:X}(ho:o.op=.field T x i)(hT:og P T i=some (ft,off))(hg:cY P ft=some false)(hx:aH ρ x=.ag xs)(hy:xs[off]?=some y):LT P S o ρ σ [] y []:=
 LT.val λσ1 F g w ρc hs Z hw=>by
  have e1:=hw x (by simp[ho,Op.operands]);rw[hx,vr] at e1;obtain⟨vs,e1,k1⟩:=e1;obtain⟨v,U,K⟩:=k1.get hy;exact⟨v,Q3 ho hT hg e1 U,K⟩
theorem Sl {T ft off k:TypeId}{x:Operand}{i:Nat}{xs:List X}(ho:o.op=.field T x i)(hT:og P T i=some (ft,off))(hg:cY P ft=some true)(hk:cu P ft=some k)(hx:aH ρ x=.ag xs):LT P S o ρ σ [] (.ag ((xs.drop off).take k)) []:=
 LT.val λσ1 F g w ρc hs Z hw=>by
  have e1:=hw x (by simp[ho,Op.operands]);rw[hx,vr] at e1;obtain⟨vs,e1,k1⟩:=e1;refine⟨_,Su ho hT hg hk e1,?_⟩;rw[vr];refine⟨(vs.drop off).take k,?_,(k1.drop off).take k⟩;congr 1;apply Array.ext';simp[List.extract_eq_take_drop]
theorem Sk {x:Operand}{r c:Nat}{cs:List X}(ho:o.op=.nilCheck x)(hx:aH ρ x=.pb r c)(hσ:ak σ r=.box cs):LT P S o ρ σ [r] (.pb r c) []:=
 LT.val λσ1 F g w ρc hs Z hv=>by
  have U:=hv x (by simp[ho,Op.operands]);obtain⟨b,T',vs,hg,Y,hc⟩:=pj hs ((Z r (by simp)).trans hσ);rw[hx,vr,hg] at U;exact⟨_,Sv ho U,by rw[vr,hg]⟩
theorem BH {S1:Md->Nat->Prop}{w:World}{g:Nat->G}{ρc:Env}:∀ {l:List Operand},(∀ x∈l,vr S1 w g (aH ρ x) (E.ev ρc x))->aU S1 w g (l.map (aH ρ)) (l.map (E.ev ρc))
 | [],_=>by simp[aU]
 | x::l,h=>by
  rw[Blz,Blz,aU];exact⟨_,_,rfl,h x (by simp),BH λy hy=>h y (by simp[hy])⟩
theorem RJ {f:Nat}{c:Array Operand}(ho:o.op=.makeFunc (.func f) #[] c):LT P S o ρ σ [] (.fn f (c.toList.map (aH ρ))) []:=
 LT.val λσ1 F g w ρc hs Z hv=>by
  refine⟨_,Sw (vs:=[]) (us:=c.toList.map (E.ev ρc)) ho rfl rfl,?_⟩;rw[vr];exact⟨_,rfl,BH λx hx=>hv x (by simp[ho,Op.operands];simpa using hx)⟩
def X.cells:X->List X
 | .ag cs=>cs
 | x=>[x]
def kI (σ:Nat->aA):X->Bool
 | .d _ _=>true
 | .nl _=>true
 | .fn _ _=>true
 | .pf _ _=>true
 | .ref r l=>(dW (σ r) l).isSome
 | .vs r l _ _=>(dW (σ r) l).isSome
 | .pe r l _ _=>(dW (σ r) l).isSome
 | .pb r _=>match σ r with|.box _=>true|_=>false
 | _=>false
def dr:X->List Nat
 | .ref r _=>[r]
 | .vs r _ _ _=>[r]
 | .pe r _ _ _=>[r]
 | .pb r _=>[r]
 | _=>[]
theorem KZ {F:Nat->Prop}{g:Nat->G}{w:World}{σ1:Nat->aA}(hs:bu S F g σ1 w){x:X}{v:Value}(h:kI σ1 x=true)(hv:vr (SM F S.B) w g x v):v.oneCell'=true:=by
 cases x<;>simp only[kI] at h<;>rw[vr] at hv;exact hv.one;cases h;cases h;obtain⟨⟨k,es⟩,he⟩:=Option.isSome_iff_exists.1 h;obtain⟨v',k0,L,gs,hg,u,LL,cs,hat,hown,_⟩:=oZ hs he;obtain⟨A,c,rfl,_⟩:=hown.form;rw[hg] at hv;rw[hv _ _ hat];rfl;obtain⟨⟨k,es⟩,he⟩:=Option.isSome_iff_exists.1 h;obtain⟨v',k0,L,gs,hg,u,LL,cs,hat,hown,_⟩:=oZ hs he;obtain⟨A,c,rfl,_⟩:=hown.form;rw[hg] at hv;obtain⟨_,_,_,_,_,_,_,h4,_⟩:=hv _ _ hat
 rw[h4];rfl;rename_i r c;cases hσ:σ1 r<;>rw[hσ] at h<;>try cases h
 obtain⟨b,T,vs,hg,_⟩:=pj hs hσ;rw[hg] at hv;rw[hv];rfl;obtain⟨⟨k,es⟩,he⟩:=Option.isSome_iff_exists.1 h;obtain⟨v',k0,L,gs,hg,u,LL,cs,hat,hown,_⟩:=oZ hs he;obtain⟨A,c,rfl,_⟩:=hown.form;rw[hg] at hv;obtain⟨_,_,_,_,_,h4⟩:=hv _ _ hat
 rw[h4];rfl;obtain⟨b,o,cs,rfl,_⟩:=hv;rfl;obtain⟨vs,rfl,_⟩:=hv;rfl;rw[hv];rfl;cases h
theorem G8 {v:Value}(h:v.oneCell'=true):v.cells.toList=[v]:=by
 cases v<;>simp[Value.oneCell'] at h<;>simp[Value.cells]
def gH (σ:Nat->aA):X->Bool
 | .ag _=>true
 | x=>kI σ x
theorem pC {F:Nat->Prop}{g:Nat->G}{w:World}{σ1:Nat->aA}(hs:bu S F g σ1 w){x:X}{v:Value}(h:gH σ1 x=true)(hv:vr (SM F S.B) w g x v):aU (SM F S.B) w g x.cells v.cells.toList:=by
 have one:kI σ1 x=true->aU (SM F S.B) w g [x] v.cells.toList:=λU=>by rw[G8 (KZ hs U hv),aU];exact⟨v,[],rfl,hv,by rw[aU]⟩
 cases x with
 | ag cs=>rw[vr] at hv;obtain⟨vs,rfl,hvs⟩:=hv;simpa[X.cells,Value.cells] using hvs
 | _=>exact one h
theorem Og {σ1 σ2:Nat->aA}{x:X}(h:∀ r∈dr x,σ1 r=σ2 r):kI σ1 x=kI σ2 x:=by
 cases x<;>simp only[kI]<;>simp only[dr,List.mem_singleton,forall_eq] at h<;>first|rfl|rw[h]
theorem uw {σ1 σ2:Nat->aA}{x:X}(h:∀ r∈dr x,σ1 r=σ2 r):gH σ1 x=gH σ2 x:=by
 cases x<;>first|rfl|exact Og h
def gV {α:Type}(places:List (Nat×Nat))(cells:List α):List (Nat×List α)->List α
 | []=>cells
 | (i,l)::rest=>match places[i]? with
  | some (off,_)=>gV places (cells.take off++l++cells.drop (off+l.length)) rest
  | none=>[]
theorem KY (places:List (Nat×Nat)):∀ (pl:List (Nat×List Value)) (cells:List Value),lay places cells pl=gV places cells pl
 | [],_=>rfl
 | (i,l)::rest,cells=>by
  rw[lay,gV];cases places[i]? with
  | none=>rfl
  | some p=>exact KY places rest _
theorem KX {S1:Md->Nat->Prop}{w:World}{g:Nat->G}(places:List (Nat×Nat)):∀ (pl:List (Nat×List X)) (ql:List (Nat×List Value)) (cells:List X) (vs:List Value),aU S1 w g cells vs->aS (λp q=>p.1=q.1/\aU S1 w g p.2 q.2) pl ql->aU S1 w g (gV places cells pl) (gV places vs ql)
 | [],ql,cells,vs,h,K=>by rw[show ql=[] from K];exact h
 | (i,l)::rest,_,cells,vs,h,⟨(j,l'),r,U,⟨h3,h4⟩,h5⟩=>by
  subst U;simp only at h3 h4;subst h3;rw[gV,gV];split;refine KX places rest r _ _ (((h.take _).append h4).append ?_) h5;rw[h4.len];exact h.drop _;rw[aU]
theorem LT.build {T:TypeId}{parts:Array (Nat×Operand)}{places:List (Nat×Nat)}{z:List Value}{zs:List X}{xs:List (Nat×X)}{ys:List X}(ho:o.op=.build T parts)(hp:wY P T=some places)(hz:gk P T=some z)(hzs:∀ S1 w g,aU S1 w g zs z)
  (hx:parts.toList.map (λp=>(p.1,aH ρ p.2))=xs) (hs:xs.all (λp=>gH (ak σ) p.2)=true) (hf:gI places zs.length (xs.map λp=>(p.1,p.2.cells.length))=true) (hy:gV places zs (xs.map λp=>(p.1,p.2.cells))=ys) :
  LT P S o ρ σ (xs.flatMap λp=>dr p.2) (.ag ys) []:=
 LT.val λσ1 F g w ρc hsim Z hv=>by
  subst hx;subst hy;have hall:∀ p∈parts.toList,aU (SM F S.B) w g (aH ρ p.2).cells (E.ev ρc p.2).cells.toList:=λp hp=>by
   refine pC hsim ?_ (hv p.2 ?_);rw[uw (σ2:=ak σ) λr hrr=>Z r (by simp only[List.mem_flatMap,List.mem_map];exact⟨_,⟨p,hp,rfl⟩,hrr⟩)];have:=List.all_eq_true.1 hs (p.1,aH ρ p.2) (List.mem_map.2 ⟨p,hp,rfl⟩);exact this;simp only[ho,Op.operands];simpa using ⟨p.1,by simpa using hp⟩
  have hlen:∀ l:List (Nat×Operand),(∀ p∈l,aU (SM F S.B) w g (aH ρ p.2).cells (E.ev ρc p.2).cells.toList)->(l.map (λp=>(p.1,E.ev ρc p.2))).map (λp=>(p.1,p.2.cells.toList.length))=(l.map (λp=>(p.1,aH ρ p.2))).map (λp=>(p.1,p.2.cells.length)) /\
    aS (λ(p:Nat×List X) (q:Nat×List Value)=>p.1=q.1/\aU (SM F S.B) w g p.2 q.2) ((l.map (λp=>(p.1,aH ρ p.2))).map λp=>(p.1,p.2.cells)) ((l.map (λp=>(p.1,E.ev ρc p.2))).map λp=>(p.1,p.2.cells.toList)):=by
   intro l
   induction l with
   | nil=>intro _;exact⟨rfl,rfl⟩
   | cons p l ih=>
    intro h;obtain⟨U,K⟩:=ih λq hq=>h q (by simp[hq]);have h3:=h p (by simp);simp only[Blz];refine⟨?_,?_⟩;rw[U,h3.len];exact⟨_,_,rfl,⟨rfl,h3⟩,K⟩
  obtain⟨U,K⟩:=hlen parts.toList hall;refine⟨_,Ev.build (pl:=(parts.toList.map (λp=>(p.1,E.ev ρc p.2))).map λp=>(p.1,p.2.cells.toList)) ho hp hz rfl rfl ?_ rfl,?_⟩;rw[← (hzs (SM F S.B) w g).len] at hf;simp only[List.map_map] at U hf ⊢;have e:(List.map ((λp=>(p.1,p.2.length)) ∘ (λp=>(p.1,p.2.cells.toList)) ∘ λ(p:Nat×Operand)=>(p.1,E.ev ρc p.2)) parts.toList)=List.map ((λ(p:Nat×X)=>(p.1,p.2.cells.length)) ∘ λp=>(p.1,aH ρ p.2)) parts.toList:=U;rw[e];exact hf;rw[vr,KY];exact⟨_,rfl,KX places _ _ _ _ (hzs _ _ _) K⟩
end
end Go.A
