/- Abstract states of a walk: plain lemmas on the model, without conditions of their own. -/
import Derived.Test.YtodhafdaelcnlaaGreatEng3
set_option linter.unusedVariables false
set_option linter.unusedSimpArgs false
set_option linter.ambiguousOpen false
set_option linter.unusedSectionVars false
set_option linter.unnecessarySimpa false
open List renaming flatMap_cons->Bkz,getElem?_take->Anz,map_cons->Blz,getElem?_drop->Baz
open Nat renaming zero_add->Adz
namespace Go.A
open Go Go.E
section
variable {P:Program}{S:Start}{n:Nat}{ρ:AE}{σ:St}{o:Oper}{rd:List Nat}{v:X}
theorem LT.val (h:∀ σ1 F g w ρc,bp S F g σ1 w->(∀ i∈rd,σ1 i=ai σ i)->(∀ x∈o.op.operands,vr (SM F S.B) w g (aE ρ x) (E.ev ρc x))->∃ vc,Ev P ρc o w vc/\vr (SM F S.B) w g v vc):LT P S o ρ σ rd v []:=by
 intro σ1 F g w ρc hs Z _ hv;obtain⟨vc,U,W⟩:=h σ1 F g w ρc hs Z hv;rw[show (execOp (E.ev ρc) o).run P w=.ok (.value vc) w from U];exact⟨F,g,hs,cj.refl,W⟩
theorem LT.mv {x:Operand}(ho:o.op=.move x):LT P S o ρ σ [] (aE ρ x) []:=
 LT.val λ_ _ _ _ ρc _ _ hv=>⟨E.ev ρc x,HD ho rfl,hv x (by simp[ho,Op.operands])⟩
theorem LT.as {x:Operand}(ho:o.op=.assign x):LT P S o ρ σ [] (aE ρ x) []:=
 LT.val λ_ _ _ _ ρc _ _ hv=>⟨E.ev ρc x,CP ho rfl,hv x (by simp[ho,Op.operands])⟩
theorem Q5 {c x y:Operand}{m:Md}{b:Bool}(ho:o.op=.pick c x y)(hc:aE ρ c=.d m (.b b)):LT P S o ρ σ [] (if b then aE ρ x else aE ρ y) []:=
 LT.val λ_ F g w ρc _ _ hv=>by
  have U:=hv c (by simp[ho,Op.operands]);rw[hc,vr,rdC] at U;refine⟨_,QH ho U rfl rfl,?_⟩;cases b;exact hv y (by simp[ho,Op.operands]);exact hv x (by simp[ho,Op.operands])
section
variable {F:Nat->Prop}{g:Nat->G}{w:World}{σ1:Nat->aw}
theorem oB (hs:bp S F g σ1 w){r k:Nat}{es:List (List Cell)}(he:(∃ m hs,σ1 r=.deep m k es hs)∨∃ m xs,σ1 r=.row m k xs/\es=xs.map (bN m)):∃ v L gs,g r=.row v k L gs/\rowOk (SM F S.B) w es v k L gs:=by
 have U:=hs.roots r;rcases he with ⟨m,hs,he⟩|⟨m,xs,he,rfl⟩<;>rw[he] at U<;>cases hg:g r<;>rw[hg] at U<;>first|exact U.elim|(obtain⟨⟨rfl,U⟩,_⟩:=U;exact⟨_,_,_,rfl,U⟩)|(obtain⟨rfl,U⟩:=U;exact⟨_,_,_,rfl,U⟩)
theorem oA (hs:bp S F g σ1 w){r:Nat}{cs:List X}(he:σ1 r=.box cs):∃ b T vs,g r=.box b T/\dE w b T vs/\aQ (SM F S.B) w g cs vs:=by
 have U:=hs.roots r;rw[he] at U;cases hg:g r<;>rw[hg] at U<;>first|exact U.elim|exact⟨_,_,U.choose,rfl,U.choose_spec.1,U.choose_spec.2⟩
theorem aQ.len {S1:Md->Nat->Prop}:∀ {xs:List X} {vs:List Value},aQ S1 w g xs vs->vs.length=xs.length
 | [],_,h=>by rw[aQ] at h;subst h;rfl
 | x::xs,_,h=>by rw[aQ] at h;obtain⟨v,r,rfl,_,h3⟩:=h;simp[h3.len]
theorem aQ.get {S1:Md->Nat->Prop}:∀ {xs:List X} {vs:List Value},aQ S1 w g xs vs->∀ {c:Nat} {x:X},xs[c]?=some x->∃ v,vs[c]?=some v/\vr S1 w g x v
 | [],_,h,c,x,hx=>by simp at hx
 | y::xs,_,h,c,x,hx=>by
  rw[aQ] at h;obtain⟨v,r,rfl,W,h3⟩:=h;cases c with
  | zero=>simp at hx;subst hx;exact⟨v,rfl,W⟩
  | succ c=>simpa using h3.get (c:=c) (by simpa using hx)
theorem aQ.take {S1:Md->Nat->Prop}:∀ {xs:List X} {vs:List Value},aQ S1 w g xs vs->∀ k,aQ S1 w g (xs.take k) (vs.take k)
 | [],_,h,k=>by rw[aQ] at h;subst h;simp[aQ]
 | x::xs,_,h,0=>by simp[aQ]
 | x::xs,_,h,k+1=>by
  rw[aQ] at h;obtain⟨v,r,rfl,W,h3⟩:=h;simp only[List.take_succ_cons,aQ];exact⟨v,_,rfl,W,h3.take k⟩
theorem aQ.drop {S1:Md->Nat->Prop}:∀ {xs:List X} {vs:List Value},aQ S1 w g xs vs->∀ k,aQ S1 w g (xs.drop k) (vs.drop k)
 | [],_,h,k=>by rw[aQ] at h;subst h;simp[aQ]
 | x::xs,_,h,0=>by simpa using h
 | x::xs,_,h,k+1=>by
  rw[aQ] at h;obtain⟨v,r,rfl,W,h3⟩:=h;simpa using h3.drop k
theorem aQ.append {S1:Md->Nat->Prop}:∀ {xs ys:List X} {vs us:List Value},aQ S1 w g xs vs->aQ S1 w g ys us->aQ S1 w g (xs++ys) (vs++us)
 | [],ys,_,us,h,W=>by rw[aQ] at h;subst h;simpa using W
 | x::xs,ys,_,us,h,k=>by
  rw[aQ] at h;obtain⟨v,r,rfl,W,h3⟩:=h;simp only[List.cons_append,aQ];exact⟨v,_,rfl,W,h3.append k⟩
theorem aQ.set {S1:Md->Nat->Prop}:∀ {xs:List X} {vs:List Value},aQ S1 w g xs vs->∀ {c:Nat} {x:X} {v:Value},vr S1 w g x v->aQ S1 w g (xs.set c x) (vs.set c v)
 | [],_,h,c,x,v,hx=>by rw[aQ] at h;subst h;simp[aQ]
 | y::xs,_,h,0,x,v,hx=>by
  rw[aQ] at h;obtain⟨u,r,rfl,W,h3⟩:=h;simp only[List.set_cons_zero,aQ];exact⟨v,r,rfl,hx,h3⟩
 | y::xs,_,h,c+1,x,v,hx=>by
  rw[aQ] at h;obtain⟨u,r,rfl,W,h3⟩:=h;simp only[List.set_cons_succ,aQ];exact⟨u,_,rfl,W,h3.set hx⟩
theorem LG:∀ {k:Nat} {es:List (List Cell)} {gs:List (List GC)} {S1:Md->Nat->Prop},aL (eY S1 w k) es gs->∀ {j:Nat} {ge:List GC},gs[j]?=some ge->∀ c gc,ge[c]?=some gc->(bW gs)[j*k+c]?=some gc.val
 | k,[],_,_,h,j,ge,hj,_,_,_=>by rw[show _=[] from h] at hj;simp at hj
 | k,e::es,_,S1,⟨g1,r,U,W,h3⟩,0,ge,hj,c,gc,hc=>by
  subst U;simp at hj;subst hj;have hlt:c<g1.length:=(List.getElem?_eq_some_iff.1 hc).1;simp only[bW,Bkz,Nat.zero_mul,Adz];rw[List.getElem?_append_left (by simpa using hlt)];simp[hc]
 | k,e::es,_,S1,⟨g1,r,U,W,h3⟩,j+1,ge,hj,c,gc,hc=>by
  subst U;have ih:=LG h3 (j:=j) (by simpa using hj) c gc hc;have hl:(g1.map (·.val)).length=k:=by rw[bn,W.2.len,W.1]
  have hm:(j+1)*k=k+j*k:=by rw[Nat.add_mul];omega
  simp only[bW,Bkz];rw[List.getElem?_append_right (by omega),show (j+1)*k+c-(g1.map (·.val)).length=j*k+c by omega];exact ih
end
theorem PX {T:TypeId}{x:Operand}{i k r c:Nat}{cs:List X}(ho:o.op=.fieldAddr T x i)(hT:mo P T i=some k)(hx:aE ρ x=.pb r c)(hσ:ai σ r=.box cs):LT P S o ρ σ [r] (.pb r (c+k)) []:=
 LT.val λσ1 F g w ρc hs Z hv=>by
  have U:=hv x (by simp[ho,Op.operands]);obtain⟨b,T',vs,hg,Y,hc⟩:=oA hs ((Z r (by simp)).trans hσ);rw[hx,vr,hg] at U;exact⟨_,pS ho hT U,by rw[vr,hg]⟩
theorem PW {T:TypeId}{x:Operand}{i k:Nat}{m:Md}{ds:List D}(ho:o.op=.fieldAddr T x i)(hT:mo P T i=some k)(hx:aE ρ x=.pf m ds):LT P S o ρ σ [] (.pf m (ds.drop k)) []:=
 LT.val λσ1 F g w ρc hs Z hv=>by
  have U:=hv x (by simp[ho,Op.operands]);rw[hx,vr] at U;obtain⟨b,off,cs,U,W,h3,h4,h5⟩:=U;refine⟨_,pS ho hT U,?_⟩;rw[vr];exact⟨b,off+k,cs.drop k,rfl,W,h3,h4.sub k _ λi v hv=>by simpa using hv,h5.drop k⟩
def dK (x:aw):Option (Nat×Nat)->Option (Nat×List (List Cell))
 | none=>match x with|.row m k xs=>some (k,xs.map (bN m))|.deep _ k es _=>some (k,es)|_=>none
 | some _=>none
theorem bL.at {w:World}{k:Nat}{v:Value}{n:Nat}{L:List Nat}{cs:List Value}(h:bL w k v n L cs):n=0∨∃ b c T cur,v=.slice (some ⟨b,0,none⟩) n c/\At w b 0 cs/\b∈L/\w.heap[b]?=some (.cells cur T (0,0))/\n*k<=cur.size/\cur.toList.take (n*k)=cs:=by
 obtain⟨e,⟨_,h⟩,hL⟩:=h;rcases h with ⟨_,h⟩|⟨b,cap,cur,h,_,W,h3,h4,h5,h6⟩
 exact .inl h;refine .inr ⟨b,cap,e,cur,h,?_,by rw[hL,h];simp[Value.ownBlock],W,by rw[h5];exact Nat.mul_le_mul_right _ h3,h6⟩;intro c v hv;rw[Adz,cell_of_row w b _ _ e (0,0) W];rw[← h6,Anz] at hv;split at hv;simpa using hv;cases hv
theorem ot {F:Nat->Prop}{g:Nat->G}{w:World}{σ1:Nat->aw}(hs:bp S F g σ1 w){r k:Nat}{l:Option (Nat×Nat)}{es:List (List Cell)}(he:dK (σ1 r) l=some (k,es)) :
  ∃ (v:Value) (k0:Nat) (L:List Nat) (gs:List (List GC)),g r=.row v k0 L gs/\∃ (u:Value) (LL:List Nat) (cs:List Value),G.at (.row v k0 L gs) l=some (u,k)/\bL w k u es.length LL cs/\(∀ b∈LL,b∈bl (g r)) /\
   ∀ (j:Nat) (e:List Cell),es[j]?=some e->e.length=k/\∃ vs:List Value,vs.length=k/\(∀ (c:Nat) (v:Value),vs[c]?=some v->cs[j*k+c]?=some v)/\∀ (c:Nat) (cell:Cell),e[c]?=some cell->∃ vc,vs[c]?=some vc/\(∃ gc,(gs[j]?).bind (·[c]?)=some gc/\gc.val=vc)/\(match cell with
    | Cell.d m x=>rdC (SM F S.B m) w x vc
    | Cell.nl _=>vc=.slice none 0 0
    | Cell.u=>vc.oneCell'=true
    | _=>True):=by
 cases l with
 | none=>
  have:(∃ m hs,σ1 r=.deep m k es hs)∨∃ m xs,σ1 r=.row m k xs/\es=xs.map (bN m):=by
   revert he;cases σ1 r<;>intro he<;>simp[dK] at he;obtain⟨rfl,rfl⟩:=he;exact .inr ⟨_,_,rfl,rfl⟩;obtain⟨rfl,rfl⟩:=he;exact .inl ⟨_,_,rfl⟩
  obtain⟨v,L,gs,hg,hrow⟩:=oB hs this;refine⟨v,k,L,gs,hg,v,L,bW gs,rfl,hrow.1,λb Y=>by rw[hg];simp[bl,Y],λj e hj=>?_⟩;obtain⟨ge,hge,hel⟩:=hrow.2.get hj;refine⟨hel.1,ge.map (·.val),by rw[bn,hel.2.len,hel.1],λc v hv=>?_,λc cell hc=>?_⟩;rw[List.getElem?_map] at hv;cases hgc:ge[c]? with
  | none=>rw[hgc] at hv;cases hv
  | some gc=>
   rw[hgc] at hv;cases hv;exact LG hrow.2 hge c gc hgc
  obtain⟨gc,hgc,hcl⟩:=hel.2.get hc;refine⟨gc.val,by simp[hgc],⟨gc,by simp[hge,hgc],rfl⟩,?_⟩;cases cell with
  | d m y=>exact hcl.2.2
  | nl k=>exact hcl.2.2
  | u=>exact hcl.2.2
  | _=>trivial
 | some jc=>cases he
theorem PV {T:TypeId}{x:Operand}{i k r j c:Nat}{l:Option (Nat×Nat)}{p:Nat×List (List Cell)}(ho:o.op=.fieldAddr T x i)(hT:mo P T i=some k)(hx:aE ρ x=.pe r l j c)(hσ:dK (ai σ r) l=some p):LT P S o ρ σ [r] (.pe r l j (c+k)) []:=
 LT.val λσ1 F g w ρc hs Z hv=>by
  have U:=hv x (by simp[ho,Op.operands]);obtain⟨v,k',L,gs,hg,u,LL,cs,hat,_⟩:=ot hs (r:=r) (l:=l) (k:=p.1) (es:=p.2) (by rw[Z r (by simp)];exact hσ);rw[hx,vr,hg] at U;obtain⟨b,n,cp,W,h3,h4⟩:=U u _ hat
  refine⟨_,pS ho hT h4,?_⟩;rw[vr,hg];intro u' q' hat';rw[hat] at hat';cases hat';exact⟨b,n,cp,W,h3,by rw[Nat.add_assoc]⟩
def dX:Md->D->X
 | m,.sl k xs=>.d m (.sl k xs)
 | m,.a cs=>.d m (.a cs)
 | _,x=>.d .fz x
theorem Dy {S1:Md->Nat->Prop}{w:World}{g:Nat->G}{m:Md}{x:D}{v:Value}(h:rdC (S1 m) w x v):vr S1 w g (dX m x) v:=by
 cases x<;>simp only[dX]<;>rw[vr]<;>first|exact h|(rw[rdC] at h ⊢;exact h)
theorem IV {S1:Md->Nat->Prop}{w:World}{g:Nat->G}{m:Md}:∀ {xs:List D} {vs:List Value},rdCs (S1 m) w xs vs->aQ S1 w g (xs.map (dX m)) vs
 | [],_,h=>by rw[rdCs] at h;subst h;simp[aQ]
 | x::xs,_,h=>by
  rw[rdCs] at h;obtain⟨v,r,rfl,W,h3⟩:=h;rw[Blz,aQ];exact⟨v,r,rfl,Dy W,IV h3⟩
theorem PU {T:TypeId}{x:Operand}{r c:Nat}{cs:List X}{y:X}(ho:o.op=.load T x)(hT:cT P T=some false)(hx:aE ρ x=.pb r c)(hσ:ai σ r=.box cs)(hc:cs[c]?=some y):LT P S o ρ σ [r] y []:=
 LT.val λσ1 F g w ρc hs Z hv=>by
  have U:=hv x (by simp[ho,Op.operands]);obtain⟨b,T',vs,hg,Y,hcs⟩:=oA hs ((Z r (by simp)).trans hσ);rw[hx,vr,hg] at U;obtain⟨v,hv1,hv2⟩:=hcs.get hc;exact⟨v,pR ho hT U (Y.cell hv1),hv2⟩
theorem Q4 {T k:TypeId}{x:Operand}{r c:Nat}{cs:List X}(ho:o.op=.load T x)(hT:cT P T=some true)(hk:cn P T=some k)(hx:aE ρ x=.pb r c)(hσ:ai σ r=.box cs)(hc:((cs.drop c).take k).length=k):LT P S o ρ σ [r] (.ag ((cs.drop c).take k)) []:=
 LT.val λσ1 F g w ρc hs Z hv=>by
  have U:=hv x (by simp[ho,Op.operands]);obtain⟨b,T',vs,hg,Y,hcs⟩:=oA hs ((Z r (by simp)).trans hσ);rw[hx,vr,hg] at U;have W:=(hcs.drop c).take k;refine⟨_,CR ho hT hk U (Y.part c k) (W.len.trans hc),?_⟩;rw[vr];exact⟨_,rfl,W⟩
theorem PT {T:TypeId}{x:Operand}{m:Md}{d:D}{ds:List D}(ho:o.op=.load T x)(hT:cT P T=some false)(hx:aE ρ x=.pf m (d::ds)):LT P S o ρ σ [] (dX m d) []:=
 LT.val λσ1 F g w ρc hs Z hv=>by
  have U:=hv x (by simp[ho,Op.operands]);rw[hx,vr] at U;obtain⟨b,off,cs,U,W,h3,h4,h5⟩:=U;rw[rdCs] at h5;obtain⟨v,r,rfl,h6,_⟩:=h5;exact⟨v,pR ho hT U (h4.cell0 rfl),Dy h6⟩
theorem Q3 {T k:TypeId}{x:Operand}{m:Md}{ds:List D}(ho:o.op=.load T x)(hT:cT P T=some true)(hk:cn P T=some k)(hx:aE ρ x=.pf m ds)(hl:(ds.take k).length=k):LT P S o ρ σ [] (.ag ((ds.take k).map (dX m))) []:=
 LT.val λσ1 F g w ρc hs Z hv=>by
  have U:=hv x (by simp[ho,Op.operands]);rw[hx,vr] at U;obtain⟨b,off,cs,U,W,h3,h4,h5⟩:=U;have h6:=h5.take k;refine⟨_,CR (cs:=cs.take k) ho hT hk U ?_ (h6.len.trans hl),?_⟩;have:=h4.sub 0 (cs.take k) λi v hv=>by
   rw[Adz];rw[Anz] at hv;split at hv;exact hv;cases hv
  simpa using this;rw[vr];exact⟨_,rfl,IV h6⟩
def ma (hx:List (Nat×Nat))(c:Nat):Cell->Option X
 | .d m x=>some (dX m x)
 | .nl k=>some (.nl k)
 | .u=>match hx.find? (λp=>Nat.beq p.1 c) with|some p=>some (.ref p.2 none)|none=>some .u
 | _=>none
def oy (hx:List (Nat×Nat)):Nat->List Cell->Option (List X)
 | _,[]=>some []
 | c,x::xs=>match ma hx c x,oy hx (c+1) xs with
  | some y,some ys=>some (y::ys)
  | _,_=>none
def qq (x:aw)(j:Nat)(hx:List (Nat×Nat)):Prop:=hx=[]∨∃ m k es,x=.deep m k es (hx.map λp=>(j,p.1,p.2))
theorem Ac {F:Nat->Prop}{g:Nat->G}{w:World}{σ1:Nat->aw}(hs:bp S F g σ1 w){r k:Nat}{l:Option (Nat×Nat)}{es:List (List Cell)}(he:dK (σ1 r) l=some (k,es)){j:Nat}{e:List Cell}(hj:es[j]?=some e){hx:List (Nat×Nat)}(hhx:qq (σ1 r) j hx) :
  ∃ v k0 L gs,g r=.row v k0 L gs/\∃ b A' c',G.at (.row v k0 L gs) l=some (.slice (some ⟨b,0,none⟩) A' c',k)/\j<A'/\e.length=k/\∃ vs,vs.length=k/\At w b (j*k) vs /\
   b∈bl (g r)/\∀ c cell,e[c]?=some cell->∃ vc,vs[c]?=some vc/\∀ x,ma hx c cell=some x->vr (SM F S.B) w g x vc:=by
 have hlt:j<es.length:=(List.getElem?_eq_some_iff.1 hj).1;obtain⟨v,k0,L,gs,hg,u,LL,cs,hat,hown,Y,hel⟩:=ot hs he;obtain⟨hl,vs,hvl,hvs,hcell⟩:=hel j e hj;rcases hown.at with h0|⟨b,c',T,cur,rfl,hba,hbL,_⟩
 omega;refine⟨v,k0,L,gs,hg,b,_,_,hat,hlt,hl,vs,hvl,?_,Y b hbL,λc cell hc=>?_⟩;intro c v hv;have:=hba _ _ (hvs c v hv);rwa[Adz] at this;obtain⟨vc,U,⟨gc,h3,h4⟩,W⟩:=hcell c cell hc;refine⟨vc,U,λx hX=>?_⟩;cases cell with
 | d m y=>simp only[ma] at hX;cases hX;exact Dy W
 | nl k=>simp only[ma] at hX;cases hX;rw[vr];exact W
 | u=>
  simp only[ma] at hX;split at hX;rename_i p hp;cases hX;have hpm:=List.mem_of_find?_eq_some hp;have hpc:=Nat.eq_of_beq_eq_true (by simpa using List.find?_some hp);rcases hhx with rfl|⟨m1,k1,es1,Z⟩
  cases hpm;have h5:=hs.roots r;rw[Z,hg] at h5;have h6:=h5.2.1 (j,p.1,p.2) (List.mem_map.2 ⟨p,hpm,rfl⟩) gc (by rw[hpc];exact h3);rw[vr];revert h6;cases g p.2<;>intro h6<;>first|exact h6.elim|trivial|skip
  intro u q hu;rw[← h4];exact h6 u q hu;cases hX;rw[vr];trivial
 | o=>cases hX
 | w=>cases hX
theorem zK {T:TypeId}{x:Operand}{r j c:Nat}{l:Option (Nat×Nat)}{p:Nat×List (List Cell)}{e:List Cell}{cell:Cell}{y:X}(ho:o.op=.load T x)(hT:cT P T=some false)(hx:aE ρ x=.pe r l j c)(hσ:dK (ai σ r) l=some p)(hj:p.2[j]?=some e)(hc:e[c]?=some cell){hx' : List (Nat×Nat)}(hh:qq (ai σ r) j hx')(hy:ma hx' c cell=some y):LT P S o ρ σ [r] y []:=
 LT.val λσ1 F g w ρc hs Z hv=>by
  have U:=hv x (by simp[ho,Op.operands]);obtain⟨v,k,L,gs,hg,b,A',c',hat,hlt,hlen,vs,hvl,hvat,_,hcells⟩:=Ac hs (k:=p.1) (es:=p.2) (by rw[Z r (by simp)];exact hσ) hj (hx:=hx') (by rw[Z r (by simp)];exact hh);rw[hx,vr,hg] at U;obtain⟨b',n',cp',W,h3,h4⟩:=U _ _ hat
  cases W;obtain⟨vc,h5,h6⟩:=hcells c cell hc;refine⟨vc,pR ho hT h4 (hvat c vc h5),h6 y hy⟩
theorem MS {S1:Md->Nat->Prop}{w:World}{g:Nat->G}{hx:List (Nat×Nat)}:∀ {e:List Cell} {c:Nat} {ys:List X} {vs:List Value},oy hx c e=some ys->vs.length=e.length->(∀ i cell,e[i]?=some cell->∃ vc,vs[i]?=some vc/\∀ x,ma hx (c+i) cell=some x->vr S1 w g x vc)->aQ S1 w g ys vs
 | [],c,ys,vs,h,hl,_=>by simp[oy] at h;subst h;rw[aQ];exact List.eq_nil_of_length_eq_zero hl
 | a::e,c,ys,vs,h,hl,hc=>by
  simp only[oy] at h;split at h;rename_i y ys' U W;cases h;cases vs with
  | nil=>simp at hl
  | cons v vs=>
   obtain⟨vc,h3,h4⟩:=hc 0 a rfl;simp at h3;subst h3;rw[aQ];refine⟨v,vs,rfl,h4 y U,MS W (by simpa using hl) λi cell hi=>?_⟩;obtain⟨vc,h5,h6⟩:=hc (i+1) cell (by simpa using hi);exact⟨vc,by simpa using h5,λx hx=>h6 x (by rw[show c+(i+1)=c+1+i by omega];exact hx)⟩
  cases h
theorem C7 {T k:TypeId}{x:Operand}{r j c:Nat}{l:Option (Nat×Nat)}{p:Nat×List (List Cell)}{e:List Cell}{ys:List X}(ho:o.op=.load T x)(hT:cT P T=some true)(hk:cn P T=some k)(hx:aE ρ x=.pe r l j c)(hσ:dK (ai σ r) l=some p)(hj:p.2[j]?=some e)(hl:((e.drop c).take k).length=k){hx' : List (Nat×Nat)}(hh:qq (ai σ r) j hx')(hy:oy hx' c ((e.drop c).take k)=some ys):LT P S o ρ σ [r] (.ag ys) []:=
 LT.val λσ1 F g w ρc hs Z hv=>by
  have U:=hv x (by simp[ho,Op.operands]);obtain⟨v,k',L,gs,hg,b,A',c',hat,hlt,hlen,vs,hvl,hvat,_,hcells⟩:=Ac hs (k:=p.1) (es:=p.2) (by rw[Z r (by simp)];exact hσ) hj (hx:=hx') (by rw[Z r (by simp)];exact hh);rw[hx,vr,hg] at U;obtain⟨b',n',cp',W,h3,h4⟩:=U _ _ hat
  cases W;have hl2:((vs.drop c).take k).length=k:=by
   simp only[List.length_take,List.length_drop] at hl ⊢;omega
  refine⟨_,CR (cs:=(vs.drop c).take k) ho hT hk h4 (hvat.part c k) hl2,?_⟩;rw[vr];refine⟨_,rfl,MS hy (hl2.trans hl.symm) λi cell hi=>?_⟩;rw[Anz] at hi;split at hi;rename_i hik;rw[Baz] at hi;obtain⟨vc,h5,h6⟩:=hcells (c+i) cell hi;exact⟨vc,by rw[Anz,ao hik,Baz];exact h5,h6⟩;cases hi
end
section
variable {P:Program}{S:Start}{n:Nat}{ρ:AE}{σ:St}{o:Oper}
theorem rd1.len {S1:Nat->Prop}{w:World}{x:D}{c:List Value}(h:rd1 S1 w x c):c.length=x.cells.length:=rdCs.len h
theorem PS {T e k:TypeId}{x i:Operand}{m m' : Md}{xs:List D}{q:IntKind}{j:Int}{y:D}(ho:o.op=.indexAddr T x i)(hT:cY P T=some e)(hk:cn P e=some k)(hx:aE ρ x=.d m (.sl k xs))(hi:aE ρ i=.d m' (.i q j))(h0:0<=j)(hj:xs[j.toNat]?=some y):LT P S o ρ σ [] (.pf m y.cells) []:=
 LT.val λσ1 F g w ρc hs Z hv=>by
  have U:=hv x (by simp[ho,Op.operands]);have W:=hv i (by simp[ho,Op.operands]);rw[hx,vr,rdC] at U;rw[hi,vr,rdC] at W;replace W:=W.1;obtain⟨A,cap,cells,h3,h4,h5,h6,h7⟩:=U;have hlt:j.toNat<xs.length:=(List.getElem?_eq_some_iff.1 hj).1;rcases h7 with h7|⟨b,off,rfl,Y,hbl,hat⟩
  rw[h7] at hlt;simp at hlt;obtain⟨c,hc1,hc2,hc3⟩:=h6.get hj;refine⟨_,C9 ho hT hk h3 rfl W h0 (by omega),?_⟩;rw[vr];exact⟨b,_,c,rfl,Y,hbl,hat.sub _ c hc3,hc2⟩
theorem zJ {T e k:TypeId}{x i:Operand}{m' : Md}{r:Nat}{l:Option (Nat×Nat)}{es:List (List Cell)}{q:IntKind}{j:Int}{y:List Cell}(ho:o.op=.indexAddr T x i)(hT:cY P T=some e)(hk:cn P e=some k)(hx:aE ρ x=.ref r l)(hσ:dK (ai σ r) l=some (k,es))(hi:aE ρ i=.d m' (.i q j))(h0:0<=j)(hj:es[j.toNat]?=some y):LT P S o ρ σ [r] (.pe r l j.toNat 0) []:=
 LT.val λσ1 F g w ρc hs Z hv=>by
  have U:=hv x (by simp[ho,Op.operands]);have W:=hv i (by simp[ho,Op.operands]);rw[hi,vr,rdC] at W;replace W:=W.1;obtain⟨v,k',L,gs,hg,b,n',c',hat,hlt,hlen,_⟩:=Ac hs (by rw[Z r (by simp)];exact hσ) hj (hx:=[]) (.inl rfl);rw[hx,vr,hg] at U;have h3:=U _ _ hat
  refine⟨_,C9 ho hT hk h3 rfl W h0 (by omega),?_⟩;rw[vr,hg];intro u q2 hat';rw[hat] at hat';cases hat';exact⟨b,n',c',rfl,hlt,by simp⟩
theorem QE {T e k:TypeId}{x i:Operand}{m' : Md}{r lo n:Nat}{l:Option (Nat×Nat)}{es:List (List Cell)}{q:IntKind}{j:Int}{y:List Cell}(ho:o.op=.indexAddr T x i)(hT:cY P T=some e)(hk:cn P e=some k)(hx:aE ρ x=.vs r l lo n)(hσ:dK (ai σ r) l=some (k,es))(hi:aE ρ i=.d m' (.i q j))(h0:0<=j)(hn:j.toNat<n)(hj:es[lo+j.toNat]?=some y):LT P S o ρ σ [r] (.pe r l (lo+j.toNat) 0) []:=
 LT.val λσ1 F g w ρc hs Z hv=>by
  have U:=hv x (by simp[ho,Op.operands]);have W:=hv i (by simp[ho,Op.operands]);rw[hi,vr,rdC] at W;replace W:=W.1;obtain⟨v,k',L,gs,hg,b,n',c',hat,hlt,hlen,_⟩:=Ac hs (by rw[Z r (by simp)];exact hσ) hj (hx:=[]) (.inl rfl);rw[hx,vr,hg] at U;obtain⟨A,mm,cp,A',cp',e1,h3,h4,h5,h6,h7⟩:=U _ _ hat
  rcases h7 with h7|⟨b',e2,e3⟩
  omega;cases e1;cases e2;refine⟨_,C9 ho hT hk h4 e3 W h0 (by omega),?_⟩;rw[vr,hg];intro u q2 hat';rw[hat] at hat';cases hat';exact⟨b,n',c',rfl,hlt,by rw[Nat.add_mul];rfl⟩
theorem HP {T e:TypeId}{x:Operand}{m:Md}{xs:List D}{k k' : Nat}(ho:o.op=.call { callee:=.builtin .len,args:=#[x],argTypes:=#[T] })(hT:cY P T=some e)(hx:aE ρ x=.d m (.sl k' xs))(hk:xs.length=k):LT P S o ρ σ [] (.d .fz (.i .i64 k)) []:=
 LT.val λσ1 F g w ρc hs Z hv=>by
  have U:=hv x (by simp[ho,Op.operands,Call.operands]);rw[hx,vr,rdC] at U;obtain⟨A,cap,cells,h3,h4,h5,_⟩:=U;subst hk;have h5:cap<=9223372036854775807:=h5;exact⟨_,Db ho hT h3,by rw[vr,rdC];exact⟨rfl,by simp only[eV];omega⟩⟩
theorem C6 {T e:TypeId}{x:Operand}{r:Nat}{l:Option (Nat×Nat)}{es:List (List Cell)}{k k' : Nat}(ho:o.op=.call { callee:=.builtin .len,args:=#[x],argTypes:=#[T] })(hT:cY P T=some e)(hx:aE ρ x=.ref r l)(hσ:dK (ai σ r) l=some (k',es))(hk:es.length=k):LT P S o ρ σ [r] (.d .fz (.i .i64 k)) []:=
 LT.val λσ1 F g w ρc hs Z hv=>by
  have U:=hv x (by simp[ho,Op.operands,Call.operands]);obtain⟨v,k0,L,gs,hg,u,LL,cs,hat,hown,_⟩:=ot hs (r:=r) (l:=l) (by rw[Z r (by simp)];exact hσ);obtain⟨A,c,rfl,h4,h5⟩:=hown.form;rw[hx,vr,hg] at U;subst hk;have h5:c<=9223372036854775807:=h5;exact⟨_,Db ho hT (U _ _ hat),by rw[vr,rdC];exact⟨rfl,by simp only[eV];omega⟩⟩
theorem Q2 {T e:TypeId}{x:Operand}{r lo k:Nat}{l:Option (Nat×Nat)}{p:Nat×List (List Cell)}(ho:o.op=.call { callee:=.builtin .len,args:=#[x],argTypes:=#[T] })(hT:cY P T=some e)(hx:aE ρ x=.vs r l lo k)(hσ:dK (ai σ r) l=some p):LT P S o ρ σ [r] (.d .fz (.i .i64 k)) []:=
 LT.val λσ1 F g w ρc hs Z hv=>by
  have U:=hv x (by simp[ho,Op.operands,Call.operands]);obtain⟨v,k0,L,gs,hg,u,LL,cs,hat,hown,_⟩:=ot hs (r:=r) (l:=l) (k:=p.1) (es:=p.2) (by rw[Z r (by simp)];exact hσ);rw[hx,vr,hg] at U;obtain⟨_,_,_,A',cp',_,_,h4,h5,h6,_⟩:=U _ _ hat
  have h6:cp'<=9223372036854775807:=h6;exact⟨_,Db ho hT h4,by rw[vr,rdC];exact⟨rfl,by simp only[eV];omega⟩⟩
theorem Q1 {T:TypeId}{x:Operand}{m:Md}{s:an}(ho:o.op=.call { callee:=.builtin .len,args:=#[x],argTypes:=#[T] })(hT:P.underlying T=some .string)(hx:aE ρ x=.d m (.s s)):LT P S o ρ σ [] (.d .fz (.i .i64 s.size)) []:=
 LT.val λσ1 F g w ρc hs Z hv=>by
  have U:=hv x (by simp[ho,Op.operands,Call.operands]);rw[hx,vr,rdC] at U;have W:=U.2;exact⟨_,QG ho hT U.1,by rw[vr,rdC];exact⟨rfl,by simp only[eV];omega⟩⟩
theorem rdC.cut {S1:Nat->Prop}{w:World}{k:Nat}{xs:List D}{A:Option Addr}{m c:Nat}(h:rdC S1 w (.sl k xs) (.slice A m c)){l h' : Nat}(hlh:l<=h')(hh:h'<=xs.length):rdC S1 w (.sl k ((xs.take h').drop l)) (eJ A l h' c k):=by
 rw[rdC] at h ⊢;obtain⟨A',cap,cells,e,U,W,h3,h4⟩:=h;cases e;refine⟨if c=l then A else A.map (·.add (l*k)),c-l,(cells.take (h'*k)).drop (l*k),by simp[eJ,List.length_drop,List.length_take,Nat.min_eq_left hh],by simp;omega,by omega,(h3.take h').drop l,?_⟩;rcases h4 with rfl|⟨b,o,rfl,Y,hbl,ha⟩
 left;simp;by_cases hlc:c=l;left;have:l=h':=by omega
 subst this;simp;right;refine⟨b,o+l*k,?_,Y,hbl,λj v hv=>?_⟩;have hadd:(⟨b,o,none⟩:Addr).add (l*k)=⟨b,o+l*k,none⟩:=by unfold Addr.add;split<;>simp_all
 simp[al hlc,hadd];rw[Baz,Anz] at hv;split at hv;rw[Nat.add_assoc];exact ha _ v hv;cases hv
theorem oq {j:Int}(h:0<=j):((j.toNat:Nat):Int)=j:=Int.toNat_of_nonneg h
theorem QD {T e k:TypeId}{x hi:Operand}{m m2:Md}{xs:List D}{q' : IntKind}{b:Int}(ho:o.op=.slice T x none (some hi) none)(hT:cY P T=some e)(hk:cn P e=some k)(hx:aE ρ x=.d m (.sl k xs))(hh:aE ρ hi=.d m2 (.i q' b))
  (U:0<=b) (h3:b.toNat<=xs.length):LT P S o ρ σ [] (.d m (.sl k (xs.take b.toNat))) []:=
 LT.val λσ1 F g w ρc hs Z hv=>by
  have e1:=hv x (by simp[ho,Op.operands]);have e3:=hv hi (by simp[ho,Op.operands]);rw[hh,vr,rdC] at e3;replace e3:=e3.1;rw[← oq U] at e3;rw[hx,vr] at e1;have e4:=e1;rw[rdC] at e4;obtain⟨A,cap,_,e5,h4,_⟩:=e4;rw[e5] at e1;exact⟨_,zL ho hT hk e5 e3 (by omega),by rw[vr];exact e1.cut (l:=0) (Nat.zero_le _) h3⟩
theorem QB {T e k:TypeId}{x lo:Operand}{m m1:Md}{xs:List D}{q:IntKind}{a:Int}(ho:o.op=.slice T x (some lo) none none)(hT:cY P T=some e)(hk:cn P e=some k)(hx:aE ρ x=.d m (.sl k xs))(hl:aE ρ lo=.d m1 (.i q a))
  (h0:0<=a) (W:a.toNat<=xs.length):LT P S o ρ σ [] (.d m (.sl k (xs.drop a.toNat))) []:=
 LT.val λσ1 F g w ρc hs Z hv=>by
  have e1:=hv x (by simp[ho,Op.operands]);have e2:=hv lo (by simp[ho,Op.operands]);rw[hl,vr,rdC] at e2;replace e2:=e2.1;rw[← oq h0] at e2;rw[hx,vr] at e1;have e4:=e1;rw[rdC] at e4;obtain⟨A,cap,_,e5,h4,_⟩:=e4;rw[e5] at e1;refine⟨_,HN ho hT hk e5 e2 (by omega),?_⟩;rw[vr];have:=e1.cut (l:=a.toNat) (h':=xs.length) W (Nat.le_refl _);rwa[List.take_length] at this
theorem UW {v:Value}{A:Option Addr}{n c l h k:Nat}(hv:v=.slice A n c)(U:l<=h)(W:h<=n)(h3:n<=c)(h4:c<=maxLen)(hA:n=0∨∃ b,A=some ⟨b,0,none⟩):ml v k l (h-l) (eJ A l h c k):=by
 refine⟨A,n,c,if c=l then A else A.map (·.add (l*k)),c-l,hv,by omega,rfl,by omega,by omega,?_⟩;by_cases hlc:c=l;left;omega;rcases hA with hA|⟨b,rfl⟩
 left;omega;right;refine⟨b,rfl,?_⟩;have hadd:(⟨b,0,none⟩:Addr).add (l*k)=⟨b,l*k,none⟩:=by unfold Addr.add;split<;>simp_all
 simp[al hlc,hadd]
theorem QA {T e k:TypeId}{x:Operand}{lo hi:Option Operand}{r:Nat}{l:Option (Nat×Nat)}{es:List (List Cell)}{a b:Int}(ho:o.op=.slice T x lo hi none)(hT:cY P T=some e)(hk:cn P e=some k)(hx:aE ρ x=.ref r l)(hσ:dK (ai σ r) l=some (k,es))
  (hl:match lo with|some y=>∃ m q,aE ρ y=.d m (.i q a)|none=>a=0) (hh:match hi with|some y=>∃ m q,aE ρ y=.d m (.i q b)|none=>b=es.length/\lo≠none)
  (h0:0<=a) (U:0<=b) (W:a.toNat<=b.toNat) (h3:b.toNat<=es.length):LT P S o ρ σ [r] (.vs r l a.toNat (b.toNat-a.toNat)) []:=
 LT.val λσ1 F g w ρc hs Z hv=>by
  have hσ' : dK (σ1 r) l=some (k,es):=by rw[Z r (by simp)];exact hσ
  have e1:=hv x (by simp[ho,Op.operands]);obtain⟨v,k',L,gs,hg,u,LL,cs,hat,hown,_⟩:=ot hs hσ';obtain⟨A,c,rfl,h5,h6⟩:=hown.form;rw[hx,vr,hg] at e1;have e2:=e1 _ _ hat
  have hA:es.length=0∨∃ b,A=some ⟨b,0,none⟩:=hown.at.imp id λ⟨b,c',_,_,e,_⟩=>by cases e;exact⟨b,rfl⟩
  have fin:∀ vc,Ev P ρc o w vc->vc=eJ A a.toNat b.toNat c k->∃ vc,Ev P ρc o w vc/\vr (SM F S.B) w g (.vs r l a.toNat (b.toNat-a.toNat)) vc:=λvc hev hvc=>by
   refine⟨vc,hev,?_⟩;rw[vr,hg];intro u' q' hat';rw[hat] at hat';cases hat';subst hvc;exact UW rfl W h3 h5 h6 hA
  cases lo with
  | none=>
   simp only at hl;subst hl;cases hi with
   | none=>exact absurd rfl hh.2
   | some y=>
    obtain⟨m,q1,hy⟩:=hh;have e3:=hv y (by simp[ho,Op.operands]);rw[hy,vr,rdC] at e3;replace e3:=e3.1;rw[← oq U] at e3;exact fin _ (zL ho hT hk e2 e3 (by omega)) rfl
  | some y=>
   obtain⟨m,q1,hy⟩:=hl;have e3:=hv y (by simp[ho,Op.operands]);rw[hy,vr,rdC] at e3;replace e3:=e3.1;rw[← oq h0] at e3;cases hi with
   | none=>
    obtain⟨rfl,_⟩:=hh;exact fin _ (HN ho hT hk e2 e3 (by simpa using W)) rfl
   | some z=>
    obtain⟨m2,q2,hz⟩:=hh;have e4:=hv z (by simp[ho,Op.operands]);rw[hz,vr,rdC] at e4;replace e4:=e4.1;rw[← oq U] at e4;exact fin _ (Re ho hT hk e2 e3 e4 W (by omega)) rfl
def cv:D->Option Value
 | .i k n=>some (.int k n)
 | .b b=>some (.bool b)
 | .s t=>some (.string t)
 | _=>none
theorem vW {S1:Nat->Prop}{w:World}{x:D}{u v:Value}(h:cv x=some u):rdC S1 w x v↔v=u/\fF x:=by
 cases x<;>simp only[cv] at h<;>cases h<;>simp only[rdC,fF,and_true]
def iN:X->Option Value
 | .d _ x=>cv x
 | _=>none
theorem An {S1:Md->Nat->Prop}{w:World}{g:Nat->G}{x:X}{u v:Value}(h:iN x=some u)(hv:vr S1 w g x v):v=u:=by
 cases x<;>simp only[iN] at h<;>first|(rw[vr] at hv;exact ((vW h).1 hv).1)|cases h
def fX:X->Prop
 | .d _ x=>fF x
 | _=>True
theorem En {S1:Md->Nat->Prop}{w:World}{g:Nat->G}{x:X}{u v:Value}(h:iN x=some u)(hv:vr S1 w g x v):fX x:=by
 cases x<;>simp only[iN] at h<;>first|(rw[vr] at hv;exact ((vW h).1 hv).2)|cases h
def mf:List X->Option (List Value)
 | []=>some []
 | x::xs=>match iN x,mf xs with
  | some v,some vs=>some (v::vs)
  | _,_=>none
theorem Em {S1:Md->Nat->Prop}{w:World}{g:Nat->G}:∀ {xs:List X} {us vs:List Value},mf xs=some us->aQ S1 w g xs vs->vs=us
 | [],us,vs,h,k=>by simp only[mf] at h;cases h;rw[aQ] at k;exact k
 | x::xs,us,vs,h,k=>by
  simp only[mf] at h;split at h;rename_i v vs' U W;cases h;rw[aQ] at k;obtain⟨v',r,rfl,k1,k2⟩:=k;rw[An U k1,Em W k2];cases h
theorem zI {op:BinOp}{T Z7:TypeId}{x y:Operand}{X1 Y1:X}{u v r:Value}{z:D}(ho:o.op=.binOp op T x y Z7)(hx:aE ρ x=X1)(hy:aE ρ y=Y1)(hu:iN X1=some u)(hv:iN Y1=some v)(h:fX X1->fX Y1->cG P op T u v r/\fF z)(hz:cv z=some r):LT P S o ρ σ [] (.d .fz z) []:=
 LT.val λσ1 F g w ρc hs Z hw=>by
  have e1:=hw x (by simp[ho,Op.operands]);have e2:=hw y (by simp[ho,Op.operands]);rw[hx] at e1;rw[hy] at e2;obtain⟨U,W⟩:=h (En hu e1) (En hv e2);exact⟨r,CQ ho (An hu e1) (An hv e2) U,by rw[vr,vW hz];exact⟨rfl,W⟩⟩
theorem HO {op:BinOp}{T Z7:TypeId}{x y:Operand}{xs ys:List X}{us vs:List Value}{r:Value}{z:D}(ho:o.op=.binOp op T x y Z7)(hx:aE ρ x=.ag xs)(hy:aE ρ y=.ag ys)(hu:mf xs=some us)(hv:mf ys=some vs)(h:cG P op T (.agg us.toArray) (.agg vs.toArray) r)(hz:cv z=some r)(hrz:fF z):LT P S o ρ σ [] (.d .fz z) []:=
 LT.val λσ1 F g w ρc hs Z hw=>by
  have e1:=hw x (by simp[ho,Op.operands]);have e2:=hw y (by simp[ho,Op.operands]);rw[hx,vr] at e1;rw[hy,vr] at e2;obtain⟨xs',e1,k1⟩:=e1;obtain⟨ys',e2,k2⟩:=e2;rw[Em hu k1] at e1;rw[Em hv k2] at e2;exact⟨r,CQ ho e1 e2 h,by rw[vr,vW hz];exact⟨rfl,hrz⟩⟩
theorem Qz {T:TypeId}{x:Operand}{m:Md}{b:Bool}(ho:o.op=.unOp .not T x)(hx:aE ρ x=.d m (.b b)):LT P S o ρ σ [] (.d .fz (.b (!b))) []:=
 LT.val λσ1 F g w ρc hs Z hw=>by
  have e1:=hw x (by simp[ho,Op.operands]);rw[hx,vr,rdC] at e1;exact⟨_,P4 ho e1,by rw[vr,rdC]⟩
theorem C1 {x:Operand}{X1:X}{u r:Value}{z:D}(hm:x∈o.op.operands)(hx:aE ρ x=X1)(hu:iN X1=some u)(h:fX X1->(∀ ρc w,E.ev ρc x=u->Ev P ρc o w r)/\fF z)(hz:cv z=some r):LT P S o ρ σ [] (.d .fz z) []:=
 LT.val λσ1 F g w ρc hs Z hw=>by
  have e1:=hw x hm;rw[hx] at e1;obtain⟨U,W⟩:=h (En hu e1);exact⟨r,U ρc w (An hu e1),by rw[vr,vW hz];exact⟨rfl,W⟩⟩
theorem LT.ext {x:Operand}{k:Nat}{xs:List X}{y:X}(ho:o.op=.extract x k)(hx:aE ρ x=.tu xs)(hy:xs[k]?=some y):LT P S o ρ σ [] y []:=
 LT.val λσ1 F g w ρc hs Z hw=>by
  have e1:=hw x (by simp[ho,Op.operands]);rw[hx,vr] at e1;obtain⟨vs,e1,k1⟩:=e1;obtain⟨v,U,W⟩:=k1.get hy;exact⟨v,Ev.ex ho e1 (by simpa using U),W⟩
theorem Qy {T ft off:TypeId}{x:Operand}{i:Nat}{xs:List X}{y:X}(ho:o.op=.field T x i)(hT:nB P T i=some (ft,off))(hg:cT P ft=some false)(hx:aE ρ x=.ag xs)(hy:xs[off]?=some y):LT P S o ρ σ [] y []:=
 LT.val λσ1 F g w ρc hs Z hw=>by
  have e1:=hw x (by simp[ho,Op.operands]);rw[hx,vr] at e1;obtain⟨vs,e1,k1⟩:=e1;obtain⟨v,U,W⟩:=k1.get hy;exact⟨v,PY ho hT hg e1 U,W⟩
theorem Q0 {T ft off k:TypeId}{x:Operand}{i:Nat}{xs:List X}(ho:o.op=.field T x i)(hT:nB P T i=some (ft,off))(hg:cT P ft=some true)(hk:cn P ft=some k)(hx:aE ρ x=.ag xs):LT P S o ρ σ [] (.ag ((xs.drop off).take k)) []:=
 LT.val λσ1 F g w ρc hs Z hw=>by
  have e1:=hw x (by simp[ho,Op.operands]);rw[hx,vr] at e1;obtain⟨vs,e1,k1⟩:=e1;refine⟨_,Q6 ho hT hg hk e1,?_⟩;rw[vr];refine⟨(vs.drop off).take k,?_,(k1.drop off).take k⟩;congr 1;apply Array.ext';simp[List.extract_eq_take_drop]
theorem QZ {x:Operand}{r c:Nat}{cs:List X}(ho:o.op=.nilCheck x)(hx:aE ρ x=.pb r c)(hσ:ai σ r=.box cs):LT P S o ρ σ [r] (.pb r c) []:=
 LT.val λσ1 F g w ρc hs Z hv=>by
  have U:=hv x (by simp[ho,Op.operands]);obtain⟨b,T',vs,hg,Y,hc⟩:=oA hs ((Z r (by simp)).trans hσ);rw[hx,vr,hg] at U;exact⟨_,Q7 ho U,by rw[vr,hg]⟩
theorem Be {S1:Md->Nat->Prop}{w:World}{g:Nat->G}{ρc:Env}:∀ {l:List Operand},(∀ x∈l,vr S1 w g (aE ρ x) (E.ev ρc x))->aQ S1 w g (l.map (aE ρ)) (l.map (E.ev ρc))
 | [],_=>by simp[aQ]
 | x::l,h=>by
  rw[Blz,Blz,aQ];exact⟨_,_,rfl,h x (by simp),Be λy hy=>h y (by simp[hy])⟩
theorem Qx {f:Nat}{c:Array Operand}(ho:o.op=.makeFunc (.func f) #[] c):LT P S o ρ σ [] (.fn f (c.toList.map (aE ρ))) []:=
 LT.val λσ1 F g w ρc hs Z hv=>by
  refine⟨_,Q8 (vs:=[]) (us:=c.toList.map (E.ev ρc)) ho rfl rfl,?_⟩;rw[vr];exact⟨_,rfl,Be λx hx=>hv x (by simp[ho,Op.operands];simpa using hx)⟩
def X.cells:X->List X
 | .ag cs=>cs
 | x=>[x]
def kz (σ:Nat->aw):X->Bool
 | .d _ _=>true
 | .nl _=>true
 | .fn _ _=>true
 | .pf _ _=>true
 | .ref r l=>(dK (σ r) l).isSome
 | .vs r l _ _=>(dK (σ r) l).isSome
 | .pe r l _ _=>(dK (σ r) l).isSome
 | .pb r _=>match σ r with|.box _=>true|_=>false
 | _=>false
def dq:X->List Nat
 | .ref r _=>[r]
 | .vs r _ _ _=>[r]
 | .pe r _ _ _=>[r]
 | .pb r _=>[r]
 | _=>[]
theorem KP {F:Nat->Prop}{g:Nat->G}{w:World}{σ1:Nat->aw}(hs:bp S F g σ1 w){x:X}{v:Value}(h:kz σ1 x=true)(hv:vr (SM F S.B) w g x v):v.oneCell'=true:=by
 cases x<;>simp only[kz] at h<;>rw[vr] at hv;exact hv.one;cases h;cases h;obtain⟨⟨k,es⟩,he⟩:=Option.isSome_iff_exists.1 h;obtain⟨v',k0,L,gs,hg,u,LL,cs,hat,hown,_⟩:=ot hs he;obtain⟨A,c,rfl,_⟩:=hown.form;rw[hg] at hv;rw[hv _ _ hat];rfl;obtain⟨⟨k,es⟩,he⟩:=Option.isSome_iff_exists.1 h;obtain⟨v',k0,L,gs,hg,u,LL,cs,hat,hown,_⟩:=ot hs he;obtain⟨A,c,rfl,_⟩:=hown.form;rw[hg] at hv;obtain⟨_,_,_,_,_,_,_,h4,_⟩:=hv _ _ hat
 rw[h4];rfl;rename_i r c;cases hσ:σ1 r<;>rw[hσ] at h<;>try cases h
 obtain⟨b,T,vs,hg,_⟩:=oA hs hσ;rw[hg] at hv;rw[hv];rfl;obtain⟨⟨k,es⟩,he⟩:=Option.isSome_iff_exists.1 h;obtain⟨v',k0,L,gs,hg,u,LL,cs,hat,hown,_⟩:=ot hs he;obtain⟨A,c,rfl,_⟩:=hown.form;rw[hg] at hv;obtain⟨_,_,_,_,_,h4⟩:=hv _ _ hat
 rw[h4];rfl;obtain⟨b,o,cs,rfl,_⟩:=hv;rfl;obtain⟨vs,rfl,_⟩:=hv;rfl;rw[hv];rfl;cases h
theorem GE {v:Value}(h:v.oneCell'=true):v.cells.toList=[v]:=by
 cases v<;>simp[Value.oneCell'] at h<;>simp[Value.cells]
def gm (σ:Nat->aw):X->Bool
 | .ag _=>true
 | x=>kz σ x
theorem oN {F:Nat->Prop}{g:Nat->G}{w:World}{σ1:Nat->aw}(hs:bp S F g σ1 w){x:X}{v:Value}(h:gm σ1 x=true)(hv:vr (SM F S.B) w g x v):aQ (SM F S.B) w g x.cells v.cells.toList:=by
 have one:kz σ1 x=true->aQ (SM F S.B) w g [x] v.cells.toList:=λU=>by rw[GE (KP hs U hv),aQ];exact⟨v,[],rfl,hv,by rw[aQ]⟩
 cases x with
 | ag cs=>rw[vr] at hv;obtain⟨vs,rfl,hvs⟩:=hv;simpa[X.cells,Value.cells] using hvs
 | _=>exact one h
theorem Nq {σ1 σ2:Nat->aw}{x:X}(h:∀ r∈dq x,σ1 r=σ2 r):kz σ1 x=kz σ2 x:=by
 cases x<;>simp only[kz]<;>simp only[dq,List.mem_singleton,forall_eq] at h<;>first|rfl|rw[h]
theorem tN {σ1 σ2:Nat->aw}{x:X}(h:∀ r∈dq x,σ1 r=σ2 r):gm σ1 x=gm σ2 x:=by
 cases x<;>first|rfl|exact Nq h
def gJ {α:Type}(places:List (Nat×Nat))(cells:List α):List (Nat×List α)->List α
 | []=>cells
 | (i,l)::rest=>match places[i]? with
  | some (off,_)=>gJ places (cells.take off++l++cells.drop (off+l.length)) rest
  | none=>[]
theorem KO (places:List (Nat×Nat)):∀ (pl:List (Nat×List Value)) (cells:List Value),lay places cells pl=gJ places cells pl
 | [],_=>rfl
 | (i,l)::rest,cells=>by
  rw[lay,gJ];cases places[i]? with
  | none=>rfl
  | some p=>exact KO places rest _
theorem KN {S1:Md->Nat->Prop}{w:World}{g:Nat->G}(places:List (Nat×Nat)):∀ (pl:List (Nat×List X)) (ql:List (Nat×List Value)) (cells:List X) (vs:List Value),aQ S1 w g cells vs->aL (λp q=>p.1=q.1/\aQ S1 w g p.2 q.2) pl ql->aQ S1 w g (gJ places cells pl) (gJ places vs ql)
 | [],ql,cells,vs,h,W=>by rw[show ql=[] from W];exact h
 | (i,l)::rest,_,cells,vs,h,⟨(j,l'),r,U,⟨h3,h4⟩,h5⟩=>by
  subst U;simp only at h3 h4;subst h3;rw[gJ,gJ];split;refine KN places rest r _ _ (((h.take _).append h4).append ?_) h5;rw[h4.len];exact h.drop _;rw[aQ]
theorem LT.build {T:TypeId}{parts:Array (Nat×Operand)}{places:List (Nat×Nat)}{z:List Value}{zs:List X}{xs:List (Nat×X)}{ys:List X}(ho:o.op=.build T parts)(hp:wB P T=some places)(hz:fO P T=some z)(hzs:∀ S1 w g,aQ S1 w g zs z)
  (hx:parts.toList.map (λp=>(p.1,aE ρ p.2))=xs) (hs:xs.all (λp=>gm (ai σ) p.2)=true) (hf:gp places zs.length (xs.map λp=>(p.1,p.2.cells.length))=true) (hy:gJ places zs (xs.map λp=>(p.1,p.2.cells))=ys) :
  LT P S o ρ σ (xs.flatMap λp=>dq p.2) (.ag ys) []:=
 LT.val λσ1 F g w ρc hsim Z hv=>by
  subst hx;subst hy;have hall:∀ p∈parts.toList,aQ (SM F S.B) w g (aE ρ p.2).cells (E.ev ρc p.2).cells.toList:=λp hp=>by
   refine oN hsim ?_ (hv p.2 ?_);rw[tN (σ2:=ai σ) λr hrr=>Z r (by simp only[List.mem_flatMap,List.mem_map];exact⟨_,⟨p,hp,rfl⟩,hrr⟩)];have:=List.all_eq_true.1 hs (p.1,aE ρ p.2) (List.mem_map.2 ⟨p,hp,rfl⟩);exact this;simp only[ho,Op.operands];simpa using ⟨p.1,by simpa using hp⟩
  have hlen:∀ l:List (Nat×Operand),(∀ p∈l,aQ (SM F S.B) w g (aE ρ p.2).cells (E.ev ρc p.2).cells.toList)->(l.map (λp=>(p.1,E.ev ρc p.2))).map (λp=>(p.1,p.2.cells.toList.length))=(l.map (λp=>(p.1,aE ρ p.2))).map (λp=>(p.1,p.2.cells.length)) /\
    aL (λ(p:Nat×List X) (q:Nat×List Value)=>p.1=q.1/\aQ (SM F S.B) w g p.2 q.2) ((l.map (λp=>(p.1,aE ρ p.2))).map λp=>(p.1,p.2.cells)) ((l.map (λp=>(p.1,E.ev ρc p.2))).map λp=>(p.1,p.2.cells.toList)):=by
   intro l
   induction l with
   | nil=>intro _;exact⟨rfl,rfl⟩
   | cons p l ih=>
    intro h;obtain⟨U,W⟩:=ih λq hq=>h q (by simp[hq]);have h3:=h p (by simp);simp only[Blz];refine⟨?_,?_⟩;rw[U,h3.len];exact⟨_,_,rfl,⟨rfl,h3⟩,W⟩
  obtain⟨U,W⟩:=hlen parts.toList hall;refine⟨_,Ev.build (pl:=(parts.toList.map (λp=>(p.1,E.ev ρc p.2))).map λp=>(p.1,p.2.cells.toList)) ho hp hz rfl rfl ?_ rfl,?_⟩;rw[← (hzs (SM F S.B) w g).len] at hf;simp only[List.map_map] at U hf ⊢;have e:(List.map ((λp=>(p.1,p.2.length)) ∘ (λp=>(p.1,p.2.cells.toList)) ∘ λ(p:Nat×Operand)=>(p.1,E.ev ρc p.2)) parts.toList)=List.map ((λ(p:Nat×X)=>(p.1,p.2.cells.length)) ∘ λp=>(p.1,aE ρ p.2)) parts.toList:=U;rw[e];exact hf;rw[vr,KO];exact⟨_,rfl,KN places _ _ _ _ (hzs _ _ _) W⟩
end
end Go.A
