/- What those partial functions come to: plain lemmas on data; each bears its conditions in its statement. -/
import Derived.Test.YtodhafdaelcnlaaGreatMath3
set_option linter.unusedVariables false
set_option linter.unusedSimpArgs false
set_option linter.ambiguousOpen false
set_option linter.unusedSectionVars false
set_option linter.unnecessarySimpa false
open Bool renaming and_false->Egz,not_true->Efz,or_self->Ehz,false_eq_true->Eaz,or_eq_false_iff->Dlz
open Nat renaming le_trans->Bgz
open List renaming map_append->Diz,range'->Dbz,range'_succ->Eez,any_eq_true->Eiz,any_eq_false->Ejz,all_eq_true->Ekz,getD_eq_getElem?_getD->Cwz,getElem?_eq_getElem->Cmz,getElem?_of_mem->Elz,getElem?_cons_zero->Emz,getElem?_cons_succ->Apz,getD_cons_zero->Enz,getD_cons_succ->Eoz,map_cons->Blz,map_nil->Dpz
open Option renaming getD_some->Cbz
open Int renaming natCast_nonneg->Doz
namespace Go.Proofs.YtodhafdaelcnlaaGreat
open Go Go.E
theorem tv {r:ae}{q:Cn}(h:q∈r.cs_):Sz.szd q.Target<=Sz.szd r/\Sz.szd q.Value<=Sz.szd r:=by
 have U:=pd r;have K:=Co q;have h3:=nJ h;have h4:=fB q.Target;have h5:=fB q.Value;omega
theorem gv {g:al}{r:ae}(h:r∈g.rs_):Sz.szd r<=Sz.szd g:=by
 have U:=xN g;have h3:=nJ h;omega
theorem IP {r:ae}(h:Sz.szd r<=1048576):r.es_.length<=1048576/\r.cs_.length<=1048576:=by
 have U:=pd r;have K:=iW r.es_;have h3:=iW r.cs_;omega
def ir (n:Int)(e:Expr):Bool:=dx (λx=>decide (x.Pos<=n)) e
theorem X0 (n:Int)(e:Expr):∀ m,dD e<=m->kP m e n=some (ir n e):=by
 induction e using lQ with
 | h e ih=>
  intro m hm;obtain⟨m,rfl⟩:∃ q,m=q+1:=⟨m-1,by have:=kA e;omega⟩
  show nS (kP m) e n=_;unfold nS;rw[ga (c:=false) (q:=ir n) λk x hx=>by
   unfold pP;rw[ih x hx m (by have:=j6 hx;omega),aj];cases ir n x<;>rfl]
  have e1:ir n e=(decide (e.Pos<=n)&&e.Args.all (ir n)):=by unfold ir;rw[AG]
  rw[e1,aj];cases e.Args.all (ir n) with
  | true=>rw[ao rfl,lL,Bool.and_true]
  | false=>rw[an (by simp),qS,Egz]
theorem WY (n:Int)(e:Expr):xW e n=some (ir n e):=gY (dD e) λm hm=>X0 n e m hm
theorem XZ (n:Int)(e:Expr):∀ m,dD e<=m->vG m e n=some (ir n e):=by
 induction e using lQ with
 | h e ih=>
  intro m hm;obtain⟨m,rfl⟩:∃ q,m=q+1:=⟨m-1,by have:=kA e;omega⟩
  show vH (vG m) e n=_;unfold vH zW zQ xb;have e1:ir n e=(decide (e.Pos<=n)&&e.Args.all (ir n)):=by unfold ir;rw[AG]
  rw[aj,e1];cases decide (e.Pos<=n) with
  | false=>rfl
  | true=>
   rw[ao rfl,kT (q:=λx=>!ir n x) λk x hx=>by
    unfold HZ zk;rw[ih x hx m (by have:=j6 hx;omega),aj,aj];cases ir n x<;>rfl]
   rw[Bool.true_and,← wG];rfl
theorem WX (n:Int)(e:Expr):CP e n=some (ir n e):=gY (dD e) λm hm=>XZ n e m hm
def gl (e:Expr)(n:Int):Bool:=qA e&&ir n e
theorem E2 {e:Expr}(h:Sz.szd e<=1048576)(n:Int):oY e n=some (gl e n):=by
 unfold oY gl;have:=IT h;rw[V9 (by omega),aj];cases qA e with
 | false=>rfl
 | true=>rw[ao rfl,WX];rfl
theorem E1 {e:Expr}(h:Sz.szd e<=1048576)(n:Int):lS e n=some (gl e n):=by
 unfold lS gl;have:=IT h;rw[xj (by omega),aj];cases qA e with
 | false=>rfl
 | true=>rw[ao rfl,WY];rfl
def jW (n:Int)(q:aZ):Bool:=gl q.Expr n&&(dh q.At.Name&&decide (0<=q.At.Pos/\q.At.Pos<=n))
def lx (n:Int)(q:Cn):Bool:=(gl q.Target n&&gl q.Value n)&&(dh q.ah&&dh q.Name)
def ruleB (r:ae):Bool:=(dh r.Name&&dh r.Left)&&((decide (r.rt_.length<=3)&&decide (r.cs_.length<=2))&&(r.rt_.all dh&&(r.es_.all (jW (r.rt_.length:Int))&&r.cs_.all (lx (r.rt_.length:Int)))))
theorem Lf {α β γ:Type}{p:α->Bool}{q:β->Bool}{t:γ->Bool}(xs:List α)(ys:List β)(zs:List γ) :
  ((some (if xs.all p=true then (.inl ():Unit ⊕ Bool) else .inr false)).bind <| bb (λr1=>some r1) λ_=>
   (some (if ys.all q=true then (.inl ():Unit ⊕ Bool) else .inr false)).bind <| bb (λr1=>some r1) λ_=>
   (some (if zs.all t=true then (.inl ():Unit ⊕ Bool) else .inr false)).bind <| bb (λr1=>some r1) λ_=>some true)=some (xs.all p&&(ys.all q&&zs.all t)):=by
 cases xs.all p<;>cases ys.all q<;>cases zs.all t<;>rfl
theorem Wx {r:ae}(h:Sz.szd r<=1048576):u4 r=some (ruleB r):=by
 unfold u4 ruleB;rw[mC,aj];cases dh r.Name with
 | false=>rfl
 | true=>
  rw[ao rfl,mC,aj,aj];cases dh r.Left with
  | false=>rfl
  | true=>
   rw[Efz,an (by simp),aj];by_cases h3:r.rt_.length<=3;rw[decide_eq_true h3,decide_eq_false (by omega),an (by simp),aj];by_cases K:r.cs_.length<=2;rw[decide_eq_true K,decide_eq_false (by omega),an (by simp)];rw[ga (c:=false) (q:=dh) λk x hx=>by
    unfold Hg;rw[mC,aj];cases dh x<;>rfl]
   rw[ga (c:=false) (q:=jW (r.rt_.length:Int)) λk x hx=>by
    unfold Ha jW;rw[E2 (Bgz (pa hx) h),aj];cases gl x.Expr (r.rt_.length:Int) with
    | false=>rfl
    | true=>
     rw[ao rfl,mC,aj,aj];cases dh x.At.Name with
     | false=>rfl
     | true=>
      rw[Efz,an (by simp),oO,aj,aj];cases decide (0<=x.At.Pos/\x.At.Pos<=(r.rt_.length:Int))<;>rfl]
   rw[ga (c:=false) (q:=lx (r.rt_.length:Int)) λk x hx=>by
    have hs:=tv hx;unfold G9 lx;rw[E2 (Bgz hs.1 h),aj];cases gl x.Target (r.rt_.length:Int) with
    | false=>rfl
    | true=>
     rw[ao rfl,E2 (Bgz hs.2 h),aj,aj];cases gl x.Value (r.rt_.length:Int) with
     | false=>rfl
     | true=>
      rw[Efz,an (by simp),mC,aj,aj];cases dh x.ah with
      | false=>rfl
      | true=>
       rw[Efz,an (by simp),mC,aj,aj];cases dh x.Name<;>rfl]
   exact Lf _ _ _;rw[decide_eq_false K,decide_eq_true (by omega)];rfl;rw[decide_eq_false h3,decide_eq_true (by omega)];rfl
theorem Ww {r:ae}(h:Sz.szd r<=1048576):u9 r=some (ruleB r):=by
 unfold u9 ruleB;rw[kF,aj];cases dh r.Name with
 | false=>rfl
 | true=>
  rw[ao rfl,kF,aj,aj];cases dh r.Left with
  | false=>rfl
  | true=>
   rw[Efz,an (by simp),aj];by_cases h3:r.rt_.length<=3;rw[decide_eq_true h3,decide_eq_false (by omega),an (by simp),aj];by_cases K:r.cs_.length<=2;rw[decide_eq_true K,decide_eq_false (by omega),an (by simp)];rw[ga (c:=false) (q:=dh) λk x hx=>by
    unfold Hl;rw[kF,aj];cases dh x<;>rfl]
   rw[ga (c:=false) (q:=jW (r.rt_.length:Int)) λk x hx=>by
    unfold Hk jW;rw[kF,aj];cases dh x.At.Name with
    | false=>rw[Bool.false_and,Egz];rfl
    | true=>
     rw[ao rfl,gC,aj,aj];cases decide (0<=x.At.Pos/\x.At.Pos<=(r.rt_.length:Int)) with
     | false=>rw[Egz,Egz];rfl
     | true=>
      rw[Efz,an (by simp),E1 (Bgz (pa hx) h),aj,aj];cases gl x.Expr (r.rt_.length:Int)<;>rfl]
   rw[ga (c:=false) (q:=lx (r.rt_.length:Int)) λk x hx=>by
    have hs:=tv hx;unfold Hj lx;rw[kF,aj];cases dh x.ah with
    | false=>rw[Bool.false_and,Egz];rfl
    | true=>
     rw[ao rfl,kF,aj,aj];cases dh x.Name with
     | false=>rw[Egz,Egz];rfl
     | true=>
      rw[Efz,an (by simp),E1 (Bgz hs.1 h),aj,aj];cases gl x.Target (r.rt_.length:Int) with
      | false=>rfl
      | true=>
       rw[Efz,an (by simp),E1 (Bgz hs.2 h),aj,aj];cases gl x.Value (r.rt_.length:Int)<;>rfl]
   exact Lf _ _ _;rw[decide_eq_false K,decide_eq_true (by omega)];rfl;rw[decide_eq_false h3,decide_eq_true (by omega)];rfl
def jA (p:List ah)(x:ah):Bool:=!symB x||dw (λy:ah=>y.Name) p x
def jB (p:List ae)(x:ae):Bool:=!ruleB x||dw (λy:ae=>y.Name) p x
def lG (g:al):Int:=match dH jA [] g.ss_ with
 | some k=>(k:Int)
 | none=>match dH jB [] g.rs_ with
  | some k=>(k:Int)
  | none=>-1
theorem Wv {g:al}(h:Sz.szd g<=1048576):uI g=some (lG g):=by
 unfold uI lG;rw[show findL (yH g) 0 g.ss_ ()=_ from tz (bad:=jA) (c:=λk=>(k:Int)) (all:=g.ss_) (f:=yH g) (λpre x post e=>by
  unfold yH jA;rw[UF,aj];cases symB x with
  | false=>rfl
  | true=>
   rw[ao rfl,aE (by rw[e];simp),show g.ss_.take pre.length=pre by rw[e];simp];unfold zL zu;rw[kT (q:=λo:ah=>decide (o.Name=x.Name)) λk y hy=>by
    unfold H3 yP;rw[aj];by_cases h:y.Name=x.Name;rw[decide_eq_true h];rfl;rw[decide_eq_false h];rfl]
   rw[aj,← apply_ite some];rfl) g.ss_ [] rfl]
 rw[show findL (yG g) 0 g.rs_ ()=_ from tz (bad:=jB) (c:=λk=>(k:Int)) (all:=g.rs_) (f:=yG g) (λpre x post e=>by
  unfold yG jB;rw[Wx (Bgz (gv (by rw[e];simp)) h),aj];cases ruleB x with
  | false=>rfl
  | true=>
   rw[ao rfl,aE (by rw[e];simp),show g.rs_.take pre.length=pre by rw[e];simp];unfold zG zr;rw[kT (q:=λo:ae=>decide (o.Name=x.Name)) λk y hy=>by
    unfold H2 yO;rw[aj];by_cases h:y.Name=x.Name;rw[decide_eq_true h];rfl;rw[decide_eq_false h];rfl]
   rw[aj,← apply_ite some];rfl) g.rs_ [] rfl]
 cases dH jA [] g.ss_ with
 | some k=>rfl
 | none=>cases dH jB [] g.rs_<;>rfl
theorem Ec {g:al}(h:Sz.szd g<=1048576):g.ss_.length<=1048576/\g.rs_.length<=1048576:=by
 have U:=xN g;have K:=iW g.ss_;have h3:=iW g.rs_;omega
theorem Wu {g:al}(h:Sz.szd g<=1048576):tI g=some (lG g):=by
 have hl:=Ec h;unfold tI lG;have U:=(ug (bad:=jA) (nm:=λy:ah=>y.Name) (c:=λk=>(k:Int)) (all:=g.ss_) (f:=λk x _=>some (if jA (g.ss_.take k) x=true then .inr (k:Int) else .inl ())) (h:=xF) (λpre x post e=>by
   rw[show g.ss_.take pre.length=pre by rw[e];simp]) (λpre x post e=>by
  unfold xF jA;rw[UE (gZ h x (by rw[e];simp)),aj];cases symB x with
  | false=>rfl
  | true=>
   have hp:pre.length<=1048576:=by
     have:g.ss_.length=pre.length+(post.length+1):=by rw[e];simp
     omega
   rw[ao rfl,D1,aj,List.any_map,aE (by rw[bc];constructor<;>omega),Diz,← apply_ite some];rfl) g.ss_ [] rfl).2
 have K:=(ug (bad:=jB) (nm:=λy:ae=>y.Name) (c:=λk=>(k:Int)) (all:=g.rs_) (f:=λk x _=>some (if jB (g.rs_.take k) x=true then .inr (k:Int) else .inl ())) (h:=xE) (λpre x post e=>by
   rw[show g.rs_.take pre.length=pre by rw[e];simp]) (λpre x post e=>by
  unfold xE jB;rw[Ww (Bgz (gv (by rw[e];simp)) h),aj];cases ruleB x with
  | false=>rfl
  | true=>
   have hp:pre.length<=1048576:=by
     have:g.rs_.length=pre.length+(post.length+1):=by rw[e];simp
     omega
   rw[ao rfl,D1,aj,List.any_map,aE (by rw[bc];constructor<;>omega),Diz,← apply_ite some];rfl) g.rs_ [] rfl).2
 rw[show findL xF 0 g.ss_ []=_ from U,show findL xE 0 g.rs_ []=_ from K];cases dH jA [] g.ss_ with
 | some k=>rfl
 | none=>cases dH jB [] g.rs_<;>rfl
theorem Fl {ρ:Type}{c:ρ}{q:Nat->Bool}{n:Nat}{f:Nat->Unit->Option (Unit ⊕ ρ)}(h:∀ k,k<n->f k ()=some (if q k=true then .inl () else .inr c)):∀ (m k:Nat),k+m=n->findN f k m ()=some (if (Dbz k m).all q=true then .inl () else .inr c)
 | 0,k,_=>rfl
 | m+1,k,hk=>by
  have ih:=Fl h m (k+1) (by omega);rw[findN,h k (by omega),aj];by_cases hq:q k=true;rw[ao hq,show (Dbz k (m+1)).all q=(Dbz (k+1) m).all q by simp[Eez,hq]];exact ih;rw[an hq,show (Dbz k (m+1)).all q=false by simp[Eez,hq]];rfl
theorem Ka {ρ:Type}{c:ρ}{q:Nat->Bool}{n:Nat}{f:Int->Option (Int ⊕ (Unit ⊕ ρ))}(h:∀ k:Nat,k<n->f (k:Int)=some (if q k=true then .inl ((k+1:Nat):Int) else .inr (.inr c)))(he:f (n:Int)=some (.inr (.inl ()))):∀ (m k:Nat),k+m=n->bA f (k:Int)=some (if (Dbz k m).all q=true then .inl () else .inr c)
 | 0,k,hk=>by
  obtain rfl:k=n:=by omega
  exact cF he
 | m+1,k,hk=>by
  have ih:=Ka h he m (k+1) (by omega);have U:=h k (by omega);by_cases hq:q k=true;rw[ao hq] at U;rw[eh U,show (Dbz k (m+1)).all q=(Dbz (k+1) m).all q by simp[Eez,hq]];exact ih;rw[an hq] at U;rw[cF U,show (Dbz k (m+1)).all q=false by simp[Eez,hq]];rfl
def qB (g:al)(r:ae):Bool:=(Dbz 0 (r.rt_.length+1)).all λk=>(bR g (cE r (k:Int))).2
theorem XY (g:al){r:ae}(hl:fm r):tX g r=some (!qB g r):=by
 have hl' : r.rt_.length<=1048576:=hl;unfold tX;rw[aE (by constructor<;>omega),Fl (c:=true) (n:=r.rt_.length+1) (q:=λk=>(bR g (cE r (k:Int))).2) (λk hk=>by
  unfold NB;rw[wE hl,aj,po,aj];dsimp only;rw[← apply_ite some]) (r.rt_.length+1) 0 (by omega)]
 unfold qB;cases (Dbz 0 (r.rt_.length+1)).all λk=>(bR g (cE r (k:Int))).2<;>rfl
theorem XX {g:al}(h:dP g){r:ae}(hl:fm r):uR g r=some (qB g r):=by
 have hl' : r.rt_.length<=1048576:=hl;unfold uR;have e:=Ka (c:=false) (q:=λk=>(bR g (cE r (k:Int))).2) (n:=r.rt_.length+1) (f:=u7 g r) (λk hk=>by
  unfold u7;rw[ao (by omega),mz hl,aj,lR h,aj];dsimp only;rw[aE (by constructor<;>omega),← apply_ite some];rfl) (by
  unfold u7;rw[an (by omega)]) (r.rt_.length+1) 0 (by omega)
 rw[show bA (u7 g r) 0=_ from e];unfold qB;cases (Dbz 0 (r.rt_.length+1)).all λk=>(bR g (cE r (k:Int))).2<;>rfl
theorem S5 (Z6:List Oc)(o:Oc):vT Z6 o=some (decide (o∈Z6)):=by
 unfold vT l8;rw[kT (q:=λx=>decide (o=x)) λk x hx=>by
  unfold na;by_cases h:o=x;rw[ao h,ao (by simpa using h)];rw[an h,an (by simpa using h)]]
 congr 1;by_cases h:o∈Z6;rw[decide_eq_true h,Eiz];exact⟨o,h,by simp⟩;rw[decide_eq_false h,Ejz];intro x hx he;simp at he;exact h (he▸hx)
theorem JF (Z6:List Oc)(o:Oc):rI Z6 o=some (decide (o∈Z6)):=by
 unfold rI;rw[ga (c:=true) (q:=λx=>!decide (x=o)) λk x hx=>by
  unfold N8;by_cases h:x=o;rw[ao h,an (by simp[h])];rw[an h,ao (by simp[h])]]
 by_cases h:o∈Z6;rw[decide_eq_true h,an];· rfl
 rw[Ekz];intro hh;have:=hh o h;simp at this;rw[decide_eq_false h,ao];· rfl
 rw[Ekz];intro x hx;simp;exact λe=>h (e▸hx)
def oD (r:ae)(o:Oc):Bool:=r.es_.any λq=>decide (q.At=o)
theorem UD (r:ae)(o:Oc):(cq r o).2=oD r o:=by
 unfold cq oD;cases hf:r.es_.find? (λq=>decide (q.At=o)) with
 | none=>rw[List.find?_eq_none] at hf;symm;rw[Ejz];exact hf
 | some q=>symm;rw[Eiz];exact⟨q,List.mem_of_find?_eq_some hf,List.find?_some (p:=λq:aZ=>decide (q.At=o)) hf⟩
def wj (g:al)(r:ae):Bool:=(cy g r).any λo=>!oD r o
theorem UC {g:al}(h:dP g){r:ae}(hl:fm r):tW g r=some (wj g r):=by
 unfold tW wj;rw[JG h hl,aj];unfold zM zE;rw[kT (q:=λo=>!oD r o) λk o ho=>by
  unfold H4 yf zO zF;rw[kT (q:=λq:aZ=>decide (q.At=o)) λk y hy=>by
   unfold H5 yF;rw[aj];by_cases h:y.At=o;rw[decide_eq_true h];rfl;rw[decide_eq_false h];rfl]
  rw[aj,aj,← apply_ite some];rfl]
 rfl
theorem UB {g:al}(h:dP g){r:ae}(Z:Sz.szd r<=1048576):uQ g r=some (wj g r):=by
 unfold uQ wj;rw[Ed h (iv Z),aj,ga (c:=true) (q:=oD r) λk o ho=>by
  unfold G4;rw[A4 Z o,aj];dsimp only;rw[UD,← apply_ite some]]
 have e:((cy g r).all (oD r))=!((cy g r).any λo=>!oD r o):=by rw[wG]
 rw[e];cases (cy g r).any λo=>!oD r o<;>rfl
def sD (g:al)(r:ae):Bool:=(dH (λp (x:aZ)=>!decide (x.At∈cy g r)||p.any λo=>decide (o.At=x.At)) [] r.es_).isSome
theorem Wt {g:al}(h:dP g){r:ae}(hl:fm r):sX g r=some (sD g r):=by
 unfold sX sD;rw[JG h hl,aj];rw[show findL (xa r (cy g r)) 0 r.es_ ()=_ from tz (bad:=λp (x:aZ)=>!decide (x.At∈cy g r)||p.any λo=>decide (o.At=x.At)) (c:=λ_=>true) (all:=r.es_) (f:=xa r (cy g r)) (λpre x post e=>by
  unfold xa;rw[S5,aj];cases decide (x.At∈cy g r) with
  | false=>rfl
  | true=>
   rw[ao rfl,aE (by rw[e];simp),show r.es_.take pre.length=pre by rw[e];simp];unfold zt zo;rw[kT (q:=λo:aZ=>decide (o.At=x.At)) λk y hy=>by
    unfold HV xD;rw[aj];by_cases h:y.At=x.At;rw[decide_eq_true h];rfl;rw[decide_eq_false h];rfl]
   rw[aj,← apply_ite some];rfl) r.es_ [] rfl]
 cases dH (λp (x:aZ)=>!decide (x.At∈cy g r)||p.any λo=>decide (o.At=x.At)) [] r.es_<;>rfl
theorem Ws {g:al}(h:dP g){r:ae}(Z:Sz.szd r<=1048576):uw g r=some (sD g r):=by
 have hl:=(IP Z).1;unfold uw sD;rw[Ed h (iv Z),aj];have U:=(ug (bad:=λp (x:aZ)=>!decide (x.At∈cy g r)||p.any λo=>decide (o.At=x.At)) (nm:=λy:aZ=>y.At) (c:=λ_=>true) (all:=r.es_)
  (f:=λk x _=>some (if (!decide (x.At∈cy g r)||(r.es_.take k).any λo=>decide (o.At=x.At))=true then .inr true else .inl ())) (h:=yk (cy g r)) (λpre x post e=>by
   rw[show r.es_.take pre.length=pre by rw[e];simp]) (λpre x post e=>by
  unfold yk;rw[JF,aj];cases decide (x.At∈cy g r) with
  | false=>rfl
  | true=>
   have hp:pre.length<=1048576:=by
     have:r.es_.length=pre.length+(post.length+1):=by rw[e];simp
     omega
   have e2:decide (x.At∈pre.map λy:aZ=>y.At)=pre.any λo=>decide (o.At=x.At):=by
    by_cases hm:x.At∈pre.map λy:aZ=>y.At;rw[decide_eq_true hm];symm;rw[Eiz];obtain⟨y,hy,he⟩:=List.mem_map.1 hm;exact⟨y,hy,by simpa using he⟩;rw[decide_eq_false hm];symm;rw[Ejz];intro y hy he;exact hm (List.mem_map.2 ⟨y,hy,by simpa using he⟩)
   rw[ao rfl,JF,aj,e2,aE (by rw[bc];constructor<;>omega),Diz,← apply_ite some];rfl) r.es_ [] rfl).2
 rw[show findL (yk (cy g r)) 0 r.es_ []=_ from U];cases dH (λp (x:aZ)=>!decide (x.At∈cy g r)||p.any λo=>decide (o.At=x.At)) [] r.es_<;>rfl
def dp (g:al)(r:ae)(e:Expr):Bool:=(attrs e).all (fJ g r)
theorem E0 {g:al}(h:dP g){r:ae}(hl:fm r){e:Expr}(he:Sz.szd e<=1048576):pD g r e=some (dp g r e):=by
 unfold pD dp;rw[EF he,aj,ga (c:=false) (q:=fJ g r) λk x hx=>by
  unfold NG;rw[S6 h hl,aj,← apply_ite some]]
 cases (attrs e).all (fJ g r)<;>rfl
theorem UA (g:al){r:ae}(hl:fm r){e:Expr}(he:Sz.szd e<=1048576):uC e g r=some (!dp g r e):=by
 unfold uC dp;rw[EI he,aj];unfold zT zJ;rw[kT (q:=λo=>!fJ g r o) λk o ho=>by
  unfold HX yE;rw[S7 g hl,aj,aj,← apply_ite some]]
 rw[aj,← wG,Bool.not_not]
def oN (r:ae):List Expr:=r.es_.map (λq=>q.Expr)++r.cs_.flatMap λq=>[q.Target,q.Value]
theorem Uz {r:ae}(Z:Sz.szd r<=1048576):u2 r=some (oN r):=by
 have hl:=IP Z;have U:∀ (xs:List aZ) (i:Nat) (s:List Expr),s.length+xs.length<=1048576->eachL yM i xs s=some (s++xs.map λq=>q.Expr):=by
  intro xs
  induction xs with
  | nil=>intro i s _;simp[eachL]
  | cons x xs ih=>
   intro i s hs;simp only[bC] at hs;have e:yM i x s=some (s++[x.Expr]):=by unfold yM;rw[aE (by constructor<;>omega)]
   rw[eachL,e,aj,ih _ _ (by simp;omega)];simp
 have K:∀ (xs:List Cn) (i:Nat) (s:List Expr),s.length+2*xs.length<=4194304->eachL yL i xs s=some (s++xs.flatMap λq=>[q.Target,q.Value]):=by
  intro xs
  induction xs with
  | nil=>intro i s _;simp[eachL]
  | cons x xs ih=>
   intro i s hs;simp only[bC] at hs;have e:yL i x s=some (s++[x.Target,x.Value]):=by
    unfold yL;rw[aE (by simp only[bC,List.length_nil];constructor<;>omega)]
   rw[eachL,e,aj,ih _ _ (by simp;omega)];simp
 unfold u2 oN;rw[U _ _ _ (by simpa using hl.1),aj,K _ _ _ (by simp;omega)];simp
theorem Uy {r:ae}{e:Expr}(h:e∈oN r):Sz.szd e<=Sz.szd r:=by
 unfold oN at h;rcases List.mem_append.1 h with h|h;obtain⟨q,hq,rfl⟩:=List.mem_map.1 h;exact pa hq;obtain⟨q,hq,he⟩:=List.mem_flatMap.1 h;have:=tv hq;simp at he;rcases he with rfl|rfl;exact this.1;exact this.2
def jQ (g:al)(r:ae):Bool:=!(oN r).all (dp g r)
theorem S4 (g:al){r:ae}(Z:Sz.szd r<=1048576):tV g r=some (jQ g r):=by
 unfold tV jQ;rw[Uz Z,aj];unfold zq zx;rw[kT (q:=λe=>!dp g r e) λk e he=>by
  unfold HW;rw[UA g (iv Z) (Bgz (Uy he) Z),aj,← apply_ite some]]
 rw[aj,← wG,Bool.not_not]
theorem S3 {g:al}(h:dP g){r:ae}(Z:Sz.szd r<=1048576):uF g r=some (jQ g r):=by
 unfold uF jQ;rw[ga (c:=true) (q:=λq:aZ=>dp g r q.Expr) λk x hx=>by
  unfold GW;rw[E0 h (iv Z) (Bgz (pa hx) Z),aj,← apply_ite some]]
 rw[ga (c:=true) (q:=λq:Cn=>dp g r q.Target&&dp g r q.Value) λk x hx=>by
  have hs:=tv hx;unfold GV;rw[E0 h (iv Z) (Bgz hs.1 Z),aj];cases dp g r x.Target with
  | false=>rfl
  | true=>rw[ao rfl,E0 h (iv Z) (Bgz hs.2 Z),aj,← apply_ite some];rfl]
 have e:(oN r).all (dp g r)=((r.es_.all λq=>dp g r q.Expr)&&r.cs_.all λq=>dp g r q.Target&&dp g r q.Value):=by
  unfold oN;rw[List.all_append,List.all_map,List.all_flatMap];congr 1;congr 1;funext q;simp
 rw[e];cases r.es_.all λq=>dp g r q.Expr with
 | false=>rfl
 | true=>cases r.cs_.all λq=>dp g r q.Target&&dp g r q.Value<;>rfl
def iq (g:al)(r:ae)(k:Int):Bool:=if k=3 then !qB g r else if k=4 then wj g r else if k=5 then sD g r else jQ g r
theorem V1 {g:al}(h:dP g){r:ae}(Z:Sz.szd r<=1048576)(k:Int):uE g r k=some (iq g r k):=by
 unfold uE iq;by_cases h3:k=3;rw[ao h3,ao h3,XX h (iv Z)];rfl;rw[an h3,an h3];by_cases h4:k=4;rw[ao h4,ao h4,UB h Z];rfl;rw[an h4,an h4];by_cases h5:k=5;rw[ao h5,ao h5,Ws h Z];rfl;rw[an h5,an h5,S3 h Z];rfl
theorem Le {g:al}(h:dP g){r:ae}(Z:Sz.szd r<=1048576)(k:Int)(i:Nat):yD g k i r ()=some (if iq g r k=true then .inr (k,(i:Int)) else .inl ()):=by
 unfold yD iq;by_cases h3:k=3;rw[ao h3,ao h3,XY g (iv Z),aj,← apply_ite some];rw[an h3,an h3];by_cases h4:k=4;rw[ao h4,ao h4,UC h (iv Z),aj,← apply_ite some];rw[an h4,an h4];by_cases h5:k=5;rw[ao h5,ao h5,Wt h (iv Z),aj,← apply_ite some];rw[an h5,an h5,S4 g Z,aj,← apply_ite some]
theorem V0 {g:al}(h:dP g){r:ae}(Z:Sz.szd r<=1048576)(k:Int)(i:Nat):yK g k i r ()=some (if iq g r k=true then .inr (k,(i:Int)) else .inl ()):=by
 unfold yK;rw[V1 h Z,aj,← apply_ite some]
theorem Nq {α σ ρ:Type}{f g:Nat->α->σ->Option (σ ⊕ ρ)}:∀ {xs:List α} {i:Nat} {s:σ},(∀ k x s,x∈xs->f k x s=g k x s)->findL f i xs s=findL g i xs s
 | [],_,_,_=>rfl
 | x::xs,i,s,h=>by
  rw[findL,findL,h i x s (by simp)];congr 1;funext z;cases z with
  | inl s'=>exact Nq λk y s hy=>h k y s (by simp[hy])
  | inr r=>rfl
theorem XW {g:al}(h:Sz.szd g<=1048576)(k:Int):yJ g k=mW g k:=by
 unfold yJ mW;have e:findL (yK g k) 0 g.rs_ ()=findL (yD g k) 0 g.rs_ ():=Nq λi x _ hx=>by
  have Z:=Bgz (gv hx) h;rw[V0 (gZ h) Z,Le (gZ h) Z]
 rw[e]
def fg (g:al)(k:Int):Option (Int×Int):=match g.rs_.findIdx? λr=>iq g r k with
 | some i=>some (k,(i:Int))
 | none=>none
theorem tx {α ρ:Type}{q:α->Bool}{c:Nat->ρ}:∀ {xs:List α} {i:Nat} {f:Nat->α->Unit->Option (Unit ⊕ ρ)},(∀ k x,x∈xs->f k x ()=some (if q x=true then .inr (c k) else .inl ())) ->
  findL f i xs ()=some (match xs.findIdx? q with|some j=>.inr (c (i+j))|none=>.inl ())
 | [],_,_,_=>rfl
 | x::xs,i,f,h=>by
  rw[findL,h i x (by simp),aj,List.findIdx?_cons];by_cases hq:q x=true;rw[ao hq,ao hq];rfl;rw[an hq,an hq];have ih:=tx (q:=q) (c:=c) (xs:=xs) (i:=i+1) (f:=f) λk y hy=>h k y (by simp[hy]);dsimp only;rw[ih];cases xs.findIdx? q with
  | none=>rfl
  | some j=>simp only[Option.map_some];rw[show i+1+j=i+(j+1) by omega]
def kz (g:al):Int×Int:=
 if !decide (1<=g.ss_.length/\g.ss_.length<=4) || !decide (1<=g.rs_.length/\g.rs_.length<=8) then (1,0)
 else if 0<=lG g then (1,lG g)
 else if (g.ss_.getD 0 zS).as_.any λa=>decide (a.Mode=1) then (2,0)
 else (fg g 3 <|> (fg g 4 <|> (fg g 5 <|> fg g 6))).getD (0,0)
theorem Np {g:al}(h:Sz.szd g<=1048576):(bA (mW g) 3).bind (bb (λr2=>some r2) λ()=>some (0,0))=some ((fg g 3 <|> (fg g 4 <|> (fg g 5 <|> fg g 6))).getD (0,0)):=by
 have hstep:∀ k:Int,3<=k->k<=6->mW g k=match fg g k with|some z=>some (.inr (.inr z))|none=>some (.inl (k+1)):=by
  intro k h3 h6;unfold mW fg;rw[ao h6,tx (q:=λr=>iq g r k) (c:=λi=>(k,(i:Int))) λi x hx=>Le (gZ h) (Bgz (gv hx) h) k i];cases g.rs_.findIdx? λr=>iq g r k with
  | some i=>simp
  | none=>rw[aj];dsimp only[bb];rw[aE (by constructor<;>omega)]
 have hend:mW g 7=some (.inr (.inl ())):=by unfold mW;rw[an (by omega)]
 have h3:=hstep 3 (by omega) (by omega);have h4:=hstep 4 (by omega) (by omega);have h5:=hstep 5 (by omega) (by omega);have h6:=hstep 6 (by omega) (by omega);cases s3:fg g 3 with
 | some z=>rw[s3] at h3;rw[cF h3];rfl
 | none=>
  rw[s3] at h3;rw[eh h3,show (3:Int)+1=4 by rfl];cases s4:fg g 4 with
  | some z=>rw[s4] at h4;rw[cF h4];rfl
  | none=>
   rw[s4] at h4;rw[eh h4,show (4:Int)+1=5 by rfl];cases s5:fg g 5 with
   | some z=>rw[s5] at h5;rw[cF h5];rfl
   | none=>
    rw[s5] at h5;rw[eh h5,show (5:Int)+1=6 by rfl];cases s6:fg g 6 with
    | some z=>rw[s6] at h6;rw[cF h6];rfl
    | none=>
     rw[s6] at h6;rw[eh h6,show (6:Int)+1=7 by rfl,cF hend];rfl
theorem VZ {g:al}(h:Sz.szd g<=1048576):uG g=some (kz g):=by
 unfold uG kz;rw[oO,aj];by_cases U:1<=g.ss_.length/\g.ss_.length<=4;rw[decide_eq_true (by omega),ao rfl,oO,aj,decide_eq_true U];by_cases K:1<=g.rs_.length/\g.rs_.length<=8;rw[decide_eq_true (by omega),ao rfl,Wv h,aj,decide_eq_true K];simp only[Efz,Ehz,Eaz,if_false];by_cases h3:0<=lG g;rw[ao h3,ao h3];rw[an h3,an h3,Cwz,Cmz (by omega:0<g.ss_.length),aj,Cbz];unfold zU zK;rw[kT (q:=λa:aI=>decide (a.Mode=1)) λk y hy=>by
  unfold HY yN;rw[aj,← apply_ite some]]
 rw[aj];by_cases h4:(g.ss_[0].as_.any λa=>decide (a.Mode=1))=true;rw[ao h4,ao h4];rw[an h4,an h4];exact Np h;rw[decide_eq_false (by omega),decide_eq_false K];rfl;rw[decide_eq_false (by omega),decide_eq_false U];rfl
theorem VY {g:al}(h:Sz.szd g<=1048576):uP g=some (kz g):=by
 unfold uP kz;rw[gC,aj];by_cases U:1<=g.ss_.length/\g.ss_.length<=4;rw[decide_eq_true (by omega),ao rfl,gC,aj,decide_eq_true U];by_cases K:1<=g.rs_.length/\g.rs_.length<=8;rw[decide_eq_true (by omega),ao rfl,Wu h,aj,decide_eq_true K];simp only[Efz,Ehz,Eaz,if_false];by_cases h3:0<=lG g;rw[ao h3,ao h3];rw[an h3,an h3,Cwz,Cmz (by omega:0<g.ss_.length),aj,Cbz];rw[ga (c:=((2:Int),(0:Int))) (q:=λa:aI=>!decide (a.Mode=1)) λk y hy=>by
  unfold G3;by_cases hm:y.Mode=1;rw[ao hm,an (by simp[hm])];rw[an hm,ao (by simp[hm])]]
 have e:(g.ss_[0].as_.all λa=>!decide (a.Mode=1))=!(g.ss_[0].as_.any λa=>decide (a.Mode=1)):=by rw[List.not_any_eq_all_not]
 rw[e];cases (g.ss_[0].as_.any λa=>decide (a.Mode=1)) with
 | true=>rfl
 | false=>
  rw[Bool.not_false,ao rfl,aj,lL,an (by simp),show yJ g=mW g from funext λk=>XW h k];exact Np h
 rw[decide_eq_false (by omega),decide_eq_false K];rfl;rw[decide_eq_false (by omega),decide_eq_false U];rfl
theorem py {α:Type}{bad:List α->α->Bool}:∀ (xs pre:List α),dH bad pre xs=none->∀ k x,xs[k]?=some x->bad (pre++xs.take k) x=false
 | [],pre,h,k,x,hx=>by simp at hx
 | y::xs,pre,h,k,x,hx=>by
  rw[dH] at h;by_cases Y:bad pre y=true;rw[ao Y] at h;cases h;rw[an Y] at h;cases k with
  | zero=>simp at hx;subst hx;simpa using Y
  | succ k=>
   have:=py xs (pre++[y]) h k x (by simpa using hx);simpa using this
structure Shape (g:al):Prop where
 syms:1<=g.ss_.length/\g.ss_.length<=4
 rules:1<=g.rs_.length/\g.rs_.length<=8
 sym:dH jA [] g.ss_=none
 rule:dH jB [] g.rs_=none
 brk:∀ k:Int,3<=k->k<=6->∀ r∈g.rs_,iq g r k=false
 oH:∀ y a,g.ss_[0]?=some y->a∈y.as_->a.Mode≠1
theorem J9 {g:al}(h:(kz g).1=0):Shape g:=by
 unfold kz at h;by_cases U:1<=g.ss_.length/\g.ss_.length<=4;by_cases K:1<=g.rs_.length/\g.rs_.length<=8;rw[decide_eq_true U,decide_eq_true K] at h;simp only[Efz,Ehz,Eaz,if_false] at h;by_cases h3:0<=lG g;rw[ao h3] at h;simp at h;rw[an h3] at h;by_cases h4:((g.ss_.getD 0 zS).as_.any λa=>decide (a.Mode=1))=true;rw[ao h4] at h;simp at h;rw[an h4] at h;have hf:dH jA [] g.ss_=none/\dH jB [] g.rs_=none:=by
  unfold lG at h3;cases e1:dH jA [] g.ss_ with
  | some k=>rw[e1] at h3;exact absurd (Doz k) h3
  | none=>
   cases e2:dH jB [] g.rs_ with
   | some k=>rw[e1,e2] at h3;exact absurd (Doz k) h3
   | none=>exact⟨rfl,rfl⟩
 have hk:∀ k:Int,fg g k=none->∀ r∈g.rs_,iq g r k=false:=by
  intro k hk r Z;unfold fg at hk;cases e:g.rs_.findIdx? λr=>iq g r k with
  | some i=>rw[e] at hk;cases hk
  | none=>
   rw[List.findIdx?_eq_none_iff] at e;exact e r Z
 have hc:∀ k:Int,3<=k->∀ z,fg g k=some z->z.1≠0:=by
  intro k h3 z hz;unfold fg at hz;cases e:g.rs_.findIdx? λr=>iq g r k with
  | none=>rw[e] at hz;cases hz
  | some i=>rw[e] at hz;cases hz;show k≠0;omega
 have n3:fg g 3=none:=by
  cases e:fg g 3 with
  | none=>rfl
  | some z=>rw[e] at h;exact absurd h (hc 3 (by omega) z e)
 rw[n3] at h;have n4:fg g 4=none:=by
  cases e:fg g 4 with
  | none=>rfl
  | some z=>rw[e] at h;exact absurd h (hc 4 (by omega) z e)
 rw[n4] at h;have n5:fg g 5=none:=by
  cases e:fg g 5 with
  | none=>rfl
  | some z=>rw[e] at h;exact absurd h (hc 5 (by omega) z e)
 rw[n5] at h;have n6:fg g 6=none:=by
  cases e:fg g 6 with
  | none=>rfl
  | some z=>rw[e] at h;exact absurd h (hc 6 (by omega) z e)
 refine⟨U,K,hf.1,hf.2,λk k3 k6=>?_,λy a hy ha hm=>h4 ?_⟩;have:k=3∨k=4∨k=5∨k=6:=by omega
 rcases this with rfl|rfl|rfl|rfl;exact hk _ n3;exact hk _ n4;exact hk _ n5;exact hk _ n6;rw[Cwz,hy,Eiz];exact⟨a,ha,by simpa using hm⟩;rw[decide_eq_false K] at h;simp at h;rw[decide_eq_false U] at h;simp at h
theorem Shape.ruleB {g:al}(h:Shape g){r:ae}(Z:r∈g.rs_):ruleB r=true:=by
 obtain⟨k,hk⟩:=Elz Z;have:=py _ _ h.rule k r hk;unfold jB at this;rw[Dlz] at this;simpa using this.1
theorem Shape.symB {g:al}(h:Shape g){y:ah}(hy:y∈g.ss_):symB y=true:=by
 obtain⟨k,hk⟩:=Elz hy;have:=py _ _ h.sym k y hk;unfold jA at this;rw[Dlz] at this;simpa using this.1
theorem Shape.pos {g:al}(h:Shape g){r:ae}(Z:r∈g.rs_){q:aZ}(hq:q∈r.es_):0<=q.At.Pos/\q.At.Pos<=(r.rt_.length:Int):=by
 have:=h.ruleB Z;unfold Go.Proofs.YtodhafdaelcnlaaGreat.ruleB at this;simp only[Bool.and_eq_true,Ekz] at this;have:=this.2.2.2.1 q hq;unfold jW at this;simp only[Bool.and_eq_true,decide_eq_true_eq] at this;exact this.2.2
def mJ (g:al)(r:ae)(k n p t:Int)(sy nm:ar)(ts:List Int):Int:=
 if k=1 then t else if k=2 then (if r.ll_=true then 1 else 0) else if k=3 then (gp g r ⟨p,nm⟩).1.t__
 else if k=4 then (if ts.length=2/\ts.getD 0 0=(opT n).1/\ts.getD 1 0=(opT n).2.1 then (opT n).2.2 else 0)
 else if k=5 then (if ts.length=3/\ts.getD 0 0=3/\ts.getD 1 0=ts.getD 2 0 then ts.getD 1 0 else 0)
 else if k=6 then (if 0<=p/\p<=(r.rt_.length:Int) then 4 else 0) else if k=7 then 4
 else if k=8 then (if ts.length=1/\ts.getD 0 0=4 then (eS (bR g sy).1 nm).1.t__ else 0) else 0
mutual
def bT (g:al)(r:ae):Expr->Int
 | ⟨k,n,p,t,sy,nm,a⟩=>mJ g r k n p t sy nm (Ak g r a)
def Ak (g:al)(r:ae):List Expr->List Int
 | []=>[]
 | x::xs=>bT g r x::Ak g r xs
end
theorem KR (g:al)(r:ae):∀ l,Ak g r l=l.map (bT g r)
 | []=>rfl
 | x::xs=>by rw[Ak,KR g r xs];rfl
theorem Jg (g:al)(r:ae)(e:Expr):bT g r e=mJ g r e.Kind e.N e.Pos e.t__ e.ah e.Name (e.Args.map (bT g r)):=by
 cases e;rw[bT,KR]
theorem Ld {y:ah}{s:ar}(h:(eS y s).2≠true):(eS y s).1=zA:=by
 unfold eS at h ⊢;cases hf:y.as_.find? (λa=>decide (a.Name=s)) with
 | none=>rfl
 | some a=>rw[hf] at h;exact absurd rfl h
theorem Eb {g:al}(h:dP g)(s nm:ar):p6 g s nm=some (eS (bR g s).1 nm).1.t__:=by
 unfold p6;rw[lR h,aj]
 try dsimp only
 rw[xf,aj]
 try dsimp only
 by_cases Y:(eS (bR g s).1 nm).2=true;rw[ao Y];rw[an Y,Ld Y];rfl
theorem Ux (g:al){r:ae}(hl:fm r)(e:Expr):∀ m,dD e<=m->Sz.szd e<=1048576->pX m g r e=some (bT g r e):=by
 induction e using lQ with
 | h e ih=>
  intro m hm hs;obtain⟨m,rfl⟩:∃ q,m=q+1:=⟨m-1,by have:=kA e;omega⟩
  show uY (pX m) g r e=_;have hlen:e.Args.length<=1048576:=by have:=fB e;have:=iW e.Args;omega
  have hloop:∀ (xs:List Expr) (i:Nat) (s:List Int),(∀ x∈xs,x∈e.Args)->s.length+xs.length<=1048576->eachL (yC (pX m) g r) i xs s=some (s++xs.map (bT g r)):=by
   intro xs
   induction xs with
   | nil=>intro i s _ _;simp[eachL]
   | cons x xs ihx=>
    intro i s hx hn;simp only[bC] at hn;have e1:yC (pX m) g r i x s=some (s++[bT g r x]):=by
     unfold yC;have hxe:=hx x (by simp);rw[ih x hxe m (by have:=j6 hxe;omega) (by have:=IU hxe;omega),aj,aE (by constructor<;>omega)]
    rw[eachL,e1,aj,ihx _ _ (λy hy=>hx y (by simp[hy])) (by simp;omega)];simp
  unfold uY;rw[hloop e.Args 0 [] (λ_ h=>h) (by simpa using hlen),aj,List.nil_append,Jg];generalize e.Args.map (bT g r)=ts;unfold mJ;by_cases k1:e.Kind=1;rw[ao k1,ao k1];rw[an k1,an k1];by_cases k2:e.Kind=2;rw[ao k2,ao k2,aj];by_cases hL:r.ll_=true;rw[ao hL,ao hL];rw[an hL,an hL];simp[k2];rw[an k2,an k2,aj,an (by simp)];by_cases k3:e.Kind=3;rw[ao k3,ao k3,Gb g hl];rfl;rw[an k3,an k3];by_cases k4:e.Kind=4;rw[ao k4,ao k4,aj];by_cases hn:ts.length=2;obtain⟨a,b,rfl⟩:∃ a b,ts=[a,b]:=by
   match ts,hn with
   | [a,b],_=>exact⟨a,b,rfl⟩
  rw[ao (by simp),Tl,aj];simp only[Emz,Apz,aj,Enz,Eoz];by_cases ha:a=(opT e.N).1;rw[ao ha,aj];by_cases Y:b=(opT e.N).2.1;rw[ao (by simp[Y]),ao ⟨hn,ha,Y⟩];rw[an (by simp[Y]),an λh=>Y h.2.2];rw[an ha,aj,an (by simp),an λh=>ha h.2.1];have hz:(if ts.length=2/\ts.getD 0 0=(opT e.N).1/\ts.getD 1 0=(opT e.N).2.1 then (opT e.N).2.2 else 0)=0:=an λh=>hn h.1;rw[hz,an (by simp;omega)];simp[k4];rw[an k4,an k4,aj,an (by simp)];by_cases k5:e.Kind=5;rw[ao k5,ao k5,aj];by_cases hn:ts.length=3;obtain⟨a,b,c,rfl⟩:∃ a b c,ts=[a,b,c]:=by
   match ts,hn with
   | [a,b,c],_=>exact⟨a,b,c,rfl⟩
  rw[ao (by simp)];simp only[Emz,Apz,aj,Enz,Eoz];by_cases ha:a=3;rw[ao ha];by_cases Y:b=c;rw[ao Y,ao ⟨hn,ha,Y⟩];rw[an Y,an λh=>Y h.2.2];rw[an ha,an λh=>ha h.2.1];have hz:(if ts.length=3/\ts.getD 0 0=3/\ts.getD 1 0=ts.getD 2 0 then ts.getD 1 0 else 0)=0:=an λh=>hn h.1;rw[hz,an (by simp;omega)];simp[k5];rw[an k5,an k5,aj,an (by simp)];by_cases k6:e.Kind=6;rw[ao k6,ao k6,oO,aj,aj];by_cases hp:0<=e.Pos/\e.Pos<=(r.rt_.length:Int);rw[decide_eq_true hp,ao hp];rfl;rw[decide_eq_false hp,an hp];simp[k6];rw[an k6,an k6,aj,an (by simp),aj];by_cases k7:e.Kind=7;rw[ao (by simp[k7]),ao k7];rw[an (by simp[k7]),an k7];by_cases k8:e.Kind=8;rw[ao k8,ao k8,aj];by_cases hn:ts.length=1;obtain⟨a,rfl⟩:∃ a,ts=[a]:=by
   match ts,hn with
   | [a],_=>exact⟨a,rfl⟩
  rw[ao (by simp)];simp only[Emz,aj,Enz];by_cases ha:a=4;rw[ao (by simp[ha]),ao ⟨hn,ha⟩,po,aj]
  try dsimp only
  rw[xg];rfl;rw[an (by simp[ha]),an λh=>ha h.2];rw[an (by simp;omega),an λh=>hn h.1];rfl;rw[an k8,an k8];rfl
theorem Ea (g:al){r:ae}(hl:fm r){e:Expr}(hs:Sz.szd e<=1048576):uX g r e=some (bT g r e):=gY (dD e) λm hm=>Ux g hl e m hm hs
theorem Uw {g:al}(h:dP g){r:ae}(hl:fm r)(e:Expr):∀ m,dD e<=m->rW m g r e=some (bT g r e):=by
 induction e using lQ with
 | h e ih=>
  intro m hm;obtain⟨m,rfl⟩:∃ q,m=q+1:=⟨m-1,by have:=kA e;omega⟩
  show uO (rW m) g r e=_;have hx:∀ x∈e.Args,rW m g r x=some (bT g r x):=λx hxe=>ih x hxe m (by have:=j6 hxe;omega);unfold uO;rw[Jg];unfold mJ;by_cases k1:e.Kind=1;rw[ao k1,ao k1];rw[an k1,an k1];by_cases k2:e.Kind=2;rw[ao k2,ao k2,← apply_ite some];rw[an k2,an k2];by_cases k3:e.Kind=3;rw[ao k3,ao k3,gC,aj];unfold gp;by_cases hp:0<=e.Pos/\e.Pos<=(r.rt_.length:Int);rw[ao (by simpa using hp),ao hp,mz hl,aj,Eb h];rfl;rw[an (by simpa using hp),an hp];rfl;rw[an k3,an k3];by_cases k4:e.Kind=4;rw[ao k4,ao k4];unfold Ba;rw[Tk,aj]
  try dsimp only
  by_cases hn:e.Args.length=2;obtain⟨a,b,hab⟩:∃ a b,e.Args=[a,b]:=by
   match e.Args,hn with
   | [a,b],_=>exact⟨a,b,rfl⟩
  rw[hab] at hx;rw[hab,ao (by simp)];simp only[Emz,Apz,aj,Blz,Dpz,Enz,Eoz];rw[hx a (by simp),aj];by_cases ha:bT g r a=(opT e.N).1;rw[ao ha,hx b (by simp),aj];by_cases Y:bT g r b=(opT e.N).2.1;rw[ao Y,ao ⟨by simp,ha,Y⟩];rfl;rw[an Y,an λh=>Y h.2.2];rfl;rw[an ha,an λh=>ha h.2.1];rfl;rw[an (by omega),an λh=>hn (by simpa using h.1)];rfl;rw[an k4,an k4];by_cases k5:e.Kind=5;rw[ao k5,ao k5];unfold A9;by_cases hn:e.Args.length=3;obtain⟨a,b,c,hab⟩:∃ a b c,e.Args=[a,b,c]:=by
   match e.Args,hn with
   | [a,b,c],_=>exact⟨a,b,c,rfl⟩
  rw[hab] at hx;rw[hab,ao (by simp)];simp only[Emz,Apz,aj,Blz,Dpz,Enz,Eoz];rw[hx a (by simp),aj];by_cases ha:bT g r a=3;rw[ao ha,hx b (by simp),aj,hx c (by simp),aj];by_cases Y:bT g r b=bT g r c;rw[ao Y,ao ⟨by simp,ha,Y⟩];rfl;rw[an Y,an λh=>Y h.2.2];rfl;rw[an ha,an λh=>ha h.2.1];rfl;rw[an (by omega),an λh=>hn (by simpa using h.1)];rfl;rw[an k5,an k5];by_cases k6:e.Kind=6;rw[ao k6,ao k6,gC,aj];by_cases hp:0<=e.Pos/\e.Pos<=(r.rt_.length:Int);rw[ao (by simpa using hp),ao hp];rw[an (by simpa using hp),an hp];rw[an k6,an k6];by_cases k7:e.Kind=7;rw[ao k7,ao k7];rw[an k7,an k7];by_cases k8:e.Kind=8;rw[ao k8,ao k8];by_cases hn:e.Args.length=1;obtain⟨a,hab⟩:∃ a,e.Args=[a]:=by
   match e.Args,hn with
   | [a],_=>exact⟨a,rfl⟩
  rw[hab] at hx;rw[hab,ao (by simp)];simp only[Emz,aj,Blz,Dpz,Enz];rw[hx a (by simp),aj];by_cases ha:bT g r a=4;rw[ao ha,ao ⟨by simp,ha⟩,Eb h];rfl;rw[an ha,an λh=>ha h.2];rw[an (by omega),an λh=>hn (by simpa using h.1)];rw[an k8,an k8]
theorem D9 {g:al}(h:dP g){r:ae}(hl:fm r)(e:Expr):uN g r e=some (bT g r e):=gY (dD e) λm hm=>Uw h hl e m hm
def jd (g:al)(r:ae)(q:Cn):Bool:=(decide (bT g r q.Target=4)&&decide (bT g r q.Value=2))&&decide ((eS (bR g q.ah).1 q.Name).1.Mode=3)
def fU (g:al)(r:ae):Bool:=(r.es_.all λq=>decide (bT g r q.Expr=(gp g r q.At).1.t__))&&r.cs_.all (jd g r)
theorem Uv (g:al){r:ae}(Z:Sz.szd r<=1048576):uo g r=some (!fU g r):=by
 have hl:=iv Z;unfold uo fU;rw[ga (c:=true) (q:=λq:aZ=>decide (bT g r q.Expr=(gp g r q.At).1.t__)) λk x hx=>by
  unfold N6;rw[Gb g hl,aj]
  try dsimp only
  rw[Ea g hl (Bgz (pa hx) Z),aj];by_cases hp:bT g r x.Expr=(gp g r x.At).1.t__;rw[ao hp,ao (by simpa using hp)];rw[an hp,an (by simpa using hp)]]
 rw[ga (c:=true) (q:=jd g r) λk x hx=>by
  have hs:=tv hx;unfold N5 jd;rw[po,aj]
  try dsimp only
  rw[xg,aj]
  try dsimp only
  rw[Ea g hl (Bgz hs.1 Z),aj];by_cases U:bT g r x.Target=4;rw[ao U,Ea g hl (Bgz hs.2 Z),aj,aj,decide_eq_true U];cases decide (bT g r x.Value=2) with
  | false=>rfl
  | true=>
   rw[Efz,an (by simp),aj];cases decide ((eS (bR g x.ah).1 x.Name).1.Mode=3)<;>rfl
  rw[an U,decide_eq_false U];rfl]
 cases r.es_.all λq=>decide (bT g r q.Expr=(gp g r q.At).1.t__) with
 | false=>rfl
 | true=>cases r.cs_.all (jd g r)<;>rfl
theorem Uu {g:al}(h:dP g){r:ae}(Z:Sz.szd r<=1048576)(hp:∀ q∈r.es_,0<=q.At.Pos/\q.At.Pos<=(r.rt_.length:Int)):tZ g r=some (fU g r):=by
 have hl:=iv Z;unfold tZ fU;rw[ga (c:=false) (q:=λq:aZ=>decide (bT g r q.Expr=(gp g r q.At).1.t__)) λk x hx=>by
  unfold NF;rw[D9 h hl,aj,mz hl,aj,Eb h,aj];have e:(eS (bR g (cE r x.At.Pos)).1 x.At.Name).1.t__=(gp g r x.At).1.t__:=by unfold gp;rw[ao (hp x hx)]
  rw[e];by_cases hp:bT g r x.Expr=(gp g r x.At).1.t__;rw[ao hp,ao (by simpa using hp)];rw[an hp,an (by simpa using hp)]]
 rw[ga (c:=false) (q:=jd g r) λk x hx=>by
  unfold ND jd;rw[lR h,aj]
  try dsimp only
  rw[xf,aj]
  try dsimp only
  have e:(if (eS (bR g x.ah).1 x.Name).2=true then some (!decide ((eS (bR g x.ah).1 x.Name).1.Mode=3)) else some true)=some (!decide ((eS (bR g x.ah).1 x.Name).1.Mode=3)):=by
   by_cases Y:(eS (bR g x.ah).1 x.Name).2=true;rw[ao Y];rw[an Y,Ld Y];rfl
  rw[e,aj];cases decide ((eS (bR g x.ah).1 x.Name).1.Mode=3) with
  | false=>rw[Egz];rfl
  | true=>
   rw[Efz,an (by simp),D9 h hl,aj,aj];cases decide (bT g r x.Target=4) with
   | false=>rfl
   | true=>
    rw[Efz,an (by simp),D9 h hl,aj,aj];cases decide (bT g r x.Value=2)<;>rfl]
 cases r.es_.all λq=>decide (bT g r q.Expr=(gp g r q.At).1.t__) with
 | false=>rfl
 | true=>cases r.cs_.all (jd g r)<;>rfl
end Go.Proofs.YtodhafdaelcnlaaGreat
