/- What those partial functions come to: plain lemmas on data; each bears its conditions in its statement. -/
import Derived.Test.YtodhafdaelcnlaaGreatMath3
set_option linter.unusedVariables false
set_option linter.unusedSimpArgs false
set_option linter.ambiguousOpen false
set_option linter.unusedSectionVars false
set_option linter.unnecessarySimpa false
open Bool renaming and_false->Egz,not_true->Efz,or_self->Ehz,false_eq_true->Eaz,or_eq_false_iff->Dlz
open Nat renaming le_trans->Bgz
open List renaming map_append->Diz,range'->Dbz,range'_succ->Eez,any_eq_true->Eiz,any_eq_false->Ejz,all_eq_true->Ekz,getD_eq_getElem?_getD->Cwz,getElem?_eq_getElem->Cmz,getElem?_of_mem->Elz,getElem?_cons_zero->Emz,getElem?_cons_succ->Apz,getD_cons_zero->Enz,getD_cons_succ->Eoz,map_cons->Blz,map_nil->Dpz
open Option renaming getD_some->Cbz
open Int renaming natCast_nonneg->Doz
namespace Go.Proofs.YtodhafdaelcnlaaGreat
open Go Go.E
theorem sF {r:aa}{q:Cn}(h:q∈r.cs_):Sz.szd q.Target<=Sz.szd r/\Sz.szd q.Value<=Sz.szd r:=by
 have U:=nE r;have W:=yF q;have h3:=lL h;have h4:=eX q.Target;have h5:=eX q.Value;omega
theorem ia {g:ak}{r:aa}(h:r∈g.rs_):Sz.szd r<=Sz.szd g:=by
 have U:=xF g;have h3:=lL h;omega
theorem IG {r:aa}(h:Sz.szd r<=1048576):r.es_.length<=1048576/\r.cs_.length<=1048576:=by
 have U:=nE r;have W:=gG r.es_;have h3:=gG r.cs_;omega
def iz (n:Int)(e:Expr):Bool:=dy (λx=>decide (x.Pos<=n)) e
theorem XE (n:Int)(e:Expr):∀ m,dD e<=m->kR m e n=some (iz n e):=by
 induction e using lK with
 | h e ih=>
  intro m hm;obtain⟨m,rfl⟩:∃ q,m=q+1:=⟨m-1,by have:=kG e;omega⟩
  show nL (kR m) e n=_;unfold nL;rw[gb (c:=false) (q:=iz n) λk x hx=>by
   unfold pv;rw[ih x hx m (by have:=j6 hx;omega),aj];cases iz n x<;>rfl]
  have e1:iz n e=(decide (e.Pos<=n)&&e.Args.all (iz n)):=by unfold iz;rw[As]
  rw[e1,aj];cases e.Args.all (iz n) with
  | true=>rw[ao rfl,lH,Bool.and_true]
  | false=>rw[al (by simp),qy,Egz]
theorem Ww (n:Int)(e:Expr):xQ e n=some (iz n e):=iA (dD e) λm hm=>XE n e m hm
theorem XD (n:Int)(e:Expr):∀ m,dD e<=m->vt m e n=some (iz n e):=by
 induction e using lK with
 | h e ih=>
  intro m hm;obtain⟨m,rfl⟩:∃ q,m=q+1:=⟨m-1,by have:=kG e;omega⟩
  show vu (vt m) e n=_;unfold vu zg zE xh;have e1:iz n e=(decide (e.Pos<=n)&&e.Args.all (iz n)):=by unfold iz;rw[As]
  rw[aj,e1];cases decide (e.Pos<=n) with
  | false=>rfl
  | true=>
   rw[ao rfl,kU (q:=λx=>!iz n x) λk x hx=>by
    unfold Hv yT;rw[ih x hx m (by have:=j6 hx;omega),aj,aj];cases iz n x<;>rfl]
   rw[Bool.true_and,← wA];rfl
theorem Wv (n:Int)(e:Expr):CH e n=some (iz n e):=iA (dD e) λm hm=>XD n e m hm
def gp (e:Expr)(n:Int):Bool:=qb e&&iz n e
theorem EK {e:Expr}(h:Sz.szd e<=1048576)(n:Int):oK e n=some (gp e n):=by
 unfold oK gp;have:=IK h;rw[VL (by omega),aj];cases qb e with
 | false=>rfl
 | true=>rw[ao rfl,Wv];rfl
theorem EJ {e:Expr}(h:Sz.szd e<=1048576)(n:Int):lR e n=some (gp e n):=by
 unfold lR gp;have:=IK h;rw[xa (by omega),aj];cases qb e with
 | false=>rfl
 | true=>rw[ao rfl,Ww];rfl
def jT (n:Int)(q:aU):Bool:=gp q.Expr n&&(dj q.At.Name&&decide (0<=q.At.Pos/\q.At.Pos<=n))
def lx (n:Int)(q:Cn):Bool:=(gp q.Target n&&gp q.Value n)&&(dj q.af&&dj q.Name)
def ruleB (r:aa):Bool:=(dj r.Name&&dj r.Left)&&((decide (r.rt_.length<=3)&&decide (r.cs_.length<=2))&&(r.rt_.all dj&&(r.es_.all (jT (r.rt_.length:Int))&&r.cs_.all (lx (r.rt_.length:Int)))))
theorem Lt {α β γ:Type}{p:α->Bool}{q:β->Bool}{t:γ->Bool}(xs:List α)(ys:List β)(zs:List γ) :
  ((some (if xs.all p=true then (.inl ():Unit ⊕ Bool) else .inr false)).bind <| bf (λr1=>some r1) λ_=>
   (some (if ys.all q=true then (.inl ():Unit ⊕ Bool) else .inr false)).bind <| bf (λr1=>some r1) λ_=>
   (some (if zs.all t=true then (.inl ():Unit ⊕ Bool) else .inr false)).bind <| bf (λr1=>some r1) λ_=>some true)=some (xs.all p&&(ys.all q&&zs.all t)):=by
 cases xs.all p<;>cases ys.all q<;>cases zs.all t<;>rfl
theorem V9 {r:aa}(h:Sz.szd r<=1048576):uU r=some (ruleB r):=by
 unfold uU ruleB;rw[mz,aj];cases dj r.Name with
 | false=>rfl
 | true=>
  rw[ao rfl,mz,aj,aj];cases dj r.Left with
  | false=>rfl
  | true=>
   rw[Efz,al (by simp),aj];by_cases h3:r.rt_.length<=3;rw[decide_eq_true h3,decide_eq_false (by omega),al (by simp),aj];by_cases W:r.cs_.length<=2;rw[decide_eq_true W,decide_eq_false (by omega),al (by simp)];rw[gb (c:=false) (q:=dj) λk x hx=>by
    unfold G2;rw[mz,aj];cases dj x<;>rfl]
   rw[gb (c:=false) (q:=jT (r.rt_.length:Int)) λk x hx=>by
    unfold G1 jT;rw[EK (Bgz (oI hx) h),aj];cases gp x.Expr (r.rt_.length:Int) with
    | false=>rfl
    | true=>
     rw[ao rfl,mz,aj,aj];cases dj x.At.Name with
     | false=>rfl
     | true=>
      rw[Efz,al (by simp),oD,aj,aj];cases decide (0<=x.At.Pos/\x.At.Pos<=(r.rt_.length:Int))<;>rfl]
   rw[gb (c:=false) (q:=lx (r.rt_.length:Int)) λk x hx=>by
    have hs:=sF hx;unfold G0 lx;rw[EK (Bgz hs.1 h),aj];cases gp x.Target (r.rt_.length:Int) with
    | false=>rfl
    | true=>
     rw[ao rfl,EK (Bgz hs.2 h),aj,aj];cases gp x.Value (r.rt_.length:Int) with
     | false=>rfl
     | true=>
      rw[Efz,al (by simp),mz,aj,aj];cases dj x.af with
      | false=>rfl
      | true=>
       rw[Efz,al (by simp),mz,aj,aj];cases dj x.Name<;>rfl]
   exact Lt _ _ _;rw[decide_eq_false W,decide_eq_true (by omega)];rfl;rw[decide_eq_false h3,decide_eq_true (by omega)];rfl
theorem V8 {r:aa}(h:Sz.szd r<=1048576):uY r=some (ruleB r):=by
 unfold uY ruleB;rw[kI,aj];cases dj r.Name with
 | false=>rfl
 | true=>
  rw[ao rfl,kI,aj,aj];cases dj r.Left with
  | false=>rfl
  | true=>
   rw[Efz,al (by simp),aj];by_cases h3:r.rt_.length<=3;rw[decide_eq_true h3,decide_eq_false (by omega),al (by simp),aj];by_cases W:r.cs_.length<=2;rw[decide_eq_true W,decide_eq_false (by omega),al (by simp)];rw[gb (c:=false) (q:=dj) λk x hx=>by
    unfold GP;rw[kI,aj];cases dj x<;>rfl]
   rw[gb (c:=false) (q:=jT (r.rt_.length:Int)) λk x hx=>by
    unfold GO jT;rw[kI,aj];cases dj x.At.Name with
    | false=>rw[Bool.false_and,Egz];rfl
    | true=>
     rw[ao rfl,fQ,aj,aj];cases decide (0<=x.At.Pos/\x.At.Pos<=(r.rt_.length:Int)) with
     | false=>rw[Egz,Egz];rfl
     | true=>
      rw[Efz,al (by simp),EJ (Bgz (oI hx) h),aj,aj];cases gp x.Expr (r.rt_.length:Int)<;>rfl]
   rw[gb (c:=false) (q:=lx (r.rt_.length:Int)) λk x hx=>by
    have hs:=sF hx;unfold G5 lx;rw[kI,aj];cases dj x.af with
    | false=>rw[Bool.false_and,Egz];rfl
    | true=>
     rw[ao rfl,kI,aj,aj];cases dj x.Name with
     | false=>rw[Egz,Egz];rfl
     | true=>
      rw[Efz,al (by simp),EJ (Bgz hs.1 h),aj,aj];cases gp x.Target (r.rt_.length:Int) with
      | false=>rfl
      | true=>
       rw[Efz,al (by simp),EJ (Bgz hs.2 h),aj,aj];cases gp x.Value (r.rt_.length:Int)<;>rfl]
   exact Lt _ _ _;rw[decide_eq_false W,decide_eq_true (by omega)];rfl;rw[decide_eq_false h3,decide_eq_true (by omega)];rfl
def jB (p:List af)(x:af):Bool:=!symB x||dx (λy:af=>y.Name) p x
def jC (p:List aa)(x:aa):Bool:=!ruleB x||dx (λy:aa=>y.Name) p x
def lG (g:ak):Int:=match dG jB [] g.ss_ with
 | some k=>(k:Int)
 | none=>match dG jC [] g.rs_ with
  | some k=>(k:Int)
  | none=>-1
theorem V7 {g:ak}(h:Sz.szd g<=1048576):uu g=some (lG g):=by
 unfold uu lG;rw[show findL (yo g) 0 g.ss_ ()=_ from sR (bad:=jB) (c:=λk=>(k:Int)) (all:=g.ss_) (f:=yo g) (λpre x post e=>by
  unfold yo jB;rw[U6,aj];cases symB x with
  | false=>rfl
  | true=>
   rw[ao rfl,aD (by rw[e];simp),show g.ss_.take pre.length=pre by rw[e];simp];unfold zz zp;rw[kU (q:=λo:af=>decide (o.Name=x.Name)) λk y hy=>by
    unfold HA yE;rw[aj];by_cases h:y.Name=x.Name;rw[decide_eq_true h];rfl;rw[decide_eq_false h];rfl]
   rw[aj,← apply_ite some];rfl) g.ss_ [] rfl]
 rw[show findL (ym g) 0 g.rs_ ()=_ from sR (bad:=jC) (c:=λk=>(k:Int)) (all:=g.rs_) (f:=ym g) (λpre x post e=>by
  unfold ym jC;rw[V9 (Bgz (ia (by rw[e];simp)) h),aj];cases ruleB x with
  | false=>rfl
  | true=>
   rw[ao rfl,aD (by rw[e];simp),show g.rs_.take pre.length=pre by rw[e];simp];unfold zt za;rw[kU (q:=λo:aa=>decide (o.Name=x.Name)) λk y hy=>by
    unfold Hz yD;rw[aj];by_cases h:y.Name=x.Name;rw[decide_eq_true h];rfl;rw[decide_eq_false h];rfl]
   rw[aj,← apply_ite some];rfl) g.rs_ [] rfl]
 cases dG jB [] g.ss_ with
 | some k=>rfl
 | none=>cases dG jC [] g.rs_<;>rfl
theorem D4 {g:ak}(h:Sz.szd g<=1048576):g.ss_.length<=1048576/\g.rs_.length<=1048576:=by
 have U:=xF g;have W:=gG g.ss_;have h3:=gG g.rs_;omega
theorem V6 {g:ak}(h:Sz.szd g<=1048576):tn g=some (lG g):=by
 have hl:=D4 h;unfold tn lG;have U:=(tp (bad:=jB) (nm:=λy:af=>y.Name) (c:=λk=>(k:Int)) (all:=g.ss_) (f:=λk x _=>some (if jB (g.ss_.take k) x=true then .inr (k:Int) else .inl ())) (h:=xA) (λpre x post e=>by
   rw[show g.ss_.take pre.length=pre by rw[e];simp]) (λpre x post e=>by
  unfold xA jB;rw[U5 (iP h x (by rw[e];simp)),aj];cases symB x with
  | false=>rfl
  | true=>
   have hp:pre.length<=1048576:=by
     have:g.ss_.length=pre.length+(post.length+1):=by rw[e];simp
     omega
   rw[ao rfl,DT,aj,List.any_map,aD (by rw[bn];constructor<;>omega),Diz,← apply_ite some];rfl) g.ss_ [] rfl).2
 have W:=(tp (bad:=jC) (nm:=λy:aa=>y.Name) (c:=λk=>(k:Int)) (all:=g.rs_) (f:=λk x _=>some (if jC (g.rs_.take k) x=true then .inr (k:Int) else .inl ())) (h:=xz) (λpre x post e=>by
   rw[show g.rs_.take pre.length=pre by rw[e];simp]) (λpre x post e=>by
  unfold xz jC;rw[V8 (Bgz (ia (by rw[e];simp)) h),aj];cases ruleB x with
  | false=>rfl
  | true=>
   have hp:pre.length<=1048576:=by
     have:g.rs_.length=pre.length+(post.length+1):=by rw[e];simp
     omega
   rw[ao rfl,DT,aj,List.any_map,aD (by rw[bn];constructor<;>omega),Diz,← apply_ite some];rfl) g.rs_ [] rfl).2
 rw[show findL xA 0 g.ss_ []=_ from U,show findL xz 0 g.rs_ []=_ from W];cases dG jB [] g.ss_ with
 | some k=>rfl
 | none=>cases dG jC [] g.rs_<;>rfl
theorem Ff {ρ:Type}{c:ρ}{q:Nat->Bool}{n:Nat}{f:Nat->Unit->Option (Unit ⊕ ρ)}(h:∀ k,k<n->f k ()=some (if q k=true then .inl () else .inr c)):∀ (m k:Nat),k+m=n->findN f k m ()=some (if (Dbz k m).all q=true then .inl () else .inr c)
 | 0,k,_=>rfl
 | m+1,k,hk=>by
  have ih:=Ff h m (k+1) (by omega);rw[findN,h k (by omega),aj];by_cases hq:q k=true;rw[ao hq,show (Dbz k (m+1)).all q=(Dbz (k+1) m).all q by simp[Eez,hq]];exact ih;rw[al hq,show (Dbz k (m+1)).all q=false by simp[Eez,hq]];rfl
theorem J2 {ρ:Type}{c:ρ}{q:Nat->Bool}{n:Nat}{f:Int->Option (Int ⊕ (Unit ⊕ ρ))}(h:∀ k:Nat,k<n->f (k:Int)=some (if q k=true then .inl ((k+1:Nat):Int) else .inr (.inr c)))(he:f (n:Int)=some (.inr (.inl ()))):∀ (m k:Nat),k+m=n->bE f (k:Int)=some (if (Dbz k m).all q=true then .inl () else .inr c)
 | 0,k,hk=>by
  obtain rfl:k=n:=by omega
  exact db he
 | m+1,k,hk=>by
  have ih:=J2 h he m (k+1) (by omega);have U:=h k (by omega);by_cases hq:q k=true;rw[ao hq] at U;rw[fi U,show (Dbz k (m+1)).all q=(Dbz (k+1) m).all q by simp[Eez,hq]];exact ih;rw[al hq] at U;rw[db U,show (Dbz k (m+1)).all q=false by simp[Eez,hq]];rfl
def qa (g:ak)(r:aa):Bool:=(Dbz 0 (r.rt_.length+1)).all λk=>(bT g (cy r (k:Int))).2
theorem XC (g:ak){r:aa}(hl:fm r):tG g r=some (!qa g r):=by
 have hl' : r.rt_.length<=1048576:=hl;unfold tG;rw[aD (by constructor<;>omega),Ff (c:=true) (n:=r.rt_.length+1) (q:=λk=>(bT g (cy r (k:Int))).2) (λk hk=>by
  unfold M4;rw[wy hl,aj,oU,aj];dsimp only;rw[← apply_ite some]) (r.rt_.length+1) 0 (by omega)]
 unfold qa;cases (Dbz 0 (r.rt_.length+1)).all λk=>(bT g (cy r (k:Int))).2<;>rfl
theorem XB {g:ak}(h:dQ g){r:aa}(hl:fm r):uE g r=some (qa g r):=by
 have hl' : r.rt_.length<=1048576:=hl;unfold uE;have e:=J2 (c:=false) (q:=λk=>(bT g (cy r (k:Int))).2) (n:=r.rt_.length+1) (f:=uX g r) (λk hk=>by
  unfold uX;rw[ao (by omega),mu hl,aj,lQ h,aj];dsimp only;rw[aD (by constructor<;>omega),← apply_ite some];rfl) (by
  unfold uX;rw[al (by omega)]) (r.rt_.length+1) 0 (by omega)
 rw[show bE (uX g r) 0=_ from e];unfold qa;cases (Dbz 0 (r.rt_.length+1)).all λk=>(bT g (cy r (k:Int))).2<;>rfl
theorem SU (Z5:List Oc)(o:Oc):vC Z5 o=some (decide (o∈Z5)):=by
 unfold vC l5;rw[kU (q:=λx=>decide (o=x)) λk x hx=>by
  unfold nb;by_cases h:o=x;rw[ao h,ao (by simpa using h)];rw[al h,al (by simpa using h)]]
 congr 1;by_cases h:o∈Z5;rw[decide_eq_true h,Eiz];exact⟨o,h,by simp⟩;rw[decide_eq_false h,Ejz];intro x hx he;simp at he;exact h (he▸hx)
theorem Jy (Z5:List Oc)(o:Oc):rk Z5 o=some (decide (o∈Z5)):=by
 unfold rk;rw[gb (c:=true) (q:=λx=>!decide (x=o)) λk x hx=>by
  unfold Ny;by_cases h:x=o;rw[ao h,al (by simp[h])];rw[al h,ao (by simp[h])]]
 by_cases h:o∈Z5;rw[decide_eq_true h,al];· rfl
 rw[Ekz];intro hh;have:=hh o h;simp at this;rw[decide_eq_false h,ao];· rfl
 rw[Ekz];intro x hx;simp;exact λe=>h (e▸hx)
def om (r:aa)(o:Oc):Bool:=r.es_.any λq=>decide (q.At=o)
theorem U4 (r:aa)(o:Oc):(bR r o).2=om r o:=by
 unfold bR om;cases hf:r.es_.find? (λq=>decide (q.At=o)) with
 | none=>rw[List.find?_eq_none] at hf;symm;rw[Ejz];exact hf
 | some q=>symm;rw[Eiz];exact⟨q,List.mem_of_find?_eq_some hf,List.find?_some (p:=λq:aU=>decide (q.At=o)) hf⟩
def vV (g:ak)(r:aa):Bool:=(cx g r).any λo=>!om r o
theorem U3 {g:ak}(h:dQ g){r:aa}(hl:fm r):tF g r=some (vV g r):=by
 unfold tF vV;rw[Jz h hl,aj];unfold zB zq;rw[kU (q:=λo=>!om r o) λk o ho=>by
  unfold Ho xW zC zr;rw[kU (q:=λq:aU=>decide (q.At=o)) λk y hy=>by
   unfold Hq yl;rw[aj];by_cases h:y.At=o;rw[decide_eq_true h];rfl;rw[decide_eq_false h];rfl]
  rw[aj,aj,← apply_ite some];rfl]
 rfl
theorem U2 {g:ak}(h:dQ g){r:aa}(Z:Sz.szd r<=1048576):uD g r=some (vV g r):=by
 unfold uD vV;rw[D5 h (iB Z),aj,gb (c:=true) (q:=om r) λk o ho=>by
  unfold GN;rw[Az Z o,aj];dsimp only;rw[U4,← apply_ite some]]
 have e:((cx g r).all (om r))=!((cx g r).any λo=>!om r o):=by rw[wA]
 rw[e];cases (cx g r).any λo=>!om r o<;>rfl
def sf (g:ak)(r:aa):Bool:=(dG (λp (x:aU)=>!decide (x.At∈cx g r)||p.any λo=>decide (o.At=x.At)) [] r.es_).isSome
theorem V5 {g:ak}(h:dQ g){r:aa}(hl:fm r):sI g r=some (sf g r):=by
 unfold sI sf;rw[Jz h hl,aj];rw[show findL (xg r (cx g r)) 0 r.es_ ()=_ from sR (bad:=λp (x:aU)=>!decide (x.At∈cx g r)||p.any λo=>decide (o.At=x.At)) (c:=λ_=>true) (all:=r.es_) (f:=xg r (cx g r)) (λpre x post e=>by
  unfold xg;rw[SU,aj];cases decide (x.At∈cx g r) with
  | false=>rfl
  | true=>
   rw[ao rfl,aD (by rw[e];simp),show r.es_.take pre.length=pre by rw[e];simp];unfold zo yY;rw[kU (q:=λo:aU=>decide (o.At=x.At)) λk y hy=>by
    unfold Hw xy;rw[aj];by_cases h:y.At=x.At;rw[decide_eq_true h];rfl;rw[decide_eq_false h];rfl]
   rw[aj,← apply_ite some];rfl) r.es_ [] rfl]
 cases dG (λp (x:aU)=>!decide (x.At∈cx g r)||p.any λo=>decide (o.At=x.At)) [] r.es_<;>rfl
theorem V4 {g:ak}(h:dQ g){r:aa}(Z:Sz.szd r<=1048576):tW g r=some (sf g r):=by
 have hl:=(IG Z).1;unfold tW sf;rw[D5 h (iB Z),aj];have U:=(tp (bad:=λp (x:aU)=>!decide (x.At∈cx g r)||p.any λo=>decide (o.At=x.At)) (nm:=λy:aU=>y.At) (c:=λ_=>true) (all:=r.es_)
  (f:=λk x _=>some (if (!decide (x.At∈cx g r)||(r.es_.take k).any λo=>decide (o.At=x.At))=true then .inr true else .inl ())) (h:=ye (cx g r)) (λpre x post e=>by
   rw[show r.es_.take pre.length=pre by rw[e];simp]) (λpre x post e=>by
  unfold ye;rw[Jy,aj];cases decide (x.At∈cx g r) with
  | false=>rfl
  | true=>
   have hp:pre.length<=1048576:=by
     have:r.es_.length=pre.length+(post.length+1):=by rw[e];simp
     omega
   have e2:decide (x.At∈pre.map λy:aU=>y.At)=pre.any λo=>decide (o.At=x.At):=by
    by_cases hm:x.At∈pre.map λy:aU=>y.At;rw[decide_eq_true hm];symm;rw[Eiz];obtain⟨y,hy,he⟩:=List.mem_map.1 hm;exact⟨y,hy,by simpa using he⟩;rw[decide_eq_false hm];symm;rw[Ejz];intro y hy he;exact hm (List.mem_map.2 ⟨y,hy,by simpa using he⟩)
   rw[ao rfl,Jy,aj,e2,aD (by rw[bn];constructor<;>omega),Diz,← apply_ite some];rfl) r.es_ [] rfl).2
 rw[show findL (ye (cx g r)) 0 r.es_ []=_ from U];cases dG (λp (x:aU)=>!decide (x.At∈cx g r)||p.any λo=>decide (o.At=x.At)) [] r.es_<;>rfl
def dr (g:ak)(r:aa)(e:Expr):Bool:=(attrs e).all (fI g r)
theorem EI {g:ak}(h:dQ g){r:aa}(hl:fm r){e:Expr}(he:Sz.szd e<=1048576):pd g r e=some (dr g r e):=by
 unfold pd dr;rw[EN he,aj,gb (c:=false) (q:=fI g r) λk x hx=>by
  unfold M7;rw[SV h hl,aj,← apply_ite some]]
 cases (attrs e).all (fI g r)<;>rfl
theorem U1 (g:ak){r:aa}(hl:fm r){e:Expr}(he:Sz.szd e<=1048576):ub e g r=some (!dr g r e):=by
 unfold ub dr;rw[Ew he,aj];unfold zF zx;rw[kU (q:=λo=>!fI g r o) λk o ho=>by
  unfold Hs yk;rw[SX g hl,aj,aj,← apply_ite some]]
 rw[aj,← wA,Bool.not_not]
def oC (r:aa):List Expr:=r.es_.map (λq=>q.Expr)++r.cs_.flatMap λq=>[q.Target,q.Value]
theorem Uv {r:aa}(Z:Sz.szd r<=1048576):uS r=some (oC r):=by
 have hl:=IG Z;have U:∀ (xs:List aU) (i:Nat) (s:List Expr),s.length+xs.length<=1048576->eachL yB i xs s=some (s++xs.map λq=>q.Expr):=by
  intro xs
  induction xs with
  | nil=>intro i s _;simp[eachL]
  | cons x xs ih=>
   intro i s hs;simp only[bH] at hs;have e:yB i x s=some (s++[x.Expr]):=by unfold yB;rw[aD (by constructor<;>omega)]
   rw[eachL,e,aj,ih _ _ (by simp;omega)];simp
 have W:∀ (xs:List Cn) (i:Nat) (s:List Expr),s.length+2*xs.length<=4194304->eachL yA i xs s=some (s++xs.flatMap λq=>[q.Target,q.Value]):=by
  intro xs
  induction xs with
  | nil=>intro i s _;simp[eachL]
  | cons x xs ih=>
   intro i s hs;simp only[bH] at hs;have e:yA i x s=some (s++[x.Target,x.Value]):=by
    unfold yA;rw[aD (by simp only[bH,List.length_nil];constructor<;>omega)]
   rw[eachL,e,aj,ih _ _ (by simp;omega)];simp
 unfold uS oC;rw[U _ _ _ (by simpa using hl.1),aj,W _ _ _ (by simp;omega)];simp
theorem Uu {r:aa}{e:Expr}(h:e∈oC r):Sz.szd e<=Sz.szd r:=by
 unfold oC at h;rcases List.mem_append.1 h with h|h;obtain⟨q,hq,rfl⟩:=List.mem_map.1 h;exact oI hq;obtain⟨q,hq,he⟩:=List.mem_flatMap.1 h;have:=sF hq;simp at he;rcases he with rfl|rfl;exact this.1;exact this.2
def jP (g:ak)(r:aa):Bool:=!(oC r).all (dr g r)
theorem SS (g:ak){r:aa}(Z:Sz.szd r<=1048576):tE g r=some (jP g r):=by
 unfold tE jP;rw[Uv Z,aj];unfold y0 yX;rw[kU (q:=λe=>!dr g r e) λk e he=>by
  unfold Hn;rw[U1 g (iB Z) (Bgz (Uu he) Z),aj,← apply_ite some]]
 rw[aj,← wA,Bool.not_not]
theorem SR {g:ak}(h:dQ g){r:aa}(Z:Sz.szd r<=1048576):ue g r=some (jP g r):=by
 unfold ue jP;rw[gb (c:=true) (q:=λq:aU=>dr g r q.Expr) λk x hx=>by
  unfold GD;rw[EI h (iB Z) (Bgz (oI hx) Z),aj,← apply_ite some]]
 rw[gb (c:=true) (q:=λq:Cn=>dr g r q.Target&&dr g r q.Value) λk x hx=>by
  have hs:=sF hx;unfold GA;rw[EI h (iB Z) (Bgz hs.1 Z),aj];cases dr g r x.Target with
  | false=>rfl
  | true=>rw[ao rfl,EI h (iB Z) (Bgz hs.2 Z),aj,← apply_ite some];rfl]
 have e:(oC r).all (dr g r)=((r.es_.all λq=>dr g r q.Expr)&&r.cs_.all λq=>dr g r q.Target&&dr g r q.Value):=by
  unfold oC;rw[List.all_append,List.all_map,List.all_flatMap];congr 1;congr 1;funext q;simp
 rw[e];cases r.es_.all λq=>dr g r q.Expr with
 | false=>rfl
 | true=>cases r.cs_.all λq=>dr g r q.Target&&dr g r q.Value<;>rfl
def iw (g:ak)(r:aa)(k:Int):Bool:=if k=3 then !qa g r else if k=4 then vV g r else if k=5 then sf g r else jP g r
theorem V3 {g:ak}(h:dQ g){r:aa}(Z:Sz.szd r<=1048576)(k:Int):ud g r k=some (iw g r k):=by
 unfold ud iw;by_cases h3:k=3;rw[ao h3,ao h3,XB h (iB Z)];rfl;rw[al h3,al h3];by_cases h4:k=4;rw[ao h4,ao h4,U2 h Z];rfl;rw[al h4,al h4];by_cases h5:k=5;rw[ao h5,ao h5,V4 h Z];rfl;rw[al h5,al h5,SR h Z];rfl
theorem Ls {g:ak}(h:dQ g){r:aa}(Z:Sz.szd r<=1048576)(k:Int)(i:Nat):yj g k i r ()=some (if iw g r k=true then .inr (k,(i:Int)) else .inl ()):=by
 unfold yj iw;by_cases h3:k=3;rw[ao h3,ao h3,XC g (iB Z),aj,← apply_ite some];rw[al h3,al h3];by_cases h4:k=4;rw[ao h4,ao h4,U3 h (iB Z),aj,← apply_ite some];rw[al h4,al h4];by_cases h5:k=5;rw[ao h5,ao h5,V5 h (iB Z),aj,← apply_ite some];rw[al h5,al h5,SS g Z,aj,← apply_ite some]
theorem V2 {g:ak}(h:dQ g){r:aa}(Z:Sz.szd r<=1048576)(k:Int)(i:Nat):yr g k i r ()=some (if iw g r k=true then .inr (k,(i:Int)) else .inl ()):=by
 unfold yr;rw[V3 h Z,aj,← apply_ite some]
theorem Nf {α σ ρ:Type}{f g:Nat->α->σ->Option (σ ⊕ ρ)}:∀ {xs:List α} {i:Nat} {s:σ},(∀ k x s,x∈xs->f k x s=g k x s)->findL f i xs s=findL g i xs s
 | [],_,_,_=>rfl
 | x::xs,i,s,h=>by
  rw[findL,findL,h i x s (by simp)];congr 1;funext z;cases z with
  | inl s'=>exact Nf λk y s hy=>h k y s (by simp[hy])
  | inr r=>rfl
theorem XA {g:ak}(h:Sz.szd g<=1048576)(k:Int):yq g k=mW g k:=by
 unfold yq mW;have e:findL (yr g k) 0 g.rs_ ()=findL (yj g k) 0 g.rs_ ():=Nf λi x _ hx=>by
  have Z:=Bgz (ia hx) h;rw[V2 (iP h) Z,Ls (iP h) Z]
 rw[e]
def fe (g:ak)(k:Int):Option (Int×Int):=match g.rs_.findIdx? λr=>iw g r k with
 | some i=>some (k,(i:Int))
 | none=>none
theorem sQ {α ρ:Type}{q:α->Bool}{c:Nat->ρ}:∀ {xs:List α} {i:Nat} {f:Nat->α->Unit->Option (Unit ⊕ ρ)},(∀ k x,x∈xs->f k x ()=some (if q x=true then .inr (c k) else .inl ())) ->
  findL f i xs ()=some (match xs.findIdx? q with|some j=>.inr (c (i+j))|none=>.inl ())
 | [],_,_,_=>rfl
 | x::xs,i,f,h=>by
  rw[findL,h i x (by simp),aj,List.findIdx?_cons];by_cases hq:q x=true;rw[ao hq,ao hq];rfl;rw[al hq,al hq];have ih:=sQ (q:=q) (c:=c) (xs:=xs) (i:=i+1) (f:=f) λk y hy=>h k y (by simp[hy]);dsimp only;rw[ih];cases xs.findIdx? q with
  | none=>rfl
  | some j=>simp only[Option.map_some];rw[show i+1+j=i+(j+1) by omega]
def kF (g:ak):Int×Int:=
 if !decide (1<=g.ss_.length/\g.ss_.length<=4) || !decide (1<=g.rs_.length/\g.rs_.length<=8) then (1,0)
 else if 0<=lG g then (1,lG g)
 else if (g.ss_.getD 0 zS).as_.any λa=>decide (a.Mode=1) then (2,0)
 else (fe g 3 <|> (fe g 4 <|> (fe g 5 <|> fe g 6))).getD (0,0)
theorem Nc {g:ak}(h:Sz.szd g<=1048576):(bE (mW g) 3).bind (bf (λr2=>some r2) λ()=>some (0,0))=some ((fe g 3 <|> (fe g 4 <|> (fe g 5 <|> fe g 6))).getD (0,0)):=by
 have hstep:∀ k:Int,3<=k->k<=6->mW g k=match fe g k with|some z=>some (.inr (.inr z))|none=>some (.inl (k+1)):=by
  intro k h3 h6;unfold mW fe;rw[ao h6,sQ (q:=λr=>iw g r k) (c:=λi=>(k,(i:Int))) λi x hx=>Ls (iP h) (Bgz (ia hx) h) k i];cases g.rs_.findIdx? λr=>iw g r k with
  | some i=>simp
  | none=>rw[aj];dsimp only[bf];rw[aD (by constructor<;>omega)]
 have hend:mW g 7=some (.inr (.inl ())):=by unfold mW;rw[al (by omega)]
 have h3:=hstep 3 (by omega) (by omega);have h4:=hstep 4 (by omega) (by omega);have h5:=hstep 5 (by omega) (by omega);have h6:=hstep 6 (by omega) (by omega);cases s3:fe g 3 with
 | some z=>rw[s3] at h3;rw[db h3];rfl
 | none=>
  rw[s3] at h3;rw[fi h3,show (3:Int)+1=4 by rfl];cases s4:fe g 4 with
  | some z=>rw[s4] at h4;rw[db h4];rfl
  | none=>
   rw[s4] at h4;rw[fi h4,show (4:Int)+1=5 by rfl];cases s5:fe g 5 with
   | some z=>rw[s5] at h5;rw[db h5];rfl
   | none=>
    rw[s5] at h5;rw[fi h5,show (5:Int)+1=6 by rfl];cases s6:fe g 6 with
    | some z=>rw[s6] at h6;rw[db h6];rfl
    | none=>
     rw[s6] at h6;rw[fi h6,show (6:Int)+1=7 by rfl,db hend];rfl
theorem V1 {g:ak}(h:Sz.szd g<=1048576):uq g=some (kF g):=by
 unfold uq kF;rw[oD,aj];by_cases U:1<=g.ss_.length/\g.ss_.length<=4;rw[decide_eq_true (by omega),ao rfl,oD,aj,decide_eq_true U];by_cases W:1<=g.rs_.length/\g.rs_.length<=8;rw[decide_eq_true (by omega),ao rfl,V7 h,aj,decide_eq_true W];simp only[Efz,Ehz,Eaz,if_false];by_cases h3:0<=lG g;rw[ao h3,ao h3];rw[al h3,al h3,Cwz,Cmz (by omega:0<g.ss_.length),aj,Cbz];unfold ze zy;rw[kU (q:=λa:aH=>decide (a.Mode=1)) λk y hy=>by
  unfold Ht yC;rw[aj,← apply_ite some]]
 rw[aj];by_cases h4:(g.ss_[0].as_.any λa=>decide (a.Mode=1))=true;rw[ao h4,ao h4];rw[al h4,al h4];exact Nc h;rw[decide_eq_false (by omega),decide_eq_false W];rfl;rw[decide_eq_false (by omega),decide_eq_false U];rfl
theorem VC {g:ak}(h:Sz.szd g<=1048576):uC g=some (kF g):=by
 unfold uC kF;rw[fQ,aj];by_cases U:1<=g.ss_.length/\g.ss_.length<=4;rw[decide_eq_true (by omega),ao rfl,fQ,aj,decide_eq_true U];by_cases W:1<=g.rs_.length/\g.rs_.length<=8;rw[decide_eq_true (by omega),ao rfl,V6 h,aj,decide_eq_true W];simp only[Efz,Ehz,Eaz,if_false];by_cases h3:0<=lG g;rw[ao h3,ao h3];rw[al h3,al h3,Cwz,Cmz (by omega:0<g.ss_.length),aj,Cbz];rw[gb (c:=((2:Int),(0:Int))) (q:=λa:aH=>!decide (a.Mode=1)) λk y hy=>by
  unfold GM;by_cases hm:y.Mode=1;rw[ao hm,al (by simp[hm])];rw[al hm,ao (by simp[hm])]]
 have e:(g.ss_[0].as_.all λa=>!decide (a.Mode=1))=!(g.ss_[0].as_.any λa=>decide (a.Mode=1)):=by rw[List.not_any_eq_all_not]
 rw[e];cases (g.ss_[0].as_.any λa=>decide (a.Mode=1)) with
 | true=>rfl
 | false=>
  rw[Bool.not_false,ao rfl,aj,lH,al (by simp),show yq g=mW g from funext λk=>XA h k];exact Nc h
 rw[decide_eq_false (by omega),decide_eq_false W];rfl;rw[decide_eq_false (by omega),decide_eq_false U];rfl
theorem o8 {α:Type}{bad:List α->α->Bool}:∀ (xs pre:List α),dG bad pre xs=none->∀ k x,xs[k]?=some x->bad (pre++xs.take k) x=false
 | [],pre,h,k,x,hx=>by simp at hx
 | y::xs,pre,h,k,x,hx=>by
  rw[dG] at h;by_cases Y:bad pre y=true;rw[ao Y] at h;cases h;rw[al Y] at h;cases k with
  | zero=>simp at hx;subst hx;simpa using Y
  | succ k=>
   have:=o8 xs (pre++[y]) h k x (by simpa using hx);simpa using this
structure Shape (g:ak):Prop where
 syms:1<=g.ss_.length/\g.ss_.length<=4
 rules:1<=g.rs_.length/\g.rs_.length<=8
 sym:dG jB [] g.ss_=none
 rule:dG jC [] g.rs_=none
 brk:∀ k:Int,3<=k->k<=6->∀ r∈g.rs_,iw g r k=false
 oo:∀ y a,g.ss_[0]?=some y->a∈y.as_->a.Mode≠1
theorem J1 {g:ak}(h:(kF g).1=0):Shape g:=by
 unfold kF at h;by_cases U:1<=g.ss_.length/\g.ss_.length<=4;by_cases W:1<=g.rs_.length/\g.rs_.length<=8;rw[decide_eq_true U,decide_eq_true W] at h;simp only[Efz,Ehz,Eaz,if_false] at h;by_cases h3:0<=lG g;rw[ao h3] at h;simp at h;rw[al h3] at h;by_cases h4:((g.ss_.getD 0 zS).as_.any λa=>decide (a.Mode=1))=true;rw[ao h4] at h;simp at h;rw[al h4] at h;have hf:dG jB [] g.ss_=none/\dG jC [] g.rs_=none:=by
  unfold lG at h3;cases e1:dG jB [] g.ss_ with
  | some k=>rw[e1] at h3;exact absurd (Doz k) h3
  | none=>
   cases e2:dG jC [] g.rs_ with
   | some k=>rw[e1,e2] at h3;exact absurd (Doz k) h3
   | none=>exact⟨rfl,rfl⟩
 have hk:∀ k:Int,fe g k=none->∀ r∈g.rs_,iw g r k=false:=by
  intro k hk r Z;unfold fe at hk;cases e:g.rs_.findIdx? λr=>iw g r k with
  | some i=>rw[e] at hk;cases hk
  | none=>
   rw[List.findIdx?_eq_none_iff] at e;exact e r Z
 have hc:∀ k:Int,3<=k->∀ z,fe g k=some z->z.1≠0:=by
  intro k h3 z hz;unfold fe at hz;cases e:g.rs_.findIdx? λr=>iw g r k with
  | none=>rw[e] at hz;cases hz
  | some i=>rw[e] at hz;cases hz;show k≠0;omega
 have n3:fe g 3=none:=by
  cases e:fe g 3 with
  | none=>rfl
  | some z=>rw[e] at h;exact absurd h (hc 3 (by omega) z e)
 rw[n3] at h;have n4:fe g 4=none:=by
  cases e:fe g 4 with
  | none=>rfl
  | some z=>rw[e] at h;exact absurd h (hc 4 (by omega) z e)
 rw[n4] at h;have n5:fe g 5=none:=by
  cases e:fe g 5 with
  | none=>rfl
  | some z=>rw[e] at h;exact absurd h (hc 5 (by omega) z e)
 rw[n5] at h;have n6:fe g 6=none:=by
  cases e:fe g 6 with
  | none=>rfl
  | some z=>rw[e] at h;exact absurd h (hc 6 (by omega) z e)
 refine⟨U,W,hf.1,hf.2,λk k3 k6=>?_,λy a hy ha hm=>h4 ?_⟩;have:k=3∨k=4∨k=5∨k=6:=by omega
 rcases this with rfl|rfl|rfl|rfl;exact hk _ n3;exact hk _ n4;exact hk _ n5;exact hk _ n6;rw[Cwz,hy,Eiz];exact⟨a,ha,by simpa using hm⟩;rw[decide_eq_false W] at h;simp at h;rw[decide_eq_false U] at h;simp at h
theorem Shape.ruleB {g:ak}(h:Shape g){r:aa}(Z:r∈g.rs_):ruleB r=true:=by
 obtain⟨k,hk⟩:=Elz Z;have:=o8 _ _ h.rule k r hk;unfold jC at this;rw[Dlz] at this;simpa using this.1
theorem Shape.symB {g:ak}(h:Shape g){y:af}(hy:y∈g.ss_):symB y=true:=by
 obtain⟨k,hk⟩:=Elz hy;have:=o8 _ _ h.sym k y hk;unfold jB at this;rw[Dlz] at this;simpa using this.1
theorem Shape.pos {g:ak}(h:Shape g){r:aa}(Z:r∈g.rs_){q:aU}(hq:q∈r.es_):0<=q.At.Pos/\q.At.Pos<=(r.rt_.length:Int):=by
 have:=h.ruleB Z;unfold Go.Proofs.YtodhafdaelcnlaaGreat.ruleB at this;simp only[Bool.and_eq_true,Ekz] at this;have:=this.2.2.2.1 q hq;unfold jT at this;simp only[Bool.and_eq_true,decide_eq_true_eq] at this;exact this.2.2
def mH (g:ak)(r:aa)(k n p t:Int)(sy nm:an)(ts:List Int):Int:=
 if k=1 then t else if k=2 then (if r.ll_=true then 1 else 0) else if k=3 then (gu g r ⟨p,nm⟩).1.t__
 else if k=4 then (if ts.length=2/\ts.getD 0 0=(opT n).1/\ts.getD 1 0=(opT n).2.1 then (opT n).2.2 else 0)
 else if k=5 then (if ts.length=3/\ts.getD 0 0=3/\ts.getD 1 0=ts.getD 2 0 then ts.getD 1 0 else 0)
 else if k=6 then (if 0<=p/\p<=(r.rt_.length:Int) then 4 else 0) else if k=7 then 4
 else if k=8 then (if ts.length=1/\ts.getD 0 0=4 then (fc (bT g sy).1 nm).1.t__ else 0) else 0
mutual
def bU (g:ak)(r:aa):Expr->Int
 | ⟨k,n,p,t,sy,nm,a⟩=>mH g r k n p t sy nm (zV g r a)
def zV (g:ak)(r:aa):List Expr->List Int
 | []=>[]
 | x::xs=>bU g r x::zV g r xs
end
theorem J0 (g:ak)(r:aa):∀ l,zV g r l=l.map (bU g r)
 | []=>rfl
 | x::xs=>by rw[zV,J0 g r xs];rfl
theorem I9 (g:ak)(r:aa)(e:Expr):bU g r e=mH g r e.Kind e.N e.Pos e.t__ e.af e.Name (e.Args.map (bU g r)):=by
 cases e;rw[bU,J0]
theorem Lr {y:af}{s:an}(h:(fc y s).2≠true):(fc y s).1=zA:=by
 unfold fc at h ⊢;cases hf:y.as_.find? (λa=>decide (a.Name=s)) with
 | none=>rfl
 | some a=>rw[hf] at h;exact absurd rfl h
theorem D3 {g:ak}(h:dQ g)(s nm:an):pC g s nm=some (fc (bT g s).1 nm).1.t__:=by
 unfold pC;rw[lQ h,aj]
 try dsimp only
 rw[w6,aj]
 try dsimp only
 by_cases Y:(fc (bT g s).1 nm).2=true;rw[ao Y];rw[al Y,Lr Y];rfl
theorem Ut (g:ak){r:aa}(hl:fm r)(e:Expr):∀ m,dD e<=m->Sz.szd e<=1048576->pB m g r e=some (bU g r e):=by
 induction e using lK with
 | h e ih=>
  intro m hm hs;obtain⟨m,rfl⟩:∃ q,m=q+1:=⟨m-1,by have:=kG e;omega⟩
  show uo (pB m) g r e=_;have hlen:e.Args.length<=1048576:=by have:=eX e;have:=gG e.Args;omega
  have hloop:∀ (xs:List Expr) (i:Nat) (s:List Int),(∀ x∈xs,x∈e.Args)->s.length+xs.length<=1048576->eachL (yi (pB m) g r) i xs s=some (s++xs.map (bU g r)):=by
   intro xs
   induction xs with
   | nil=>intro i s _ _;simp[eachL]
   | cons x xs ihx=>
    intro i s hx hn;simp only[bH] at hn;have e1:yi (pB m) g r i x s=some (s++[bU g r x]):=by
     unfold yi;have hxe:=hx x (by simp);rw[ih x hxe m (by have:=j6 hxe;omega) (by have:=IL hxe;omega),aj,aD (by constructor<;>omega)]
    rw[eachL,e1,aj,ihx _ _ (λy hy=>hx y (by simp[hy])) (by simp;omega)];simp
  unfold uo;rw[hloop e.Args 0 [] (λ_ h=>h) (by simpa using hlen),aj,List.nil_append,I9];generalize e.Args.map (bU g r)=ts;unfold mH;by_cases k1:e.Kind=1;rw[ao k1,ao k1];rw[al k1,al k1];by_cases k2:e.Kind=2;rw[ao k2,ao k2,aj];by_cases hL:r.ll_=true;rw[ao hL,ao hL];rw[al hL,al hL];simp[k2];rw[al k2,al k2,aj,al (by simp)];by_cases k3:e.Kind=3;rw[ao k3,ao k3,FD g hl];rfl;rw[al k3,al k3];by_cases k4:e.Kind=4;rw[ao k4,ao k4,aj];by_cases hn:ts.length=2;obtain⟨a,b,rfl⟩:∃ a b,ts=[a,b]:=by
   match ts,hn with
   | [a,b],_=>exact⟨a,b,rfl⟩
  rw[ao (by simp),TJ,aj];simp only[Emz,Apz,aj,Enz,Eoz];by_cases ha:a=(opT e.N).1;rw[ao ha,aj];by_cases Y:b=(opT e.N).2.1;rw[ao (by simp[Y]),ao ⟨hn,ha,Y⟩];rw[al (by simp[Y]),al λh=>Y h.2.2];rw[al ha,aj,al (by simp),al λh=>ha h.2.1];have hz:(if ts.length=2/\ts.getD 0 0=(opT e.N).1/\ts.getD 1 0=(opT e.N).2.1 then (opT e.N).2.2 else 0)=0:=al λh=>hn h.1;rw[hz,al (by simp;omega)];simp[k4];rw[al k4,al k4,aj,al (by simp)];by_cases k5:e.Kind=5;rw[ao k5,ao k5,aj];by_cases hn:ts.length=3;obtain⟨a,b,c,rfl⟩:∃ a b c,ts=[a,b,c]:=by
   match ts,hn with
   | [a,b,c],_=>exact⟨a,b,c,rfl⟩
  rw[ao (by simp)];simp only[Emz,Apz,aj,Enz,Eoz];by_cases ha:a=3;rw[ao ha];by_cases Y:b=c;rw[ao Y,ao ⟨hn,ha,Y⟩];rw[al Y,al λh=>Y h.2.2];rw[al ha,al λh=>ha h.2.1];have hz:(if ts.length=3/\ts.getD 0 0=3/\ts.getD 1 0=ts.getD 2 0 then ts.getD 1 0 else 0)=0:=al λh=>hn h.1;rw[hz,al (by simp;omega)];simp[k5];rw[al k5,al k5,aj,al (by simp)];by_cases k6:e.Kind=6;rw[ao k6,ao k6,oD,aj,aj];by_cases hp:0<=e.Pos/\e.Pos<=(r.rt_.length:Int);rw[decide_eq_true hp,ao hp];rfl;rw[decide_eq_false hp,al hp];simp[k6];rw[al k6,al k6,aj,al (by simp),aj];by_cases k7:e.Kind=7;rw[ao (by simp[k7]),ao k7];rw[al (by simp[k7]),al k7];by_cases k8:e.Kind=8;rw[ao k8,ao k8,aj];by_cases hn:ts.length=1;obtain⟨a,rfl⟩:∃ a,ts=[a]:=by
   match ts,hn with
   | [a],_=>exact⟨a,rfl⟩
  rw[ao (by simp)];simp only[Emz,aj,Enz];by_cases ha:a=4;rw[ao (by simp[ha]),ao ⟨hn,ha⟩,oU,aj]
  try dsimp only
  rw[w7];rfl;rw[al (by simp[ha]),al λh=>ha h.2];rw[al (by simp;omega),al λh=>hn h.1];rfl;rw[al k8,al k8];rfl
theorem D2 (g:ak){r:aa}(hl:fm r){e:Expr}(hs:Sz.szd e<=1048576):um g r e=some (bU g r e):=iA (dD e) λm hm=>Ut g hl e m hm hs
theorem Us {g:ak}(h:dQ g){r:aa}(hl:fm r)(e:Expr):∀ m,dD e<=m->rD m g r e=some (bU g r e):=by
 induction e using lK with
 | h e ih=>
  intro m hm;obtain⟨m,rfl⟩:∃ q,m=q+1:=⟨m-1,by have:=kG e;omega⟩
  show uB (rD m) g r e=_;have hx:∀ x∈e.Args,rD m g r x=some (bU g r x):=λx hxe=>ih x hxe m (by have:=j6 hxe;omega);unfold uB;rw[I9];unfold mH;by_cases k1:e.Kind=1;rw[ao k1,ao k1];rw[al k1,al k1];by_cases k2:e.Kind=2;rw[ao k2,ao k2,← apply_ite some];rw[al k2,al k2];by_cases k3:e.Kind=3;rw[ao k3,ao k3,fQ,aj];unfold gu;by_cases hp:0<=e.Pos/\e.Pos<=(r.rt_.length:Int);rw[ao (by simpa using hp),ao hp,mu hl,aj,D3 h];rfl;rw[al (by simpa using hp),al hp];rfl;rw[al k3,al k3];by_cases k4:e.Kind=4;rw[ao k4,ao k4];unfold AH;rw[TH,aj]
  try dsimp only
  by_cases hn:e.Args.length=2;obtain⟨a,b,hab⟩:∃ a b,e.Args=[a,b]:=by
   match e.Args,hn with
   | [a,b],_=>exact⟨a,b,rfl⟩
  rw[hab] at hx;rw[hab,ao (by simp)];simp only[Emz,Apz,aj,Blz,Dpz,Enz,Eoz];rw[hx a (by simp),aj];by_cases ha:bU g r a=(opT e.N).1;rw[ao ha,hx b (by simp),aj];by_cases Y:bU g r b=(opT e.N).2.1;rw[ao Y,ao ⟨by simp,ha,Y⟩];rfl;rw[al Y,al λh=>Y h.2.2];rfl;rw[al ha,al λh=>ha h.2.1];rfl;rw[al (by omega),al λh=>hn (by simpa using h.1)];rfl;rw[al k4,al k4];by_cases k5:e.Kind=5;rw[ao k5,ao k5];unfold AG;by_cases hn:e.Args.length=3;obtain⟨a,b,c,hab⟩:∃ a b c,e.Args=[a,b,c]:=by
   match e.Args,hn with
   | [a,b,c],_=>exact⟨a,b,c,rfl⟩
  rw[hab] at hx;rw[hab,ao (by simp)];simp only[Emz,Apz,aj,Blz,Dpz,Enz,Eoz];rw[hx a (by simp),aj];by_cases ha:bU g r a=3;rw[ao ha,hx b (by simp),aj,hx c (by simp),aj];by_cases Y:bU g r b=bU g r c;rw[ao Y,ao ⟨by simp,ha,Y⟩];rfl;rw[al Y,al λh=>Y h.2.2];rfl;rw[al ha,al λh=>ha h.2.1];rfl;rw[al (by omega),al λh=>hn (by simpa using h.1)];rfl;rw[al k5,al k5];by_cases k6:e.Kind=6;rw[ao k6,ao k6,fQ,aj];by_cases hp:0<=e.Pos/\e.Pos<=(r.rt_.length:Int);rw[ao (by simpa using hp),ao hp];rw[al (by simpa using hp),al hp];rw[al k6,al k6];by_cases k7:e.Kind=7;rw[ao k7,ao k7];rw[al k7,al k7];by_cases k8:e.Kind=8;rw[ao k8,ao k8];by_cases hn:e.Args.length=1;obtain⟨a,hab⟩:∃ a,e.Args=[a]:=by
   match e.Args,hn with
   | [a],_=>exact⟨a,rfl⟩
  rw[hab] at hx;rw[hab,ao (by simp)];simp only[Emz,aj,Blz,Dpz,Enz];rw[hx a (by simp),aj];by_cases ha:bU g r a=4;rw[ao ha,ao ⟨by simp,ha⟩,D3 h];rfl;rw[al ha,al λh=>ha h.2];rw[al (by omega),al λh=>hn (by simpa using h.1)];rw[al k8,al k8]
theorem D1 {g:ak}(h:dQ g){r:aa}(hl:fm r)(e:Expr):uA g r e=some (bU g r e):=iA (dD e) λm hm=>Us h hl e m hm
def ji (g:ak)(r:aa)(q:Cn):Bool:=(decide (bU g r q.Target=4)&&decide (bU g r q.Value=2))&&decide ((fc (bT g q.af).1 q.Name).1.Mode=3)
def fT (g:ak)(r:aa):Bool:=(r.es_.all λq=>decide (bU g r q.Expr=(gu g r q.At).1.t__))&&r.cs_.all (ji g r)
theorem Ur (g:ak){r:aa}(Z:Sz.szd r<=1048576):tT g r=some (!fT g r):=by
 have hl:=iB Z;unfold tT fT;rw[gb (c:=true) (q:=λq:aU=>decide (bU g r q.Expr=(gu g r q.At).1.t__)) λk x hx=>by
  unfold Nw;rw[FD g hl,aj]
  try dsimp only
  rw[D2 g hl (Bgz (oI hx) Z),aj];by_cases hp:bU g r x.Expr=(gu g r x.At).1.t__;rw[ao hp,ao (by simpa using hp)];rw[al hp,al (by simpa using hp)]]
 rw[gb (c:=true) (q:=ji g r) λk x hx=>by
  have hs:=sF hx;unfold Nv ji;rw[oU,aj]
  try dsimp only
  rw[w7,aj]
  try dsimp only
  rw[D2 g hl (Bgz hs.1 Z),aj];by_cases U:bU g r x.Target=4;rw[ao U,D2 g hl (Bgz hs.2 Z),aj,aj,decide_eq_true U];cases decide (bU g r x.Value=2) with
  | false=>rfl
  | true=>
   rw[Efz,al (by simp),aj];cases decide ((fc (bT g x.af).1 x.Name).1.Mode=3)<;>rfl
  rw[al U,decide_eq_false U];rfl]
 cases r.es_.all λq=>decide (bU g r q.Expr=(gu g r q.At).1.t__) with
 | false=>rfl
 | true=>cases r.cs_.all (ji g r)<;>rfl
theorem Uq {g:ak}(h:dQ g){r:aa}(Z:Sz.szd r<=1048576)(hp:∀ q∈r.es_,0<=q.At.Pos/\q.At.Pos<=(r.rt_.length:Int)):tJ g r=some (fT g r):=by
 have hl:=iB Z;unfold tJ fT;rw[gb (c:=false) (q:=λq:aU=>decide (bU g r q.Expr=(gu g r q.At).1.t__)) λk x hx=>by
  unfold M6;rw[D1 h hl,aj,mu hl,aj,D3 h,aj];have e:(fc (bT g (cy r x.At.Pos)).1 x.At.Name).1.t__=(gu g r x.At).1.t__:=by unfold gu;rw[ao (hp x hx)]
  rw[e];by_cases hp:bU g r x.Expr=(gu g r x.At).1.t__;rw[ao hp,ao (by simpa using hp)];rw[al hp,al (by simpa using hp)]]
 rw[gb (c:=false) (q:=ji g r) λk x hx=>by
  unfold M5 ji;rw[lQ h,aj]
  try dsimp only
  rw[w6,aj]
  try dsimp only
  have e:(if (fc (bT g x.af).1 x.Name).2=true then some (!decide ((fc (bT g x.af).1 x.Name).1.Mode=3)) else some true)=some (!decide ((fc (bT g x.af).1 x.Name).1.Mode=3)):=by
   by_cases Y:(fc (bT g x.af).1 x.Name).2=true;rw[ao Y];rw[al Y,Lr Y];rfl
  rw[e,aj];cases decide ((fc (bT g x.af).1 x.Name).1.Mode=3) with
  | false=>rw[Egz];rfl
  | true=>
   rw[Efz,al (by simp),D1 h hl,aj,aj];cases decide (bU g r x.Target=4) with
   | false=>rfl
   | true=>
    rw[Efz,al (by simp),D1 h hl,aj,aj];cases decide (bU g r x.Value=2)<;>rfl]
 cases r.es_.all λq=>decide (bU g r q.Expr=(gu g r q.At).1.t__) with
 | false=>rfl
 | true=>cases r.cs_.all (ji g r)<;>rfl
end Go.Proofs.YtodhafdaelcnlaaGreat
