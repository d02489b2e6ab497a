/- What those partial functions come to: plain lemmas on data; each bears its conditions in its statement. -/
import Derived.Test.YtodhafdaelcnlaaGreatMath3
set_option linter.unusedVariables false
set_option linter.unusedSimpArgs false
set_option linter.ambiguousOpen false
set_option linter.unusedSectionVars false
set_option linter.unnecessarySimpa false
open Bool renaming and_false->Efz,not_true->Eez,or_self->Egz,false_eq_true->Dzz,or_eq_false_iff->Dlz
open Nat renaming le_trans->Bgz
open List renaming map_append->Diz,range'->Dbz,range'_succ->Edz,any_eq_true->Ehz,any_eq_false->Eiz,all_eq_true->Ejz,getD_eq_getElem?_getD->Cwz,getElem?_eq_getElem->Cmz,getElem?_of_mem->Ekz,getElem?_cons_zero->Elz,getElem?_cons_succ->Apz,getD_cons_zero->Emz,getD_cons_succ->Enz,map_cons->Blz,map_nil->Dpz
open Option renaming getD_some->Cbz
open Int renaming natCast_nonneg->Doz
namespace Go.Proofs.YtodhafdaelcnlaaGreat
open Go Go.E
theorem td {r:ae}{q:Cn}(h:q∈r.cs_):Sz.szd q.Target<=Sz.szd r/\Sz.szd q.Value<=Sz.szd r:=by
 have U:=pA r;have K:=CI q;have h3:=om h;have h4:=fQ q.Target;have h5:=fQ q.Value;omega
theorem ib {g:al}{r:ae}(h:r∈g.rs_):Sz.szd r<=Sz.szd g:=by
 have U:=yi g;have h3:=om h;omega
theorem I4 {r:ae}(h:Sz.szd r<=1048576):r.es_.length<=1048576/\r.cs_.length<=1048576:=by
 have U:=pA r;have K:=jj r.es_;have h3:=jj r.cs_;omega
def iH (n:Int)(e:Expr):Bool:=dE (λx=>decide (x.Pos<=n)) e
theorem YM (n:Int)(e:Expr):∀ m,dL e<=m->lf m e n=some (iH n e):=by
 induction e using lX with
 | h e ih=>
  intro m hm;obtain⟨m,rfl⟩:∃ q,m=q+1:=⟨m-1,by have:=kM e;omega⟩
  show oD (lf m) e n=_;unfold oD;rw[gz (c:=false) (q:=iH n) λk x hx=>by
   unfold qa;rw[ih x hx m (by have:=kn hx;omega),aj];cases iH n x<;>rfl]
  have e1:iH n e=(decide (e.Pos<=n)&&e.Args.all (iH n)):=by unfold iH;rw[A6]
  rw[e1,aj];cases e.Args.all (iH n) with
  | true=>rw[ao rfl,mP,Bool.and_true]
  | false=>rw[an (by simp),rq,Efz]
theorem XT (n:Int)(e:Expr):yt e n=some (iH n e):=iu (dL e) λm hm=>YM n e m hm
theorem YL (n:Int)(e:Expr):∀ m,dL e<=m->vO m e n=some (iH n e):=by
 induction e using lX with
 | h e ih=>
  intro m hm;obtain⟨m,rfl⟩:∃ q,m=q+1:=⟨m-1,by have:=kM e;omega⟩
  show vP (vO m) e n=_;unfold vP zI Ac xC;have e1:iH n e=(decide (e.Pos<=n)&&e.Args.all (iH n)):=by unfold iH;rw[A6]
  rw[aj,e1];cases decide (e.Pos<=n) with
  | false=>rfl
  | true=>
   rw[ao rfl,ll (q:=λx=>!iH n x) λk x hx=>by
    unfold H7 zu;rw[ih x hx m (by have:=kn hx;omega),aj,aj];cases iH n x<;>rfl]
   rw[Bool.true_and,← wS];rfl
theorem XS (n:Int)(e:Expr):C4 e n=some (iH n e):=iu (dL e) λm hm=>YL n e m hm
def gI (e:Expr)(n:Int):Bool:=qV e&&iH n e
theorem E3 {e:Expr}(h:Sz.szd e<=1048576)(n:Int):pt e n=some (gI e n):=by
 unfold pt gI;have:=I9 h;rw[WX (by omega),aj];cases qV e with
 | false=>rfl
 | true=>rw[ao rfl,XS];rfl
theorem E2 {e:Expr}(h:Sz.szd e<=1048576)(n:Int):ma e n=some (gI e n):=by
 unfold ma gI;have:=I9 h;rw[xt (by omega),aj];cases qV e with
 | false=>rfl
 | true=>rw[ao rfl,XT];rfl
def kd (n:Int)(q:ba):Bool:=gI q.Expr n&&(dj q.At.Name&&decide (0<=q.At.Pos/\q.At.Pos<=n))
def lL (n:Int)(q:Cn):Bool:=(gI q.Target n&&gI q.Value n)&&(dj q.ah&&dj q.Name)
def ruleB (r:ae):Bool:=(dj r.Name&&dj r.Left)&&((decide (r.rt_.length<=3)&&decide (r.cs_.length<=2))&&(r.rt_.all dj&&(r.es_.all (kd (r.rt_.length:Int))&&r.cs_.all (lL (r.rt_.length:Int)))))
theorem Mu {α β γ:Type}{p:α->Bool}{q:β->Bool}{t:γ->Bool}(xs:List α)(ys:List β)(zs:List γ) :
  ((some (if xs.all p=true then (.inl ():Unit ⊕ Bool) else .inr false)).bind <| bg (λr1=>some r1) λ_=>
   (some (if ys.all q=true then (.inl ():Unit ⊕ Bool) else .inr false)).bind <| bg (λr1=>some r1) λ_=>
   (some (if zs.all t=true then (.inl ():Unit ⊕ Bool) else .inr false)).bind <| bg (λr1=>some r1) λ_=>some true)=some (xs.all p&&(ys.all q&&zs.all t)):=by
 cases xs.all p<;>cases ys.all q<;>cases zs.all t<;>rfl
theorem Wp {r:ae}(h:Sz.szd r<=1048576):u7 r=some (ruleB r):=by
 unfold u7 ruleB;rw[mS,aj];cases dj r.Name with
 | false=>rfl
 | true=>
  rw[ao rfl,mS,aj,aj];cases dj r.Left with
  | false=>rfl
  | true=>
   rw[Eez,an (by simp),aj];by_cases h3:r.rt_.length<=3;rw[decide_eq_true h3,decide_eq_false (by omega),an (by simp),aj];by_cases K:r.cs_.length<=2;rw[decide_eq_true K,decide_eq_false (by omega),an (by simp)];rw[gz (c:=false) (q:=dj) λk x hx=>by
    unfold Hq;rw[mS,aj];cases dj x<;>rfl]
   rw[gz (c:=false) (q:=kd (r.rt_.length:Int)) λk x hx=>by
    unfold Ho kd;rw[E3 (Bgz (pr hx) h),aj];cases gI x.Expr (r.rt_.length:Int) with
    | false=>rfl
    | true=>
     rw[ao rfl,mS,aj,aj];cases dj x.At.Name with
     | false=>rfl
     | true=>
      rw[Eez,an (by simp),pa,aj,aj];cases decide (0<=x.At.Pos/\x.At.Pos<=(r.rt_.length:Int))<;>rfl]
   rw[gz (c:=false) (q:=lL (r.rt_.length:Int)) λk x hx=>by
    have hs:=td hx;unfold Hn lL;rw[E3 (Bgz hs.1 h),aj];cases gI x.Target (r.rt_.length:Int) with
    | false=>rfl
    | true=>
     rw[ao rfl,E3 (Bgz hs.2 h),aj,aj];cases gI x.Value (r.rt_.length:Int) with
     | false=>rfl
     | true=>
      rw[Eez,an (by simp),mS,aj,aj];cases dj x.ah with
      | false=>rfl
      | true=>
       rw[Eez,an (by simp),mS,aj,aj];cases dj x.Name<;>rfl]
   exact Mu _ _ _;rw[decide_eq_false K,decide_eq_true (by omega)];rfl;rw[decide_eq_false h3,decide_eq_true (by omega)];rfl
theorem Wo {r:ae}(h:Sz.szd r<=1048576):vy r=some (ruleB r):=by
 unfold vy ruleB;rw[kS,aj];cases dj r.Name with
 | false=>rfl
 | true=>
  rw[ao rfl,kS,aj,aj];cases dj r.Left with
  | false=>rfl
  | true=>
   rw[Eez,an (by simp),aj];by_cases h3:r.rt_.length<=3;rw[decide_eq_true h3,decide_eq_false (by omega),an (by simp),aj];by_cases K:r.cs_.length<=2;rw[decide_eq_true K,decide_eq_false (by omega),an (by simp)];rw[gz (c:=false) (q:=dj) λk x hx=>by
    unfold Hv;rw[kS,aj];cases dj x<;>rfl]
   rw[gz (c:=false) (q:=kd (r.rt_.length:Int)) λk x hx=>by
    unfold Hu kd;rw[kS,aj];cases dj x.At.Name with
    | false=>rw[Bool.false_and,Efz];rfl
    | true=>
     rw[ao rfl,gw,aj,aj];cases decide (0<=x.At.Pos/\x.At.Pos<=(r.rt_.length:Int)) with
     | false=>rw[Efz,Efz];rfl
     | true=>
      rw[Eez,an (by simp),E2 (Bgz (pr hx) h),aj,aj];cases gI x.Expr (r.rt_.length:Int)<;>rfl]
   rw[gz (c:=false) (q:=lL (r.rt_.length:Int)) λk x hx=>by
    have hs:=td hx;unfold Ht lL;rw[kS,aj];cases dj x.ah with
    | false=>rw[Bool.false_and,Efz];rfl
    | true=>
     rw[ao rfl,kS,aj,aj];cases dj x.Name with
     | false=>rw[Efz,Efz];rfl
     | true=>
      rw[Eez,an (by simp),E2 (Bgz hs.1 h),aj,aj];cases gI x.Target (r.rt_.length:Int) with
      | false=>rfl
      | true=>
       rw[Eez,an (by simp),E2 (Bgz hs.2 h),aj,aj];cases gI x.Value (r.rt_.length:Int)<;>rfl]
   exact Mu _ _ _;rw[decide_eq_false K,decide_eq_true (by omega)];rfl;rw[decide_eq_false h3,decide_eq_true (by omega)];rfl
def jJ (p:List ah)(x:ah):Bool:=!symB x||dC (λy:ah=>y.Name) p x
def jL (p:List ae)(x:ae):Bool:=!ruleB x||dC (λy:ae=>y.Name) p x
def lS (g:al):Int:=match dQ jJ [] g.ss_ with
 | some k=>(k:Int)
 | none=>match dQ jL [] g.rs_ with
  | some k=>(k:Int)
  | none=>-1
theorem Wn {g:al}(h:Sz.szd g<=1048576):uR g=some (lS g):=by
 unfold uR lS;rw[show findL (yS g) 0 g.ss_ ()=_ from tE (bad:=jJ) (c:=λk=>(k:Int)) (all:=g.ss_) (f:=yS g) (λpre x post e=>by
  unfold yS jJ;rw[VJ,aj];cases symB x with
  | false=>rfl
  | true=>
   rw[ao rfl,aF (by rw[e];simp),show g.ss_.take pre.length=pre by rw[e];simp];unfold zY zF;rw[ll (q:=λo:ah=>decide (o.Name=x.Name)) λk y hy=>by
    unfold Ib zc;rw[aj];by_cases h:y.Name=x.Name;rw[decide_eq_true h];rfl;rw[decide_eq_false h];rfl]
   rw[aj,← apply_ite some];rfl) g.ss_ [] rfl]
 rw[show findL (yR g) 0 g.rs_ ()=_ from tE (bad:=jL) (c:=λk=>(k:Int)) (all:=g.rs_) (f:=yR g) (λpre x post e=>by
  unfold yR jL;rw[Wp (Bgz (ib (by rw[e];simp)) h),aj];cases ruleB x with
  | false=>rfl
  | true=>
   rw[ao rfl,aF (by rw[e];simp),show g.rs_.take pre.length=pre by rw[e];simp];unfold zT zD;rw[ll (q:=λo:ae=>decide (o.Name=x.Name)) λk y hy=>by
    unfold Ia za;rw[aj];by_cases h:y.Name=x.Name;rw[decide_eq_true h];rfl;rw[decide_eq_false h];rfl]
   rw[aj,← apply_ite some];rfl) g.rs_ [] rfl]
 cases dQ jJ [] g.ss_ with
 | some k=>rfl
 | none=>cases dQ jL [] g.rs_<;>rfl
theorem EA {g:al}(h:Sz.szd g<=1048576):g.ss_.length<=1048576/\g.rs_.length<=1048576:=by
 have U:=yi g;have K:=jj g.ss_;have h3:=jj g.rs_;omega
theorem Wm {g:al}(h:Sz.szd g<=1048576):tY g=some (lS g):=by
 have hl:=EA h;unfold tY lS;have U:=(ua (bad:=jJ) (nm:=λy:ah=>y.Name) (c:=λk=>(k:Int)) (all:=g.ss_) (f:=λk x _=>some (if jJ (g.ss_.take k) x=true then .inr (k:Int) else .inl ())) (h:=xP) (λpre x post e=>by
   rw[show g.ss_.take pre.length=pre by rw[e];simp]) (λpre x post e=>by
  unfold xP jJ;rw[VI (gJ h x (by rw[e];simp)),aj];cases symB x with
  | false=>rfl
  | true=>
   have hp:pre.length<=1048576:=by
     have:g.ss_.length=pre.length+(post.length+1):=by rw[e];simp
     omega
   rw[ao rfl,Ec,aj,List.any_map,aF (by rw[bh];constructor<;>omega),Diz,← apply_ite some];rfl) g.ss_ [] rfl).2
 have K:=(ua (bad:=jL) (nm:=λy:ae=>y.Name) (c:=λk=>(k:Int)) (all:=g.rs_) (f:=λk x _=>some (if jL (g.rs_.take k) x=true then .inr (k:Int) else .inl ())) (h:=xO) (λpre x post e=>by
   rw[show g.rs_.take pre.length=pre by rw[e];simp]) (λpre x post e=>by
  unfold xO jL;rw[Wo (Bgz (ib (by rw[e];simp)) h),aj];cases ruleB x with
  | false=>rfl
  | true=>
   have hp:pre.length<=1048576:=by
     have:g.rs_.length=pre.length+(post.length+1):=by rw[e];simp
     omega
   rw[ao rfl,Ec,aj,List.any_map,aF (by rw[bh];constructor<;>omega),Diz,← apply_ite some];rfl) g.rs_ [] rfl).2
 rw[show findL xP 0 g.ss_ []=_ from U,show findL xO 0 g.rs_ []=_ from K];cases dQ jJ [] g.ss_ with
 | some k=>rfl
 | none=>cases dQ jL [] g.rs_<;>rfl
theorem Mt {ρ:Type}{c:ρ}{q:Nat->Bool}{n:Nat}{f:Nat->Unit->Option (Unit ⊕ ρ)}(h:∀ k,k<n->f k ()=some (if q k=true then .inl () else .inr c)):∀ (m k:Nat),k+m=n->findN f k m ()=some (if (Dbz k m).all q=true then .inl () else .inr c)
 | 0,k,_=>rfl
 | m+1,k,hk=>by
  have ih:=Mt h m (k+1) (by omega);rw[findN,h k (by omega),aj];by_cases hq:q k=true;rw[ao hq,show (Dbz k (m+1)).all q=(Dbz (k+1) m).all q by simp[Edz,hq]];exact ih;rw[an hq,show (Dbz k (m+1)).all q=false by simp[Edz,hq]];rfl
theorem K9 {ρ:Type}{c:ρ}{q:Nat->Bool}{n:Nat}{f:Int->Option (Int ⊕ (Unit ⊕ ρ))}(h:∀ k:Nat,k<n->f (k:Int)=some (if q k=true then .inl ((k+1:Nat):Int) else .inr (.inr c)))(he:f (n:Int)=some (.inr (.inl ()))):∀ (m k:Nat),k+m=n->bK f (k:Int)=some (if (Dbz k m).all q=true then .inl () else .inr c)
 | 0,k,hk=>by
  obtain rfl:k=n:=by omega
  exact c9 he
 | m+1,k,hk=>by
  have ih:=K9 h he m (k+1) (by omega);have U:=h k (by omega);by_cases hq:q k=true;rw[ao hq] at U;rw[eS U,show (Dbz k (m+1)).all q=(Dbz (k+1) m).all q by simp[Edz,hq]];exact ih;rw[an hq] at U;rw[c9 U,show (Dbz k (m+1)).all q=false by simp[Edz,hq]];rfl
def qS (g:al)(r:ae):Bool:=(Dbz 0 (r.rt_.length+1)).all λk=>(bM g (cn r (k:Int))).2
theorem YK (g:al){r:ae}(hl:fB r):uj g r=some (!qS g r):=by
 have hl' : r.rt_.length<=1048576:=hl;unfold uj;rw[aF (by constructor<;>omega),Mt (c:=true) (n:=r.rt_.length+1) (q:=λk=>(bM g (cn r (k:Int))).2) (λk hk=>by
  unfold NO;rw[wO hl,aj,pI,aj];dsimp only;rw[← apply_ite some]) (r.rt_.length+1) 0 (by omega)]
 unfold qS;cases (Dbz 0 (r.rt_.length+1)).all λk=>(bM g (cn r (k:Int))).2<;>rfl
theorem YJ {g:al}(h:ee g){r:ae}(hl:fB r):vb g r=some (qS g r):=by
 have hl' : r.rt_.length<=1048576:=hl;unfold vb;have e:=K9 (c:=false) (q:=λk=>(bM g (cn r (k:Int))).2) (n:=r.rt_.length+1) (f:=vx g r) (λk hk=>by
  unfold vx;rw[ao (by omega),mO hl,aj,l7 h,aj];dsimp only;rw[aF (by constructor<;>omega),← apply_ite some];rfl) (by
  unfold vx;rw[an (by omega)]) (r.rt_.length+1) 0 (by omega)
 rw[show bK (vx g r) 0=_ from e];unfold qS;cases (Dbz 0 (r.rt_.length+1)).all λk=>(bM g (cn r (k:Int))).2<;>rfl
theorem Tx (Z6:List Oc)(o:Oc):v7 Z6 o=some (decide (o∈Z6)):=by
 unfold v7 ml;rw[ll (q:=λx=>decide (o=x)) λk x hx=>by
  unfold nE;by_cases h:o=x;rw[ao h,ao (by simpa using h)];rw[an h,an (by simpa using h)]]
 congr 1;by_cases h:o∈Z6;rw[decide_eq_true h,Ehz];exact⟨o,h,by simp⟩;rw[decide_eq_false h,Eiz];intro x hx he;simp at he;exact h (he▸hx)
theorem JH (Z6:List Oc)(o:Oc):rX Z6 o=some (decide (o∈Z6)):=by
 unfold rX;rw[gz (c:=true) (q:=λx=>!decide (x=o)) λk x hx=>by
  unfold Oy;by_cases h:x=o;rw[ao h,an (by simp[h])];rw[an h,ao (by simp[h])]]
 by_cases h:o∈Z6;rw[decide_eq_true h,an];· rfl
 rw[Ejz];intro hh;have:=hh o h;simp at this;rw[decide_eq_false h,ao];· rfl
 rw[Ejz];intro x hx;simp;exact λe=>h (e▸hx)
def oV (r:ae)(o:Oc):Bool:=r.es_.any λq=>decide (q.At=o)
theorem VH (r:ae)(o:Oc):(bI r o).2=oV r o:=by
 unfold bI oV;cases hf:r.es_.find? (λq=>decide (q.At=o)) with
 | none=>rw[List.find?_eq_none] at hf;symm;rw[Eiz];exact hf
 | some q=>symm;rw[Ehz];exact⟨q,List.mem_of_find?_eq_some hf,List.find?_some (p:=λq:ba=>decide (q.At=o)) hf⟩
def wq (g:al)(r:ae):Bool:=(cB g r).any λo=>!oV r o
theorem VG {g:al}(h:ee g){r:ae}(hl:fB r):ui g r=some (wq g r):=by
 unfold ui wq;rw[JI h hl,aj];unfold zZ zP;rw[ll (q:=λo=>!oV r o) λk o ho=>by
  unfold Ic yB Aa zQ;rw[ll (q:=λq:ba=>decide (q.At=o)) λk y hy=>by
   unfold H3 yQ;rw[aj];by_cases h:y.At=o;rw[decide_eq_true h];rfl;rw[decide_eq_false h];rfl]
  rw[aj,aj,← apply_ite some];rfl]
 rfl
theorem VE {g:al}(h:ee g){r:ae}(Z:Sz.szd r<=1048576):uY g r=some (wq g r):=by
 unfold uY wq;rw[EB h (iv Z),aj,gz (c:=true) (q:=oV r) λk o ho=>by
  unfold Hf;rw[Bm Z o,aj];dsimp only;rw[VH,← apply_ite some]]
 have e:((cB g r).all (oV r))=!((cB g r).any λo=>!oV r o):=by rw[wS]
 rw[e];cases (cB g r).any λo=>!oV r o<;>rfl
def sN (g:al)(r:ae):Bool:=(dQ (λp (x:ba)=>!decide (x.At∈cB g r)||p.any λo=>decide (o.At=x.At)) [] r.es_).isSome
theorem Wl {g:al}(h:ee g){r:ae}(hl:fB r):tl g r=some (sN g r):=by
 unfold tl sN;rw[JI h hl,aj];rw[show findL (xy r (cB g r)) 0 r.es_ ()=_ from tE (bad:=λp (x:ba)=>!decide (x.At∈cB g r)||p.any λo=>decide (o.At=x.At)) (c:=λ_=>true) (all:=r.es_) (f:=xy r (cB g r)) (λpre x post e=>by
  unfold xy;rw[Tx,aj];cases decide (x.At∈cB g r) with
  | false=>rfl
  | true=>
   rw[ao rfl,aF (by rw[e];simp),show r.es_.take pre.length=pre by rw[e];simp];unfold zE zz;rw[ll (q:=λo:ba=>decide (o.At=x.At)) λk y hy=>by
    unfold H2 xN;rw[aj];by_cases h:y.At=x.At;rw[decide_eq_true h];rfl;rw[decide_eq_false h];rfl]
   rw[aj,← apply_ite some];rfl) r.es_ [] rfl]
 cases dQ (λp (x:ba)=>!decide (x.At∈cB g r)||p.any λo=>decide (o.At=x.At)) [] r.es_<;>rfl
theorem WN {g:al}(h:ee g){r:ae}(Z:Sz.szd r<=1048576):uD g r=some (sN g r):=by
 have hl:=(I4 Z).1;unfold uD sN;rw[EB h (iv Z),aj];have U:=(ua (bad:=λp (x:ba)=>!decide (x.At∈cB g r)||p.any λo=>decide (o.At=x.At)) (nm:=λy:ba=>y.At) (c:=λ_=>true) (all:=r.es_)
  (f:=λk x _=>some (if (!decide (x.At∈cB g r)||(r.es_.take k).any λo=>decide (o.At=x.At))=true then .inr true else .inl ())) (h:=yG (cB g r)) (λpre x post e=>by
   rw[show r.es_.take pre.length=pre by rw[e];simp]) (λpre x post e=>by
  unfold yG;rw[JH,aj];cases decide (x.At∈cB g r) with
  | false=>rfl
  | true=>
   have hp:pre.length<=1048576:=by
     have:r.es_.length=pre.length+(post.length+1):=by rw[e];simp
     omega
   have e2:decide (x.At∈pre.map λy:ba=>y.At)=pre.any λo=>decide (o.At=x.At):=by
    by_cases hm:x.At∈pre.map λy:ba=>y.At;rw[decide_eq_true hm];symm;rw[Ehz];obtain⟨y,hy,he⟩:=List.mem_map.1 hm;exact⟨y,hy,by simpa using he⟩;rw[decide_eq_false hm];symm;rw[Eiz];intro y hy he;exact hm (List.mem_map.2 ⟨y,hy,by simpa using he⟩)
   rw[ao rfl,JH,aj,e2,aF (by rw[bh];constructor<;>omega),Diz,← apply_ite some];rfl) r.es_ [] rfl).2
 rw[show findL (yG (cB g r)) 0 r.es_ []=_ from U];cases dQ (λp (x:ba)=>!decide (x.At∈cB g r)||p.any λo=>decide (o.At=x.At)) [] r.es_<;>rfl
def dv (g:al)(r:ae)(e:Expr):Bool:=(attrs e).all (fK g r)
theorem E1 {g:al}(h:ee g){r:ae}(hl:fB r){e:Expr}(he:Sz.szd e<=1048576):pS g r e=some (dv g r e):=by
 unfold pS dv;rw[Ft he,aj,gz (c:=false) (q:=fK g r) λk x hx=>by
  unfold NR;rw[Ty h hl,aj,← apply_ite some]]
 cases (attrs e).all (fK g r)<;>rfl
theorem VC (g:al){r:ae}(hl:fB r){e:Expr}(he:Sz.szd e<=1048576):uJ e g r=some (!dv g r e):=by
 unfold uJ dv;rw[Fw he,aj];unfold Ad zW;rw[ll (q:=λo=>!fK g r o) λk o ho=>by
  unfold H5 yP;rw[Tz g hl,aj,aj,← apply_ite some]]
 rw[aj,← wS,Bool.not_not]
def o8 (r:ae):List Expr:=r.es_.map (λq=>q.Expr)++r.cs_.flatMap λq=>[q.Target,q.Value]
theorem VB {r:ae}(Z:Sz.szd r<=1048576):u5 r=some (o8 r):=by
 have hl:=I4 Z;have U:∀ (xs:List ba) (i:Nat) (s:List Expr),s.length+xs.length<=1048576->eachL yZ i xs s=some (s++xs.map λq=>q.Expr):=by
  intro xs
  induction xs with
  | nil=>intro i s _;simp[eachL]
  | cons x xs ih=>
   intro i s hs;simp only[bE] at hs;have e:yZ i x s=some (s++[x.Expr]):=by unfold yZ;rw[aF (by constructor<;>omega)]
   rw[eachL,e,aj,ih _ _ (by simp;omega)];simp
 have K:∀ (xs:List Cn) (i:Nat) (s:List Expr),s.length+2*xs.length<=4194304->eachL yY i xs s=some (s++xs.flatMap λq=>[q.Target,q.Value]):=by
  intro xs
  induction xs with
  | nil=>intro i s _;simp[eachL]
  | cons x xs ih=>
   intro i s hs;simp only[bE] at hs;have e:yY i x s=some (s++[x.Target,x.Value]):=by
    unfold yY;rw[aF (by simp only[bE,List.length_nil];constructor<;>omega)]
   rw[eachL,e,aj,ih _ _ (by simp;omega)];simp
 unfold u5 o8;rw[U _ _ _ (by simpa using hl.1),aj,K _ _ _ (by simp;omega)];simp
theorem Vz {r:ae}{e:Expr}(h:e∈o8 r):Sz.szd e<=Sz.szd r:=by
 unfold o8 at h;rcases List.mem_append.1 h with h|h;obtain⟨q,hq,rfl⟩:=List.mem_map.1 h;exact pr hq;obtain⟨q,hq,he⟩:=List.mem_flatMap.1 h;have:=td hq;simp at he;rcases he with rfl|rfl;exact this.1;exact this.2
def j9 (g:al)(r:ae):Bool:=!(o8 r).all (dv g r)
theorem Tw (g:al){r:ae}(Z:Sz.szd r<=1048576):uh g r=some (j9 g r):=by
 unfold uh j9;rw[VB Z,aj];unfold zC zy;rw[ll (q:=λe=>!dv g r e) λk e he=>by
  unfold H1;rw[VC g (iv Z) (Bgz (Vz he) Z),aj,← apply_ite some]]
 rw[aj,← wS,Bool.not_not]
theorem Tv {g:al}(h:ee g){r:ae}(Z:Sz.szd r<=1048576):uM g r=some (j9 g r):=by
 unfold uM j9;rw[gz (c:=true) (q:=λq:ba=>dv g r q.Expr) λk x hx=>by
  unfold G6;rw[E1 h (iv Z) (Bgz (pr hx) Z),aj,← apply_ite some]]
 rw[gz (c:=true) (q:=λq:Cn=>dv g r q.Target&&dv g r q.Value) λk x hx=>by
  have hs:=td hx;unfold G5;rw[E1 h (iv Z) (Bgz hs.1 Z),aj];cases dv g r x.Target with
  | false=>rfl
  | true=>rw[ao rfl,E1 h (iv Z) (Bgz hs.2 Z),aj,← apply_ite some];rfl]
 have e:(o8 r).all (dv g r)=((r.es_.all λq=>dv g r q.Expr)&&r.cs_.all λq=>dv g r q.Target&&dv g r q.Value):=by
  unfold o8;rw[List.all_append,List.all_map,List.all_flatMap];congr 1;congr 1;funext q;simp
 rw[e];cases r.es_.all λq=>dv g r q.Expr with
 | false=>rfl
 | true=>cases r.cs_.all λq=>dv g r q.Target&&dv g r q.Value<;>rfl
def iG (g:al)(r:ae)(k:Int):Bool:=if k=3 then !qS g r else if k=4 then wq g r else if k=5 then sN g r else j9 g r
theorem WM {g:al}(h:ee g){r:ae}(Z:Sz.szd r<=1048576)(k:Int):uL g r k=some (iG g r k):=by
 unfold uL iG;by_cases h3:k=3;rw[ao h3,ao h3,YJ h (iv Z)];rfl;rw[an h3,an h3];by_cases h4:k=4;rw[ao h4,ao h4,VE h Z];rfl;rw[an h4,an h4];by_cases h5:k=5;rw[ao h5,ao h5,WN h Z];rfl;rw[an h5,an h5,Tv h Z];rfl
theorem Ms {g:al}(h:ee g){r:ae}(Z:Sz.szd r<=1048576)(k:Int)(i:Nat):yO g k i r ()=some (if iG g r k=true then .inr (k,(i:Int)) else .inl ()):=by
 unfold yO iG;by_cases h3:k=3;rw[ao h3,ao h3,YK g (iv Z),aj,← apply_ite some];rw[an h3,an h3];by_cases h4:k=4;rw[ao h4,ao h4,VG h (iv Z),aj,← apply_ite some];rw[an h4,an h4];by_cases h5:k=5;rw[ao h5,ao h5,Wl h (iv Z),aj,← apply_ite some];rw[an h5,an h5,Tw g Z,aj,← apply_ite some]
theorem WK {g:al}(h:ee g){r:ae}(Z:Sz.szd r<=1048576)(k:Int)(i:Nat):yU g k i r ()=some (if iG g r k=true then .inr (k,(i:Int)) else .inl ()):=by
 unfold yU;rw[WM h Z,aj,← apply_ite some]
theorem NJ {α σ ρ:Type}{f g:Nat->α->σ->Option (σ ⊕ ρ)}:∀ {xs:List α} {i:Nat} {s:σ},(∀ k x s,x∈xs->f k x s=g k x s)->findL f i xs s=findL g i xs s
 | [],_,_,_=>rfl
 | x::xs,i,s,h=>by
  rw[findL,findL,h i x s (by simp)];congr 1;funext z;cases z with
  | inl s'=>exact NJ λk y s hy=>h k y s (by simp[hy])
  | inr r=>rfl
theorem YI {g:al}(h:Sz.szd g<=1048576)(k:Int):yT g k=nz g k:=by
 unfold yT nz;have e:findL (yU g k) 0 g.rs_ ()=findL (yO g k) 0 g.rs_ ():=NJ λi x _ hx=>by
  have Z:=Bgz (ib hx) h;rw[WK (gJ h) Z,Ms (gJ h) Z]
 rw[e]
def fv (g:al)(k:Int):Option (Int×Int):=match g.rs_.findIdx? λr=>iG g r k with
 | some i=>some (k,(i:Int))
 | none=>none
theorem tD {α ρ:Type}{q:α->Bool}{c:Nat->ρ}:∀ {xs:List α} {i:Nat} {f:Nat->α->Unit->Option (Unit ⊕ ρ)},(∀ k x,x∈xs->f k x ()=some (if q x=true then .inr (c k) else .inl ())) ->
  findL f i xs ()=some (match xs.findIdx? q with|some j=>.inr (c (i+j))|none=>.inl ())
 | [],_,_,_=>rfl
 | x::xs,i,f,h=>by
  rw[findL,h i x (by simp),aj,List.findIdx?_cons];by_cases hq:q x=true;rw[ao hq,ao hq];rfl;rw[an hq,an hq];have ih:=tD (q:=q) (c:=c) (xs:=xs) (i:=i+1) (f:=f) λk y hy=>h k y (by simp[hy]);dsimp only;rw[ih];cases xs.findIdx? q with
  | none=>rfl
  | some j=>simp only[Option.map_some];rw[show i+1+j=i+(j+1) by omega]
def km (g:al):Int×Int:=
 if !decide (1<=g.ss_.length/\g.ss_.length<=4) || !decide (1<=g.rs_.length/\g.rs_.length<=8) then (1,0)
 else if 0<=lS g then (1,lS g)
 else if (g.ss_.getD 0 zS).as_.any λa=>decide (a.Mode=1) then (2,0)
 else (fv g 3 <|> (fv g 4 <|> (fv g 5 <|> fv g 6))).getD (0,0)
theorem NI {g:al}(h:Sz.szd g<=1048576):(bK (nz g) 3).bind (bg (λr2=>some r2) λ()=>some (0,0))=some ((fv g 3 <|> (fv g 4 <|> (fv g 5 <|> fv g 6))).getD (0,0)):=by
 have hstep:∀ k:Int,3<=k->k<=6->nz g k=match fv g k with|some z=>some (.inr (.inr z))|none=>some (.inl (k+1)):=by
  intro k h3 h6;unfold nz fv;rw[ao h6,tD (q:=λr=>iG g r k) (c:=λi=>(k,(i:Int))) λi x hx=>Ms (gJ h) (Bgz (ib hx) h) k i];cases g.rs_.findIdx? λr=>iG g r k with
  | some i=>simp
  | none=>rw[aj];dsimp only[bg];rw[aF (by constructor<;>omega)]
 have hend:nz g 7=some (.inr (.inl ())):=by unfold nz;rw[an (by omega)]
 have h3:=hstep 3 (by omega) (by omega);have h4:=hstep 4 (by omega) (by omega);have h5:=hstep 5 (by omega) (by omega);have h6:=hstep 6 (by omega) (by omega);cases s3:fv g 3 with
 | some z=>rw[s3] at h3;rw[c9 h3];rfl
 | none=>
  rw[s3] at h3;rw[eS h3,show (3:Int)+1=4 by rfl];cases s4:fv g 4 with
  | some z=>rw[s4] at h4;rw[c9 h4];rfl
  | none=>
   rw[s4] at h4;rw[eS h4,show (4:Int)+1=5 by rfl];cases s5:fv g 5 with
   | some z=>rw[s5] at h5;rw[c9 h5];rfl
   | none=>
    rw[s5] at h5;rw[eS h5,show (5:Int)+1=6 by rfl];cases s6:fv g 6 with
    | some z=>rw[s6] at h6;rw[c9 h6];rfl
    | none=>
     rw[s6] at h6;rw[eS h6,show (6:Int)+1=7 by rfl,c9 hend];rfl
theorem WJ {g:al}(h:Sz.szd g<=1048576):uQ g=some (km g):=by
 unfold uQ km;rw[pa,aj];by_cases U:1<=g.ss_.length/\g.ss_.length<=4;rw[decide_eq_true (by omega),ao rfl,pa,aj,decide_eq_true U];by_cases K:1<=g.rs_.length/\g.rs_.length<=8;rw[decide_eq_true (by omega),ao rfl,Wn h,aj,decide_eq_true K];simp only[Eez,Egz,Dzz,if_false];by_cases h3:0<=lS g;rw[ao h3,ao h3];rw[an h3,an h3,Cwz,Cmz (by omega:0<g.ss_.length),aj,Cbz];unfold Ae zX;rw[ll (q:=λa:aG=>decide (a.Mode=1)) λk y hy=>by
  unfold H6 y0;rw[aj,← apply_ite some]]
 rw[aj];by_cases h4:(g.ss_[0].as_.any λa=>decide (a.Mode=1))=true;rw[ao h4,ao h4];rw[an h4,an h4];exact NI h;rw[decide_eq_false (by omega),decide_eq_false K];rfl;rw[decide_eq_false (by omega),decide_eq_false U];rfl
theorem WI {g:al}(h:Sz.szd g<=1048576):uX g=some (km g):=by
 unfold uX km;rw[gw,aj];by_cases U:1<=g.ss_.length/\g.ss_.length<=4;rw[decide_eq_true (by omega),ao rfl,gw,aj,decide_eq_true U];by_cases K:1<=g.rs_.length/\g.rs_.length<=8;rw[decide_eq_true (by omega),ao rfl,Wm h,aj,decide_eq_true K];simp only[Eez,Egz,Dzz,if_false];by_cases h3:0<=lS g;rw[ao h3,ao h3];rw[an h3,an h3,Cwz,Cmz (by omega:0<g.ss_.length),aj,Cbz];rw[gz (c:=((2:Int),(0:Int))) (q:=λa:aG=>!decide (a.Mode=1)) λk y hy=>by
  unfold He;by_cases hm:y.Mode=1;rw[ao hm,an (by simp[hm])];rw[an hm,ao (by simp[hm])]]
 have e:(g.ss_[0].as_.all λa=>!decide (a.Mode=1))=!(g.ss_[0].as_.any λa=>decide (a.Mode=1)):=by rw[List.not_any_eq_all_not]
 rw[e];cases (g.ss_[0].as_.any λa=>decide (a.Mode=1)) with
 | true=>rfl
 | false=>
  rw[Bool.not_false,ao rfl,aj,mP,an (by simp),show yT g=nz g from funext λk=>YI h k];exact NI h
 rw[decide_eq_false (by omega),decide_eq_false K];rfl;rw[decide_eq_false (by omega),decide_eq_false U];rfl
theorem pM {α:Type}{bad:List α->α->Bool}:∀ (xs pre:List α),dQ bad pre xs=none->∀ k x,xs[k]?=some x->bad (pre++xs.take k) x=false
 | [],pre,h,k,x,hx=>by simp at hx
 | y::xs,pre,h,k,x,hx=>by
  rw[dQ] at h;by_cases Y:bad pre y=true;rw[ao Y] at h;cases h;rw[an Y] at h;cases k with
  | zero=>simp at hx;subst hx;simpa using Y
  | succ k=>
   have:=pM xs (pre++[y]) h k x (by simpa using hx);simpa using this
structure Shape (g:al):Prop where
 syms:1<=g.ss_.length/\g.ss_.length<=4
 rules:1<=g.rs_.length/\g.rs_.length<=8
 sym:dQ jJ [] g.ss_=none
 rule:dQ jL [] g.rs_=none
 brk:∀ k:Int,3<=k->k<=6->∀ r∈g.rs_,iG g r k=false
 oX:∀ y a,g.ss_[0]?=some y->a∈y.as_->a.Mode≠1
theorem K8 {g:al}(h:(km g).1=0):Shape g:=by
 unfold km at h;by_cases U:1<=g.ss_.length/\g.ss_.length<=4;by_cases K:1<=g.rs_.length/\g.rs_.length<=8;rw[decide_eq_true U,decide_eq_true K] at h;simp only[Eez,Egz,Dzz,if_false] at h;by_cases h3:0<=lS g;rw[ao h3] at h;simp at h;rw[an h3] at h;by_cases h4:((g.ss_.getD 0 zS).as_.any λa=>decide (a.Mode=1))=true;rw[ao h4] at h;simp at h;rw[an h4] at h;have hf:dQ jJ [] g.ss_=none/\dQ jL [] g.rs_=none:=by
  unfold lS at h3;cases e1:dQ jJ [] g.ss_ with
  | some k=>rw[e1] at h3;exact absurd (Doz k) h3
  | none=>
   cases e2:dQ jL [] g.rs_ with
   | some k=>rw[e1,e2] at h3;exact absurd (Doz k) h3
   | none=>exact⟨rfl,rfl⟩
 have hk:∀ k:Int,fv g k=none->∀ r∈g.rs_,iG g r k=false:=by
  intro k hk r Z;unfold fv at hk;cases e:g.rs_.findIdx? λr=>iG g r k with
  | some i=>rw[e] at hk;cases hk
  | none=>
   rw[List.findIdx?_eq_none_iff] at e;exact e r Z
 have hc:∀ k:Int,3<=k->∀ z,fv g k=some z->z.1≠0:=by
  intro k h3 z hz;unfold fv at hz;cases e:g.rs_.findIdx? λr=>iG g r k with
  | none=>rw[e] at hz;cases hz
  | some i=>rw[e] at hz;cases hz;show k≠0;omega
 have n3:fv g 3=none:=by
  cases e:fv g 3 with
  | none=>rfl
  | some z=>rw[e] at h;exact absurd h (hc 3 (by omega) z e)
 rw[n3] at h;have n4:fv g 4=none:=by
  cases e:fv g 4 with
  | none=>rfl
  | some z=>rw[e] at h;exact absurd h (hc 4 (by omega) z e)
 rw[n4] at h;have n5:fv g 5=none:=by
  cases e:fv g 5 with
  | none=>rfl
  | some z=>rw[e] at h;exact absurd h (hc 5 (by omega) z e)
 rw[n5] at h;have n6:fv g 6=none:=by
  cases e:fv g 6 with
  | none=>rfl
  | some z=>rw[e] at h;exact absurd h (hc 6 (by omega) z e)
 refine⟨U,K,hf.1,hf.2,λk k3 k6=>?_,λy a hy ha hm=>h4 ?_⟩;have:k=3∨k=4∨k=5∨k=6:=by omega
 rcases this with rfl|rfl|rfl|rfl;exact hk _ n3;exact hk _ n4;exact hk _ n5;exact hk _ n6;rw[Cwz,hy,Ehz];exact⟨a,ha,by simpa using hm⟩;rw[decide_eq_false K] at h;simp at h;rw[decide_eq_false U] at h;simp at h
theorem Shape.ruleB {g:al}(h:Shape g){r:ae}(Z:r∈g.rs_):ruleB r=true:=by
 obtain⟨k,hk⟩:=Ekz Z;have:=pM _ _ h.rule k r hk;unfold jL at this;rw[Dlz] at this;simpa using this.1
theorem Shape.symB {g:al}(h:Shape g){y:ah}(hy:y∈g.ss_):symB y=true:=by
 obtain⟨k,hk⟩:=Ekz hy;have:=pM _ _ h.sym k y hk;unfold jJ at this;rw[Dlz] at this;simpa using this.1
theorem Shape.pos {g:al}(h:Shape g){r:ae}(Z:r∈g.rs_){q:ba}(hq:q∈r.es_):0<=q.At.Pos/\q.At.Pos<=(r.rt_.length:Int):=by
 have:=h.ruleB Z;unfold Go.Proofs.YtodhafdaelcnlaaGreat.ruleB at this;simp only[Bool.and_eq_true,Ejz] at this;have:=this.2.2.2.1 q hq;unfold kd at this;simp only[Bool.and_eq_true,decide_eq_true_eq] at this;exact this.2.2
def mZ (g:al)(r:ae)(k n p t:Int)(sy nm:ar)(ts:List Int):Int:=
 if k=1 then t else if k=2 then (if r.ll_=true then 1 else 0) else if k=3 then (gv g r ⟨p,nm⟩).1.t__
 else if k=4 then (if ts.length=2/\ts.getD 0 0=(opT n).1/\ts.getD 1 0=(opT n).2.1 then (opT n).2.2 else 0)
 else if k=5 then (if ts.length=3/\ts.getD 0 0=3/\ts.getD 1 0=ts.getD 2 0 then ts.getD 1 0 else 0)
 else if k=6 then (if 0<=p/\p<=(r.rt_.length:Int) then 4 else 0) else if k=7 then 4
 else if k=8 then (if ts.length=1/\ts.getD 0 0=4 then (eY (bM g sy).1 nm).1.t__ else 0) else 0
mutual
def bZ (g:al)(r:ae):Expr->Int
 | ⟨k,n,p,t,sy,nm,a⟩=>mZ g r k n p t sy nm (Az g r a)
def Az (g:al)(r:ae):List Expr->List Int
 | []=>[]
 | x::xs=>bZ g r x::Az g r xs
end
theorem K7 (g:al)(r:ae):∀ l,Az g r l=l.map (bZ g r)
 | []=>rfl
 | x::xs=>by rw[Az,K7 g r xs];rfl
theorem J1 (g:al)(r:ae)(e:Expr):bZ g r e=mZ g r e.Kind e.N e.Pos e.t__ e.ah e.Name (e.Args.map (bZ g r)):=by
 cases e;rw[bZ,K7]
theorem LX {y:ah}{s:ar}(h:(eY y s).2≠true):(eY y s).1=zA:=by
 unfold eY at h ⊢;cases hf:y.as_.find? (λa=>decide (a.Name=s)) with
 | none=>rfl
 | some a=>rw[hf] at h;exact absurd rfl h
theorem Ez {g:al}(h:ee g)(s nm:ar):qf g s nm=some (eY (bM g s).1 nm).1.t__:=by
 unfold qf;rw[l7 h,aj]
 try dsimp only
 rw[xp,aj]
 try dsimp only
 by_cases Y:(eY (bM g s).1 nm).2=true;rw[ao Y];rw[an Y,LX Y];rfl
theorem Vy (g:al){r:ae}(hl:fB r)(e:Expr):∀ m,dL e<=m->Sz.szd e<=1048576->qd m g r e=some (bZ g r e):=by
 induction e using lX with
 | h e ih=>
  intro m hm hs;obtain⟨m,rfl⟩:∃ q,m=q+1:=⟨m-1,by have:=kM e;omega⟩
  show uP (qd m) g r e=_;have hlen:e.Args.length<=1048576:=by have:=fQ e;have:=jj e.Args;omega
  have hloop:∀ (xs:List Expr) (i:Nat) (s:List Int),(∀ x∈xs,x∈e.Args)->s.length+xs.length<=1048576->eachL (yN (qd m) g r) i xs s=some (s++xs.map (bZ g r)):=by
   intro xs
   induction xs with
   | nil=>intro i s _ _;simp[eachL]
   | cons x xs ihx=>
    intro i s hx hn;simp only[bE] at hn;have e1:yN (qd m) g r i x s=some (s++[bZ g r x]):=by
     unfold yN;have hxe:=hx x (by simp);rw[ih x hxe m (by have:=kn hxe;omega) (by have:=Ja hxe;omega),aj,aF (by constructor<;>omega)]
    rw[eachL,e1,aj,ihx _ _ (λy hy=>hx y (by simp[hy])) (by simp;omega)];simp
  unfold uP;rw[hloop e.Args 0 [] (λ_ h=>h) (by simpa using hlen),aj,List.nil_append,J1];generalize e.Args.map (bZ g r)=ts;unfold mZ;by_cases k1:e.Kind=1;rw[ao k1,ao k1];rw[an k1,an k1];by_cases k2:e.Kind=2;rw[ao k2,ao k2,aj];by_cases hL:r.ll_=true;rw[ao hL,ao hL];rw[an hL,an hL];simp[k2];rw[an k2,an k2,aj,an (by simp)];by_cases k3:e.Kind=3;rw[ao k3,ao k3,F9 g hl];rfl;rw[an k3,an k3];by_cases k4:e.Kind=4;rw[ao k4,ao k4,aj];by_cases hn:ts.length=2;obtain⟨a,b,rfl⟩:∃ a b,ts=[a,b]:=by
   match ts,hn with
   | [a,b],_=>exact⟨a,b,rfl⟩
  rw[ao (by simp),Uq,aj];simp only[Elz,Apz,aj,Emz,Enz];by_cases ha:a=(opT e.N).1;rw[ao ha,aj];by_cases Y:b=(opT e.N).2.1;rw[ao (by simp[Y]),ao ⟨hn,ha,Y⟩];rw[an (by simp[Y]),an λh=>Y h.2.2];rw[an ha,aj,an (by simp),an λh=>ha h.2.1];have hz:(if ts.length=2/\ts.getD 0 0=(opT e.N).1/\ts.getD 1 0=(opT e.N).2.1 then (opT e.N).2.2 else 0)=0:=an λh=>hn h.1;rw[hz,an (by simp;omega)];simp[k4];rw[an k4,an k4,aj,an (by simp)];by_cases k5:e.Kind=5;rw[ao k5,ao k5,aj];by_cases hn:ts.length=3;obtain⟨a,b,c,rfl⟩:∃ a b c,ts=[a,b,c]:=by
   match ts,hn with
   | [a,b,c],_=>exact⟨a,b,c,rfl⟩
  rw[ao (by simp)];simp only[Elz,Apz,aj,Emz,Enz];by_cases ha:a=3;rw[ao ha];by_cases Y:b=c;rw[ao Y,ao ⟨hn,ha,Y⟩];rw[an Y,an λh=>Y h.2.2];rw[an ha,an λh=>ha h.2.1];have hz:(if ts.length=3/\ts.getD 0 0=3/\ts.getD 1 0=ts.getD 2 0 then ts.getD 1 0 else 0)=0:=an λh=>hn h.1;rw[hz,an (by simp;omega)];simp[k5];rw[an k5,an k5,aj,an (by simp)];by_cases k6:e.Kind=6;rw[ao k6,ao k6,pa,aj,aj];by_cases hp:0<=e.Pos/\e.Pos<=(r.rt_.length:Int);rw[decide_eq_true hp,ao hp];rfl;rw[decide_eq_false hp,an hp];simp[k6];rw[an k6,an k6,aj,an (by simp),aj];by_cases k7:e.Kind=7;rw[ao (by simp[k7]),ao k7];rw[an (by simp[k7]),an k7];by_cases k8:e.Kind=8;rw[ao k8,ao k8,aj];by_cases hn:ts.length=1;obtain⟨a,rfl⟩:∃ a,ts=[a]:=by
   match ts,hn with
   | [a],_=>exact⟨a,rfl⟩
  rw[ao (by simp)];simp only[Elz,aj,Emz];by_cases ha:a=4;rw[ao (by simp[ha]),ao ⟨hn,ha⟩,pI,aj]
  try dsimp only
  rw[xq];rfl;rw[an (by simp[ha]),an λh=>ha h.2];rw[an (by simp;omega),an λh=>hn h.1];rfl;rw[an k8,an k8];rfl
theorem Ey (g:al){r:ae}(hl:fB r){e:Expr}(hs:Sz.szd e<=1048576):uO g r e=some (bZ g r e):=iu (dL e) λm hm=>Vy g hl e m hm hs
theorem Vx {g:al}(h:ee g){r:ae}(hl:fB r)(e:Expr):∀ m,dL e<=m->sg m g r e=some (bZ g r e):=by
 induction e using lX with
 | h e ih=>
  intro m hm;obtain⟨m,rfl⟩:∃ q,m=q+1:=⟨m-1,by have:=kM e;omega⟩
  show uW (sg m) g r e=_;have hx:∀ x∈e.Args,sg m g r x=some (bZ g r x):=λx hxe=>ih x hxe m (by have:=kn hxe;omega);unfold uW;rw[J1];unfold mZ;by_cases k1:e.Kind=1;rw[ao k1,ao k1];rw[an k1,an k1];by_cases k2:e.Kind=2;rw[ao k2,ao k2,← apply_ite some];rw[an k2,an k2];by_cases k3:e.Kind=3;rw[ao k3,ao k3,gw,aj];unfold gv;by_cases hp:0<=e.Pos/\e.Pos<=(r.rt_.length:Int);rw[ao (by simpa using hp),ao hp,mO hl,aj,Ez h];rfl;rw[an (by simpa using hp),an hp];rfl;rw[an k3,an k3];by_cases k4:e.Kind=4;rw[ao k4,ao k4];unfold A8;rw[Up,aj]
  try dsimp only
  by_cases hn:e.Args.length=2;obtain⟨a,b,hab⟩:∃ a b,e.Args=[a,b]:=by
   match e.Args,hn with
   | [a,b],_=>exact⟨a,b,rfl⟩
  rw[hab] at hx;rw[hab,ao (by simp)];simp only[Elz,Apz,aj,Blz,Dpz,Emz,Enz];rw[hx a (by simp),aj];by_cases ha:bZ g r a=(opT e.N).1;rw[ao ha,hx b (by simp),aj];by_cases Y:bZ g r b=(opT e.N).2.1;rw[ao Y,ao ⟨by simp,ha,Y⟩];rfl;rw[an Y,an λh=>Y h.2.2];rfl;rw[an ha,an λh=>ha h.2.1];rfl;rw[an (by omega),an λh=>hn (by simpa using h.1)];rfl;rw[an k4,an k4];by_cases k5:e.Kind=5;rw[ao k5,ao k5];unfold A7;by_cases hn:e.Args.length=3;obtain⟨a,b,c,hab⟩:∃ a b c,e.Args=[a,b,c]:=by
   match e.Args,hn with
   | [a,b,c],_=>exact⟨a,b,c,rfl⟩
  rw[hab] at hx;rw[hab,ao (by simp)];simp only[Elz,Apz,aj,Blz,Dpz,Emz,Enz];rw[hx a (by simp),aj];by_cases ha:bZ g r a=3;rw[ao ha,hx b (by simp),aj,hx c (by simp),aj];by_cases Y:bZ g r b=bZ g r c;rw[ao Y,ao ⟨by simp,ha,Y⟩];rfl;rw[an Y,an λh=>Y h.2.2];rfl;rw[an ha,an λh=>ha h.2.1];rfl;rw[an (by omega),an λh=>hn (by simpa using h.1)];rfl;rw[an k5,an k5];by_cases k6:e.Kind=6;rw[ao k6,ao k6,gw,aj];by_cases hp:0<=e.Pos/\e.Pos<=(r.rt_.length:Int);rw[ao (by simpa using hp),ao hp];rw[an (by simpa using hp),an hp];rw[an k6,an k6];by_cases k7:e.Kind=7;rw[ao k7,ao k7];rw[an k7,an k7];by_cases k8:e.Kind=8;rw[ao k8,ao k8];by_cases hn:e.Args.length=1;obtain⟨a,hab⟩:∃ a,e.Args=[a]:=by
   match e.Args,hn with
   | [a],_=>exact⟨a,rfl⟩
  rw[hab] at hx;rw[hab,ao (by simp)];simp only[Elz,aj,Blz,Dpz,Emz];rw[hx a (by simp),aj];by_cases ha:bZ g r a=4;rw[ao ha,ao ⟨by simp,ha⟩,Ez h];rfl;rw[an ha,an λh=>ha h.2];rw[an (by omega),an λh=>hn (by simpa using h.1)];rw[an k8,an k8]
theorem Ex {g:al}(h:ee g){r:ae}(hl:fB r)(e:Expr):uV g r e=some (bZ g r e):=iu (dL e) λm hm=>Vx h hl e m hm
def jo (g:al)(r:ae)(q:Cn):Bool:=(decide (bZ g r q.Target=4)&&decide (bZ g r q.Value=2))&&decide ((eY (bM g q.ah).1 q.Name).1.Mode=3)
def fW (g:al)(r:ae):Bool:=(r.es_.all λq=>decide (bZ g r q.Expr=(gv g r q.At).1.t__))&&r.cs_.all (jo g r)
theorem Vw (g:al){r:ae}(Z:Sz.szd r<=1048576):uA g r=some (!fW g r):=by
 have hl:=iv Z;unfold uA fW;rw[gz (c:=true) (q:=λq:ba=>decide (bZ g r q.Expr=(gv g r q.At).1.t__)) λk x hx=>by
  unfold Ow;rw[F9 g hl,aj]
  try dsimp only
  rw[Ey g hl (Bgz (pr hx) Z),aj];by_cases hp:bZ g r x.Expr=(gv g r x.At).1.t__;rw[ao hp,ao (by simpa using hp)];rw[an hp,an (by simpa using hp)]]
 rw[gz (c:=true) (q:=jo g r) λk x hx=>by
  have hs:=td hx;unfold Ov jo;rw[pI,aj]
  try dsimp only
  rw[xq,aj]
  try dsimp only
  rw[Ey g hl (Bgz hs.1 Z),aj];by_cases U:bZ g r x.Target=4;rw[ao U,Ey g hl (Bgz hs.2 Z),aj,aj,decide_eq_true U];cases decide (bZ g r x.Value=2) with
  | false=>rfl
  | true=>
   rw[Eez,an (by simp),aj];cases decide ((eY (bM g x.ah).1 x.Name).1.Mode=3)<;>rfl
  rw[an U,decide_eq_false U];rfl]
 cases r.es_.all λq=>decide (bZ g r q.Expr=(gv g r q.At).1.t__) with
 | false=>rfl
 | true=>cases r.cs_.all (jo g r)<;>rfl
theorem Vv {g:al}(h:ee g){r:ae}(Z:Sz.szd r<=1048576)(hp:∀ q∈r.es_,0<=q.At.Pos/\q.At.Pos<=(r.rt_.length:Int)):um g r=some (fW g r):=by
 have hl:=iv Z;unfold um fW;rw[gz (c:=false) (q:=λq:ba=>decide (bZ g r q.Expr=(gv g r q.At).1.t__)) λk x hx=>by
  unfold NQ;rw[Ex h hl,aj,mO hl,aj,Ez h,aj];have e:(eY (bM g (cn r x.At.Pos)).1 x.At.Name).1.t__=(gv g r x.At).1.t__:=by unfold gv;rw[ao (hp x hx)]
  rw[e];by_cases hp:bZ g r x.Expr=(gv g r x.At).1.t__;rw[ao hp,ao (by simpa using hp)];rw[an hp,an (by simpa using hp)]]
 rw[gz (c:=false) (q:=jo g r) λk x hx=>by
  unfold NP jo;rw[l7 h,aj]
  try dsimp only
  rw[xp,aj]
  try dsimp only
  have e:(if (eY (bM g x.ah).1 x.Name).2=true then some (!decide ((eY (bM g x.ah).1 x.Name).1.Mode=3)) else some true)=some (!decide ((eY (bM g x.ah).1 x.Name).1.Mode=3)):=by
   by_cases Y:(eY (bM g x.ah).1 x.Name).2=true;rw[ao Y];rw[an Y,LX Y];rfl
  rw[e,aj];cases decide ((eY (bM g x.ah).1 x.Name).1.Mode=3) with
  | false=>rw[Efz];rfl
  | true=>
   rw[Eez,an (by simp),Ex h hl,aj,aj];cases decide (bZ g r x.Target=4) with
   | false=>rfl
   | true=>
    rw[Eez,an (by simp),Ex h hl,aj,aj];cases decide (bZ g r x.Value=2)<;>rfl]
 cases r.es_.all λq=>decide (bZ g r q.Expr=(gv g r q.At).1.t__) with
 | false=>rfl
 | true=>cases r.cs_.all (jo g r)<;>rfl
end Go.Proofs.YtodhafdaelcnlaaGreat
