/- What those partial functions come to: plain lemmas on data; each bears its conditions in its statement. -/
import Derived.Test.YtodhafdaelcnlaaGreatMath2
set_option linter.unusedVariables false
set_option linter.unusedSimpArgs false
set_option linter.ambiguousOpen false
set_option linter.unusedSectionVars false
set_option linter.unnecessarySimpa false
open List renaming length_nil->Dyz,mem_of_find?_eq_some->Ecz,nil_append->Edz,getElem?_eq_getElem->Cmz,range'->Dbz,range'_succ->Eez,length_append->Axz,replicate->Bqz
open Bool renaming not_true->Efz
namespace Go.Proofs.YtodhafdaelcnlaaGreat
open Go Go.E
theorem pa {α ρ:Type}{p:α->Bool}{r:α->ρ}:∀ {xs:List α} {i:Nat} {f:Nat->α->Unit->Option (Unit ⊕ ρ)},(∀ k x,x∈xs->(p x=true->f k x ()=some (.inr (r x)))/\(p x=false->f k x ()=some (.inl ()))) ->
  findL f i xs ()=some (match xs.find? p with|some x=>.inr (r x)|none=>.inl ())
 | [],_,_,_=>rfl
 | x::xs,i,f,h=>by
  have h0:=h i x (by simp);cases hp:p x with
  | true=>simp[findL,h0.1 hp,List.find?,hp]
  | false=>
   have ih:=pa (p:=p) (r:=r) (xs:=xs) (i:=i+1) (f:=f) λk y hy=>h k y (by simp[hy]);simp[findL,h0.2 hp,List.find?,hp,ih]
theorem rq {α β:Type}{p:α->Bool}{g:Nat->α->β}{B:Nat}{f:Nat->α->List β->Option (List β)}(hf:∀ k x s,s.length<B->f k x s=some (if p x=true then s++[g k x] else s)):∀ (xs:List α) (i:Nat) (s:List β),s.length+xs.length<=B ->
  ∃ ys,eachL f i xs s=some (s++ys)/\ys.length<=xs.length
 | [],i,s,_=>⟨[],by simp[eachL],by simp⟩
 | x::xs,i,s,h=>by
  simp only[bH] at h;by_cases hp:p x=true;obtain⟨ys,U,W⟩:=rq hf xs (i+1) (s++[g i x]) (by simp;omega);exact⟨g i x::ys,by simp[eachL,hf i x s (by omega),hp,U],by simp;omega⟩;obtain⟨ys,U,W⟩:=rq hf xs (i+1) s (by omega);exact⟨ys,by simp[eachL,hf i x s (by omega),hp,U],by simp;omega⟩
theorem fQ (x lo hi:Int):cW x lo hi=some (decide (lo<=x/\x<=hi)):=by
 unfold cW;split<;>simp_all<;>omega
theorem oD (x lo hi:Int):dC x lo hi=some (decide (lo<=x/\x<=hi)):=by
 unfold dC;split<;>simp_all<;>omega
theorem FG (r:aa)(k:Int):kQ r k=iG r k:=by
 unfold kQ iG;rw[fQ,oD]
def so (a:aH):Bool:=decide (a.Mode=1∨a.Mode=2)
theorem Ma:Hg=pJ:=rfl
theorem GG:mY=pI:=rfl
theorem We {g:ak}(h:∀ y∈g.ss_,y.as_.length<=1048576)(s:an):∃ y b,iF g s=some (y,b)/\km g s=some (y,b)/\y.as_.length<=1048576:=by
 have U:=pa (p:=λy:af=>decide (y.Name=s)) (r:=λy=>(y,true)) (xs:=g.ss_) (i:=0) (f:=u5 s) λk y hy=>by
  have hg:pw y=some y:=by
   unfold pw;have:=h y hy;rw[aD (by simp only[Dyz];constructor<;>omega)]
  unfold u5;rw[hg];constructor<;>intro hp<;>simp_all
 have W:=pa (p:=λy:af=>decide (y.Name=s)) (r:=λy=>(y,true)) (xs:=g.ss_) (i:=0) (f:=uT s) λk y hy=>by
  unfold uT;constructor<;>intro hp<;>simp_all
 unfold iF km;rw[U,W];cases hf:g.ss_.find? (λy:af=>decide (y.Name=s)) with
 | none=>exact⟨_,_,rfl,rfl,by simp⟩
 | some y=>exact⟨_,_,rfl,rfl,h y (Ecz hf)⟩
theorem tq {g:ak}(h:∀ y∈g.ss_,y.as_.length<=1048576)(s:an):∃ l,nW g s=some l/\kZ g s=some l/\l.length<=1048576:=by
 obtain⟨y,b,U,W,h3⟩:=We h s;obtain⟨l,h4,h5⟩:=rq (p:=so) (g:=λ_ x=>x) (B:=1048577) (f:=pJ) (λk x s hs=>by
  have hg:((s.length:Int)+1)*40<=140737488355328/\(s.length:Int)+1<=9223372036854775807:=by constructor<;>omega
  unfold pJ so;rw[aD hg];by_cases m1:x.Mode=1;rw[ao m1,ao (by simp[m1])];rfl;rw[al m1];by_cases m2:x.Mode=2;rw[ao m2,ao (by simp[m2])];rfl;rw[al m2,al (by simp[m1,m2])];rfl) y.as_ 0 [] (by simp;omega)
 simp only[Edz] at h4;refine⟨l,?_,?_,by omega⟩;unfold nW;rw[U];dsimp only[aj];rw[h4];rfl;unfold kZ;rw[W];dsimp only[aj];rw[Ma,h4];rfl
theorem L9 (r:aa)(k:Nat)(hk:k<=r.rt_.length)(hl:r.rt_.length<=1048576):∃ x,iG r (k:Int)=some x:=by
 unfold iG;by_cases h0:(k:Int)=0;exact⟨_,ao h0⟩;rw[al h0,fQ,aj,ao (by simp;omega),aD (by constructor<;>omega),aD (by omega)];obtain⟨x,hx⟩:∃ x,r.rt_[((k:Int)-1).toNat]?=some x:=⟨_,Cmz (by omega)⟩
 exact⟨x,by rw[hx];rfl⟩
theorem Wd (k:Nat)(B:Nat)(hB:B<=4398046511104):∀ (l:List aH) (i:Nat) (s:List Oc),s.length+l.length<=B->∃ ys,eachL (nU k) i l s=some (s++ys)/\ys.length<=l.length:=λl i s h=>
 rq (p:=λ_=>true) (g:=λ_ x=>(⟨(k:Int),x.Name⟩:Oc)) (B:=B) (f:=nU k) (λj x s hs=>by
  have hg:((s.length:Int)+1)*24<=140737488355328/\(s.length:Int)+1<=9223372036854775807:=by constructor<;>omega
  unfold nU;rw[aD hg,ao rfl]) l i s h
theorem J5 (k:Nat):Hc (k:Int)=nU k:=rfl
theorem AA {g:ak}{r:aa}(h:∀ y∈g.ss_,y.as_.length<=1048576)(Z:r.rt_.length<=1048576):∃ l,mZ g r=some l/\kV g r=some l/\l.length<=1099512676352:=by
 have key:∀ m k (s:List Oc),k+m=r.rt_.length+1->s.length<=k*1048576->∃ l,eachN (jO g r) k m s=some l/\bE (lY g r) (s,(k:Int))=some l/\l.length<=(k+m)*1048576:=by
  intro m
  induction m with
  | zero=>
   intro k s hk hs;refine⟨s,rfl,db ?_,by simpa using hs⟩;unfold lY;dsimp only;rw[al (by omega)]
  | succ m ih=>
   intro k s hk hs;obtain⟨x,hx⟩:=L9 r k (by omega) Z;obtain⟨p,hp1,hp2,hp3⟩:=tq h x;obtain⟨ys,hy1,hy2⟩:=Wd k 4398046511104 (by omega) p 0 s (by omega);obtain⟨l,U,W,h3⟩:=ih (k+1) (s++ys) (by omega) (by simp;omega);refine⟨l,?_,?_,by rw[show k+(m+1)=k+1+m by omega];exact h3⟩;have e:jO g r k s=some (s++ys):=by
    unfold jO;rw[FG,hx,aj,hp2,aj,hy1];rfl
   simp only[eachN,e,aj];exact U;have e:lY g r (s,(k:Int))=some (.inl (s++ys,((k+1:Nat):Int))):=by
    unfold lY;dsimp only;rw[ao (by omega),hx,aj,hp1,aj,J5,hy1,aj,aD (by constructor<;>omega)];rfl
   rw[fi e];exact W
 obtain⟨l,U,W,h3⟩:=key (r.rt_.length+1) 0 [] (by omega) (by simp);refine⟨l,?_,?_,by omega⟩;unfold mZ;have e:bE (lY g r) (([]:List Oc),0)=some l:=W;rw[e];rfl;unfold kV;rw[aD (by constructor<;>omega),U];rfl
theorem U8 {g:ak}{r:aa}(k:Int)(h:∀ y∈g.ss_,y.as_.length<=1048576)(Z:r.rt_.length<=1048576):∃ l,pH g r k=some l/\lZ g r k=some l/\l.length<=1099512676352:=by
 obtain⟨o,U,W,h3⟩:=AA h Z;obtain⟨l,h4,h5⟩:=rq (p:=λx:Oc=>decide (x.Pos=k)) (g:=λi _=>((i:Nat):Int)) (B:=4398046511104) (f:=pI k) (λi x s hs=>by
  have hg:((s.length:Int)+1)*8<=140737488355328/\(s.length:Int)+1<=9223372036854775807:=by constructor<;>omega
  unfold pI;rw[aD hg];by_cases m1:x.Pos=k;rw[ao m1,ao (by simp[m1])];rfl;rw[al m1,al (by simp[m1])];rfl) o 0 [] (by simp;omega)
 simp only[Edz] at h4;refine⟨l,?_,?_,by omega⟩;unfold pH;rw[U];dsimp only[aj];rw[h4];rfl;unfold lZ;rw[W];dsimp only[aj];rw[GG,h4];rfl
theorem Aq {α:Type}[Sz α]{x:α}:∀ {l:List α},x∈l->Sz.szd x<=bP l
 | [],h=>by simp at h
 | y::l,h=>by
  rcases List.mem_cons.1 h with rfl|h;simp only[bP];omega;have:=Aq h;simp only[bP];omega
theorem iP {g:ak}(h:Sz.szd g<=1048576):∀ y∈g.ss_,y.as_.length<=1048576:=λy hy=>by
 have U:=Aq hy;have W:=Mi y;have h3:=xF g;have h4:=gG y.as_;omega
theorem iB {r:aa}(h:Sz.szd r<=1048576):r.rt_.length<=1048576:=by
 have U:=nE r;have W:=gG r.rt_;omega
theorem NF {α σ:Type}{f:Nat->α->σ->Option σ}:∀ (xs ys:List α) (i:Nat) (s:σ),eachL f i (xs++ys) s=(eachL f i xs s).bind λt=>eachL f (i+xs.length) ys t
 | [],ys,i,s=>rfl
 | x::xs,ys,i,s=>by
  simp only[List.cons_append,eachL];cases f i x s with
  | none=>rfl
  | some t=>simp only[aj];rw[NF xs ys (i+1) t,bH,show i+1+xs.length=i+(xs.length+1) by omega]
theorem td (k:Nat):∀ (l:List aH) (i:Nat) (s:List Oc),s.length+l.length<=4398046511104->eachL (nU k) i l s=some (s++l.map λx=>(⟨(k:Int),x.Name⟩:Oc))
 | [],i,s,_=>by simp[eachL]
 | x::l,i,s,h=>by
  simp only[bH] at h;have hg:((s.length:Int)+1)*24<=140737488355328/\(s.length:Int)+1<=9223372036854775807:=by constructor<;>omega
  have e:nU k i x s=some (s++[(⟨(k:Int),x.Name⟩:Oc)]):=by unfold nU;rw[aD hg]
  simp only[eachL,e,aj];rw[td k l (i+1) _ (by simp;omega)];simp
theorem S0 {g:ak}{r:aa}(h:∀ y∈g.ss_,y.as_.length<=1048576)(Z:r.rt_.length<=1048576){l:List aH}{o:List Oc}(hl:kZ g r.Left=some l)(ho:kV g r=some o) :
  ∃ ys,o=(l.map λx=>(⟨0,x.Name⟩:Oc))++ys:=by
 have key:∀ m k (s:List Oc),k+m=r.rt_.length+1->s.length<=k*1048576->∀ q,eachN (jO g r) k m s=some q->∃ ys,q=s++ys:=by
  intro m
  induction m with
  | zero=>intro k s _ _ q hq;cases hq;exact⟨[],by simp⟩
  | succ m ih=>
   intro k s hk hs q hq;obtain⟨x,hx⟩:=L9 r k (by omega) Z;obtain⟨p,hp1,hp2,hp3⟩:=tq h x;have hy:=td k p 0 s (by omega);have e:jO g r k s=some (s++p.map λx=>(⟨(k:Int),x.Name⟩:Oc)):=by
    unfold jO;rw[FG,hx,aj,hp2,aj,hy];rfl
   simp only[eachN,e,aj] at hq;obtain⟨ys,hys⟩:=ih (k+1) _ (by omega) (by simp;omega) q hq;exact⟨_,by rw[hys,List.append_assoc]⟩
 unfold kV at ho;rw[aD (by constructor<;>omega)] at ho;have e1:eachN (jO g r) 0 (r.rt_.length+1) []=some o:=by
  cases hq:eachN (jO g r) 0 (r.rt_.length+1) [] with
  | none=>rw[hq] at ho;cases ho
  | some q=>rw[hq] at ho;exact ho
 have hl3:l.length<=1048576:=by
  obtain⟨p,_,W,h3⟩:=tq h r.Left;rw[hl] at W;cases W;exact h3
 have hx:kQ r ((0:Nat):Int)=some r.Left:=by unfold kQ;exact ao rfl
 have e:jO g r 0 []=some ([]++l.map λx=>(⟨((0:Nat):Int),x.Name⟩:Oc)):=by
  unfold jO;rw[hx,aj,hl,aj,td 0 l 0 [] (by simp;omega)];rfl
 simp only[eachN,e,aj] at e1;obtain⟨ys,hys⟩:=key r.rt_.length 1 _ (by omega) (by simp;omega) o e1;exact⟨ys,by simpa using hys⟩
theorem JC:∀ (xs:List Oc) (i:Nat) (s:List Int),s.length+xs.length<=4398046511104->(∀ x∈xs,x.Pos=0)->eachL (mY 0) i xs s=some (s++(Dbz i xs.length).map λ(j:Nat)=>(j:Int))
 | [],i,s,_,_=>by simp[eachL]
 | x::xs,i,s,h,h0=>by
  simp only[bH] at h;have hg:((s.length:Int)+1)*8<=140737488355328/\(s.length:Int)+1<=9223372036854775807:=by constructor<;>omega
  have e:mY 0 i x s=some (s++[(i:Int)]):=by
   unfold mY;rw[ao (h0 x (by simp)),aD hg];rfl
  simp only[eachL,e,aj];rw[JC xs (i+1) _ (by simp;omega) λy hy=>h0 y (by simp[hy])];simp[Eez]
theorem SZ {g:ak}{r:aa}(h:∀ y∈g.ss_,y.as_.length<=1048576)(Z:r.rt_.length<=1048576){l:List aH}{y:List Int}(hl:kZ g r.Left=some l)(hy:lZ g r 0=some y):∀ k:Nat,k<l.length->y[k]?=some (k:Int):=by
 obtain⟨o,_,ho,ho3⟩:=AA h Z;obtain⟨ys,hys⟩:=S0 h Z hl ho;have hl3:l.length<=1048576:=by
  obtain⟨p,_,W,h3⟩:=tq h r.Left;rw[hl] at W;cases W;exact h3
 unfold lZ at hy;rw[ho,aj] at hy;have hy' : eachL (mY 0) 0 o []=some y:=by
  cases hq:eachL (mY 0) 0 o [] with
  | none=>rw[hq] at hy;cases hy
  | some q=>rw[hq] at hy;exact hy
 have hlen:=congrArg List.length hys;simp only[Axz,bn] at hlen;rw[hys,NF,JC _ 0 [] (by simp;omega) (by intro x hx;obtain⟨a,_,rfl⟩:=List.mem_map.1 hx;rfl),aj] at hy';obtain⟨zs,h4,h5⟩:=rq (p:=λx:Oc=>decide (x.Pos=0)) (g:=λi _=>((i:Nat):Int)) (B:=4398046511104) (f:=mY 0) (λi x s hs=>by
  have hg:((s.length:Int)+1)*8<=140737488355328/\(s.length:Int)+1<=9223372036854775807:=by constructor<;>omega
  unfold mY;rw[aD hg];by_cases m1:x.Pos=0;rw[ao m1,ao (by simp[m1])];rfl;rw[al m1,al (by simp[m1])];rfl) ys (0+(l.map λx=>(⟨0,x.Name⟩:Oc)).length) ([]++(Dbz 0 (l.map λx=>(⟨0,x.Name⟩:Oc)).length).map λ(j:Nat)=>(j:Int)) (by simp;omega)
 rw[h4] at hy';cases hy';intro k hk;rw[List.getElem?_append_left (by simpa using hk)];simp[hk]
theorem FF {α σ:Type}{P:σ->Prop}{f g:Nat->α->σ->Option σ}:∀ (xs:List α) (i:Nat) (s:σ),P s->(∀ k x s,k<i+xs.length->x∈xs->P s->∃ s',f k x s=some s'/\g k x s=some s'/\P s')->∃ s',eachL f i xs s=some s'/\eachL g i xs s=some s'/\P s'
 | [],i,s,hs,_=>⟨s,rfl,rfl,hs⟩
 | x::xs,i,s,hs,h=>by
  obtain⟨t,U,W,h3⟩:=h i x s (by simp) (by simp) hs;obtain⟨u,h4,h5,h6⟩:=FF xs (i+1) t h3 λk y s hk hy=>h k y s (by simp;omega) (by simp[hy]);exact⟨u,by simp only[eachL,U,aj,h4],by simp only[eachL,W,aj,h5],h6⟩
theorem Yp {g:ak}{r:aa}{c:au}(h:∀ y∈g.ss_,y.as_.length<=1048576)(Z:r.rt_.length<=1048576):∃ x,lU g r c=some x/\rv g r c=some x/\x.Rows.length<=16:=by
 obtain⟨l,l1,l2,l3⟩:=tq h r.Left;obtain⟨y,_,y2,_⟩:=U8 0 h Z;have hy:=SZ h Z l2 y2;obtain⟨e,e1,e2⟩:=Xe l.length;have step:∀ k1 x1,k1<l.length->∀ k2 x2 s,k2<l.length->s.1.length<=16->∃ s',mU c k1 x1 k2 x2 s=some s'/\yv c y k1 x1 k2 x2 s=some s'/\s'.1.length<=16:=by
  intro k1 x1 hk1 k2 x2 ⟨s3,s4⟩ hk2 hs;dsimp only at hs;obtain⟨z,z1,z2⟩:=J8 (r:=⟨s4,s3⟩) (by show s3.length<=_;omega) (k1:Int) (k2:Int);unfold mU yv;rw[Vb,AC,hy k1 hk1,hy k2 hk2];simp only[aj,pg,z1,decide_eq_true_eq];by_cases m1:x1.Mode=1;by_cases m2:x2.Mode=2;by_cases m3:bD c (k1:Int) (k2:Int);simp only[m1,m2,m3,if_true,decide_true,aj];exact⟨_,rfl,rfl,by rw[z2];exact hs⟩;simp only[m1,m2,m3,if_true,if_false,decide_true,decide_false,aj];exact⟨_,rfl,rfl,hs⟩;simp[m1,m2,hs];simp[m1,hs]
 obtain⟨⟨s1,s2⟩,U,W,h3⟩:=FF (P:=λs:List Int×Int=>s.1.length<=16) (f:=nQ c l) (g:=BQ c l y) l 0 (e.Rows,e.N) e2 λk x s hk _ hs=>by
  obtain⟨s',t1,t2,t3⟩:=FF (P:=λs:List Int×Int=>s.1.length<=16) (f:=mU c k x) (g:=yv c y k x) l 0 s hs λk2 x2 s hk2 _ hs=>step k x (by omega) k2 x2 s (by omega) hs;obtain⟨s3,s4⟩:=s;exact⟨s',by unfold nQ;dsimp only;rw[t1];rfl,by unfold BQ;dsimp only;rw[t2];rfl,t3⟩
 refine⟨⟨s2,s1⟩,?_,?_,h3⟩;unfold lU;rw[l1,aj,e1,aj,U];rfl;unfold rv;rw[l2,aj,y2,aj,FH,e1,aj,W];rfl
theorem SY:∀ (n:Nat) (e q:Expr),iX n e=some q->iX (n+1) e=some q:=by
 intro n
 induction n with
 | zero=>intro e q h;cases h
 | succ n ih=>
  intro e q h;have h' : mC (iX n) e=some q:=h;show mC (iX (n+1)) e=some q;unfold mC at h' ⊢;obtain⟨s,U,W⟩:=bd h';rw[AZ (g:=qV (iX (n+1))) (λk x s q hq=>by
   unfold qV at hq ⊢;obtain⟨y,h3,h4⟩:=bd hq;rw[ih _ _ h3,aj];exact h4) _ _ _ _ U]
  exact W
theorem Xc:∀ (m:Nat) (e:Expr),dD e<=m->Sz.szd e<=1048576->iX m e=some e:=by
 intro m
 induction m with
 | zero=>intro e h;rw[oE] at h;omega
 | succ m ih=>
  intro e h hs;rw[oE] at h;have hl:∀ (l:List Expr) (i:Nat) (s:List Expr),(∀ x∈l,dD x<=m/\Sz.szd x<=1048576)->s.length+l.length<=4398046511->eachL (qV (iX m)) i l s=some (s++l):=by
   intro l
   induction l with
   | nil=>intro i s _ _;simp[eachL]
   | cons x l ihl=>
    intro i s hx Y;simp only[bH] at Y;have U:=ih x (hx x (by simp)).1 (hx x (by simp)).2;have e1:qV (iX m) i x s=some (s++[x]):=by
     unfold qV;rw[U,aj,aD (by constructor<;>omega)]
    simp only[eachL,e1,aj];rw[ihl _ _ (λy hy=>hx y (by simp[hy])) (by simp;omega)];simp
  show mC (iX m) e=some e;unfold mC;have W:=eX e;have h3:=gG e.Args;rw[hl e.Args 0 [] (λx hx=>⟨by have:=Ex hx;omega,by have:=IL hx;omega⟩) (by simp;omega),Edz,aj];cases e;rfl
theorem oJ {e:Expr}(h:Sz.szd e<=1048576):oY e=some e:=Jt (λn q=>SY n e q) (Xc _ e (Nat.le_refl _) h)
theorem Xb:BD=oY:=by
 have h:∀ n,rf n=iX n:=by
  intro n
  induction n with
  | zero=>rfl
  | succ n ih=>funext e;show xL (rf n) e=mC (iX n) e;rw[ih];rfl
 funext e;show ct (λn=>rf n e)=ct λn=>iX n e;congr 1;funext n;rw[h]
def pZ:Expr:=⟨0,0,0,0,⟨#[]⟩,⟨#[]⟩,[]⟩
def bR (r:aa)(o:Oc):Expr×Bool:=match r.es_.find? λq=>decide (q.At=o) with
 | some q=>(q.Expr,true)
 | none=>(pZ,false)
theorem oI {r:aa}{q:aU}(h:q∈r.es_):Sz.szd q.Expr<=Sz.szd r:=by
 have U:=nE r;have W:=uf q;have h3:=lL h;have h4:=eX q.Expr;omega
theorem JB {r:aa}(h:Sz.szd r<=1048576)(o:Oc):Sz.szd (bR r o).1<=1048576:=by
 unfold bR;cases hf:r.es_.find? (λq=>decide (q.At=o)) with
 | none=>show Sz.szd pZ<=_;have:Sz.szd pZ=0:=rfl;omega
 | some q=>have:=oI (Ecz hf);show Sz.szd q.Expr<=_;omega
theorem Az {r:aa}(h:Sz.szd r<=1048576)(o:Oc):kj r o=some (bR r o):=by
 have key:∀ (l:List aU) (i:Nat),(∀ q∈l,Sz.szd q.Expr<=1048576)->findL (rQ o) i l ()=some (match l.find? λq=>decide (q.At=o) with
   | some q=>.inr (q.Expr,true)
   | none=>.inl ()):=by
  intro l
  induction l with
  | nil=>intro i _;rfl
  | cons q l ih=>
   intro i hq;by_cases hp:q.At=o;simp[findL,rQ,hp,oJ (hq q (by simp))];simp[findL,rQ,hp];exact ih _ λy hy=>hq y (by simp[hy])
 unfold kj bR;rw[key _ _ λq hq=>by have:=oI hq;omega];cases r.es_.find? (λq=>decide (q.At=o))<;>rfl
theorem JA {r:aa}(h:Sz.szd r<=1048576)(o:Oc):kj r o=some (bR r o)/\rF r o=some (bR r o):=by
 have e:rF=kj:=by
  have e1:Cj=rQ:=by funext a k x u;unfold Cj rQ;rw[Xb]
  funext r o;unfold rF kj;rw[e1]
 rw[e];exact⟨Az h o,Az h o⟩
theorem Xa:vl=na:=by
 funext l o;unfold vl na l5;have e:Cz o=nb o:=by
  funext k x u;unfold Cz nb;by_cases h:x=o;rw[ao h,ao h.symm];rw[al h,al λe=>h e.symm]
 rw[e];cases ((findL (nb o) 0 l ()).bind <| bf (λr1=>some r1) λ_=>some (-1))<;>rfl
theorem W9 (l:List Oc)(o:Oc):∃ k,na l o=some k:=by
 have h:l5 l o=some (eT l o):=by
  unfold l5;refine Fl λk x=>⟨λe=>?_,λe=>?_⟩
  unfold nb;rw[ao e.symm];unfold nb;rw[al (λh=>e h.symm)]
 exact⟨_,by unfold na;rw[h];rfl⟩
theorem O0 {r x:au}{i k:Int}(h:jJ r i k=some x):x.N=r.N:=by
 unfold jJ at h;obtain⟨y,U,h⟩:=bd h;have hy:y=r:=by unfold mR at U;obtain⟨_,U⟩:=oO U;exact (Option.some.inj U).symm
 subst hy;obtain⟨y2,_,h⟩:=bd h;obtain⟨s1,_,h⟩:=bd h;obtain⟨s2,_,h⟩:=bd h;by_cases hs:s2=true;rw[ao hs] at h;obtain⟨_,h⟩:=oO h;obtain⟨_,_,h⟩:=bd h;obtain⟨_,h⟩:=oO h;obtain⟨_,h⟩:=oO h;obtain⟨_,h⟩:=oO h;cases h;rfl;rw[al hs] at h;cases h;rfl
theorem U7 (l:List Oc)(k:Nat):∀ (us:List Oc) (i:Nat) (rows:List Int) (n:Int),rows.length<=1048576 ->
  ∃ rows',eachL (pP l k) i us (rows,n)=some (rows',n)/\eachL (u9 l (k:Int)) i us (rows,n)=some (rows',n)/\rows'.length=rows.length:=by
 intro us
 induction us with
 | nil=>intro i rows n _;exact⟨rows,rfl,rfl,rfl⟩
 | cons u us ih=>
  intro i rows n h;obtain⟨j,hj⟩:=W9 l u;obtain⟨x,hx,hxl⟩:=J8 (r:=⟨n,rows⟩) h j (k:Int);have hN:=O0 hx;obtain⟨rows',U,W,h3⟩:=ih (i+1) x.Rows n (by rw[hxl];exact h);have e1:pP l k i u (rows,n)=some (x.Rows,n):=by
   unfold pP;dsimp only;rw[hj,aj,AC,hx,aj,hN]
  have e2:u9 l (k:Int) i u (rows,n)=some (x.Rows,n):=by
   unfold u9;dsimp only;rw[Xa,hj,aj,hx,aj,hN]
  exact⟨rows',by simp only[eachL,e1,aj];exact U,by simp only[eachL,e2,aj];exact W,h3.trans hxl⟩
theorem Wz:attrs pZ=[]:=by
 have:gl pZ=[]:=by simp[pZ,gl,gC]
 unfold attrs nk;rw[this];simp[dZ]
theorem Wc {r:aa}(Z:Sz.szd r<=1048576)(l:List Oc)(hl:l.length<=16):∀ (m k:Nat) (rows:List Int) (n:Int),k+m=l.length->0<n->rows.length<=1048576 ->
  ∃ rows',eachL (pO r l) k (l.drop k) (rows,n)=some (rows',n)/\bE (lX r l) ((k:Int),rows,n)=some (rows',n)/\rows'.length=rows.length:=by
 intro m
 induction m with
 | zero=>
  intro k rows n hk hn h;refine⟨rows,by rw[List.drop_eq_nil_of_le (by omega)];rfl,db ?_,rfl⟩;unfold lX;dsimp only;rw[al (by omega)]
 | succ m ih=>
  intro k rows n hk hn h;obtain⟨x,hx⟩:∃ x,l[k]?=some x:=⟨_,Cmz (by omega)⟩
  have hd:l.drop k=x::l.drop (k+1):=by
   rw[List.drop_eq_getElem_cons (by omega)];have:l[k]=x:=by rw[Cmz (by omega)] at hx;exact Option.some.inj hx
   rw[this]
  obtain⟨E,B,hq⟩:∃ E B,bR r x=(E,B):=⟨_,_,rfl⟩
  obtain⟨rows1,U,W,h3⟩:=U7 l k (attrs E) 0 rows n h;obtain⟨rows',k1,k2,k3⟩:=ih (k+1) rows1 n (by omega) hn (by omega);have hsz:=JB Z x;have hf:=JA Z x;rw[hq] at hsz hf;have e1:pO r l k x (rows,n)=some (rows1,n):=by
   unfold pO;dsimp only;rw[hf.2,aj];dsimp only;rw[Ew hsz,aj,U];rfl
  have hin:(grd (0<=(k:Int)) <| (l[(k:Int).toNat]?).bind λx1=>(kj r x1).bind λ(y3,y4)=>if y4=true then ((nS y3).bind λy5=>(eachL (u9 l (k:Int)) 0 y5 (rows,n)).bind λ(s8,s9)=>some (s8,s9)) else some (rows,n))=some (rows1,n):=by
   rw[aD (by omega),cE,hx,aj,hf.1,aj];dsimp only;cases Y:B with
   | true=>rw[ao rfl,EN hsz,aj,W,aj]
   | false=>
    have hz:E=pZ:=by
     unfold bR at hq;cases hf:r.es_.find? (λq=>decide (q.At=x)) with
     | none=>rw[hf] at hq;cases hq;rfl
     | some q=>rw[hf] at hq;cases hq;cases Y
    rw[hz,Wz] at U;simp only[eachL,Option.some.injEq,Prod.mk.injEq] at U;rw[al (by simp),U.1]
  have e2:lX r l ((k:Int),rows,n)=some (.inl (((k+1:Nat):Int),rows1,n)):=by
   unfold lX;dsimp only;rw[ao (by omega),ao hn,hin,aj];dsimp only;rw[aD (by constructor<;>omega)];rfl
  exact⟨rows',by rw[hd];simp only[eachL,e1,aj];exact k1,by rw[fi e2];exact k2,k3.trans h3⟩
theorem Wy {g:ak}{r:aa}(h:Sz.szd g<=1048576)(Z:Sz.szd r<=1048576):∃ x,pN g r=some x/\pL g r=some x/\x.Rows.length<=16:=by
 obtain⟨l,U,W,_⟩:=AA (iP h) (iB Z);have hem:∀ n:Nat,kl (n:Int)=if n<=16 then some ⟨(n:Int),Bqz n 0⟩ else some ⟨0,[]⟩:=λn=>by
  unfold kl;rw[jH,aj];by_cases hn:n<=16;rw[ao (by simp;omega),aD (by omega),ao hn];rfl;rw[al (by simp;omega),al hn]
 unfold pN pL;rw[U,W,aj,aj,FH,hem];by_cases hl:l.length<=16;rw[ao hl,aj,aj,al (by omega)];dsimp only;by_cases h0:l.length=0;have:l=[]:=List.eq_nil_of_length_eq_zero h0;subst this;have e:bE (lX r ([]:List Oc)) (0,Bqz ([]:List Oc).length 0,((([]:List Oc).length:Nat):Int))=some (Bqz ([]:List Oc).length 0,((([]:List Oc).length:Nat):Int)):=db (by unfold lX;dsimp only;rw[al (by simp)]);rw[e];exact⟨_,rfl,rfl,by simp⟩;obtain⟨rows',k1,k2,k3⟩:=Wc Z l hl l.length 0 (Bqz l.length 0) (l.length:Int) (by omega) (by omega) (by simp;omega);have k2' : bE (lX r l) (0,Bqz l.length 0,(l.length:Int))=some (rows',(l.length:Int)):=k2;rw[List.drop_zero] at k1;rw[k1,k2'];exact⟨_,rfl,rfl,by show rows'.length<=16;simp at k3;omega⟩;rw[al hl,aj,aj,ao (by omega)];have e:bE (lX r l) (0,([]:List Int),(0:Int))=some ([],0):=db (by unfold lX;dsimp only;rw[ao (by omega),al (by omega)]);rw[e];exact⟨_,rfl,rfl,by simp⟩
theorem qC {α β:Type}{p:α->Bool}{g:α->β}{B:Nat}{f:Nat->α->List β->Option (List β)}(hf:∀ k x s,s.length<B->f k x s=some (if p x=true then s++[g x] else s)):∀ (xs:List α) (i:Nat) (s:List β),s.length+xs.length<=B ->
  eachL f i xs s=some (s++(xs.filter p).map g)
 | [],i,s,_=>by simp[eachL]
 | x::xs,i,s,h=>by
  simp only[bH] at h;by_cases hp:p x=true;have ih:=qC hf xs (i+1) (s++[g x]) (by simp;omega);simp[eachL,hf i x s (by omega),hp,ih];have ih:=qC hf xs (i+1) s (by omega);simp[eachL,hf i x s (by omega),hp,ih]
theorem Fh {α β:Type}{p:α->Bool}{g:Nat->β}{B:Nat}{f:Nat->α->List β->Option (List β)}(hf:∀ k x s,s.length<B->f k x s=some (if p x=true then s++[g k] else s)):∀ (xs:List α) (i:Nat) (s:List β),s.length+xs.length<=B ->
  eachL f i xs s=some (s++((xs.zipIdx i).filter λq=>p q.1).map λq=>g q.2)
 | [],i,s,_=>by simp[eachL]
 | x::xs,i,s,h=>by
  simp only[bH] at h;by_cases hp:p x=true;have ih:=Fh hf xs (i+1) (s++[g i]) (by simp;omega);simp[eachL,hf i x s (by omega),hp,ih,List.zipIdx_cons];have ih:=Fh hf xs (i+1) s (by omega);simp[eachL,hf i x s (by omega),hp,ih,List.zipIdx_cons]
theorem FE {β:Type}{h:Nat->List β}{C n:Nat}{f:Nat->List β->Option (List β)}(hf:∀ k s,k<n->s.length<=k*C->f k s=some (s++h k))(hh:∀ k,k<n->(h k).length<=C) :
  ∀ (m k:Nat) (s:List β),k+m=n->s.length<=k*C->eachN f k m s=some (s++(Dbz k m).flatMap h)
 | 0,k,s,_,_=>by simp[eachN]
 | m+1,k,s,hk,hs=>by
  have hl:=hh k (by omega);have e:(k+1)*C=k*C+C:=Nat.succ_mul k C;have ih:=FE hf hh m (k+1) (s++h k) (by omega) (by rw[Axz];omega);simp[eachN,hf k s (by omega) hs,ih,Eez]
theorem Fg {β:Type}{h:Nat->List β}{C n:Nat}{f:(List β×Int)->Option ((List β×Int) ⊕ List β)}(hf:∀ (k:Nat) s,k<n->s.length<=k*C->f (s,(k:Int))=some (.inl (s++h k,((k+1:Nat):Int))))(he:∀ s,f (s,(n:Int))=some (.inr s))(hh:∀ k,k<n->(h k).length<=C) :
  ∀ (m k:Nat) (s:List β),k+m=n->s.length<=k*C->bE f (s,(k:Int))=some (s++(Dbz k m).flatMap h)
 | 0,k,s,hk,_=>by
  obtain rfl:k=n:=by omega
  rw[db (he s)];simp
 | m+1,k,s,hk,hs=>by
  have hl:=hh k (by omega);have e:(k+1)*C=k*C+C:=Nat.succ_mul k C;have ih:=Fg hf he hh m (k+1) (s++h k) (by omega) (by rw[Axz];omega);rw[fi (hf k s (by omega) hs),ih];simp[Eez]
abbrev dQ (g:ak):Prop:=∀ y∈g.ss_,y.as_.length<=1048576
def zS:af:=⟨⟨#[]⟩,[]⟩
def zA:aH:=⟨⟨#[]⟩,0,0,false⟩
def bT (g:ak)(s:an):af×Bool:=match g.ss_.find? λy=>decide (y.Name=s) with
 | some y=>(y,true)
 | none=>(zS,false)
def fc (y:af)(s:an):aH×Bool:=match y.as_.find? λa=>decide (a.Name=s) with
 | some a=>(a,true)
 | none=>(zA,false)
theorem lQ {g:ak}(h:dQ g)(s:an):iF g s=some (bT g s):=by
 have U:=pa (p:=λy:af=>decide (y.Name=s)) (r:=λy=>(y,true)) (xs:=g.ss_) (i:=0) (f:=u5 s) λk y hy=>by
  have hg:pw y=some y:=by
   unfold pw;have:=h y hy;rw[aD (by simp only[Dyz];constructor<;>omega)]
  unfold u5;rw[hg];constructor<;>intro hp<;>simp_all
 unfold iF bT;rw[U];cases hf:g.ss_.find? (λy:af=>decide (y.Name=s)) with
 | none=>rfl
 | some y=>rfl
theorem oU (g:ak)(s:an):km g s=some (bT g s):=by
 have W:=pa (p:=λy:af=>decide (y.Name=s)) (r:=λy=>(y,true)) (xs:=g.ss_) (i:=0) (f:=uT s) λk y hy=>by
  unfold uT;constructor<;>intro hp<;>simp_all
 unfold km bT;rw[W];cases hf:g.ss_.find? (λy:af=>decide (y.Name=s)) with
 | none=>rfl
 | some y=>rfl
theorem oT {g:ak}(h:dQ g)(s:an):(bT g s).1.as_.length<=1048576:=by
 unfold bT;cases hf:g.ss_.find? (λy:af=>decide (y.Name=s)) with
 | none=>simp[zS]
 | some y=>exact h y (Ecz hf)
theorem w7 (y:af)(s:an):pM y s=some (fc y s):=by
 have W:=pa (p:=λy:aH=>decide (y.Name=s)) (r:=λy=>(y,true)) (xs:=y.as_) (i:=0) (f:=Cs s) λk y hy=>by
  unfold Cs;constructor<;>intro hp<;>simp_all
 unfold pM fc;rw[W];cases hf:y.as_.find? (λy:aH=>decide (y.Name=s)) with
 | none=>rfl
 | some y=>rfl
theorem w6 (y:af)(s:an):l4 y s=some (fc y s):=w7 y s
def cy (r:aa)(k:Int):an:=if k=0 then r.Left else if 1<=k/\k<=(r.rt_.length:Int) then r.rt_.getD (k-1).toNat ⟨#[]⟩ else ⟨#[]⟩
abbrev fm (r:aa):Prop:=r.rt_.length<=1048576
theorem mu {r:aa}(hl:fm r)(k:Int):iG r k=some (cy r k):=by
 unfold iG cy;by_cases h0:k=0;rw[ao h0,ao h0];rw[al h0,al h0,fQ,aj];by_cases U:1<=k/\k<=(r.rt_.length:Int);rw[ao (by simpa using U),ao U,aD (by constructor<;>omega),aD (by omega)];have:(k-1).toNat<r.rt_.length:=by omega
 rw[Cmz this,List.getD_eq_getElem?_getD,Cmz this];rfl;rw[al (by simpa using U),al U]
theorem wy {r:aa}(hl:fm r)(k:Int):kQ r k=some (cy r k):=by rw[FG,mu hl]
def gu (g:ak)(r:aa)(o:Oc):aH×Bool:=if 0<=o.Pos/\o.Pos<=(r.rt_.length:Int) then fc (bT g (cy r o.Pos)).1 o.Name else (zA,false)
theorem FD (g:ak){r:aa}(hl:fm r)(o:Oc):pD g r o=some (gu g r o):=by
 unfold pD gu;rw[oD,aj];by_cases h0:0<=o.Pos/\o.Pos<=(r.rt_.length:Int);rw[ao (by simpa using h0),ao h0,wy hl,aj,oU,aj];dsimp only;rw[w7];rfl;rw[al (by simpa using h0),al h0];rfl
def fI (g:ak)(r:aa)(o:Oc):Bool:=(gu g r o).2&&decide ((gu g r o).1.Mode=if o.Pos=0 then 1 else 2)
theorem SX (g:ak){r:aa}(hl:fm r)(o:Oc):tj g r o=some (fI g r o):=by
 unfold tj fI;rw[FD g hl,aj];dsimp only;by_cases h0:o.Pos=0;rw[ao h0,ao h0];by_cases U:(gu g r o).2=true;rw[ao U,U];rfl;rw[al U,Bool.eq_false_iff.2 U];rfl;rw[al h0,al h0];by_cases U:(gu g r o).2=true;rw[ao U,U];rfl;rw[al U,Bool.eq_false_iff.2 U];rfl
theorem SV {g:ak}(h:dQ g){r:aa}(hl:fm r)(o:Oc):tm g r o=some (fI g r o):=by
 unfold tm fI gu;rw[fQ,aj];by_cases hp:0<=o.Pos/\o.Pos<=(r.rt_.length:Int);rw[ao (by simpa using hp),ao hp,mu hl,aj,lQ h,aj];dsimp only;rw[w6,aj]
 skip
 by_cases h0:o.Pos=0;rw[ao h0,ao h0];by_cases U:(fc (bT g (cy r o.Pos)).1 o.Name).2=true;rw[ao U,U];rfl;rw[al U,Bool.eq_false_iff.2 U];rfl;rw[al h0,al h0];by_cases U:(fc (bT g (cy r o.Pos)).1 o.Name).2=true;rw[ao U,U];rfl;rw[al U,Bool.eq_false_iff.2 U];rfl;rw[al (by simpa using hp),al hp];rfl
def eW (g:ak)(r:aa)(k:Nat):List Oc:=((bT g (cy r (k:Int))).1.as_.filter λa=>decide (a.Mode=if (k:Int)=0 then 2 else 1)).map λa=>(⟨(k:Int),a.Name⟩:Oc)
def cx (g:ak)(r:aa):List Oc:=(Dbz 0 (r.rt_.length+1)).flatMap (eW g r)
theorem J4 {g:ak}(h:dQ g)(r:aa)(k:Nat):(eW g r k).length<=1048576:=by
 unfold eW;rw[bn];exact Nat.le_trans (List.length_filter_le _ _) (oT h _)
theorem Jz {g:ak}(h:dQ g){r:aa}(hl:fm r):ri g r=some (cx g r):=by
 have hl' : r.rt_.length<=1048576:=hl;have key:=FE (h:=eW g r) (C:=1048576) (n:=r.rt_.length+1) (f:=BM g r) (λk s hk hs=>by
  have hin:∀ m:Int,eachL (BN k m) 0 (bT g (cy r (k:Int))).1.as_ s=some (s++((bT g (cy r (k:Int))).1.as_.filter λa=>decide (a.Mode=m)).map λa=>(⟨(k:Int),a.Name⟩:Oc)):=λm=>
   qC (B:=4398046511104) (λj x s hs=>by
    unfold BN;by_cases hm:x.Mode=m;rw[ao hm,ao (by simpa using hm),aD (by constructor<;>omega)];rfl;rw[al hm,al (by simpa using hm)];rfl) _ 0 s (by have:=oT h (cy r (k:Int));omega)
  unfold BM eW;by_cases h0:(k:Int)=0;rw[ao h0,ao h0,aj,wy hl,aj,oU,aj];dsimp only;rw[hin];rfl;rw[al h0,al h0,aj,wy hl,aj,oU,aj];dsimp only;rw[hin];rfl) (λk _=>J4 h r k) (r.rt_.length+1) 0 [] (by omega) (by simp)
 unfold ri;rw[aD (by constructor<;>omega),key];rfl
theorem D5 {g:ak}(h:dQ g){r:aa}(hl:fm r):pQ g r=some (cx g r):=by
 have hl' : r.rt_.length<=1048576:=hl;have key:=Fg (h:=eW g r) (C:=1048576) (n:=r.rt_.length+1) (f:=vm g r) (λk s hk hs=>by
  have hin2:eachL (CJ (k:Int)) 0 (bT g (cy r (k:Int))).1.as_ s=some (s++((bT g (cy r (k:Int))).1.as_.filter λa=>decide (a.Mode=2)).map λa=>(⟨(k:Int),a.Name⟩:Oc)):=
   qC (B:=4398046511104) (λj x s hs=>by
    unfold CJ;by_cases hm:x.Mode=2;rw[ao hm,ao (by simpa using hm),aD (by constructor<;>omega)];rfl;rw[al hm,al (by simpa using hm)];rfl) _ 0 s (by have:=oT h (cy r (k:Int));omega)
  have hin1:eachL (CI (k:Int)) 0 (bT g (cy r (k:Int))).1.as_ s=some (s++((bT g (cy r (k:Int))).1.as_.filter λa=>decide (a.Mode=1)).map λa=>(⟨(k:Int),a.Name⟩:Oc)):=
   qC (B:=4398046511104) (λj x s hs=>by
    unfold CI;by_cases hm:x.Mode=1;rw[ao hm,ao (by simpa using hm),aD (by constructor<;>omega)];rfl;rw[al hm,al (by simpa using hm)];rfl) _ 0 s (by have:=oT h (cy r (k:Int));omega)
  unfold vm eW;dsimp only;rw[ao (by omega),mu hl,aj,lQ h,aj]
  skip
  by_cases h0:(k:Int)=0;rw[ao h0,ao h0,hin2,aj,aj,aD (by constructor<;>omega)];rfl;rw[al h0,al h0,hin1,aj,aj,aD (by constructor<;>omega)];rfl) (λs=>by
  unfold vm;dsimp only;rw[al (by omega)]) (λk _=>J4 h r k) (r.rt_.length+1) 0 [] (by omega) (by simp)
 unfold pQ;have e:bE (vm g r) (([]:List Oc),0)=some ([]++(Dbz 0 (r.rt_.length+1)).flatMap (eW g r)):=key;rw[e];rfl
theorem kU {α:Type}{q:α->Bool}{xs:List α}{f:Nat->α->Unit->Option (Unit ⊕ Int)}(h:∀ k x,x∈xs->f k x ()=some (if q x=true then .inr (k:Int) else .inl ())) :
  ((findL f 0 xs ()).bind <| bf (λr1=>some r1) λ_=>some (-1)).bind (λy1=>some (decide (0<=y1)))=some (xs.any q):=by
 rw[Fj h];cases hq:xs.any q with
 | true=>
  have:(0:Int)<=((0+xs.findIdx q:Nat):Int):=Int.natCast_nonneg _;rw[ao rfl,aj,qy,aj,decide_eq_true this]
 | false=>rfl
def dG {α:Type}(bad:List α->α->Bool):List α->List α->Option Nat
 | _,[]=>none
 | pre,x::xs=>if bad pre x=true then some pre.length else dG bad (pre++[x]) xs
theorem tp {α β ρ:Type}{bad:List α->α->Bool}{nm:α->β}{c:Nat->ρ}{all:List α}{f:Nat->α->Unit->Option (Unit ⊕ ρ)}{h:Nat->α->List β->Option (List β ⊕ ρ)}
  (hf:∀ pre x post,all=pre++x::post->f pre.length x ()=some (if bad pre x=true then .inr (c pre.length) else .inl ()))
  (hh:∀ pre x post,all=pre++x::post->h pre.length x (pre.map nm)=some (if bad pre x=true then .inr (c pre.length) else .inl ((pre++[x]).map nm))) :
  ∀ (ys pre:List α),all=pre++ys->findL f pre.length ys ()=some (match dG bad pre ys with|none=>.inl ()|some k=>.inr (c k)) /\
   findL h pre.length ys (pre.map nm)=some (match dG bad pre ys with|none=>.inl (all.map nm)|some k=>.inr (c k))
 | [],pre,e=>by
  rw[List.append_nil] at e;subst e;exact⟨rfl,rfl⟩
 | x::ys,pre,e=>by
  have U:=hf pre x ys e;have W:=hh pre x ys e;by_cases Y:bad pre x=true;rw[ao Y] at U W;simp only[findL,U,W,dG,Y,if_true,aj];exact⟨trivial,trivial⟩;rw[al Y] at U W;have ih:=tp hf hh ys (pre++[x]) (by rw[e];simp);simp only[Axz,bH,Dyz,Nat.zero_add] at ih;simp only[findL,U,W,dG,Y,aj];exact ih
theorem J3 {α:Type}{a:α->Bool}{b:List α->α->Bool}:∀ (xs pre:List α),(dG (λp x=>a x||b p x) pre xs).isNone=(xs.all (λx=>!a x)&&(dG b pre xs).isNone)
 | [],pre=>rfl
 | x::xs,pre=>by
  have ih:=J3 (a:=a) (b:=b) xs (pre++[x]);simp only[dG,List.all_cons];by_cases ha:a x=true;simp[ha];by_cases Y:b pre x=true;simp[ha,Y];simpa[ha,Y] using ih
def dx {α:Type}(nm:α->an)(pre:List α)(x:α):Bool:=pre.any λo=>decide (nm o=nm x)
def pY {α:Type}(nm:α->an)(xs:List α):Bool:=(dG (dx nm) [] xs).isNone
theorem Lu {α:Type}{nm:α->an}:∀ (xs pre:List α),(dG (dx id) (pre.map nm) (xs.map nm))=dG (dx nm) pre xs
 | [],pre=>rfl
 | x::xs,pre=>by
  have ih:=Lu (nm:=nm) xs (pre++[x]);have e:dx id (pre.map nm) (nm x)=dx nm pre x:=by simp[dx,List.any_map,Function.comp_def]
  rw[List.map_cons,dG,dG,e,bn];rw[List.map_append] at ih;rw[show [nm x]=[x].map nm from rfl,ih]
theorem sR {α ρ:Type}{bad:List α->α->Bool}{c:Nat->ρ}{all:List α}{f:Nat->α->Unit->Option (Unit ⊕ ρ)}
  (hf:∀ pre x post,all=pre++x::post->f pre.length x ()=some (if bad pre x=true then .inr (c pre.length) else .inl ())) :
  ∀ (ys pre:List α),all=pre++ys->findL f pre.length ys ()=some (match dG bad pre ys with|none=>.inl ()|some k=>.inr (c k)):=λys pre e=>
 (tp (nm:=λ_=>()) (h:=λk x s=>(f k x ()).map λ|.inl _=>.inl (s++[()])|.inr r=>.inr r) hf (λpre x post e=>by
  rw[hf pre x post e];by_cases Y:bad pre x=true;rw[ao Y,ao Y];rfl;rw[al Y,al Y];simp) ys pre e).1
theorem DT (l:List an)(s:an):lM l s=some (l.any λo=>decide (o=s)):=by
 unfold lM;rw[gb (c:=true) (q:=λo=>!decide (o=s)) λk x hx=>by
  unfold xk;by_cases h:x=s;rw[ao h,al (by simp[h])];rw[al h,ao (by simp[h])]]
 have e:(l.all λo=>!decide (o=s))=!(l.any λo=>decide (o=s)):=by rw[List.not_any_eq_all_not]
 rw[e];cases l.any λo=>decide (o=s)<;>rfl
theorem Wx (l:List an):uZ l=some (pY id l):=by
 unfold uZ pY;rw[show findL (yM l) 0 l ()=_ from sR (bad:=dx id) (c:=λ_=>false) (all:=l) (f:=yM l) (λpre x post e=>by
  unfold yM;rw[aD (by rw[e];simp),show l.take pre.length=pre by rw[e];simp,DT,aj,← apply_ite some];rfl) l [] rfl]
 cases dG (dx id) [] l<;>rfl
def fN (a:aH):Bool:=dj a.Name&&(decide (1<=a.t__/\a.t__<=4)&&(decide (1<=a.Mode/\a.Mode<=3)&&if a.Mode=3 then decide (a.t__=2) && !a.Circular else !a.Circular||decide (a.t__=2)))
theorem Wb (a:aH):vh a=some (fN a):=by
 unfold vh fN qF;rw[mz,aj];cases dj a.Name with
 | false=>rfl
 | true=>
  rw[ao rfl,oD,aj,aj,aj];by_cases U:1<=a.t__/\a.t__<=4;rw[decide_eq_true U,Efz,al (by simp),oD,aj,aj];by_cases W:1<=a.Mode/\a.Mode<=3;rw[decide_eq_true W,Efz,al (by simp)];by_cases h3:a.Mode=3;rw[ao h3,ao h3];by_cases h4:a.t__=2;rw[ao h4,decide_eq_true h4];simp;rw[al h4,decide_eq_false h4];rfl;rw[al h3,al h3];cases hc:a.Circular with
  | true=>rw[ao rfl];simp
  | false=>rw[al (by simp)];simp
  rw[decide_eq_false W];rfl;rw[decide_eq_false U];rfl
theorem Wa (a:aH):vi a=some (fN a):=by
 unfold vi fN;rw[kI,aj];cases dj a.Name with
 | false=>rfl
 | true=>
  rw[ao rfl,fQ,aj,aj];by_cases U:1<=a.t__/\a.t__<=4;rw[decide_eq_true U,Efz,al (by simp),fQ,aj,aj];by_cases W:1<=a.Mode/\a.Mode<=3;rw[decide_eq_true W,Efz,al (by simp)];by_cases h3:a.Mode=3;rw[ao h3,ao h3];by_cases h4:a.t__=2;rw[ao h4,decide_eq_true h4];cases hc:a.Circular with
  | true=>rfl
  | false=>rfl
  rw[al h4,decide_eq_false h4];rfl;rw[al h3,al h3];cases hc:a.Circular with
  | true=>simp
  | false=>simp
  rw[decide_eq_false W];rfl;rw[decide_eq_false U];rfl
def symB (s:af):Bool:=s.as_.all fN&&(dj s.Name&&(decide (s.as_.length<=4)&&pY (λa:aH=>a.Name) s.as_))
theorem U6 (s:af):vb s=some (symB s):=by
 unfold vb symB;rw[show findL (yP s) 0 s.as_ ()=_ from sR (bad:=λp x=>!fN x||dx (λa:aH=>a.Name) p x) (c:=λ_=>false) (all:=s.as_) (f:=yP s) (λpre x post e=>by
  unfold yP;rw[Wb,aj];cases fN x with
  | false=>rfl
  | true=>
   rw[ao rfl,aD (by rw[e];simp),show s.as_.take pre.length=pre by rw[e];simp];unfold zk zf;rw[kU (q:=λo:aH=>decide (o.Name=x.Name)) λk y hy=>by
    unfold HB yS;rw[aj];by_cases h:y.Name=x.Name;rw[decide_eq_true h];rfl;rw[decide_eq_false h];rfl]
   rw[aj,← apply_ite some];rfl) s.as_ [] rfl]
 have hor:=J3 (a:=λx:aH=>!fN x) (b:=dx (λa:aH=>a.Name)) s.as_ [];simp only[Bool.not_not] at hor;have e2:(s.as_.all λx=>fN x)=s.as_.all fN:=rfl;unfold pY;rw[e2] at hor;cases Y:dG (λp x=>!fN x||dx (λa:aH=>a.Name) p x) [] s.as_ with
 | some k=>
  rw[Y] at hor;show some false=_;have:(s.as_.all fN&&(dG (dx λa:aH=>a.Name) [] s.as_).isNone)=false:=hor.symm;congr 1;cases U:s.as_.all fN with
  | false=>rfl
  | true=>rw[U] at this;simp at this;simp[this]
 | none=>
  rw[Y] at hor;have:(s.as_.all fN&&(dG (dx λa:aH=>a.Name) [] s.as_).isNone)=true:=hor.symm;rw[Bool.and_eq_true] at this;show ((iH s.Name).bind _)=_;rw[mz,aj,this.1,this.2];cases dj s.Name with
  | false=>rfl
  | true=>
   rw[ao rfl,aj];congr 1;simp;omega
theorem U5 {s:af}(h:s.as_.length<=1048576):vf s=some (symB s):=by
 unfold vf symB;have hloop:∀ (ys:List aH) (i:Nat) (t:List an),t.length+ys.length<=1048576->findL yQ i ys t=some (if ys.all fN=true then .inl (t++ys.map λa=>a.Name) else .inr false):=by
  intro ys
  induction ys with
  | nil=>intro i t _;simp[findL]
  | cons y ys ih=>
   intro i t ht;simp only[bH] at ht;simp only[findL];have e:yQ i y t=some (if fN y=true then .inl (t++[y.Name]) else .inr false):=by
    unfold yQ;rw[Wa,aj];cases fN y with
    | false=>rfl
    | true=>rw[ao rfl,ao rfl,aD (by constructor<;>omega)]
   rw[e,aj];by_cases hy:fN y=true;rw[ao hy,show (y::ys).all fN=ys.all fN by simp[hy]];dsimp only;rw[ih _ _ (by simp;omega)];simp;rw[al hy,show (y::ys).all fN=false by simp[hy]];rfl
 rw[hloop _ _ _ (by simpa using h)];cases hA:s.as_.all fN with
 | false=>rfl
 | true=>
  rw[ao rfl,aj,lH,Edz,kI,aj];cases dj s.Name with
  | false=>rfl
  | true=>
   rw[ao rfl,aj,bn];by_cases hl:s.as_.length<=4;rw[decide_eq_true (by omega:(s.as_.length:Int)<=4),ao rfl,Wx,aj,aj,decide_eq_true hl];have:=Lu (nm:=λa:aH=>a.Name) s.as_ [];unfold pY;rw[List.map_nil] at this;rw[this];rfl;rw[decide_eq_false (by omega:¬ (s.as_.length:Int)<=4),al (by simp),decide_eq_false hl];rfl
end Go.Proofs.YtodhafdaelcnlaaGreat
