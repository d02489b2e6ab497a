/- What those partial functions come to: plain lemmas on data; each bears its conditions in its statement. -/
import Derived.Test.YtodhafdaelcnlaaGreatMath2
set_option linter.unusedVariables false
set_option linter.unusedSimpArgs false
set_option linter.ambiguousOpen false
set_option linter.unusedSectionVars false
set_option linter.unnecessarySimpa false
open List renaming length_nil->Dyz,mem_of_find?_eq_some->Ebz,nil_append->Ecz,getElem?_eq_getElem->Cmz,range'->Dbz,range'_succ->Edz,length_append->Axz,replicate->Bqz
open Bool renaming not_true->Eez
namespace Go.Proofs.YtodhafdaelcnlaaGreat
open Go Go.E
theorem pN {α ρ:Type}{p:α->Bool}{r:α->ρ}:∀ {xs:List α} {i:Nat} {f:Nat->α->Unit->Option (Unit ⊕ ρ)},(∀ k x,x∈xs->(p x=true->f k x ()=some (.inr (r x)))/\(p x=false->f k x ()=some (.inl ()))) ->
  findL f i xs ()=some (match xs.find? p with|some x=>.inr (r x)|none=>.inl ())
 | [],_,_,_=>rfl
 | x::xs,i,f,h=>by
  have h0:=h i x (by simp);cases hp:p x with
  | true=>simp[findL,h0.1 hp,List.find?,hp]
  | false=>
   have ih:=pN (p:=p) (r:=r) (xs:=xs) (i:=i+1) (f:=f) λk y hy=>h k y (by simp[hy]);simp[findL,h0.2 hp,List.find?,hp,ih]
theorem rZ {α β:Type}{p:α->Bool}{g:Nat->α->β}{B:Nat}{f:Nat->α->List β->Option (List β)}(hf:∀ k x s,s.length<B->f k x s=some (if p x=true then s++[g k x] else s)):∀ (xs:List α) (i:Nat) (s:List β),s.length+xs.length<=B ->
  ∃ ys,eachL f i xs s=some (s++ys)/\ys.length<=xs.length
 | [],i,s,_=>⟨[],by simp[eachL],by simp⟩
 | x::xs,i,s,h=>by
  simp only[bE] at h;by_cases hp:p x=true;obtain⟨ys,U,K⟩:=rZ hf xs (i+1) (s++[g i x]) (by simp;omega);exact⟨g i x::ys,by simp[eachL,hf i x s (by omega),hp,U],by simp;omega⟩;obtain⟨ys,U,K⟩:=rZ hf xs (i+1) s (by omega);exact⟨ys,by simp[eachL,hf i x s (by omega),hp,U],by simp;omega⟩
theorem gw (x lo hi:Int):cV x lo hi=some (decide (lo<=x/\x<=hi)):=by
 unfold cV;split<;>simp_all<;>omega
theorem pa (x lo hi:Int):dJ x lo hi=some (decide (lo<=x/\x<=hi)):=by
 unfold dJ;split<;>simp_all<;>omega
theorem Gc (r:ae)(k:Int):lb r k=iM r k:=by
 unfold lb iM;rw[gw,pa]
def sS (a:aG):Bool:=decide (a.Mode=1∨a.Mode=2)
theorem Nt:HG=qq:=rfl
theorem Ha:nA=qp:=rfl
theorem Wu {g:al}(h:∀ y∈g.ss_,y.as_.length<=1048576)(s:ar):∃ y b,iK g s=some (y,b)/\kD g s=some (y,b)/\y.as_.length<=1048576:=by
 have U:=pN (p:=λy:ah=>decide (y.Name=s)) (r:=λy=>(y,true)) (xs:=g.ss_) (i:=0) (f:=vB s) λk y hy=>by
  have hg:qb y=some y:=by
   unfold qb;have:=h y hy;rw[aF (by simp only[Dyz];constructor<;>omega)]
  unfold vB;rw[hg];constructor<;>intro hp<;>simp_all
 have K:=pN (p:=λy:ah=>decide (y.Name=s)) (r:=λy=>(y,true)) (xs:=g.ss_) (i:=0) (f:=u6 s) λk y hy=>by
  unfold u6;constructor<;>intro hp<;>simp_all
 unfold iK kD;rw[U,K];cases hf:g.ss_.find? (λy:ah=>decide (y.Name=s)) with
 | none=>exact⟨_,_,rfl,rfl,by simp⟩
 | some y=>exact⟨_,_,rfl,rfl,h y (Ebz hf)⟩
theorem ub {g:al}(h:∀ y∈g.ss_,y.as_.length<=1048576)(s:ar):∃ l,nD g s=some l/\lu g s=some l/\l.length<=1048576:=by
 obtain⟨y,b,U,K,h3⟩:=Wu h s;obtain⟨l,h4,h5⟩:=rZ (p:=sS) (g:=λ_ x=>x) (B:=1048577) (f:=qq) (λk x s hs=>by
  have hg:((s.length:Int)+1)*40<=140737488355328/\(s.length:Int)+1<=9223372036854775807:=by constructor<;>omega
  unfold qq sS;rw[aF hg];by_cases m1:x.Mode=1;rw[ao m1,ao (by simp[m1])];rfl;rw[an m1];by_cases m2:x.Mode=2;rw[ao m2,ao (by simp[m2])];rfl;rw[an m2,an (by simp[m1,m2])];rfl) y.as_ 0 [] (by simp;omega)
 simp only[Ecz] at h4;refine⟨l,?_,?_,by omega⟩;unfold nD;rw[U];dsimp only[aj];rw[h4];rfl;unfold lu;rw[K];dsimp only[aj];rw[Nt,h4];rfl
theorem Ns (r:ae)(k:Nat)(hk:k<=r.rt_.length)(hl:r.rt_.length<=1048576):∃ x,iM r (k:Int)=some x:=by
 unfold iM;by_cases h0:(k:Int)=0;exact⟨_,ao h0⟩;rw[an h0,gw,aj,ao (by simp;omega),aF (by constructor<;>omega),aF (by omega)];obtain⟨x,hx⟩:∃ x,r.rt_[((k:Int)-1).toNat]?=some x:=⟨_,Cmz (by omega)⟩
 exact⟨x,by rw[hx];rfl⟩
theorem Wt (k:Nat)(B:Nat)(hB:B<=4398046511104):∀ (l:List aG) (i:Nat) (s:List Oc),s.length+l.length<=B->∃ ys,eachL (oK k) i l s=some (s++ys)/\ys.length<=l.length:=λl i s h=>
 rZ (p:=λ_=>true) (g:=λ_ x=>(⟨(k:Int),x.Name⟩:Oc)) (B:=B) (f:=oK k) (λj x s hs=>by
  have hg:((s.length:Int)+1)*24<=140737488355328/\(s.length:Int)+1<=9223372036854775807:=by constructor<;>omega
  unfold oK;rw[aF hg,ao rfl]) l i s h
theorem Lc (k:Nat):HC (k:Int)=oK k:=rfl
theorem Bn {g:al}{r:ae}(h:∀ y∈g.ss_,y.as_.length<=1048576)(Z:r.rt_.length<=1048576):∃ l,nB g r=some l/\lq g r=some l/\l.length<=1099512676352:=by
 have key:∀ m k (s:List Oc),k+m=r.rt_.length+1->s.length<=k*1048576->∃ l,eachN (j7 g r) k m s=some l/\bK (mj g r) (s,(k:Int))=some l/\l.length<=(k+m)*1048576:=by
  intro m
  induction m with
  | zero=>
   intro k s hk hs;refine⟨s,rfl,c9 ?_,by simpa using hs⟩;unfold mj;dsimp only;rw[an (by omega)]
  | succ m ih=>
   intro k s hk hs;obtain⟨x,hx⟩:=Ns r k (by omega) Z;obtain⟨p,hp1,hp2,hp3⟩:=ub h x;obtain⟨ys,hy1,hy2⟩:=Wt k 4398046511104 (by omega) p 0 s (by omega);obtain⟨l,U,K,h3⟩:=ih (k+1) (s++ys) (by omega) (by simp;omega);refine⟨l,?_,?_,by rw[show k+(m+1)=k+1+m by omega];exact h3⟩;have e:j7 g r k s=some (s++ys):=by
    unfold j7;rw[Gc,hx,aj,hp2,aj,hy1];rfl
   simp only[eachN,e,aj];exact U;have e:mj g r (s,(k:Int))=some (.inl (s++ys,((k+1:Nat):Int))):=by
    unfold mj;dsimp only;rw[ao (by omega),hx,aj,hp1,aj,Lc,hy1,aj,aF (by constructor<;>omega)];rfl
   rw[eS e];exact K
 obtain⟨l,U,K,h3⟩:=key (r.rt_.length+1) 0 [] (by omega) (by simp);refine⟨l,?_,?_,by omega⟩;unfold nB;have e:bK (mj g r) (([]:List Oc),0)=some l:=K;rw[e];rfl;unfold lq;rw[aF (by constructor<;>omega),U];rfl
theorem VL {g:al}{r:ae}(k:Int)(h:∀ y∈g.ss_,y.as_.length<=1048576)(Z:r.rt_.length<=1048576):∃ l,qo g r k=some l/\mf g r k=some l/\l.length<=1099512676352:=by
 obtain⟨o,U,K,h3⟩:=Bn h Z;obtain⟨l,h4,h5⟩:=rZ (p:=λx:Oc=>decide (x.Pos=k)) (g:=λi _=>((i:Nat):Int)) (B:=4398046511104) (f:=qp k) (λi x s hs=>by
  have hg:((s.length:Int)+1)*8<=140737488355328/\(s.length:Int)+1<=9223372036854775807:=by constructor<;>omega
  unfold qp;rw[aF hg];by_cases m1:x.Pos=k;rw[ao m1,ao (by simp[m1])];rfl;rw[an m1,an (by simp[m1])];rfl) o 0 [] (by simp;omega)
 simp only[Ecz] at h4;refine⟨l,?_,?_,by omega⟩;unfold qo;rw[U];dsimp only[aj];rw[h4];rfl;unfold mf;rw[K];dsimp only[aj];rw[Ha,h4];rfl
theorem AX {α:Type}[Sz α]{x:α}:∀ {l:List α},x∈l->Sz.szd x<=bW l
 | [],h=>by simp at h
 | y::l,h=>by
  rcases List.mem_cons.1 h with rfl|h;simp only[bW];omega;have:=AX h;simp only[bW];omega
theorem gJ {g:al}(h:Sz.szd g<=1048576):∀ y∈g.ss_,y.as_.length<=1048576:=λy hy=>by
 have U:=AX hy;have K:=Ny y;have h3:=yi g;have h4:=jj y.as_;omega
theorem iv {r:ae}(h:Sz.szd r<=1048576):r.rt_.length<=1048576:=by
 have U:=pA r;have K:=jj r.rt_;omega
theorem Ol {α σ:Type}{f:Nat->α->σ->Option σ}:∀ (xs ys:List α) (i:Nat) (s:σ),eachL f i (xs++ys) s=(eachL f i xs s).bind λt=>eachL f (i+xs.length) ys t
 | [],ys,i,s=>rfl
 | x::xs,ys,i,s=>by
  simp only[List.cons_append,eachL];cases f i x s with
  | none=>rfl
  | some t=>simp only[aj];rw[Ol xs ys (i+1) t,bE,show i+1+xs.length=i+(xs.length+1) by omega]
theorem tF (k:Nat):∀ (l:List aG) (i:Nat) (s:List Oc),s.length+l.length<=4398046511104->eachL (oK k) i l s=some (s++l.map λx=>(⟨(k:Int),x.Name⟩:Oc))
 | [],i,s,_=>by simp[eachL]
 | x::l,i,s,h=>by
  simp only[bE] at h;have hg:((s.length:Int)+1)*24<=140737488355328/\(s.length:Int)+1<=9223372036854775807:=by constructor<;>omega
  have e:oK k i x s=some (s++[(⟨(k:Int),x.Name⟩:Oc)]):=by unfold oK;rw[aF hg]
  simp only[eachL,e,aj];rw[tF k l (i+1) _ (by simp;omega)];simp
theorem TD {g:al}{r:ae}(h:∀ y∈g.ss_,y.as_.length<=1048576)(Z:r.rt_.length<=1048576){l:List aG}{o:List Oc}(hl:lu g r.Left=some l)(ho:lq g r=some o) :
  ∃ ys,o=(l.map λx=>(⟨0,x.Name⟩:Oc))++ys:=by
 have key:∀ m k (s:List Oc),k+m=r.rt_.length+1->s.length<=k*1048576->∀ q,eachN (j7 g r) k m s=some q->∃ ys,q=s++ys:=by
  intro m
  induction m with
  | zero=>intro k s _ _ q hq;cases hq;exact⟨[],by simp⟩
  | succ m ih=>
   intro k s hk hs q hq;obtain⟨x,hx⟩:=Ns r k (by omega) Z;obtain⟨p,hp1,hp2,hp3⟩:=ub h x;have hy:=tF k p 0 s (by omega);have e:j7 g r k s=some (s++p.map λx=>(⟨(k:Int),x.Name⟩:Oc)):=by
    unfold j7;rw[Gc,hx,aj,hp2,aj,hy];rfl
   simp only[eachN,e,aj] at hq;obtain⟨ys,hys⟩:=ih (k+1) _ (by omega) (by simp;omega) q hq;exact⟨_,by rw[hys,List.append_assoc]⟩
 unfold lq at ho;rw[aF (by constructor<;>omega)] at ho;have e1:eachN (j7 g r) 0 (r.rt_.length+1) []=some o:=by
  cases hq:eachN (j7 g r) 0 (r.rt_.length+1) [] with
  | none=>rw[hq] at ho;cases ho
  | some q=>rw[hq] at ho;exact ho
 have hl3:l.length<=1048576:=by
  obtain⟨p,_,K,h3⟩:=ub h r.Left;rw[hl] at K;cases K;exact h3
 have hx:lb r ((0:Nat):Int)=some r.Left:=by unfold lb;exact ao rfl
 have e:j7 g r 0 []=some ([]++l.map λx=>(⟨((0:Nat):Int),x.Name⟩:Oc)):=by
  unfold j7;rw[hx,aj,hl,aj,tF 0 l 0 [] (by simp;omega)];rfl
 simp only[eachN,e,aj] at e1;obtain⟨ys,hys⟩:=key r.rt_.length 1 _ (by omega) (by simp;omega) o e1;exact⟨ys,by simpa using hys⟩
theorem JL:∀ (xs:List Oc) (i:Nat) (s:List Int),s.length+xs.length<=4398046511104->(∀ x∈xs,x.Pos=0)->eachL (nA 0) i xs s=some (s++(Dbz i xs.length).map λ(j:Nat)=>(j:Int))
 | [],i,s,_,_=>by simp[eachL]
 | x::xs,i,s,h,h0=>by
  simp only[bE] at h;have hg:((s.length:Int)+1)*8<=140737488355328/\(s.length:Int)+1<=9223372036854775807:=by constructor<;>omega
  have e:nA 0 i x s=some (s++[(i:Int)]):=by
   unfold nA;rw[ao (h0 x (by simp)),aF hg];rfl
  simp only[eachL,e,aj];rw[JL xs (i+1) _ (by simp;omega) λy hy=>h0 y (by simp[hy])];simp[Edz]
theorem TC {g:al}{r:ae}(h:∀ y∈g.ss_,y.as_.length<=1048576)(Z:r.rt_.length<=1048576){l:List aG}{y:List Int}(hl:lu g r.Left=some l)(hy:mf g r 0=some y):∀ k:Nat,k<l.length->y[k]?=some (k:Int):=by
 obtain⟨o,_,ho,ho3⟩:=Bn h Z;obtain⟨ys,hys⟩:=TD h Z hl ho;have hl3:l.length<=1048576:=by
  obtain⟨p,_,K,h3⟩:=ub h r.Left;rw[hl] at K;cases K;exact h3
 unfold mf at hy;rw[ho,aj] at hy;have hy' : eachL (nA 0) 0 o []=some y:=by
  cases hq:eachL (nA 0) 0 o [] with
  | none=>rw[hq] at hy;cases hy
  | some q=>rw[hq] at hy;exact hy
 have hlen:=congrArg List.length hys;simp only[Axz,bh] at hlen;rw[hys,Ol,JL _ 0 [] (by simp;omega) (by intro x hx;obtain⟨a,_,rfl⟩:=List.mem_map.1 hx;rfl),aj] at hy';obtain⟨zs,h4,h5⟩:=rZ (p:=λx:Oc=>decide (x.Pos=0)) (g:=λi _=>((i:Nat):Int)) (B:=4398046511104) (f:=nA 0) (λi x s hs=>by
  have hg:((s.length:Int)+1)*8<=140737488355328/\(s.length:Int)+1<=9223372036854775807:=by constructor<;>omega
  unfold nA;rw[aF hg];by_cases m1:x.Pos=0;rw[ao m1,ao (by simp[m1])];rfl;rw[an m1,an (by simp[m1])];rfl) ys (0+(l.map λx=>(⟨0,x.Name⟩:Oc)).length) ([]++(Dbz 0 (l.map λx=>(⟨0,x.Name⟩:Oc)).length).map λ(j:Nat)=>(j:Int)) (by simp;omega)
 rw[h4] at hy';cases hy';intro k hk;rw[List.getElem?_append_left (by simpa using hk)];simp[hk]
theorem Gb {α σ:Type}{P:σ->Prop}{f g:Nat->α->σ->Option σ}:∀ (xs:List α) (i:Nat) (s:σ),P s->(∀ k x s,k<i+xs.length->x∈xs->P s->∃ s',f k x s=some s'/\g k x s=some s'/\P s')->∃ s',eachL f i xs s=some s'/\eachL g i xs s=some s'/\P s'
 | [],i,s,hs,_=>⟨s,rfl,rfl,hs⟩
 | x::xs,i,s,hs,h=>by
  obtain⟨t,U,K,h3⟩:=h i x s (by simp) (by simp) hs;obtain⟨u,h4,h5,h6⟩:=Gb xs (i+1) t h3 λk y s hk hy=>h k y s (by simp;omega) (by simp[hy]);exact⟨u,by simp only[eachL,U,aj,h4],by simp only[eachL,K,aj,h5],h6⟩
theorem Y8 {g:al}{r:ae}{c:au}(h:∀ y∈g.ss_,y.as_.length<=1048576)(Z:r.rt_.length<=1048576):∃ x,jX g r c=some x/\r8 g r c=some x/\x.Rows.length<=16:=by
 obtain⟨l,l1,l2,l3⟩:=ub h r.Left;obtain⟨y,_,y2,_⟩:=VL 0 h Z;have hy:=TC h Z l2 y2;obtain⟨e,e1,e2⟩:=Xk l.length;have step:∀ k1 x1,k1<l.length->∀ k2 x2 s,k2<l.length->s.1.length<=16->∃ s',lj c k1 x1 k2 x2 s=some s'/\yJ c y k1 x1 k2 x2 s=some s'/\s'.1.length<=16:=by
  intro k1 x1 hk1 k2 x2 ⟨s3,s4⟩ hk2 hs;dsimp only at hs;obtain⟨z,z1,z2⟩:=Lf (r:=⟨s4,s3⟩) (by show s3.length<=_;omega) (k1:Int) (k2:Int);unfold lj yJ;rw[VO,Bp,hy k1 hk1,hy k2 hk2];simp only[aj,oB,z1,decide_eq_true_eq];by_cases m1:x1.Mode=1;by_cases m2:x2.Mode=2;by_cases m3:bG c (k1:Int) (k2:Int);simp only[m1,m2,m3,if_true,decide_true,aj];exact⟨_,rfl,rfl,by rw[z2];exact hs⟩;simp only[m1,m2,m3,if_true,if_false,decide_true,decide_false,aj];exact⟨_,rfl,rfl,hs⟩;simp[m1,m2,hs];simp[m1,hs]
 obtain⟨⟨s1,s2⟩,U,K,h3⟩:=Gb (P:=λs:List Int×Int=>s.1.length<=16) (f:=me c l) (g:=Cj c l y) l 0 (e.Rows,e.N) e2 λk x s hk _ hs=>by
  obtain⟨s',t1,t2,t3⟩:=Gb (P:=λs:List Int×Int=>s.1.length<=16) (f:=lj c k x) (g:=yJ c y k x) l 0 s hs λk2 x2 s hk2 _ hs=>step k x (by omega) k2 x2 s (by omega) hs;obtain⟨s3,s4⟩:=s;exact⟨s',by unfold me;dsimp only;rw[t1];rfl,by unfold Cj;dsimp only;rw[t2];rfl,t3⟩
 refine⟨⟨s2,s1⟩,?_,?_,h3⟩;unfold jX;rw[l1,aj,e1,aj,U];rfl;unfold r8;rw[l2,aj,y2,aj,Ge,e1,aj,K];rfl
theorem TA:∀ (n:Nat) (e q:Expr),jf n e=some q->jf (n+1) e=some q:=by
 intro n
 induction n with
 | zero=>intro e q h;cases h
 | succ n ih=>
  intro e q h;have h' : mV (jf n) e=some q:=h;show mV (jf (n+1)) e=some q;unfold mV at h' ⊢;obtain⟨s,U,K⟩:=bd h';rw[Gf (g:=rO (jf (n+1))) (λk x s q hq=>by
   unfold rO at hq ⊢;obtain⟨y,h3,h4⟩:=bd hq;rw[ih _ _ h3,aj];exact h4) _ _ _ _ U]
  exact K
theorem Xi:∀ (m:Nat) (e:Expr),dL e<=m->Sz.szd e<=1048576->jf m e=some e:=by
 intro m
 induction m with
 | zero=>intro e h;rw[pc] at h;omega
 | succ m ih=>
  intro e h hs;rw[pc] at h;have hl:∀ (l:List Expr) (i:Nat) (s:List Expr),(∀ x∈l,dL x<=m/\Sz.szd x<=1048576)->s.length+l.length<=4398046511->eachL (rO (jf m)) i l s=some (s++l):=by
   intro l
   induction l with
   | nil=>intro i s _ _;simp[eachL]
   | cons x l ihl=>
    intro i s hx Y;simp only[bE] at Y;have U:=ih x (hx x (by simp)).1 (hx x (by simp)).2;have e1:rO (jf m) i x s=some (s++[x]):=by
     unfold rO;rw[U,aj,aF (by constructor<;>omega)]
    simp only[eachL,e1,aj];rw[ihl _ _ (λy hy=>hx y (by simp[hy])) (by simp;omega)];simp
  show mV (jf m) e=some e;unfold mV;have K:=fQ e;have h3:=jj e.Args;rw[hl e.Args 0 [] (λx hx=>⟨by have:=Fx hx;omega,by have:=Ja hx;omega⟩) (by simp;omega),Ecz,aj];cases e;rfl
theorem AV {e:Expr}(h:Sz.szd e<=1048576):pL e=some e:=Kg (λn q=>TA n e q) (Xi _ e (Nat.le_refl _) h)
theorem Xh:BW=pL:=by
 have h:∀ n,rT n=jf n:=by
  intro n
  induction n with
  | zero=>rfl
  | succ n ih=>funext e;show ym (rT n) e=mV (jf n) e;rw[ih];rfl
 funext e;show cx (λn=>rT n e)=cx λn=>jf n e;congr 1;funext n;rw[h]
def nL:Expr:=⟨0,0,0,0,⟨#[]⟩,⟨#[]⟩,[]⟩
def bI (r:ae)(o:Oc):Expr×Bool:=match r.es_.find? λq=>decide (q.At=o) with
 | some q=>(q.Expr,true)
 | none=>(nL,false)
theorem pr {r:ae}{q:ba}(h:q∈r.es_):Sz.szd q.Expr<=Sz.szd r:=by
 have U:=pA r;have K:=yw q;have h3:=om h;have h4:=fQ q.Expr;omega
theorem JK {r:ae}(h:Sz.szd r<=1048576)(o:Oc):Sz.szd (bI r o).1<=1048576:=by
 unfold bI;cases hf:r.es_.find? (λq=>decide (q.At=o)) with
 | none=>show Sz.szd nL<=_;have:Sz.szd nL=0:=rfl;omega
 | some q=>have:=pr (Ebz hf);show Sz.szd q.Expr<=_;omega
theorem Bm {r:ae}(h:Sz.szd r<=1048576)(o:Oc):kC r o=some (bI r o):=by
 have key:∀ (l:List ba) (i:Nat),(∀ q∈l,Sz.szd q.Expr<=1048576)->findL (sx o) i l ()=some (match l.find? λq=>decide (q.At=o) with
   | some q=>.inr (q.Expr,true)
   | none=>.inl ()):=by
  intro l
  induction l with
  | nil=>intro i _;rfl
  | cons q l ih=>
   intro i hq;by_cases hp:q.At=o;simp[findL,sx,hp,AV (hq q (by simp))];simp[findL,sx,hp];exact ih _ λy hy=>hq y (by simp[hy])
 unfold kC bI;rw[key _ _ λq hq=>by have:=pr hq;omega];cases r.es_.find? (λq=>decide (q.At=o))<;>rfl
theorem JJ {r:ae}(h:Sz.szd r<=1048576)(o:Oc):kC r o=some (bI r o)/\sn r o=some (bI r o):=by
 have e:sn=kC:=by
  have e1:CM=sx:=by funext a k x u;unfold CM sx;rw[Xh]
  funext r o;unfold sn kC;rw[e1]
 rw[e];exact⟨Bm h o,Bm h o⟩
theorem XY:vS=nC:=by
 funext l o;unfold vS nC ml;have e:CY o=nE o:=by
  funext k x u;unfold CY nE;by_cases h:x=o;rw[ao h,ao h.symm];rw[an h,an λe=>h e.symm]
 rw[e];cases ((findL (nE o) 0 l ()).bind <| bg (λr1=>some r1) λ_=>some (-1))<;>rfl
theorem XX (l:List Oc)(o:Oc):∃ k,nC l o=some k:=by
 have h:ml l o=some (ej l o):=by
  unfold ml;refine FV λk x=>⟨λe=>?_,λe=>?_⟩
  unfold nE;rw[ao e.symm];unfold nE;rw[an (λh=>e h.symm)]
 exact⟨_,by unfold nC;rw[h];rfl⟩
theorem PG {r x:au}{i k:Int}(h:jD r i k=some x):x.N=r.N:=by
 unfold jD at h;obtain⟨y,U,h⟩:=bd h;have hy:y=r:=by unfold nq at U;obtain⟨_,U⟩:=pw U;exact (Option.some.inj U).symm
 subst hy;obtain⟨y2,_,h⟩:=bd h;obtain⟨s1,_,h⟩:=bd h;obtain⟨s2,_,h⟩:=bd h;by_cases hs:s2=true;rw[ao hs] at h;obtain⟨_,h⟩:=pw h;obtain⟨_,_,h⟩:=bd h;obtain⟨_,h⟩:=pw h;obtain⟨_,h⟩:=pw h;obtain⟨_,h⟩:=pw h;cases h;rfl;rw[an hs] at h;cases h;rfl
theorem VK (l:List Oc)(k:Nat):∀ (us:List Oc) (i:Nat) (rows:List Int) (n:Int),rows.length<=1048576 ->
  ∃ rows',eachL (qy l k) i us (rows,n)=some (rows',n)/\eachL (vE l (k:Int)) i us (rows,n)=some (rows',n)/\rows'.length=rows.length:=by
 intro us
 induction us with
 | nil=>intro i rows n _;exact⟨rows,rfl,rfl,rfl⟩
 | cons u us ih=>
  intro i rows n h;obtain⟨j,hj⟩:=XX l u;obtain⟨x,hx,hxl⟩:=Lf (r:=⟨n,rows⟩) h j (k:Int);have hN:=PG hx;obtain⟨rows',U,K,h3⟩:=ih (i+1) x.Rows n (by rw[hxl];exact h);have e1:qy l k i u (rows,n)=some (x.Rows,n):=by
   unfold qy;dsimp only;rw[hj,aj,Bp,hx,aj,hN]
  have e2:vE l (k:Int) i u (rows,n)=some (x.Rows,n):=by
   unfold vE;dsimp only;rw[XY,hj,aj,hx,aj,hN]
  exact⟨rows',by simp only[eachL,e1,aj];exact U,by simp only[eachL,e2,aj];exact K,h3.trans hxl⟩
theorem XW:attrs nL=[]:=by
 have:gp nL=[]:=by simp[nL,gp,gO]
 unfold attrs nN;rw[this];simp[eA]
theorem Ws {r:ae}(Z:Sz.szd r<=1048576)(l:List Oc)(hl:l.length<=16):∀ (m k:Nat) (rows:List Int) (n:Int),k+m=l.length->0<n->rows.length<=1048576 ->
  ∃ rows',eachL (qx r l) k (l.drop k) (rows,n)=some (rows',n)/\bK (mi r l) ((k:Int),rows,n)=some (rows',n)/\rows'.length=rows.length:=by
 intro m
 induction m with
 | zero=>
  intro k rows n hk hn h;refine⟨rows,by rw[List.drop_eq_nil_of_le (by omega)];rfl,c9 ?_,rfl⟩;unfold mi;dsimp only;rw[an (by omega)]
 | succ m ih=>
  intro k rows n hk hn h;obtain⟨x,hx⟩:∃ x,l[k]?=some x:=⟨_,Cmz (by omega)⟩
  have hd:l.drop k=x::l.drop (k+1):=by
   rw[List.drop_eq_getElem_cons (by omega)];have:l[k]=x:=by rw[Cmz (by omega)] at hx;exact Option.some.inj hx
   rw[this]
  obtain⟨E,B,hq⟩:∃ E B,bI r x=(E,B):=⟨_,_,rfl⟩
  obtain⟨rows1,U,K,h3⟩:=VK l k (attrs E) 0 rows n h;obtain⟨rows',k1,k2,k3⟩:=ih (k+1) rows1 n (by omega) hn (by omega);have hsz:=JK Z x;have hf:=JJ Z x;rw[hq] at hsz hf;have e1:qx r l k x (rows,n)=some (rows1,n):=by
   unfold qx;dsimp only;rw[hf.2,aj];dsimp only;rw[Fw hsz,aj,U];rfl
  have hin:(grd (0<=(k:Int)) <| (l[(k:Int).toNat]?).bind λx1=>(kC r x1).bind λ(y3,y4)=>if y4=true then ((oJ y3).bind λy5=>(eachL (vE l (k:Int)) 0 y5 (rows,n)).bind λ(s8,s9)=>some (s8,s9)) else some (rows,n))=some (rows1,n):=by
   rw[aF (by omega),b7,hx,aj,hf.1,aj];dsimp only;cases Y:B with
   | true=>rw[ao rfl,Ft hsz,aj,K,aj]
   | false=>
    have hz:E=nL:=by
     unfold bI at hq;cases hf:r.es_.find? (λq=>decide (q.At=x)) with
     | none=>rw[hf] at hq;cases hq;rfl
     | some q=>rw[hf] at hq;cases hq;cases Y
    rw[hz,XW] at U;simp only[eachL,Option.some.injEq,Prod.mk.injEq] at U;rw[an (by simp),U.1]
  have e2:mi r l ((k:Int),rows,n)=some (.inl (((k+1:Nat):Int),rows1,n)):=by
   unfold mi;dsimp only;rw[ao (by omega),ao hn,hin,aj];dsimp only;rw[aF (by constructor<;>omega)];rfl
  exact⟨rows',by rw[hd];simp only[eachL,e1,aj];exact k1,by rw[eS e2];exact k2,k3.trans h3⟩
theorem XV {g:al}{r:ae}(h:Sz.szd g<=1048576)(Z:Sz.szd r<=1048576):∃ x,qw g r=some x/\qu g r=some x/\x.Rows.length<=16:=by
 obtain⟨l,U,K,_⟩:=Bn (gJ h) (iv Z);have hem:∀ n:Nat,j6 (n:Int)=if n<=16 then some ⟨(n:Int),Bqz n 0⟩ else some ⟨0,[]⟩:=λn=>by
  unfold j6;rw[jS,aj];by_cases hn:n<=16;rw[ao (by simp;omega),aF (by omega),ao hn];rfl;rw[an (by simp;omega),an hn]
 unfold qw qu;rw[U,K,aj,aj,Ge,hem];by_cases hl:l.length<=16;rw[ao hl,aj,aj,an (by omega)];dsimp only;by_cases h0:l.length=0;have:l=[]:=List.eq_nil_of_length_eq_zero h0;subst this;have e:bK (mi r ([]:List Oc)) (0,Bqz ([]:List Oc).length 0,((([]:List Oc).length:Nat):Int))=some (Bqz ([]:List Oc).length 0,((([]:List Oc).length:Nat):Int)):=c9 (by unfold mi;dsimp only;rw[an (by simp)]);rw[e];exact⟨_,rfl,rfl,by simp⟩;obtain⟨rows',k1,k2,k3⟩:=Ws Z l hl l.length 0 (Bqz l.length 0) (l.length:Int) (by omega) (by omega) (by simp;omega);have k2' : bK (mi r l) (0,Bqz l.length 0,(l.length:Int))=some (rows',(l.length:Int)):=k2;rw[List.drop_zero] at k1;rw[k1,k2'];exact⟨_,rfl,rfl,by show rows'.length<=16;simp at k3;omega⟩;rw[an hl,aj,aj,ao (by omega)];have e:bK (mi r l) (0,([]:List Int),(0:Int))=some ([],0):=c9 (by unfold mi;dsimp only;rw[ao (by omega),an (by omega)]);rw[e];exact⟨_,rfl,rfl,by simp⟩
theorem ry {α β:Type}{p:α->Bool}{g:α->β}{B:Nat}{f:Nat->α->List β->Option (List β)}(hf:∀ k x s,s.length<B->f k x s=some (if p x=true then s++[g x] else s)):∀ (xs:List α) (i:Nat) (s:List β),s.length+xs.length<=B ->
  eachL f i xs s=some (s++(xs.filter p).map g)
 | [],i,s,_=>by simp[eachL]
 | x::xs,i,s,h=>by
  simp only[bE] at h;by_cases hp:p x=true;have ih:=ry hf xs (i+1) (s++[g x]) (by simp;omega);simp[eachL,hf i x s (by omega),hp,ih];have ih:=ry hf xs (i+1) s (by omega);simp[eachL,hf i x s (by omega),hp,ih]
theorem FE {α β:Type}{p:α->Bool}{g:Nat->β}{B:Nat}{f:Nat->α->List β->Option (List β)}(hf:∀ k x s,s.length<B->f k x s=some (if p x=true then s++[g k] else s)):∀ (xs:List α) (i:Nat) (s:List β),s.length+xs.length<=B ->
  eachL f i xs s=some (s++((xs.zipIdx i).filter λq=>p q.1).map λq=>g q.2)
 | [],i,s,_=>by simp[eachL]
 | x::xs,i,s,h=>by
  simp only[bE] at h;by_cases hp:p x=true;have ih:=FE hf xs (i+1) (s++[g i]) (by simp;omega);simp[eachL,hf i x s (by omega),hp,ih,List.zipIdx_cons];have ih:=FE hf xs (i+1) s (by omega);simp[eachL,hf i x s (by omega),hp,ih,List.zipIdx_cons]
theorem Ga {β:Type}{h:Nat->List β}{C n:Nat}{f:Nat->List β->Option (List β)}(hf:∀ k s,k<n->s.length<=k*C->f k s=some (s++h k))(hh:∀ k,k<n->(h k).length<=C) :
  ∀ (m k:Nat) (s:List β),k+m=n->s.length<=k*C->eachN f k m s=some (s++(Dbz k m).flatMap h)
 | 0,k,s,_,_=>by simp[eachN]
 | m+1,k,s,hk,hs=>by
  have hl:=hh k (by omega);have e:(k+1)*C=k*C+C:=Nat.succ_mul k C;have ih:=Ga hf hh m (k+1) (s++h k) (by omega) (by rw[Axz];omega);simp[eachN,hf k s (by omega) hs,ih,Edz]
theorem FD {β:Type}{h:Nat->List β}{C n:Nat}{f:(List β×Int)->Option ((List β×Int) ⊕ List β)}(hf:∀ (k:Nat) s,k<n->s.length<=k*C->f (s,(k:Int))=some (.inl (s++h k,((k+1:Nat):Int))))(he:∀ s,f (s,(n:Int))=some (.inr s))(hh:∀ k,k<n->(h k).length<=C) :
  ∀ (m k:Nat) (s:List β),k+m=n->s.length<=k*C->bK f (s,(k:Int))=some (s++(Dbz k m).flatMap h)
 | 0,k,s,hk,_=>by
  obtain rfl:k=n:=by omega
  rw[c9 (he s)];simp
 | m+1,k,s,hk,hs=>by
  have hl:=hh k (by omega);have e:(k+1)*C=k*C+C:=Nat.succ_mul k C;have ih:=FD hf he hh m (k+1) (s++h k) (by omega) (by rw[Axz];omega);rw[eS (hf k s (by omega) hs),ih];simp[Edz]
abbrev ee (g:al):Prop:=∀ y∈g.ss_,y.as_.length<=1048576
def zS:ah:=⟨⟨#[]⟩,[]⟩
def zA:aG:=⟨⟨#[]⟩,0,0,false⟩
def bM (g:al)(s:ar):ah×Bool:=match g.ss_.find? λy=>decide (y.Name=s) with
 | some y=>(y,true)
 | none=>(zS,false)
def eY (y:ah)(s:ar):aG×Bool:=match y.as_.find? λa=>decide (a.Name=s) with
 | some a=>(a,true)
 | none=>(zA,false)
theorem l7 {g:al}(h:ee g)(s:ar):iK g s=some (bM g s):=by
 have U:=pN (p:=λy:ah=>decide (y.Name=s)) (r:=λy=>(y,true)) (xs:=g.ss_) (i:=0) (f:=vB s) λk y hy=>by
  have hg:qb y=some y:=by
   unfold qb;have:=h y hy;rw[aF (by simp only[Dyz];constructor<;>omega)]
  unfold vB;rw[hg];constructor<;>intro hp<;>simp_all
 unfold iK bM;rw[U];cases hf:g.ss_.find? (λy:ah=>decide (y.Name=s)) with
 | none=>rfl
 | some y=>rfl
theorem pI (g:al)(s:ar):kD g s=some (bM g s):=by
 have K:=pN (p:=λy:ah=>decide (y.Name=s)) (r:=λy=>(y,true)) (xs:=g.ss_) (i:=0) (f:=u6 s) λk y hy=>by
  unfold u6;constructor<;>intro hp<;>simp_all
 unfold kD bM;rw[K];cases hf:g.ss_.find? (λy:ah=>decide (y.Name=s)) with
 | none=>rfl
 | some y=>rfl
theorem pH {g:al}(h:ee g)(s:ar):(bM g s).1.as_.length<=1048576:=by
 unfold bM;cases hf:g.ss_.find? (λy:ah=>decide (y.Name=s)) with
 | none=>simp[zS]
 | some y=>exact h y (Ebz hf)
theorem xq (y:ah)(s:ar):qv y s=some (eY y s):=by
 have K:=pN (p:=λy:aG=>decide (y.Name=s)) (r:=λy=>(y,true)) (xs:=y.as_) (i:=0) (f:=CR s) λk y hy=>by
  unfold CR;constructor<;>intro hp<;>simp_all
 unfold qv eY;rw[K];cases hf:y.as_.find? (λy:aG=>decide (y.Name=s)) with
 | none=>rfl
 | some y=>rfl
theorem xp (y:ah)(s:ar):mh y s=some (eY y s):=xq y s
def cn (r:ae)(k:Int):ar:=if k=0 then r.Left else if 1<=k/\k<=(r.rt_.length:Int) then r.rt_.getD (k-1).toNat ⟨#[]⟩ else ⟨#[]⟩
abbrev fB (r:ae):Prop:=r.rt_.length<=1048576
theorem mO {r:ae}(hl:fB r)(k:Int):iM r k=some (cn r k):=by
 unfold iM cn;by_cases h0:k=0;rw[ao h0,ao h0];rw[an h0,an h0,gw,aj];by_cases U:1<=k/\k<=(r.rt_.length:Int);rw[ao (by simpa using U),ao U,aF (by constructor<;>omega),aF (by omega)];have:(k-1).toNat<r.rt_.length:=by omega
 rw[Cmz this,List.getD_eq_getElem?_getD,Cmz this];rfl;rw[an (by simpa using U),an U]
theorem wO {r:ae}(hl:fB r)(k:Int):lb r k=some (cn r k):=by rw[Gc,mO hl]
def gv (g:al)(r:ae)(o:Oc):aG×Bool:=if 0<=o.Pos/\o.Pos<=(r.rt_.length:Int) then eY (bM g (cn r o.Pos)).1 o.Name else (zA,false)
theorem F9 (g:al){r:ae}(hl:fB r)(o:Oc):qi g r o=some (gv g r o):=by
 unfold qi gv;rw[pa,aj];by_cases h0:0<=o.Pos/\o.Pos<=(r.rt_.length:Int);rw[ao (by simpa using h0),ao h0,wO hl,aj,pI,aj];dsimp only;rw[xq];rfl;rw[an (by simpa using h0),an h0];rfl
def fK (g:al)(r:ae)(o:Oc):Bool:=(gv g r o).2&&decide ((gv g r o).1.Mode=if o.Pos=0 then 1 else 2)
theorem Tz (g:al){r:ae}(hl:fB r)(o:Oc):tV g r o=some (fK g r o):=by
 unfold tV fK;rw[F9 g hl,aj];dsimp only;by_cases h0:o.Pos=0;rw[ao h0,ao h0];by_cases U:(gv g r o).2=true;rw[ao U,U];rfl;rw[an U,Bool.eq_false_iff.2 U];rfl;rw[an h0,an h0];by_cases U:(gv g r o).2=true;rw[ao U,U];rfl;rw[an U,Bool.eq_false_iff.2 U];rfl
theorem Ty {g:al}(h:ee g){r:ae}(hl:fB r)(o:Oc):tX g r o=some (fK g r o):=by
 unfold tX fK gv;rw[gw,aj];by_cases hp:0<=o.Pos/\o.Pos<=(r.rt_.length:Int);rw[ao (by simpa using hp),ao hp,mO hl,aj,l7 h,aj];dsimp only;rw[xp,aj]
 skip
 by_cases h0:o.Pos=0;rw[ao h0,ao h0];by_cases U:(eY (bM g (cn r o.Pos)).1 o.Name).2=true;rw[ao U,U];rfl;rw[an U,Bool.eq_false_iff.2 U];rfl;rw[an h0,an h0];by_cases U:(eY (bM g (cn r o.Pos)).1 o.Name).2=true;rw[ao U,U];rfl;rw[an U,Bool.eq_false_iff.2 U];rfl;rw[an (by simpa using hp),an hp];rfl
def eR (g:al)(r:ae)(k:Nat):List Oc:=((bM g (cn r (k:Int))).1.as_.filter λa=>decide (a.Mode=if (k:Int)=0 then 2 else 1)).map λa=>(⟨(k:Int),a.Name⟩:Oc)
def cB (g:al)(r:ae):List Oc:=(Dbz 0 (r.rt_.length+1)).flatMap (eR g r)
theorem Lb {g:al}(h:ee g)(r:ae)(k:Nat):(eR g r k).length<=1048576:=by
 unfold eR;rw[bh];exact Nat.le_trans (List.length_filter_le _ _) (pH h _)
theorem JI {g:al}(h:ee g){r:ae}(hl:fB r):rV g r=some (cB g r):=by
 have hl' : r.rt_.length<=1048576:=hl;have key:=Ga (h:=eR g r) (C:=1048576) (n:=r.rt_.length+1) (f:=Ce g r) (λk s hk hs=>by
  have hin:∀ m:Int,eachL (Cf k m) 0 (bM g (cn r (k:Int))).1.as_ s=some (s++((bM g (cn r (k:Int))).1.as_.filter λa=>decide (a.Mode=m)).map λa=>(⟨(k:Int),a.Name⟩:Oc)):=λm=>
   ry (B:=4398046511104) (λj x s hs=>by
    unfold Cf;by_cases hm:x.Mode=m;rw[ao hm,ao (by simpa using hm),aF (by constructor<;>omega)];rfl;rw[an hm,an (by simpa using hm)];rfl) _ 0 s (by have:=pH h (cn r (k:Int));omega)
  unfold Ce eR;by_cases h0:(k:Int)=0;rw[ao h0,ao h0,aj,wO hl,aj,pI,aj];dsimp only;rw[hin];rfl;rw[an h0,an h0,aj,wO hl,aj,pI,aj];dsimp only;rw[hin];rfl) (λk _=>Lb h r k) (r.rt_.length+1) 0 [] (by omega) (by simp)
 unfold rV;rw[aF (by constructor<;>omega),key];rfl
theorem EB {g:al}(h:ee g){r:ae}(hl:fB r):qz g r=some (cB g r):=by
 have hl' : r.rt_.length<=1048576:=hl;have key:=FD (h:=eR g r) (C:=1048576) (n:=r.rt_.length+1) (f:=vT g r) (λk s hk hs=>by
  have hin2:eachL (C6 (k:Int)) 0 (bM g (cn r (k:Int))).1.as_ s=some (s++((bM g (cn r (k:Int))).1.as_.filter λa=>decide (a.Mode=2)).map λa=>(⟨(k:Int),a.Name⟩:Oc)):=
   ry (B:=4398046511104) (λj x s hs=>by
    unfold C6;by_cases hm:x.Mode=2;rw[ao hm,ao (by simpa using hm),aF (by constructor<;>omega)];rfl;rw[an hm,an (by simpa using hm)];rfl) _ 0 s (by have:=pH h (cn r (k:Int));omega)
  have hin1:eachL (C5 (k:Int)) 0 (bM g (cn r (k:Int))).1.as_ s=some (s++((bM g (cn r (k:Int))).1.as_.filter λa=>decide (a.Mode=1)).map λa=>(⟨(k:Int),a.Name⟩:Oc)):=
   ry (B:=4398046511104) (λj x s hs=>by
    unfold C5;by_cases hm:x.Mode=1;rw[ao hm,ao (by simpa using hm),aF (by constructor<;>omega)];rfl;rw[an hm,an (by simpa using hm)];rfl) _ 0 s (by have:=pH h (cn r (k:Int));omega)
  unfold vT eR;dsimp only;rw[ao (by omega),mO hl,aj,l7 h,aj]
  skip
  by_cases h0:(k:Int)=0;rw[ao h0,ao h0,hin2,aj,aj,aF (by constructor<;>omega)];rfl;rw[an h0,an h0,hin1,aj,aj,aF (by constructor<;>omega)];rfl) (λs=>by
  unfold vT;dsimp only;rw[an (by omega)]) (λk _=>Lb h r k) (r.rt_.length+1) 0 [] (by omega) (by simp)
 unfold qz;have e:bK (vT g r) (([]:List Oc),0)=some ([]++(Dbz 0 (r.rt_.length+1)).flatMap (eR g r)):=key;rw[e];rfl
theorem ll {α:Type}{q:α->Bool}{xs:List α}{f:Nat->α->Unit->Option (Unit ⊕ Int)}(h:∀ k x,x∈xs->f k x ()=some (if q x=true then .inr (k:Int) else .inl ())) :
  ((findL f 0 xs ()).bind <| bg (λr1=>some r1) λ_=>some (-1)).bind (λy1=>some (decide (0<=y1)))=some (xs.any q):=by
 rw[FU h];cases hq:xs.any q with
 | true=>
  have:(0:Int)<=((0+xs.findIdx q:Nat):Int):=Int.natCast_nonneg _;rw[ao rfl,aj,rq,aj,decide_eq_true this]
 | false=>rfl
def dQ {α:Type}(bad:List α->α->Bool):List α->List α->Option Nat
 | _,[]=>none
 | pre,x::xs=>if bad pre x=true then some pre.length else dQ bad (pre++[x]) xs
theorem ua {α β ρ:Type}{bad:List α->α->Bool}{nm:α->β}{c:Nat->ρ}{all:List α}{f:Nat->α->Unit->Option (Unit ⊕ ρ)}{h:Nat->α->List β->Option (List β ⊕ ρ)}
  (hf:∀ pre x post,all=pre++x::post->f pre.length x ()=some (if bad pre x=true then .inr (c pre.length) else .inl ()))
  (hh:∀ pre x post,all=pre++x::post->h pre.length x (pre.map nm)=some (if bad pre x=true then .inr (c pre.length) else .inl ((pre++[x]).map nm))) :
  ∀ (ys pre:List α),all=pre++ys->findL f pre.length ys ()=some (match dQ bad pre ys with|none=>.inl ()|some k=>.inr (c k)) /\
   findL h pre.length ys (pre.map nm)=some (match dQ bad pre ys with|none=>.inl (all.map nm)|some k=>.inr (c k))
 | [],pre,e=>by
  rw[List.append_nil] at e;subst e;exact⟨rfl,rfl⟩
 | x::ys,pre,e=>by
  have U:=hf pre x ys e;have K:=hh pre x ys e;by_cases Y:bad pre x=true;rw[ao Y] at U K;simp only[findL,U,K,dQ,Y,if_true,aj];exact⟨trivial,trivial⟩;rw[an Y] at U K;have ih:=ua hf hh ys (pre++[x]) (by rw[e];simp);simp only[Axz,bE,Dyz,Nat.zero_add] at ih;simp only[findL,U,K,dQ,Y,aj];exact ih
theorem La {α:Type}{a:α->Bool}{b:List α->α->Bool}:∀ (xs pre:List α),(dQ (λp x=>a x||b p x) pre xs).isNone=(xs.all (λx=>!a x)&&(dQ b pre xs).isNone)
 | [],pre=>rfl
 | x::xs,pre=>by
  have ih:=La (a:=a) (b:=b) xs (pre++[x]);simp only[dQ,List.all_cons];by_cases ha:a x=true;simp[ha];by_cases Y:b pre x=true;simp[ha,Y];simpa[ha,Y] using ih
def dC {α:Type}(nm:α->ar)(pre:List α)(x:α):Bool:=pre.any λo=>decide (nm o=nm x)
def qN {α:Type}(nm:α->ar)(xs:List α):Bool:=(dQ (dC nm) [] xs).isNone
theorem Mx {α:Type}{nm:α->ar}:∀ (xs pre:List α),(dQ (dC id) (pre.map nm) (xs.map nm))=dQ (dC nm) pre xs
 | [],pre=>rfl
 | x::xs,pre=>by
  have ih:=Mx (nm:=nm) xs (pre++[x]);have e:dC id (pre.map nm) (nm x)=dC nm pre x:=by simp[dC,List.any_map,Function.comp_def]
  rw[List.map_cons,dQ,dQ,e,bh];rw[List.map_append] at ih;rw[show [nm x]=[x].map nm from rfl,ih]
theorem tE {α ρ:Type}{bad:List α->α->Bool}{c:Nat->ρ}{all:List α}{f:Nat->α->Unit->Option (Unit ⊕ ρ)}
  (hf:∀ pre x post,all=pre++x::post->f pre.length x ()=some (if bad pre x=true then .inr (c pre.length) else .inl ())) :
  ∀ (ys pre:List α),all=pre++ys->findL f pre.length ys ()=some (match dQ bad pre ys with|none=>.inl ()|some k=>.inr (c k)):=λys pre e=>
 (ua (nm:=λ_=>()) (h:=λk x s=>(f k x ()).map λ|.inl _=>.inl (s++[()])|.inr r=>.inr r) hf (λpre x post e=>by
  rw[hf pre x post e];by_cases Y:bad pre x=true;rw[ao Y,ao Y];rfl;rw[an Y,an Y];simp) ys pre e).1
theorem Ec (l:List ar)(s:ar):lY l s=some (l.any λo=>decide (o=s)):=by
 unfold lY;rw[gz (c:=true) (q:=λo=>!decide (o=s)) λk x hx=>by
  unfold xE;by_cases h:x=s;rw[ao h,an (by simp[h])];rw[an h,ao (by simp[h])]]
 have e:(l.all λo=>!decide (o=s))=!(l.any λo=>decide (o=s)):=by rw[List.not_any_eq_all_not]
 rw[e];cases l.any λo=>decide (o=s)<;>rfl
theorem XU (l:List ar):vz l=some (qN id l):=by
 unfold vz qN;rw[show findL (zl l) 0 l ()=_ from tE (bad:=dC id) (c:=λ_=>false) (all:=l) (f:=zl l) (λpre x post e=>by
  unfold zl;rw[aF (by rw[e];simp),show l.take pre.length=pre by rw[e];simp,Ec,aj,← apply_ite some];rfl) l [] rfl]
 cases dQ (dC id) [] l<;>rfl
def gj (a:aG):Bool:=dj a.Name&&(decide (1<=a.t__/\a.t__<=4)&&(decide (1<=a.Mode/\a.Mode<=3)&&if a.Mode=3 then decide (a.t__=2) && !a.Circular else !a.Circular||decide (a.t__=2)))
theorem Wr (a:aG):vL a=some (gj a):=by
 unfold vL gj rB;rw[mS,aj];cases dj a.Name with
 | false=>rfl
 | true=>
  rw[ao rfl,pa,aj,aj,aj];by_cases U:1<=a.t__/\a.t__<=4;rw[decide_eq_true U,Eez,an (by simp),pa,aj,aj];by_cases K:1<=a.Mode/\a.Mode<=3;rw[decide_eq_true K,Eez,an (by simp)];by_cases h3:a.Mode=3;rw[ao h3,ao h3];by_cases h4:a.t__=2;rw[ao h4,decide_eq_true h4];simp;rw[an h4,decide_eq_false h4];rfl;rw[an h3,an h3];cases hc:a.Circular with
  | true=>rw[ao rfl];simp
  | false=>rw[an (by simp)];simp
  rw[decide_eq_false K];rfl;rw[decide_eq_false U];rfl
theorem Wq (a:aG):vM a=some (gj a):=by
 unfold vM gj;rw[kS,aj];cases dj a.Name with
 | false=>rfl
 | true=>
  rw[ao rfl,gw,aj,aj];by_cases U:1<=a.t__/\a.t__<=4;rw[decide_eq_true U,Eez,an (by simp),gw,aj,aj];by_cases K:1<=a.Mode/\a.Mode<=3;rw[decide_eq_true K,Eez,an (by simp)];by_cases h3:a.Mode=3;rw[ao h3,ao h3];by_cases h4:a.t__=2;rw[ao h4,decide_eq_true h4];cases hc:a.Circular with
  | true=>rfl
  | false=>rfl
  rw[an h4,decide_eq_false h4];rfl;rw[an h3,an h3];cases hc:a.Circular with
  | true=>simp
  | false=>simp
  rw[decide_eq_false K];rfl;rw[decide_eq_false U];rfl
def symB (s:ah):Bool:=s.as_.all gj&&(dj s.Name&&(decide (s.as_.length<=4)&&qN (λa:aG=>a.Name) s.as_))
theorem VJ (s:ah):vH s=some (symB s):=by
 unfold vH symB;rw[show findL (zr s) 0 s.as_ ()=_ from tE (bad:=λp x=>!gj x||dC (λa:aG=>a.Name) p x) (c:=λ_=>false) (all:=s.as_) (f:=zr s) (λpre x post e=>by
  unfold zr;rw[Wr,aj];cases gj x with
  | false=>rfl
  | true=>
   rw[ao rfl,aF (by rw[e];simp),show s.as_.take pre.length=pre by rw[e];simp];unfold zK Af;rw[ll (q:=λo:aG=>decide (o.Name=x.Name)) λk y hy=>by
    unfold H8 zp;rw[aj];by_cases h:y.Name=x.Name;rw[decide_eq_true h];rfl;rw[decide_eq_false h];rfl]
   rw[aj,← apply_ite some];rfl) s.as_ [] rfl]
 have hor:=La (a:=λx:aG=>!gj x) (b:=dC (λa:aG=>a.Name)) s.as_ [];simp only[Bool.not_not] at hor;have e2:(s.as_.all λx=>gj x)=s.as_.all gj:=rfl;unfold qN;rw[e2] at hor;cases Y:dQ (λp x=>!gj x||dC (λa:aG=>a.Name) p x) [] s.as_ with
 | some k=>
  rw[Y] at hor;show some false=_;have:(s.as_.all gj&&(dQ (dC λa:aG=>a.Name) [] s.as_).isNone)=false:=hor.symm;congr 1;cases U:s.as_.all gj with
  | false=>rfl
  | true=>rw[U] at this;simp at this;simp[this]
 | none=>
  rw[Y] at hor;have:(s.as_.all gj&&(dQ (dC λa:aG=>a.Name) [] s.as_).isNone)=true:=hor.symm;rw[Bool.and_eq_true] at this;show ((iN s.Name).bind _)=_;rw[mS,aj,this.1,this.2];cases dj s.Name with
  | false=>rfl
  | true=>
   rw[ao rfl,aj];congr 1;simp;omega
theorem VI {s:ah}(h:s.as_.length<=1048576):vJ s=some (symB s):=by
 unfold vJ symB;have hloop:∀ (ys:List aG) (i:Nat) (t:List ar),t.length+ys.length<=1048576->findL zn i ys t=some (if ys.all gj=true then .inl (t++ys.map λa=>a.Name) else .inr false):=by
  intro ys
  induction ys with
  | nil=>intro i t _;simp[findL]
  | cons y ys ih=>
   intro i t ht;simp only[bE] at ht;simp only[findL];have e:zn i y t=some (if gj y=true then .inl (t++[y.Name]) else .inr false):=by
    unfold zn;rw[Wq,aj];cases gj y with
    | false=>rfl
    | true=>rw[ao rfl,ao rfl,aF (by constructor<;>omega)]
   rw[e,aj];by_cases hy:gj y=true;rw[ao hy,show (y::ys).all gj=ys.all gj by simp[hy]];dsimp only;rw[ih _ _ (by simp;omega)];simp;rw[an hy,show (y::ys).all gj=false by simp[hy]];rfl
 rw[hloop _ _ _ (by simpa using h)];cases hA:s.as_.all gj with
 | false=>rfl
 | true=>
  rw[ao rfl,aj,mP,Ecz,kS,aj];cases dj s.Name with
  | false=>rfl
  | true=>
   rw[ao rfl,aj,bh];by_cases hl:s.as_.length<=4;rw[decide_eq_true (by omega:(s.as_.length:Int)<=4),ao rfl,XU,aj,aj,decide_eq_true hl];have:=Mx (nm:=λa:aG=>a.Name) s.as_ [];unfold qN;rw[List.map_nil] at this;rw[this];rfl;rw[decide_eq_false (by omega:¬ (s.as_.length:Int)<=4),an (by simp),decide_eq_false hl];rfl
end Go.Proofs.YtodhafdaelcnlaaGreat
