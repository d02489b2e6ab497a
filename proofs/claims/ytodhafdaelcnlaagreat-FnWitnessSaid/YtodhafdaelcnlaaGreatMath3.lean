/- What those partial functions come to: plain lemmas on data; each bears its conditions in its statement. -/
import Derived.Test.YtodhafdaelcnlaaGreatMath2
set_option linter.unusedVariables false
set_option linter.unusedSimpArgs false
set_option linter.ambiguousOpen false
set_option linter.unusedSectionVars false
set_option linter.unnecessarySimpa false
open List renaming length_nil->Dyz,mem_of_find?_eq_some->Ecz,nil_append->Edz,getElem?_eq_getElem->Cmz,range'->Dbz,range'_succ->Eez,length_append->Axz,replicate->Bqz
open Bool renaming not_true->Efz
namespace Go.Proofs.YtodhafdaelcnlaaGreat
open Go Go.E
theorem pz {α ρ:Type}{p:α->Bool}{r:α->ρ}:∀ {xs:List α} {i:Nat} {f:Nat->α->Unit->Option (Unit ⊕ ρ)},(∀ k x,x∈xs->(p x=true->f k x ()=some (.inr (r x)))/\(p x=false->f k x ()=some (.inl ()))) ->
  findL f i xs ()=some (match xs.find? p with|some x=>.inr (r x)|none=>.inl ())
 | [],_,_,_=>rfl
 | x::xs,i,f,h=>by
  have h0:=h i x (by simp);cases hp:p x with
  | true=>simp[findL,h0.1 hp,List.find?,hp]
  | false=>
   have ih:=pz (p:=p) (r:=r) (xs:=xs) (i:=i+1) (f:=f) λk y hy=>h k y (by simp[hy]);simp[findL,h0.2 hp,List.find?,hp,ih]
theorem rK {α β:Type}{p:α->Bool}{g:Nat->α->β}{B:Nat}{f:Nat->α->List β->Option (List β)}(hf:∀ k x s,s.length<B->f k x s=some (if p x=true then s++[g k x] else s)):∀ (xs:List α) (i:Nat) (s:List β),s.length+xs.length<=B ->
  ∃ ys,eachL f i xs s=some (s++ys)/\ys.length<=xs.length
 | [],i,s,_=>⟨[],by simp[eachL],by simp⟩
 | x::xs,i,s,h=>by
  simp only[bC] at h;by_cases hp:p x=true;obtain⟨ys,U,K⟩:=rK hf xs (i+1) (s++[g i x]) (by simp;omega);exact⟨g i x::ys,by simp[eachL,hf i x s (by omega),hp,U],by simp;omega⟩;obtain⟨ys,U,K⟩:=rK hf xs (i+1) s (by omega);exact⟨ys,by simp[eachL,hf i x s (by omega),hp,U],by simp;omega⟩
theorem gC (x lo hi:Int):cX x lo hi=some (decide (lo<=x/\x<=hi)):=by
 unfold cX;split<;>simp_all<;>omega
theorem oO (x lo hi:Int):dA x lo hi=some (decide (lo<=x/\x<=hi)):=by
 unfold dA;split<;>simp_all<;>omega
theorem FO (r:ae)(k:Int):kR r k=iB r k:=by
 unfold kR iB;rw[gC,oO]
def sI (a:aI):Bool:=decide (a.Mode=1∨a.Mode=2)
theorem MO:Hy=qa:=rfl
theorem G0:mX=p9:=rfl
theorem WC {g:al}(h:∀ y∈g.ss_,y.as_.length<=1048576)(s:ar):∃ y b,iA g s=some (y,b)/\kg g s=some (y,b)/\y.as_.length<=1048576:=by
 have U:=pz (p:=λy:ah=>decide (y.Name=s)) (r:=λy=>(y,true)) (xs:=g.ss_) (i:=0) (f:=ve s) λk y hy=>by
  have hg:pQ y=some y:=by
   unfold pQ;have:=h y hy;rw[aE (by simp only[Dyz];constructor<;>omega)]
  unfold ve;rw[hg];constructor<;>intro hp<;>simp_all
 have K:=pz (p:=λy:ah=>decide (y.Name=s)) (r:=λy=>(y,true)) (xs:=g.ss_) (i:=0) (f:=u3 s) λk y hy=>by
  unfold u3;constructor<;>intro hp<;>simp_all
 unfold iA kg;rw[U,K];cases hf:g.ss_.find? (λy:ah=>decide (y.Name=s)) with
 | none=>exact⟨_,_,rfl,rfl,by simp⟩
 | some y=>exact⟨_,_,rfl,rfl,h y (Ecz hf)⟩
theorem uh {g:al}(h:∀ y∈g.ss_,y.as_.length<=1048576)(s:ar):∃ l,ox g s=some l/\kV g s=some l/\l.length<=1048576:=by
 obtain⟨y,b,U,K,h3⟩:=WC h s;obtain⟨l,h4,h5⟩:=rK (p:=sI) (g:=λ_ x=>x) (B:=1048577) (f:=qa) (λk x s hs=>by
  have hg:((s.length:Int)+1)*40<=140737488355328/\(s.length:Int)+1<=9223372036854775807:=by constructor<;>omega
  unfold qa sI;rw[aE hg];by_cases m1:x.Mode=1;rw[ao m1,ao (by simp[m1])];rfl;rw[an m1];by_cases m2:x.Mode=2;rw[ao m2,ao (by simp[m2])];rfl;rw[an m2,an (by simp[m1,m2])];rfl) y.as_ 0 [] (by simp;omega)
 simp only[Edz] at h4;refine⟨l,?_,?_,by omega⟩;unfold ox;rw[U];dsimp only[aj];rw[h4];rfl;unfold kV;rw[K];dsimp only[aj];rw[MO,h4];rfl
theorem MA (r:ae)(k:Nat)(hk:k<=r.rt_.length)(hl:r.rt_.length<=1048576):∃ x,iB r (k:Int)=some x:=by
 unfold iB;by_cases h0:(k:Int)=0;exact⟨_,ao h0⟩;rw[an h0,gC,aj,ao (by simp;omega),aE (by constructor<;>omega),aE (by omega)];obtain⟨x,hx⟩:∃ x,r.rt_[((k:Int)-1).toNat]?=some x:=⟨_,Cmz (by omega)⟩
 exact⟨x,by rw[hx];rfl⟩
theorem WB (k:Nat)(B:Nat)(hB:B<=4398046511104):∀ (l:List aI) (i:Nat) (s:List Oc),s.length+l.length<=B->∃ ys,eachL (ou k) i l s=some (s++ys)/\ys.length<=l.length:=λl i s h=>
 rK (p:=λ_=>true) (g:=λ_ x=>(⟨(k:Int),x.Name⟩:Oc)) (B:=B) (f:=ou k) (λj x s hs=>by
  have hg:((s.length:Int)+1)*24<=140737488355328/\(s.length:Int)+1<=9223372036854775807:=by constructor<;>omega
  unfold ou;rw[aE hg,ao rfl]) l i s h
theorem Kd (k:Nat):Hn (k:Int)=ou k:=rfl
theorem A5 {g:al}{r:ae}(h:∀ y∈g.ss_,y.as_.length<=1048576)(Z:r.rt_.length<=1048576):∃ l,mV g r=some l/\kU g r=some l/\l.length<=1099512676352:=by
 have key:∀ m k (s:List Oc),k+m=r.rt_.length+1->s.length<=k*1048576->∃ l,eachN (jO g r) k m s=some l/\bA (l7 g r) (s,(k:Int))=some l/\l.length<=(k+m)*1048576:=by
  intro m
  induction m with
  | zero=>
   intro k s hk hs;refine⟨s,rfl,cF ?_,by simpa using hs⟩;unfold l7;dsimp only;rw[an (by omega)]
  | succ m ih=>
   intro k s hk hs;obtain⟨x,hx⟩:=MA r k (by omega) Z;obtain⟨p,hp1,hp2,hp3⟩:=uh h x;obtain⟨ys,hy1,hy2⟩:=WB k 4398046511104 (by omega) p 0 s (by omega);obtain⟨l,U,K,h3⟩:=ih (k+1) (s++ys) (by omega) (by simp;omega);refine⟨l,?_,?_,by rw[show k+(m+1)=k+1+m by omega];exact h3⟩;have e:jO g r k s=some (s++ys):=by
    unfold jO;rw[FO,hx,aj,hp2,aj,hy1];rfl
   simp only[eachN,e,aj];exact U;have e:l7 g r (s,(k:Int))=some (.inl (s++ys,((k+1:Nat):Int))):=by
    unfold l7;dsimp only;rw[ao (by omega),hx,aj,hp1,aj,Kd,hy1,aj,aE (by constructor<;>omega)];rfl
   rw[eh e];exact K
 obtain⟨l,U,K,h3⟩:=key (r.rt_.length+1) 0 [] (by omega) (by simp);refine⟨l,?_,?_,by omega⟩;unfold mV;have e:bA (l7 g r) (([]:List Oc),0)=some l:=K;rw[e];rfl;unfold kU;rw[aE (by constructor<;>omega),U];rfl
theorem UH {g:al}{r:ae}(k:Int)(h:∀ y∈g.ss_,y.as_.length<=1048576)(Z:r.rt_.length<=1048576):∃ l,p8 g r k=some l/\lZ g r k=some l/\l.length<=1099512676352:=by
 obtain⟨o,U,K,h3⟩:=A5 h Z;obtain⟨l,h4,h5⟩:=rK (p:=λx:Oc=>decide (x.Pos=k)) (g:=λi _=>((i:Nat):Int)) (B:=4398046511104) (f:=p9 k) (λi x s hs=>by
  have hg:((s.length:Int)+1)*8<=140737488355328/\(s.length:Int)+1<=9223372036854775807:=by constructor<;>omega
  unfold p9;rw[aE hg];by_cases m1:x.Pos=k;rw[ao m1,ao (by simp[m1])];rfl;rw[an m1,an (by simp[m1])];rfl) o 0 [] (by simp;omega)
 simp only[Edz] at h4;refine⟨l,?_,?_,by omega⟩;unfold p8;rw[U];dsimp only[aj];rw[h4];rfl;unfold lZ;rw[K];dsimp only[aj];rw[G0,h4];rfl
theorem AD {α:Type}[Sz α]{x:α}:∀ {l:List α},x∈l->Sz.szd x<=bQ l
 | [],h=>by simp at h
 | y::l,h=>by
  rcases List.mem_cons.1 h with rfl|h;simp only[bQ];omega;have:=AD h;simp only[bQ];omega
theorem gZ {g:al}(h:Sz.szd g<=1048576):∀ y∈g.ss_,y.as_.length<=1048576:=λy hy=>by
 have U:=AD hy;have K:=MX y;have h3:=xN g;have h4:=iW y.as_;omega
theorem iv {r:ae}(h:Sz.szd r<=1048576):r.rt_.length<=1048576:=by
 have U:=pd r;have K:=iW r.rt_;omega
theorem NR {α σ:Type}{f:Nat->α->σ->Option σ}:∀ (xs ys:List α) (i:Nat) (s:σ),eachL f i (xs++ys) s=(eachL f i xs s).bind λt=>eachL f (i+xs.length) ys t
 | [],ys,i,s=>rfl
 | x::xs,ys,i,s=>by
  simp only[List.cons_append,eachL];cases f i x s with
  | none=>rfl
  | some t=>simp only[aj];rw[NR xs ys (i+1) t,bC,show i+1+xs.length=i+(xs.length+1) by omega]
theorem tA (k:Nat):∀ (l:List aI) (i:Nat) (s:List Oc),s.length+l.length<=4398046511104->eachL (ou k) i l s=some (s++l.map λx=>(⟨(k:Int),x.Name⟩:Oc))
 | [],i,s,_=>by simp[eachL]
 | x::l,i,s,h=>by
  simp only[bC] at h;have hg:((s.length:Int)+1)*24<=140737488355328/\(s.length:Int)+1<=9223372036854775807:=by constructor<;>omega
  have e:ou k i x s=some (s++[(⟨(k:Int),x.Name⟩:Oc)]):=by unfold ou;rw[aE hg]
  simp only[eachL,e,aj];rw[tA k l (i+1) _ (by simp;omega)];simp
theorem Ta {g:al}{r:ae}(h:∀ y∈g.ss_,y.as_.length<=1048576)(Z:r.rt_.length<=1048576){l:List aI}{o:List Oc}(hl:kV g r.Left=some l)(ho:kU g r=some o) :
  ∃ ys,o=(l.map λx=>(⟨0,x.Name⟩:Oc))++ys:=by
 have key:∀ m k (s:List Oc),k+m=r.rt_.length+1->s.length<=k*1048576->∀ q,eachN (jO g r) k m s=some q->∃ ys,q=s++ys:=by
  intro m
  induction m with
  | zero=>intro k s _ _ q hq;cases hq;exact⟨[],by simp⟩
  | succ m ih=>
   intro k s hk hs q hq;obtain⟨x,hx⟩:=MA r k (by omega) Z;obtain⟨p,hp1,hp2,hp3⟩:=uh h x;have hy:=tA k p 0 s (by omega);have e:jO g r k s=some (s++p.map λx=>(⟨(k:Int),x.Name⟩:Oc)):=by
    unfold jO;rw[FO,hx,aj,hp2,aj,hy];rfl
   simp only[eachN,e,aj] at hq;obtain⟨ys,hys⟩:=ih (k+1) _ (by omega) (by simp;omega) q hq;exact⟨_,by rw[hys,List.append_assoc]⟩
 unfold kU at ho;rw[aE (by constructor<;>omega)] at ho;have e1:eachN (jO g r) 0 (r.rt_.length+1) []=some o:=by
  cases hq:eachN (jO g r) 0 (r.rt_.length+1) [] with
  | none=>rw[hq] at ho;cases ho
  | some q=>rw[hq] at ho;exact ho
 have hl3:l.length<=1048576:=by
  obtain⟨p,_,K,h3⟩:=uh h r.Left;rw[hl] at K;cases K;exact h3
 have hx:kR r ((0:Nat):Int)=some r.Left:=by unfold kR;exact ao rfl
 have e:jO g r 0 []=some ([]++l.map λx=>(⟨((0:Nat):Int),x.Name⟩:Oc)):=by
  unfold jO;rw[hx,aj,hl,aj,tA 0 l 0 [] (by simp;omega)];rfl
 simp only[eachN,e,aj] at e1;obtain⟨ys,hys⟩:=key r.rt_.length 1 _ (by omega) (by simp;omega) o e1;exact⟨ys,by simpa using hys⟩
theorem JJ:∀ (xs:List Oc) (i:Nat) (s:List Int),s.length+xs.length<=4398046511104->(∀ x∈xs,x.Pos=0)->eachL (mX 0) i xs s=some (s++(Dbz i xs.length).map λ(j:Nat)=>(j:Int))
 | [],i,s,_,_=>by simp[eachL]
 | x::xs,i,s,h,h0=>by
  simp only[bC] at h;have hg:((s.length:Int)+1)*8<=140737488355328/\(s.length:Int)+1<=9223372036854775807:=by constructor<;>omega
  have e:mX 0 i x s=some (s++[(i:Int)]):=by
   unfold mX;rw[ao (h0 x (by simp)),aE hg];rfl
  simp only[eachL,e,aj];rw[JJ xs (i+1) _ (by simp;omega) λy hy=>h0 y (by simp[hy])];simp[Eez]
theorem S9 {g:al}{r:ae}(h:∀ y∈g.ss_,y.as_.length<=1048576)(Z:r.rt_.length<=1048576){l:List aI}{y:List Int}(hl:kV g r.Left=some l)(hy:lZ g r 0=some y):∀ k:Nat,k<l.length->y[k]?=some (k:Int):=by
 obtain⟨o,_,ho,ho3⟩:=A5 h Z;obtain⟨ys,hys⟩:=Ta h Z hl ho;have hl3:l.length<=1048576:=by
  obtain⟨p,_,K,h3⟩:=uh h r.Left;rw[hl] at K;cases K;exact h3
 unfold lZ at hy;rw[ho,aj] at hy;have hy' : eachL (mX 0) 0 o []=some y:=by
  cases hq:eachL (mX 0) 0 o [] with
  | none=>rw[hq] at hy;cases hy
  | some q=>rw[hq] at hy;exact hy
 have hlen:=congrArg List.length hys;simp only[Axz,bc] at hlen;rw[hys,NR,JJ _ 0 [] (by simp;omega) (by intro x hx;obtain⟨a,_,rfl⟩:=List.mem_map.1 hx;rfl),aj] at hy';obtain⟨zs,h4,h5⟩:=rK (p:=λx:Oc=>decide (x.Pos=0)) (g:=λi _=>((i:Nat):Int)) (B:=4398046511104) (f:=mX 0) (λi x s hs=>by
  have hg:((s.length:Int)+1)*8<=140737488355328/\(s.length:Int)+1<=9223372036854775807:=by constructor<;>omega
  unfold mX;rw[aE hg];by_cases m1:x.Pos=0;rw[ao m1,ao (by simp[m1])];rfl;rw[an m1,an (by simp[m1])];rfl) ys (0+(l.map λx=>(⟨0,x.Name⟩:Oc)).length) ([]++(Dbz 0 (l.map λx=>(⟨0,x.Name⟩:Oc)).length).map λ(j:Nat)=>(j:Int)) (by simp;omega)
 rw[h4] at hy';cases hy';intro k hk;rw[List.getElem?_append_left (by simpa using hk)];simp[hk]
theorem Gd {α σ:Type}{P:σ->Prop}{f g:Nat->α->σ->Option σ}:∀ (xs:List α) (i:Nat) (s:σ),P s->(∀ k x s,k<i+xs.length->x∈xs->P s->∃ s',f k x s=some s'/\g k x s=some s'/\P s')->∃ s',eachL f i xs s=some s'/\eachL g i xs s=some s'/\P s'
 | [],i,s,hs,_=>⟨s,rfl,rfl,hs⟩
 | x::xs,i,s,hs,h=>by
  obtain⟨t,U,K,h3⟩:=h i x s (by simp) (by simp) hs;obtain⟨u,h4,h5,h6⟩:=Gd xs (i+1) t h3 λk y s hk hy=>h k y s (by simp;omega) (by simp[hy]);exact⟨u,by simp only[eachL,U,aj,h4],by simp only[eachL,K,aj,h5],h6⟩
theorem YJ {g:al}{r:ae}{c:au}(h:∀ y∈g.ss_,y.as_.length<=1048576)(Z:r.rt_.length<=1048576):∃ x,kf g r c=some x/\rO g r c=some x/\x.Rows.length<=16:=by
 obtain⟨l,l1,l2,l3⟩:=uh h r.Left;obtain⟨y,_,y2,_⟩:=UH 0 h Z;have hy:=S9 h Z l2 y2;obtain⟨e,e1,e2⟩:=Xz l.length;have step:∀ k1 x1,k1<l.length->∀ k2 x2 s,k2<l.length->s.1.length<=16->∃ s',oo c k1 x1 k2 x2 s=some s'/\yv c y k1 x1 k2 x2 s=some s'/\s'.1.length<=16:=by
  intro k1 x1 hk1 k2 x2 ⟨s3,s4⟩ hk2 hs;dsimp only at hs;obtain⟨z,z1,z2⟩:=Kg (r:=⟨s4,s3⟩) (by show s3.length<=_;omega) (k1:Int) (k2:Int);unfold oo yv;rw[Vm,A7,hy k1 hk1,hy k2 hk2];simp only[aj,pH,z1,decide_eq_true_eq];by_cases m1:x1.Mode=1;by_cases m2:x2.Mode=2;by_cases m3:bG c (k1:Int) (k2:Int);simp only[m1,m2,m3,if_true,decide_true,aj];exact⟨_,rfl,rfl,by rw[z2];exact hs⟩;simp only[m1,m2,m3,if_true,if_false,decide_true,decide_false,aj];exact⟨_,rfl,rfl,hs⟩;simp[m1,m2,hs];simp[m1,hs]
 obtain⟨⟨s1,s2⟩,U,K,h3⟩:=Gd (P:=λs:List Int×Int=>s.1.length<=16) (f:=pZ c l) (g:=B3 c l y) l 0 (e.Rows,e.N) e2 λk x s hk _ hs=>by
  obtain⟨s',t1,t2,t3⟩:=Gd (P:=λs:List Int×Int=>s.1.length<=16) (f:=oo c k x) (g:=yv c y k x) l 0 s hs λk2 x2 s hk2 _ hs=>step k x (by omega) k2 x2 s (by omega) hs;obtain⟨s3,s4⟩:=s;exact⟨s',by unfold pZ;dsimp only;rw[t1];rfl,by unfold B3;dsimp only;rw[t2];rfl,t3⟩
 refine⟨⟨s2,s1⟩,?_,?_,h3⟩;unfold kf;rw[l1,aj,e1,aj,U];rfl;unfold rO;rw[l2,aj,y2,aj,FP,e1,aj,K];rfl
theorem S8:∀ (n:Nat) (e q:Expr),iS n e=some q->iS (n+1) e=some q:=by
 intro n
 induction n with
 | zero=>intro e q h;cases h
 | succ n ih=>
  intro e q h;have h' : mF (iS n) e=some q:=h;show mF (iS (n+1)) e=some q;unfold mF at h' ⊢;obtain⟨s,U,K⟩:=bd h';rw[FQ (g:=rp (iS (n+1))) (λk x s q hq=>by
   unfold rp at hq ⊢;obtain⟨y,h3,h4⟩:=bd hq;rw[ih _ _ h3,aj];exact h4) _ _ _ _ U]
  exact K
theorem Xx:∀ (m:Nat) (e:Expr),dD e<=m->Sz.szd e<=1048576->iS m e=some e:=by
 intro m
 induction m with
 | zero=>intro e h;rw[oP] at h;omega
 | succ m ih=>
  intro e h hs;rw[oP] at h;have hl:∀ (l:List Expr) (i:Nat) (s:List Expr),(∀ x∈l,dD x<=m/\Sz.szd x<=1048576)->s.length+l.length<=4398046511->eachL (rp (iS m)) i l s=some (s++l):=by
   intro l
   induction l with
   | nil=>intro i s _ _;simp[eachL]
   | cons x l ihl=>
    intro i s hx Y;simp only[bC] at Y;have U:=ih x (hx x (by simp)).1 (hx x (by simp)).2;have e1:rp (iS m) i x s=some (s++[x]):=by
     unfold rp;rw[U,aj,aE (by constructor<;>omega)]
    simp only[eachL,e1,aj];rw[ihl _ _ (λy hy=>hx y (by simp[hy])) (by simp;omega)];simp
  show mF (iS m) e=some e;unfold mF;have K:=fB e;have h3:=iW e.Args;rw[hl e.Args 0 [] (λx hx=>⟨by have:=EJ hx;omega,by have:=IU hx;omega⟩) (by simp;omega),Edz,aj];cases e;rfl
theorem AC {e:Expr}(h:Sz.szd e<=1048576):pt e=some e:=JA (λn q=>S8 n e q) (Xx _ e (Nat.le_refl _) h)
theorem Xw:BC=pt:=by
 have h:∀ n,rE n=iS n:=by
  intro n
  induction n with
  | zero=>rfl
  | succ n ih=>funext e;show xR (rE n) e=mF (iS n) e;rw[ih];rfl
 funext e;show cg (λn=>rE n e)=cg λn=>iS n e;congr 1;funext n;rw[h]
def nj:Expr:=⟨0,0,0,0,⟨#[]⟩,⟨#[]⟩,[]⟩
def cq (r:ae)(o:Oc):Expr×Bool:=match r.es_.find? λq=>decide (q.At=o) with
 | some q=>(q.Expr,true)
 | none=>(nj,false)
theorem pa {r:ae}{q:aZ}(h:q∈r.es_):Sz.szd q.Expr<=Sz.szd r:=by
 have U:=pd r;have K:=ym q;have h3:=nJ h;have h4:=fB q.Expr;omega
theorem JI {r:ae}(h:Sz.szd r<=1048576)(o:Oc):Sz.szd (cq r o).1<=1048576:=by
 unfold cq;cases hf:r.es_.find? (λq=>decide (q.At=o)) with
 | none=>show Sz.szd nj<=_;have:Sz.szd nj=0:=rfl;omega
 | some q=>have:=pa (Ecz hf);show Sz.szd q.Expr<=_;omega
theorem A4 {r:ae}(h:Sz.szd r<=1048576)(o:Oc):ki r o=some (cq r o):=by
 have key:∀ (l:List aZ) (i:Nat),(∀ q∈l,Sz.szd q.Expr<=1048576)->findL (sa o) i l ()=some (match l.find? λq=>decide (q.At=o) with
   | some q=>.inr (q.Expr,true)
   | none=>.inl ()):=by
  intro l
  induction l with
  | nil=>intro i _;rfl
  | cons q l ih=>
   intro i hq;by_cases hp:q.At=o;simp[findL,sa,hp,AC (hq q (by simp))];simp[findL,sa,hp];exact ih _ λy hy=>hq y (by simp[hy])
 unfold ki cq;rw[key _ _ λq hq=>by have:=pa hq;omega];cases r.es_.find? (λq=>decide (q.At=o))<;>rfl
theorem JH {r:ae}(h:Sz.szd r<=1048576)(o:Oc):ki r o=some (cq r o)/\rY r o=some (cq r o):=by
 have e:rY=ki:=by
  have e1:Cz=sa:=by funext a k x u;unfold Cz sa;rw[Xw]
  funext r o;unfold rY ki;rw[e1]
 rw[e];exact⟨A4 h o,A4 h o⟩
theorem Xv:vJ=mY:=by
 funext l o;unfold vJ mY l8;have e:CH o=na o:=by
  funext k x u;unfold CH na;by_cases h:x=o;rw[ao h,ao h.symm];rw[an h,an λe=>h e.symm]
 rw[e];cases ((findL (na o) 0 l ()).bind <| bb (λr1=>some r1) λ_=>some (-1))<;>rfl
theorem W7 (l:List Oc)(o:Oc):∃ k,mY l o=some k:=by
 have h:l8 l o=some (fw l o):=by
  unfold l8;refine Ft λk x=>⟨λe=>?_,λe=>?_⟩
  unfold na;rw[ao e.symm];unfold na;rw[an (λh=>e h.symm)]
 exact⟨_,by unfold mY;rw[h];rfl⟩
theorem O3 {r x:au}{i k:Int}(h:jJ r i k=some x):x.N=r.N:=by
 unfold jJ at h;obtain⟨y,U,h⟩:=bd h;have hy:y=r:=by unfold mS at U;obtain⟨_,U⟩:=pj U;exact (Option.some.inj U).symm
 subst hy;obtain⟨y2,_,h⟩:=bd h;obtain⟨s1,_,h⟩:=bd h;obtain⟨s2,_,h⟩:=bd h;by_cases hs:s2=true;rw[ao hs] at h;obtain⟨_,h⟩:=pj h;obtain⟨_,_,h⟩:=bd h;obtain⟨_,h⟩:=pj h;obtain⟨_,h⟩:=pj h;obtain⟨_,h⟩:=pj h;cases h;rfl;rw[an hs] at h;cases h;rfl
theorem UG (l:List Oc)(k:Nat):∀ (us:List Oc) (i:Nat) (rows:List Int) (n:Int),rows.length<=1048576 ->
  ∃ rows',eachL (qf l k) i us (rows,n)=some (rows',n)/\eachL (vA l (k:Int)) i us (rows,n)=some (rows',n)/\rows'.length=rows.length:=by
 intro us
 induction us with
 | nil=>intro i rows n _;exact⟨rows,rfl,rfl,rfl⟩
 | cons u us ih=>
  intro i rows n h;obtain⟨j,hj⟩:=W7 l u;obtain⟨x,hx,hxl⟩:=Kg (r:=⟨n,rows⟩) h j (k:Int);have hN:=O3 hx;obtain⟨rows',U,K,h3⟩:=ih (i+1) x.Rows n (by rw[hxl];exact h);have e1:qf l k i u (rows,n)=some (x.Rows,n):=by
   unfold qf;dsimp only;rw[hj,aj,A7,hx,aj,hN]
  have e2:vA l (k:Int) i u (rows,n)=some (x.Rows,n):=by
   unfold vA;dsimp only;rw[Xv,hj,aj,hx,aj,hN]
  exact⟨rows',by simp only[eachL,e1,aj];exact U,by simp only[eachL,e2,aj];exact K,h3.trans hxl⟩
theorem W6:attrs nj=[]:=by
 have:fS nj=[]:=by simp[nj,fS,gD]
 unfold attrs nr;rw[this];simp[ef]
theorem WA {r:ae}(Z:Sz.szd r<=1048576)(l:List Oc)(hl:l.length<=16):∀ (m k:Nat) (rows:List Int) (n:Int),k+m=l.length->0<n->rows.length<=1048576 ->
  ∃ rows',eachL (qe r l) k (l.drop k) (rows,n)=some (rows',n)/\bA (l6 r l) ((k:Int),rows,n)=some (rows',n)/\rows'.length=rows.length:=by
 intro m
 induction m with
 | zero=>
  intro k rows n hk hn h;refine⟨rows,by rw[List.drop_eq_nil_of_le (by omega)];rfl,cF ?_,rfl⟩;unfold l6;dsimp only;rw[an (by omega)]
 | succ m ih=>
  intro k rows n hk hn h;obtain⟨x,hx⟩:∃ x,l[k]?=some x:=⟨_,Cmz (by omega)⟩
  have hd:l.drop k=x::l.drop (k+1):=by
   rw[List.drop_eq_getElem_cons (by omega)];have:l[k]=x:=by rw[Cmz (by omega)] at hx;exact Option.some.inj hx
   rw[this]
  obtain⟨E,B,hq⟩:∃ E B,cq r x=(E,B):=⟨_,_,rfl⟩
  obtain⟨rows1,U,K,h3⟩:=UG l k (attrs E) 0 rows n h;obtain⟨rows',k1,k2,k3⟩:=ih (k+1) rows1 n (by omega) hn (by omega);have hsz:=JI Z x;have hf:=JH Z x;rw[hq] at hsz hf;have e1:qe r l k x (rows,n)=some (rows1,n):=by
   unfold qe;dsimp only;rw[hf.2,aj];dsimp only;rw[EI hsz,aj,U];rfl
  have hin:(grd (0<=(k:Int)) <| (l[(k:Int).toNat]?).bind λx1=>(ki r x1).bind λ(y3,y4)=>if y4=true then ((ot y3).bind λy5=>(eachL (vA l (k:Int)) 0 y5 (rows,n)).bind λ(s8,s9)=>some (s8,s9)) else some (rows,n))=some (rows1,n):=by
   rw[aE (by omega),cd,hx,aj,hf.1,aj];dsimp only;cases Y:B with
   | true=>rw[ao rfl,EF hsz,aj,K,aj]
   | false=>
    have hz:E=nj:=by
     unfold cq at hq;cases hf:r.es_.find? (λq=>decide (q.At=x)) with
     | none=>rw[hf] at hq;cases hq;rfl
     | some q=>rw[hf] at hq;cases hq;cases Y
    rw[hz,W6] at U;simp only[eachL,Option.some.injEq,Prod.mk.injEq] at U;rw[an (by simp),U.1]
  have e2:l6 r l ((k:Int),rows,n)=some (.inl (((k+1:Nat):Int),rows1,n)):=by
   unfold l6;dsimp only;rw[ao (by omega),ao hn,hin,aj];dsimp only;rw[aE (by constructor<;>omega)];rfl
  exact⟨rows',by rw[hd];simp only[eachL,e1,aj];exact k1,by rw[eh e2];exact k2,k3.trans h3⟩
theorem W0 {g:al}{r:ae}(h:Sz.szd g<=1048576)(Z:Sz.szd r<=1048576):∃ x,qd g r=some x/\qb g r=some x/\x.Rows.length<=16:=by
 obtain⟨l,U,K,_⟩:=A5 (gZ h) (iv Z);have hem:∀ n:Nat,kj (n:Int)=if n<=16 then some ⟨(n:Int),Bqz n 0⟩ else some ⟨0,[]⟩:=λn=>by
  unfold kj;rw[jG,aj];by_cases hn:n<=16;rw[ao (by simp;omega),aE (by omega),ao hn];rfl;rw[an (by simp;omega),an hn]
 unfold qd qb;rw[U,K,aj,aj,FP,hem];by_cases hl:l.length<=16;rw[ao hl,aj,aj,an (by omega)];dsimp only;by_cases h0:l.length=0;have:l=[]:=List.eq_nil_of_length_eq_zero h0;subst this;have e:bA (l6 r ([]:List Oc)) (0,Bqz ([]:List Oc).length 0,((([]:List Oc).length:Nat):Int))=some (Bqz ([]:List Oc).length 0,((([]:List Oc).length:Nat):Int)):=cF (by unfold l6;dsimp only;rw[an (by simp)]);rw[e];exact⟨_,rfl,rfl,by simp⟩;obtain⟨rows',k1,k2,k3⟩:=WA Z l hl l.length 0 (Bqz l.length 0) (l.length:Int) (by omega) (by omega) (by simp;omega);have k2' : bA (l6 r l) (0,Bqz l.length 0,(l.length:Int))=some (rows',(l.length:Int)):=k2;rw[List.drop_zero] at k1;rw[k1,k2'];exact⟨_,rfl,rfl,by show rows'.length<=16;simp at k3;omega⟩;rw[an hl,aj,aj,ao (by omega)];have e:bA (l6 r l) (0,([]:List Int),(0:Int))=some ([],0):=cF (by unfold l6;dsimp only;rw[ao (by omega),an (by omega)]);rw[e];exact⟨_,rfl,rfl,by simp⟩
theorem rk {α β:Type}{p:α->Bool}{g:α->β}{B:Nat}{f:Nat->α->List β->Option (List β)}(hf:∀ k x s,s.length<B->f k x s=some (if p x=true then s++[g x] else s)):∀ (xs:List α) (i:Nat) (s:List β),s.length+xs.length<=B ->
  eachL f i xs s=some (s++(xs.filter p).map g)
 | [],i,s,_=>by simp[eachL]
 | x::xs,i,s,h=>by
  simp only[bC] at h;by_cases hp:p x=true;have ih:=rk hf xs (i+1) (s++[g x]) (by simp;omega);simp[eachL,hf i x s (by omega),hp,ih];have ih:=rk hf xs (i+1) s (by omega);simp[eachL,hf i x s (by omega),hp,ih]
theorem Fp {α β:Type}{p:α->Bool}{g:Nat->β}{B:Nat}{f:Nat->α->List β->Option (List β)}(hf:∀ k x s,s.length<B->f k x s=some (if p x=true then s++[g k] else s)):∀ (xs:List α) (i:Nat) (s:List β),s.length+xs.length<=B ->
  eachL f i xs s=some (s++((xs.zipIdx i).filter λq=>p q.1).map λq=>g q.2)
 | [],i,s,_=>by simp[eachL]
 | x::xs,i,s,h=>by
  simp only[bC] at h;by_cases hp:p x=true;have ih:=Fp hf xs (i+1) (s++[g i]) (by simp;omega);simp[eachL,hf i x s (by omega),hp,ih,List.zipIdx_cons];have ih:=Fp hf xs (i+1) s (by omega);simp[eachL,hf i x s (by omega),hp,ih,List.zipIdx_cons]
theorem Gc {β:Type}{h:Nat->List β}{C n:Nat}{f:Nat->List β->Option (List β)}(hf:∀ k s,k<n->s.length<=k*C->f k s=some (s++h k))(hh:∀ k,k<n->(h k).length<=C) :
  ∀ (m k:Nat) (s:List β),k+m=n->s.length<=k*C->eachN f k m s=some (s++(Dbz k m).flatMap h)
 | 0,k,s,_,_=>by simp[eachN]
 | m+1,k,s,hk,hs=>by
  have hl:=hh k (by omega);have e:(k+1)*C=k*C+C:=Nat.succ_mul k C;have ih:=Gc hf hh m (k+1) (s++h k) (by omega) (by rw[Axz];omega);simp[eachN,hf k s (by omega) hs,ih,Eez]
theorem Fo {β:Type}{h:Nat->List β}{C n:Nat}{f:(List β×Int)->Option ((List β×Int) ⊕ List β)}(hf:∀ (k:Nat) s,k<n->s.length<=k*C->f (s,(k:Int))=some (.inl (s++h k,((k+1:Nat):Int))))(he:∀ s,f (s,(n:Int))=some (.inr s))(hh:∀ k,k<n->(h k).length<=C) :
  ∀ (m k:Nat) (s:List β),k+m=n->s.length<=k*C->bA f (s,(k:Int))=some (s++(Dbz k m).flatMap h)
 | 0,k,s,hk,_=>by
  obtain rfl:k=n:=by omega
  rw[cF (he s)];simp
 | m+1,k,s,hk,hs=>by
  have hl:=hh k (by omega);have e:(k+1)*C=k*C+C:=Nat.succ_mul k C;have ih:=Fo hf he hh m (k+1) (s++h k) (by omega) (by rw[Axz];omega);rw[eh (hf k s (by omega) hs),ih];simp[Eez]
abbrev dP (g:al):Prop:=∀ y∈g.ss_,y.as_.length<=1048576
def zS:ah:=⟨⟨#[]⟩,[]⟩
def zA:aI:=⟨⟨#[]⟩,0,0,false⟩
def bR (g:al)(s:ar):ah×Bool:=match g.ss_.find? λy=>decide (y.Name=s) with
 | some y=>(y,true)
 | none=>(zS,false)
def eS (y:ah)(s:ar):aI×Bool:=match y.as_.find? λa=>decide (a.Name=s) with
 | some a=>(a,true)
 | none=>(zA,false)
theorem lR {g:al}(h:dP g)(s:ar):iA g s=some (bR g s):=by
 have U:=pz (p:=λy:ah=>decide (y.Name=s)) (r:=λy=>(y,true)) (xs:=g.ss_) (i:=0) (f:=ve s) λk y hy=>by
  have hg:pQ y=some y:=by
   unfold pQ;have:=h y hy;rw[aE (by simp only[Dyz];constructor<;>omega)]
  unfold ve;rw[hg];constructor<;>intro hp<;>simp_all
 unfold iA bR;rw[U];cases hf:g.ss_.find? (λy:ah=>decide (y.Name=s)) with
 | none=>rfl
 | some y=>rfl
theorem po (g:al)(s:ar):kg g s=some (bR g s):=by
 have K:=pz (p:=λy:ah=>decide (y.Name=s)) (r:=λy=>(y,true)) (xs:=g.ss_) (i:=0) (f:=u3 s) λk y hy=>by
  unfold u3;constructor<;>intro hp<;>simp_all
 unfold kg bR;rw[K];cases hf:g.ss_.find? (λy:ah=>decide (y.Name=s)) with
 | none=>rfl
 | some y=>rfl
theorem pn {g:al}(h:dP g)(s:ar):(bR g s).1.as_.length<=1048576:=by
 unfold bR;cases hf:g.ss_.find? (λy:ah=>decide (y.Name=s)) with
 | none=>simp[zS]
 | some y=>exact h y (Ecz hf)
theorem xg (y:ah)(s:ar):qc y s=some (eS y s):=by
 have K:=pz (p:=λy:aI=>decide (y.Name=s)) (r:=λy=>(y,true)) (xs:=y.as_) (i:=0) (f:=Cx s) λk y hy=>by
  unfold Cx;constructor<;>intro hp<;>simp_all
 unfold qc eS;rw[K];cases hf:y.as_.find? (λy:aI=>decide (y.Name=s)) with
 | none=>rfl
 | some y=>rfl
theorem xf (y:ah)(s:ar):l5 y s=some (eS y s):=xg y s
def cE (r:ae)(k:Int):ar:=if k=0 then r.Left else if 1<=k/\k<=(r.rt_.length:Int) then r.rt_.getD (k-1).toNat ⟨#[]⟩ else ⟨#[]⟩
abbrev fm (r:ae):Prop:=r.rt_.length<=1048576
theorem mz {r:ae}(hl:fm r)(k:Int):iB r k=some (cE r k):=by
 unfold iB cE;by_cases h0:k=0;rw[ao h0,ao h0];rw[an h0,an h0,gC,aj];by_cases U:1<=k/\k<=(r.rt_.length:Int);rw[ao (by simpa using U),ao U,aE (by constructor<;>omega),aE (by omega)];have:(k-1).toNat<r.rt_.length:=by omega
 rw[Cmz this,List.getD_eq_getElem?_getD,Cmz this];rfl;rw[an (by simpa using U),an U]
theorem wE {r:ae}(hl:fm r)(k:Int):kR r k=some (cE r k):=by rw[FO,mz hl]
def gp (g:al)(r:ae)(o:Oc):aI×Bool:=if 0<=o.Pos/\o.Pos<=(r.rt_.length:Int) then eS (bR g (cE r o.Pos)).1 o.Name else (zA,false)
theorem Gb (g:al){r:ae}(hl:fm r)(o:Oc):pV g r o=some (gp g r o):=by
 unfold pV gp;rw[oO,aj];by_cases h0:0<=o.Pos/\o.Pos<=(r.rt_.length:Int);rw[ao (by simpa using h0),ao h0,wE hl,aj,po,aj];dsimp only;rw[xg];rfl;rw[an (by simpa using h0),an h0];rfl
def fJ (g:al)(r:ae)(o:Oc):Bool:=(gp g r o).2&&decide ((gp g r o).1.Mode=if o.Pos=0 then 1 else 2)
theorem S7 (g:al){r:ae}(hl:fm r)(o:Oc):tF g r o=some (fJ g r o):=by
 unfold tF fJ;rw[Gb g hl,aj];dsimp only;by_cases h0:o.Pos=0;rw[ao h0,ao h0];by_cases U:(gp g r o).2=true;rw[ao U,U];rfl;rw[an U,Bool.eq_false_iff.2 U];rfl;rw[an h0,an h0];by_cases U:(gp g r o).2=true;rw[ao U,U];rfl;rw[an U,Bool.eq_false_iff.2 U];rfl
theorem S6 {g:al}(h:dP g){r:ae}(hl:fm r)(o:Oc):tH g r o=some (fJ g r o):=by
 unfold tH fJ gp;rw[gC,aj];by_cases hp:0<=o.Pos/\o.Pos<=(r.rt_.length:Int);rw[ao (by simpa using hp),ao hp,mz hl,aj,lR h,aj];dsimp only;rw[xf,aj]
 skip
 by_cases h0:o.Pos=0;rw[ao h0,ao h0];by_cases U:(eS (bR g (cE r o.Pos)).1 o.Name).2=true;rw[ao U,U];rfl;rw[an U,Bool.eq_false_iff.2 U];rfl;rw[an h0,an h0];by_cases U:(eS (bR g (cE r o.Pos)).1 o.Name).2=true;rw[ao U,U];rfl;rw[an U,Bool.eq_false_iff.2 U];rfl;rw[an (by simpa using hp),an hp];rfl
def eU (g:al)(r:ae)(k:Nat):List Oc:=((bR g (cE r (k:Int))).1.as_.filter λa=>decide (a.Mode=if (k:Int)=0 then 2 else 1)).map λa=>(⟨(k:Int),a.Name⟩:Oc)
def cy (g:al)(r:ae):List Oc:=(Dbz 0 (r.rt_.length+1)).flatMap (eU g r)
theorem Kc {g:al}(h:dP g)(r:ae)(k:Nat):(eU g r k).length<=1048576:=by
 unfold eU;rw[bc];exact Nat.le_trans (List.length_filter_le _ _) (pn h _)
theorem JG {g:al}(h:dP g){r:ae}(hl:fm r):rH g r=some (cy g r):=by
 have hl' : r.rt_.length<=1048576:=hl;have key:=Gc (h:=eU g r) (C:=1048576) (n:=r.rt_.length+1) (f:=BW g r) (λk s hk hs=>by
  have hin:∀ m:Int,eachL (BY k m) 0 (bR g (cE r (k:Int))).1.as_ s=some (s++((bR g (cE r (k:Int))).1.as_.filter λa=>decide (a.Mode=m)).map λa=>(⟨(k:Int),a.Name⟩:Oc)):=λm=>
   rk (B:=4398046511104) (λj x s hs=>by
    unfold BY;by_cases hm:x.Mode=m;rw[ao hm,ao (by simpa using hm),aE (by constructor<;>omega)];rfl;rw[an hm,an (by simpa using hm)];rfl) _ 0 s (by have:=pn h (cE r (k:Int));omega)
  unfold BW eU;by_cases h0:(k:Int)=0;rw[ao h0,ao h0,aj,wE hl,aj,po,aj];dsimp only;rw[hin];rfl;rw[an h0,an h0,aj,wE hl,aj,po,aj];dsimp only;rw[hin];rfl) (λk _=>Kc h r k) (r.rt_.length+1) 0 [] (by omega) (by simp)
 unfold rH;rw[aE (by constructor<;>omega),key];rfl
theorem Ed {g:al}(h:dP g){r:ae}(hl:fm r):qg g r=some (cy g r):=by
 have hl' : r.rt_.length<=1048576:=hl;have key:=Fo (h:=eU g r) (C:=1048576) (n:=r.rt_.length+1) (f:=vN g r) (λk s hk hs=>by
  have hin2:eachL (CU (k:Int)) 0 (bR g (cE r (k:Int))).1.as_ s=some (s++((bR g (cE r (k:Int))).1.as_.filter λa=>decide (a.Mode=2)).map λa=>(⟨(k:Int),a.Name⟩:Oc)):=
   rk (B:=4398046511104) (λj x s hs=>by
    unfold CU;by_cases hm:x.Mode=2;rw[ao hm,ao (by simpa using hm),aE (by constructor<;>omega)];rfl;rw[an hm,an (by simpa using hm)];rfl) _ 0 s (by have:=pn h (cE r (k:Int));omega)
  have hin1:eachL (CS (k:Int)) 0 (bR g (cE r (k:Int))).1.as_ s=some (s++((bR g (cE r (k:Int))).1.as_.filter λa=>decide (a.Mode=1)).map λa=>(⟨(k:Int),a.Name⟩:Oc)):=
   rk (B:=4398046511104) (λj x s hs=>by
    unfold CS;by_cases hm:x.Mode=1;rw[ao hm,ao (by simpa using hm),aE (by constructor<;>omega)];rfl;rw[an hm,an (by simpa using hm)];rfl) _ 0 s (by have:=pn h (cE r (k:Int));omega)
  unfold vN eU;dsimp only;rw[ao (by omega),mz hl,aj,lR h,aj]
  skip
  by_cases h0:(k:Int)=0;rw[ao h0,ao h0,hin2,aj,aj,aE (by constructor<;>omega)];rfl;rw[an h0,an h0,hin1,aj,aj,aE (by constructor<;>omega)];rfl) (λs=>by
  unfold vN;dsimp only;rw[an (by omega)]) (λk _=>Kc h r k) (r.rt_.length+1) 0 [] (by omega) (by simp)
 unfold qg;have e:bA (vN g r) (([]:List Oc),0)=some ([]++(Dbz 0 (r.rt_.length+1)).flatMap (eU g r)):=key;rw[e];rfl
theorem kT {α:Type}{q:α->Bool}{xs:List α}{f:Nat->α->Unit->Option (Unit ⊕ Int)}(h:∀ k x,x∈xs->f k x ()=some (if q x=true then .inr (k:Int) else .inl ())) :
  ((findL f 0 xs ()).bind <| bb (λr1=>some r1) λ_=>some (-1)).bind (λy1=>some (decide (0<=y1)))=some (xs.any q):=by
 rw[Fs h];cases hq:xs.any q with
 | true=>
  have:(0:Int)<=((0+xs.findIdx q:Nat):Int):=Int.natCast_nonneg _;rw[ao rfl,aj,qS,aj,decide_eq_true this]
 | false=>rfl
def dH {α:Type}(bad:List α->α->Bool):List α->List α->Option Nat
 | _,[]=>none
 | pre,x::xs=>if bad pre x=true then some pre.length else dH bad (pre++[x]) xs
theorem ug {α β ρ:Type}{bad:List α->α->Bool}{nm:α->β}{c:Nat->ρ}{all:List α}{f:Nat->α->Unit->Option (Unit ⊕ ρ)}{h:Nat->α->List β->Option (List β ⊕ ρ)}
  (hf:∀ pre x post,all=pre++x::post->f pre.length x ()=some (if bad pre x=true then .inr (c pre.length) else .inl ()))
  (hh:∀ pre x post,all=pre++x::post->h pre.length x (pre.map nm)=some (if bad pre x=true then .inr (c pre.length) else .inl ((pre++[x]).map nm))) :
  ∀ (ys pre:List α),all=pre++ys->findL f pre.length ys ()=some (match dH bad pre ys with|none=>.inl ()|some k=>.inr (c k)) /\
   findL h pre.length ys (pre.map nm)=some (match dH bad pre ys with|none=>.inl (all.map nm)|some k=>.inr (c k))
 | [],pre,e=>by
  rw[List.append_nil] at e;subst e;exact⟨rfl,rfl⟩
 | x::ys,pre,e=>by
  have U:=hf pre x ys e;have K:=hh pre x ys e;by_cases Y:bad pre x=true;rw[ao Y] at U K;simp only[findL,U,K,dH,Y,if_true,aj];exact⟨trivial,trivial⟩;rw[an Y] at U K;have ih:=ug hf hh ys (pre++[x]) (by rw[e];simp);simp only[Axz,bC,Dyz,Nat.zero_add] at ih;simp only[findL,U,K,dH,Y,aj];exact ih
theorem Kb {α:Type}{a:α->Bool}{b:List α->α->Bool}:∀ (xs pre:List α),(dH (λp x=>a x||b p x) pre xs).isNone=(xs.all (λx=>!a x)&&(dH b pre xs).isNone)
 | [],pre=>rfl
 | x::xs,pre=>by
  have ih:=Kb (a:=a) (b:=b) xs (pre++[x]);simp only[dH,List.all_cons];by_cases ha:a x=true;simp[ha];by_cases Y:b pre x=true;simp[ha,Y];simpa[ha,Y] using ih
def dw {α:Type}(nm:α->ar)(pre:List α)(x:α):Bool:=pre.any λo=>decide (nm o=nm x)
def qw {α:Type}(nm:α->ar)(xs:List α):Bool:=(dH (dw nm) [] xs).isNone
theorem Lh {α:Type}{nm:α->ar}:∀ (xs pre:List α),(dH (dw id) (pre.map nm) (xs.map nm))=dH (dw nm) pre xs
 | [],pre=>rfl
 | x::xs,pre=>by
  have ih:=Lh (nm:=nm) xs (pre++[x]);have e:dw id (pre.map nm) (nm x)=dw nm pre x:=by simp[dw,List.any_map,Function.comp_def]
  rw[List.map_cons,dH,dH,e,bc];rw[List.map_append] at ih;rw[show [nm x]=[x].map nm from rfl,ih]
theorem tz {α ρ:Type}{bad:List α->α->Bool}{c:Nat->ρ}{all:List α}{f:Nat->α->Unit->Option (Unit ⊕ ρ)}
  (hf:∀ pre x post,all=pre++x::post->f pre.length x ()=some (if bad pre x=true then .inr (c pre.length) else .inl ())) :
  ∀ (ys pre:List α),all=pre++ys->findL f pre.length ys ()=some (match dH bad pre ys with|none=>.inl ()|some k=>.inr (c k)):=λys pre e=>
 (ug (nm:=λ_=>()) (h:=λk x s=>(f k x ()).map λ|.inl _=>.inl (s++[()])|.inr r=>.inr r) hf (λpre x post e=>by
  rw[hf pre x post e];by_cases Y:bad pre x=true;rw[ao Y,ao Y];rfl;rw[an Y,an Y];simp) ys pre e).1
theorem D1 (l:List ar)(s:ar):lM l s=some (l.any λo=>decide (o=s)):=by
 unfold lM;rw[ga (c:=true) (q:=λo=>!decide (o=s)) λk x hx=>by
  unfold xd;by_cases h:x=s;rw[ao h,an (by simp[h])];rw[an h,ao (by simp[h])]]
 have e:(l.all λo=>!decide (o=s))=!(l.any λo=>decide (o=s)):=by rw[List.not_any_eq_all_not]
 rw[e];cases l.any λo=>decide (o=s)<;>rfl
theorem WZ (l:List ar):va l=some (qw id l):=by
 unfold va qw;rw[show findL (yT l) 0 l ()=_ from tz (bad:=dw id) (c:=λ_=>false) (all:=l) (f:=yT l) (λpre x post e=>by
  unfold yT;rw[aE (by rw[e];simp),show l.take pre.length=pre by rw[e];simp,D1,aj,← apply_ite some];rfl) l [] rfl]
 cases dH (dw id) [] l<;>rfl
def fP (a:aI):Bool:=dh a.Name&&(decide (1<=a.t__/\a.t__<=4)&&(decide (1<=a.Mode/\a.Mode<=3)&&if a.Mode=3 then decide (a.t__=2) && !a.Circular else !a.Circular||decide (a.t__=2)))
theorem Wz (a:aI):vM a=some (fP a):=by
 unfold vM fP qZ;rw[mC,aj];cases dh a.Name with
 | false=>rfl
 | true=>
  rw[ao rfl,oO,aj,aj,aj];by_cases U:1<=a.t__/\a.t__<=4;rw[decide_eq_true U,Efz,an (by simp),oO,aj,aj];by_cases K:1<=a.Mode/\a.Mode<=3;rw[decide_eq_true K,Efz,an (by simp)];by_cases h3:a.Mode=3;rw[ao h3,ao h3];by_cases h4:a.t__=2;rw[ao h4,decide_eq_true h4];simp;rw[an h4,decide_eq_false h4];rfl;rw[an h3,an h3];cases hc:a.Circular with
  | true=>rw[ao rfl];simp
  | false=>rw[an (by simp)];simp
  rw[decide_eq_false K];rfl;rw[decide_eq_false U];rfl
theorem Wy (a:aI):vE a=some (fP a):=by
 unfold vE fP;rw[kF,aj];cases dh a.Name with
 | false=>rfl
 | true=>
  rw[ao rfl,gC,aj,aj];by_cases U:1<=a.t__/\a.t__<=4;rw[decide_eq_true U,Efz,an (by simp),gC,aj,aj];by_cases K:1<=a.Mode/\a.Mode<=3;rw[decide_eq_true K,Efz,an (by simp)];by_cases h3:a.Mode=3;rw[ao h3,ao h3];by_cases h4:a.t__=2;rw[ao h4,decide_eq_true h4];cases hc:a.Circular with
  | true=>rfl
  | false=>rfl
  rw[an h4,decide_eq_false h4];rfl;rw[an h3,an h3];cases hc:a.Circular with
  | true=>simp
  | false=>simp
  rw[decide_eq_false K];rfl;rw[decide_eq_false U];rfl
def symB (s:ah):Bool:=s.as_.all fP&&(dh s.Name&&(decide (s.as_.length<=4)&&qw (λa:aI=>a.Name) s.as_))
theorem UF (s:ah):vo s=some (symB s):=by
 unfold vo symB;rw[show findL (zg s) 0 s.as_ ()=_ from tz (bad:=λp x=>!fP x||dw (λa:aI=>a.Name) p x) (c:=λ_=>false) (all:=s.as_) (f:=zg s) (λpre x post e=>by
  unfold zg;rw[Wz,aj];cases fP x with
  | false=>rfl
  | true=>
   rw[ao rfl,aE (by rw[e];simp),show s.as_.take pre.length=pre by rw[e];simp];unfold zz zV;rw[kT (q:=λo:aI=>decide (o.Name=x.Name)) λk y hy=>by
    unfold H0 zf;rw[aj];by_cases h:y.Name=x.Name;rw[decide_eq_true h];rfl;rw[decide_eq_false h];rfl]
   rw[aj,← apply_ite some];rfl) s.as_ [] rfl]
 have hor:=Kb (a:=λx:aI=>!fP x) (b:=dw (λa:aI=>a.Name)) s.as_ [];simp only[Bool.not_not] at hor;have e2:(s.as_.all λx=>fP x)=s.as_.all fP:=rfl;unfold qw;rw[e2] at hor;cases Y:dH (λp x=>!fP x||dw (λa:aI=>a.Name) p x) [] s.as_ with
 | some k=>
  rw[Y] at hor;show some false=_;have:(s.as_.all fP&&(dH (dw λa:aI=>a.Name) [] s.as_).isNone)=false:=hor.symm;congr 1;cases U:s.as_.all fP with
  | false=>rfl
  | true=>rw[U] at this;simp at this;simp[this]
 | none=>
  rw[Y] at hor;have:(s.as_.all fP&&(dH (dw λa:aI=>a.Name) [] s.as_).isNone)=true:=hor.symm;rw[Bool.and_eq_true] at this;show ((iD s.Name).bind _)=_;rw[mC,aj,this.1,this.2];cases dh s.Name with
  | false=>rfl
  | true=>
   rw[ao rfl,aj];congr 1;simp;omega
theorem UE {s:ah}(h:s.as_.length<=1048576):vC s=some (symB s):=by
 unfold vC symB;have hloop:∀ (ys:List aI) (i:Nat) (t:List ar),t.length+ys.length<=1048576->findL zj i ys t=some (if ys.all fP=true then .inl (t++ys.map λa=>a.Name) else .inr false):=by
  intro ys
  induction ys with
  | nil=>intro i t _;simp[findL]
  | cons y ys ih=>
   intro i t ht;simp only[bC] at ht;simp only[findL];have e:zj i y t=some (if fP y=true then .inl (t++[y.Name]) else .inr false):=by
    unfold zj;rw[Wy,aj];cases fP y with
    | false=>rfl
    | true=>rw[ao rfl,ao rfl,aE (by constructor<;>omega)]
   rw[e,aj];by_cases hy:fP y=true;rw[ao hy,show (y::ys).all fP=ys.all fP by simp[hy]];dsimp only;rw[ih _ _ (by simp;omega)];simp;rw[an hy,show (y::ys).all fP=false by simp[hy]];rfl
 rw[hloop _ _ _ (by simpa using h)];cases hA:s.as_.all fP with
 | false=>rfl
 | true=>
  rw[ao rfl,aj,lL,Edz,kF,aj];cases dh s.Name with
  | false=>rfl
  | true=>
   rw[ao rfl,aj,bc];by_cases hl:s.as_.length<=4;rw[decide_eq_true (by omega:(s.as_.length:Int)<=4),ao rfl,WZ,aj,aj,decide_eq_true hl];have:=Lh (nm:=λa:aI=>a.Name) s.as_ [];unfold qw;rw[List.map_nil] at this;rw[this];rfl;rw[decide_eq_false (by omega:¬ (s.as_.length:Int)<=4),an (by simp),decide_eq_false hl];rfl
end Go.Proofs.YtodhafdaelcnlaaGreat
