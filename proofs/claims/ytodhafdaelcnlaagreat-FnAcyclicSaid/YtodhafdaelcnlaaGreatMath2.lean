/- What those partial functions come to: plain lemmas on data; each bears its conditions in its statement. -/
import Derived.Test.YtodhafdaelcnlaaGreatMath1
set_option linter.unusedVariables false
set_option linter.unusedSimpArgs false
set_option linter.ambiguousOpen false
set_option linter.unusedSectionVars false
set_option linter.unnecessarySimpa false
open List renaming getElem?_eq_getElem->Cmz,mem_of_getElem?->Bvz,getElem?_eq_none->Avz,take_add_one->Dvz,mem_append->Ciz,mem_singleton->Bpz,length_append->Axz,length_nil->Dyz,mem_cons->Dsz,not_mem_nil->Daz,getD_eq_getElem?_getD->Cwz,getElem?_map->Czz,ext_getElem?->Dzz,getElem?_append_right->Auz,length_take->Brz,getElem?_drop->Baz
open Bool renaming not_eq_true'->Bdz,false_eq_true->Eaz
open Nat renaming le_refl->Acz,zero_le->Aez,le_trans->Bgz,pow_le_pow_right->Ebz,zero_add->Adz
open Int renaming natCast_nonneg->Doz
namespace Go.Proofs.YtodhafdaelcnlaaGreat
open Go Go.E
theorem AF {x m:Int}(h0:0<=m)(U:m<9223372036854775808):0<=jr x m/\jr x m<=m:=by
 unfold jr;have W:(BitVec.ofInt 64 m).toNat=m.toNat:=by
  rw[BitVec.toNat_ofInt];have:m % ((2 ^ 64:Nat):Int)=m:=Int.emod_eq_of_lt h0 (by omega);rw[this]
 have h3:(BitVec.ofInt 64 x &&& BitVec.ofInt 64 m).toNat<=m.toNat:=by
  rw[BitVec.toNat_and,W];exact Nat.and_le_right
 rw[IntWalk.i64_in _ (by omega)];omega
def ni (o:aB):Prop:=0<=o.i/\o.b.length<=1048576
theorem Vf {a:List UInt8}(h:a.length<=1048576):∃ o,qz a=some o/\ni o/\o.b=a:=by
 have key:∀ (m j:Nat) (s:Int),j+m=a.length->∃ q,bE (qI a) (s,(j:Int))=some q:=by
  intro m
  induction m with
  | zero=>
   intro j s hj;exact⟨s,db (by unfold qI;dsimp only;rw[al (by omega)])⟩
  | succ m ih=>
   intro j s hj;by_cases hlt:(j:Int)<4000;obtain⟨x,hx⟩:∃ x,a[j]?=some x:=⟨_,Cmz (by omega)⟩
   obtain⟨q,hq⟩:=ih (j+1) (jr (IntKind.i64.wrap ((IntKind.i64.wrap ((IntKind.i64.wrap (s*131))+(x.toNat:Int)))+7)) 1073741823) (by omega);refine⟨q,(fi ?_).trans hq⟩;have hw:IntKind.i64.wrap ((j:Int)+1)=((j+1:Nat):Int):=by rw[IntWalk.i64_in _ (by omega)];rfl
   unfold qI;dsimp only;rw[ao (by omega),ao hlt,aD (by omega),cE,hx,aj,hw];exact⟨s,db (by unfold qI;dsimp only;rw[ao (by omega),al hlt])⟩
 obtain⟨q,hq⟩:=key a.length 0 (IntKind.i64.wrap (26583+(a.length:Int))) (by omega);have hq' : bE (qI a) ((IntKind.i64.wrap (26583+(a.length:Int))),0)=some q:=hq;refine⟨⟨a,0,q⟩,?_,⟨Int.le_refl _,h⟩,rfl⟩;unfold qz;rw[hq',aj]
theorem tg {o:aB}(h:ni o):∃ y z,mE o=some (y,z)/\0<=y/\y<=255/\ni z/\z.b=o.b:=by
 obtain⟨h0,U⟩:=h;unfold mE;by_cases hi:o.i<(o.b.length:Int);obtain⟨x,hx⟩:∃ x,o.b[o.i.toNat]?=some x:=⟨_,Cmz (by omega)⟩
 rw[ao hi,aD h0,hx,aj];refine⟨_,_,rfl,(AF (by omega) (by omega)).1,(AF (by omega) (by omega)).2,⟨?_,U⟩,rfl⟩;show 0<=IntKind.i64.wrap (o.i+1);rw[IntWalk.i64_in _ (by omega)];omega;rw[al hi];exact⟨_,_,rfl,(AF (by omega) (by omega)).1,(AF (by omega) (by omega)).2,⟨h0,U⟩,rfl⟩
theorem Ju {y n:Int}(hy:0<=y)(hn:0<n):0<=y.tmod n/\y.tmod n<n:=by
 rw[Int.tmod_eq_emod_of_nonneg hy];exact⟨Int.emod_nonneg _ (by omega),Int.emod_lt_of_pos _ hn⟩
theorem Mc {o:aB}(h:ni o)(n:Int):∃ y z,b6 n o=some (y,z)/\0<=y/\(0<n->y<n)/\(n<=0->y=0)/\ni z/\z.b=o.b:=by
 unfold b6;by_cases hn:n<=0;rw[ao hn];exact⟨0,o,rfl,Int.le_refl _,λh=>absurd h (by omega),λ_=>rfl,h,rfl⟩;rw[al hn];by_cases W:n<=256;obtain⟨y,z,h3,h4,h5,h6,h7⟩:=tg h;rw[ao W,h3,aj];dsimp only;rw[aD (by omega)];have:=Ju h4 (show 0<n by omega);exact⟨_,_,rfl,this.1,λ_=>this.2,λh=>absurd h hn,⟨h6.1,h.2⟩,rfl⟩;obtain⟨y1,z1,K,a2,a3,a4,a5⟩:=tg h;obtain⟨y2,z2,b1,b2,b3,b4,b5⟩:=tg (o:=⟨o.b,z1.i,z1.h⟩) ⟨a4.1,h.2⟩;obtain⟨y3,z3,c1,c2,c3,c4,c5⟩:=tg (o:=⟨o.b,z2.i,z2.h⟩) ⟨b4.1,h.2⟩;obtain⟨y4,z4,d1,d2,d3,d4,d5⟩:=tg (o:=⟨o.b,z3.i,z3.h⟩) ⟨c4.1,h.2⟩;rw[al W,K,aj];dsimp only;rw[b1,aj];dsimp only;rw[c1,aj];dsimp only;rw[d1,aj];dsimp only;rw[aD (by constructor<;>omega),aD (by constructor<;>omega),aD (by constructor<;>omega),aD (by constructor<;>omega),aD (by constructor<;>omega),aD (by constructor<;>omega),aD (by omega)];have:=Ju (y:=y1*16777216+y2*65536+y3*256+y4) (by omega) (show 0<n by omega);exact⟨_,_,rfl,this.1,λ_=>this.2,λh=>absurd h hn,⟨d4.1,h.2⟩,rfl⟩
theorem Yr {o:aB}(h:ni o){l:List Int}(hl:l≠[]):∃ y z,gV l o=some (y,z)/\y∈l/\ni z/\z.b=o.b:=by
 have hpos:=List.length_pos_iff.2 hl;obtain⟨y,z,U,W,h3,_,h5,h6⟩:=Mc h (l.length:Int);have:=h3 (by omega);obtain⟨x,hx⟩:∃ x,l[y.toNat]?=some x:=⟨_,Cmz (by omega)⟩
 unfold gV;rw[U,aj];dsimp only;rw[aD W,hx,aj];exact⟨_,_,rfl,Bvz hx,⟨h5.1,h.2⟩,rfl⟩
theorem Jt {ρ:Type}{g:Nat->Option ρ}(hm:∀ n r,g n=some r->g (n+1)=some r){n:Nat}{r:ρ}(h:g n=some r):ct g=some r:=by
 have up:∀ (k n:Nat) (r:ρ),g n=some r->g (n+k)=some r:=by
  intro k
  induction k with
  | zero=>intro n r h;exact h
  | succ k ih=>intro n r h;exact hm _ _ (ih n r h)
 refine iA n λm hm=>?_;have U:=up (m-n) n r h;rwa[show n+(m-n)=m by omega] at U
theorem AZ {α σ:Type}{f g:Nat->α->σ->Option σ}(h:∀ k x s q,f k x s=some q->g k x s=some q):∀ (xs:List α) (i:Nat) (s q:σ),eachL f i xs s=some q->eachL g i xs s=some q
 | [],i,s,q,hq=>hq
 | x::xs,i,s,q,hq=>by
  simp only[eachL] at hq ⊢;obtain⟨t,U,W⟩:=bd hq;rw[h _ _ _ _ U];exact AZ h xs _ _ _ W
theorem K4 (a b:Oc):tV a b=some (fD a b):=by
 unfold tV fD;by_cases U:a.Pos<b.Pos;simp[U];by_cases W:a.Pos=b.Pos;simp[W];simp[U,W]
abbrev nC (l:List Oc):Prop:=l.Pairwise λa b=>fD a b=true
theorem Ve {l:List Oc}{o:Oc}(hl:l.length<=4398046511104):∀ (m j:Nat),j+m=l.length->(∀ a∈l.take j,fD a o=true) ->
  ∃ k:Nat,bE (oX l o) (j:Int)=some ((k:Nat):Int)/\k<=l.length/\(∀ a∈l.take k,fD a o=true)/\∀ y,l[k]?=some y->fD y o=false:=by
 intro m
 induction m with
 | zero=>
  intro j hj ha;refine⟨j,db ?_,by omega,ha,λy hy=>?_⟩;unfold oX;rw[al (by omega)];rw[Avz (by omega)] at hy;cases hy
 | succ m ih=>
  intro j hj ha;obtain⟨x,hx⟩:∃ x,l[j]?=some x:=⟨_,Cmz (by omega)⟩
  cases Y:fD x o with
  | false=>
   refine⟨j,db ?_,by omega,ha,λy hy=>?_⟩;unfold oX;rw[ao (by omega),aD (by omega)];simp only[cE];rw[hx,aj,K4,aj,al (by rw[Y];simp)];rw[hx] at hy;cases hy;exact Y
  | true=>
   have e:oX l o (j:Int)=some (.inl ((j+1:Nat):Int)):=by
    unfold oX;rw[ao (by omega),aD (by omega)];simp only[cE];rw[hx,aj,K4,aj,ao Y,aD (by constructor<;>omega)];rfl
   rw[fi e];refine ih (j+1) (by omega) λa h=>?_;rw[Dvz,hx] at h;rcases List.mem_append.1 h with h|h;exact ha a h;simp at h;rw[h];exact Y
theorem VK {l:List Oc}{o:Oc}(hl:l.length<4398046511104)(hs:nC l):∃ q,sJ l o=some q/\nC q/\(∀ a,a∈q↔a=o∨a∈l)/\q.length<=l.length+1:=by
 obtain⟨k,U,W,h3,h4⟩:=Ve (l:=l) (o:=o) (by omega) l.length 0 (by omega) (by simp);have h1' : bE (oX l o) 0=some ((k:Nat):Int):=U;have hput:∀ (hne:∀ y,l[k]?=some y->y≠o),nC (l.take k++[o]++l.drop k)/\(∀ a,a∈l.take k++[o]++l.drop k↔a=o∨a∈l)/\(l.take k++[o]++l.drop k).length<=l.length+1:=λhne=>by
  refine⟨?_,λa=>?_,by simp;omega⟩;have:=Xk (lt:=fD) bZ.trans BH (k:=k) hs h3 λy hy=>⟨h4 y hy,hne y hy⟩
  simpa using this;have:a∈l↔a∈l.take k∨a∈l.drop k:=by rw[← Ciz,List.take_append_drop]
  rw[this];simp only[Ciz,Bpz];constructor;rintro ((h|h)|h)<;>simp[h];rintro (h|h|h)<;>simp[h]
 unfold sJ;rw[h1',aj];by_cases hk:k<l.length;obtain⟨x,hx⟩:∃ x,l[k]?=some x:=⟨_,Cmz hk⟩
 rw[ao (by omega),aD (by omega)];simp only[cE];rw[hx,aj];by_cases hxo:x=o;rw[ao hxo];refine⟨l,rfl,hs,λa=>?_,by omega⟩;have:=Bvz hx;constructor;exact .inr;rintro (h|h);rw[h,← hxo];exact this;exact h;rw[al hxo,aD (by omega),aD (by omega),aD (by simp;omega),aD (by simp;omega),aD (by omega),aD (by omega),aD (by simp;omega)];exact⟨_,rfl,hput λy hy=>by rw[hx] at hy;cases hy;exact hxo⟩;rw[al (by omega)];simp only[cE];rw[aD (by omega),aD (by omega),aD (by simp;omega),aD (by simp;omega),aD (by omega),aD (by omega),aD (by simp;omega)];exact⟨_,rfl,hput λy hy=>by rw[Avz (by omega)] at hy;cases hy⟩
theorem S6:∀ (n:Nat) (e:Expr) (l q:List Oc),jv n e l=some q->jv (n+1) e l=some q:=by
 intro n
 induction n with
 | zero=>intro e l q h;cases h
 | succ n ih=>
  intro e l q h;have h' : nI (jv n) e l=some q:=h;show nI (jv (n+1)) e l=some q;have m1:∀ (xs:List Expr) (i:Nat) (s q:List Oc),eachL (qU (jv n)) i xs s=some q->eachL (qU (jv (n+1))) i xs s=some q:=AZ λk x s q hq=>by
   unfold qU at hq ⊢;obtain⟨y,h3,h4⟩:=bd hq;rw[ih _ _ _ h3];exact h4
  unfold nI at h' ⊢;by_cases hk:e.Kind=3;rw[ao hk] at h' ⊢;obtain⟨y,U,W⟩:=bd h';obtain⟨s,h3,h4⟩:=bd W;rw[U,aj,m1 _ _ _ _ h3];exact h4;rw[al hk] at h' ⊢;obtain⟨s,h3,h4⟩:=bd h';have m2:eachL (A8 (jv (n+1))) 0 e.Args l=some s:=m1 _ _ _ _ h3;rw[m2];exact h4
theorem Xf:∀ (m:Nat) (e:Expr) (l:List Oc),dD e<=m->nC l->l.length+(gl e).length<=1099511627776 ->
  ∃ q,jv m e l=some q/\nC q/\(∀ a,a∈q↔a∈l∨a∈gl e)/\q.length<=l.length+(gl e).length:=by
 intro m
 induction m with
 | zero=>intro e l h;rw[oE] at h;omega
 | succ m ih=>
  intro e l h hs Y;rw[oE] at h;rw[oM,Axz] at Y;have hl:∀ (xs:List Expr) (i:Nat) (s:List Oc),gN xs<=m->nC s->s.length+(gC xs).length<=1099511627776 ->
    ∃ q,eachL (qU (jv m)) i xs s=some q/\nC q/\(∀ a,a∈q↔a∈s∨a∈gC xs)/\q.length<=s.length+(gC xs).length:=by
   intro xs
   induction xs with
   | nil=>intro i s _ hs _;exact⟨s,rfl,hs,by simp[gC],by omega⟩
   | cons x xs ihl=>
    intro i s hf hs Y;simp only[gN] at hf;simp only[gC,Axz] at Y;obtain⟨q,U,W,h3,h4⟩:=ih x s (by omega) hs (by omega);obtain⟨q2,k1,k2,k3,k4⟩:=ihl (i+1) q (by omega) W (by omega);refine⟨q2,?_,k2,λa=>?_,by simp only[gC,Axz];omega⟩;simp only[eachL,qU,U,aj];exact k1;rw[k3,h3,gC,Ciz,or_assoc]
  show ∃ q,nI (jv m) e l=some q/\_;unfold nI;by_cases hk:e.Kind=3;rw[ao hk] at Y ⊢;simp only[bH,Dyz] at Y;obtain⟨y,U,W,h3,h4⟩:=VK (l:=l) (o:=⟨e.Pos,e.Name⟩) (by omega) hs;obtain⟨q,k1,k2,k3,k4⟩:=hl e.Args 0 y (by omega) W (by omega);refine⟨q,?_,k2,λa=>?_,?_⟩;rw[U,aj,k1];rfl;rw[k3,h3,oM,ao hk,Ciz,Bpz];constructor;rintro ((h|h)|h)<;>simp[h];rintro (h|h|h)<;>simp[h];rw[oM,ao hk];simp;omega;rw[al hk] at Y ⊢;simp only[Dyz] at Y;obtain⟨q,k1,k2,k3,k4⟩:=hl e.Args 0 l (by omega) hs (by omega);have k1' : eachL (A8 (jv m)) 0 e.Args l=some q:=k1;refine⟨q,?_,k2,λa=>?_,?_⟩;rw[k1'];rfl;rw[k3,oM,al hk];simp;rw[oM,al hk];simpa using k4
theorem Yq (e:Expr):nC (attrs e):=by
 refine GX bZ.trans BH ?_;have h:=List.pairwise_mergeSort (le:=λx y=>!fD y x) (λa b c U W=>by
  simp only[Bdz] at U W ⊢;exact bZ.ntrans _ _ _ W U) (λa b=>by
  cases h:fD a b with
  | false=>simp[h]
  | true=>
   cases W:fD b a with
   | false=>simp
   | true=>have:=bZ.trans _ _ _ h W;rw[bZ.irrefl] at this;cases this) (gl e)
 unfold nk;exact h.imp λ{a b} h=>by simpa using h
theorem EN {e:Expr}(h:Sz.szd e<=1048576):nS e=some (attrs e):=by
 have hl:=D9 h;obtain⟨q,U,W,h3,h4⟩:=Xf _ e [] (Acz _) List.Pairwise.nil (by simp;omega);have hq:q=attrs e:=Mh (lt:=fD) bZ.irrefl bZ.trans W (Yq e) λa=>by rw[h3,VU];simp
 subst hq;have Z:Fb e []=some (attrs e):=Jt (λn q=>S6 n e [] q) U;unfold nS;rw[Z];rfl
def Ok {ρ:Type}(Q:ρ->Prop)(o:Option ρ):Prop:=∃ r,o=some r/\Q r
section
variable {ρ τ σ α:Type}{Q:ρ->Prop}{R:τ->Prop}
theorem Ok.ret {r:ρ}(h:Q r):Ok Q (some r):=⟨r,rfl,h⟩
theorem Ok.bind {o:Option ρ}{f:ρ->Option τ}(h:Ok Q o)(hf:∀ r,Q r->Ok R (f r)):Ok R (o.bind f):=by
 obtain⟨r,rfl,Z⟩:=h;exact hf r Z
theorem Ok.grd {c:Prop}[Decidable c]{k:Option τ}(hc:c)(h:Ok R k):Ok R (Go.E.grd c k):=by rw[aD hc];exact h
theorem Ok.ite {c:Prop}[Decidable c]{a b:Option τ}(U:c->Ok R a)(W:¬ c->Ok R b):Ok R (if c then a else b):=by
 by_cases hc:c;rw[ao hc];exact U hc;rw[al hc];exact W hc
theorem Ok.mono {Q' : ρ->Prop}{o:Option ρ}(h:Ok Q o)(hq:∀ r,Q r->Q' r):Ok Q' o:=by
 obtain⟨r,rfl,Z⟩:=h;exact⟨r,rfl,hq r Z⟩
theorem EM {P:Nat->σ->Prop}{f:Nat->σ->Option σ}:∀ {n i:Nat} {s:σ},P i s->(∀ k s,i<=k->k<i+n->P k s->Ok (P (k+1)) (f k s))->Ok (P (i+n)) (eachN f i n s)
 | 0,i,s,h,_=>⟨s,rfl,h⟩
 | n+1,i,s,h,hf=>by
  rw[eachN];refine (hf i s (Acz _) (by omega) h).bind λr Z=>?_;have:=EM (n:=n) Z λk s U W=>hf k s (by omega) (by omega);rwa[show i+1+n=i+(n+1) by omega] at this
theorem AD {P:Nat->σ->Prop}{f:Nat->α->σ->Option σ}:∀ {xs:List α} {i:Nat} {s:σ},P i s->(∀ k x s,x∈xs->i<=k->k<i+xs.length->P k s->Ok (P (k+1)) (f k x s))->Ok (P (i+xs.length)) (eachL f i xs s)
 | [],i,s,h,_=>⟨s,rfl,h⟩
 | x::xs,i,s,h,hf=>by
  rw[eachL];refine (hf i x s (by simp) (Acz _) (by simp) h).bind λr Z=>?_;have:=AD (xs:=xs) Z λk y s hy U W=>hf k y s (by simp[hy]) (by omega) (by simp;omega);rwa[show i+1+xs.length=i+(x::xs).length by simp;omega] at this
theorem Js {g:Nat->Option ρ}{N:Nat}(h:∀ n,N<=n->g (n+1)=g n)(W:Ok Q (g N)):Ok Q (ct g):=by
 obtain⟨r,h3,h4⟩:=W;have:∀ k,g (N+k)=some r:=by
  intro k
  induction k with
  | zero=>exact h3
  | succ k ih=>rw[← Nat.add_assoc,h _ (by omega),ih]
 exact⟨r,iA N λn hn=>by have:=this (n-N);rwa[show N+(n-N)=n by omega] at this,h4⟩
end
def CB (b:List UInt8)(z:aB):Prop:=0<=z.i/\z.b=b
theorem CB.mk' {b:List UInt8}{o z:aB}(h:CB b o)(hz:CB b z):CB b ⟨o.b,z.i,z.h⟩:=⟨hz.1,h.2⟩
def Dr {α:Type}(b:List UInt8)(P:α->Prop)(o:Option (α×aB)):Prop:=Ok (λr=>P r.1/\CB b r.2) o
theorem Dr.of {α:Type}{b:List UInt8}{P:α->Prop}{o:Option (α×aB)}(Y:b.length<=1048576)(h:∃ y z,o=some (y,z)/\P y/\ni z/\z.b=b):Dr b P o:=by
 obtain⟨y,z,e,U,W,h3⟩:=h;exact⟨(y,z),e,U,W.1,h3⟩
theorem CB.ok {b:List UInt8}{z:aB}(Y:b.length<=1048576)(h:CB b z):ni z:=⟨h.1,by rw[h.2];exact Y⟩
section
variable {b:List UInt8}{o:aB}(Y:b.length<=1048576)
include Y
theorem R8:Ok (λz=>CB b z) (qz b):=by
 obtain⟨o,U,W,h3⟩:=Vf Y;exact⟨o,U,W.1,h3⟩
theorem cR (n:Int)(h:CB b o):Dr b (λy=>0<=y/\(0<n->y<n)/\(n<=0->y=0)) (b6 n o):=by
 obtain⟨y,z,U,W,h3,h4,h5,h6⟩:=Mc (h.ok Y) n;exact⟨(y,z),U,⟨W,h3,h4⟩,h5.1,h6.trans h.2⟩
theorem fY (n:Int)(h:CB b o):Dr b (λ_=>True) (dO n o):=by
 unfold dO;refine (cR Y n h).bind ?_;rintro⟨y,z⟩ ⟨_,hz⟩;exact .ret ⟨trivial,h.mk' hz⟩
theorem ka {l:List an}(hl:l≠[])(h:CB b o):Dr b (λy=>y∈l) (iE l o):=by
 have hpos:=List.length_pos_iff.2 hl;unfold iE;refine (cR Y _ h).bind ?_;rintro⟨y,z⟩ ⟨⟨U,W,_⟩,hz⟩;dsimp only at U W hz ⊢;have:=W (by omega);obtain⟨x,hx⟩:∃ x,l[y.toNat]?=some x:=⟨_,Cmz (by omega)⟩
 rw[hx];exact .grd U (.ret ⟨Bvz hx,h.mk' hz⟩)
theorem lS {l:List Int}(hl:l≠[])(h:CB b o):Dr b (λy=>y∈l) (gV l o):=by
 obtain⟨y,z,U,W,h3,h4⟩:=Yr (h.ok Y) hl;exact⟨(y,z),U,W,h3.1,h4.trans h.2⟩
theorem D7 (h:CB b o):Dr b (λy=>y.size=1) (mD o):=by
 unfold mD;refine (ka Y (by simp) h).bind ?_;rintro⟨y,z⟩ ⟨U,hz⟩;refine .ret ⟨?_,h.mk' hz⟩;simp only[Dsz,Daz,or_false] at U;rcases U with U|U|U|U|U|U|U|U<;>rw[U]<;>rfl
theorem sh (k n p t:Int)(s m:an):Sz.szd (⟨k,n,p,t,s,m,[]⟩:Expr)=s.size+m.size:=by rw[eX];rfl
theorem DO (k n p t:Int)(s m:an)(x y:Expr):Sz.szd (⟨k,n,p,t,s,m,[x,y]⟩:Expr)=s.size+m.size+(1+Sz.szd x+(1+Sz.szd y+0)):=by rw[eX];rfl
theorem IJ (k n p t:Int)(s m:an)(x:Expr):Sz.szd (⟨k,n,p,t,s,m,[x]⟩:Expr)=s.size+m.size+(1+Sz.szd x+0):=by rw[eX];rfl
theorem Ka (k n p t:Int)(s m:an)(x y z:Expr):Sz.szd (⟨k,n,p,t,s,m,[x,y,z]⟩:Expr)=s.size+m.size+(1+Sz.szd x+(1+Sz.szd y+(1+Sz.szd z+0))):=by rw[eX];rfl
theorem my:(⟨#[]⟩:an).size=0:=rfl
theorem sq (k:Int){l:List Oc}(hl:∀ q∈l,q.Name.size<=8)(h:CB b o):Dr b (λe=>Sz.szd e<=8) (jx k l o):=by
 have bare:∀ {o:aB},CB b o->∀ {R:Option (Expr×aB)},R=(if k=4 then
   (dO 3 o).bind λ(y10,z7)=>if y10=true then some ((⟨7,0,0,0,(⟨#[]⟩:an),(⟨#[]⟩:an),[]⟩:Expr),(⟨o.b,z7.i,z7.h⟩:aB)) else some ((⟨6,0,0,0,(⟨#[]⟩:an),(⟨#[]⟩:an),[]⟩:Expr),(⟨o.b,z7.i,z7.h⟩:aB))
  else if k=3 then (b6 2 o).bind λ(y11,z8)=>(kg y11 k).bind λy12=>some (y12,(⟨o.b,z8.i,z8.h⟩:aB))
  else if k=2 then (b6 12 o).bind λ(y13,z9)=>grd (0<=y13) <| grd (0<=y13/\y13<63) <| (kg ((2 ^ y13.toNat:Nat):Int) k).bind λy14=>some (y14,(⟨o.b,z9.i,z9.h⟩:aB))
  else (b6 9 o).bind λ(y15,z10)=>(kg y15 1).bind λy16=>some (y16,(⟨o.b,z10.i,z10.h⟩:aB)))->Dr b (λe=>Sz.szd e<=8) R:=by
  rintro o h R rfl;refine .ite (λ_=>?_) λ_=>.ite (λ_=>?_) λ_=>.ite (λ_=>?_) λ_=>?_;refine (fY Y 3 h).bind ?_;rintro⟨y,z⟩ ⟨_,hz⟩;refine .ite (λ_=>.ret ⟨?_,h.mk' hz⟩) λ_=>.ret ⟨?_,h.mk' hz⟩;exact Aez _;exact Aez _;refine (cR Y 2 h).bind ?_;rintro⟨y,z⟩ ⟨_,hz⟩;refine .ret ⟨?_,h.mk' hz⟩;exact Aez _;refine (cR Y 12 h).bind ?_;rintro⟨y,z⟩ ⟨⟨U,W,_⟩,hz⟩;have:=W (by omega);dsimp only at U this;refine .grd U (.grd (by omega) (.ret ⟨?_,h.mk' hz⟩));exact Aez _;refine (cR Y 9 h).bind ?_;rintro⟨y,z⟩ ⟨_,hz⟩;refine .ret ⟨?_,h.mk' hz⟩;exact Aez _
 unfold jx;refine .ite (λhl0=>?_) λ_=>bare h rfl;refine (fY Y 4 h).bind ?_;rintro⟨y,z⟩ ⟨_,hz⟩;have h':=h.mk' hz;refine .ite (λ_=>?_) λ_=>?_;exact bare h' rfl;refine (cR Y _ h').bind ?_;rintro⟨y,z⟩ ⟨⟨U,W,_⟩,hz⟩;have:=W (by omega);dsimp only at U this;obtain⟨x,hx⟩:∃ x,l[y.toNat]?=some x:=⟨_,Cmz (by omega)⟩
 dsimp only;rw[hx];refine .grd U (.ret ⟨?_,h.mk' hz⟩);dsimp only;rw[sh Y,my Y];have:=hl x (Bvz hx);omega
def fb (d:Nat):Nat:=20*4 ^ d
theorem sg (d:Nat):20<=fb d:=by
 have:1<=4 ^ d:=Nat.one_le_pow _ _ (by omega);unfold fb;omega
theorem Jr (d:Nat):fb (d+1)=4*fb d:=by unfold fb;rw[Nat.pow_succ];omega
theorem Bo (h:CB b o){R:Option (Expr×aB)}(hR:R=(
 (dO 5 o).bind λ(y1,z1)=>
 if y1=true then (
 some ((⟨2,0,0,0,(⟨#[]⟩:an),(⟨#[]⟩:an),[]⟩:Expr),(⟨o.b,z1.i,z1.h⟩:aB))
 ) else (
 (dO 6 (⟨o.b,z1.i,z1.h⟩:aB)).bind λ(y2,z2)=>
 if y2=true then (
 (b6 4 (⟨o.b,z2.i,z2.h⟩:aB)).bind λ(y3,z3)=>
 some ((⟨6,0,y3,0,(⟨#[]⟩:an),(⟨#[]⟩:an),[]⟩:Expr),(⟨o.b,z3.i,z3.h⟩:aB))
 ) else (
 (b6 4 (⟨o.b,z2.i,z2.h⟩:aB)).bind λ(y4,z4)=>
 grd (aR (1+y4)) <|
 (b6 4 (⟨o.b,z4.i,z4.h⟩:aB)).bind λ(y5,z5)=>
 (mD (⟨o.b,z5.i,z5.h⟩:aB)).bind λ(y6,z6)=>
 (jx (1+y4) [(⟨y5,y6⟩:Oc)] (⟨o.b,z6.i,z6.h⟩:aB)).bind λ(y7,z7)=>
 some (y7,(⟨o.b,z7.i,z7.h⟩:aB))
 )
 ))):Dr b (λe=>Sz.szd e<=20) R:=by
 subst hR;refine (fY Y 5 h).bind ?_;rintro⟨y1,z1⟩ ⟨_,U⟩;refine .ite (λ_=>.ret ⟨?_,h.mk' U⟩) λ_=>?_;exact Aez _;refine (fY Y 6 (h.mk' U)).bind ?_;rintro⟨y2,z2⟩ ⟨_,W⟩;refine .ite (λ_=>?_) λ_=>?_;refine (cR Y 4 (h.mk' W)).bind ?_;rintro⟨y3,z3⟩ ⟨_,h3⟩;refine .ret ⟨?_,h.mk' h3⟩;exact Aez _;refine (cR Y 4 (h.mk' W)).bind ?_;rintro⟨y4,z4⟩ ⟨⟨K,a2,_⟩,h4⟩;have:=a2 (by omega);dsimp only at K this;refine .grd (by constructor<;>omega) ?_;refine (cR Y 4 (h.mk' h4)).bind ?_;rintro⟨y5,z5⟩ ⟨_,h5⟩;refine (D7 Y (h.mk' h5)).bind ?_;rintro⟨y6,z6⟩ ⟨hn,h6⟩;refine (sq Y _ (by simpa using (show y6.size<=8 by dsimp only at hn;omega)) (h.mk' h6)).bind ?_;rintro⟨y7,z7⟩ ⟨hs,h7⟩;exact .ret ⟨by have hs' : Sz.szd y7<=8:=hs;show Sz.szd y7<=20;omega,h.mk' h7⟩
theorem S5:∀ (d:Nat) (m:Nat),d<m->∀ (a:Int) (o:aB),a<=d+1->iD (m+1) a o=iD m a o:=by
 intro d
 induction d with
 | zero=>
  intro m hm a o ha;obtain⟨m,rfl⟩:∃ q,m=q+1:=⟨m-1,by omega⟩
  show jI (iD (m+1)) a o=jI (iD m) a o;unfold jI;rw[ao (by omega),ao (by omega)]
 | succ d ih=>
  intro m hm a o ha;obtain⟨m,rfl⟩:∃ q,m=q+1:=⟨m-1,by omega⟩
  have e:iD (m+1) (a-1)=iD m (a-1):=funext λo=>ih m (by omega) (a-1) o (by omega);show jI (iD (m+1)) a o=jI (iD m) a o;unfold jI;rw[e]
theorem Vd:∀ (d:Nat) (m:Nat),d<m->∀ (a:Int) (o:aB),a<=d+1->-1000000<=a->d<=100000->CB b o->Dr b (λe=>Sz.szd e<=fb d) (iD m a o):=by
 intro d
 induction d with
 | zero=>
  intro m hm a o ha _ _ h;obtain⟨m,rfl⟩:∃ q,m=q+1:=⟨m-1,by omega⟩
  show Dr b _ (jI (iD m) a o);unfold jI;rw[ao (by omega)];exact (Bo Y h rfl).mono λr Z=>⟨Bgz Z.1 (sg Y 0),Z.2⟩
 | succ d ih=>
  intro m hm a o ha h0 hd h;obtain⟨m,rfl⟩:∃ q,m=q+1:=⟨m-1,by omega⟩
  have hf:=sg Y d;have hs:=Jr Y d;show Dr b _ (jI (iD m) a o);unfold jI;by_cases ha2:a<2;rw[ao ha2];exact (Bo Y h rfl).mono λr Z=>⟨Bgz Z.1 (sg Y _),Z.2⟩
  rw[al ha2];have ih' : ∀ {o:aB},CB b o->Dr b (λe=>Sz.szd e<=fb d) (iD m (a-1) o):=λh=>ih m (by omega) (a-1) _ (by omega) (by omega) (by omega) h;have hg:aR (a-1):=by constructor<;>omega
  refine (fY Y 4 h).bind ?_;rintro⟨y8,z8⟩ ⟨_,h8⟩;refine .ite (λ_=>(Bo Y (h.mk' h8) rfl).mono λr Z=>⟨Bgz Z.1 (sg Y _),Z.2⟩) λ_=>?_;refine (cR Y 5 (h.mk' h8)).bind ?_;rintro⟨y16,z16⟩ ⟨_,h16⟩;refine .ite (λ_=>?_) λ_=>.ite (λ_=>?_) λ_=>?_;refine .grd hg ((ih' (h.mk' h16)).bind ?_);rintro⟨e1,z1⟩ ⟨s1,U⟩;refine .grd hg ((ih' (h.mk' U)).bind ?_);rintro⟨e2,z2⟩ ⟨s2,W⟩;refine .grd hg ((ih' (h.mk' W)).bind ?_);rintro⟨e3,z3⟩ ⟨s3,h3⟩;refine .ret ⟨?_,h.mk' h3⟩;dsimp only at s1 s2 s3 ⊢;rw[Ka Y,my Y];omega;refine (ka Y (by simp) (h.mk' h16)).bind ?_;rintro⟨y20,z20⟩ ⟨h20,c20⟩;refine (D7 Y (h.mk' c20)).bind ?_;rintro⟨y21,z21⟩ ⟨h21,c21⟩;refine .grd hg ((ih' (h.mk' c21)).bind ?_);rintro⟨e1,z1⟩ ⟨s1,U⟩;refine .ret ⟨?_,h.mk' U⟩;have:y20.size=1:=by
   simp only[Dsz,Daz,or_false] at h20;rcases h20 with h20|h20<;>rw[h20]<;>rfl
  dsimp only at s1 h21 ⊢;rw[IJ Y];omega;refine (cR Y 12 (h.mk' h16)).bind ?_;rintro⟨y23,z23⟩ ⟨⟨K,a2,_⟩,h23⟩;have:=a2 (by omega);dsimp only at K this;refine .grd (by constructor<;>omega) (.grd hg ((ih' (h.mk' h23)).bind ?_));rintro⟨e1,z1⟩ ⟨s1,U⟩;refine .grd hg ((ih' (h.mk' U)).bind ?_);rintro⟨e2,z2⟩ ⟨s2,W⟩;refine .ret ⟨?_,h.mk' W⟩;dsimp only at s1 s2 ⊢;rw[DO Y,my Y];omega
theorem Jq (d:Nat){a:Int}(ha:a<=d+1)(h0:-1000000<=a)(hd:d<=100000)(h:CB b o):Dr b (λe=>Sz.szd e<=fb d) (xj a o):=
 Js (g:=λn=>iD n a o) (N:=d+1) (λn hn=>S5 Y d n (by omega) a o ha) (Vd Y d (d+1) (by omega) a o ha h0 hd h)
theorem DU {e:Expr}{n:Nat}(h:Sz.szd e<=n):bS e<=n+1:=by
 have U:=ER e;have W:kJ e=Sz.szd e:=rfl;omega
theorem JF (h:CB b o):Dr b (λe=>Sz.szd e<=20480) (qG o):=by
 unfold qG;refine (cR Y 5 h).bind ?_;rintro⟨y1,z1⟩ ⟨⟨K,a2,_⟩,U⟩;have:=a2 (by omega);dsimp only at K this;refine .grd (by constructor<;>omega) ?_;refine (Jq Y 5 (a:=1+y1) (by omega) (by omega) (by omega) (h.mk' U)).bind ?_;rintro⟨e,z2⟩ ⟨s2,W⟩;have s2' : Sz.szd e<=20480:=s2;dsimp only;rw[xa (by have:=DU Y s2';omega)];refine Ok.bind (Q:=λ_=>True) (.ret trivial) λy3 _=>.ite (λ_=>.ret ⟨s2',h.mk' W⟩) λ_=>.ret ⟨?_,h.mk' W⟩;exact Aez _
theorem S4 (h:CB b o):Dr b (λe=>Sz.szd e<=30000) (sU o):=by
 unfold sU;refine (JF Y h).bind ?_;rintro⟨e,z1⟩ ⟨s1,U⟩;have s1' : Sz.szd e<=20480:=s1;have s2:=eX e;refine (cR Y 14 (h.mk' U)).bind ?_;rintro⟨y2,z2⟩ ⟨_,W⟩;dsimp only;refine .ite (λ_=>?_) λ_=>.ite (λ_=>?_) λ_=>.ite (λ_=>?_) λ_=>.ite (λ_=>?_) λ_=>.ite (λ_=>?_) λ_=>.ite (λ_=>?_) λ_=>?_;refine (cR Y 11 (h.mk' W)).bind ?_;rintro⟨y3,z3⟩ ⟨_,h3⟩;refine .ret ⟨?_,h.mk' h3⟩;dsimp only;rw[eX];dsimp only;omega;have hl:=gG e.Args;refine .grd (by constructor<;>omega) (.ret ⟨?_,h.mk' W⟩);dsimp only;rw[eX];dsimp only;rw[Bg];have:bP [(⟨7,0,0,0,(⟨#[]⟩:an),(⟨#[]⟩:an),[]⟩:Expr)]=1:=rfl;omega;refine (lS Y (by simp) (h.mk' W)).bind ?_;rintro⟨y3,z3⟩ ⟨_,h3⟩;refine .ret ⟨?_,h.mk' h3⟩;dsimp only;rw[eX];dsimp only;omega;refine (lS Y (by simp) (h.mk' W)).bind ?_;rintro⟨y3,z3⟩ ⟨_,h3⟩;refine .ret ⟨?_,h.mk' h3⟩;dsimp only;rw[eX];dsimp only;omega;refine (ka Y (by simp) (h.mk' W)).bind ?_;rintro⟨y3,z3⟩ ⟨h30,h3⟩;have:y3.size<=2:=by
  simp only[Dsz,Daz,or_false] at h30;rcases h30 with h30|h30|h30<;>rw[h30]<;>decide
 refine .ret ⟨?_,h.mk' h3⟩;dsimp only;rw[eX];dsimp only;omega;have hL:Ok (λq=>Sz.szd (⟨q.2.1,q.2.2.1,q.2.2.2.1,q.2.2.2.2.1,q.2.2.2.2.2.1,q.2.2.2.2.2.2,q.1⟩:Expr)<=20480+5*2) (eachN A9 0 5 (e.Args,e.Kind,e.N,e.Pos,e.t__,e.af,e.Name)):=by
  refine (EM (P:=λk q=>Sz.szd (⟨q.2.1,q.2.2.1,q.2.2.2.1,q.2.2.2.2.1,q.2.2.2.2.2.1,q.2.2.2.2.2.2,q.1⟩:Expr)<=20480+k*2) (by dsimp only;rw[eX];dsimp only;omega) λk q _ _ hq=>?_).mono λq hq=>by simpa using hq
  obtain⟨q1,q2,q3,q4,q5,q6,q7⟩:=q;dsimp only at hq;refine .ret ?_;dsimp only;rw[DO Y,sh Y,my Y];omega
 refine hL.bind ?_;rintro⟨q1,q2,q3,q4,q5,q6,q7⟩ hq;refine .ret ⟨?_,h.mk' W⟩;dsimp only at hq ⊢;omega;exact .ret ⟨by dsimp only;omega,h.mk' W⟩
end
def aI (r:au):Prop:=0<=r.N/\r.N<=16/\(r.Rows.length:Int)=r.N/\∀ x∈r.Rows,0<=x/\x<=((2 ^ r.N.toNat:Nat):Int)-1
instance (r:au):Decidable (aI r):=by unfold aI;infer_instance
def gY (r:au)(i:Int):Int:=r.Rows.getD i.toNat 0
def bit (x:Int)(k:Int):Prop:=x.toNat >>> k.toNat &&& 1=1
instance (x k:Int):Decidable (bit x k):=by unfold bit;infer_instance
def eh (r:au)(i:Int):Prop:=0<=i/\i<=r.N-1
instance (r:au) (i:Int):Decidable (eh r i):=by unfold eh;infer_instance
def bD (r:au)(i k:Int):Prop:=aI r/\eh r i/\eh r k/\bit (gY r i) k
instance (r:au) (i k:Int):Decidable (bD r i k):=by unfold bD;infer_instance
def wz (r:au)(i:Int)(x:Int):au:=⟨r.N,r.Rows.set i.toNat x⟩
def gW (x y:Int):Int:=((x.toNat ||| y.toNat:Nat):Int)
def cB (r:au)(i k:Int):au:=if aI r/\eh r i/\eh r k then wz r i (gW (gY r i) ((2 ^ k.toNat:Nat):Int)) else r
theorem aI.row {r:au}(h:aI r){i:Int}(hi:eh r i){x:Int}(hx:r.Rows[i.toNat]?=some x):gY r i=x/\0<=x/\x<=65535:=by
 have hm:=h.2.2.2 x (Bvz hx);have hp:2 ^ r.N.toNat<=2 ^ 16:=Ebz (by decide) (by have:=h.2.1;omega);refine⟨by unfold gY;simp[hx],hm.1,by omega⟩
theorem O2 {n:Int}(h:n<=16):2 ^ n.toNat<=65536:=by
 have:2 ^ n.toNat<=2 ^ 16:=Ebz (by decide) (by omega);simpa using this
theorem J9 (n:Int):1<=2 ^ n.toNat:=Nat.one_le_two_pow
theorem Wg {r:au}(h0:0<=r.N)(U:r.N<=16)(W:(r.Rows.length:Int)=r.N):decide (aI r)=!(r.Rows.any λx=>!decide (0<=x/\x<=((2 ^ r.N.toNat:Nat):Int)-1)):=by
 by_cases hv:aI r;rw[decide_eq_true hv,eq_comm,Bdz,List.any_eq_false];intro x hx;simp only[Bdz,decide_eq_false_iff_not,Decidable.not_not];exact hv.2.2.2 x hx;rw[decide_eq_false hv,eq_comm,Bool.not_eq_false',List.any_eq_true];refine Classical.byContradiction λhn=>hv ⟨h0,U,W,λx hx=>Classical.byContradiction λY=>hn ⟨x,hx,?_⟩⟩;rw[decide_eq_false Y];rfl
theorem II {x k:Int}(h:(((((x.toNat >>> k.toNat:Nat):Int)).toNat &&& (1:Int).toNat:Nat):Int)=1):x.toNat >>> k.toNat &&& 1=1:=by
 have:(1:Int).toNat=1:=rfl;rw[cE,this] at h
 exact_mod_cast h
theorem IH {x k:Int}(h:x.toNat >>> k.toNat &&& 1=1):(((((x.toNat >>> k.toNat:Nat):Int)).toNat &&& (1:Int).toNat:Nat):Int)=1:=by
 have:(1:Int).toNat=1:=rfl;rw[cE,this]
 exact_mod_cast h
theorem jH (x lo hi:Int):cW x lo hi=some (decide (lo<=x/\x<=hi)):=by
 unfold cW;split<;>simp_all<;>omega
theorem tv (x lo hi:Int):dC x lo hi=some (decide (lo<=x/\x<=hi)):=by
 unfold dC;split<;>simp_all<;>omega
theorem nK (r:au):mX r=some (decide (aI r)):=by
 unfold mX;simp only[jH,aj,decide_eq_true_eq];by_cases U:0<=r.N/\r.N<=16;rw[ao U];by_cases W:(r.Rows.length:Int)=r.N;rw[ao W];have key:=K8 (c:=false) (n:=r.N.toNat) (i:=0) (p:=λk=>∃ x,r.Rows[k]?=some x/\¬ (0<=x/\x<=((2 ^ r.N.toNat:Nat):Int)-1)) (f:=Cy r) λk hk=>by
  have hk' : k<r.Rows.length:=by omega
  obtain⟨x,hx⟩:∃ x,r.Rows[k]?=some x:=⟨_,Cmz hk'⟩
  simp only[Adz];unfold Cy;rw[hx,aj,aD U.1,aD (by omega),jH,aj];simp only[decide_eq_true_eq];refine⟨λ⟨y,hy,hn⟩=>?_,λhn=>?_⟩;cases hy;rw[al hn];by_cases Y:0<=x/\x<=((2 ^ r.N.toNat:Nat):Int)-1;rw[ao Y];exact absurd ⟨x,rfl,Y⟩ hn
 simp only[Adz] at key;by_cases hv:aI r;rw[key.2 λk hk ⟨x,hx,hn⟩=>hn (hv.2.2.2 x (Bvz hx))];simp[hv];rw[key.1 (Classical.byContradiction λhn=>hv ⟨U.1,U.2,W,λx hx=>?_⟩)];simp[hv];obtain⟨k,hk⟩:=List.getElem?_of_mem hx;have hk':=Pd hk;exact Classical.byContradiction λY=>hn ⟨k,by omega,x,hk,Y⟩;rw[al W,decide_eq_false λhv=>W hv.2.2.1];rw[al U,decide_eq_false λhv=>U ⟨hv.1,hv.2.1⟩]
theorem Bn (r:au):pG r=some (decide (aI r)):=by
 unfold pG;simp only[tv,aj,decide_eq_true_eq];by_cases U:0<=r.N/\r.N<=16;rw[ao U];simp only[aj,Eaz,if_true,if_false,decide_eq_true_eq];by_cases W:(r.Rows.length:Int)=r.N;rw[ao W];have h3:∀ x,vj x r=some (!decide (0<=x/\x<=((2 ^ r.N.toNat:Nat):Int)-1)):=λx=>by
  unfold vj;rw[aD U.1,aD (by omega),tv];rfl
 have h4:∀ (xs:List Int) (i:Nat),∃ z,findL (CN r) i xs ()=some z/\((xs.any λx=>!decide (0<=x/\x<=((2 ^ r.N.toNat:Nat):Int)-1))=true->∃ k:Nat,z=.inr (k:Int))/\((xs.any λx=>!decide (0<=x/\x<=((2 ^ r.N.toNat:Nat):Int)-1))=false->z=.inl ()):=by
  intro xs
  induction xs with
  | nil=>intro i;exact⟨_,rfl,by simp,by simp⟩
  | cons x xs ih=>
   intro i;simp only[findL,CN,h3,aj,List.any_cons];by_cases Y:0<=x/\x<=((2 ^ r.N.toNat:Nat):Int)-1;simp only[Y,and_self,decide_true,Bool.not_true,Eaz,if_false,aj,Bool.false_or];exact ih (i+1);simp only[Y,decide_false,Bool.not_false,if_true,aj,Bool.true_or];exact⟨_,rfl,λ_=>⟨i,rfl⟩,by simp⟩
 unfold zD zw;obtain⟨z,hz,hz1,hz2⟩:=h4 r.Rows 0;rw[hz,Wg U.1 U.2 W];cases ha:(r.Rows.any λx=>!decide (0<=x/\x<=((2 ^ r.N.toNat:Nat):Int)-1)) with
 | true=>obtain⟨k,rfl⟩:=hz1 ha;simp
 | false=>rw[hz2 ha];simp
 rw[al W,decide_eq_false λhv=>W hv.2.2.1];simp only[aj,Eaz,if_true,if_false,decide_eq_true_eq];rw[al U,decide_eq_false λhv=>U ⟨hv.1,hv.2.1⟩];simp only[aj,Eaz,if_true,if_false,decide_eq_true_eq]
theorem pg (r:au)(i k:Int):mQ r i k=some (decide (bD r i k)):=by
 unfold mQ;simp only[nK,jH,aj,decide_eq_true_eq];by_cases hv:aI r;have hv1:=hv.1;have hv2:=hv.2.1;have hv3:=hv.2.2.1;rw[ao hv,aD (by constructor<;>omega)];simp only[aj,Eaz,if_true,if_false,decide_eq_true_eq];by_cases hi:0<=i/\i<=r.N-1;rw[ao hi,aD (by constructor<;>omega)];simp only[aj,Eaz,if_true,if_false,decide_eq_true_eq];by_cases hk:0<=k/\k<=r.N-1;obtain⟨x,hx⟩:∃ x,r.Rows[i.toNat]?=some x:=⟨_,Cmz (by omega)⟩
 have hrow:=hv.row (i:=i) hi hx;rw[ao hk,aD hi.1,hx,aj,aD hk.1,aD ⟨hrow.2.1,hk.1,by omega⟩,aD ⟨Doz _,by decide⟩];simp only[aj,Eaz,if_true,if_false,decide_eq_true_eq];congr 1;refine decide_eq_decide.2 ⟨λY=>⟨hv,hi,hk,?_⟩,λY=>?_⟩;unfold bit;rw[hrow.1];exact II Y;have:=Y.2.2.2;unfold bit at this;rw[hrow.1] at this;exact IH this;rw[al hk];simp only[aj,Eaz,if_true,if_false,decide_eq_true_eq];rw[ decide_eq_false λh=>hk h.2.2.1];rw[al hi];simp only[aj,Eaz,if_true,if_false,decide_eq_true_eq];rw[ decide_eq_false λh=>hi h.2.1];rw[al hv];simp only[aj,Eaz,if_true,if_false,decide_eq_true_eq];rw[ decide_eq_false λh=>hv h.1]
theorem Bm (r:au)(i k:Int):nJ r i k=some (decide (bD r i k)):=by
 rw[← pg];unfold nJ mQ;simp only[nK,Bn,jH,tv]
theorem K3:rE=mR:=by
 funext r;unfold rE mR nV;by_cases h:((([]:List Int).length:Int)+(r.Rows.length:Int))*8<=140737488355328/\(([]:List Int).length:Int)+(r.Rows.length:Int)<=9223372036854775807;rw[aD h,aD h];rfl;unfold grd;rw[al h,al h];rfl
theorem Vb:nJ=mQ:=by
 funext r i k;rw[Bm,pg]
theorem AC:pc=jJ:=by
 funext r i k;unfold pc jJ;simp only[K3,nK,Bn,jH,tv]
theorem FH:rN=kl:=by
 funext n;unfold rN kl;simp only[jH,tv]
theorem w9 {r:au}(h:r.Rows.length<=1048576):mR r=some r:=by
 unfold mR;rw[aD (by simp only[Dyz];constructor<;>omega)]
theorem J8 {r:au}(h:r.Rows.length<=1048576)(i k:Int):∃ x,jJ r i k=some x/\x.Rows.length=r.Rows.length:=by
 unfold jJ;simp only[w9 h,nK,jH,aj,decide_eq_true_eq];by_cases hv:aI r;have hv1:=hv.1;have hv2:=hv.2.1;have hv3:=hv.2.2.1;rw[ao hv,aD (by constructor<;>omega)];simp only[aj,Eaz,if_true,if_false,decide_eq_true_eq];by_cases hi:0<=i/\i<=r.N-1;rw[ao hi,aD (by constructor<;>omega)];simp only[aj,Eaz,if_true,if_false,decide_eq_true_eq];by_cases hk:0<=k/\k<=r.N-1;obtain⟨x,hx⟩:∃ x,r.Rows[i.toNat]?=some x:=⟨_,Cmz (by omega)⟩
 have hrow:=hv.row (i:=i) hi hx;rw[ao hk,aD hi.1,hx,aj,aD hk.1,aD ⟨hk.1,by omega⟩,aD ⟨hrow.2.1,Doz _⟩];exact⟨_,rfl,by simp⟩;rw[al hk];exact⟨_,rfl,rfl⟩;rw[al hi];simp only[aj,Eaz,if_true,if_false,decide_eq_true_eq];exact⟨_,rfl,rfl⟩;rw[al hv];simp only[aj,Eaz,if_true,if_false,decide_eq_true_eq];exact⟨_,rfl,rfl⟩
theorem Xe (n:Nat):∃ x,kl (n:Int)=some x/\x.Rows.length<=16:=by
 unfold kl;simp only[jH,aj,decide_eq_true_eq];by_cases h:0<=(n:Int)/\(n:Int)<=16;rw[ao h,aD (by refine⟨by omega,by omega,by omega⟩)];exact⟨_,rfl,by simp;omega⟩;rw[al h];exact⟨_,rfl,by simp⟩
theorem wa {r:au}(h:r.Rows.length<=1048576)(i k:Int):jJ r i k=some (cB r i k):=by
 unfold jJ;simp only[w9 h,nK,jH,aj,decide_eq_true_eq];by_cases hv:aI r;have hv1:=hv.1;have hv2:=hv.2.1;have hv3:=hv.2.2.1;rw[ao hv,aD (by constructor<;>omega)];simp only[aj,Eaz,if_true,if_false,decide_eq_true_eq];by_cases hi:0<=i/\i<=r.N-1;rw[ao hi,aD (by constructor<;>omega)];simp only[aj,Eaz,if_true,if_false,decide_eq_true_eq];by_cases hk:0<=k/\k<=r.N-1;obtain⟨x,hx⟩:∃ x,r.Rows[i.toNat]?=some x:=⟨_,Cmz (by omega)⟩
 have hrow:=hv.row (i:=i) hi hx;rw[ao hk,aD hi.1,hx,aj,aD hk.1,aD ⟨hk.1,by omega⟩,aD ⟨hrow.2.1,Doz _⟩];have e:cB r i k=wz r i (gW (gY r i) ((2 ^ k.toNat:Nat):Int)):=ao ⟨hv,hi,hk⟩;rw[e,hrow.1];rfl;rw[al hk];have e:cB r i k=r:=al λh=>hk h.2.2;rw[e];rw[al hi];simp only[aj,Eaz,if_true,if_false,decide_eq_true_eq];have e:cB r i k=r:=al λh=>hi h.2.1;rw[e];rw[al hv];simp only[aj,Eaz,if_true,if_false,decide_eq_true_eq];have e:cB r i k=r:=al λh=>hv h.1;rw[e]
theorem EL {n:Int}(h0:0<=n)(U:n<=16):kl n=some ⟨n,List.replicate n.toNat 0⟩:=by
 unfold kl;rw[jH,aj,ao (by simp;omega),aD (by omega)]
theorem nD (r:au)(i k:Int):(cB r i k).Rows.length=r.Rows.length/\(cB r i k).N=r.N:=by
 unfold cB;split;exact⟨by simp[wz],rfl⟩;exact⟨rfl,rfl⟩
theorem AB (x k:Int):bit x k↔x.toNat.testBit k.toNat=true:=by
 unfold bit;rw[Nat.testBit_eq_decide_div_mod_eq,Nat.shiftRight_eq_div_pow];simp[Nat.and_one_is_mod]
def kp (k:Nat)(s:List Int):List Int:=s.map λx=>if x.toNat.testBit k=true then gW x (s.getD k 0) else x
def gB (s:List Int):Nat->List Int
 | 0=>s
 | m+1=>kp m (gB s m)
def ju (n:Nat)(s:List Int):Prop:=s.length=n/\∀ x∈s,0<=x/\x.toNat<2 ^ n
theorem Mb (x y:Int):0<=gW x y:=by unfold gW;omega
theorem w8 (x y:Int):(gW x y).toNat=x.toNat ||| y.toNat:=by unfold gW;omega
theorem JE {n:Nat}{s:List Int}(h:ju n s)(k:Nat):0<=s.getD k 0/\(s.getD k 0).toNat<2 ^ n:=by
 rw[Cwz];cases hk:s[k]? with
 | none=>simp;exact Nat.two_pow_pos n
 | some x=>exact h.2 x (Bvz hk)
theorem U9 {n k:Nat}{s:List Int}(h:ju n s):ju n (kp k s):=by
 refine⟨by unfold kp;rw[bn];exact h.1,λx hx=>?_⟩;unfold kp at hx;obtain⟨y,hy,rfl⟩:=List.mem_map.1 hx;have U:=h.2 y hy;split;exact⟨Mb _ _,by rw[w8];exact Nat.or_lt_two_pow U.2 (JE h k).2⟩;exact U
theorem ke {n:Nat}{s:List Int}(h:ju n s):∀ m,ju n (gB s m)
 | 0=>h
 | m+1=>U9 (ke h m)
def Rl (s:List Int)(i j:Nat):Prop:=(s.getD i 0).toNat.testBit j=true
theorem Ar {n k:Nat}{s:List Int}(h:ju n s){i:Nat}(hi:i<n)(j:Nat):Rl (kp k s) i j↔Rl s i j∨(Rl s i k/\Rl s k j):=by
 unfold Rl;have hs:∃ x,s[i]?=some x:=⟨_,Cmz (by rw[h.1];exact hi)⟩
 obtain⟨x,hx⟩:=hs;have e1:s.getD i 0=x:=by rw[Cwz,hx];rfl
 have e2:(kp k s).getD i 0=if x.toNat.testBit k=true then gW x (s.getD k 0) else x:=by
  unfold kp;rw[Cwz,Czz,hx];rfl
 rw[e1,e2];by_cases Y:x.toNat.testBit k=true;rw[ao Y,w8,Nat.testBit_or,Bool.or_eq_true];simp[Y];rw[al Y];simp[Y]
theorem O1 {n:Nat}{s:List Int}(h:ju n s){i j:Nat}(hR:Rl s i j):j<n:=by
 unfold Rl at hR;have U:=(JE h i).2;apply Decidable.byContradiction;intro hj;have:(s.getD i 0).toNat.testBit j=false:=Nat.testBit_lt_two_pow (Nat.lt_of_lt_of_le U (Ebz (by omega) (by omega)));rw[this] at hR;cases hR
theorem v8 {n:Nat}{s:List Int}(h:ju n s){i j:Nat}(hR:Rl s i j):i<n:=by
 unfold Rl at hR;apply Decidable.byContradiction;intro hi;have:s.getD i 0=0:=by rw[Cwz,Avz (by rw[h.1];omega)];rfl
 rw[this] at hR;simp at hR
theorem JD {n:Nat}{s:List Int}(h:ju n s):∀ (m i j:Nat),Rl s i j->Rl (gB s m) i j
 | 0,_,_,hR=>hR
 | m+1,i,j,hR=>by
  have hR':=JD h m i j hR;exact (Ar (ke h m) (v8 (ke h m) hR') j).2 (.inl hR')
theorem J7 {n:Nat}{s:List Int}(h:ju n s):∀ (m k i j:Nat),k<m->m<=n->Rl (gB s m) i k->Rl (gB s m) k j->Rl (gB s m) i j:=by
 intro m
 induction m with
 | zero=>intro k i j hk;omega
 | succ m ih=>
  intro k i j hk hm U W;have hok:=ke h m;have hik:=v8 (ke h (m+1)) U;have hkj:=v8 (ke h (m+1)) W;have s1:=(Ar (k:=m) hok hik k).1 U;have s2:=(Ar (k:=m) hok hkj j).1 W;refine (Ar (k:=m) hok hik j).2 ?_;by_cases hkm:k=m;subst hkm;have t1:Rl (gB s k) i k:=by rcases s1 with h|h;exact h;exact h.1
  have t2:Rl (gB s k) k j:=by rcases s2 with h|h;exact h;exact h.2
  exact .inr ⟨t1,t2⟩;have hk' : k<m:=by omega
  rcases s1 with a|⟨K,a2⟩<;>rcases s2 with b|⟨b1,b2⟩
  exact .inl (ih k i j hk' (by omega) a b);exact .inr ⟨ih k i m hk' (by omega) a b1,b2⟩;exact .inr ⟨K,ih k m j hk' (by omega) a2 b⟩;exact .inr ⟨K,b2⟩
theorem Xd {n k:Nat}{s:List Int}(h:ju n s)(ht:∀ i j,Rl s i k->Rl s k j->Rl s i j):kp k s=s:=by
 apply Dzz;intro i;unfold kp;rw[Czz];cases hx:s[i]? with
 | none=>rfl
 | some x=>
  have e1:s.getD i 0=x:=by rw[Cwz,hx];rfl
  show some (if x.toNat.testBit k=true then gW x (s.getD k 0) else x)=some x;congr 1;by_cases Y:x.toNat.testBit k=true;rw[ao Y];have hx0:=(h.2 x (Bvz hx)).1;have:(gW x (s.getD k 0)).toNat=x.toNat:=by
   rw[w8];apply Nat.eq_of_testBit_eq;intro j;rw[Nat.testBit_or];cases hj:(s.getD k 0).toNat.testBit j with
   | false=>simp
   | true=>
    have:=ht i j (by unfold Rl;rw[e1];exact Y) hj;unfold Rl at this;rw[e1] at this;rw[this];rfl
  have:=Mb x (s.getD k 0);omega;rw[al Y]
theorem Ng {n:Nat}{s:List Int}(h:ju n s)(ht:∀ k i j,k<n->Rl s i k->Rl s k j->Rl s i j):∀ m,m<=n->gB s m=s
 | 0,_=>rfl
 | m+1,hm=>by
  show kp m (gB s m)=s;rw[Ng h ht m (by omega)];exact Xd h λi j=>ht m i j (by omega)
theorem J6 {n k:Nat}{s:List Int}(h:ju n s)(hk:k<n)(hn:n<=16):eachN (u7 k) 0 n s=some (kp k s):=by
 have hkk:∃ y,s[k]?=some y:=⟨_,Cmz (by rw[h.1];exact hk)⟩
 obtain⟨y,hy⟩:=hkk;have ey:s.getD k 0=y:=by rw[Cwz,hy];rfl
 let f:Int->Int:=λx=>if x.toNat.testBit k=true then gW x y else x
 have hf:f y=y:=by
  show (if y.toNat.testBit k=true then gW y y else y)=y;have:=(h.2 y (Bvz hy)).1;split;unfold gW;rw[Nat.or_self];omega;rfl
 obtain⟨s',U,W⟩:=sG (P:=λm t=>t=(s.take m).map f++s.drop m) (f:=u7 k) (n:=n) (i:=0) (s:=s) (by simp) (λm t _ hm ht=>by
  subst ht;have hms:m<s.length:=by rw[h.1];omega
  obtain⟨x,hx⟩:∃ x,s[m]?=some x:=⟨_,Cmz hms⟩
  have hx0:=h.2 x (Bvz hx);have hy0:=h.2 y (Bvz hy);have g1:((s.take m).map f++s.drop m)[m]?=some x:=by
   rw[Auz (by simp;omega)];simp only[bn,Brz];rw[show m-min m s.length=0 by omega,Baz,Nat.add_zero,hx]
  have g2:((s.take m).map f++s.drop m)[k]?=some y:=by
   by_cases hkm:k<m;rw[List.getElem?_append_left (by simp;omega),Czz,List.getElem?_take,ao hkm,hy];show some (f y)=_;rw[hf];rw[Auz (by simp;omega)];simp only[bn,Brz];rw[Baz,show m+(k-min m s.length)=k by omega,hy]
  have hset:(((s.take m).map f++s.drop m).set m (f x))=(s.take (m+1)).map f++s.drop (m+1):=by
   rw[List.set_append_right _ _ (by simp;omega)];simp only[bn,Brz];rw[show m-min m s.length=0 by omega,Dvz,hx,List.map_append,List.append_assoc];congr 1;rw[List.drop_eq_getElem_cons hms];rfl
  have hno:f x=x->((s.take m).map f++s.drop m)=(s.take (m+1)).map f++s.drop (m+1):=λe=>by
   rw[← hset,e];apply Dzz;intro q;rw[List.getElem?_set];by_cases hq:m=q;subst hq;rw[ao rfl,g1];split;rfl;rename_i hl;exact absurd (by simp;omega) hl;rw[al hq]
  refine⟨_,?_,rfl⟩;unfold u7;rw[g1,aj,aD (by refine⟨hx0.1,by omega,by omega⟩),aD ⟨Doz _,by decide⟩];by_cases Y:bit x (k:Int);have hb':=(AB x k).1 Y;rw[cE] at hb';rw[ao (IH Y),g2,aj,aD ⟨hx0.1,hy0.1⟩,aj,← hset];show some (List.set _ m (gW x y))=some (List.set _ m (f x));have:f x=gW x y:=ao hb';rw[this];have hb' : ¬ x.toNat.testBit k=true:=λh=>Y ((AB x k).2 (by rw[cE];exact h));rw[al (λh=>Y (II h)),aj,← hno (al hb')])
 rw[U];subst W;unfold kp;rw[Adz,List.take_of_length_le (by rw[h.1];exact Acz _),List.drop_eq_nil_of_le (by rw[h.1];exact Acz _),List.append_nil,ey]
theorem mw {r:au}(h:aI r):ju r.N.toNat r.Rows/\r.N.toNat<=16:=by
 obtain⟨h0,U,W,h3⟩:=h;have:=J9 r.N;exact⟨⟨by omega,λx hx=>⟨(h3 x hx).1,by have:=(h3 x hx).2;omega⟩⟩,by omega⟩
def cC (r:au):au:=if aI r then ⟨r.N,gB r.Rows r.N.toNat⟩ else r
theorem S3:Hb=u7:=rfl
theorem K0 {r:au}(h:r.Rows.length<=1048576):rP r=some (cC r):=by
 unfold rP cC;rw[w9 h,aj,nK,aj];by_cases hv:aI r;rw[ao (by simpa using hv),ao hv];obtain⟨hok,hn⟩:=mw hv;obtain⟨t,U,W⟩:=sG (P:=λm t=>t=gB r.Rows m) (f:=Ct r) (n:=r.N.toNat) (i:=0) (s:=r.Rows) rfl (λk s _ hk hs=>by
  subst hs;refine⟨_,?_,rfl⟩;unfold Ct;rw[J6 (ke hok k) (by omega) hn];rfl)
 rw[U,aj,W,Adz];rw[al (by simpa using hv),al hv]
theorem KZ {r:au}(h:r.Rows.length<=1048576):rM r=some (cC r):=by
 unfold rM cC;rw[K3,w9 h,aj,Bn,aj];by_cases hv:aI r;rw[ao (by simpa using hv),ao hv];obtain⟨hok,hn⟩:=mw hv;obtain⟨t,U,W⟩:=sG (P:=λm t=>t=gB r.Rows m) (f:=Cr) (n:=r.Rows.length) (i:=0) (s:=r.Rows) rfl (λk s _ hk hs=>by
  subst hs;refine⟨_,?_,rfl⟩;unfold Cr;have hl:=(ke hok k).1;rw[hl,S3,J6 (ke hok k) (by rw[hok.1] at hk;omega) hn];rfl)
 rw[U,aj,W,Adz,hok.1];rw[al (by simpa using hv),al hv]
theorem xo (r:au):(cC r).Rows.length=r.Rows.length/\(cC r).N=r.N:=by
 unfold cC;by_cases hv:aI r;rw[ao hv];obtain⟨hok,_⟩:=mw hv;exact⟨by show (gB r.Rows r.N.toNat).length=_;rw[(ke hok _).1,hok.1],rfl⟩;rw[al hv];exact⟨rfl,rfl⟩
theorem xS {r:au}(h:aI r):aI (cC r):=by
 obtain⟨hok,hn⟩:=mw h;obtain⟨k1,k2⟩:=ke hok r.N.toNat
 obtain⟨h0,U,W,h3⟩:=h;unfold cC;rw[ao ⟨h0,U,W,h3⟩];refine⟨h0,U,by show ((gB r.Rows r.N.toNat).length:Int)=r.N;omega,λx hx=>?_⟩;have:=k2 x hx;have:=J9 r.N;exact⟨(k2 x hx).1,by show x<=((2 ^ r.N.toNat:Nat):Int)-1;omega⟩
theorem XG (r:au):cC (cC r)=cC r:=by
 by_cases hv:aI r;have hv2:=xS hv;obtain⟨hok,hn⟩:=mw hv;have e:cC r=⟨r.N,gB r.Rows r.N.toNat⟩:=ao hv;rw[e] at hv2 ⊢;rw[show cC ⟨r.N,gB r.Rows r.N.toNat⟩=⟨r.N,gB (gB r.Rows r.N.toNat) r.N.toNat⟩ from ao hv2];rw[Ng (ke hok _) (λk i j hk U W=>J7 hok _ k i j hk (Acz _) U W) _ (Acz _)];have e:cC r=r:=al hv;rw[e,e]
theorem D6 {r:au}(h:aI r)(i j:Nat):bD r (i:Int) (j:Int)↔Rl r.Rows i j:=by
 obtain⟨hok,hn⟩:=mw h;unfold bD;have h0:=h.1;constructor;rintro⟨_,_,_,Y⟩;have:=(AB _ _).1 Y;simpa[Rl,gY] using this;intro hR;have hi:=v8 hok hR;have hj:=O1 hok hR;refine⟨h,⟨by omega,by omega⟩,⟨by omega,by omega⟩,(AB _ _).2 ?_⟩;simpa[Rl,gY] using hR
theorem XF {r:au}(h:r.Rows.length<=1048576):qL r=some (decide (∃ k:Nat,k<r.Rows.length/\bD (cC r) (k:Int) (k:Int))):=by
 unfold qL;rw[KZ h,aj];have hl:=(xo r).1;have hf:∀ (k:Nat) (x:Int),(bD (cC r) (k:Int) (k:Int)->tQ (cC r) k x ()=some (.inr true))/\(¬ bD (cC r) (k:Int) (k:Int)->tQ (cC r) k x ()=some (.inl ())):=λk x=>by
  unfold tQ;rw[Bm,aj];exact⟨λhp=>ao (by simpa using hp),λhp=>al (by simpa using hp)⟩
 have hany:=Fo (c:=true) (xs:=(cC r).Rows) (i:=0) (p:=λk _=>bD (cC r) (k:Int) (k:Int)) (f:=tQ (cC r)) λk x _=>by
  rw[Adz];exact hf k x
 by_cases hp:∃ k:Nat,k<r.Rows.length/\bD (cC r) (k:Int) (k:Int);rw[decide_eq_true hp];obtain⟨k,hk,hpk⟩:=hp;rw[hany.1 ⟨k,_,Cmz (by omega),by rw[Adz];exact hpk⟩];rfl;rw[decide_eq_false hp];rw[hany.2 λk x hx hpk=>hp ⟨k,by rw[← hl];exact (List.getElem?_eq_some_iff.1 hx).1,by rw[Adz] at hpk;exact hpk⟩];rfl
end Go.Proofs.YtodhafdaelcnlaaGreat
