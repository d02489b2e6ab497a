/- What those partial functions come to: plain lemmas on data; each bears its conditions in its statement. -/
import Derived.Test.YtodhafdaelcnlaaGreatMath1
set_option linter.unusedVariables false
set_option linter.unusedSimpArgs false
set_option linter.ambiguousOpen false
set_option linter.unusedSectionVars false
set_option linter.unnecessarySimpa false
open List renaming getElem?_eq_getElem->Cmz,mem_of_getElem?->Bvz,getElem?_eq_none->Avz,take_add_one->Dvz,mem_append->Ciz,mem_singleton->Bpz,length_append->Axz,length_nil->Dyz,mem_cons->Dsz,not_mem_nil->Daz,getD_eq_getElem?_getD->Cwz,getElem?_map->Czz,ext_getElem?->Dzz,getElem?_append_right->Auz,length_take->Brz,getElem?_drop->Baz
open Bool renaming not_eq_true'->Bdz,false_eq_true->Eaz
open Nat renaming le_refl->Acz,zero_le->Aez,le_trans->Bgz,pow_le_pow_right->Ebz,zero_add->Adz
open Int renaming natCast_nonneg->Doz
namespace Go.Proofs.YtodhafdaelcnlaaGreat
open Go Go.E
theorem A8 {x m:Int}(h0:0<=m)(U:m<9223372036854775808):0<=jo x m/\jo x m<=m:=by
 unfold jo;have K:(BitVec.ofInt 64 m).toNat=m.toNat:=by
  rw[BitVec.toNat_ofInt];have:m % ((2 ^ 64:Nat):Int)=m:=Int.emod_eq_of_lt h0 (by omega);rw[this]
 have h3:(BitVec.ofInt 64 x &&& BitVec.ofInt 64 m).toNat<=m.toNat:=by
  rw[BitVec.toNat_and,K];exact Nat.and_le_right
 rw[IntWalk.i64_in _ (by omega)];omega
def nk (o:aK):Prop:=0<=o.i/\o.b.length<=1048576
theorem Vp {a:List UInt8}(h:a.length<=1048576):∃ o,qW a=some o/\nk o/\o.b=a:=by
 have key:∀ (m j:Nat) (s:Int),j+m=a.length->∃ q,bA (rh a) (s,(j:Int))=some q:=by
  intro m
  induction m with
  | zero=>
   intro j s hj;exact⟨s,cF (by unfold rh;dsimp only;rw[an (by omega)])⟩
  | succ m ih=>
   intro j s hj;by_cases hlt:(j:Int)<4000;obtain⟨x,hx⟩:∃ x,a[j]?=some x:=⟨_,Cmz (by omega)⟩
   obtain⟨q,hq⟩:=ih (j+1) (jo (IntKind.i64.wrap ((IntKind.i64.wrap ((IntKind.i64.wrap (s*131))+(x.toNat:Int)))+7)) 1073741823) (by omega);refine⟨q,(eh ?_).trans hq⟩;have hw:IntKind.i64.wrap ((j:Int)+1)=((j+1:Nat):Int):=by rw[IntWalk.i64_in _ (by omega)];rfl
   unfold rh;dsimp only;rw[ao (by omega),ao hlt,aE (by omega),cd,hx,aj,hw];exact⟨s,cF (by unfold rh;dsimp only;rw[ao (by omega),an hlt])⟩
 obtain⟨q,hq⟩:=key a.length 0 (IntKind.i64.wrap (26583+(a.length:Int))) (by omega);have hq' : bA (rh a) ((IntKind.i64.wrap (26583+(a.length:Int))),0)=some q:=hq;refine⟨⟨a,0,q⟩,?_,⟨Int.le_refl _,h⟩,rfl⟩;unfold qW;rw[hq',aj]
theorem tB {o:aK}(h:nk o):∃ y z,mH o=some (y,z)/\0<=y/\y<=255/\nk z/\z.b=o.b:=by
 obtain⟨h0,U⟩:=h;unfold mH;by_cases hi:o.i<(o.b.length:Int);obtain⟨x,hx⟩:∃ x,o.b[o.i.toNat]?=some x:=⟨_,Cmz (by omega)⟩
 rw[ao hi,aE h0,hx,aj];refine⟨_,_,rfl,(A8 (by omega) (by omega)).1,(A8 (by omega) (by omega)).2,⟨?_,U⟩,rfl⟩;show 0<=IntKind.i64.wrap (o.i+1);rw[IntWalk.i64_in _ (by omega)];omega;rw[an hi];exact⟨_,_,rfl,(A8 (by omega) (by omega)).1,(A8 (by omega) (by omega)).2,⟨h0,U⟩,rfl⟩
theorem JB {y n:Int}(hy:0<=y)(hn:0<n):0<=y.tmod n/\y.tmod n<n:=by
 rw[Int.tmod_eq_emod_of_nonneg hy];exact⟨Int.emod_nonneg _ (by omega),Int.emod_lt_of_pos _ hn⟩
theorem MR {o:aK}(h:nk o)(n:Int):∃ y z,cu n o=some (y,z)/\0<=y/\(0<n->y<n)/\(n<=0->y=0)/\nk z/\z.b=o.b:=by
 unfold cu;by_cases hn:n<=0;rw[ao hn];exact⟨0,o,rfl,Int.le_refl _,λh=>absurd h (by omega),λ_=>rfl,h,rfl⟩;rw[an hn];by_cases K:n<=256;obtain⟨y,z,h3,h4,h5,h6,h7⟩:=tB h;rw[ao K,h3,aj];dsimp only;rw[aE (by omega)];have:=JB h4 (show 0<n by omega);exact⟨_,_,rfl,this.1,λ_=>this.2,λh=>absurd h hn,⟨h6.1,h.2⟩,rfl⟩;obtain⟨y1,z1,W,a2,a3,a4,a5⟩:=tB h;obtain⟨y2,z2,b1,b2,b3,b4,b5⟩:=tB (o:=⟨o.b,z1.i,z1.h⟩) ⟨a4.1,h.2⟩;obtain⟨y3,z3,c1,c2,c3,c4,c5⟩:=tB (o:=⟨o.b,z2.i,z2.h⟩) ⟨b4.1,h.2⟩;obtain⟨y4,z4,d1,d2,d3,d4,d5⟩:=tB (o:=⟨o.b,z3.i,z3.h⟩) ⟨c4.1,h.2⟩;rw[an K,W,aj];dsimp only;rw[b1,aj];dsimp only;rw[c1,aj];dsimp only;rw[d1,aj];dsimp only;rw[aE (by constructor<;>omega),aE (by constructor<;>omega),aE (by constructor<;>omega),aE (by constructor<;>omega),aE (by constructor<;>omega),aE (by constructor<;>omega),aE (by omega)];have:=JB (y:=y1*16777216+y2*65536+y3*256+y4) (by omega) (show 0<n by omega);exact⟨_,_,rfl,this.1,λ_=>this.2,λh=>absurd h hn,⟨d4.1,h.2⟩,rfl⟩
theorem YL {o:aK}(h:nk o){l:List Int}(hl:l≠[]):∃ y z,iC l o=some (y,z)/\y∈l/\nk z/\z.b=o.b:=by
 have hpos:=List.length_pos_iff.2 hl;obtain⟨y,z,U,K,h3,_,h5,h6⟩:=MR h (l.length:Int);have:=h3 (by omega);obtain⟨x,hx⟩:∃ x,l[y.toNat]?=some x:=⟨_,Cmz (by omega)⟩
 unfold iC;rw[U,aj];dsimp only;rw[aE K,hx,aj];exact⟨_,_,rfl,Bvz hx,⟨h5.1,h.2⟩,rfl⟩
theorem JA {ρ:Type}{g:Nat->Option ρ}(hm:∀ n r,g n=some r->g (n+1)=some r){n:Nat}{r:ρ}(h:g n=some r):cg g=some r:=by
 have up:∀ (k n:Nat) (r:ρ),g n=some r->g (n+k)=some r:=by
  intro k
  induction k with
  | zero=>intro n r h;exact h
  | succ k ih=>intro n r h;exact hm _ _ (ih n r h)
 refine gY n λm hm=>?_;have U:=up (m-n) n r h;rwa[show n+(m-n)=m by omega] at U
theorem FQ {α σ:Type}{f g:Nat->α->σ->Option σ}(h:∀ k x s q,f k x s=some q->g k x s=some q):∀ (xs:List α) (i:Nat) (s q:σ),eachL f i xs s=some q->eachL g i xs s=some q
 | [],i,s,q,hq=>hq
 | x::xs,i,s,q,hq=>by
  simp only[eachL] at hq ⊢;obtain⟨t,U,K⟩:=bd hq;rw[h _ _ _ _ U];exact FQ h xs _ _ _ K
theorem Ll (a b:Oc):uv a b=some (fG a b):=by
 unfold uv fG;by_cases U:a.Pos<b.Pos;simp[U];by_cases K:a.Pos=b.Pos;simp[K];simp[U,K]
abbrev nE (l:List Oc):Prop:=l.Pairwise λa b=>fG a b=true
theorem Vo {l:List Oc}{o:Oc}(hl:l.length<=4398046511104):∀ (m j:Nat),j+m=l.length->(∀ a∈l.take j,fG a o=true) ->
  ∃ k:Nat,bA (ps l o) (j:Int)=some ((k:Nat):Int)/\k<=l.length/\(∀ a∈l.take k,fG a o=true)/\∀ y,l[k]?=some y->fG y o=false:=by
 intro m
 induction m with
 | zero=>
  intro j hj ha;refine⟨j,cF ?_,by omega,ha,λy hy=>?_⟩;unfold ps;rw[an (by omega)];rw[Avz (by omega)] at hy;cases hy
 | succ m ih=>
  intro j hj ha;obtain⟨x,hx⟩:∃ x,l[j]?=some x:=⟨_,Cmz (by omega)⟩
  cases Y:fG x o with
  | false=>
   refine⟨j,cF ?_,by omega,ha,λy hy=>?_⟩;unfold ps;rw[ao (by omega),aE (by omega)];simp only[cd];rw[hx,aj,Ll,aj,an (by rw[Y];simp)];rw[hx] at hy;cases hy;exact Y
  | true=>
   have e:ps l o (j:Int)=some (.inl ((j+1:Nat):Int)):=by
    unfold ps;rw[ao (by omega),aE (by omega)];simp only[cd];rw[hx,aj,Ll,aj,ao Y,aE (by constructor<;>omega)];rfl
   rw[eh e];refine ih (j+1) (by omega) λa h=>?_;rw[Dvz,hx] at h;rcases List.mem_append.1 h with h|h;exact ha a h;simp at h;rw[h];exact Y
theorem V8 {l:List Oc}{o:Oc}(hl:l.length<4398046511104)(hs:nE l):∃ q,sY l o=some q/\nE q/\(∀ a,a∈q↔a=o∨a∈l)/\q.length<=l.length+1:=by
 obtain⟨k,U,K,h3,h4⟩:=Vo (l:=l) (o:=o) (by omega) l.length 0 (by omega) (by simp);have h1' : bA (ps l o) 0=some ((k:Nat):Int):=U;have hput:∀ (hne:∀ y,l[k]?=some y->y≠o),nE (l.take k++[o]++l.drop k)/\(∀ a,a∈l.take k++[o]++l.drop k↔a=o∨a∈l)/\(l.take k++[o]++l.drop k).length<=l.length+1:=λhne=>by
  refine⟨?_,λa=>?_,by simp;omega⟩;have:=XF (lt:=fG) bV.trans BG (k:=k) hs h3 λy hy=>⟨h4 y hy,hne y hy⟩
  simpa using this;have:a∈l↔a∈l.take k∨a∈l.drop k:=by rw[← Ciz,List.take_append_drop]
  rw[this];simp only[Ciz,Bpz];constructor;rintro ((h|h)|h)<;>simp[h];rintro (h|h|h)<;>simp[h]
 unfold sY;rw[h1',aj];by_cases hk:k<l.length;obtain⟨x,hx⟩:∃ x,l[k]?=some x:=⟨_,Cmz hk⟩
 rw[ao (by omega),aE (by omega)];simp only[cd];rw[hx,aj];by_cases hxo:x=o;rw[ao hxo];refine⟨l,rfl,hs,λa=>?_,by omega⟩;have:=Bvz hx;constructor;exact .inr;rintro (h|h);rw[h,← hxo];exact this;exact h;rw[an hxo,aE (by omega),aE (by omega),aE (by simp;omega),aE (by simp;omega),aE (by omega),aE (by omega),aE (by simp;omega)];exact⟨_,rfl,hput λy hy=>by rw[hx] at hy;cases hy;exact hxo⟩;rw[an (by omega)];simp only[cd];rw[aE (by omega),aE (by omega),aE (by simp;omega),aE (by simp;omega),aE (by omega),aE (by omega),aE (by simp;omega)];exact⟨_,rfl,hput λy hy=>by rw[Avz (by omega)] at hy;cases hy⟩
theorem Te:∀ (n:Nat) (e:Expr) (l q:List Oc),ju n e l=some q->ju (n+1) e l=some q:=by
 intro n
 induction n with
 | zero=>intro e l q h;cases h
 | succ n ih=>
  intro e l q h;have h' : nN (ju n) e l=some q:=h;show nN (ju (n+1)) e l=some q;have m1:∀ (xs:List Expr) (i:Nat) (s q:List Oc),eachL (rn (ju n)) i xs s=some q->eachL (rn (ju (n+1))) i xs s=some q:=FQ λk x s q hq=>by
   unfold rn at hq ⊢;obtain⟨y,h3,h4⟩:=bd hq;rw[ih _ _ _ h3];exact h4
  unfold nN at h' ⊢;by_cases hk:e.Kind=3;rw[ao hk] at h' ⊢;obtain⟨y,U,K⟩:=bd h';obtain⟨s,h3,h4⟩:=bd K;rw[U,aj,m1 _ _ _ _ h3];exact h4;rw[an hk] at h' ⊢;obtain⟨s,h3,h4⟩:=bd h';have m2:eachL (FW (ju (n+1))) 0 e.Args l=some s:=m1 _ _ _ _ h3;rw[m2];exact h4
theorem XA:∀ (m:Nat) (e:Expr) (l:List Oc),dD e<=m->nE l->l.length+(fS e).length<=1099511627776 ->
  ∃ q,ju m e l=some q/\nE q/\(∀ a,a∈q↔a∈l∨a∈fS e)/\q.length<=l.length+(fS e).length:=by
 intro m
 induction m with
 | zero=>intro e l h;rw[oP] at h;omega
 | succ m ih=>
  intro e l h hs Y;rw[oP] at h;rw[pc,Axz] at Y;have hl:∀ (xs:List Expr) (i:Nat) (s:List Oc),gO xs<=m->nE s->s.length+(gD xs).length<=1099511627776 ->
    ∃ q,eachL (rn (ju m)) i xs s=some q/\nE q/\(∀ a,a∈q↔a∈s∨a∈gD xs)/\q.length<=s.length+(gD xs).length:=by
   intro xs
   induction xs with
   | nil=>intro i s _ hs _;exact⟨s,rfl,hs,by simp[gD],by omega⟩
   | cons x xs ihl=>
    intro i s hf hs Y;simp only[gO] at hf;simp only[gD,Axz] at Y;obtain⟨q,U,K,h3,h4⟩:=ih x s (by omega) hs (by omega);obtain⟨q2,k1,k2,k3,k4⟩:=ihl (i+1) q (by omega) K (by omega);refine⟨q2,?_,k2,λa=>?_,by simp only[gD,Axz];omega⟩;simp only[eachL,rn,U,aj];exact k1;rw[k3,h3,gD,Ciz,or_assoc]
  show ∃ q,nN (ju m) e l=some q/\_;unfold nN;by_cases hk:e.Kind=3;rw[ao hk] at Y ⊢;simp only[bC,Dyz] at Y;obtain⟨y,U,K,h3,h4⟩:=V8 (l:=l) (o:=⟨e.Pos,e.Name⟩) (by omega) hs;obtain⟨q,k1,k2,k3,k4⟩:=hl e.Args 0 y (by omega) K (by omega);refine⟨q,?_,k2,λa=>?_,?_⟩;rw[U,aj,k1];rfl;rw[k3,h3,pc,ao hk,Ciz,Bpz];constructor;rintro ((h|h)|h)<;>simp[h];rintro (h|h|h)<;>simp[h];rw[pc,ao hk];simp;omega;rw[an hk] at Y ⊢;simp only[Dyz] at Y;obtain⟨q,k1,k2,k3,k4⟩:=hl e.Args 0 l (by omega) hs (by omega);have k1' : eachL (FW (ju m)) 0 e.Args l=some q:=k1;refine⟨q,?_,k2,λa=>?_,?_⟩;rw[k1'];rfl;rw[k3,pc,an hk];simp;rw[pc,an hk];simpa using k4
theorem YK (e:Expr):nE (attrs e):=by
 refine G7 bV.trans BG ?_;have h:=List.pairwise_mergeSort (le:=λx y=>!fG y x) (λa b c U K=>by
  simp only[Bdz] at U K ⊢;exact bV.ntrans _ _ _ K U) (λa b=>by
  cases h:fG a b with
  | false=>simp[h]
  | true=>
   cases K:fG b a with
   | false=>simp
   | true=>have:=bV.trans _ _ _ h K;rw[bV.irrefl] at this;cases this) (fS e)
 unfold nr;exact h.imp λ{a b} h=>by simpa using h
theorem EF {e:Expr}(h:Sz.szd e<=1048576):ot e=some (attrs e):=by
 have hl:=Ei h;obtain⟨q,U,K,h3,h4⟩:=XA _ e [] (Acz _) List.Pairwise.nil (by simp;omega);have hq:q=attrs e:=MW (lt:=fG) bV.irrefl bV.trans K (YK e) λa=>by rw[h3,We];simp
 subst hq;have Z:FL e []=some (attrs e):=JA (λn q=>Te n e [] q) U;unfold ot;rw[Z];rfl
def Ok {ρ:Type}(Q:ρ->Prop)(o:Option ρ):Prop:=∃ r,o=some r/\Q r
section
variable {ρ τ σ α:Type}{Q:ρ->Prop}{R:τ->Prop}
theorem Ok.ret {r:ρ}(h:Q r):Ok Q (some r):=⟨r,rfl,h⟩
theorem Ok.bind {o:Option ρ}{f:ρ->Option τ}(h:Ok Q o)(hf:∀ r,Q r->Ok R (f r)):Ok R (o.bind f):=by
 obtain⟨r,rfl,Z⟩:=h;exact hf r Z
theorem Ok.grd {c:Prop}[Decidable c]{k:Option τ}(hc:c)(h:Ok R k):Ok R (Go.E.grd c k):=by rw[aE hc];exact h
theorem Ok.ite {c:Prop}[Decidable c]{a b:Option τ}(U:c->Ok R a)(K:¬ c->Ok R b):Ok R (if c then a else b):=by
 by_cases hc:c;rw[ao hc];exact U hc;rw[an hc];exact K hc
theorem Ok.mono {Q' : ρ->Prop}{o:Option ρ}(h:Ok Q o)(hq:∀ r,Q r->Q' r):Ok Q' o:=by
 obtain⟨r,rfl,Z⟩:=h;exact⟨r,rfl,hq r Z⟩
theorem EE {P:Nat->σ->Prop}{f:Nat->σ->Option σ}:∀ {n i:Nat} {s:σ},P i s->(∀ k s,i<=k->k<i+n->P k s->Ok (P (k+1)) (f k s))->Ok (P (i+n)) (eachN f i n s)
 | 0,i,s,h,_=>⟨s,rfl,h⟩
 | n+1,i,s,h,hf=>by
  rw[eachN];refine (hf i s (Acz _) (by omega) h).bind λr Z=>?_;have:=EE (n:=n) Z λk s U K=>hf k s (by omega) (by omega);rwa[show i+1+n=i+(n+1) by omega] at this
theorem tw {P:Nat->σ->Prop}{f:Nat->α->σ->Option σ}:∀ {xs:List α} {i:Nat} {s:σ},P i s->(∀ k x s,x∈xs->i<=k->k<i+xs.length->P k s->Ok (P (k+1)) (f k x s))->Ok (P (i+xs.length)) (eachL f i xs s)
 | [],i,s,h,_=>⟨s,rfl,h⟩
 | x::xs,i,s,h,hf=>by
  rw[eachL];refine (hf i x s (by simp) (Acz _) (by simp) h).bind λr Z=>?_;have:=tw (xs:=xs) Z λk y s hy U K=>hf k y s (by simp[hy]) (by omega) (by simp;omega);rwa[show i+1+xs.length=i+(x::xs).length by simp;omega] at this
theorem JO {g:Nat->Option ρ}{N:Nat}(h:∀ n,N<=n->g (n+1)=g n)(K:Ok Q (g N)):Ok Q (cg g):=by
 obtain⟨r,h3,h4⟩:=K;have:∀ k,g (N+k)=some r:=by
  intro k
  induction k with
  | zero=>exact h3
  | succ k ih=>rw[← Nat.add_assoc,h _ (by omega),ih]
 exact⟨r,gY N λn hn=>by have:=this (n-N);rwa[show N+(n-N)=n by omega] at this,h4⟩
end
def CB (b:List UInt8)(z:aK):Prop:=0<=z.i/\z.b=b
theorem CB.mk' {b:List UInt8}{o z:aK}(h:CB b o)(hz:CB b z):CB b ⟨o.b,z.i,z.h⟩:=⟨hz.1,h.2⟩
def Dr {α:Type}(b:List UInt8)(P:α->Prop)(o:Option (α×aK)):Prop:=Ok (λr=>P r.1/\CB b r.2) o
theorem Dr.of {α:Type}{b:List UInt8}{P:α->Prop}{o:Option (α×aK)}(Y:b.length<=1048576)(h:∃ y z,o=some (y,z)/\P y/\nk z/\z.b=b):Dr b P o:=by
 obtain⟨y,z,e,U,K,h3⟩:=h;exact⟨(y,z),e,U,K.1,h3⟩
theorem CB.ok {b:List UInt8}{z:aK}(Y:b.length<=1048576)(h:CB b z):nk z:=⟨h.1,by rw[h.2];exact Y⟩
section
variable {b:List UInt8}{o:aK}(Y:b.length<=1048576)
include Y
theorem PC:Ok (λz=>CB b z) (qW b):=by
 obtain⟨o,U,K,h3⟩:=Vp Y;exact⟨o,U,K.1,h3⟩
theorem dC (n:Int)(h:CB b o):Dr b (λy=>0<=y/\(0<n->y<n)/\(n<=0->y=0)) (cu n o):=by
 obtain⟨y,z,U,K,h3,h4,h5,h6⟩:=MR (h.ok Y) n;exact⟨(y,z),U,⟨K,h3,h4⟩,h5.1,h6.trans h.2⟩
theorem iu (n:Int)(h:CB b o):Dr b (λ_=>True) (eW n o):=by
 unfold eW;refine (dC Y n h).bind ?_;rintro⟨y,z⟩ ⟨_,hz⟩;exact .ret ⟨trivial,h.mk' hz⟩
theorem kB {l:List ar}(hl:l≠[])(h:CB b o):Dr b (λy=>y∈l) (iT l o):=by
 have hpos:=List.length_pos_iff.2 hl;unfold iT;refine (dC Y _ h).bind ?_;rintro⟨y,z⟩ ⟨⟨U,K,_⟩,hz⟩;dsimp only at U K hz ⊢;have:=K (by omega);obtain⟨x,hx⟩:∃ x,l[y.toNat]?=some x:=⟨_,Cmz (by omega)⟩
 rw[hx];exact .grd U (.ret ⟨Bvz hx,h.mk' hz⟩)
theorem nO {l:List Int}(hl:l≠[])(h:CB b o):Dr b (λy=>y∈l) (iC l o):=by
 obtain⟨y,z,U,K,h3,h4⟩:=YL (h.ok Y) hl;exact⟨(y,z),U,K,h3.1,h4.trans h.2⟩
theorem Ef (h:CB b o):Dr b (λy=>y.size=1) (mG o):=by
 unfold mG;refine (kB Y (by simp) h).bind ?_;rintro⟨y,z⟩ ⟨U,hz⟩;refine .ret ⟨?_,h.mk' hz⟩;simp only[Dsz,Daz,or_false] at U;rcases U with U|U|U|U|U|U|U|U<;>rw[U]<;>rfl
theorem sH (k n p t:Int)(s m:ar):Sz.szd (⟨k,n,p,t,s,m,[]⟩:Expr)=s.size+m.size:=by rw[fB];rfl
theorem D3 (k n p t:Int)(s m:ar)(x y:Expr):Sz.szd (⟨k,n,p,t,s,m,[x,y]⟩:Expr)=s.size+m.size+(1+Sz.szd x+(1+Sz.szd y+0)):=by rw[fB];rfl
theorem IS (k n p t:Int)(s m:ar)(x:Expr):Sz.szd (⟨k,n,p,t,s,m,[x]⟩:Expr)=s.size+m.size+(1+Sz.szd x+0):=by rw[fB];rfl
theorem Ki (k n p t:Int)(s m:ar)(x y z:Expr):Sz.szd (⟨k,n,p,t,s,m,[x,y,z]⟩:Expr)=s.size+m.size+(1+Sz.szd x+(1+Sz.szd y+(1+Sz.szd z+0))):=by rw[fB];rfl
theorem mB:(⟨#[]⟩:ar).size=0:=rfl
theorem sJ (k:Int){l:List Oc}(hl:∀ q∈l,q.Name.size<=8)(h:CB b o):Dr b (λe=>Sz.szd e<=8) (jv k l o):=by
 have bare:∀ {o:aK},CB b o->∀ {R:Option (Expr×aK)},R=(if k=4 then
   (eW 3 o).bind λ(y10,z7)=>if y10=true then some ((⟨7,0,0,0,(⟨#[]⟩:ar),(⟨#[]⟩:ar),[]⟩:Expr),(⟨o.b,z7.i,z7.h⟩:aK)) else some ((⟨6,0,0,0,(⟨#[]⟩:ar),(⟨#[]⟩:ar),[]⟩:Expr),(⟨o.b,z7.i,z7.h⟩:aK))
  else if k=3 then (cu 2 o).bind λ(y11,z8)=>(kd y11 k).bind λy12=>some (y12,(⟨o.b,z8.i,z8.h⟩:aK))
  else if k=2 then (cu 12 o).bind λ(y13,z9)=>grd (0<=y13) <| grd (0<=y13/\y13<63) <| (kd ((2 ^ y13.toNat:Nat):Int) k).bind λy14=>some (y14,(⟨o.b,z9.i,z9.h⟩:aK))
  else (cu 9 o).bind λ(y15,z10)=>(kd y15 1).bind λy16=>some (y16,(⟨o.b,z10.i,z10.h⟩:aK)))->Dr b (λe=>Sz.szd e<=8) R:=by
  rintro o h R rfl;refine .ite (λ_=>?_) λ_=>.ite (λ_=>?_) λ_=>.ite (λ_=>?_) λ_=>?_;refine (iu Y 3 h).bind ?_;rintro⟨y,z⟩ ⟨_,hz⟩;refine .ite (λ_=>.ret ⟨?_,h.mk' hz⟩) λ_=>.ret ⟨?_,h.mk' hz⟩;exact Aez _;exact Aez _;refine (dC Y 2 h).bind ?_;rintro⟨y,z⟩ ⟨_,hz⟩;refine .ret ⟨?_,h.mk' hz⟩;exact Aez _;refine (dC Y 12 h).bind ?_;rintro⟨y,z⟩ ⟨⟨U,K,_⟩,hz⟩;have:=K (by omega);dsimp only at U this;refine .grd U (.grd (by omega) (.ret ⟨?_,h.mk' hz⟩));exact Aez _;refine (dC Y 9 h).bind ?_;rintro⟨y,z⟩ ⟨_,hz⟩;refine .ret ⟨?_,h.mk' hz⟩;exact Aez _
 unfold jv;refine .ite (λhl0=>?_) λ_=>bare h rfl;refine (iu Y 4 h).bind ?_;rintro⟨y,z⟩ ⟨_,hz⟩;have h':=h.mk' hz;refine .ite (λ_=>?_) λ_=>?_;exact bare h' rfl;refine (dC Y _ h').bind ?_;rintro⟨y,z⟩ ⟨⟨U,K,_⟩,hz⟩;have:=K (by omega);dsimp only at U this;obtain⟨x,hx⟩:∃ x,l[y.toNat]?=some x:=⟨_,Cmz (by omega)⟩
 dsimp only;rw[hx];refine .grd U (.ret ⟨?_,h.mk' hz⟩);dsimp only;rw[sH Y,mB Y];have:=hl x (Bvz hx);omega
def fb (d:Nat):Nat:=20*4 ^ d
theorem sG (d:Nat):20<=fb d:=by
 have:1<=4 ^ d:=Nat.one_le_pow _ _ (by omega);unfold fb;omega
theorem JN (d:Nat):fb (d+1)=4*fb d:=by unfold fb;rw[Nat.pow_succ];omega
theorem BM (h:CB b o){R:Option (Expr×aK)}(hR:R=(
 (eW 5 o).bind λ(y1,z1)=>
 if y1=true then (
 some ((⟨2,0,0,0,(⟨#[]⟩:ar),(⟨#[]⟩:ar),[]⟩:Expr),(⟨o.b,z1.i,z1.h⟩:aK))
 ) else (
 (eW 6 (⟨o.b,z1.i,z1.h⟩:aK)).bind λ(y2,z2)=>
 if y2=true then (
 (cu 4 (⟨o.b,z2.i,z2.h⟩:aK)).bind λ(y3,z3)=>
 some ((⟨6,0,y3,0,(⟨#[]⟩:ar),(⟨#[]⟩:ar),[]⟩:Expr),(⟨o.b,z3.i,z3.h⟩:aK))
 ) else (
 (cu 4 (⟨o.b,z2.i,z2.h⟩:aK)).bind λ(y4,z4)=>
 grd (aW (1+y4)) <|
 (cu 4 (⟨o.b,z4.i,z4.h⟩:aK)).bind λ(y5,z5)=>
 (mG (⟨o.b,z5.i,z5.h⟩:aK)).bind λ(y6,z6)=>
 (jv (1+y4) [(⟨y5,y6⟩:Oc)] (⟨o.b,z6.i,z6.h⟩:aK)).bind λ(y7,z7)=>
 some (y7,(⟨o.b,z7.i,z7.h⟩:aK))
 )
 ))):Dr b (λe=>Sz.szd e<=20) R:=by
 subst hR;refine (iu Y 5 h).bind ?_;rintro⟨y1,z1⟩ ⟨_,U⟩;refine .ite (λ_=>.ret ⟨?_,h.mk' U⟩) λ_=>?_;exact Aez _;refine (iu Y 6 (h.mk' U)).bind ?_;rintro⟨y2,z2⟩ ⟨_,K⟩;refine .ite (λ_=>?_) λ_=>?_;refine (dC Y 4 (h.mk' K)).bind ?_;rintro⟨y3,z3⟩ ⟨_,h3⟩;refine .ret ⟨?_,h.mk' h3⟩;exact Aez _;refine (dC Y 4 (h.mk' K)).bind ?_;rintro⟨y4,z4⟩ ⟨⟨W,a2,_⟩,h4⟩;have:=a2 (by omega);dsimp only at W this;refine .grd (by constructor<;>omega) ?_;refine (dC Y 4 (h.mk' h4)).bind ?_;rintro⟨y5,z5⟩ ⟨_,h5⟩;refine (Ef Y (h.mk' h5)).bind ?_;rintro⟨y6,z6⟩ ⟨hn,h6⟩;refine (sJ Y _ (by simpa using (show y6.size<=8 by dsimp only at hn;omega)) (h.mk' h6)).bind ?_;rintro⟨y7,z7⟩ ⟨hs,h7⟩;exact .ret ⟨by have hs' : Sz.szd y7<=8:=hs;show Sz.szd y7<=20;omega,h.mk' h7⟩
theorem Td:∀ (d:Nat) (m:Nat),d<m->∀ (a:Int) (o:aK),a<=d+1->iz (m+1) a o=iz m a o:=by
 intro d
 induction d with
 | zero=>
  intro m hm a o ha;obtain⟨m,rfl⟩:∃ q,m=q+1:=⟨m-1,by omega⟩
  show jI (iz (m+1)) a o=jI (iz m) a o;unfold jI;rw[ao (by omega),ao (by omega)]
 | succ d ih=>
  intro m hm a o ha;obtain⟨m,rfl⟩:∃ q,m=q+1:=⟨m-1,by omega⟩
  have e:iz (m+1) (a-1)=iz m (a-1):=funext λo=>ih m (by omega) (a-1) o (by omega);show jI (iz (m+1)) a o=jI (iz m) a o;unfold jI;rw[e]
theorem Vn:∀ (d:Nat) (m:Nat),d<m->∀ (a:Int) (o:aK),a<=d+1->-1000000<=a->d<=100000->CB b o->Dr b (λe=>Sz.szd e<=fb d) (iz m a o):=by
 intro d
 induction d with
 | zero=>
  intro m hm a o ha _ _ h;obtain⟨m,rfl⟩:∃ q,m=q+1:=⟨m-1,by omega⟩
  show Dr b _ (jI (iz m) a o);unfold jI;rw[ao (by omega)];exact (BM Y h rfl).mono λr Z=>⟨Bgz Z.1 (sG Y 0),Z.2⟩
 | succ d ih=>
  intro m hm a o ha h0 hd h;obtain⟨m,rfl⟩:∃ q,m=q+1:=⟨m-1,by omega⟩
  have hf:=sG Y d;have hs:=JN Y d;show Dr b _ (jI (iz m) a o);unfold jI;by_cases ha2:a<2;rw[ao ha2];exact (BM Y h rfl).mono λr Z=>⟨Bgz Z.1 (sG Y _),Z.2⟩
  rw[an ha2];have ih' : ∀ {o:aK},CB b o->Dr b (λe=>Sz.szd e<=fb d) (iz m (a-1) o):=λh=>ih m (by omega) (a-1) _ (by omega) (by omega) (by omega) h;have hg:aW (a-1):=by constructor<;>omega
  refine (iu Y 4 h).bind ?_;rintro⟨y8,z8⟩ ⟨_,h8⟩;refine .ite (λ_=>(BM Y (h.mk' h8) rfl).mono λr Z=>⟨Bgz Z.1 (sG Y _),Z.2⟩) λ_=>?_;refine (dC Y 5 (h.mk' h8)).bind ?_;rintro⟨y16,z16⟩ ⟨_,h16⟩;refine .ite (λ_=>?_) λ_=>.ite (λ_=>?_) λ_=>?_;refine .grd hg ((ih' (h.mk' h16)).bind ?_);rintro⟨e1,z1⟩ ⟨s1,U⟩;refine .grd hg ((ih' (h.mk' U)).bind ?_);rintro⟨e2,z2⟩ ⟨s2,K⟩;refine .grd hg ((ih' (h.mk' K)).bind ?_);rintro⟨e3,z3⟩ ⟨s3,h3⟩;refine .ret ⟨?_,h.mk' h3⟩;dsimp only at s1 s2 s3 ⊢;rw[Ki Y,mB Y];omega;refine (kB Y (by simp) (h.mk' h16)).bind ?_;rintro⟨y20,z20⟩ ⟨h20,c20⟩;refine (Ef Y (h.mk' c20)).bind ?_;rintro⟨y21,z21⟩ ⟨h21,c21⟩;refine .grd hg ((ih' (h.mk' c21)).bind ?_);rintro⟨e1,z1⟩ ⟨s1,U⟩;refine .ret ⟨?_,h.mk' U⟩;have:y20.size=1:=by
   simp only[Dsz,Daz,or_false] at h20;rcases h20 with h20|h20<;>rw[h20]<;>rfl
  dsimp only at s1 h21 ⊢;rw[IS Y];omega;refine (dC Y 12 (h.mk' h16)).bind ?_;rintro⟨y23,z23⟩ ⟨⟨W,a2,_⟩,h23⟩;have:=a2 (by omega);dsimp only at W this;refine .grd (by constructor<;>omega) (.grd hg ((ih' (h.mk' h23)).bind ?_));rintro⟨e1,z1⟩ ⟨s1,U⟩;refine .grd hg ((ih' (h.mk' U)).bind ?_);rintro⟨e2,z2⟩ ⟨s2,K⟩;refine .ret ⟨?_,h.mk' K⟩;dsimp only at s1 s2 ⊢;rw[D3 Y,mB Y];omega
theorem JM (d:Nat){a:Int}(ha:a<=d+1)(h0:-1000000<=a)(hd:d<=100000)(h:CB b o):Dr b (λe=>Sz.szd e<=fb d) (xc a o):=
 JO (g:=λn=>iz n a o) (N:=d+1) (λn hn=>Td Y d n (by omega) a o ha) (Vn Y d (d+1) (by omega) a o ha h0 hd h)
theorem D2 {e:Expr}{n:Nat}(h:Sz.szd e<=n):bO e<=n+1:=by
 have U:=EH e;have K:kG e=Sz.szd e:=rfl;omega
theorem JL (h:CB b o):Dr b (λe=>Sz.szd e<=20480) (rb o):=by
 unfold rb;refine (dC Y 5 h).bind ?_;rintro⟨y1,z1⟩ ⟨⟨W,a2,_⟩,U⟩;have:=a2 (by omega);dsimp only at W this;refine .grd (by constructor<;>omega) ?_;refine (JM Y 5 (a:=1+y1) (by omega) (by omega) (by omega) (h.mk' U)).bind ?_;rintro⟨e,z2⟩ ⟨s2,K⟩;have s2' : Sz.szd e<=20480:=s2;dsimp only;rw[xj (by have:=D2 Y s2';omega)];refine Ok.bind (Q:=λ_=>True) (.ret trivial) λy3 _=>.ite (λ_=>.ret ⟨s2',h.mk' K⟩) λ_=>.ret ⟨?_,h.mk' K⟩;exact Aez _
theorem Tc (h:CB b o):Dr b (λe=>Sz.szd e<=30000) (tL o):=by
 unfold tL;refine (JL Y h).bind ?_;rintro⟨e,z1⟩ ⟨s1,U⟩;have s1' : Sz.szd e<=20480:=s1;have s2:=fB e;refine (dC Y 14 (h.mk' U)).bind ?_;rintro⟨y2,z2⟩ ⟨_,K⟩;dsimp only;refine .ite (λ_=>?_) λ_=>.ite (λ_=>?_) λ_=>.ite (λ_=>?_) λ_=>.ite (λ_=>?_) λ_=>.ite (λ_=>?_) λ_=>.ite (λ_=>?_) λ_=>?_;refine (dC Y 11 (h.mk' K)).bind ?_;rintro⟨y3,z3⟩ ⟨_,h3⟩;refine .ret ⟨?_,h.mk' h3⟩;dsimp only;rw[fB];dsimp only;omega;have hl:=iW e.Args;refine .grd (by constructor<;>omega) (.ret ⟨?_,h.mk' K⟩);dsimp only;rw[fB];dsimp only;rw[Bv];have:bQ [(⟨7,0,0,0,(⟨#[]⟩:ar),(⟨#[]⟩:ar),[]⟩:Expr)]=1:=rfl;omega;refine (nO Y (by simp) (h.mk' K)).bind ?_;rintro⟨y3,z3⟩ ⟨_,h3⟩;refine .ret ⟨?_,h.mk' h3⟩;dsimp only;rw[fB];dsimp only;omega;refine (nO Y (by simp) (h.mk' K)).bind ?_;rintro⟨y3,z3⟩ ⟨_,h3⟩;refine .ret ⟨?_,h.mk' h3⟩;dsimp only;rw[fB];dsimp only;omega;refine (kB Y (by simp) (h.mk' K)).bind ?_;rintro⟨y3,z3⟩ ⟨h30,h3⟩;have:y3.size<=2:=by
  simp only[Dsz,Daz,or_false] at h30;rcases h30 with h30|h30|h30<;>rw[h30]<;>decide
 refine .ret ⟨?_,h.mk' h3⟩;dsimp only;rw[fB];dsimp only;omega;have hL:Ok (λq=>Sz.szd (⟨q.2.1,q.2.2.1,q.2.2.2.1,q.2.2.2.2.1,q.2.2.2.2.2.1,q.2.2.2.2.2.2,q.1⟩:Expr)<=20480+5*2) (eachN FX 0 5 (e.Args,e.Kind,e.N,e.Pos,e.t__,e.ah,e.Name)):=by
  refine (EE (P:=λk q=>Sz.szd (⟨q.2.1,q.2.2.1,q.2.2.2.1,q.2.2.2.2.1,q.2.2.2.2.2.1,q.2.2.2.2.2.2,q.1⟩:Expr)<=20480+k*2) (by dsimp only;rw[fB];dsimp only;omega) λk q _ _ hq=>?_).mono λq hq=>by simpa using hq
  obtain⟨q1,q2,q3,q4,q5,q6,q7⟩:=q;dsimp only at hq;refine .ret ?_;dsimp only;rw[D3 Y,sH Y,mB Y];omega
 refine hL.bind ?_;rintro⟨q1,q2,q3,q4,q5,q6,q7⟩ hq;refine .ret ⟨?_,h.mk' K⟩;dsimp only at hq ⊢;omega;exact .ret ⟨by dsimp only;omega,h.mk' K⟩
end
def aL (r:au):Prop:=0<=r.N/\r.N<=16/\(r.Rows.length:Int)=r.N/\∀ x∈r.Rows,0<=x/\x<=((2 ^ r.N.toNat:Nat):Int)-1
instance (r:au):Decidable (aL r):=by unfold aL;infer_instance
def gW (r:au)(i:Int):Int:=r.Rows.getD i.toNat 0
def bit (x:Int)(k:Int):Prop:=x.toNat >>> k.toNat &&& 1=1
instance (x k:Int):Decidable (bit x k):=by unfold bit;infer_instance
def jz (r:au)(i:Int):Prop:=0<=i/\i<=r.N-1
instance (r:au) (i:Int):Decidable (jz r i):=by unfold jz;infer_instance
def bG (r:au)(i k:Int):Prop:=aL r/\jz r i/\jz r k/\bit (gW r i) k
instance (r:au) (i k:Int):Decidable (bG r i k):=by unfold bG;infer_instance
def wF (r:au)(i:Int)(x:Int):au:=⟨r.N,r.Rows.set i.toNat x⟩
def gS (x y:Int):Int:=((x.toNat ||| y.toNat:Nat):Int)
def cC (r:au)(i k:Int):au:=if aL r/\jz r i/\jz r k then wF r i (gS (gW r i) ((2 ^ k.toNat:Nat):Int)) else r
theorem aL.row {r:au}(h:aL r){i:Int}(hi:jz r i){x:Int}(hx:r.Rows[i.toNat]?=some x):gW r i=x/\0<=x/\x<=65535:=by
 have hm:=h.2.2.2 x (Bvz hx);have hp:2 ^ r.N.toNat<=2 ^ 16:=Ebz (by decide) (by have:=h.2.1;omega);refine⟨by unfold gW;simp[hx],hm.1,by omega⟩
theorem O4 {n:Int}(h:n<=16):2 ^ n.toNat<=65536:=by
 have:2 ^ n.toNat<=2 ^ 16:=Ebz (by decide) (by omega);simpa using this
theorem Kh (n:Int):1<=2 ^ n.toNat:=Nat.one_le_two_pow
theorem WE {r:au}(h0:0<=r.N)(U:r.N<=16)(K:(r.Rows.length:Int)=r.N):decide (aL r)=!(r.Rows.any λx=>!decide (0<=x/\x<=((2 ^ r.N.toNat:Nat):Int)-1)):=by
 by_cases hv:aL r;rw[decide_eq_true hv,eq_comm,Bdz,List.any_eq_false];intro x hx;simp only[Bdz,decide_eq_false_iff_not,Decidable.not_not];exact hv.2.2.2 x hx;rw[decide_eq_false hv,eq_comm,Bool.not_eq_false',List.any_eq_true];refine Classical.byContradiction λhn=>hv ⟨h0,U,K,λx hx=>Classical.byContradiction λY=>hn ⟨x,hx,?_⟩⟩;rw[decide_eq_false Y];rfl
theorem IR {x k:Int}(h:(((((x.toNat >>> k.toNat:Nat):Int)).toNat &&& (1:Int).toNat:Nat):Int)=1):x.toNat >>> k.toNat &&& 1=1:=by
 have:(1:Int).toNat=1:=rfl;rw[cd,this] at h
 exact_mod_cast h
theorem IQ {x k:Int}(h:x.toNat >>> k.toNat &&& 1=1):(((((x.toNat >>> k.toNat:Nat):Int)).toNat &&& (1:Int).toNat:Nat):Int)=1:=by
 have:(1:Int).toNat=1:=rfl;rw[cd,this]
 exact_mod_cast h
theorem jG (x lo hi:Int):cX x lo hi=some (decide (lo<=x/\x<=hi)):=by
 unfold cX;split<;>simp_all<;>omega
theorem ui (x lo hi:Int):dA x lo hi=some (decide (lo<=x/\x<=hi)):=by
 unfold dA;split<;>simp_all<;>omega
theorem nU (r:au):mZ r=some (decide (aL r)):=by
 unfold mZ;simp only[jG,aj,decide_eq_true_eq];by_cases U:0<=r.N/\r.N<=16;rw[ao U];by_cases K:(r.Rows.length:Int)=r.N;rw[ao K];have key:=Lr (c:=false) (n:=r.N.toNat) (i:=0) (p:=λk=>∃ x,r.Rows[k]?=some x/\¬ (0<=x/\x<=((2 ^ r.N.toNat:Nat):Int)-1)) (f:=CG r) λk hk=>by
  have hk' : k<r.Rows.length:=by omega
  obtain⟨x,hx⟩:∃ x,r.Rows[k]?=some x:=⟨_,Cmz hk'⟩
  simp only[Adz];unfold CG;rw[hx,aj,aE U.1,aE (by omega),jG,aj];simp only[decide_eq_true_eq];refine⟨λ⟨y,hy,hn⟩=>?_,λhn=>?_⟩;cases hy;rw[an hn];by_cases Y:0<=x/\x<=((2 ^ r.N.toNat:Nat):Int)-1;rw[ao Y];exact absurd ⟨x,rfl,Y⟩ hn
 simp only[Adz] at key;by_cases hv:aL r;rw[key.2 λk hk ⟨x,hx,hn⟩=>hn (hv.2.2.2 x (Bvz hx))];simp[hv];rw[key.1 (Classical.byContradiction λhn=>hv ⟨U.1,U.2,K,λx hx=>?_⟩)];simp[hv];obtain⟨k,hk⟩:=List.getElem?_of_mem hx;have hk':=Pf hk;exact Classical.byContradiction λY=>hn ⟨k,by omega,x,hk,Y⟩;rw[an K,decide_eq_false λhv=>K hv.2.2.1];rw[an U,decide_eq_false λhv=>U ⟨hv.1,hv.2.1⟩]
theorem BL (r:au):p7 r=some (decide (aL r)):=by
 unfold p7;simp only[ui,aj,decide_eq_true_eq];by_cases U:0<=r.N/\r.N<=16;rw[ao U];simp only[aj,Eaz,if_true,if_false,decide_eq_true_eq];by_cases K:(r.Rows.length:Int)=r.N;rw[ao K];have h3:∀ x,vF x r=some (!decide (0<=x/\x<=((2 ^ r.N.toNat:Nat):Int)-1)):=λx=>by
  unfold vF;rw[aE U.1,aE (by omega),ui];rfl
 have h4:∀ (xs:List Int) (i:Nat),∃ z,findL (C0 r) i xs ()=some z/\((xs.any λx=>!decide (0<=x/\x<=((2 ^ r.N.toNat:Nat):Int)-1))=true->∃ k:Nat,z=.inr (k:Int))/\((xs.any λx=>!decide (0<=x/\x<=((2 ^ r.N.toNat:Nat):Int)-1))=false->z=.inl ()):=by
  intro xs
  induction xs with
  | nil=>intro i;exact⟨_,rfl,by simp,by simp⟩
  | cons x xs ih=>
   intro i;simp only[findL,C0,h3,aj,List.any_cons];by_cases Y:0<=x/\x<=((2 ^ r.N.toNat:Nat):Int)-1;simp only[Y,and_self,decide_true,Bool.not_true,Eaz,if_false,aj,Bool.false_or];exact ih (i+1);simp only[Y,decide_false,Bool.not_false,if_true,aj,Bool.true_or];exact⟨_,rfl,λ_=>⟨i,rfl⟩,by simp⟩
 unfold zP zI;obtain⟨z,hz,hz1,hz2⟩:=h4 r.Rows 0;rw[hz,WE U.1 U.2 K];cases ha:(r.Rows.any λx=>!decide (0<=x/\x<=((2 ^ r.N.toNat:Nat):Int)-1)) with
 | true=>obtain⟨k,rfl⟩:=hz1 ha;simp
 | false=>rw[hz2 ha];simp
 rw[an K,decide_eq_false λhv=>K hv.2.2.1];simp only[aj,Eaz,if_true,if_false,decide_eq_true_eq];rw[an U,decide_eq_false λhv=>U ⟨hv.1,hv.2.1⟩];simp only[aj,Eaz,if_true,if_false,decide_eq_true_eq]
theorem pH (r:au)(i k:Int):mR r i k=some (decide (bG r i k)):=by
 unfold mR;simp only[nU,jG,aj,decide_eq_true_eq];by_cases hv:aL r;have hv1:=hv.1;have hv2:=hv.2.1;have hv3:=hv.2.2.1;rw[ao hv,aE (by constructor<;>omega)];simp only[aj,Eaz,if_true,if_false,decide_eq_true_eq];by_cases hi:0<=i/\i<=r.N-1;rw[ao hi,aE (by constructor<;>omega)];simp only[aj,Eaz,if_true,if_false,decide_eq_true_eq];by_cases hk:0<=k/\k<=r.N-1;obtain⟨x,hx⟩:∃ x,r.Rows[i.toNat]?=some x:=⟨_,Cmz (by omega)⟩
 have hrow:=hv.row (i:=i) hi hx;rw[ao hk,aE hi.1,hx,aj,aE hk.1,aE ⟨hrow.2.1,hk.1,by omega⟩,aE ⟨Doz _,by decide⟩];simp only[aj,Eaz,if_true,if_false,decide_eq_true_eq];congr 1;refine decide_eq_decide.2 ⟨λY=>⟨hv,hi,hk,?_⟩,λY=>?_⟩;unfold bit;rw[hrow.1];exact IR Y;have:=Y.2.2.2;unfold bit at this;rw[hrow.1] at this;exact IQ this;rw[an hk];simp only[aj,Eaz,if_true,if_false,decide_eq_true_eq];rw[ decide_eq_false λh=>hk h.2.2.1];rw[an hi];simp only[aj,Eaz,if_true,if_false,decide_eq_true_eq];rw[ decide_eq_false λh=>hi h.2.1];rw[an hv];simp only[aj,Eaz,if_true,if_false,decide_eq_true_eq];rw[ decide_eq_false λh=>hv h.1]
theorem BK (r:au)(i k:Int):nP r i k=some (decide (bG r i k)):=by
 rw[← pH];unfold nP mR;simp only[nU,BL,jG,ui]
theorem Lk:rX=mS:=by
 funext r;unfold rX mS ov;by_cases h:((([]:List Int).length:Int)+(r.Rows.length:Int))*8<=140737488355328/\(([]:List Int).length:Int)+(r.Rows.length:Int)<=9223372036854775807;rw[aE h,aE h];rfl;unfold grd;rw[an h,an h];rfl
theorem Vm:nP=mR:=by
 funext r i k;rw[BK,pH]
theorem A7:pC=jJ:=by
 funext r i k;unfold pC jJ;simp only[Lk,nU,BL,jG,ui]
theorem FP:r7=kj:=by
 funext n;unfold r7 kj;simp only[jG,ui]
theorem xi {r:au}(h:r.Rows.length<=1048576):mS r=some r:=by
 unfold mS;rw[aE (by simp only[Dyz];constructor<;>omega)]
theorem Kg {r:au}(h:r.Rows.length<=1048576)(i k:Int):∃ x,jJ r i k=some x/\x.Rows.length=r.Rows.length:=by
 unfold jJ;simp only[xi h,nU,jG,aj,decide_eq_true_eq];by_cases hv:aL r;have hv1:=hv.1;have hv2:=hv.2.1;have hv3:=hv.2.2.1;rw[ao hv,aE (by constructor<;>omega)];simp only[aj,Eaz,if_true,if_false,decide_eq_true_eq];by_cases hi:0<=i/\i<=r.N-1;rw[ao hi,aE (by constructor<;>omega)];simp only[aj,Eaz,if_true,if_false,decide_eq_true_eq];by_cases hk:0<=k/\k<=r.N-1;obtain⟨x,hx⟩:∃ x,r.Rows[i.toNat]?=some x:=⟨_,Cmz (by omega)⟩
 have hrow:=hv.row (i:=i) hi hx;rw[ao hk,aE hi.1,hx,aj,aE hk.1,aE ⟨hk.1,by omega⟩,aE ⟨hrow.2.1,Doz _⟩];exact⟨_,rfl,by simp⟩;rw[an hk];exact⟨_,rfl,rfl⟩;rw[an hi];simp only[aj,Eaz,if_true,if_false,decide_eq_true_eq];exact⟨_,rfl,rfl⟩;rw[an hv];simp only[aj,Eaz,if_true,if_false,decide_eq_true_eq];exact⟨_,rfl,rfl⟩
theorem Xz (n:Nat):∃ x,kj (n:Int)=some x/\x.Rows.length<=16:=by
 unfold kj;simp only[jG,aj,decide_eq_true_eq];by_cases h:0<=(n:Int)/\(n:Int)<=16;rw[ao h,aE (by refine⟨by omega,by omega,by omega⟩)];exact⟨_,rfl,by simp;omega⟩;rw[an h];exact⟨_,rfl,by simp⟩
theorem wu {r:au}(h:r.Rows.length<=1048576)(i k:Int):jJ r i k=some (cC r i k):=by
 unfold jJ;simp only[xi h,nU,jG,aj,decide_eq_true_eq];by_cases hv:aL r;have hv1:=hv.1;have hv2:=hv.2.1;have hv3:=hv.2.2.1;rw[ao hv,aE (by constructor<;>omega)];simp only[aj,Eaz,if_true,if_false,decide_eq_true_eq];by_cases hi:0<=i/\i<=r.N-1;rw[ao hi,aE (by constructor<;>omega)];simp only[aj,Eaz,if_true,if_false,decide_eq_true_eq];by_cases hk:0<=k/\k<=r.N-1;obtain⟨x,hx⟩:∃ x,r.Rows[i.toNat]?=some x:=⟨_,Cmz (by omega)⟩
 have hrow:=hv.row (i:=i) hi hx;rw[ao hk,aE hi.1,hx,aj,aE hk.1,aE ⟨hk.1,by omega⟩,aE ⟨hrow.2.1,Doz _⟩];have e:cC r i k=wF r i (gS (gW r i) ((2 ^ k.toNat:Nat):Int)):=ao ⟨hv,hi,hk⟩;rw[e,hrow.1];rfl;rw[an hk];have e:cC r i k=r:=an λh=>hk h.2.2;rw[e];rw[an hi];simp only[aj,Eaz,if_true,if_false,decide_eq_true_eq];have e:cC r i k=r:=an λh=>hi h.2.1;rw[e];rw[an hv];simp only[aj,Eaz,if_true,if_false,decide_eq_true_eq];have e:cC r i k=r:=an λh=>hv h.1;rw[e]
theorem ED {n:Int}(h0:0<=n)(U:n<=16):kj n=some ⟨n,List.replicate n.toNat 0⟩:=by
 unfold kj;rw[jG,aj,ao (by simp;omega),aE (by omega)]
theorem qV (r:au)(i k:Int):(cC r i k).Rows.length=r.Rows.length/\(cC r i k).N=r.N:=by
 unfold cC;split;exact⟨by simp[wF],rfl⟩;exact⟨rfl,rfl⟩
theorem A6 (x k:Int):bit x k↔x.toNat.testBit k.toNat=true:=by
 unfold bit;rw[Nat.testBit_eq_decide_div_mod_eq,Nat.shiftRight_eq_div_pow];simp[Nat.and_one_is_mod]
def kt (k:Nat)(s:List Int):List Int:=s.map λx=>if x.toNat.testBit k=true then gS x (s.getD k 0) else x
def gu (s:List Int):Nat->List Int
 | 0=>s
 | m+1=>kt m (gu s m)
def jq (n:Nat)(s:List Int):Prop:=s.length=n/\∀ x∈s,0<=x/\x.toNat<2 ^ n
theorem MQ (x y:Int):0<=gS x y:=by unfold gS;omega
theorem xh (x y:Int):(gS x y).toNat=x.toNat ||| y.toNat:=by unfold gS;omega
theorem JK {n:Nat}{s:List Int}(h:jq n s)(k:Nat):0<=s.getD k 0/\(s.getD k 0).toNat<2 ^ n:=by
 rw[Cwz];cases hk:s[k]? with
 | none=>simp;exact Nat.two_pow_pos n
 | some x=>exact h.2 x (Bvz hk)
theorem Kf {n k:Nat}{s:List Int}(h:jq n s):jq n (kt k s):=by
 refine⟨by unfold kt;rw[bc];exact h.1,λx hx=>?_⟩;unfold kt at hx;obtain⟨y,hy,rfl⟩:=List.mem_map.1 hx;have U:=h.2 y hy;split;exact⟨MQ _ _,by rw[xh];exact Nat.or_lt_two_pow U.2 (JK h k).2⟩;exact U
theorem kb {n:Nat}{s:List Int}(h:jq n s):∀ m,jq n (gu s m)
 | 0=>h
 | m+1=>Kf (kb h m)
def Rl (s:List Int)(i j:Nat):Prop:=(s.getD i 0).toNat.testBit j=true
theorem AF {n k:Nat}{s:List Int}(h:jq n s){i:Nat}(hi:i<n)(j:Nat):Rl (kt k s) i j↔Rl s i j∨(Rl s i k/\Rl s k j):=by
 unfold Rl;have hs:∃ x,s[i]?=some x:=⟨_,Cmz (by rw[h.1];exact hi)⟩
 obtain⟨x,hx⟩:=hs;have e1:s.getD i 0=x:=by rw[Cwz,hx];rfl
 have e2:(kt k s).getD i 0=if x.toNat.testBit k=true then gS x (s.getD k 0) else x:=by
  unfold kt;rw[Cwz,Czz,hx];rfl
 rw[e1,e2];by_cases Y:x.toNat.testBit k=true;rw[ao Y,xh,Nat.testBit_or,Bool.or_eq_true];simp[Y];rw[an Y];simp[Y]
theorem HC {n:Nat}{s:List Int}(h:jq n s){i j:Nat}(hR:Rl s i j):j<n:=by
 unfold Rl at hR;have U:=(JK h i).2;apply Decidable.byContradiction;intro hj;have:(s.getD i 0).toNat.testBit j=false:=Nat.testBit_lt_two_pow (Nat.lt_of_lt_of_le U (Ebz (by omega) (by omega)));rw[this] at hR;cases hR
theorem wt {n:Nat}{s:List Int}(h:jq n s){i j:Nat}(hR:Rl s i j):i<n:=by
 unfold Rl at hR;apply Decidable.byContradiction;intro hi;have:s.getD i 0=0:=by rw[Cwz,Avz (by rw[h.1];omega)];rfl
 rw[this] at hR;simp at hR
theorem Vl {n:Nat}{s:List Int}(h:jq n s):∀ (m k i j:Nat),k<m->m<=n->Rl (gu s m) i k->Rl (gu s m) k j->Rl (gu s m) i j:=by
 intro m
 induction m with
 | zero=>intro k i j hk;omega
 | succ m ih=>
  intro k i j hk hm U K;have hok:=kb h m;have hik:=wt (kb h (m+1)) U;have hkj:=wt (kb h (m+1)) K;have s1:=(AF (k:=m) hok hik k).1 U;have s2:=(AF (k:=m) hok hkj j).1 K;refine (AF (k:=m) hok hik j).2 ?_;by_cases hkm:k=m;subst hkm;have t1:Rl (gu s k) i k:=by rcases s1 with h|h;exact h;exact h.1
  have t2:Rl (gu s k) k j:=by rcases s2 with h|h;exact h;exact h.2
  exact .inr ⟨t1,t2⟩;have hk' : k<m:=by omega
  rcases s1 with a|⟨W,a2⟩<;>rcases s2 with b|⟨b1,b2⟩
  exact .inl (ih k i j hk' (by omega) a b);exact .inr ⟨ih k i m hk' (by omega) a b1,b2⟩;exact .inr ⟨W,ih k m j hk' (by omega) a2 b⟩;exact .inr ⟨W,b2⟩
theorem Xy {n k:Nat}{s:List Int}(h:jq n s)(ht:∀ i j,Rl s i k->Rl s k j->Rl s i j):kt k s=s:=by
 apply Dzz;intro i;unfold kt;rw[Czz];cases hx:s[i]? with
 | none=>rfl
 | some x=>
  have e1:s.getD i 0=x:=by rw[Cwz,hx];rfl
  show some (if x.toNat.testBit k=true then gS x (s.getD k 0) else x)=some x;congr 1;by_cases Y:x.toNat.testBit k=true;rw[ao Y];have hx0:=(h.2 x (Bvz hx)).1;have:(gS x (s.getD k 0)).toNat=x.toNat:=by
   rw[xh];apply Nat.eq_of_testBit_eq;intro j;rw[Nat.testBit_or];cases hj:(s.getD k 0).toNat.testBit j with
   | false=>simp
   | true=>
    have:=ht i j (by unfold Rl;rw[e1];exact Y) hj;unfold Rl at this;rw[e1] at this;rw[this];rfl
  have:=MQ x (s.getD k 0);omega;rw[an Y]
theorem Nh {n:Nat}{s:List Int}(h:jq n s)(ht:∀ k i j,k<n->Rl s i k->Rl s k j->Rl s i j):∀ m,m<=n->gu s m=s
 | 0,_=>rfl
 | m+1,hm=>by
  show kt m (gu s m)=s;rw[Nh h ht m (by omega)];exact Xy h λi j=>ht m i j (by omega)
theorem Ke {n k:Nat}{s:List Int}(h:jq n s)(hk:k<n)(hn:n<=16):eachN (vz k) 0 n s=some (kt k s):=by
 have hkk:∃ y,s[k]?=some y:=⟨_,Cmz (by rw[h.1];exact hk)⟩
 obtain⟨y,hy⟩:=hkk;have ey:s.getD k 0=y:=by rw[Cwz,hy];rfl
 let f:Int->Int:=λx=>if x.toNat.testBit k=true then gS x y else x
 have hf:f y=y:=by
  show (if y.toNat.testBit k=true then gS y y else y)=y;have:=(h.2 y (Bvz hy)).1;split;unfold gS;rw[Nat.or_self];omega;rfl
 obtain⟨s',U,K⟩:=sU (P:=λm t=>t=(s.take m).map f++s.drop m) (f:=vz k) (n:=n) (i:=0) (s:=s) (by simp) (λm t _ hm ht=>by
  subst ht;have hms:m<s.length:=by rw[h.1];omega
  obtain⟨x,hx⟩:∃ x,s[m]?=some x:=⟨_,Cmz hms⟩
  have hx0:=h.2 x (Bvz hx);have hy0:=h.2 y (Bvz hy);have g1:((s.take m).map f++s.drop m)[m]?=some x:=by
   rw[Auz (by simp;omega)];simp only[bc,Brz];rw[show m-min m s.length=0 by omega,Baz,Nat.add_zero,hx]
  have g2:((s.take m).map f++s.drop m)[k]?=some y:=by
   by_cases hkm:k<m;rw[List.getElem?_append_left (by simp;omega),Czz,List.getElem?_take,ao hkm,hy];show some (f y)=_;rw[hf];rw[Auz (by simp;omega)];simp only[bc,Brz];rw[Baz,show m+(k-min m s.length)=k by omega,hy]
  have hset:(((s.take m).map f++s.drop m).set m (f x))=(s.take (m+1)).map f++s.drop (m+1):=by
   rw[List.set_append_right _ _ (by simp;omega)];simp only[bc,Brz];rw[show m-min m s.length=0 by omega,Dvz,hx,List.map_append,List.append_assoc];congr 1;rw[List.drop_eq_getElem_cons hms];rfl
  have hno:f x=x->((s.take m).map f++s.drop m)=(s.take (m+1)).map f++s.drop (m+1):=λe=>by
   rw[← hset,e];apply Dzz;intro q;rw[List.getElem?_set];by_cases hq:m=q;subst hq;rw[ao rfl,g1];split;rfl;rename_i hl;exact absurd (by simp;omega) hl;rw[an hq]
  refine⟨_,?_,rfl⟩;unfold vz;rw[g1,aj,aE (by refine⟨hx0.1,by omega,by omega⟩),aE ⟨Doz _,by decide⟩];by_cases Y:bit x (k:Int);have hb':=(A6 x k).1 Y;rw[cd] at hb';rw[ao (IQ Y),g2,aj,aE ⟨hx0.1,hy0.1⟩,aj,← hset];show some (List.set _ m (gS x y))=some (List.set _ m (f x));have:f x=gS x y:=ao hb';rw[this];have hb' : ¬ x.toNat.testBit k=true:=λh=>Y ((A6 x k).2 (by rw[cd];exact h));rw[an (λh=>Y (IR h)),aj,← hno (an hb')])
 rw[U];subst K;unfold kt;rw[Adz,List.take_of_length_le (by rw[h.1];exact Acz _),List.drop_eq_nil_of_le (by rw[h.1];exact Acz _),List.append_nil,ey]
theorem nI {r:au}(h:aL r):jq r.N.toNat r.Rows/\r.N.toNat<=16:=by
 obtain⟨h0,U,K,h3⟩:=h;have:=Kh r.N;exact⟨⟨by omega,λx hx=>⟨(h3 x hx).1,by have:=(h3 x hx).2;omega⟩⟩,by omega⟩
def dr (r:au):au:=if aL r then ⟨r.N,gu r.Rows r.N.toNat⟩ else r
theorem Tb:Hm=vz:=rfl
theorem Lj {r:au}(h:r.Rows.length<=1048576):r9 r=some (dr r):=by
 unfold r9 dr;rw[xi h,aj,nU,aj];by_cases hv:aL r;rw[ao (by simpa using hv),ao hv];obtain⟨hok,hn⟩:=nI hv;obtain⟨t,U,K⟩:=sU (P:=λm t=>t=gu r.Rows m) (f:=CC r) (n:=r.N.toNat) (i:=0) (s:=r.Rows) rfl (λk s _ hk hs=>by
  subst hs;refine⟨_,?_,rfl⟩;unfold CC;rw[Ke (kb hok k) (by omega) hn];rfl)
 rw[U,aj,K,Adz];rw[an (by simpa using hv),an hv]
theorem Li {r:au}(h:r.Rows.length<=1048576):r6 r=some (dr r):=by
 unfold r6 dr;rw[Lk,xi h,aj,BL,aj];by_cases hv:aL r;rw[ao (by simpa using hv),ao hv];obtain⟨hok,hn⟩:=nI hv;obtain⟨t,U,K⟩:=sU (P:=λm t=>t=gu r.Rows m) (f:=Cw) (n:=r.Rows.length) (i:=0) (s:=r.Rows) rfl (λk s _ hk hs=>by
  subst hs;refine⟨_,?_,rfl⟩;unfold Cw;have hl:=(kb hok k).1;rw[hl,Tb,Ke (kb hok k) (by rw[hok.1] at hk;omega) hn];rfl)
 rw[U,aj,K,Adz,hok.1];rw[an (by simpa using hv),an hv]
theorem MP (r:au):(dr r).Rows.length=r.Rows.length/\(dr r).N=r.N:=by
 unfold dr;by_cases hv:aL r;rw[ao hv];obtain⟨hok,_⟩:=nI hv;exact⟨by show (gu r.Rows r.N.toNat).length=_;rw[(kb hok _).1,hok.1],rfl⟩;rw[an hv];exact⟨rfl,rfl⟩
theorem NS {r:au}(h:aL r):aL (dr r):=by
 obtain⟨hok,hn⟩:=nI h;obtain⟨k1,k2⟩:=kb hok r.N.toNat
 obtain⟨h0,U,K,h3⟩:=h;unfold dr;rw[ao ⟨h0,U,K,h3⟩];refine⟨h0,U,by show ((gu r.Rows r.N.toNat).length:Int)=r.N;omega,λx hx=>?_⟩;have:=k2 x hx;have:=Kh r.N;exact⟨(k2 x hx).1,by show x<=((2 ^ r.N.toNat:Nat):Int)-1;omega⟩
theorem X3 (r:au):dr (dr r)=dr r:=by
 by_cases hv:aL r;have hv2:=NS hv;obtain⟨hok,hn⟩:=nI hv;have e:dr r=⟨r.N,gu r.Rows r.N.toNat⟩:=ao hv;rw[e] at hv2 ⊢;rw[show dr ⟨r.N,gu r.Rows r.N.toNat⟩=⟨r.N,gu (gu r.Rows r.N.toNat) r.N.toNat⟩ from ao hv2];rw[Nh (kb hok _) (λk i j hk U K=>Vl hok _ k i j hk (Acz _) U K) _ (Acz _)];have e:dr r=r:=an hv;rw[e,e]
theorem Ee {r:au}(h:aL r)(i j:Nat):bG r (i:Int) (j:Int)↔Rl r.Rows i j:=by
 obtain⟨hok,hn⟩:=nI h;unfold bG;have h0:=h.1;constructor;rintro⟨_,_,_,Y⟩;have:=(A6 _ _).1 Y;simpa[Rl,gW] using this;intro hR;have hi:=wt hok hR;have hj:=HC hok hR;refine⟨h,⟨by omega,by omega⟩,⟨by omega,by omega⟩,(A6 _ _).2 ?_⟩;simpa[Rl,gW] using hR
theorem X2 {r:au}(h:r.Rows.length<=1048576):rv r=some (decide (∃ k:Nat,k<r.Rows.length/\bG (dr r) (k:Int) (k:Int))):=by
 unfold rv;rw[Li h,aj];have hl:=(MP r).1;have hf:∀ (k:Nat) (x:Int),(bG (dr r) (k:Int) (k:Int)->uk (dr r) k x ()=some (.inr true))/\(¬ bG (dr r) (k:Int) (k:Int)->uk (dr r) k x ()=some (.inl ())):=λk x=>by
  unfold uk;rw[BK,aj];exact⟨λhp=>ao (by simpa using hp),λhp=>an (by simpa using hp)⟩
 have hany:=Fu (c:=true) (xs:=(dr r).Rows) (i:=0) (p:=λk _=>bG (dr r) (k:Int) (k:Int)) (f:=uk (dr r)) λk x _=>by
  rw[Adz];exact hf k x
 by_cases hp:∃ k:Nat,k<r.Rows.length/\bG (dr r) (k:Int) (k:Int);rw[decide_eq_true hp];obtain⟨k,hk,hpk⟩:=hp;rw[hany.1 ⟨k,_,Cmz (by omega),by rw[Adz];exact hpk⟩];rfl;rw[decide_eq_false hp];rw[hany.2 λk x hx hpk=>hp ⟨k,by rw[← hl];exact (List.getElem?_eq_some_iff.1 hx).1,by rw[Adz] at hpk;exact hpk⟩];rfl
end Go.Proofs.YtodhafdaelcnlaaGreat
