/- What those partial functions come to: plain lemmas on data; each bears its conditions in its statement. -/
import Derived.Test.YtodhafdaelcnlaaGreatMath1
set_option linter.unusedVariables false
set_option linter.unusedSimpArgs false
set_option linter.ambiguousOpen false
set_option linter.unusedSectionVars false
set_option linter.unnecessarySimpa false
open List renaming getElem?_eq_getElem->Cmz,mem_of_getElem?->Bvz,getElem?_eq_none->Avz,take_add_one->Dvz,mem_append->Ciz,mem_singleton->Bpz,length_append->Axz,length_nil->Dyz,mem_cons->Dsz,not_mem_nil->Daz,getD_eq_getElem?_getD->Cwz,getElem?_map->Czz,getElem?_append_right->Auz,length_take->Brz,getElem?_drop->Baz
open Bool renaming not_eq_true'->Bdz,false_eq_true->Dzz
open Nat renaming le_refl->Acz,zero_le->Aez,le_trans->Bgz,pow_le_pow_right->Eaz,zero_add->Adz
open Int renaming natCast_nonneg->Doz
namespace Go.Proofs.YtodhafdaelcnlaaGreat
open Go Go.E
theorem Bq {x m:Int}(h0:0<=m)(U:m<9223372036854775808):0<=jy x m/\jy x m<=m:=by
 unfold jy;have K:(BitVec.ofInt 64 m).toNat=m.toNat:=by
  rw[BitVec.toNat_ofInt];have:m % ((2 ^ 64:Nat):Int)=m:=Int.emod_eq_of_lt h0 (by omega);rw[this]
 have h3:(BitVec.ofInt 64 x &&& BitVec.ofInt 64 m).toNat<=m.toNat:=by
  rw[BitVec.toNat_and,K];exact Nat.and_le_right
 rw[IntWalk.i64_in _ (by omega)];omega
def lE (o:aL):Prop:=0<=o.i/\o.b.length<=1048576
theorem VS {a:List UInt8}(h:a.length<=1048576):∃ o,pB a=some o/\lE o/\o.b=a:=by
 have key:∀ (m j:Nat) (s:Int),j+m=a.length->∃ q,bK (rF a) (s,(j:Int))=some q:=by
  intro m
  induction m with
  | zero=>
   intro j s hj;exact⟨s,c9 (by unfold rF;dsimp only;rw[an (by omega)])⟩
  | succ m ih=>
   intro j s hj;by_cases hlt:(j:Int)<4000;obtain⟨x,hx⟩:∃ x,a[j]?=some x:=⟨_,Cmz (by omega)⟩
   obtain⟨q,hq⟩:=ih (j+1) (jy (IntKind.i64.wrap ((IntKind.i64.wrap ((IntKind.i64.wrap (s*131))+(x.toNat:Int)))+7)) 1073741823) (by omega);refine⟨q,(eS ?_).trans hq⟩;have hw:IntKind.i64.wrap ((j:Int)+1)=((j+1:Nat):Int):=by rw[IntWalk.i64_in _ (by omega)];rfl
   unfold rF;dsimp only;rw[ao (by omega),ao hlt,aF (by omega),b7,hx,aj,hw];exact⟨s,c9 (by unfold rF;dsimp only;rw[ao (by omega),an hlt])⟩
 obtain⟨q,hq⟩:=key a.length 0 (IntKind.i64.wrap (26583+(a.length:Int))) (by omega);have hq' : bK (rF a) ((IntKind.i64.wrap (26583+(a.length:Int))),0)=some q:=hq;refine⟨⟨a,0,q⟩,?_,⟨Int.le_refl _,h⟩,rfl⟩;unfold pB;rw[hq',aj]
theorem tG {o:aL}(h:lE o):∃ y z,mX o=some (y,z)/\0<=y/\y<=255/\lE z/\z.b=o.b:=by
 obtain⟨h0,U⟩:=h;unfold mX;by_cases hi:o.i<(o.b.length:Int);obtain⟨x,hx⟩:∃ x,o.b[o.i.toNat]?=some x:=⟨_,Cmz (by omega)⟩
 rw[ao hi,aF h0,hx,aj];refine⟨_,_,rfl,(Bq (by omega) (by omega)).1,(Bq (by omega) (by omega)).2,⟨?_,U⟩,rfl⟩;show 0<=IntKind.i64.wrap (o.i+1);rw[IntWalk.i64_in _ (by omega)];omega;rw[an hi];exact⟨_,_,rfl,(Bq (by omega) (by omega)).1,(Bq (by omega) (by omega)).2,⟨h0,U⟩,rfl⟩
theorem Kh {y n:Int}(hy:0<=y)(hn:0<n):0<=y.tmod n/\y.tmod n<n:=by
 rw[Int.tmod_eq_emod_of_nonneg hy];exact⟨Int.emod_nonneg _ (by omega),Int.emod_lt_of_pos _ hn⟩
theorem rI {o:aL}(h:lE o)(n:Int):∃ y z,ck n o=some (y,z)/\0<=y/\(0<n->y<n)/\(n<=0->y=0)/\lE z/\z.b=o.b:=by
 unfold ck;by_cases hn:n<=0;rw[ao hn];exact⟨0,o,rfl,Int.le_refl _,λh=>absurd h (by omega),λ_=>rfl,h,rfl⟩;rw[an hn];by_cases K:n<=256;obtain⟨y,z,h3,h4,h5,h6,h7⟩:=tG h;rw[ao K,h3,aj];dsimp only;rw[aF (by omega)];have:=Kh h4 (show 0<n by omega);exact⟨_,_,rfl,this.1,λ_=>this.2,λh=>absurd h hn,⟨h6.1,h.2⟩,rfl⟩;obtain⟨y1,z1,W,a2,a3,a4,a5⟩:=tG h;obtain⟨y2,z2,b1,b2,b3,b4,b5⟩:=tG (o:=⟨o.b,z1.i,z1.h⟩) ⟨a4.1,h.2⟩;obtain⟨y3,z3,c1,c2,c3,c4,c5⟩:=tG (o:=⟨o.b,z2.i,z2.h⟩) ⟨b4.1,h.2⟩;obtain⟨y4,z4,d1,d2,d3,d4,d5⟩:=tG (o:=⟨o.b,z3.i,z3.h⟩) ⟨c4.1,h.2⟩;rw[an K,W,aj];dsimp only;rw[b1,aj];dsimp only;rw[c1,aj];dsimp only;rw[d1,aj];dsimp only;rw[aF (by constructor<;>omega),aF (by constructor<;>omega),aF (by constructor<;>omega),aF (by constructor<;>omega),aF (by constructor<;>omega),aF (by constructor<;>omega),aF (by omega)];have:=Kh (y:=y1*16777216+y2*65536+y3*256+y4) (by omega) (show 0<n by omega);exact⟨_,_,rfl,this.1,λ_=>this.2,λh=>absurd h hn,⟨d4.1,h.2⟩,rfl⟩
theorem B8 {o:aL}(h:lE o){l:List Int}(hl:l≠[]):∃ y z,ic l o=some (y,z)/\y∈l/\lE z/\z.b=o.b:=by
 have hpos:=List.length_pos_iff.2 hl;obtain⟨y,z,U,K,h3,_,h5,h6⟩:=rI h (l.length:Int);have:=h3 (by omega);obtain⟨x,hx⟩:∃ x,l[y.toNat]?=some x:=⟨_,Cmz (by omega)⟩
 unfold ic;rw[U,aj];dsimp only;rw[aF K,hx,aj];exact⟨_,_,rfl,Bvz hx,⟨h5.1,h.2⟩,rfl⟩
theorem Kg {ρ:Type}{g:Nat->Option ρ}(hm:∀ n r,g n=some r->g (n+1)=some r){n:Nat}{r:ρ}(h:g n=some r):cx g=some r:=by
 have up:∀ (k n:Nat) (r:ρ),g n=some r->g (n+k)=some r:=by
  intro k
  induction k with
  | zero=>intro n r h;exact h
  | succ k ih=>intro n r h;exact hm _ _ (ih n r h)
 refine iu n λm hm=>?_;have U:=up (m-n) n r h;rwa[show n+(m-n)=m by omega] at U
theorem Gf {α σ:Type}{f g:Nat->α->σ->Option σ}(h:∀ k x s q,f k x s=some q->g k x s=some q):∀ (xs:List α) (i:Nat) (s q:σ),eachL f i xs s=some q->eachL g i xs s=some q
 | [],i,s,q,hq=>hq
 | x::xs,i,s,q,hq=>by
  simp only[eachL] at hq ⊢;obtain⟨t,U,K⟩:=bd hq;rw[h _ _ _ _ U];exact Gf h xs _ _ _ K
theorem Mz (a b:Oc):uC a b=some (fT a b):=by
 unfold uC fT;by_cases U:a.Pos<b.Pos;simp[U];by_cases K:a.Pos=b.Pos;simp[K];simp[U,K]
abbrev oe (l:List Oc):Prop:=l.Pairwise λa b=>fT a b=true
theorem VQ {l:List Oc}{o:Oc}(hl:l.length<=4398046511104):∀ (m j:Nat),j+m=l.length->(∀ a∈l.take j,fT a o=true) ->
  ∃ k:Nat,bK (pK l o) (j:Int)=some ((k:Nat):Int)/\k<=l.length/\(∀ a∈l.take k,fT a o=true)/\∀ y,l[k]?=some y->fT y o=false:=by
 intro m
 induction m with
 | zero=>
  intro j hj ha;refine⟨j,c9 ?_,by omega,ha,λy hy=>?_⟩;unfold pK;rw[an (by omega)];rw[Avz (by omega)] at hy;cases hy
 | succ m ih=>
  intro j hj ha;obtain⟨x,hx⟩:∃ x,l[j]?=some x:=⟨_,Cmz (by omega)⟩
  cases Y:fT x o with
  | false=>
   refine⟨j,c9 ?_,by omega,ha,λy hy=>?_⟩;unfold pK;rw[ao (by omega),aF (by omega)];simp only[b7];rw[hx,aj,Mz,aj,an (by rw[Y];simp)];rw[hx] at hy;cases hy;exact Y
  | true=>
   have e:pK l o (j:Int)=some (.inl ((j+1:Nat):Int)):=by
    unfold pK;rw[ao (by omega),aF (by omega)];simp only[b7];rw[hx,aj,Mz,aj,ao Y,aF (by constructor<;>omega)];rfl
   rw[eS e];refine ih (j+1) (by omega) λa h=>?_;rw[Dvz,hx] at h;rcases List.mem_append.1 h with h|h;exact ha a h;simp at h;rw[h];exact Y
theorem WW {l:List Oc}{o:Oc}(hl:l.length<4398046511104)(hs:oe l):∃ q,tv l o=some q/\oe q/\(∀ a,a∈q↔a=o∨a∈l)/\q.length<=l.length+1:=by
 obtain⟨k,U,K,h3,h4⟩:=VQ (l:=l) (o:=o) (by omega) l.length 0 (by omega) (by simp);have h1' : bK (pK l o) 0=some ((k:Nat):Int):=U;have hput:∀ (hne:∀ y,l[k]?=some y->y≠o),oe (l.take k++[o]++l.drop k)/\(∀ a,a∈l.take k++[o]++l.drop k↔a=o∨a∈l)/\(l.take k++[o]++l.drop k).length<=l.length+1:=λhne=>by
  refine⟨?_,λa=>?_,by simp;omega⟩;have:=Xq (lt:=fT) b6.trans B9 (k:=k) hs h3 λy hy=>⟨h4 y hy,hne y hy⟩
  simpa using this;have:a∈l↔a∈l.take k∨a∈l.drop k:=by rw[← Ciz,List.take_append_drop]
  rw[this];simp only[Ciz,Bpz];constructor;rintro ((h|h)|h)<;>simp[h];rintro (h|h|h)<;>simp[h]
 unfold tv;rw[h1',aj];by_cases hk:k<l.length;obtain⟨x,hx⟩:∃ x,l[k]?=some x:=⟨_,Cmz hk⟩
 rw[ao (by omega),aF (by omega)];simp only[b7];rw[hx,aj];by_cases hxo:x=o;rw[ao hxo];refine⟨l,rfl,hs,λa=>?_,by omega⟩;have:=Bvz hx;constructor;exact .inr;rintro (h|h);rw[h,← hxo];exact this;exact h;rw[an hxo,aF (by omega),aF (by omega),aF (by simp;omega),aF (by simp;omega),aF (by omega),aF (by omega),aF (by simp;omega)];exact⟨_,rfl,hput λy hy=>by rw[hx] at hy;cases hy;exact hxo⟩;rw[an (by omega)];simp only[b7];rw[aF (by omega),aF (by omega),aF (by simp;omega),aF (by simp;omega),aF (by omega),aF (by omega),aF (by simp;omega)];exact⟨_,rfl,hput λy hy=>by rw[Avz (by omega)] at hy;cases hy⟩
theorem Uk:∀ (n:Nat) (e:Expr) (l q:List Oc),jA n e l=some q->jA (n+1) e l=some q:=by
 intro n
 induction n with
 | zero=>intro e l q h;cases h
 | succ n ih=>
  intro e l q h;have h' : ou (jA n) e l=some q:=h;show ou (jA (n+1)) e l=some q;have m1:∀ (xs:List Expr) (i:Nat) (s q:List Oc),eachL (rN (jA n)) i xs s=some q->eachL (rN (jA (n+1))) i xs s=some q:=Gf λk x s q hq=>by
   unfold rN at hq ⊢;obtain⟨y,h3,h4⟩:=bd hq;rw[ih _ _ _ h3];exact h4
  unfold ou at h' ⊢;by_cases hk:e.Kind=3;rw[ao hk] at h' ⊢;obtain⟨y,U,K⟩:=bd h';obtain⟨s,h3,h4⟩:=bd K;rw[U,aj,m1 _ _ _ _ h3];exact h4;rw[an hk] at h' ⊢;obtain⟨s,h3,h4⟩:=bd h';have m2:eachL (BC (jA (n+1))) 0 e.Args l=some s:=m1 _ _ _ _ h3;rw[m2];exact h4
theorem Xl:∀ (m:Nat) (e:Expr) (l:List Oc),dL e<=m->oe l->l.length+(gp e).length<=1099511627776 ->
  ∃ q,jA m e l=some q/\oe q/\(∀ a,a∈q↔a∈l∨a∈gp e)/\q.length<=l.length+(gp e).length:=by
 intro m
 induction m with
 | zero=>intro e l h;rw[pc] at h;omega
 | succ m ih=>
  intro e l h hs Y;rw[pc] at h;rw[pz,Axz] at Y;have hl:∀ (xs:List Expr) (i:Nat) (s:List Oc),gX xs<=m->oe s->s.length+(gO xs).length<=1099511627776 ->
    ∃ q,eachL (rN (jA m)) i xs s=some q/\oe q/\(∀ a,a∈q↔a∈s∨a∈gO xs)/\q.length<=s.length+(gO xs).length:=by
   intro xs
   induction xs with
   | nil=>intro i s _ hs _;exact⟨s,rfl,hs,by simp[gO],by omega⟩
   | cons x xs ihl=>
    intro i s hf hs Y;simp only[gX] at hf;simp only[gO,Axz] at Y;obtain⟨q,U,K,h3,h4⟩:=ih x s (by omega) hs (by omega);obtain⟨q2,k1,k2,k3,k4⟩:=ihl (i+1) q (by omega) K (by omega);refine⟨q2,?_,k2,λa=>?_,by simp only[gO,Axz];omega⟩;simp only[eachL,rN,U,aj];exact k1;rw[k3,h3,gO,Ciz,or_assoc]
  show ∃ q,ou (jA m) e l=some q/\_;unfold ou;by_cases hk:e.Kind=3;rw[ao hk] at Y ⊢;simp only[bE,Dyz] at Y;obtain⟨y,U,K,h3,h4⟩:=WW (l:=l) (o:=⟨e.Pos,e.Name⟩) (by omega) hs;obtain⟨q,k1,k2,k3,k4⟩:=hl e.Args 0 y (by omega) K (by omega);refine⟨q,?_,k2,λa=>?_,?_⟩;rw[U,aj,k1];rfl;rw[k3,h3,pz,ao hk,Ciz,Bpz];constructor;rintro ((h|h)|h)<;>simp[h];rintro (h|h|h)<;>simp[h];rw[pz,ao hk];simp;omega;rw[an hk] at Y ⊢;simp only[Dyz] at Y;obtain⟨q,k1,k2,k3,k4⟩:=hl e.Args 0 l (by omega) hs (by omega);have k1' : eachL (BC (jA m)) 0 e.Args l=some q:=k1;refine⟨q,?_,k2,λa=>?_,?_⟩;rw[k1'];rfl;rw[k3,pz,an hk];simp;rw[pz,an hk];simpa using k4
theorem Za (e:Expr):oe (attrs e):=by
 refine Hl b6.trans B9 ?_;have h:=List.pairwise_mergeSort (le:=λx y=>!fT y x) (λa b c U K=>by
  simp only[Bdz] at U K ⊢;exact b6.ntrans _ _ _ K U) (λa b=>by
  cases h:fT a b with
  | false=>simp[h]
  | true=>
   cases K:fT b a with
   | false=>simp
   | true=>have:=b6.trans _ _ _ h K;rw[b6.irrefl] at this;cases this) (gp e)
 unfold nN;exact h.imp λ{a b} h=>by simpa using h
theorem Ft {e:Expr}(h:Sz.szd e<=1048576):oJ e=some (attrs e):=by
 have hl:=EE h;obtain⟨q,U,K,h3,h4⟩:=Xl _ e [] (Acz _) List.Pairwise.nil (by simp;omega);have hq:q=attrs e:=Nx (lt:=fT) b6.irrefl b6.trans K (Za e) λa=>by rw[h3,W7];simp
 subst hq;have Z:FL e []=some (attrs e):=Kg (λn q=>Uk n e [] q) U;unfold oJ;rw[Z];rfl
def Ok {ρ:Type}(Q:ρ->Prop)(o:Option ρ):Prop:=∃ r,o=some r/\Q r
section
variable {ρ τ σ α:Type}{Q:ρ->Prop}{R:τ->Prop}
theorem Ok.ret {r:ρ}(h:Q r):Ok Q (some r):=⟨r,rfl,h⟩
theorem Ok.bind {o:Option ρ}{f:ρ->Option τ}(h:Ok Q o)(hf:∀ r,Q r->Ok R (f r)):Ok R (o.bind f):=by
 obtain⟨r,rfl,Z⟩:=h;exact hf r Z
theorem Ok.grd {c:Prop}[Decidable c]{k:Option τ}(hc:c)(h:Ok R k):Ok R (Go.E.grd c k):=by rw[aF hc];exact h
theorem Ok.ite {c:Prop}[Decidable c]{a b:Option τ}(U:c->Ok R a)(K:¬ c->Ok R b):Ok R (if c then a else b):=by
 by_cases hc:c;rw[ao hc];exact U hc;rw[an hc];exact K hc
theorem Ok.mono {Q' : ρ->Prop}{o:Option ρ}(h:Ok Q o)(hq:∀ r,Q r->Q' r):Ok Q' o:=by
 obtain⟨r,rfl,Z⟩:=h;exact⟨r,rfl,hq r Z⟩
theorem E4 {P:Nat->σ->Prop}{f:Nat->σ->Option σ}:∀ {n i:Nat} {s:σ},P i s->(∀ k s,i<=k->k<i+n->P k s->Ok (P (k+1)) (f k s))->Ok (P (i+n)) (eachN f i n s)
 | 0,i,s,h,_=>⟨s,rfl,h⟩
 | n+1,i,s,h,hf=>by
  rw[eachN];refine (hf i s (Acz _) (by omega) h).bind λr Z=>?_;have:=E4 (n:=n) Z λk s U K=>hf k s (by omega) (by omega);rwa[show i+1+n=i+(n+1) by omega] at this
theorem ti {P:Nat->σ->Prop}{f:Nat->α->σ->Option σ}:∀ {xs:List α} {i:Nat} {s:σ},P i s->(∀ k x s,x∈xs->i<=k->k<i+xs.length->P k s->Ok (P (k+1)) (f k x s))->Ok (P (i+xs.length)) (eachL f i xs s)
 | [],i,s,h,_=>⟨s,rfl,h⟩
 | x::xs,i,s,h,hf=>by
  rw[eachL];refine (hf i x s (by simp) (Acz _) (by simp) h).bind λr Z=>?_;have:=ti (xs:=xs) Z λk y s hy U K=>hf k y s (by simp[hy]) (by omega) (by simp;omega);rwa[show i+1+xs.length=i+(x::xs).length by simp;omega] at this
theorem Kf {g:Nat->Option ρ}{N:Nat}(h:∀ n,N<=n->g (n+1)=g n)(K:Ok Q (g N)):Ok Q (cx g):=by
 obtain⟨r,h3,h4⟩:=K;have:∀ k,g (N+k)=some r:=by
  intro k
  induction k with
  | zero=>exact h3
  | succ k ih=>rw[← Nat.add_assoc,h _ (by omega),ih]
 exact⟨r,iu N λn hn=>by have:=this (n-N);rwa[show N+(n-N)=n by omega] at this,h4⟩
end
def CB (b:List UInt8)(z:aL):Prop:=0<=z.i/\z.b=b
theorem CB.mk' {b:List UInt8}{o z:aL}(h:CB b o)(hz:CB b z):CB b ⟨o.b,z.i,z.h⟩:=⟨hz.1,h.2⟩
def Dr {α:Type}(b:List UInt8)(P:α->Prop)(o:Option (α×aL)):Prop:=Ok (λr=>P r.1/\CB b r.2) o
theorem Dr.of {α:Type}{b:List UInt8}{P:α->Prop}{o:Option (α×aL)}(Y:b.length<=1048576)(h:∃ y z,o=some (y,z)/\P y/\lE z/\z.b=b):Dr b P o:=by
 obtain⟨y,z,e,U,K,h3⟩:=h;exact⟨(y,z),e,U,K.1,h3⟩
theorem CB.ok {b:List UInt8}{z:aL}(Y:b.length<=1048576)(h:CB b z):lE z:=⟨h.1,by rw[h.2];exact Y⟩
section
variable {b:List UInt8}{o:aL}(Y:b.length<=1048576)
include Y
theorem I8:Ok (λz=>CB b z) (pB b):=by
 obtain⟨o,U,K,h3⟩:=VS Y;exact⟨o,U,K.1,h3⟩
theorem dt (n:Int)(h:CB b o):Dr b (λy=>0<=y/\(0<n->y<n)/\(n<=0->y=0)) (ck n o):=by
 obtain⟨y,z,U,K,h3,h4,h5,h6⟩:=rI (h.ok Y) n;exact⟨(y,z),U,⟨K,h3,h4⟩,h5.1,h6.trans h.2⟩
theorem ir (n:Int)(h:CB b o):Dr b (λ_=>True) (fg n o):=by
 unfold fg;refine (dt Y n h).bind ?_;rintro⟨y,z⟩ ⟨_,hz⟩;exact .ret ⟨trivial,h.mk' hz⟩
theorem kO {l:List ar}(hl:l≠[])(h:CB b o):Dr b (λy=>y∈l) (jg l o):=by
 have hpos:=List.length_pos_iff.2 hl;unfold jg;refine (dt Y _ h).bind ?_;rintro⟨y,z⟩ ⟨⟨U,K,_⟩,hz⟩;dsimp only at U K hz ⊢;have:=K (by omega);obtain⟨x,hx⟩:∃ x,l[y.toNat]?=some x:=⟨_,Cmz (by omega)⟩
 rw[hx];exact .grd U (.ret ⟨Bvz hx,h.mk' hz⟩)
theorem ov {l:List Int}(hl:l≠[])(h:CB b o):Dr b (λy=>y∈l) (ic l o):=by
 obtain⟨y,z,U,K,h3,h4⟩:=B8 (h.ok Y) hl;exact⟨(y,z),U,K,h3.1,h4.trans h.2⟩
theorem EC (h:CB b o):Dr b (λy=>y.size=1) (mW o):=by
 unfold mW;refine (kO Y (by simp) h).bind ?_;rintro⟨y,z⟩ ⟨U,hz⟩;refine .ret ⟨?_,h.mk' hz⟩;simp only[Dsz,Daz,or_false] at U;rcases U with U|U|U|U|U|U|U|U<;>rw[U]<;>rfl
theorem sP (k n p t:Int)(s m:ar):Sz.szd (⟨k,n,p,t,s,m,[]⟩:Expr)=s.size+m.size:=by rw[fQ];rfl
theorem Ej (k n p t:Int)(s m:ar)(x y:Expr):Sz.szd (⟨k,n,p,t,s,m,[x,y]⟩:Expr)=s.size+m.size+(1+Sz.szd x+(1+Sz.szd y+0)):=by rw[fQ];rfl
theorem I7 (k n p t:Int)(s m:ar)(x:Expr):Sz.szd (⟨k,n,p,t,s,m,[x]⟩:Expr)=s.size+m.size+(1+Sz.szd x+0):=by rw[fQ];rfl
theorem Li (k n p t:Int)(s m:ar)(x y z:Expr):Sz.szd (⟨k,n,p,t,s,m,[x,y,z]⟩:Expr)=s.size+m.size+(1+Sz.szd x+(1+Sz.szd y+(1+Sz.szd z+0))):=by rw[fQ];rfl
theorem mR:(⟨#[]⟩:ar).size=0:=rfl
theorem sT (k:Int){l:List Oc}(hl:∀ q∈l,q.Name.size<=8)(h:CB b o):Dr b (λe=>Sz.szd e<=8) (jB k l o):=by
 have bare:∀ {o:aL},CB b o->∀ {R:Option (Expr×aL)},R=(if k=4 then
   (fg 3 o).bind λ(y10,z7)=>if y10=true then some ((⟨7,0,0,0,(⟨#[]⟩:ar),(⟨#[]⟩:ar),[]⟩:Expr),(⟨o.b,z7.i,z7.h⟩:aL)) else some ((⟨6,0,0,0,(⟨#[]⟩:ar),(⟨#[]⟩:ar),[]⟩:Expr),(⟨o.b,z7.i,z7.h⟩:aL))
  else if k=3 then (ck 2 o).bind λ(y11,z8)=>(kz y11 k).bind λy12=>some (y12,(⟨o.b,z8.i,z8.h⟩:aL))
  else if k=2 then (ck 12 o).bind λ(y13,z9)=>grd (0<=y13) <| grd (0<=y13/\y13<63) <| (kz ((2 ^ y13.toNat:Nat):Int) k).bind λy14=>some (y14,(⟨o.b,z9.i,z9.h⟩:aL))
  else (ck 9 o).bind λ(y15,z10)=>(kz y15 1).bind λy16=>some (y16,(⟨o.b,z10.i,z10.h⟩:aL)))->Dr b (λe=>Sz.szd e<=8) R:=by
  rintro o h R rfl;refine .ite (λ_=>?_) λ_=>.ite (λ_=>?_) λ_=>.ite (λ_=>?_) λ_=>?_;refine (ir Y 3 h).bind ?_;rintro⟨y,z⟩ ⟨_,hz⟩;refine .ite (λ_=>.ret ⟨?_,h.mk' hz⟩) λ_=>.ret ⟨?_,h.mk' hz⟩;exact Aez _;exact Aez _;refine (dt Y 2 h).bind ?_;rintro⟨y,z⟩ ⟨_,hz⟩;refine .ret ⟨?_,h.mk' hz⟩;exact Aez _;refine (dt Y 12 h).bind ?_;rintro⟨y,z⟩ ⟨⟨U,K,_⟩,hz⟩;have:=K (by omega);dsimp only at U this;refine .grd U (.grd (by omega) (.ret ⟨?_,h.mk' hz⟩));exact Aez _;refine (dt Y 9 h).bind ?_;rintro⟨y,z⟩ ⟨_,hz⟩;refine .ret ⟨?_,h.mk' hz⟩;exact Aez _
 unfold jB;refine .ite (λhl0=>?_) λ_=>bare h rfl;refine (ir Y 4 h).bind ?_;rintro⟨y,z⟩ ⟨_,hz⟩;have h':=h.mk' hz;refine .ite (λ_=>?_) λ_=>?_;exact bare h' rfl;refine (dt Y _ h').bind ?_;rintro⟨y,z⟩ ⟨⟨U,K,_⟩,hz⟩;have:=K (by omega);dsimp only at U this;obtain⟨x,hx⟩:∃ x,l[y.toNat]?=some x:=⟨_,Cmz (by omega)⟩
 dsimp only;rw[hx];refine .grd U (.ret ⟨?_,h.mk' hz⟩);dsimp only;rw[sP Y,mR Y];have:=hl x (Bvz hx);omega
def fb (d:Nat):Nat:=20*4 ^ d
theorem sO (d:Nat):20<=fb d:=by
 have:1<=4 ^ d:=Nat.one_le_pow _ _ (by omega);unfold fb;omega
theorem JQ (d:Nat):fb (d+1)=4*fb d:=by unfold fb;rw[Nat.pow_succ];omega
theorem BN (h:CB b o){R:Option (Expr×aL)}(hR:R=(
 (fg 5 o).bind λ(y1,z1)=>
 if y1=true then (
 some ((⟨2,0,0,0,(⟨#[]⟩:ar),(⟨#[]⟩:ar),[]⟩:Expr),(⟨o.b,z1.i,z1.h⟩:aL))
 ) else (
 (fg 6 (⟨o.b,z1.i,z1.h⟩:aL)).bind λ(y2,z2)=>
 if y2=true then (
 (ck 4 (⟨o.b,z2.i,z2.h⟩:aL)).bind λ(y3,z3)=>
 some ((⟨6,0,y3,0,(⟨#[]⟩:ar),(⟨#[]⟩:ar),[]⟩:Expr),(⟨o.b,z3.i,z3.h⟩:aL))
 ) else (
 (ck 4 (⟨o.b,z2.i,z2.h⟩:aL)).bind λ(y4,z4)=>
 grd (aX (1+y4)) <|
 (ck 4 (⟨o.b,z4.i,z4.h⟩:aL)).bind λ(y5,z5)=>
 (mW (⟨o.b,z5.i,z5.h⟩:aL)).bind λ(y6,z6)=>
 (jB (1+y4) [(⟨y5,y6⟩:Oc)] (⟨o.b,z6.i,z6.h⟩:aL)).bind λ(y7,z7)=>
 some (y7,(⟨o.b,z7.i,z7.h⟩:aL))
 )
 ))):Dr b (λe=>Sz.szd e<=20) R:=by
 subst hR;refine (ir Y 5 h).bind ?_;rintro⟨y1,z1⟩ ⟨_,U⟩;refine .ite (λ_=>.ret ⟨?_,h.mk' U⟩) λ_=>?_;exact Aez _;refine (ir Y 6 (h.mk' U)).bind ?_;rintro⟨y2,z2⟩ ⟨_,K⟩;refine .ite (λ_=>?_) λ_=>?_;refine (dt Y 4 (h.mk' K)).bind ?_;rintro⟨y3,z3⟩ ⟨_,h3⟩;refine .ret ⟨?_,h.mk' h3⟩;exact Aez _;refine (dt Y 4 (h.mk' K)).bind ?_;rintro⟨y4,z4⟩ ⟨⟨W,a2,_⟩,h4⟩;have:=a2 (by omega);dsimp only at W this;refine .grd (by constructor<;>omega) ?_;refine (dt Y 4 (h.mk' h4)).bind ?_;rintro⟨y5,z5⟩ ⟨_,h5⟩;refine (EC Y (h.mk' h5)).bind ?_;rintro⟨y6,z6⟩ ⟨hn,h6⟩;refine (sT Y _ (by simpa using (show y6.size<=8 by dsimp only at hn;omega)) (h.mk' h6)).bind ?_;rintro⟨y7,z7⟩ ⟨hs,h7⟩;exact .ret ⟨by have hs' : Sz.szd y7<=8:=hs;show Sz.szd y7<=20;omega,h.mk' h7⟩
theorem TG:∀ (d:Nat) (m:Nat),d<m->∀ (a:Int) (o:aL),a<=d+1->iI (m+1) a o=iI m a o:=by
 intro d
 induction d with
 | zero=>
  intro m hm a o ha;obtain⟨m,rfl⟩:∃ q,m=q+1:=⟨m-1,by omega⟩
  show jV (iI (m+1)) a o=jV (iI m) a o;unfold jV;rw[ao (by omega),ao (by omega)]
 | succ d ih=>
  intro m hm a o ha;obtain⟨m,rfl⟩:∃ q,m=q+1:=⟨m-1,by omega⟩
  have e:iI (m+1) (a-1)=iI m (a-1):=funext λo=>ih m (by omega) (a-1) o (by omega);show jV (iI (m+1)) a o=jV (iI m) a o;unfold jV;rw[e]
theorem VP:∀ (d:Nat) (m:Nat),d<m->∀ (a:Int) (o:aL),a<=d+1->-1000000<=a->d<=100000->CB b o->Dr b (λe=>Sz.szd e<=fb d) (iI m a o):=by
 intro d
 induction d with
 | zero=>
  intro m hm a o ha _ _ h;obtain⟨m,rfl⟩:∃ q,m=q+1:=⟨m-1,by omega⟩
  show Dr b _ (jV (iI m) a o);unfold jV;rw[ao (by omega)];exact (BN Y h rfl).mono λr Z=>⟨Bgz Z.1 (sO Y 0),Z.2⟩
 | succ d ih=>
  intro m hm a o ha h0 hd h;obtain⟨m,rfl⟩:∃ q,m=q+1:=⟨m-1,by omega⟩
  have hf:=sO Y d;have hs:=JQ Y d;show Dr b _ (jV (iI m) a o);unfold jV;by_cases ha2:a<2;rw[ao ha2];exact (BN Y h rfl).mono λr Z=>⟨Bgz Z.1 (sO Y _),Z.2⟩
  rw[an ha2];have ih' : ∀ {o:aL},CB b o->Dr b (λe=>Sz.szd e<=fb d) (iI m (a-1) o):=λh=>ih m (by omega) (a-1) _ (by omega) (by omega) (by omega) h;have hg:aX (a-1):=by constructor<;>omega
  refine (ir Y 4 h).bind ?_;rintro⟨y8,z8⟩ ⟨_,h8⟩;refine .ite (λ_=>(BN Y (h.mk' h8) rfl).mono λr Z=>⟨Bgz Z.1 (sO Y _),Z.2⟩) λ_=>?_;refine (dt Y 5 (h.mk' h8)).bind ?_;rintro⟨y16,z16⟩ ⟨_,h16⟩;refine .ite (λ_=>?_) λ_=>.ite (λ_=>?_) λ_=>?_;refine .grd hg ((ih' (h.mk' h16)).bind ?_);rintro⟨e1,z1⟩ ⟨s1,U⟩;refine .grd hg ((ih' (h.mk' U)).bind ?_);rintro⟨e2,z2⟩ ⟨s2,K⟩;refine .grd hg ((ih' (h.mk' K)).bind ?_);rintro⟨e3,z3⟩ ⟨s3,h3⟩;refine .ret ⟨?_,h.mk' h3⟩;dsimp only at s1 s2 s3 ⊢;rw[Li Y,mR Y];omega;refine (kO Y (by simp) (h.mk' h16)).bind ?_;rintro⟨y20,z20⟩ ⟨h20,c20⟩;refine (EC Y (h.mk' c20)).bind ?_;rintro⟨y21,z21⟩ ⟨h21,c21⟩;refine .grd hg ((ih' (h.mk' c21)).bind ?_);rintro⟨e1,z1⟩ ⟨s1,U⟩;refine .ret ⟨?_,h.mk' U⟩;have:y20.size=1:=by
   simp only[Dsz,Daz,or_false] at h20;rcases h20 with h20|h20<;>rw[h20]<;>rfl
  dsimp only at s1 h21 ⊢;rw[I7 Y];omega;refine (dt Y 12 (h.mk' h16)).bind ?_;rintro⟨y23,z23⟩ ⟨⟨W,a2,_⟩,h23⟩;have:=a2 (by omega);dsimp only at W this;refine .grd (by constructor<;>omega) (.grd hg ((ih' (h.mk' h23)).bind ?_));rintro⟨e1,z1⟩ ⟨s1,U⟩;refine .grd hg ((ih' (h.mk' U)).bind ?_);rintro⟨e2,z2⟩ ⟨s2,K⟩;refine .ret ⟨?_,h.mk' K⟩;dsimp only at s1 s2 ⊢;rw[Ej Y,mR Y];omega
theorem JP (d:Nat){a:Int}(ha:a<=d+1)(h0:-1000000<=a)(hd:d<=100000)(h:CB b o):Dr b (λe=>Sz.szd e<=fb d) (xD a o):=
 Kf (g:=λn=>iI n a o) (N:=d+1) (λn hn=>TG Y d n (by omega) a o ha) (VP Y d (d+1) (by omega) a o ha h0 hd h)
theorem Ed {e:Expr}{n:Nat}(h:Sz.szd e<=n):bV e<=n+1:=by
 have U:=Fv e;have K:kP e=Sz.szd e:=rfl;omega
theorem JO (h:CB b o):Dr b (λe=>Sz.szd e<=20480) (rD o):=by
 unfold rD;refine (dt Y 5 h).bind ?_;rintro⟨y1,z1⟩ ⟨⟨W,a2,_⟩,U⟩;have:=a2 (by omega);dsimp only at W this;refine .grd (by constructor<;>omega) ?_;refine (JP Y 5 (a:=1+y1) (by omega) (by omega) (by omega) (h.mk' U)).bind ?_;rintro⟨e,z2⟩ ⟨s2,K⟩;have s2' : Sz.szd e<=20480:=s2;dsimp only;rw[xt (by have:=Ed Y s2';omega)];refine Ok.bind (Q:=λ_=>True) (.ret trivial) λy3 _=>.ite (λ_=>.ret ⟨s2',h.mk' K⟩) λ_=>.ret ⟨?_,h.mk' K⟩;exact Aez _
theorem TF (h:CB b o):Dr b (λe=>Sz.szd e<=30000) (tJ o):=by
 unfold tJ;refine (JO Y h).bind ?_;rintro⟨e,z1⟩ ⟨s1,U⟩;have s1' : Sz.szd e<=20480:=s1;have s2:=fQ e;refine (dt Y 14 (h.mk' U)).bind ?_;rintro⟨y2,z2⟩ ⟨_,K⟩;dsimp only;refine .ite (λ_=>?_) λ_=>.ite (λ_=>?_) λ_=>.ite (λ_=>?_) λ_=>.ite (λ_=>?_) λ_=>.ite (λ_=>?_) λ_=>.ite (λ_=>?_) λ_=>?_;refine (dt Y 11 (h.mk' K)).bind ?_;rintro⟨y3,z3⟩ ⟨_,h3⟩;refine .ret ⟨?_,h.mk' h3⟩;dsimp only;rw[fQ];dsimp only;omega;have hl:=jj e.Args;refine .grd (by constructor<;>omega) (.ret ⟨?_,h.mk' K⟩);dsimp only;rw[fQ];dsimp only;rw[BJ];have:bW [(⟨7,0,0,0,(⟨#[]⟩:ar),(⟨#[]⟩:ar),[]⟩:Expr)]=1:=rfl;omega;refine (ov Y (by simp) (h.mk' K)).bind ?_;rintro⟨y3,z3⟩ ⟨_,h3⟩;refine .ret ⟨?_,h.mk' h3⟩;dsimp only;rw[fQ];dsimp only;omega;refine (ov Y (by simp) (h.mk' K)).bind ?_;rintro⟨y3,z3⟩ ⟨_,h3⟩;refine .ret ⟨?_,h.mk' h3⟩;dsimp only;rw[fQ];dsimp only;omega;refine (kO Y (by simp) (h.mk' K)).bind ?_;rintro⟨y3,z3⟩ ⟨h30,h3⟩;have:y3.size<=2:=by
  simp only[Dsz,Daz,or_false] at h30;rcases h30 with h30|h30|h30<;>rw[h30]<;>decide
 refine .ret ⟨?_,h.mk' h3⟩;dsimp only;rw[fQ];dsimp only;omega;have hL:Ok (λq=>Sz.szd (⟨q.2.1,q.2.2.1,q.2.2.2.1,q.2.2.2.2.1,q.2.2.2.2.2.1,q.2.2.2.2.2.2,q.1⟩:Expr)<=20480+5*2) (eachN BD 0 5 (e.Args,e.Kind,e.N,e.Pos,e.t__,e.ah,e.Name)):=by
  refine (E4 (P:=λk q=>Sz.szd (⟨q.2.1,q.2.2.1,q.2.2.2.1,q.2.2.2.2.1,q.2.2.2.2.2.1,q.2.2.2.2.2.2,q.1⟩:Expr)<=20480+k*2) (by dsimp only;rw[fQ];dsimp only;omega) λk q _ _ hq=>?_).mono λq hq=>by simpa using hq
  obtain⟨q1,q2,q3,q4,q5,q6,q7⟩:=q;dsimp only at hq;refine .ret ?_;dsimp only;rw[Ej Y,sP Y,mR Y];omega
 refine hL.bind ?_;rintro⟨q1,q2,q3,q4,q5,q6,q7⟩ hq;refine .ret ⟨?_,h.mk' K⟩;dsimp only at hq ⊢;omega;exact .ret ⟨by dsimp only;omega,h.mk' K⟩
end
def aI (r:au):Prop:=0<=r.N/\r.N<=16/\(r.Rows.length:Int)=r.N/\∀ x∈r.Rows,0<=x/\x<=((2 ^ r.N.toNat:Nat):Int)-1
instance (r:au):Decidable (aI r):=by unfold aI;infer_instance
def ij (r:au)(i:Int):Int:=r.Rows.getD i.toNat 0
def bit (x:Int)(k:Int):Prop:=x.toNat >>> k.toNat &&& 1=1
instance (x k:Int):Decidable (bit x k):=by unfold bit;infer_instance
def eE (r:au)(i:Int):Prop:=0<=i/\i<=r.N-1
instance (r:au) (i:Int):Decidable (eE r i):=by unfold eE;infer_instance
def bG (r:au)(i k:Int):Prop:=aI r/\eE r i/\eE r k/\bit (ij r i) k
instance (r:au) (i k:Int):Decidable (bG r i k):=by unfold bG;infer_instance
def wR (r:au)(i:Int)(x:Int):au:=⟨r.N,r.Rows.set i.toNat x⟩
def iR (x y:Int):Int:=((x.toNat ||| y.toNat:Nat):Int)
def ca (r:au)(i k:Int):au:=if aI r/\eE r i/\eE r k then wR r i (iR (ij r i) ((2 ^ k.toNat:Nat):Int)) else r
theorem aI.row {r:au}(h:aI r){i:Int}(hi:eE r i){x:Int}(hx:r.Rows[i.toNat]?=some x):ij r i=x/\0<=x/\x<=65535:=by
 have hm:=h.2.2.2 x (Bvz hx);have hp:2 ^ r.N.toNat<=2 ^ 16:=Eaz (by decide) (by have:=h.2.1;omega);refine⟨by unfold ij;simp[hx],hm.1,by omega⟩
theorem PH {n:Int}(h:n<=16):2 ^ n.toNat<=65536:=by
 have:2 ^ n.toNat<=2 ^ 16:=Eaz (by decide) (by omega);simpa using this
theorem Lh (n:Int):1<=2 ^ n.toNat:=Nat.one_le_two_pow
theorem Wx {r:au}(h0:0<=r.N)(U:r.N<=16)(K:(r.Rows.length:Int)=r.N):decide (aI r)=!(r.Rows.any λx=>!decide (0<=x/\x<=((2 ^ r.N.toNat:Nat):Int)-1)):=by
 by_cases hv:aI r;rw[decide_eq_true hv,eq_comm,Bdz,List.any_eq_false];intro x hx;simp only[Bdz,decide_eq_false_iff_not,Decidable.not_not];exact hv.2.2.2 x hx;rw[decide_eq_false hv,eq_comm,Bool.not_eq_false',List.any_eq_true];refine Classical.byContradiction λhn=>hv ⟨h0,U,K,λx hx=>Classical.byContradiction λY=>hn ⟨x,hx,?_⟩⟩;rw[decide_eq_false Y];rfl
theorem I6 {x k:Int}(h:(((((x.toNat >>> k.toNat:Nat):Int)).toNat &&& (1:Int).toNat:Nat):Int)=1):x.toNat >>> k.toNat &&& 1=1:=by
 have:(1:Int).toNat=1:=rfl;rw[b7,this] at h
 exact_mod_cast h
theorem I5 {x k:Int}(h:x.toNat >>> k.toNat &&& 1=1):(((((x.toNat >>> k.toNat:Nat):Int)).toNat &&& (1:Int).toNat:Nat):Int)=1:=by
 have:(1:Int).toNat=1:=rfl;rw[b7,this]
 exact_mod_cast h
theorem jS (x lo hi:Int):cV x lo hi=some (decide (lo<=x/\x<=hi)):=by
 unfold cV;split<;>simp_all<;>omega
theorem uc (x lo hi:Int):dJ x lo hi=some (decide (lo<=x/\x<=hi)):=by
 unfold dJ;split<;>simp_all<;>omega
theorem p5 (r:au):oL r=some (decide (aI r)):=by
 unfold oL;simp only[jS,aj,decide_eq_true_eq];by_cases U:0<=r.N/\r.N<=16;rw[ao U];by_cases K:(r.Rows.length:Int)=r.N;rw[ao K];have key:=MF (c:=false) (n:=r.N.toNat) (i:=0) (p:=λk=>∃ x,r.Rows[k]?=some x/\¬ (0<=x/\x<=((2 ^ r.N.toNat:Nat):Int)-1)) (f:=CX r) λk hk=>by
  have hk' : k<r.Rows.length:=by omega
  obtain⟨x,hx⟩:∃ x,r.Rows[k]?=some x:=⟨_,Cmz hk'⟩
  simp only[Adz];unfold CX;rw[hx,aj,aF U.1,aF (by omega),jS,aj];simp only[decide_eq_true_eq];refine⟨λ⟨y,hy,hn⟩=>?_,λhn=>?_⟩;cases hy;rw[an hn];by_cases Y:0<=x/\x<=((2 ^ r.N.toNat:Nat):Int)-1;rw[ao Y];exact absurd ⟨x,rfl,Y⟩ hn
 simp only[Adz] at key;by_cases hv:aI r;rw[key.2 λk hk ⟨x,hx,hn⟩=>hn (hv.2.2.2 x (Bvz hx))];simp[hv];rw[key.1 (Classical.byContradiction λhn=>hv ⟨U.1,U.2,K,λx hx=>?_⟩)];simp[hv];obtain⟨k,hk⟩:=List.getElem?_of_mem hx;have hk':=P8 hk;exact Classical.byContradiction λY=>hn ⟨k,by omega,x,hk,Y⟩;rw[an K,decide_eq_false λhv=>K hv.2.2.1];rw[an U,decide_eq_false λhv=>U ⟨hv.1,hv.2.1⟩]
theorem BM (r:au):qm r=some (decide (aI r)):=by
 unfold qm;simp only[uc,aj,decide_eq_true_eq];by_cases U:0<=r.N/\r.N<=16;rw[ao U];simp only[aj,Dzz,if_true,if_false,decide_eq_true_eq];by_cases K:(r.Rows.length:Int)=r.N;rw[ao K];have h3:∀ x,vN x r=some (!decide (0<=x/\x<=((2 ^ r.N.toNat:Nat):Int)-1)):=λx=>by
  unfold vN;rw[aF U.1,aF (by omega),uc];rfl
 have h4:∀ (xs:List Int) (i:Nat),∃ z,findL (Da r) i xs ()=some z/\((xs.any λx=>!decide (0<=x/\x<=((2 ^ r.N.toNat:Nat):Int)-1))=true->∃ k:Nat,z=.inr (k:Int))/\((xs.any λx=>!decide (0<=x/\x<=((2 ^ r.N.toNat:Nat):Int)-1))=false->z=.inl ()):=by
  intro xs
  induction xs with
  | nil=>intro i;exact⟨_,rfl,by simp,by simp⟩
  | cons x xs ih=>
   intro i;simp only[findL,Da,h3,aj,List.any_cons];by_cases Y:0<=x/\x<=((2 ^ r.N.toNat:Nat):Int)-1;simp only[Y,and_self,decide_true,Bool.not_true,Dzz,if_false,aj,Bool.false_or];exact ih (i+1);simp only[Y,decide_false,Bool.not_false,if_true,aj,Bool.true_or];exact⟨_,rfl,λ_=>⟨i,rfl⟩,by simp⟩
 unfold Ab zV;obtain⟨z,hz,hz1,hz2⟩:=h4 r.Rows 0;rw[hz,Wx U.1 U.2 K];cases ha:(r.Rows.any λx=>!decide (0<=x/\x<=((2 ^ r.N.toNat:Nat):Int)-1)) with
 | true=>obtain⟨k,rfl⟩:=hz1 ha;simp
 | false=>rw[hz2 ha];simp
 rw[an K,decide_eq_false λhv=>K hv.2.2.1];simp only[aj,Dzz,if_true,if_false,decide_eq_true_eq];rw[an U,decide_eq_false λhv=>U ⟨hv.1,hv.2.1⟩];simp only[aj,Dzz,if_true,if_false,decide_eq_true_eq]
theorem oB (r:au)(i k:Int):np r i k=some (decide (bG r i k)):=by
 unfold np;simp only[p5,jS,aj,decide_eq_true_eq];by_cases hv:aI r;have hv1:=hv.1;have hv2:=hv.2.1;have hv3:=hv.2.2.1;rw[ao hv,aF (by constructor<;>omega)];simp only[aj,Dzz,if_true,if_false,decide_eq_true_eq];by_cases hi:0<=i/\i<=r.N-1;rw[ao hi,aF (by constructor<;>omega)];simp only[aj,Dzz,if_true,if_false,decide_eq_true_eq];by_cases hk:0<=k/\k<=r.N-1;obtain⟨x,hx⟩:∃ x,r.Rows[i.toNat]?=some x:=⟨_,Cmz (by omega)⟩
 have hrow:=hv.row (i:=i) hi hx;rw[ao hk,aF hi.1,hx,aj,aF hk.1,aF ⟨hrow.2.1,hk.1,by omega⟩,aF ⟨Doz _,by decide⟩];simp only[aj,Dzz,if_true,if_false,decide_eq_true_eq];congr 1;refine decide_eq_decide.2 ⟨λY=>⟨hv,hi,hk,?_⟩,λY=>?_⟩;unfold bit;rw[hrow.1];exact I6 Y;have:=Y.2.2.2;unfold bit at this;rw[hrow.1] at this;exact I5 this;rw[an hk];simp only[aj,Dzz,if_true,if_false,decide_eq_true_eq];rw[ decide_eq_false λh=>hk h.2.2.1];rw[an hi];simp only[aj,Dzz,if_true,if_false,decide_eq_true_eq];rw[ decide_eq_false λh=>hi h.2.1];rw[an hv];simp only[aj,Dzz,if_true,if_false,decide_eq_true_eq];rw[ decide_eq_false λh=>hv h.1]
theorem NK (r:au)(i k:Int):pP r i k=some (decide (bG r i k)):=by
 rw[← oB];unfold pP np;simp only[p5,BM,jS,uc]
theorem My:sk=nq:=by
 funext r;unfold sk nq qn;by_cases h:((([]:List Int).length:Int)+(r.Rows.length:Int))*8<=140737488355328/\(([]:List Int).length:Int)+(r.Rows.length:Int)<=9223372036854775807;rw[aF h,aF h];rfl;unfold grd;rw[an h,an h];rfl
theorem VO:pP=np:=by
 funext r i k;rw[NK,oB]
theorem Bp:pQ=jD:=by
 funext r i k;unfold pQ jD;simp only[My,p5,BM,jS,uc]
theorem Ge:su=j6:=by
 funext n;unfold su j6;simp only[jS,uc]
theorem xr {r:au}(h:r.Rows.length<=1048576):nq r=some r:=by
 unfold nq;rw[aF (by simp only[Dyz];constructor<;>omega)]
theorem Lf {r:au}(h:r.Rows.length<=1048576)(i k:Int):∃ x,jD r i k=some x/\x.Rows.length=r.Rows.length:=by
 unfold jD;simp only[xr h,p5,jS,aj,decide_eq_true_eq];by_cases hv:aI r;have hv1:=hv.1;have hv2:=hv.2.1;have hv3:=hv.2.2.1;rw[ao hv,aF (by constructor<;>omega)];simp only[aj,Dzz,if_true,if_false,decide_eq_true_eq];by_cases hi:0<=i/\i<=r.N-1;rw[ao hi,aF (by constructor<;>omega)];simp only[aj,Dzz,if_true,if_false,decide_eq_true_eq];by_cases hk:0<=k/\k<=r.N-1;obtain⟨x,hx⟩:∃ x,r.Rows[i.toNat]?=some x:=⟨_,Cmz (by omega)⟩
 have hrow:=hv.row (i:=i) hi hx;rw[ao hk,aF hi.1,hx,aj,aF hk.1,aF ⟨hk.1,by omega⟩,aF ⟨hrow.2.1,Doz _⟩];exact⟨_,rfl,by simp⟩;rw[an hk];exact⟨_,rfl,rfl⟩;rw[an hi];simp only[aj,Dzz,if_true,if_false,decide_eq_true_eq];exact⟨_,rfl,rfl⟩;rw[an hv];simp only[aj,Dzz,if_true,if_false,decide_eq_true_eq];exact⟨_,rfl,rfl⟩
theorem Xk (n:Nat):∃ x,j6 (n:Int)=some x/\x.Rows.length<=16:=by
 unfold j6;simp only[jS,aj,decide_eq_true_eq];by_cases h:0<=(n:Int)/\(n:Int)<=16;rw[ao h,aF (by refine⟨by omega,by omega,by omega⟩)];exact⟨_,rfl,by simp;omega⟩;rw[an h];exact⟨_,rfl,by simp⟩
theorem qU {r:au}(h:r.Rows.length<=1048576)(i k:Int):jD r i k=some (ca r i k):=by
 unfold jD;simp only[xr h,p5,jS,aj,decide_eq_true_eq];by_cases hv:aI r;have hv1:=hv.1;have hv2:=hv.2.1;have hv3:=hv.2.2.1;rw[ao hv,aF (by constructor<;>omega)];simp only[aj,Dzz,if_true,if_false,decide_eq_true_eq];by_cases hi:0<=i/\i<=r.N-1;rw[ao hi,aF (by constructor<;>omega)];simp only[aj,Dzz,if_true,if_false,decide_eq_true_eq];by_cases hk:0<=k/\k<=r.N-1;obtain⟨x,hx⟩:∃ x,r.Rows[i.toNat]?=some x:=⟨_,Cmz (by omega)⟩
 have hrow:=hv.row (i:=i) hi hx;rw[ao hk,aF hi.1,hx,aj,aF hk.1,aF ⟨hk.1,by omega⟩,aF ⟨hrow.2.1,Doz _⟩];have e:ca r i k=wR r i (iR (ij r i) ((2 ^ k.toNat:Nat):Int)):=ao ⟨hv,hi,hk⟩;rw[e,hrow.1];rfl;rw[an hk];have e:ca r i k=r:=an λh=>hk h.2.2;rw[e];rw[an hi];simp only[aj,Dzz,if_true,if_false,decide_eq_true_eq];have e:ca r i k=r:=an λh=>hi h.2.1;rw[e];rw[an hv];simp only[aj,Dzz,if_true,if_false,decide_eq_true_eq];have e:ca r i k=r:=an λh=>hv h.1;rw[e]
theorem tg {n:Int}(h0:0<=n)(U:n<=16):j6 n=some ⟨n,List.replicate n.toNat 0⟩:=by
 unfold j6;rw[jS,aj,ao (by simp;omega),aF (by omega)]
theorem lW (r:au)(i k:Int):(ca r i k).Rows.length=r.Rows.length/\(ca r i k).N=r.N:=by
 unfold ca;split;exact⟨by simp[wR],rfl⟩;exact⟨rfl,rfl⟩
theorem Bo (x k:Int):bit x k↔x.toNat.testBit k.toNat=true:=by
 unfold bit;rw[Nat.testBit_eq_decide_div_mod_eq,Nat.shiftRight_eq_div_pow];simp[Nat.and_one_is_mod]
def nM (k:Nat)(s:List Int):List Int:=s.map λx=>if x.toNat.testBit k=true then iR x (s.getD k 0) else x
def iX (s:List Int):Nat->List Int
 | 0=>s
 | m+1=>nM m (iX s m)
def jK (n:Nat)(s:List Int):Prop:=s.length=n/\∀ x∈s,0<=x/\x.toNat<2 ^ n
theorem Xj (x y:Int):0<=iR x y:=by unfold iR;omega
theorem FF (x y:Int):(iR x y).toNat=x.toNat ||| y.toNat:=by unfold iR;omega
theorem JN {n:Nat}{s:List Int}(h:jK n s)(k:Nat):0<=s.getD k 0/\(s.getD k 0).toNat<2 ^ n:=by
 rw[Cwz];cases hk:s[k]? with
 | none=>simp;exact Nat.two_pow_pos n
 | some x=>exact h.2 x (Bvz hk)
theorem Le {n k:Nat}{s:List Int}(h:jK n s):jK n (nM k s):=by
 refine⟨by unfold nM;rw[bh];exact h.1,λx hx=>?_⟩;unfold nM at hx;obtain⟨y,hy,rfl⟩:=List.mem_map.1 hx;have U:=h.2 y hy;split;exact⟨Xj _ _,by rw[FF];exact Nat.or_lt_two_pow U.2 (JN h k).2⟩;exact U
theorem jU {n:Nat}{s:List Int}(h:jK n s):∀ m,jK n (iX s m)
 | 0=>h
 | m+1=>Le (jU h m)
def Rl (s:List Int)(i j:Nat):Prop:=(s.getD i 0).toNat.testBit j=true
theorem wQ {n k:Nat}{s:List Int}(h:jK n s){i:Nat}(hi:i<n)(j:Nat):Rl (nM k s) i j↔Rl s i j∨(Rl s i k/\Rl s k j):=by
 unfold Rl;have hs:∃ x,s[i]?=some x:=⟨_,Cmz (by rw[h.1];exact hi)⟩
 obtain⟨x,hx⟩:=hs;have e1:s.getD i 0=x:=by rw[Cwz,hx];rfl
 have e2:(nM k s).getD i 0=if x.toNat.testBit k=true then iR x (s.getD k 0) else x:=by
  unfold nM;rw[Cwz,Czz,hx];rfl
 rw[e1,e2];by_cases Y:x.toNat.testBit k=true;rw[ao Y,FF,Nat.testBit_or,Bool.or_eq_true];simp[Y];rw[an Y];simp[Y]
theorem HP {n:Nat}{s:List Int}(h:jK n s){i j:Nat}(hR:Rl s i j):j<n:=by
 unfold Rl at hR;have U:=(JN h i).2;apply Decidable.byContradiction;intro hj;have:(s.getD i 0).toNat.testBit j=false:=Nat.testBit_lt_two_pow (Nat.lt_of_lt_of_le U (Eaz (by omega) (by omega)));rw[this] at hR;cases hR
theorem qT {n:Nat}{s:List Int}(h:jK n s){i j:Nat}(hR:Rl s i j):i<n:=by
 unfold Rl at hR;apply Decidable.byContradiction;intro hi;have:s.getD i 0=0:=by rw[Cwz,Avz (by rw[h.1];omega)];rfl
 rw[this] at hR;simp at hR
theorem JM {n:Nat}{s:List Int}(h:jK n s):∀ (m i j:Nat),Rl s i j->Rl (iX s m) i j
 | 0,_,_,hR=>hR
 | m+1,i,j,hR=>by
  have hR':=JM h m i j hR;exact (wQ (jU h m) (qT (jU h m) hR') j).2 (.inl hR')
theorem VN {n:Nat}{s:List Int}(h:jK n s):∀ (m k i j:Nat),k<m->m<=n->Rl (iX s m) i k->Rl (iX s m) k j->Rl (iX s m) i j:=by
 intro m
 induction m with
 | zero=>intro k i j hk;omega
 | succ m ih=>
  intro k i j hk hm U K;have hok:=jU h m;have hik:=qT (jU h (m+1)) U;have hkj:=qT (jU h (m+1)) K;have s1:=(wQ (k:=m) hok hik k).1 U;have s2:=(wQ (k:=m) hok hkj j).1 K;refine (wQ (k:=m) hok hik j).2 ?_;by_cases hkm:k=m;subst hkm;have t1:Rl (iX s k) i k:=by rcases s1 with h|h;exact h;exact h.1
  have t2:Rl (iX s k) k j:=by rcases s2 with h|h;exact h;exact h.2
  exact .inr ⟨t1,t2⟩;have hk' : k<m:=by omega
  rcases s1 with a|⟨W,a2⟩<;>rcases s2 with b|⟨b1,b2⟩
  exact .inl (ih k i j hk' (by omega) a b);exact .inr ⟨ih k i m hk' (by omega) a b1,b2⟩;exact .inr ⟨W,ih k m j hk' (by omega) a2 b⟩;exact .inr ⟨W,b2⟩
theorem Ld {n k:Nat}{s:List Int}(h:jK n s)(hk:k<n)(hn:n<=16):eachN (vD k) 0 n s=some (nM k s):=by
 have hkk:∃ y,s[k]?=some y:=⟨_,Cmz (by rw[h.1];exact hk)⟩
 obtain⟨y,hy⟩:=hkk;have ey:s.getD k 0=y:=by rw[Cwz,hy];rfl
 let f:Int->Int:=λx=>if x.toNat.testBit k=true then iR x y else x
 have hf:f y=y:=by
  show (if y.toNat.testBit k=true then iR y y else y)=y;have:=(h.2 y (Bvz hy)).1;split;unfold iR;rw[Nat.or_self];omega;rfl
 obtain⟨s',U,K⟩:=rv (P:=λm t=>t=(s.take m).map f++s.drop m) (f:=vD k) (n:=n) (i:=0) (s:=s) (by simp) (λm t _ hm ht=>by
  subst ht;have hms:m<s.length:=by rw[h.1];omega
  obtain⟨x,hx⟩:∃ x,s[m]?=some x:=⟨_,Cmz hms⟩
  have hx0:=h.2 x (Bvz hx);have hy0:=h.2 y (Bvz hy);have g1:((s.take m).map f++s.drop m)[m]?=some x:=by
   rw[Auz (by simp;omega)];simp only[bh,Brz];rw[show m-min m s.length=0 by omega,Baz,Nat.add_zero,hx]
  have g2:((s.take m).map f++s.drop m)[k]?=some y:=by
   by_cases hkm:k<m;rw[List.getElem?_append_left (by simp;omega),Czz,List.getElem?_take,ao hkm,hy];show some (f y)=_;rw[hf];rw[Auz (by simp;omega)];simp only[bh,Brz];rw[Baz,show m+(k-min m s.length)=k by omega,hy]
  have hset:(((s.take m).map f++s.drop m).set m (f x))=(s.take (m+1)).map f++s.drop (m+1):=by
   rw[List.set_append_right _ _ (by simp;omega)];simp only[bh,Brz];rw[show m-min m s.length=0 by omega,Dvz,hx,List.map_append,List.append_assoc];congr 1;rw[List.drop_eq_getElem_cons hms];rfl
  have hno:f x=x->((s.take m).map f++s.drop m)=(s.take (m+1)).map f++s.drop (m+1):=λe=>by
   rw[← hset,e];apply List.ext_getElem?;intro q;rw[List.getElem?_set];by_cases hq:m=q;subst hq;rw[ao rfl,g1];split;rfl;rename_i hl;exact absurd (by simp;omega) hl;rw[an hq]
  refine⟨_,?_,rfl⟩;unfold vD;rw[g1,aj,aF (by refine⟨hx0.1,by omega,by omega⟩),aF ⟨Doz _,by decide⟩];by_cases Y:bit x (k:Int);have hb':=(Bo x k).1 Y;rw[b7] at hb';rw[ao (I5 Y),g2,aj,aF ⟨hx0.1,hy0.1⟩,aj,← hset];show some (List.set _ m (iR x y))=some (List.set _ m (f x));have:f x=iR x y:=ao hb';rw[this];have hb' : ¬ x.toNat.testBit k=true:=λh=>Y ((Bo x k).2 (by rw[b7];exact h));rw[an (λh=>Y (I6 h)),aj,← hno (an hb')])
 rw[U];subst K;unfold nM;rw[Adz,List.take_of_length_le (by rw[h.1];exact Acz _),List.drop_eq_nil_of_le (by rw[h.1];exact Acz _),List.append_nil,ey]
theorem l6 {r:au}(h:aI r):jK r.N.toNat r.Rows/\r.N.toNat<=16:=by
 obtain⟨h0,U,K,h3⟩:=h;have:=Lh r.N;exact⟨⟨by omega,λx hx=>⟨(h3 x hx).1,by have:=(h3 x hx).2;omega⟩⟩,by omega⟩
def fe (r:au):au:=if aI r then ⟨r.N,iX r.Rows r.N.toNat⟩ else r
theorem TE:HB=vD:=rfl
theorem Ww {r:au}(h:r.Rows.length<=1048576):vI r=some (fe r):=by
 unfold vI fe;rw[xr h,aj,p5,aj];by_cases hv:aI r;rw[ao (by simpa using hv),ao hv];obtain⟨hok,hn⟩:=l6 hv;obtain⟨t,U,K⟩:=rv (P:=λm t=>t=iX r.Rows m) (f:=CS r) (n:=r.N.toNat) (i:=0) (s:=r.Rows) rfl (λk s _ hk hs=>by
  subst hs;refine⟨_,?_,rfl⟩;unfold CS;rw[Ld (jU hok k) (by omega) hn];rfl)
 rw[U,aj,K,Adz];rw[an (by simpa using hv),an hv]
theorem Wv {r:au}(h:r.Rows.length<=1048576):vG r=some (fe r):=by
 unfold vG fe;rw[My,xr h,aj,BM,aj];by_cases hv:aI r;rw[ao (by simpa using hv),ao hv];obtain⟨hok,hn⟩:=l6 hv;obtain⟨t,U,K⟩:=rv (P:=λm t=>t=iX r.Rows m) (f:=CQ) (n:=r.Rows.length) (i:=0) (s:=r.Rows) rfl (λk s _ hk hs=>by
  subst hs;refine⟨_,?_,rfl⟩;unfold CQ;have hl:=(jU hok k).1;rw[hl,TE,Ld (jU hok k) (by rw[hok.1] at hk;omega) hn];rfl)
 rw[U,aj,K,Adz,hok.1];rw[an (by simpa using hv),an hv]
theorem Gd (r:au):(fe r).Rows.length=r.Rows.length/\(fe r).N=r.N:=by
 unfold fe;by_cases hv:aI r;rw[ao hv];obtain⟨hok,_⟩:=l6 hv;exact⟨by show (iX r.Rows r.N.toNat).length=_;rw[(jU hok _).1,hok.1],rfl⟩;rw[an hv];exact⟨rfl,rfl⟩
theorem B7 {r:au}(h:aI r):aI (fe r):=by
 obtain⟨hok,hn⟩:=l6 h;obtain⟨k1,k2⟩:=jU hok r.N.toNat
 obtain⟨h0,U,K,h3⟩:=h;unfold fe;rw[ao ⟨h0,U,K,h3⟩];refine⟨h0,U,by show ((iX r.Rows r.N.toNat).length:Int)=r.N;omega,λx hx=>?_⟩;have:=k2 x hx;have:=Lh r.N;exact⟨(k2 x hx).1,by show x<=((2 ^ r.N.toNat:Nat):Int)-1;omega⟩
theorem wP {r:au}(h:aI r)(i j:Nat):bG r (i:Int) (j:Int)↔Rl r.Rows i j:=by
 obtain⟨hok,hn⟩:=l6 h;unfold bG;have h0:=h.1;constructor;rintro⟨_,_,_,Y⟩;have:=(Bo _ _).1 Y;simpa[Rl,ij] using this;intro hR;have hi:=qT hok hR;have hj:=HP hok hR;refine⟨h,⟨by omega,by omega⟩,⟨by omega,by omega⟩,(Bo _ _).2 ?_⟩;simpa[Rl,ij] using hR
theorem Y9 {o:aL}(h:lE o):∃ r z,pR o=some (r,z)/\r.Rows.length<=17/\-1<=r.N/\r.N<=17/\lE z/\z.b=o.b:=by
 obtain⟨n,z1,U,K,h3,h3'⟩:=B8 h (l:=[0,1,2,3,4,5,8,16]) (by simp);have hn:0<=n/\n<=16:=by simp at K;omega
 obtain⟨y3,z2,W,a2,a3,_,a4,_⟩:=rI (o:=⟨o.b,z1.i,z1.h⟩) ⟨h3.1,h.2⟩ (2*n+1);have hloop:=rv (P:=λ_ (s:Int×Int×List Int×Int)=>s.2.2.1.length=n.toNat/\0<=s.1/\s.2.2.2=n) (f:=B0 o n) (n:=y3.toNat) (i:=0) (s:=(z2.i,z2.h,List.replicate n.toNat 0,n)) ⟨by simp,a4.1,rfl⟩ (λk s _ _ hs=>by
  obtain⟨s2,s3,s1,s4⟩:=s;obtain⟨p1,p2,p3⟩:=hs;dsimp only at p1 p2 p3;subst p3;obtain⟨y4,z4,b1,b2,b3,_,b4,_⟩:=rI (o:=⟨o.b,s2,s3⟩) ⟨p2,h.2⟩ s4;obtain⟨y5,z5,c1,c2,c3,_,c4,_⟩:=rI (o:=⟨o.b,z4.i,z4.h⟩) ⟨b4.1,h.2⟩ s4;have hl:=lW ⟨s4,s1⟩ y4 y5;refine⟨(z5.i,z5.h,(ca ⟨s4,s1⟩ y4 y5).Rows,(ca ⟨s4,s1⟩ y4 y5).N),?_,hl.1.trans p1,c4.1,hl.2⟩;unfold B0;dsimp only;rw[b1,aj];dsimp only;rw[c1,aj];dsimp only;rw[qU (by show s1.length<=_;omega),aj])
 obtain⟨⟨s2,s3,s1,s4⟩,e1,p1,p2,p3⟩:=hloop;dsimp only at p1 p2 p3;subst p3;obtain⟨y7,z6,d1,d2,d3,_,d4,_⟩:=rI (o:=⟨o.b,s2,s3⟩) ⟨p2,h.2⟩ 16;unfold pR;rw[U,aj];dsimp only;rw[tg hn.1 hn.2,aj,aF (by constructor<;>omega),aF (by constructor<;>omega),W,aj];dsimp only;rw[e1,aj];dsimp only;rw[d1,aj];dsimp only;by_cases g0:y7=0;rw[ao g0,aF (by constructor<;>omega)];exact⟨_,_,rfl,by show s1.length<=17;omega,by show -1<=s4+1;omega,by show s4+1<=17;omega,⟨d4.1,h.2⟩,rfl⟩;rw[an g0];by_cases g1:y7=1;rw[ao g1,aF (by constructor<;>omega)];exact⟨_,_,rfl,by show (s1++[0]).length<=17;simp;omega,by show -1<=s4;omega,by show s4<=17;omega,⟨d4.1,h.2⟩,rfl⟩;rw[an g1];by_cases g2:y7=2;rw[ao g2];by_cases g3:0<s4;obtain⟨y8,z7,f1,f2,f3,_⟩:=B8 (o:=⟨o.b,z6.i,z6.h⟩) ⟨d4.1,h.2⟩ (l:=[-1,65536,1099511627776]) (by simp);obtain⟨x,hx⟩:∃ x,s1[0]?=some x:=⟨_,Cmz (by omega)⟩
 rw[ao g3,f1,aj];dsimp only;rw[hx,aj];exact⟨_,_,rfl,by show (List.set s1 0 y8).length<=17;simp;omega,by show -1<=s4;omega,by show s4<=17;omega,⟨f3.1,h.2⟩,rfl⟩;rw[an g3];exact⟨_,_,rfl,by show s1.length<=17;omega,by show -1<=s4;omega,by show s4<=17;omega,⟨d4.1,h.2⟩,rfl⟩;rw[an g2];exact⟨_,_,rfl,by show s1.length<=17;omega,by show -1<=s4;omega,by show s4<=17;omega,⟨d4.1,h.2⟩,rfl⟩
section
variable {b:List UInt8}{o:aL}(Y:b.length<=1048576)
include Y
end
end Go.Proofs.YtodhafdaelcnlaaGreat
