/- What those partial functions come to: plain lemmas on data; each bears its conditions in its statement. -/
import Derived.Test.YtgkepiefcpfimaaGreatDoorMath1
set_option linter.unusedVariables false
set_option linter.unusedSimpArgs false
set_option linter.ambiguousOpen false
set_option linter.unusedSectionVars false
set_option linter.unnecessarySimpa false
open List renaming getElem?_eq_getElem→Cmz,mem_of_getElem?→Bvz,getElem?_eq_none→Avz,take_add_one→Dvz,mem_append→Ciz,mem_singleton→Bpz,length_append→Axz,length_nil→Dxz,mem_cons→Dsz,not_mem_nil→Daz,getD_eq_getElem?_getD→Cwz,getElem?_map→Czz,getElem?_append_right→Auz,length_take→Brz,getElem?_drop→Baz
open Bool renaming not_eq_true'→Bdz,false_eq_true→Dyz
open Nat renaming le_refl→Acz,zero_le→Aez,le_trans→Bgz,pow_le_pow_right→Dzz,zero_add→Adz
open Int renaming natCast_nonneg→Dpz
namespace Go.Proofs.YtgkepiefcpfimaaGreatDoor
open Go Go.E
theorem j2i {x m:Int}(h0:0≤m)(h1:m<9223372036854775808):0≤z9x x m∧z9x x m≤m:=by
 unfold z9x
 have h2:(BitVec.ofInt 64 m).toNat=m.toNat:=by
  rw[BitVec.toNat_ofInt]
  have:m % ((2 ^ 64:Nat):Int)=m:=Int.emod_eq_of_lt h0 (by omega)
  rw[this]
 have h3:(BitVec.ofInt 64 x &&& BitVec.ofInt 64 m).toNat≤m.toNat:=by
  rw[BitVec.toNat_and,h2];exact Nat.and_le_right
 rw[IntWalk.i64_in _ (by omega)]
 omega
def j6w (o:L1_):Prop:=0≤o.i∧o.b.length≤1048576
theorem k5Q {a:List UInt8}(h:a.length≤1048576):∃ o,z8o a=some o∧j6w o∧o.b=a:=by
 have key:∀ (m j:Nat) (s:Int),j+m=a.length→∃ q,q4D (z5J a) (s,(j:Int))=some q:=by
  intro m
  induction m with
  | zero=>
   intro j s hj
   exact⟨s,q3Q (by unfold z5J;dsimp only;rw[ifN (by omega)])⟩
  | succ m ih=>
   intro j s hj
   by_cases hlt:(j:Int)<4000
   ·obtain⟨x,hx⟩:∃ x,a[j]?=some x:=⟨_,Cmz (by omega)⟩
    obtain⟨q,hq⟩:=ih (j+1) (z9x (IntKind.i64.wrap ((IntKind.i64.wrap ((IntKind.i64.wrap (s*131))+(x.toNat:Int)))+7)) 1073741823) (by omega)
    refine⟨q,(q4a ?_).trans hq⟩
    have hw:IntKind.i64.wrap ((j:Int)+1)=((j+1:Nat):Int):=by rw[IntWalk.i64_in _ (by omega)];rfl
    unfold z5J
    dsimp only
    rw[ifP (by omega),ifP hlt,q3P (by omega),tnC,hx,bsS,hw]
   ·exact⟨s,q3Q (by unfold z5J;dsimp only;rw[ifP (by omega),ifN hlt])⟩
 obtain⟨q,hq⟩:=key a.length 0 (IntKind.i64.wrap (26583+(a.length:Int))) (by omega)
 have hq' : q4D (z5J a) ((IntKind.i64.wrap (26583+(a.length:Int))),0)=some q:=hq
 refine⟨⟨a,0,q⟩,?_,⟨Int.le_refl _,h⟩,rfl⟩
 unfold z8o
 rw[hq',bsS]
theorem z7Z {o:L1_}(h:j6w o):∃ y z,z1J o=some (y,z)∧0≤y∧y≤255∧j6w z∧z.b=o.b:=by
 obtain⟨h0,h1⟩:=h
 unfold z1J
 by_cases hi:o.i<(o.b.length:Int)
 ·obtain⟨x,hx⟩:∃ x,o.b[o.i.toNat]?=some x:=⟨_,Cmz (by omega)⟩
  rw[ifP hi,q3P h0,hx,bsS]
  refine⟨_,_,rfl,(j2i (by omega) (by omega)).1,(j2i (by omega) (by omega)).2,⟨?_,h1⟩,rfl⟩
  show 0≤IntKind.i64.wrap (o.i+1)
  rw[IntWalk.i64_in _ (by omega)];omega
 ·rw[ifN hi]
  exact⟨_,_,rfl,(j2i (by omega) (by omega)).1,(j2i (by omega) (by omega)).2,⟨h0,h1⟩,rfl⟩
theorem k3z {y n:Int}(hy:0≤y)(hn:0<n):0≤y.tmod n∧y.tmod n<n:=by
 rw[Int.tmod_eq_emod_of_nonneg hy]
 exact⟨Int.emod_nonneg _ (by omega),Int.emod_lt_of_pos _ hn⟩
theorem j5j {o:L1_}(h:j6w o)(n:Int):∃ y z,q3R n o=some (y,z)∧0≤y∧(0<n→y<n)∧(n≤0→y=0)∧j6w z∧z.b=o.b:=by
 unfold q3R
 by_cases hn:n≤0
 ·rw[ifP hn];exact⟨0,o,rfl,Int.le_refl _,fun h=>absurd h (by omega),fun _=>rfl,h,rfl⟩
 ·rw[ifN hn]
  by_cases h2:n≤256
  ·obtain⟨y,z,h3,h4,h5,h6,h7⟩:=z7Z h
   rw[ifP h2,h3,bsS]
   dsimp only
   rw[q3P (by omega)]
   have:=k3z h4 (show 0<n by omega)
   exact⟨_,_,rfl,this.1,fun _=>this.2,fun h=>absurd h hn,⟨h6.1,h.2⟩,rfl⟩
  ·obtain⟨y1,z1,a1,a2,a3,a4,a5⟩:=z7Z h
   obtain⟨y2,z2,b1,b2,b3,b4,b5⟩:=z7Z (o:=⟨o.b,z1.i,z1.h⟩) ⟨a4.1,h.2⟩
   obtain⟨y3,z3,c1,c2,c3,c4,c5⟩:=z7Z (o:=⟨o.b,z2.i,z2.h⟩) ⟨b4.1,h.2⟩
   obtain⟨y4,z4,d1,d2,d3,d4,d5⟩:=z7Z (o:=⟨o.b,z3.i,z3.h⟩) ⟨c4.1,h.2⟩
   rw[ifN h2,a1,bsS]
   dsimp only
   rw[b1,bsS]
   dsimp only
   rw[c1,bsS]
   dsimp only
   rw[d1,bsS]
   dsimp only
   rw[q3P (by constructor<;>omega),q3P (by constructor<;>omega),q3P (by constructor<;>omega),q3P (by constructor<;>omega),q3P (by constructor<;>omega),q3P (by constructor<;>omega),q3P (by omega)]
   have:=k3z (y:=y1*16777216+y2*65536+y3*256+y4) (by omega) (show 0<n by omega)
   exact⟨_,_,rfl,this.1,fun _=>this.2,fun h=>absurd h hn,⟨d4.1,h.2⟩,rfl⟩
theorem j8b {o:L1_}(h:j6w o){l:List Int}(hl:l≠[]):∃ y z,q5J l o=some (y,z)∧y∈l∧j6w z∧z.b=o.b:=by
 have hpos:=List.length_pos_iff.2 hl
 obtain⟨y,z,h1,h2,h3,_,h5,h6⟩:=j5j h (l.length:Int)
 have:=h3 (by omega)
 obtain⟨x,hx⟩:∃ x,l[y.toNat]?=some x:=⟨_,Cmz (by omega)⟩
 unfold q5J
 rw[h1,bsS]
 dsimp only
 rw[q3P h2,hx,bsS]
 exact⟨_,_,rfl,Bvz hx,⟨h5.1,h.2⟩,rfl⟩
theorem k3A {ρ:Type}{g:Nat→Option ρ}(hm:∀ n r,g n=some r→g (n+1)=some r){n:Nat}{r:ρ}(h:g n=some r):recO g=some r:=by
 have up:∀ (k n:Nat) (r:ρ),g n=some r→g (n+k)=some r:=by
  intro k
  induction k with
  | zero=>intro n r h;exact h
  | succ k ih=>intro n r h;exact hm _ _ (ih n r h)
 refine z0K n fun m hm=>?_
 have h1:=up (m-n) n r h
 rwa[show n+(m-n)=m by omega] at h1
theorem j0Z {α σ:Type}{f g:Nat→α→σ→Option σ}(h:∀ k x s q,f k x s=some q→g k x s=some q):∀ (xs:List α) (i:Nat) (s q:σ),eachL f i xs s=some q→eachL g i xs s=some q
 | [],i,s,q,hq=>hq
 | x::xs,i,s,q,hq=>by
  simp only[eachL] at hq ⊢
  obtain⟨t,h1,h2⟩:=bd hq
  rw[h _ _ _ _ h1]
  exact j0Z h xs _ _ _ h2
theorem j8c (a b:Oc):z4H a b=some (z4s a b):=by
 unfold z4H z4s
 by_cases h1:a.Pos<b.Pos
 ·simp[h1]
 ·by_cases h2:a.Pos=b.Pos
  ·simp[h2]
  ·simp[h1,h2]
abbrev z8a (l:List Oc):Prop:=l.Pairwise fun a b=>z4s a b=true
theorem k5R {l:List Oc}{o:Oc}(hl:l.length≤4398046511104):∀ (m j:Nat),j+m=l.length→(∀ a∈l.take j,z4s a o=true) →
  ∃ k:Nat,q4D (z4I l o) (j:Int)=some ((k:Nat):Int)∧k≤l.length∧(∀ a∈l.take k,z4s a o=true)∧∀ y,l[k]?=some y→z4s y o=false:=by
 intro m
 induction m with
 | zero=>
  intro j hj ha
  refine⟨j,q3Q ?_,by omega,ha,fun y hy=>?_⟩
  ·unfold z4I;rw[ifN (by omega)]
  ·rw[Avz (by omega)] at hy;cases hy
 | succ m ih=>
  intro j hj ha
  obtain⟨x,hx⟩:∃ x,l[j]?=some x:=⟨_,Cmz (by omega)⟩
  cases hb:z4s x o with
  | false=>
   refine⟨j,q3Q ?_,by omega,ha,fun y hy=>?_⟩
   ·unfold z4I
    rw[ifP (by omega),q3P (by omega)]
    simp only[tnC]
    rw[hx,bsS,j8c,bsS,ifN (by rw[hb];simp)]
   ·rw[hx] at hy;cases hy;exact hb
  | true=>
   have e:z4I l o (j:Int)=some (.inl ((j+1:Nat):Int)):=by
    unfold z4I
    rw[ifP (by omega),q3P (by omega)]
    simp only[tnC]
    rw[hx,bsS,j8c,bsS,ifP hb,q3P (by constructor<;>omega)];rfl
   rw[q4a e]
   refine ih (j+1) (by omega) fun a h=>?_
   rw[Dvz,hx] at h
   rcases List.mem_append.1 h with h|h
   ·exact ha a h
   ·simp at h;rw[h];exact hb
theorem k3B {l:List Oc}{o:Oc}(hl:l.length<4398046511104)(hs:z8a l):∃ q,z9V l o=some q∧z8a q∧(∀ a,a∈q↔a=o∨a∈l)∧q.length≤l.length+1:=by
 obtain⟨k,h1,h2,h3,h4⟩:=k5R (l:=l) (o:=o) (by omega) l.length 0 (by omega) (by simp)
 have h1' : q4D (z4I l o) 0=some ((k:Nat):Int):=h1
 have hput:∀ (hne:∀ y,l[k]?=some y→y≠o),z8a (l.take k++[o]++l.drop k)∧(∀ a,a∈l.take k++[o]++l.drop k↔a=o∨a∈l)∧(l.take k++[o]++l.drop k).length≤l.length+1:=fun hne=>by
  refine⟨?_,fun a=>?_,by simp;omega⟩
  ·have:=k1P (lt:=z4s) lessO_swo.trans z8V (k:=k) hs h3 fun y hy=>⟨h4 y hy,hne y hy⟩
   simpa using this
  ·have:a∈l↔a∈l.take k∨a∈l.drop k:=by rw[← Ciz,List.take_append_drop]
   rw[this]
   simp only[Ciz,Bpz]
   constructor
   ·rintro ((h|h)|h)<;>simp[h]
   ·rintro (h|h|h)<;>simp[h]
 unfold z9V
 rw[h1',bsS]
 by_cases hk:k<l.length
 ·obtain⟨x,hx⟩:∃ x,l[k]?=some x:=⟨_,Cmz hk⟩
  rw[ifP (by omega),q3P (by omega)]
  simp only[tnC]
  rw[hx,bsS]
  by_cases hxo:x=o
  ·rw[ifP hxo]
   refine⟨l,rfl,hs,fun a=>?_,by omega⟩
   have:=Bvz hx
   constructor
   ·exact .inr
   ·rintro (h|h)
    ·rw[h,← hxo];exact this
    ·exact h
  ·rw[ifN hxo,q3P (by omega),q3P (by omega),q3P (by simp;omega),q3P (by simp;omega),q3P (by omega),q3P (by omega),q3P (by simp;omega)]
   exact⟨_,rfl,hput fun y hy=>by rw[hx] at hy;cases hy;exact hxo⟩
 ·rw[ifN (by omega)]
  simp only[tnC]
  rw[q3P (by omega),q3P (by omega),q3P (by simp;omega),q3P (by simp;omega),q3P (by omega),q3P (by omega),q3P (by simp;omega)]
  exact⟨_,rfl,hput fun y hy=>by rw[Avz (by omega)] at hy;cases hy⟩
theorem k8f:∀ (n:Nat) (e:Expr) (l q:List Oc),q8I n e l=some q→q8I (n+1) e l=some q:=by
 intro n
 induction n with
 | zero=>intro e l q h;cases h
 | succ n ih=>
  intro e l q h
  have h' : z3w (q8I n) e l=some q:=h
  show z3w (q8I (n+1)) e l=some q
  have m1:∀ (xs:List Expr) (i:Nat) (s q:List Oc),eachL (z4k (q8I n)) i xs s=some q→eachL (z4k (q8I (n+1))) i xs s=some q:=j0Z fun k x s q hq=>by
   unfold z4k at hq ⊢
   obtain⟨y,h3,h4⟩:=bd hq
   rw[ih _ _ _ h3];exact h4
  unfold z3w at h' ⊢
  by_cases hk:e.Kind=3
  ·rw[ifP hk] at h' ⊢
   obtain⟨y,h1,h2⟩:=bd h'
   obtain⟨s,h3,h4⟩:=bd h2
   rw[h1,bsS,m1 _ _ _ _ h3];exact h4
  ·rw[ifN hk] at h' ⊢
   obtain⟨s,h3,h4⟩:=bd h'
   have m2:eachL (j0I (q8I (n+1))) 0 e.Args l=some s:=m1 _ _ _ _ h3
   rw[m2];exact h4
theorem k1V:∀ (m:Nat) (e:Expr) (l:List Oc),fuE e≤m→z8a l→l.length+(z6M e).length≤1099511627776 →
  ∃ q,q8I m e l=some q∧z8a q∧(∀ a,a∈q↔a∈l∨a∈z6M e)∧q.length≤l.length+(z6M e).length:=by
 intro m
 induction m with
 | zero=>intro e l h;rw[j1B] at h;omega
 | succ m ih=>
  intro e l h hs hb
  rw[j1B] at h
  rw[z6N,Axz] at hb
  have hl:∀ (xs:List Expr) (i:Nat) (s:List Oc),fuEs xs≤m→z8a s→s.length+(z2l xs).length≤1099511627776 →
    ∃ q,eachL (z4k (q8I m)) i xs s=some q∧z8a q∧(∀ a,a∈q↔a∈s∨a∈z2l xs)∧q.length≤s.length+(z2l xs).length:=by
   intro xs
   induction xs with
   | nil=>intro i s _ hs _;exact⟨s,rfl,hs,by simp[z2l],by omega⟩
   | cons x xs ihl=>
    intro i s hf hs hb
    simp only[fuEs] at hf
    simp only[z2l,Axz] at hb
    obtain⟨q,h1,h2,h3,h4⟩:=ih x s (by omega) hs (by omega)
    obtain⟨q2,k1,k2,k3,k4⟩:=ihl (i+1) q (by omega) h2 (by omega)
    refine⟨q2,?_,k2,fun a=>?_,by simp only[z2l,Axz];omega⟩
    ·simp only[eachL,z4k,h1,bsS];exact k1
    ·rw[k3,h3,z2l,Ciz,or_assoc]
  show ∃ q,z3w (q8I m) e l=some q∧_
  unfold z3w
  by_cases hk:e.Kind=3
  ·rw[ifP hk] at hb ⊢
   simp only[lnC,Dxz] at hb
   obtain⟨y,h1,h2,h3,h4⟩:=k3B (l:=l) (o:=⟨e.Pos,e.Name⟩) (by omega) hs
   obtain⟨q,k1,k2,k3,k4⟩:=hl e.Args 0 y (by omega) h2 (by omega)
   refine⟨q,?_,k2,fun a=>?_,?_⟩
   ·rw[h1,bsS,k1];rfl
   ·rw[k3,h3,z6N,ifP hk,Ciz,Bpz]
    constructor
    ·rintro ((h|h)|h)<;>simp[h]
    ·rintro (h|h|h)<;>simp[h]
   ·rw[z6N,ifP hk];simp;omega
  ·rw[ifN hk] at hb ⊢
   simp only[Dxz] at hb
   obtain⟨q,k1,k2,k3,k4⟩:=hl e.Args 0 l (by omega) hs (by omega)
   have k1' : eachL (j0I (q8I m)) 0 e.Args l=some q:=k1
   refine⟨q,?_,k2,fun a=>?_,?_⟩
   ·rw[k1'];rfl
   ·rw[k3,z6N,ifN hk];simp
   ·rw[z6N,ifN hk];simpa using k4
theorem j8d (e:Expr):z8a (attrs e):=by
 refine z7X lessO_swo.trans z8V ?_
 have h:=List.pairwise_mergeSort (le:=fun x y=>!z4s y x) (fun a b c h1 h2=>by
  simp only[Bdz] at h1 h2 ⊢
  exact lessO_swo.ntrans _ _ _ h2 h1) (fun a b=>by
  cases h:z4s a b with
  | false=>simp[h]
  | true=>
   cases h2:z4s b a with
   | false=>simp
   | true=>have:=lessO_swo.trans _ _ _ h h2;rw[lessO_swo.irrefl] at this;cases this) (z6M e)
 unfold j7y
 exact h.imp fun {a b} h=>by simpa using h
theorem j6x {e:Expr}(h:Sz.szd e≤1048576):q6O e=some (attrs e):=by
 have hl:=k3l h
 obtain⟨q,h1,h2,h3,h4⟩:=k1V _ e [] (Acz _) List.Pairwise.nil (by simp;omega)
 have hq:q=attrs e:=j5f (lt:=z4s) lessO_swo.irrefl lessO_swo.trans h2 (j8d e) fun a=>by rw[h3,k3m];simp
 subst hq
 have hr:j2Z e []=some (attrs e):=k3A (fun n q=>k8f n e [] q) h1
 unfold q6O
 rw[hr];rfl
def Ok {ρ:Type}(Q:ρ→Prop)(o:Option ρ):Prop:=∃ r,o=some r∧Q r
section
variable {ρ τ σ α:Type}{Q:ρ→Prop}{R:τ→Prop}
theorem Ok.ret {r:ρ}(h:Q r):Ok Q (some r):=⟨r,rfl,h⟩
theorem Ok.bind {o:Option ρ}{f:ρ→Option τ}(h:Ok Q o)(hf:∀ r,Q r→Ok R (f r)):Ok R (o.bind f):=by
 obtain⟨r,rfl,hr⟩:=h;exact hf r hr
theorem Ok.grd {c:Prop}[Decidable c]{k:Option τ}(hc:c)(h:Ok R k):Ok R (Go.E.grd c k):=by rw[q3P hc];exact h
theorem Ok.ite {c:Prop}[Decidable c]{a b:Option τ}(h1:c→Ok R a)(h2:¬ c→Ok R b):Ok R (if c then a else b):=by
 by_cases hc:c
 ·rw[ifP hc];exact h1 hc
 ·rw[ifN hc];exact h2 hc
theorem Ok.mono {Q' : ρ→Prop}{o:Option ρ}(h:Ok Q o)(hq:∀ r,Q r→Q' r):Ok Q' o:=by
 obtain⟨r,rfl,hr⟩:=h;exact⟨r,rfl,hq r hr⟩
theorem j6y {P:Nat→σ→Prop}{f:Nat→σ→Option σ}:∀ {n i:Nat} {s:σ},P i s→(∀ k s,i≤k→k<i+n→P k s→Ok (P (k+1)) (f k s))→Ok (P (i+n)) (eachN f i n s)
 | 0,i,s,h,_=>⟨s,rfl,h⟩
 | n+1,i,s,h,hf=>by
  rw[eachN]
  refine (hf i s (Acz _) (by omega) h).bind fun r hr=>?_
  have:=j6y (n:=n) hr fun k s h1 h2=>hf k s (by omega) (by omega)
  rwa[show i+1+n=i+(n+1) by omega] at this
theorem j6z {P:Nat→σ→Prop}{f:Nat→α→σ→Option σ}:∀ {xs:List α} {i:Nat} {s:σ},P i s→(∀ k x s,x∈xs→i≤k→k<i+xs.length→P k s→Ok (P (k+1)) (f k x s))→Ok (P (i+xs.length)) (eachL f i xs s)
 | [],i,s,h,_=>⟨s,rfl,h⟩
 | x::xs,i,s,h,hf=>by
  rw[eachL]
  refine (hf i x s (by simp) (Acz _) (by simp) h).bind fun r hr=>?_
  have:=j6z (xs:=xs) hr fun k y s hy h1 h2=>hf k y s (by simp[hy]) (by omega) (by simp;omega)
  rwa[show i+1+xs.length=i+(x::xs).length by simp;omega] at this
theorem k3C {g:Nat→Option ρ}{N:Nat}(h:∀ n,N≤n→g (n+1)=g n)(h2:Ok Q (g N)):Ok Q (recO g):=by
 obtain⟨r,h3,h4⟩:=h2
 have:∀ k,g (N+k)=some r:=by
  intro k
  induction k with
  | zero=>exact h3
  | succ k ih=>rw[← Nat.add_assoc,h _ (by omega),ih]
 exact⟨r,z0K N fun n hn=>by have:=this (n-N);rwa[show N+(n-N)=n by omega] at this,h4⟩
end
def CB (b:List UInt8)(z:L1_):Prop:=0≤z.i∧z.b=b
theorem CB.mk' {b:List UInt8}{o z:L1_}(h:CB b o)(hz:CB b z):CB b ⟨o.b,z.i,z.h⟩:=⟨hz.1,h.2⟩
def Dr {α:Type}(b:List UInt8)(P:α→Prop)(o:Option (α×L1_)):Prop:=Ok (fun r=>P r.1∧CB b r.2) o
theorem Dr.of {α:Type}{b:List UInt8}{P:α→Prop}{o:Option (α×L1_)}(hb:b.length≤1048576)(h:∃ y z,o=some (y,z)∧P y∧j6w z∧z.b=b):Dr b P o:=by
 obtain⟨y,z,e,h1,h2,h3⟩:=h
 exact⟨(y,z),e,h1,h2.1,h3⟩
theorem CB.ok {b:List UInt8}{z:L1_}(hb:b.length≤1048576)(h:CB b z):j6w z:=⟨h.1,by rw[h.2];exact hb⟩
section
variable {b:List UInt8}{o:L1_}(hb:b.length≤1048576)
include hb
theorem k9i:Ok (fun z=>CB b z) (z8o b):=by
 obtain⟨o,h1,h2,h3⟩:=k5Q hb
 exact⟨o,h1,h2.1,h3⟩
theorem q5d (n:Int)(h:CB b o):Dr b (fun y=>0≤y∧(0<n→y<n)∧(n≤0→y=0)) (q3R n o):=by
 obtain⟨y,z,h1,h2,h3,h4,h5,h6⟩:=j5j (h.ok hb) n
 exact⟨(y,z),h1,⟨h2,h3,h4⟩,h5.1,h6.trans h.2⟩
theorem z0Q (n:Int)(h:CB b o):Dr b (fun _=>True) (q5u n o):=by
 unfold q5u
 refine (q5d hb n h).bind ?_
 rintro⟨y,z⟩ ⟨_,hz⟩
 exact .ret ⟨trivial,h.mk' hz⟩
theorem z4W {l:List BA_}(hl:l≠[])(h:CB b o):Dr b (fun y=>y∈l) (q8c l o):=by
 have hpos:=List.length_pos_iff.2 hl
 unfold q8c
 refine (q5d hb _ h).bind ?_
 rintro⟨y,z⟩ ⟨⟨h1,h2,_⟩,hz⟩
 dsimp only at h1 h2 hz ⊢
 have:=h2 (by omega)
 obtain⟨x,hx⟩:∃ x,l[y.toNat]?=some x:=⟨_,Cmz (by omega)⟩
 rw[hx]
 exact .grd h1 (.ret ⟨Bvz hx,h.mk' hz⟩)
theorem z1C {l:List Int}(hl:l≠[])(h:CB b o):Dr b (fun y=>y∈l) (q5J l o):=by
 obtain⟨y,z,h1,h2,h3,h4⟩:=j8b (h.ok hb) hl
 exact⟨(y,z),h1,h2,h3.1,h4.trans h.2⟩
theorem j9B (h:CB b o):Dr b (fun y=>y.size=1) (z1L o):=by
 unfold z1L
 refine (z4W hb (by simp) h).bind ?_
 rintro⟨y,z⟩ ⟨h1,hz⟩
 refine .ret ⟨?_,h.mk' hz⟩
 simp only[Dsz,Daz,or_false] at h1
 rcases h1 with h1|h1|h1|h1|h1|h1|h1|h1<;>rw[h1]<;>rfl
theorem j5k (k n p t:Int)(s m:BA_):Sz.szd (⟨k,n,p,t,s,m,[]⟩:Expr)=s.size+m.size:=by rw[q7o];rfl
theorem k3D (k n p t:Int)(s m:BA_)(x y:Expr):Sz.szd (⟨k,n,p,t,s,m,[x,y]⟩:Expr)=s.size+m.size+(1+Sz.szd x+(1+Sz.szd y+0)):=by rw[q7o];rfl
theorem k6Z (k n p t:Int)(s m:BA_)(x:Expr):Sz.szd (⟨k,n,p,t,s,m,[x]⟩:Expr)=s.size+m.size+(1+Sz.szd x+0):=by rw[q7o];rfl
theorem k0F (k n p t:Int)(s m:BA_)(x y z:Expr):Sz.szd (⟨k,n,p,t,s,m,[x,y,z]⟩:Expr)=s.size+m.size+(1+Sz.szd x+(1+Sz.szd y+(1+Sz.szd z+0))):=by rw[q7o];rfl
theorem z4b:(⟨#[]⟩:BA_).size=0:=rfl
theorem j1a (k:Int){l:List Oc}(hl:∀ q∈l,q.Name.size≤8)(h:CB b o):Dr b (fun e=>Sz.szd e≤8) (q8E k l o):=by
 have bare:∀ {o:L1_},CB b o→∀ {R:Option (Expr×L1_)},R=(if k=4 then
   (q5u 3 o).bind fun (y10,z7)=>if y10=true then some ((⟨7,0,0,0,(⟨#[]⟩:BA_),(⟨#[]⟩:BA_),[]⟩:Expr),(⟨o.b,z7.i,z7.h⟩:L1_)) else some ((⟨6,0,0,0,(⟨#[]⟩:BA_),(⟨#[]⟩:BA_),[]⟩:Expr),(⟨o.b,z7.i,z7.h⟩:L1_))
  else if k=3 then (q3R 2 o).bind fun (y11,z8)=>(q8x y11 k).bind fun y12=>some (y12,(⟨o.b,z8.i,z8.h⟩:L1_))
  else if k=2 then (q3R 12 o).bind fun (y13,z9)=>grd (0≤y13) <| grd (0≤y13∧y13<63) <| (q8x ((2 ^ y13.toNat:Nat):Int) k).bind fun y14=>some (y14,(⟨o.b,z9.i,z9.h⟩:L1_))
  else (q3R 9 o).bind fun (y15,z10)=>(q8x y15 1).bind fun y16=>some (y16,(⟨o.b,z10.i,z10.h⟩:L1_)))→Dr b (fun e=>Sz.szd e≤8) R:=by
  rintro o h R rfl
  refine .ite (fun _=>?_) fun _=>.ite (fun _=>?_) fun _=>.ite (fun _=>?_) fun _=>?_
  ·refine (z0Q hb 3 h).bind ?_
   rintro⟨y,z⟩ ⟨_,hz⟩
   refine .ite (fun _=>.ret ⟨?_,h.mk' hz⟩) fun _=>.ret ⟨?_,h.mk' hz⟩
   ·exact Aez _
   ·exact Aez _
  ·refine (q5d hb 2 h).bind ?_
   rintro⟨y,z⟩ ⟨_,hz⟩
   refine .ret ⟨?_,h.mk' hz⟩
   exact Aez _
  ·refine (q5d hb 12 h).bind ?_
   rintro⟨y,z⟩ ⟨⟨h1,h2,_⟩,hz⟩
   have:=h2 (by omega)
   dsimp only at h1 this
   refine .grd h1 (.grd (by omega) (.ret ⟨?_,h.mk' hz⟩))
   exact Aez _
  ·refine (q5d hb 9 h).bind ?_
   rintro⟨y,z⟩ ⟨_,hz⟩
   refine .ret ⟨?_,h.mk' hz⟩
   exact Aez _
 unfold q8E
 refine .ite (fun hl0=>?_) fun _=>bare h rfl
 refine (z0Q hb 4 h).bind ?_
 rintro⟨y,z⟩ ⟨_,hz⟩
 have h':=h.mk' hz
 refine .ite (fun _=>?_) fun _=>?_
 ·exact bare h' rfl
 ·refine (q5d hb _ h').bind ?_
  rintro⟨y,z⟩ ⟨⟨h1,h2,_⟩,hz⟩
  have:=h2 (by omega)
  dsimp only at h1 this
  obtain⟨x,hx⟩:∃ x,l[y.toNat]?=some x:=⟨_,Cmz (by omega)⟩
  dsimp only
  rw[hx]
  refine .grd h1 (.ret ⟨?_,h.mk' hz⟩)
  dsimp only
  rw[j5k hb,z4b hb]
  have:=hl x (Bvz hx)
  omega
def fb (d:Nat):Nat:=20*4 ^ d
theorem j5l (d:Nat):20≤fb d:=by
 have:1≤4 ^ d:=Nat.one_le_pow _ _ (by omega)
 unfold fb;omega
theorem k3E (d:Nat):fb (d+1)=4*fb d:=by unfold fb;rw[Nat.pow_succ];omega
theorem z9o (h:CB b o){R:Option (Expr×L1_)}(hR:R=(
 (q5u 5 o).bind fun (y1,z1)=>
 if y1=true then (
 some ((⟨2,0,0,0,(⟨#[]⟩:BA_),(⟨#[]⟩:BA_),[]⟩:Expr),(⟨o.b,z1.i,z1.h⟩:L1_))
 ) else (
 (q5u 6 (⟨o.b,z1.i,z1.h⟩:L1_)).bind fun (y2,z2)=>
 if y2=true then (
 (q3R 4 (⟨o.b,z2.i,z2.h⟩:L1_)).bind fun (y3,z3)=>
 some ((⟨6,0,y3,0,(⟨#[]⟩:BA_),(⟨#[]⟩:BA_),[]⟩:Expr),(⟨o.b,z3.i,z3.h⟩:L1_))
 ) else (
 (q3R 4 (⟨o.b,z2.i,z2.h⟩:L1_)).bind fun (y4,z4)=>
 grd (I64 (1+y4)) <|
 (q3R 4 (⟨o.b,z4.i,z4.h⟩:L1_)).bind fun (y5,z5)=>
 (z1L (⟨o.b,z5.i,z5.h⟩:L1_)).bind fun (y6,z6)=>
 (q8E (1+y4) [(⟨y5,y6⟩:Oc)] (⟨o.b,z6.i,z6.h⟩:L1_)).bind fun (y7,z7)=>
 some (y7,(⟨o.b,z7.i,z7.h⟩:L1_))
 )
 ))):Dr b (fun e=>Sz.szd e≤20) R:=by
 subst hR
 refine (z0Q hb 5 h).bind ?_
 rintro⟨y1,z1⟩ ⟨_,h1⟩
 refine .ite (fun _=>.ret ⟨?_,h.mk' h1⟩) fun _=>?_
 ·exact Aez _
 refine (z0Q hb 6 (h.mk' h1)).bind ?_
 rintro⟨y2,z2⟩ ⟨_,h2⟩
 refine .ite (fun _=>?_) fun _=>?_
 ·refine (q5d hb 4 (h.mk' h2)).bind ?_
  rintro⟨y3,z3⟩ ⟨_,h3⟩
  refine .ret ⟨?_,h.mk' h3⟩
  exact Aez _
 ·refine (q5d hb 4 (h.mk' h2)).bind ?_
  rintro⟨y4,z4⟩ ⟨⟨a1,a2,_⟩,h4⟩
  have:=a2 (by omega)
  dsimp only at a1 this
  refine .grd (by constructor<;>omega) ?_
  refine (q5d hb 4 (h.mk' h4)).bind ?_
  rintro⟨y5,z5⟩ ⟨_,h5⟩
  refine (j9B hb (h.mk' h5)).bind ?_
  rintro⟨y6,z6⟩ ⟨hn,h6⟩
  refine (j1a hb _ (by simpa using (show y6.size≤8 by dsimp only at hn;omega)) (h.mk' h6)).bind ?_
  rintro⟨y7,z7⟩ ⟨hs,h7⟩
  exact .ret ⟨by have hs' : Sz.szd y7≤8:=hs;show Sz.szd y7≤20;omega,h.mk' h7⟩
theorem k8g:∀ (d:Nat) (m:Nat),d<m→∀ (a:Int) (o:L1_),a≤d+1→q7D (m+1) a o=q7D m a o:=by
 intro d
 induction d with
 | zero=>
  intro m hm a o ha
  obtain⟨m,rfl⟩:∃ q,m=q+1:=⟨m-1,by omega⟩
  show q8Y (q7D (m+1)) a o=q8Y (q7D m) a o
  unfold q8Y
  rw[ifP (by omega),ifP (by omega)]
 | succ d ih=>
  intro m hm a o ha
  obtain⟨m,rfl⟩:∃ q,m=q+1:=⟨m-1,by omega⟩
  have e:q7D (m+1) (a-1)=q7D m (a-1):=funext fun o=>ih m (by omega) (a-1) o (by omega)
  show q8Y (q7D (m+1)) a o=q8Y (q7D m) a o
  unfold q8Y
  rw[e]
theorem k5S:∀ (d:Nat) (m:Nat),d<m→∀ (a:Int) (o:L1_),a≤d+1→-1000000≤a→d≤100000→CB b o→Dr b (fun e=>Sz.szd e≤fb d) (q7D m a o):=by
 intro d
 induction d with
 | zero=>
  intro m hm a o ha _ _ h
  obtain⟨m,rfl⟩:∃ q,m=q+1:=⟨m-1,by omega⟩
  show Dr b _ (q8Y (q7D m) a o)
  unfold q8Y
  rw[ifP (by omega)]
  exact (z9o hb h rfl).mono fun r hr=>⟨Bgz hr.1 (j5l hb 0),hr.2⟩
 | succ d ih=>
  intro m hm a o ha h0 hd h
  obtain⟨m,rfl⟩:∃ q,m=q+1:=⟨m-1,by omega⟩
  have hf:=j5l hb d
  have hs:=k3E hb d
  show Dr b _ (q8Y (q7D m) a o)
  unfold q8Y
  by_cases ha2:a<2
  ·rw[ifP ha2];exact (z9o hb h rfl).mono fun r hr=>⟨Bgz hr.1 (j5l hb _),hr.2⟩
  rw[ifN ha2]
  have ih' : ∀ {o:L1_},CB b o→Dr b (fun e=>Sz.szd e≤fb d) (q7D m (a-1) o):=fun h=>ih m (by omega) (a-1) _ (by omega) (by omega) (by omega) h
  have hg:I64 (a-1):=by constructor<;>omega
  refine (z0Q hb 4 h).bind ?_
  rintro⟨y8,z8⟩ ⟨_,h8⟩
  refine .ite (fun _=>(z9o hb (h.mk' h8) rfl).mono fun r hr=>⟨Bgz hr.1 (j5l hb _),hr.2⟩) fun _=>?_
  refine (q5d hb 5 (h.mk' h8)).bind ?_
  rintro⟨y16,z16⟩ ⟨_,h16⟩
  refine .ite (fun _=>?_) fun _=>.ite (fun _=>?_) fun _=>?_
  ·refine .grd hg ((ih' (h.mk' h16)).bind ?_)
   rintro⟨e1,z1⟩ ⟨s1,h1⟩
   refine .grd hg ((ih' (h.mk' h1)).bind ?_)
   rintro⟨e2,z2⟩ ⟨s2,h2⟩
   refine .grd hg ((ih' (h.mk' h2)).bind ?_)
   rintro⟨e3,z3⟩ ⟨s3,h3⟩
   refine .ret ⟨?_,h.mk' h3⟩
   dsimp only at s1 s2 s3 ⊢
   rw[k0F hb,z4b hb];omega
  ·refine (z4W hb (by simp) (h.mk' h16)).bind ?_
   rintro⟨y20,z20⟩ ⟨h20,c20⟩
   refine (j9B hb (h.mk' c20)).bind ?_
   rintro⟨y21,z21⟩ ⟨h21,c21⟩
   refine .grd hg ((ih' (h.mk' c21)).bind ?_)
   rintro⟨e1,z1⟩ ⟨s1,h1⟩
   refine .ret ⟨?_,h.mk' h1⟩
   have:y20.size=1:=by
    simp only[Dsz,Daz,or_false] at h20
    rcases h20 with h20|h20<;>rw[h20]<;>rfl
   dsimp only at s1 h21 ⊢
   rw[k6Z hb];omega
  ·refine (q5d hb 12 (h.mk' h16)).bind ?_
   rintro⟨y23,z23⟩ ⟨⟨a1,a2,_⟩,h23⟩
   have:=a2 (by omega)
   dsimp only at a1 this
   refine .grd (by constructor<;>omega) (.grd hg ((ih' (h.mk' h23)).bind ?_))
   rintro⟨e1,z1⟩ ⟨s1,h1⟩
   refine .grd hg ((ih' (h.mk' h1)).bind ?_)
   rintro⟨e2,z2⟩ ⟨s2,h2⟩
   refine .ret ⟨?_,h.mk' h2⟩
   dsimp only at s1 s2 ⊢
   rw[k3D hb,z4b hb];omega
theorem k3F (d:Nat){a:Int}(ha:a≤d+1)(h0:-1000000≤a)(hd:d≤100000)(h:CB b o):Dr b (fun e=>Sz.szd e≤fb d) (z9K a o):=
 k3C (g:=fun n=>q7D n a o) (N:=d+1) (fun n hn=>k8g hb d n (by omega) a o ha) (k5S hb d (d+1) (by omega) a o ha h0 hd h)
theorem k3G {e:Expr}{n:Nat}(h:Sz.szd e≤n):cntE e≤n+1:=by
 have h1:=j6s e
 have h2:z2k e=Sz.szd e:=rfl
 omega
theorem k3H (h:CB b o):Dr b (fun e=>Sz.szd e≤20480) (z5N o):=by
 unfold z5N
 refine (q5d hb 5 h).bind ?_
 rintro⟨y1,z1⟩ ⟨⟨a1,a2,_⟩,h1⟩
 have:=a2 (by omega)
 dsimp only at a1 this
 refine .grd (by constructor<;>omega) ?_
 refine (k3F hb 5 (a:=1+y1) (by omega) (by omega) (by omega) (h.mk' h1)).bind ?_
 rintro⟨e,z2⟩ ⟨s2,h2⟩
 have s2' : Sz.szd e≤20480:=s2
 dsimp only
 rw[j0n (by have:=k3G hb s2';omega)]
 refine Ok.bind (Q:=fun _=>True) (.ret trivial) fun y3 _=>.ite (fun _=>.ret ⟨s2',h.mk' h2⟩) fun _=>.ret ⟨?_,h.mk' h2⟩
 exact Aez _
theorem k8h (h:CB b o):Dr b (fun e=>Sz.szd e≤30000) (z7t o):=by
 unfold z7t
 refine (k3H hb h).bind ?_
 rintro⟨e,z1⟩ ⟨s1,h1⟩
 have s1' : Sz.szd e≤20480:=s1
 have s2:=q7o e
 refine (q5d hb 14 (h.mk' h1)).bind ?_
 rintro⟨y2,z2⟩ ⟨_,h2⟩
 dsimp only
 refine .ite (fun _=>?_) fun _=>.ite (fun _=>?_) fun _=>.ite (fun _=>?_) fun _=>.ite (fun _=>?_) fun _=>.ite (fun _=>?_) fun _=>.ite (fun _=>?_) fun _=>?_
 ·refine (q5d hb 11 (h.mk' h2)).bind ?_
  rintro⟨y3,z3⟩ ⟨_,h3⟩
  refine .ret ⟨?_,h.mk' h3⟩
  dsimp only;rw[q7o];dsimp only;omega
 ·have hl:=q8w e.Args
  refine .grd (by constructor<;>omega) (.ret ⟨?_,h.mk' h2⟩)
  dsimp only;rw[q7o];dsimp only;rw[j0z]
  have:szL [(⟨7,0,0,0,(⟨#[]⟩:BA_),(⟨#[]⟩:BA_),[]⟩:Expr)]=1:=rfl
  omega
 ·refine (z1C hb (by simp) (h.mk' h2)).bind ?_
  rintro⟨y3,z3⟩ ⟨_,h3⟩
  refine .ret ⟨?_,h.mk' h3⟩
  dsimp only;rw[q7o];dsimp only;omega
 ·refine (z1C hb (by simp) (h.mk' h2)).bind ?_
  rintro⟨y3,z3⟩ ⟨_,h3⟩
  refine .ret ⟨?_,h.mk' h3⟩
  dsimp only;rw[q7o];dsimp only;omega
 ·refine (z4W hb (by simp) (h.mk' h2)).bind ?_
  rintro⟨y3,z3⟩ ⟨h30,h3⟩
  have:y3.size≤2:=by
   simp only[Dsz,Daz,or_false] at h30
   rcases h30 with h30|h30|h30<;>rw[h30]<;>decide
  refine .ret ⟨?_,h.mk' h3⟩
  dsimp only;rw[q7o];dsimp only;omega
 ·have hL:Ok (fun q=>Sz.szd (⟨q.2.1,q.2.2.1,q.2.2.2.1,q.2.2.2.2.1,q.2.2.2.2.2.1,q.2.2.2.2.2.2,q.1⟩:Expr)≤20480+5*2) (eachN j0H 0 5 (e.Args,e.Kind,e.N,e.Pos,e.t__,e.Symbol,e.Name)):=by
   refine (j6y (P:=fun k q=>Sz.szd (⟨q.2.1,q.2.2.1,q.2.2.2.1,q.2.2.2.2.1,q.2.2.2.2.2.1,q.2.2.2.2.2.2,q.1⟩:Expr)≤20480+k*2) (by dsimp only;rw[q7o];dsimp only;omega) fun k q _ _ hq=>?_).mono fun q hq=>by simpa using hq
   obtain⟨q1,q2,q3,q4,q5,q6,q7⟩:=q
   dsimp only at hq
   refine .ret ?_
   dsimp only
   rw[k3D hb,j5k hb,z4b hb];omega
  refine hL.bind ?_
  rintro⟨q1,q2,q3,q4,q5,q6,q7⟩ hq
  refine .ret ⟨?_,h.mk' h2⟩
  dsimp only at hq ⊢;omega
 ·exact .ret ⟨by dsimp only;omega,h.mk' h2⟩
end
def Valid (r:Rl_):Prop:=0≤r.N∧r.N≤16∧(r.Rows.length:Int)=r.N∧∀ x∈r.Rows,0≤x∧x≤((2 ^ r.N.toNat:Nat):Int)-1
instance (r:Rl_):Decidable (Valid r):=by unfold Valid;infer_instance
def z7j (r:Rl_)(i:Int):Int:=r.Rows.getD i.toNat 0
def bit (x:Int)(k:Int):Prop:=x.toNat >>> k.toNat &&& 1=1
instance (x k:Int):Decidable (bit x k):=by unfold bit;infer_instance
def inN (r:Rl_)(i:Int):Prop:=0≤i∧i≤r.N-1
instance (r:Rl_) (i:Int):Decidable (inN r i):=by unfold inN;infer_instance
def hasP (r:Rl_)(i k:Int):Prop:=Valid r∧inN r i∧inN r k∧bit (z7j r i) k
instance (r:Rl_) (i k:Int):Decidable (hasP r i k):=by unfold hasP;infer_instance
def j3G (r:Rl_)(i:Int)(x:Int):Rl_:=⟨r.N,r.Rows.set i.toNat x⟩
def orI (x y:Int):Int:=((x.toNat ||| y.toNat:Nat):Int)
def addP (r:Rl_)(i k:Int):Rl_:=if Valid r∧inN r i∧inN r k then j3G r i (orI (z7j r i) ((2 ^ k.toNat:Nat):Int)) else r
theorem Valid.row {r:Rl_}(h:Valid r){i:Int}(hi:inN r i){x:Int}(hx:r.Rows[i.toNat]?=some x):z7j r i=x∧0≤x∧x≤65535:=by
 have hm:=h.2.2.2 x (Bvz hx)
 have hp:2 ^ r.N.toNat≤2 ^ 16:=Dzz (by decide) (by have:=h.2.1;omega)
 refine⟨by unfold z7j;simp[hx],hm.1,by omega⟩
theorem k9L {n:Int}(h:n≤16):2 ^ n.toNat≤65536:=by
 have:2 ^ n.toNat≤2 ^ 16:=Dzz (by decide) (by omega)
 simpa using this
theorem j6A (n:Int):1≤2 ^ n.toNat:=Nat.one_le_two_pow
theorem k3I {r:Rl_}(h0:0≤r.N)(h1:r.N≤16)(h2:(r.Rows.length:Int)=r.N):decide (Valid r)=!(r.Rows.any fun x=>!decide (0≤x∧x≤((2 ^ r.N.toNat:Nat):Int)-1)):=by
 by_cases hv:Valid r
 ·rw[decide_eq_true hv,eq_comm,Bdz,List.any_eq_false]
  intro x hx
  simp only[Bdz,decide_eq_false_iff_not,Decidable.not_not]
  exact hv.2.2.2 x hx
 ·rw[decide_eq_false hv,eq_comm,Bool.not_eq_false',List.any_eq_true]
  refine Classical.byContradiction fun hn=>hv ⟨h0,h1,h2,fun x hx=>Classical.byContradiction fun hb=>hn ⟨x,hx,?_⟩⟩
  rw[decide_eq_false hb];rfl
theorem k7a {x k:Int}(h:(((((x.toNat >>> k.toNat:Nat):Int)).toNat &&& (1:Int).toNat:Nat):Int)=1):x.toNat >>> k.toNat &&& 1=1:=by
 have:(1:Int).toNat=1:=rfl
 rw[tnC,this] at h
 exact_mod_cast h
theorem k7b {x k:Int}(h:x.toNat >>> k.toNat &&& 1=1):(((((x.toNat >>> k.toNat:Nat):Int)).toNat &&& (1:Int).toNat:Nat):Int)=1:=by
 have:(1:Int).toNat=1:=rfl
 rw[tnC,this]
 exact_mod_cast h
theorem z1g (x lo hi:Int):q6a x lo hi=some (decide (lo≤x∧x≤hi)):=by
 unfold q6a;split<;>simp_all<;>omega
theorem z6m (x lo hi:Int):q4n x lo hi=some (decide (lo≤x∧x≤hi)):=by
 unfold q4n;split<;>simp_all<;>omega
theorem q7b (r:Rl_):q4S r=some (decide (Valid r)):=by
 unfold q4S
 simp only[z1g,bsS,decide_eq_true_eq]
 by_cases h1:0≤r.N∧r.N≤16
 ·rw[ifP h1]
  by_cases h2:(r.Rows.length:Int)=r.N
  ·rw[ifP h2]
   have key:=j0h (c:=false) (n:=r.N.toNat) (i:=0) (p:=fun k=>∃ x,r.Rows[k]?=some x∧¬ (0≤x∧x≤((2 ^ r.N.toNat:Nat):Int)-1)) (f:=z1m r) fun k hk=>by
    have hk' : k<r.Rows.length:=by omega
    obtain⟨x,hx⟩:∃ x,r.Rows[k]?=some x:=⟨_,Cmz hk'⟩
    simp only[Adz]
    unfold z1m
    rw[hx,bsS,q3P h1.1,q3P (by omega),z1g,bsS]
    simp only[decide_eq_true_eq]
    refine⟨fun ⟨y,hy,hn⟩=>?_,fun hn=>?_⟩
    ·cases hy;rw[ifN hn]
    ·by_cases hb:0≤x∧x≤((2 ^ r.N.toNat:Nat):Int)-1
     ·rw[ifP hb]
     ·exact absurd ⟨x,rfl,hb⟩ hn
   simp only[Adz] at key
   by_cases hv:Valid r
   ·rw[key.2 fun k hk ⟨x,hx,hn⟩=>hn (hv.2.2.2 x (Bvz hx))]
    simp[hv]
   ·rw[key.1 (Classical.byContradiction fun hn=>hv ⟨h1.1,h1.2,h2,fun x hx=>?_⟩)]
    ·simp[hv]
    ·obtain⟨k,hk⟩:=List.getElem?_of_mem hx
     have hk':=k9C hk
     exact Classical.byContradiction fun hb=>hn ⟨k,by omega,x,hk,hb⟩
  ·rw[ifN h2,decide_eq_false fun hv=>h2 hv.2.2.1]
 ·rw[ifN h1,decide_eq_false fun hv=>h1 ⟨hv.1,hv.2.1⟩]
theorem z1u (r:Rl_):q5k r=some (decide (Valid r)):=by
 unfold q5k
 simp only[z6m,bsS,decide_eq_true_eq]
 by_cases h1:0≤r.N∧r.N≤16
 ·rw[ifP h1]
  simp only[bsS,Dyz,if_true,if_false,decide_eq_true_eq]
  by_cases h2:(r.Rows.length:Int)=r.N
  ·rw[ifP h2]
   have h3:∀ x,q7I x r=some (!decide (0≤x∧x≤((2 ^ r.N.toNat:Nat):Int)-1)):=fun x=>by
    unfold q7I
    rw[q3P h1.1,q3P (by omega),z6m];rfl
   have h4:∀ (xs:List Int) (i:Nat),∃ z,findL (q5B r) i xs ()=some z∧((xs.any fun x=>!decide (0≤x∧x≤((2 ^ r.N.toNat:Nat):Int)-1))=true→∃ k:Nat,z=.inr (k:Int))∧((xs.any fun x=>!decide (0≤x∧x≤((2 ^ r.N.toNat:Nat):Int)-1))=false→z=.inl ()):=by
    intro xs
    induction xs with
    | nil=>intro i;exact⟨_,rfl,by simp,by simp⟩
    | cons x xs ih=>
     intro i
     simp only[findL,q5B,h3,bsS,List.any_cons]
     by_cases hb:0≤x∧x≤((2 ^ r.N.toNat:Nat):Int)-1
     ·simp only[hb,and_self,decide_true,Bool.not_true,Dyz,if_false,bsS,Bool.false_or]
      exact ih (i+1)
     ·simp only[hb,decide_false,Bool.not_false,if_true,bsS,Bool.true_or]
      exact⟨_,rfl,fun _=>⟨i,rfl⟩,by simp⟩
   unfold q4G q4U
   obtain⟨z,hz,hz1,hz2⟩:=h4 r.Rows 0
   rw[hz,k3I h1.1 h1.2 h2]
   cases ha:(r.Rows.any fun x=>!decide (0≤x∧x≤((2 ^ r.N.toNat:Nat):Int)-1)) with
   | true=>obtain⟨k,rfl⟩:=hz1 ha;simp
   | false=>rw[hz2 ha];simp
  ·rw[ifN h2,decide_eq_false fun hv=>h2 hv.2.2.1];simp only[bsS,Dyz,if_true,if_false,decide_eq_true_eq]
 ·rw[ifN h1,decide_eq_false fun hv=>h1 ⟨hv.1,hv.2.1⟩];simp only[bsS,Dyz,if_true,if_false,decide_eq_true_eq]
theorem q9H (r:Rl_)(i k:Int):q8A r i k=some (decide (hasP r i k)):=by
 unfold q8A
 simp only[q7b,z1g,bsS,decide_eq_true_eq]
 by_cases hv:Valid r
 ·have hv1:=hv.1;have hv2:=hv.2.1;have hv3:=hv.2.2.1
  rw[ifP hv,q3P (by constructor<;>omega)];simp only[bsS,Dyz,if_true,if_false,decide_eq_true_eq]
  by_cases hi:0≤i∧i≤r.N-1
  ·rw[ifP hi,q3P (by constructor<;>omega)];simp only[bsS,Dyz,if_true,if_false,decide_eq_true_eq]
   by_cases hk:0≤k∧k≤r.N-1
   ·obtain⟨x,hx⟩:∃ x,r.Rows[i.toNat]?=some x:=⟨_,Cmz (by omega)⟩
    have hrow:=hv.row (i:=i) hi hx
    rw[ifP hk,q3P hi.1,hx,bsS,q3P hk.1,q3P ⟨hrow.2.1,hk.1,by omega⟩,q3P ⟨Dpz _,by decide⟩]
    simp only[bsS,Dyz,if_true,if_false,decide_eq_true_eq]
    congr 1
    refine decide_eq_decide.2 ⟨fun hb=>⟨hv,hi,hk,?_⟩,fun hb=>?_⟩
    ·unfold bit;rw[hrow.1];exact k7a hb
    ·have:=hb.2.2.2;unfold bit at this;rw[hrow.1] at this;exact k7b this
   ·rw[ifN hk];simp only[bsS,Dyz,if_true,if_false,decide_eq_true_eq];rw[ decide_eq_false fun h=>hk h.2.2.1]
  ·rw[ifN hi];simp only[bsS,Dyz,if_true,if_false,decide_eq_true_eq];rw[ decide_eq_false fun h=>hi h.2.1]
 ·rw[ifN hv];simp only[bsS,Dyz,if_true,if_false,decide_eq_true_eq];rw[ decide_eq_false fun h=>hv h.1]
theorem z6Q (r:Rl_)(i k:Int):z0w r i k=some (decide (hasP r i k)):=by
 rw[← q9H]
 unfold z0w q8A
 simp only[q7b,z1u,z1g,z6m]
theorem j3H:q8i=q9X:=by
 funext r;unfold q8i q9X z0f
 by_cases h:((([]:List Int).length:Int)+(r.Rows.length:Int))*8≤140737488355328∧(([]:List Int).length:Int)+(r.Rows.length:Int)≤9223372036854775807
 ·rw[q3P h,q3P h];rfl
 ·unfold grd;rw[ifN h,ifN h];rfl
theorem k5T:z0w=q8A:=by
 funext r i k;rw[z6Q,q9H]
theorem j6B:z4h=q7W:=by
 funext r i k;unfold z4h q7W;simp only[j3H,q7b,z1u,z1g,z6m]
theorem z8x:q7v=q5D:=by
 funext n;unfold q7v q5D;simp only[z1g,z6m]
theorem z6n {r:Rl_}(h:r.Rows.length≤1048576):q9X r=some r:=by
 unfold q9X;rw[q3P (by simp only[Dxz];constructor<;>omega)]
theorem k5U {r:Rl_}(h:r.Rows.length≤1048576)(i k:Int):∃ x,q7W r i k=some x∧x.Rows.length=r.Rows.length:=by
 unfold q7W
 simp only[z6n h,q7b,z1g,bsS,decide_eq_true_eq]
 by_cases hv:Valid r
 ·have hv1:=hv.1;have hv2:=hv.2.1;have hv3:=hv.2.2.1
  rw[ifP hv,q3P (by constructor<;>omega)];simp only[bsS,Dyz,if_true,if_false,decide_eq_true_eq]
  by_cases hi:0≤i∧i≤r.N-1
  ·rw[ifP hi,q3P (by constructor<;>omega)];simp only[bsS,Dyz,if_true,if_false,decide_eq_true_eq]
   by_cases hk:0≤k∧k≤r.N-1
   ·obtain⟨x,hx⟩:∃ x,r.Rows[i.toNat]?=some x:=⟨_,Cmz (by omega)⟩
    have hrow:=hv.row (i:=i) hi hx
    rw[ifP hk,q3P hi.1,hx,bsS,q3P hk.1,q3P ⟨hk.1,by omega⟩,q3P ⟨hrow.2.1,Dpz _⟩]
    exact⟨_,rfl,by simp⟩
   ·rw[ifN hk];exact⟨_,rfl,rfl⟩
  ·rw[ifN hi];simp only[bsS,Dyz,if_true,if_false,decide_eq_true_eq];exact⟨_,rfl,rfl⟩
 ·rw[ifN hv];simp only[bsS,Dyz,if_true,if_false,decide_eq_true_eq];exact⟨_,rfl,rfl⟩
theorem k0G {r:Rl_}(h:r.Rows.length≤1048576)(i k:Int):q7W r i k=some (addP r i k):=by
 unfold q7W
 simp only[z6n h,q7b,z1g,bsS,decide_eq_true_eq]
 by_cases hv:Valid r
 ·have hv1:=hv.1;have hv2:=hv.2.1;have hv3:=hv.2.2.1
  rw[ifP hv,q3P (by constructor<;>omega)];simp only[bsS,Dyz,if_true,if_false,decide_eq_true_eq]
  by_cases hi:0≤i∧i≤r.N-1
  ·rw[ifP hi,q3P (by constructor<;>omega)];simp only[bsS,Dyz,if_true,if_false,decide_eq_true_eq]
   by_cases hk:0≤k∧k≤r.N-1
   ·obtain⟨x,hx⟩:∃ x,r.Rows[i.toNat]?=some x:=⟨_,Cmz (by omega)⟩
    have hrow:=hv.row (i:=i) hi hx
    rw[ifP hk,q3P hi.1,hx,bsS,q3P hk.1,q3P ⟨hk.1,by omega⟩,q3P ⟨hrow.2.1,Dpz _⟩]
    have e:addP r i k=j3G r i (orI (z7j r i) ((2 ^ k.toNat:Nat):Int)):=ifP ⟨hv,hi,hk⟩
    rw[e,hrow.1];rfl
   ·rw[ifN hk]
    have e:addP r i k=r:=ifN fun h=>hk h.2.2
    rw[e]
  ·rw[ifN hi];simp only[bsS,Dyz,if_true,if_false,decide_eq_true_eq]
   have e:addP r i k=r:=ifN fun h=>hi h.2.1
   rw[e]
 ·rw[ifN hv];simp only[bsS,Dyz,if_true,if_false,decide_eq_true_eq]
  have e:addP r i k=r:=ifN fun h=>hv h.1
  rw[e]
theorem j2j {n:Int}(h0:0≤n)(h1:n≤16):q5D n=some ⟨n,List.replicate n.toNat 0⟩:=by
 unfold q5D
 rw[z1g,bsS,ifP (by simp;omega),q3P (by omega)]
theorem z8y (r:Rl_)(i k:Int):(addP r i k).Rows.length=r.Rows.length∧(addP r i k).N=r.N:=by
 unfold addP
 split
 ·exact⟨by simp[j3G],rfl⟩
 ·exact⟨rfl,rfl⟩
theorem j2k (x k:Int):bit x k↔x.toNat.testBit k.toNat=true:=by
 unfold bit
 rw[Nat.testBit_eq_decide_div_mod_eq,Nat.shiftRight_eq_div_pow]
 simp[Nat.and_one_is_mod]
def j6C (k:Nat)(s:List Int):List Int:=s.map fun x=>if x.toNat.testBit k=true then orI x (s.getD k 0) else x
def j1C (s:List Int):Nat→List Int
 | 0=>s
 | m+1=>j6C m (j1C s m)
def z4X (n:Nat)(s:List Int):Prop:=s.length=n∧∀ x∈s,0≤x∧x.toNat<2 ^ n
theorem j5m (x y:Int):0≤orI x y:=by unfold orI;omega
theorem j0o (x y:Int):(orI x y).toNat=x.toNat ||| y.toNat:=by unfold orI;omega
theorem k3J {n:Nat}{s:List Int}(h:z4X n s)(k:Nat):0≤s.getD k 0∧(s.getD k 0).toNat<2 ^ n:=by
 rw[Cwz]
 cases hk:s[k]? with
 | none=>simp;exact Nat.two_pow_pos n
 | some x=>exact h.2 x (Bvz hk)
theorem k5V {n k:Nat}{s:List Int}(h:z4X n s):z4X n (j6C k s):=by
 refine⟨by unfold j6C;rw[lnM];exact h.1,fun x hx=>?_⟩
 unfold j6C at hx
 obtain⟨y,hy,rfl⟩:=List.mem_map.1 hx
 have h1:=h.2 y hy
 split
 ·exact⟨j5m _ _,by rw[j0o];exact Nat.or_lt_two_pow h1.2 (k3J h k).2⟩
 ·exact h1
theorem z3F {n:Nat}{s:List Int}(h:z4X n s):∀ m,z4X n (j1C s m)
 | 0=>h
 | m+1=>k5V (z3F h m)
def Rl (s:List Int)(i j:Nat):Prop:=(s.getD i 0).toNat.testBit j=true
theorem k8i {n k:Nat}{s:List Int}(h:z4X n s){i:Nat}(hi:i<n)(j:Nat):Rl (j6C k s) i j↔Rl s i j∨(Rl s i k∧Rl s k j):=by
 unfold Rl
 have hs:∃ x,s[i]?=some x:=⟨_,Cmz (by rw[h.1];exact hi)⟩
 obtain⟨x,hx⟩:=hs
 have e1:s.getD i 0=x:=by rw[Cwz,hx];rfl
 have e2:(j6C k s).getD i 0=if x.toNat.testBit k=true then orI x (s.getD k 0) else x:=by
  unfold j6C
  rw[Cwz,Czz,hx];rfl
 rw[e1,e2]
 by_cases hb:x.toNat.testBit k=true
 ·rw[ifP hb,j0o,Nat.testBit_or,Bool.or_eq_true];simp[hb]
 ·rw[ifN hb];simp[hb]
theorem k9M {n:Nat}{s:List Int}(h:z4X n s){i j:Nat}(hR:Rl s i j):j<n:=by
 unfold Rl at hR
 have h1:=(k3J h i).2
 apply Decidable.byContradiction
 intro hj
 have:(s.getD i 0).toNat.testBit j=false:=Nat.testBit_lt_two_pow (Nat.lt_of_lt_of_le h1 (Dzz (by omega) (by omega)))
 rw[this] at hR;cases hR
theorem k7c {n:Nat}{s:List Int}(h:z4X n s){i j:Nat}(hR:Rl s i j):i<n:=by
 unfold Rl at hR
 apply Decidable.byContradiction
 intro hi
 have:s.getD i 0=0:=by rw[Cwz,Avz (by rw[h.1];omega)];rfl
 rw[this] at hR;simp at hR
theorem k3K {n:Nat}{s:List Int}(h:z4X n s):∀ (m i j:Nat),Rl s i j→Rl (j1C s m) i j
 | 0,_,_,hR=>hR
 | m+1,i,j,hR=>by
  have hR':=k3K h m i j hR
  exact (k8i (z3F h m) (k7c (z3F h m) hR') j).2 (.inl hR')
theorem k0H {n k:Nat}{s:List Int}(h:z4X n s)(hk:k<n)(hn:n≤16):eachN (q9g k) 0 n s=some (j6C k s):=by
 have hkk:∃ y,s[k]?=some y:=⟨_,Cmz (by rw[h.1];exact hk)⟩
 obtain⟨y,hy⟩:=hkk
 have ey:s.getD k 0=y:=by rw[Cwz,hy];rfl
 let f:Int→Int:=fun x=>if x.toNat.testBit k=true then orI x y else x
 have hf:f y=y:=by
  show (if y.toNat.testBit k=true then orI y y else y)=y
  have:=(h.2 y (Bvz hy)).1
  split
  ·unfold orI;rw[Nat.or_self];omega
  ·rfl
 obtain⟨s',h1,h2⟩:=j2g (P:=fun m t=>t=(s.take m).map f++s.drop m) (f:=q9g k) (n:=n) (i:=0) (s:=s) (by simp) (fun m t _ hm ht=>by
  subst ht
  have hms:m<s.length:=by rw[h.1];omega
  obtain⟨x,hx⟩:∃ x,s[m]?=some x:=⟨_,Cmz hms⟩
  have hx0:=h.2 x (Bvz hx)
  have hy0:=h.2 y (Bvz hy)
  have g1:((s.take m).map f++s.drop m)[m]?=some x:=by
   rw[Auz (by simp;omega)]
   simp only[lnM,Brz]
   rw[show m-min m s.length=0 by omega,Baz,Nat.add_zero,hx]
  have g2:((s.take m).map f++s.drop m)[k]?=some y:=by
   by_cases hkm:k<m
   ·rw[List.getElem?_append_left (by simp;omega),Czz,List.getElem?_take,ifP hkm,hy]
    show some (f y)=_
    rw[hf]
   ·rw[Auz (by simp;omega)]
    simp only[lnM,Brz]
    rw[Baz,show m+(k-min m s.length)=k by omega,hy]
  have hset:(((s.take m).map f++s.drop m).set m (f x))=(s.take (m+1)).map f++s.drop (m+1):=by
   rw[List.set_append_right _ _ (by simp;omega)]
   simp only[lnM,Brz]
   rw[show m-min m s.length=0 by omega,Dvz,hx,List.map_append,List.append_assoc]
   congr 1
   rw[List.drop_eq_getElem_cons hms];rfl
  have hno:f x=x→((s.take m).map f++s.drop m)=(s.take (m+1)).map f++s.drop (m+1):=fun e=>by
   rw[← hset,e]
   apply List.ext_getElem?
   intro q
   rw[List.getElem?_set]
   by_cases hq:m=q
   ·subst hq
    rw[ifP rfl,g1]
    split
    ·rfl
    ·rename_i hl;exact absurd (by simp;omega) hl
   ·rw[ifN hq]
  refine⟨_,?_,rfl⟩
  unfold q9g
  rw[g1,bsS,q3P (by refine⟨hx0.1,by omega,by omega⟩),q3P ⟨Dpz _,by decide⟩]
  by_cases hb:bit x (k:Int)
  ·have hb':=(j2k x k).1 hb
   rw[tnC] at hb'
   rw[ifP (k7b hb),g2,bsS,q3P ⟨hx0.1,hy0.1⟩,bsS,← hset]
   show some (List.set _ m (orI x y))=some (List.set _ m (f x))
   have:f x=orI x y:=ifP hb'
   rw[this]
  ·have hb' : ¬ x.toNat.testBit k=true:=fun h=>hb ((j2k x k).2 (by rw[tnC];exact h))
   rw[ifN (fun h=>hb (k7a h)),bsS,← hno (ifN hb')])
 rw[h1]
 subst h2
 unfold j6C
 rw[Adz,List.take_of_length_le (by rw[h.1];exact Acz _),List.drop_eq_nil_of_le (by rw[h.1];exact Acz _),List.append_nil,ey]
theorem z8z {r:Rl_}(h:Valid r):z4X r.N.toNat r.Rows∧r.N.toNat≤16:=by
 obtain⟨h0,h1,h2,h3⟩:=h
 have:=j6A r.N
 exact⟨⟨by omega,fun x hx=>⟨(h3 x hx).1,by have:=(h3 x hx).2;omega⟩⟩,by omega⟩
def q6J (r:Rl_):Rl_:=if Valid r then ⟨r.N,j1C r.Rows r.N.toNat⟩ else r
theorem k8j:z5U=q9g:=rfl
theorem j3I {r:Rl_}(h:r.Rows.length≤1048576):q8B r=some (q6J r):=by
 unfold q8B q6J
 rw[z6n h,bsS,q7b,bsS]
 by_cases hv:Valid r
 ·rw[ifP (by simpa using hv),ifP hv]
  obtain⟨hok,hn⟩:=z8z hv
  obtain⟨t,h1,h2⟩:=j2g (P:=fun m t=>t=j1C r.Rows m) (f:=z2y r) (n:=r.N.toNat) (i:=0) (s:=r.Rows) rfl (fun k s _ hk hs=>by
   subst hs
   refine⟨_,?_,rfl⟩
   unfold z2y
   rw[k0H (z3F hok k) (by omega) hn];rfl)
  rw[h1,bsS,h2,Adz]
 ·rw[ifN (by simpa using hv),ifN hv]
theorem j3J {r:Rl_}(h:r.Rows.length≤1048576):q8y r=some (q6J r):=by
 unfold q8y q6J
 rw[j3H,z6n h,bsS,z1u,bsS]
 by_cases hv:Valid r
 ·rw[ifP (by simpa using hv),ifP hv]
  obtain⟨hok,hn⟩:=z8z hv
  obtain⟨t,h1,h2⟩:=j2g (P:=fun m t=>t=j1C r.Rows m) (f:=z2v) (n:=r.Rows.length) (i:=0) (s:=r.Rows) rfl (fun k s _ hk hs=>by
   subst hs
   refine⟨_,?_,rfl⟩
   unfold z2v
   have hl:=(z3F hok k).1
   rw[hl,k8j,k0H (z3F hok k) (by rw[hok.1] at hk;omega) hn];rfl)
  rw[h1,bsS,h2,Adz,hok.1]
 ·rw[ifN (by simpa using hv),ifN hv]
theorem j5n (r:Rl_):(q6J r).Rows.length=r.Rows.length∧(q6J r).N=r.N:=by
 unfold q6J
 by_cases hv:Valid r
 ·rw[ifP hv]
  obtain⟨hok,_⟩:=z8z hv
  exact⟨by show (j1C r.Rows r.N.toNat).length=_;rw[(z3F hok _).1,hok.1],rfl⟩
 ·rw[ifN hv];exact⟨rfl,rfl⟩
theorem j8e {r:Rl_}(h:Valid r):Valid (q6J r):=by
 obtain⟨hok,hn⟩:=z8z h
 obtain⟨k1,k2⟩:=z3F hok r.N.toNat
 obtain⟨h0,h1,h2,h3⟩:=h
 unfold q6J
 rw[ifP ⟨h0,h1,h2,h3⟩]
 refine⟨h0,h1,by show ((j1C r.Rows r.N.toNat).length:Int)=r.N;omega,fun x hx=>?_⟩
 have:=k2 x hx
 have:=j6A r.N
 exact⟨(k2 x hx).1,by show x≤((2 ^ r.N.toNat:Nat):Int)-1;omega⟩
theorem k8k {r:Rl_}(h:Valid r)(i j:Nat):hasP r (i:Int) (j:Int)↔Rl r.Rows i j:=by
 obtain⟨hok,hn⟩:=z8z h
 unfold hasP
 have h0:=h.1
 constructor
 ·rintro⟨_,_,_,hb⟩
  have:=(j2k _ _).1 hb
  simpa[Rl,z7j] using this
 ·intro hR
  have hi:=k7c hok hR
  have hj:=k9M hok hR
  refine⟨h,⟨by omega,by omega⟩,⟨by omega,by omega⟩,(j2k _ _).2 ?_⟩
  simpa[Rl,z7j] using hR
theorem j3K {r:Rl_}(h:r.Rows.length≤1048576):z2w r=some (decide (∃ k:Nat,k<r.Rows.length∧hasP (q6J r) (k:Int) (k:Int))):=by
 unfold z2w
 rw[j3J h,bsS]
 have hl:=(j5n r).1
 have hf:∀ (k:Nat) (x:Int),(hasP (q6J r) (k:Int) (k:Int)→z4E (q6J r) k x ()=some (.inr true))∧(¬ hasP (q6J r) (k:Int) (k:Int)→z4E (q6J r) k x ()=some (.inl ())):=fun k x=>by
  unfold z4E
  rw[z6Q,bsS]
  exact⟨fun hp=>ifP (by simpa using hp),fun hp=>ifN (by simpa using hp)⟩
 have hany:=z7V (c:=true) (xs:=(q6J r).Rows) (i:=0) (p:=fun k _=>hasP (q6J r) (k:Int) (k:Int)) (f:=z4E (q6J r)) fun k x _=>by
  rw[Adz];exact hf k x
 by_cases hp:∃ k:Nat,k<r.Rows.length∧hasP (q6J r) (k:Int) (k:Int)
 ·rw[decide_eq_true hp]
  obtain⟨k,hk,hpk⟩:=hp
  rw[hany.1 ⟨k,_,Cmz (by omega),by rw[Adz];exact hpk⟩];rfl
 ·rw[decide_eq_false hp]
  rw[hany.2 fun k x hx hpk=>hp ⟨k,by rw[← hl];exact (List.getElem?_eq_some_iff.1 hx).1,by rw[Adz] at hpk;exact hpk⟩];rfl
end Go.Proofs.YtgkepiefcpfimaaGreatDoor
