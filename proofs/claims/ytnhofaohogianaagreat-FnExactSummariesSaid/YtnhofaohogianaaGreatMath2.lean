/- What those partial functions come to: plain lemmas on data; each bears its conditions in its statement. -/
import Derived.Test.YtnhofaohogianaaGreatMath1
set_option linter.unusedVariables false
set_option linter.unusedSimpArgs false
set_option linter.ambiguousOpen false
set_option linter.unusedSectionVars false
set_option linter.unnecessarySimpa false
open List renaming getElem?_eq_none→Avz,getElem?_eq_getElem→Ckz,take_add_one→Duz,mem_append→Cfz,mem_singleton→Blz,mem_of_getElem?→Bsz,length_append→Awz,length_nil→Dpz,mem_of_find?_eq_some→Dwz,drop_eq_nil_of_le→Dxz,drop_eq_getElem_cons→Cpz,replicate→Bmz,getD_eq_getElem?_getD→Ctz,getElem?_append_right→Chz,length_take→Boz,getElem?_drop→Azz,range'→Czz,findIdx_cons→Dyz
open Nat renaming le_refl→Acz,zero_add→Adz
open Bool renaming false_eq_true→Dvz
open Int renaming natCast_nonneg→Dmz
namespace Go.Proofs.YtnhofaohogianaaGreat
open Go Go.E
theorem k0E {ρ:Type}{g:Nat→Option ρ}(hm:∀ n r,g n=some r→g (n+1)=some r){n:Nat}{r:ρ}(h:g n=some r):recO g=some r:=by
 have up:∀ (k n:Nat) (r:ρ),g n=some r→g (n+k)=some r:=by
  intro k
  induction k with
  | zero=>intro n r h;exact h
  | succ k ih=>intro n r h;exact hm _ _ (ih n r h)
 refine q8H n fun m hm=>?_
 have h1:=up (m-n) n r h
 rwa[show n+(m-n)=m by omega] at h1
theorem z8X {α σ:Type}{f g:Nat→α→σ→Option σ}(h:∀ k x s q,f k x s=some q→g k x s=some q):∀ (xs:List α) (i:Nat) (s q:σ),eachL f i xs s=some q→eachL g i xs s=some q
 | [],i,s,q,hq=>hq
 | x::xs,i,s,q,hq=>by
  simp only[eachL] at hq ⊢
  obtain⟨t,h1,h2⟩:=bd hq
  rw[h _ _ _ _ h1]
  exact z8X h xs _ _ _ h2
theorem j5q (a b:Oc):z2r a b=some (z2g a b):=by
 unfold z2r z2g
 by_cases h1:a.Pos<b.Pos
 ·simp[h1]
 ·by_cases h2:a.Pos=b.Pos
  ·simp[h2]
  ·simp[h1,h2]
abbrev z5S (l:List Oc):Prop:=l.Pairwise fun a b=>z2g a b=true
theorem k2N {l:List Oc}{o:Oc}(hl:l.length≤4398046511104):∀ (m j:Nat),j+m=l.length→(∀ a∈l.take j,z2g a o=true) →
  ∃ k:Nat,q4Y (z2s l o) (j:Int)=some ((k:Nat):Int)∧k≤l.length∧(∀ a∈l.take k,z2g a o=true)∧∀ y,l[k]?=some y→z2g y o=false:=by
 intro m
 induction m with
 | zero=>
  intro j hj ha
  refine⟨j,q3V ?_,by omega,ha,fun y hy=>?_⟩
  ·unfold z2s;rw[ifN (by omega)]
  ·rw[Avz (by omega)] at hy;cases hy
 | succ m ih=>
  intro j hj ha
  obtain⟨x,hx⟩:∃ x,l[j]?=some x:=⟨_,Ckz (by omega)⟩
  cases hb:z2g x o with
  | false=>
   refine⟨j,q3V ?_,by omega,ha,fun y hy=>?_⟩
   ·unfold z2s
    rw[ifP (by omega),q3G (by omega)]
    simp only[tnC]
    rw[hx,bsS,j5q,bsS,ifN (by rw[hb];simp)]
   ·rw[hx] at hy;cases hy;exact hb
  | true=>
   have e:z2s l o (j:Int)=some (.inl ((j+1:Nat):Int)):=by
    unfold z2s
    rw[ifP (by omega),q3G (by omega)]
    simp only[tnC]
    rw[hx,bsS,j5q,bsS,ifP hb,q3G (by constructor<;>omega)];rfl
   rw[q4Q e]
   refine ih (j+1) (by omega) fun a h=>?_
   rw[Duz,hx] at h
   rcases List.mem_append.1 h with h|h
   ·exact ha a h
   ·simp at h;rw[h];exact hb
theorem k0F {l:List Oc}{o:Oc}(hl:l.length<4398046511104)(hs:z5S l):∃ q,z7K l o=some q∧z5S q∧(∀ a,a∈q↔a=o∨a∈l)∧q.length≤l.length+1:=by
 obtain⟨k,h1,h2,h3,h4⟩:=k2N (l:=l) (o:=o) (by omega) l.length 0 (by omega) (by simp)
 have h1' : q4Y (z2s l o) 0=some ((k:Nat):Int):=h1
 have hput:∀ (hne:∀ y,l[k]?=some y→y≠o),z5S (l.take k++[o]++l.drop k)∧(∀ a,a∈l.take k++[o]++l.drop k↔a=o∨a∈l)∧(l.take k++[o]++l.drop k).length≤l.length+1:=fun hne=>by
  refine⟨?_,fun a=>?_,by simp;omega⟩
  ·have:=j9b (lt:=z2g) lessO_swo.trans z6L (k:=k) hs h3 fun y hy=>⟨h4 y hy,hne y hy⟩
   simpa using this
  ·have:a∈l↔a∈l.take k∨a∈l.drop k:=by rw[← Cfz,List.take_append_drop]
   rw[this]
   simp only[Cfz,Blz]
   constructor
   ·rintro ((h|h)|h)<;>simp[h]
   ·rintro (h|h|h)<;>simp[h]
 unfold z7K
 rw[h1',bsS]
 by_cases hk:k<l.length
 ·obtain⟨x,hx⟩:∃ x,l[k]?=some x:=⟨_,Ckz hk⟩
  rw[ifP (by omega),q3G (by omega)]
  simp only[tnC]
  rw[hx,bsS]
  by_cases hxo:x=o
  ·rw[ifP hxo]
   refine⟨l,rfl,hs,fun a=>?_,by omega⟩
   have:=Bsz hx
   constructor
   ·exact .inr
   ·rintro (h|h)
    ·rw[h,← hxo];exact this
    ·exact h
  ·rw[ifN hxo,q3G (by omega),q3G (by omega),q3G (by simp;omega),q3G (by simp;omega),q3G (by omega),q3G (by omega),q3G (by simp;omega)]
   exact⟨_,rfl,hput fun y hy=>by rw[hx] at hy;cases hy;exact hxo⟩
 ·rw[ifN (by omega)]
  simp only[tnC]
  rw[q3G (by omega),q3G (by omega),q3G (by simp;omega),q3G (by simp;omega),q3G (by omega),q3G (by omega),q3G (by simp;omega)]
  exact⟨_,rfl,hput fun y hy=>by rw[Avz (by omega)] at hy;cases hy⟩
theorem k4Z:∀ (n:Nat) (e:Expr) (l q:List Oc),q6J n e l=some q→q6J (n+1) e l=some q:=by
 intro n
 induction n with
 | zero=>intro e l q h;cases h
 | succ n ih=>
  intro e l q h
  have h' : z1i (q6J n) e l=some q:=h
  show z1i (q6J (n+1)) e l=some q
  have m1:∀ (xs:List Expr) (i:Nat) (s q:List Oc),eachL (z1X (q6J n)) i xs s=some q→eachL (z1X (q6J (n+1))) i xs s=some q:=z8X fun k x s q hq=>by
   unfold z1X at hq ⊢
   obtain⟨y,h3,h4⟩:=bd hq
   rw[ih _ _ _ h3];exact h4
  unfold z1i at h' ⊢
  by_cases hk:e.Kind=3
  ·rw[ifP hk] at h' ⊢
   obtain⟨y,h1,h2⟩:=bd h'
   obtain⟨s,h3,h4⟩:=bd h2
   rw[h1,bsS,m1 _ _ _ _ h3];exact h4
  ·rw[ifN hk] at h' ⊢
   obtain⟨s,h3,h4⟩:=bd h'
   have m2:eachL (z8A (q6J (n+1))) 0 e.Args l=some s:=m1 _ _ _ _ h3
   rw[m2];exact h4
theorem j9e:∀ (m:Nat) (e:Expr) (l:List Oc),fuE e≤m→z5S l→l.length+(z4L e).length≤1099511627776 →
  ∃ q,q6J m e l=some q∧z5S q∧(∀ a,a∈q↔a∈l∨a∈z4L e)∧q.length≤l.length+(z4L e).length:=by
 intro m
 induction m with
 | zero=>intro e l h;rw[z1E] at h;omega
 | succ m ih=>
  intro e l h hs hb
  rw[z1E] at h
  rw[z4M,Awz] at hb
  have hl:∀ (xs:List Expr) (i:Nat) (s:List Oc),fuEs xs≤m→z5S s→s.length+(z0n xs).length≤1099511627776 →
    ∃ q,eachL (z1X (q6J m)) i xs s=some q∧z5S q∧(∀ a,a∈q↔a∈s∨a∈z0n xs)∧q.length≤s.length+(z0n xs).length:=by
   intro xs
   induction xs with
   | nil=>intro i s _ hs _;exact⟨s,rfl,hs,by simp[z0n],by omega⟩
   | cons x xs ihl=>
    intro i s hf hs hb
    simp only[fuEs] at hf
    simp only[z0n,Awz] at hb
    obtain⟨q,h1,h2,h3,h4⟩:=ih x s (by omega) hs (by omega)
    obtain⟨q2,k1,k2,k3,k4⟩:=ihl (i+1) q (by omega) h2 (by omega)
    refine⟨q2,?_,k2,fun a=>?_,by simp only[z0n,Awz];omega⟩
    ·simp only[eachL,z1X,h1,bsS];exact k1
    ·rw[k3,h3,z0n,Cfz,or_assoc]
  show ∃ q,z1i (q6J m) e l=some q∧_
  unfold z1i
  by_cases hk:e.Kind=3
  ·rw[ifP hk] at hb ⊢
   simp only[lnC,Dpz] at hb
   obtain⟨y,h1,h2,h3,h4⟩:=k0F (l:=l) (o:=⟨e.Pos,e.Name⟩) (by omega) hs
   obtain⟨q,k1,k2,k3,k4⟩:=hl e.Args 0 y (by omega) h2 (by omega)
   refine⟨q,?_,k2,fun a=>?_,?_⟩
   ·rw[h1,bsS,k1];rfl
   ·rw[k3,h3,z4M,ifP hk,Cfz,Blz]
    constructor
    ·rintro ((h|h)|h)<;>simp[h]
    ·rintro (h|h|h)<;>simp[h]
   ·rw[z4M,ifP hk];simp;omega
  ·rw[ifN hk] at hb ⊢
   simp only[Dpz] at hb
   obtain⟨q,k1,k2,k3,k4⟩:=hl e.Args 0 l (by omega) hs (by omega)
   have k1' : eachL (z8A (q6J m)) 0 e.Args l=some q:=k1
   refine⟨q,?_,k2,fun a=>?_,?_⟩
   ·rw[k1'];rfl
   ·rw[k3,z4M,ifN hk];simp
   ·rw[z4M,ifN hk];simpa using k4
theorem j5r (e:Expr):z5S (attrs e):=by
 refine z5R lessO_swo.trans z6L ?_
 have h:=List.pairwise_mergeSort (le:=fun x y=>!z2g y x) (fun a b c h1 h2=>by
  simp only[Bool.not_eq_true'] at h1 h2 ⊢
  exact lessO_swo.ntrans _ _ _ h2 h1) (fun a b=>by
  cases h:z2g a b with
  | false=>simp[h]
  | true=>
   cases h2:z2g b a with
   | false=>simp
   | true=>have:=lessO_swo.trans _ _ _ h h2;rw[lessO_swo.irrefl] at this;cases this) (z4L e)
 unfold j4S
 exact h.imp fun {a b} h=>by simpa using h
theorem j7S {e:Expr}(h:Sz.szd e≤1048576):q6a e=some (attrs e):=by
 have hl:=k0C h
 obtain⟨q,h1,h2,h3,h4⟩:=j9e _ e [] (Acz _) List.Pairwise.nil (by simp;omega)
 have hq:q=attrs e:=j2I (lt:=z2g) lessO_swo.irrefl lessO_swo.trans h2 (j5r e) fun a=>by rw[h3,k0D];simp
 subst hq
 have hr:j0H e []=some (attrs e):=k0E (fun n q=>k4Z n e [] q) h1
 unfold q6a
 rw[hr];rfl
theorem k5a:∀ (n:Nat) (e q:Expr),q6v n e=some q→q6v (n+1) e=some q:=by
 intro n
 induction n with
 | zero=>intro e q h;cases h
 | succ n ih=>
  intro e q h
  have h' : q9J (q6v n) e=some q:=h
  show q9J (q6v (n+1)) e=some q
  unfold q9J at h' ⊢
  obtain⟨s,h1,h2⟩:=bd h'
  rw[z8X (g:=z1W (q6v (n+1))) (fun k x s q hq=>by
   unfold z1W at hq ⊢
   obtain⟨y,h3,h4⟩:=bd hq
   rw[ih _ _ h3,bsS];exact h4) _ _ _ _ h1]
  exact h2
theorem j9f:∀ (m:Nat) (e:Expr),fuE e≤m→Sz.szd e≤1048576→q6v m e=some e:=by
 intro m
 induction m with
 | zero=>intro e h;rw[z1E] at h;omega
 | succ m ih=>
  intro e h hs
  rw[z1E] at h
  have hl:∀ (l:List Expr) (i:Nat) (s:List Expr),(∀ x∈l,fuE x≤m∧Sz.szd x≤1048576)→s.length+l.length≤4398046511→eachL (z1W (q6v m)) i l s=some (s++l):=by
   intro l
   induction l with
   | nil=>intro i s _ _;simp[eachL]
   | cons x l ihl=>
    intro i s hx hb
    simp only[lnC] at hb
    have h1:=ih x (hx x (by simp)).1 (hx x (by simp)).2
    have e1:z1W (q6v m) i x s=some (s++[x]):=by
     unfold z1W;rw[h1,bsS,q3G (by constructor<;>omega)]
    simp only[eachL,e1,bsS]
    rw[ihl _ _ (fun y hy=>hx y (by simp[hy])) (by simp;omega)];simp
  show q9J (q6v m) e=some e
  unfold q9J
  have h2:=q7A e
  have h3:=q4P e.Args
  rw[hl e.Args 0 [] (fun x hx=>⟨by have:=z3n hx;omega,by have:=k0B hx;omega⟩) (by simp;omega),List.nil_append,bsS]
  cases e;rfl
theorem k5b {e:Expr}(h:Sz.szd e≤1048576):z7J e=some e:=k0E (fun n q=>k5a n e q) (j9f _ e (Acz _) h)
theorem j9g:z6R=z7J:=by
 have h:∀ n,z0B n=q6v n:=by
  intro n
  induction n with
  | zero=>rfl
  | succ n ih=>funext e;show z4B (z0B n) e=q9J (q6v n) e;rw[ih];rfl
 funext e
 show recO (fun n=>z0B n e)=recO fun n=>q6v n e
 congr 1;funext n;rw[h]
def j6S:Expr:=⟨0,0,0,0,⟨#[]⟩,⟨#[]⟩,[]⟩
def eqAt (r:Rule)(o:Oc):Expr×Bool:=match r.es_.find? fun q=>decide (q.At=o) with
 | some q=>(q.Expr,true)
 | none=>(j6S,false)
theorem z7h {r:Rule}{q:Eqn}(h:q∈r.es_):Sz.szd q.Expr≤Sz.szd r:=by
 have h1:=z4K r
 have h2:=z3m q
 have h3:=z1Q h
 have h4:=q7A q.Expr
 omega
theorem k5c {r:Rule}(h:Sz.szd r≤1048576)(o:Oc):Sz.szd (eqAt r o).1≤1048576:=by
 unfold eqAt
 cases hf:r.es_.find? (fun q=>decide (q.At=o)) with
 | none=>show Sz.szd j6S≤_;have:Sz.szd j6S=0:=rfl;omega
 | some q=>have:=z7h (Dwz hf);show Sz.szd q.Expr≤_;omega
theorem j3S {r:Rule}(h:Sz.szd r≤1048576)(o:Oc):q5j r o=some (eqAt r o):=by
 have key:∀ (l:List Eqn) (i:Nat),(∀ q∈l,Sz.szd q.Expr≤1048576)→findL (q6E o) i l ()=some (match l.find? fun q=>decide (q.At=o) with
   | some q=>.inr (q.Expr,true)
   | none=>.inl ()):=by
  intro l
  induction l with
  | nil=>intro i _;rfl
  | cons q l ih=>
   intro i hq
   by_cases hp:q.At=o
   ·simp[findL,q6E,hp,k5b (hq q (by simp))]
   ·simp[findL,q6E,hp]
    exact ih _ fun y hy=>hq y (by simp[hy])
 unfold q5j eqAt
 rw[key _ _ fun q hq=>by have:=z7h hq;omega]
 cases r.es_.find? (fun q=>decide (q.At=o))<;>rfl
theorem k5d {r:Rule}(h:Sz.szd r≤1048576)(o:Oc):q5j r o=some (eqAt r o)∧q7b r o=some (eqAt r o):=by
 have e:q7b=q5j:=by
  have e1:z1x=q6E:=by funext a k x u;unfold z1x q6E;rw[j9g]
  funext r o;unfold q7b q5j;rw[e1]
 rw[e]
 exact⟨j3S h o,j3S h o⟩
theorem j9h:q6K=q5F:=by
 funext l o
 unfold q6K q5F q4j
 have e:q9l o=q4v o:=by
  funext k x u
  unfold q9l q4v
  by_cases h:x=o
  ·rw[ifP h,ifP h.symm]
  ·rw[ifN h,ifN fun e=>h e.symm]
 rw[e]
 cases ((findL (q4v o) 0 l ()).bind <| onr (fun r1=>some r1) fun _=>some (-1))<;>rfl
theorem j9i (l:List Oc)(o:Oc):∃ k,q5F l o=some k:=by
 have h:q4j l o=some (ixF l o):=by
  unfold q4j
  refine k0v fun k x=>⟨fun e=>?_,fun e=>?_⟩
  ·unfold q4v;rw[ifP e.symm]
  ·unfold q4v;rw[ifN (fun h=>e h.symm)]
 exact⟨_,by unfold q5F;rw[h];rfl⟩
theorem k7h {r x:Rl_}{i k:Int}(h:q6o r i k=some x):x.N=r.N:=by
 unfold q6o at h
 obtain⟨y,h1,h⟩:=bd h
 have hy:y=r:=by unfold q8s at h1;obtain⟨_,h1⟩:=z4r h1;exact (Option.some.inj h1).symm
 subst hy
 obtain⟨y2,_,h⟩:=bd h
 obtain⟨s1,_,h⟩:=bd h
 obtain⟨s2,_,h⟩:=bd h
 by_cases hs:s2=true
 ·rw[ifP hs] at h
  obtain⟨_,h⟩:=z4r h
  obtain⟨_,_,h⟩:=bd h
  obtain⟨_,h⟩:=z4r h
  obtain⟨_,h⟩:=z4r h
  obtain⟨_,h⟩:=z4r h
  cases h;rfl
 ·rw[ifN hs] at h
  cases h;rfl
theorem k2O (l:List Oc)(k:Nat):∀ (us:List Oc) (i:Nat) (rows:List Int) (n:Int),rows.length≤1048576 →
  ∃ rows',eachL (q8v l k) i us (rows,n)=some (rows',n)∧eachL (q6Y l (k:Int)) i us (rows,n)=some (rows',n)∧rows'.length=rows.length:=by
 intro us
 induction us with
 | nil=>intro i rows n _;exact⟨rows,rfl,rfl,rfl⟩
 | cons u us ih=>
  intro i rows n h
  obtain⟨j,hj⟩:=j9i l u
  obtain⟨x,hx,hxl⟩:=j7Q (r:=⟨n,rows⟩) h j (k:Int)
  have hN:=k7h hx
  obtain⟨rows',h1,h2,h3⟩:=ih (i+1) x.Rows n (by rw[hxl];exact h)
  have e1:q8v l k i u (rows,n)=some (x.Rows,n):=by
   unfold q8v
   dsimp only
   rw[hj,bsS,j3R,hx,bsS,hN]
  have e2:q6Y l (k:Int) i u (rows,n)=some (x.Rows,n):=by
   unfold q6Y
   dsimp only
   rw[j9h,hj,bsS,hx,bsS,hN]
  exact⟨rows',by simp only[eachL,e1,bsS];exact h1,by simp only[eachL,e2,bsS];exact h2,h3.trans hxl⟩
theorem j9j:attrs j6S=[]:=by
 have:z4L j6S=[]:=by simp[j6S,z4L,z0n]
 unfold attrs j4S
 rw[this];simp[q4O]
theorem k0G {r:Rule}(hr:Sz.szd r≤1048576)(l:List Oc)(hl:l.length≤16):∀ (m k:Nat) (rows:List Int) (n:Int),k+m=l.length→0<n→rows.length≤1048576 →
  ∃ rows',eachL (q8w r l) k (l.drop k) (rows,n)=some (rows',n)∧q4Y (q4S r l) ((k:Int),rows,n)=some (rows',n)∧rows'.length=rows.length:=by
 intro m
 induction m with
 | zero=>
  intro k rows n hk hn h
  refine⟨rows,by rw[Dxz (by omega)];rfl,q3V ?_,rfl⟩
  unfold q4S
  dsimp only
  rw[ifN (by omega)]
 | succ m ih=>
  intro k rows n hk hn h
  obtain⟨x,hx⟩:∃ x,l[k]?=some x:=⟨_,Ckz (by omega)⟩
  have hd:l.drop k=x::l.drop (k+1):=by
   rw[Cpz (by omega)]
   have:l[k]=x:=by rw[Ckz (by omega)] at hx;exact Option.some.inj hx
   rw[this]
  obtain⟨E,B,hq⟩:∃ E B,eqAt r x=(E,B):=⟨_,_,rfl⟩
  obtain⟨rows1,h1,h2,h3⟩:=k2O l k (attrs E) 0 rows n h
  obtain⟨rows',k1,k2,k3⟩:=ih (k+1) rows1 n (by omega) hn (by omega)
  have hsz:=k5c hr x
  have hf:=k5d hr x
  rw[hq] at hsz hf
  have e1:q8w r l k x (rows,n)=some (rows1,n):=by
   unfold q8w
   dsimp only
   rw[hf.2,bsS]
   dsimp only
   rw[j7R hsz,bsS,h1];rfl
  have hin:(grd (0≤(k:Int)) <| (l[(k:Int).toNat]?).bind fun x1=>(q5j r x1).bind fun (y3,y4)=>if y4=true then ((q6a y3).bind fun y5=>(eachL (q6Y l (k:Int)) 0 y5 (rows,n)).bind fun (s8,s9)=>some (s8,s9)) else some (rows,n))=some (rows1,n):=by
   rw[q3G (by omega),tnC,hx,bsS,hf.1,bsS]
   dsimp only
   cases hb:B with
   | true=>rw[ifP rfl,j7S hsz,bsS,h2,bsS]
   | false=>
    have hz:E=j6S:=by
     unfold eqAt at hq
     cases hf:r.es_.find? (fun q=>decide (q.At=x)) with
     | none=>rw[hf] at hq;cases hq;rfl
     | some q=>rw[hf] at hq;cases hq;cases hb
    rw[hz,j9j] at h1
    simp only[eachL,Option.some.injEq,Prod.mk.injEq] at h1
    rw[ifN (by simp),h1.1]
  have e2:q4S r l ((k:Int),rows,n)=some (.inl (((k+1:Nat):Int),rows1,n)):=by
   unfold q4S
   dsimp only
   rw[ifP (by omega),ifP hn,hin,bsS]
   dsimp only
   rw[q3G (by constructor<;>omega)];rfl
  exact⟨rows',by rw[hd];simp only[eachL,e1,bsS];exact k1,by rw[q4Q e2];exact k2,k3.trans h3⟩
theorem j9k {g:Gm_}{r:Rule}(h:Sz.szd g≤1048576)(hr:Sz.szd r≤1048576):∃ x,q6b g r=some x∧q6I g r=some x∧x.Rows.length≤16:=by
 obtain⟨l,h1,h2,_⟩:=j0d (z3C h) (q8b hr)
 have hem:∀ n:Nat,q4G (n:Int)=if n≤16 then some ⟨(n:Int),Bmz n 0⟩ else some ⟨0,[]⟩:=fun n=>by
  unfold q4G
  rw[z0m,bsS]
  by_cases hn:n≤16
  ·rw[ifP (by simp;omega),q3G (by omega),ifP hn];rfl
  ·rw[ifN (by simp;omega),ifN hn]
 unfold q6b q6I
 rw[h1,h2,bsS,bsS,j2H,hem]
 by_cases hl:l.length≤16
 ·rw[ifP hl,bsS,bsS,ifN (by omega)]
  dsimp only
  by_cases h0:l.length=0
  ·have:l=[]:=List.eq_nil_of_length_eq_zero h0
   subst this
   have e:q4Y (q4S r ([]:List Oc)) (0,Bmz ([]:List Oc).length 0,((([]:List Oc).length:Nat):Int))=some (Bmz ([]:List Oc).length 0,((([]:List Oc).length:Nat):Int)):=q3V (by unfold q4S;dsimp only;rw[ifN (by simp)])
   rw[e]
   exact⟨_,rfl,rfl,by simp⟩
  ·obtain⟨rows',k1,k2,k3⟩:=k0G hr l hl l.length 0 (Bmz l.length 0) (l.length:Int) (by omega) (by omega) (by simp;omega)
   have k2' : q4Y (q4S r l) (0,Bmz l.length 0,(l.length:Int))=some (rows',(l.length:Int)):=k2
   rw[List.drop_zero] at k1
   rw[k1,k2']
   exact⟨_,rfl,rfl,by show rows'.length≤16;simp at k3;omega⟩
 ·rw[ifN hl,bsS,bsS,ifP (by omega)]
  have e:q4Y (q4S r l) (0,([]:List Int),(0:Int))=some ([],0):=q3V (by unfold q4S;dsimp only;rw[ifP (by omega),ifN (by omega)])
  rw[e]
  exact⟨_,rfl,rfl,by simp⟩
theorem k0H {r:Rl_}(h:r.Rows.length≤1048576)(i k:Int):q6o r i k=some (addP r i k):=by
 unfold q6o
 simp only[z8h h,q9q,z0m,bsS,decide_eq_true_eq]
 by_cases hv:Valid r
 ·have hv1:=hv.1;have hv2:=hv.2.1;have hv3:=hv.2.2.1
  rw[ifP hv,q3G (by constructor<;>omega)];simp only[bsS,Dvz,if_true,if_false,decide_eq_true_eq]
  by_cases hi:0≤i∧i≤r.N-1
  ·rw[ifP hi,q3G (by constructor<;>omega)];simp only[bsS,Dvz,if_true,if_false,decide_eq_true_eq]
   by_cases hk:0≤k∧k≤r.N-1
   ·obtain⟨x,hx⟩:∃ x,r.Rows[i.toNat]?=some x:=⟨_,Ckz (by omega)⟩
    have hrow:=hv.row (i:=i) hi hx
    rw[ifP hk,q3G hi.1,hx,bsS,q3G hk.1,q3G ⟨hk.1,by omega⟩,q3G ⟨hrow.2.1,Dmz _⟩]
    have e:addP r i k=j1u r i (orI (z6G r i) ((2 ^ k.toNat:Nat):Int)):=ifP ⟨hv,hi,hk⟩
    rw[e,hrow.1];rfl
   ·rw[ifN hk]
    have e:addP r i k=r:=ifN fun h=>hk h.2.2
    rw[e]
  ·rw[ifN hi];simp only[bsS,Dvz,if_true,if_false,decide_eq_true_eq]
   have e:addP r i k=r:=ifN fun h=>hi h.2.1
   rw[e]
 ·rw[ifN hv];simp only[bsS,Dvz,if_true,if_false,decide_eq_true_eq]
  have e:addP r i k=r:=ifN fun h=>hv h.1
  rw[e]
theorem k2P {n:Int}(h0:0≤n)(h1:n≤16):q4G n=some ⟨n,Bmz n.toNat 0⟩:=by
 unfold q4G
 rw[z0m,bsS,ifP (by simp;omega),q3G (by omega)]
theorem j3T (r:Rl_)(i k:Int):(addP r i k).Rows.length=r.Rows.length∧(addP r i k).N=r.N:=by
 unfold addP
 split
 ·exact⟨by simp[j1u],rfl⟩
 ·exact⟨rfl,rfl⟩
theorem j7T (x k:Int):bit x k↔x.toNat.testBit k.toNat=true:=by
 unfold bit
 rw[Nat.testBit_eq_decide_div_mod_eq,Nat.shiftRight_eq_div_pow]
 simp[Nat.and_one_is_mod]
def j9l (k:Nat)(s:List Int):List Int:=s.map fun x=>if x.toNat.testBit k=true then orI x (s.getD k 0) else x
def j2K (s:List Int):Nat→List Int
 | 0=>s
 | m+1=>j9l m (j2K s m)
def j1w (n:Nat)(s:List Int):Prop:=s.length=n∧∀ x∈s,0≤x∧x.toNat<2 ^ n
theorem j9m (x y:Int):0≤orI x y:=by unfold orI;omega
theorem j5s (x y:Int):(orI x y).toNat=x.toNat ||| y.toNat:=by unfold orI;omega
theorem k5e {n:Nat}{s:List Int}(h:j1w n s)(k:Nat):0≤s.getD k 0∧(s.getD k 0).toNat<2 ^ n:=by
 rw[Ctz]
 cases hk:s[k]? with
 | none=>simp;exact Nat.two_pow_pos n
 | some x=>exact h.2 x (Bsz hk)
theorem k2Q {n k:Nat}{s:List Int}(h:j1w n s):j1w n (j9l k s):=by
 refine⟨by unfold j9l;rw[lnM];exact h.1,fun x hx=>?_⟩
 unfold j9l at hx
 obtain⟨y,hy,rfl⟩:=List.mem_map.1 hx
 have h1:=h.2 y hy
 split
 ·exact⟨j9m _ _,by rw[j5s];exact Nat.or_lt_two_pow h1.2 (k5e h k).2⟩
 ·exact h1
theorem z5T {n:Nat}{s:List Int}(h:j1w n s):∀ m,j1w n (j2K s m)
 | 0=>h
 | m+1=>k2Q (z5T h m)
def Rl (s:List Int)(i j:Nat):Prop:=(s.getD i 0).toNat.testBit j=true
theorem j7U {n k:Nat}{s:List Int}(h:j1w n s)(hk:k<n)(hn:n≤16):eachN (q6Z k) 0 n s=some (j9l k s):=by
 have hkk:∃ y,s[k]?=some y:=⟨_,Ckz (by rw[h.1];exact hk)⟩
 obtain⟨y,hy⟩:=hkk
 have ey:s.getD k 0=y:=by rw[Ctz,hy];rfl
 let f:Int→Int:=fun x=>if x.toNat.testBit k=true then orI x y else x
 have hf:f y=y:=by
  show (if y.toNat.testBit k=true then orI y y else y)=y
  have:=(h.2 y (Bsz hy)).1
  split
  ·unfold orI;rw[Nat.or_self];omega
  ·rfl
 obtain⟨s',h1,h2⟩:=z8g (P:=fun m t=>t=(s.take m).map f++s.drop m) (f:=q6Z k) (n:=n) (i:=0) (s:=s) (by simp) (fun m t _ hm ht=>by
  subst ht
  have hms:m<s.length:=by rw[h.1];omega
  obtain⟨x,hx⟩:∃ x,s[m]?=some x:=⟨_,Ckz hms⟩
  have hx0:=h.2 x (Bsz hx)
  have hy0:=h.2 y (Bsz hy)
  have g1:((s.take m).map f++s.drop m)[m]?=some x:=by
   rw[Chz (by simp;omega)]
   simp only[lnM,Boz]
   rw[show m-min m s.length=0 by omega,Azz,Nat.add_zero,hx]
  have g2:((s.take m).map f++s.drop m)[k]?=some y:=by
   by_cases hkm:k<m
   ·rw[List.getElem?_append_left (by simp;omega),List.getElem?_map,List.getElem?_take,ifP hkm,hy]
    show some (f y)=_
    rw[hf]
   ·rw[Chz (by simp;omega)]
    simp only[lnM,Boz]
    rw[Azz,show m+(k-min m s.length)=k by omega,hy]
  have hset:(((s.take m).map f++s.drop m).set m (f x))=(s.take (m+1)).map f++s.drop (m+1):=by
   rw[List.set_append_right _ _ (by simp;omega)]
   simp only[lnM,Boz]
   rw[show m-min m s.length=0 by omega,Duz,hx,List.map_append,List.append_assoc]
   congr 1
   rw[Cpz hms];rfl
  have hno:f x=x→((s.take m).map f++s.drop m)=(s.take (m+1)).map f++s.drop (m+1):=fun e=>by
   rw[← hset,e]
   apply List.ext_getElem?
   intro q
   rw[List.getElem?_set]
   by_cases hq:m=q
   ·subst hq
    rw[ifP rfl,g1]
    split
    ·rfl
    ·rename_i hl;exact absurd (by simp;omega) hl
   ·rw[ifN hq]
  refine⟨_,?_,rfl⟩
  unfold q6Z
  rw[g1,bsS,q3G (by refine⟨hx0.1,by omega,by omega⟩),q3G ⟨Dmz _,by decide⟩]
  by_cases hb:bit x (k:Int)
  ·have hb':=(j7T x k).1 hb
   rw[tnC] at hb'
   rw[ifP (k4q hb),g2,bsS,q3G ⟨hx0.1,hy0.1⟩,bsS,← hset]
   show some (List.set _ m (orI x y))=some (List.set _ m (f x))
   have:f x=orI x y:=ifP hb'
   rw[this]
  ·have hb' : ¬ x.toNat.testBit k=true:=fun h=>hb ((j7T x k).2 (by rw[tnC];exact h))
   rw[ifN (fun h=>hb (k4p h)),bsS,← hno (ifN hb')])
 rw[h1]
 subst h2
 unfold j9l
 rw[Adz,List.take_of_length_le (by rw[h.1];exact Acz _),Dxz (by rw[h.1];exact Acz _),List.append_nil,ey]
theorem j3U {r:Rl_}(h:Valid r):j1w r.N.toNat r.Rows∧r.N.toNat≤16:=by
 obtain⟨h0,h1,h2,h3⟩:=h
 have:=k2K r.N
 exact⟨⟨by omega,fun x hx=>⟨(h3 x hx).1,by have:=(h3 x hx).2;omega⟩⟩,by omega⟩
def z8k (r:Rl_):Rl_:=if Valid r then ⟨r.N,j2K r.Rows r.N.toNat⟩ else r
theorem k5f:z3Z=q6Z:=rfl
theorem k0I {r:Rl_}(h:r.Rows.length≤1048576):q7E r=some (z8k r):=by
 unfold q7E z8k
 rw[z8h h,bsS,q9q,bsS]
 by_cases hv:Valid r
 ·rw[ifP (by simpa using hv),ifP hv]
  obtain⟨hok,hn⟩:=j3U hv
  obtain⟨t,h1,h2⟩:=z8g (P:=fun m t=>t=j2K r.Rows m) (f:=z0x r) (n:=r.N.toNat) (i:=0) (s:=r.Rows) rfl (fun k s _ hk hs=>by
   subst hs
   refine⟨_,?_,rfl⟩
   unfold z0x
   rw[j7U (z5T hok k) (by omega) hn];rfl)
  rw[h1,bsS,h2,Adz]
 ·rw[ifN (by simpa using hv),ifN hv]
theorem k0J {r:Rl_}(h:r.Rows.length≤1048576):q7H r=some (z8k r):=by
 unfold q7H z8k
 rw[j5n,z8h h,bsS,z7g,bsS]
 by_cases hv:Valid r
 ·rw[ifP (by simpa using hv),ifP hv]
  obtain⟨hok,hn⟩:=j3U hv
  obtain⟨t,h1,h2⟩:=z8g (P:=fun m t=>t=j2K r.Rows m) (f:=z0E) (n:=r.Rows.length) (i:=0) (s:=r.Rows) rfl (fun k s _ hk hs=>by
   subst hs
   refine⟨_,?_,rfl⟩
   unfold z0E
   have hl:=(z5T hok k).1
   rw[hl,k5f,j7U (z5T hok k) (by rw[hok.1] at hk;omega) hn];rfl)
  rw[h1,bsS,h2,Adz,hok.1]
 ·rw[ifN (by simpa using hv),ifN hv]
theorem j9n (r:Rl_):(z8k r).Rows.length=r.Rows.length∧(z8k r).N=r.N:=by
 unfold z8k
 by_cases hv:Valid r
 ·rw[ifP hv]
  obtain⟨hok,_⟩:=j3U hv
  exact⟨by show (j2K r.Rows r.N.toNat).length=_;rw[(z5T hok _).1,hok.1],rfl⟩
 ·rw[ifN hv];exact⟨rfl,rfl⟩
theorem z4j {α β:Type}{p:α→Bool}{g:α→β}{B:Nat}{f:Nat→α→List β→Option (List β)}(hf:∀ k x s,s.length<B→f k x s=some (if p x=true then s++[g x] else s)):∀ (xs:List α) (i:Nat) (s:List β),s.length+xs.length≤B →
  eachL f i xs s=some (s++(xs.filter p).map g)
 | [],i,s,_=>by simp[eachL]
 | x::xs,i,s,h=>by
  simp only[lnC] at h
  by_cases hp:p x=true
  ·have ih:=z4j hf xs (i+1) (s++[g x]) (by simp;omega)
   simp[eachL,hf i x s (by omega),hp,ih]
  ·have ih:=z4j hf xs (i+1) s (by omega)
   simp[eachL,hf i x s (by omega),hp,ih]
theorem j1x {α β:Type}{p:α→Bool}{g:Nat→β}{B:Nat}{f:Nat→α→List β→Option (List β)}(hf:∀ k x s,s.length<B→f k x s=some (if p x=true then s++[g k] else s)):∀ (xs:List α) (i:Nat) (s:List β),s.length+xs.length≤B →
  eachL f i xs s=some (s++((xs.zipIdx i).filter fun q=>p q.1).map fun q=>g q.2)
 | [],i,s,_=>by simp[eachL]
 | x::xs,i,s,h=>by
  simp only[lnC] at h
  by_cases hp:p x=true
  ·have ih:=j1x hf xs (i+1) (s++[g i]) (by simp;omega)
   simp[eachL,hf i x s (by omega),hp,ih,List.zipIdx_cons]
  ·have ih:=j1x hf xs (i+1) s (by omega)
   simp[eachL,hf i x s (by omega),hp,ih,List.zipIdx_cons]
theorem z8Y {β:Type}{h:Nat→List β}{C n:Nat}{f:Nat→List β→Option (List β)}(hf:∀ k s,k<n→s.length≤k*C→f k s=some (s++h k))(hh:∀ k,k<n→(h k).length≤C) :
  ∀ (m k:Nat) (s:List β),k+m=n→s.length≤k*C→eachN f k m s=some (s++(Czz k m).flatMap h)
 | 0,k,s,_,_=>by simp[eachN]
 | m+1,k,s,hk,hs=>by
  have hl:=hh k (by omega)
  have e:(k+1)*C=k*C+C:=Nat.succ_mul k C
  have ih:=z8Y hf hh m (k+1) (s++h k) (by omega) (by rw[Awz];omega)
  simp[eachN,hf k s (by omega) hs,ih,List.range'_succ]
theorem j1y {β:Type}{h:Nat→List β}{C n:Nat}{f:(List β×Int)→Option ((List β×Int) ⊕ List β)}(hf:∀ (k:Nat) s,k<n→s.length≤k*C→f (s,(k:Int))=some (.inl (s++h k,((k+1:Nat):Int))))(he:∀ s,f (s,(n:Int))=some (.inr s))(hh:∀ k,k<n→(h k).length≤C) :
  ∀ (m k:Nat) (s:List β),k+m=n→s.length≤k*C→q4Y f (s,(k:Int))=some (s++(Czz k m).flatMap h)
 | 0,k,s,hk,_=>by
  obtain rfl:k=n:=by omega
  rw[q3V (he s)];simp
 | m+1,k,s,hk,hs=>by
  have hl:=hh k (by omega)
  have e:(k+1)*C=k*C+C:=Nat.succ_mul k C
  have ih:=j1y hf he hh m (k+1) (s++h k) (by omega) (by rw[Awz];omega)
  rw[q4Q (hf k s (by omega) hs),ih];simp[List.range'_succ]
abbrev GOk (g:Gm_):Prop:=∀ y∈g.ss_,y.as_.length≤1048576
def zS:Symbol:=⟨⟨#[]⟩,[]⟩
def zA:At_:=⟨⟨#[]⟩,0,0,false⟩
def q6P (g:Gm_)(s:BA_):Symbol×Bool:=match g.ss_.find? fun y=>decide (y.Name=s) with
 | some y=>(y,true)
 | none=>(zS,false)
def z4k (y:Symbol)(s:BA_):At_×Bool:=match y.as_.find? fun a=>decide (a.Name=s) with
 | some a=>(a,true)
 | none=>(zA,false)
theorem z4l {g:Gm_}(h:GOk g)(s:BA_):q5l g s=some (q6P g s):=by
 have h1:=z2a (p:=fun y:Symbol=>decide (y.Name=s)) (r:=fun y=>(y,true)) (xs:=g.ss_) (i:=0) (f:=q8R s) fun k y hy=>by
  have hg:q8h y=some y:=by
   unfold q8h;have:=h y hy;rw[q3G (by simp only[Dpz];constructor<;>omega)]
  unfold q8R;rw[hg];constructor<;>intro hp<;>simp_all
 unfold q5l q6P
 rw[h1]
 cases hf:g.ss_.find? (fun y:Symbol=>decide (y.Name=s)) with
 | none=>rfl
 | some y=>rfl
theorem z2I (g:Gm_)(s:BA_):q5n g s=some (q6P g s):=by
 have h2:=z2a (p:=fun y:Symbol=>decide (y.Name=s)) (r:=fun y=>(y,true)) (xs:=g.ss_) (i:=0) (f:=q8X s) fun k y hy=>by
  unfold q8X;constructor<;>intro hp<;>simp_all
 unfold q5n q6P
 rw[h2]
 cases hf:g.ss_.find? (fun y:Symbol=>decide (y.Name=s)) with
 | none=>rfl
 | some y=>rfl
theorem z2J {g:Gm_}(h:GOk g)(s:BA_):(q6P g s).1.as_.length≤1048576:=by
 unfold q6P
 cases hf:g.ss_.find? (fun y:Symbol=>decide (y.Name=s)) with
 | none=>simp[zS]
 | some y=>exact h y (Dwz hf)
theorem z8l (y:Symbol)(s:BA_):q6e y s=some (z4k y s):=by
 have h2:=z2a (p:=fun y:At_=>decide (y.Name=s)) (r:=fun y=>(y,true)) (xs:=y.as_) (i:=0) (f:=z0z s) fun k y hy=>by
  unfold z0z;constructor<;>intro hp<;>simp_all
 unfold q6e z4k
 rw[h2]
 cases hf:y.as_.find? (fun y:At_=>decide (y.Name=s)) with
 | none=>rfl
 | some y=>rfl
theorem j1z (y:Symbol)(s:BA_):q6F y s=some (z4k y s):=z8l y s
def q8K (r:Rule)(k:Int):BA_:=if k=0 then r.Left else if 1≤k∧k≤(r.rt_.length:Int) then r.rt_.getD (k-1).toNat ⟨#[]⟩ else ⟨#[]⟩
abbrev ROk (r:Rule):Prop:=r.rt_.length≤1048576
theorem z7i {r:Rule}(hl:ROk r)(k:Int):q5A r k=some (q8K r k):=by
 unfold q5A q8K
 by_cases h0:k=0
 ·rw[ifP h0,ifP h0]
 ·rw[ifN h0,ifN h0,z5O,bsS]
  by_cases h1:1≤k∧k≤(r.rt_.length:Int)
  ·rw[ifP (by simpa using h1),ifP h1,q3G (by constructor<;>omega),q3G (by omega)]
   have:(k-1).toNat<r.rt_.length:=by omega
   rw[Ckz this,Ctz,Ckz this];rfl
  ·rw[ifN (by simpa using h1),ifN h1]
theorem j1A {r:Rule}(hl:ROk r)(k:Int):q6y r k=some (q8K r k):=by rw[z8U,z7i hl]
def z0s (g:Gm_)(r:Rule)(o:Oc):At_×Bool:=if 0≤o.Pos∧o.Pos≤(r.rt_.length:Int) then z4k (q6P g (q8K r o.Pos)).1 o.Name else (zA,false)
theorem z8Z (g:Gm_){r:Rule}(hl:ROk r)(o:Oc):q6R g r o=some (z0s g r o):=by
 unfold q6R z0s
 rw[z9t,bsS]
 by_cases h0:0≤o.Pos∧o.Pos≤(r.rt_.length:Int)
 ·rw[ifP (by simpa using h0),ifP h0,j1A hl,bsS,z2I,bsS]
  dsimp only
  rw[z8l];rfl
 ·rw[ifN (by simpa using h0),ifN h0];rfl
def mayB (g:Gm_)(r:Rule)(o:Oc):Bool:=(z0s g r o).2&&decide ((z0s g r o).1.Mode=if o.Pos=0 then 1 else 2)
theorem k5g (g:Gm_){r:Rule}(hl:ROk r)(o:Oc):z5D g r o=some (mayB g r o):=by
 unfold z5D mayB
 rw[z8Z g hl,bsS]
 dsimp only
 by_cases h0:o.Pos=0
 ·rw[ifP h0,ifP h0]
  by_cases h1:(z0s g r o).2=true
  ·rw[ifP h1,h1];rfl
  ·rw[ifN h1,Bool.eq_false_iff.2 h1];rfl
 ·rw[ifN h0,ifN h0]
  by_cases h1:(z0s g r o).2=true
  ·rw[ifP h1,h1];rfl
  ·rw[ifN h1,Bool.eq_false_iff.2 h1];rfl
theorem k5h {g:Gm_}(h:GOk g){r:Rule}(hl:ROk r)(o:Oc):z5s g r o=some (mayB g r o):=by
 unfold z5s mayB z0s
 rw[z5O,bsS]
 by_cases hp:0≤o.Pos∧o.Pos≤(r.rt_.length:Int)
 ·rw[ifP (by simpa using hp),ifP hp,z7i hl,bsS,z4l h,bsS]
  dsimp only
  rw[j1z,bsS]
  skip
  by_cases h0:o.Pos=0
  ·rw[ifP h0,ifP h0]
   by_cases h1:(z4k (q6P g (q8K r o.Pos)).1 o.Name).2=true
   ·rw[ifP h1,h1];rfl
   ·rw[ifN h1,Bool.eq_false_iff.2 h1];rfl
  ·rw[ifN h0,ifN h0]
   by_cases h1:(z4k (q6P g (q8K r o.Pos)).1 o.Name).2=true
   ·rw[ifP h1,h1];rfl
   ·rw[ifN h1,Bool.eq_false_iff.2 h1];rfl
 ·rw[ifN (by simpa using hp),ifN hp];rfl
def reqK (g:Gm_)(r:Rule)(k:Nat):List Oc:=((q6P g (q8K r (k:Int))).1.as_.filter fun a=>decide (a.Mode=if (k:Int)=0 then 2 else 1)).map fun a=>(⟨(k:Int),a.Name⟩:Oc)
def reqL (g:Gm_)(r:Rule):List Oc:=(Czz 0 (r.rt_.length+1)).flatMap (reqK g r)
theorem j7V {g:Gm_}(h:GOk g)(r:Rule)(k:Nat):(reqK g r k).length≤1048576:=by
 unfold reqK;rw[lnM]
 exact Nat.le_trans (List.length_filter_le _ _) (z2J h _)
theorem k0K {g:Gm_}(h:GOk g){r:Rule}(hl:ROk r):z0y g r=some (reqL g r):=by
 have hl' : r.rt_.length≤1048576:=hl
 have key:=z8Y (h:=reqK g r) (C:=1048576) (n:=r.rt_.length+1) (f:=z5C g r) (fun k s hk hs=>by
  have hin:∀ m:Int,eachL (z5B k m) 0 (q6P g (q8K r (k:Int))).1.as_ s=some (s++((q6P g (q8K r (k:Int))).1.as_.filter fun a=>decide (a.Mode=m)).map fun a=>(⟨(k:Int),a.Name⟩:Oc)):=fun m=>
   z4j (B:=4398046511104) (fun j x s hs=>by
    unfold z5B
    by_cases hm:x.Mode=m
    ·rw[ifP hm,ifP (by simpa using hm),q3G (by constructor<;>omega)];rfl
    ·rw[ifN hm,ifN (by simpa using hm)];rfl) _ 0 s (by have:=z2J h (q8K r (k:Int));omega)
  unfold z5C reqK
  by_cases h0:(k:Int)=0
  ·rw[ifP h0,ifP h0,bsS,j1A hl,bsS,z2I,bsS]
   dsimp only
   rw[hin];rfl
  ·rw[ifN h0,ifN h0,bsS,j1A hl,bsS,z2I,bsS]
   dsimp only
   rw[hin];rfl) (fun k _=>j7V h r k) (r.rt_.length+1) 0 [] (by omega) (by simp)
 unfold z0y
 rw[q3G (by constructor<;>omega),key];rfl
theorem k0L {g:Gm_}(h:GOk g){r:Rule}(hl:ROk r):q5i g r=some (reqL g r):=by
 have hl' : r.rt_.length≤1048576:=hl
 have key:=j1y (h:=reqK g r) (C:=1048576) (n:=r.rt_.length+1) (f:=q5B g r) (fun k s hk hs=>by
  have hin2:eachL (q7q (k:Int)) 0 (q6P g (q8K r (k:Int))).1.as_ s=some (s++((q6P g (q8K r (k:Int))).1.as_.filter fun a=>decide (a.Mode=2)).map fun a=>(⟨(k:Int),a.Name⟩:Oc)):=
   z4j (B:=4398046511104) (fun j x s hs=>by
    unfold q7q
    by_cases hm:x.Mode=2
    ·rw[ifP hm,ifP (by simpa using hm),q3G (by constructor<;>omega)];rfl
    ·rw[ifN hm,ifN (by simpa using hm)];rfl) _ 0 s (by have:=z2J h (q8K r (k:Int));omega)
  have hin1:eachL (q7r (k:Int)) 0 (q6P g (q8K r (k:Int))).1.as_ s=some (s++((q6P g (q8K r (k:Int))).1.as_.filter fun a=>decide (a.Mode=1)).map fun a=>(⟨(k:Int),a.Name⟩:Oc)):=
   z4j (B:=4398046511104) (fun j x s hs=>by
    unfold q7r
    by_cases hm:x.Mode=1
    ·rw[ifP hm,ifP (by simpa using hm),q3G (by constructor<;>omega)];rfl
    ·rw[ifN hm,ifN (by simpa using hm)];rfl) _ 0 s (by have:=z2J h (q8K r (k:Int));omega)
  unfold q5B reqK
  dsimp only
  rw[ifP (by omega),z7i hl,bsS,z4l h,bsS]
  skip
  by_cases h0:(k:Int)=0
  ·rw[ifP h0,ifP h0,hin2,bsS,bsS,q3G (by constructor<;>omega)];rfl
  ·rw[ifN h0,ifN h0,hin1,bsS,bsS,q3G (by constructor<;>omega)];rfl) (fun s=>by
  unfold q5B;dsimp only;rw[ifN (by omega)]) (fun k _=>j7V h r k) (r.rt_.length+1) 0 [] (by omega) (by simp)
 unfold q5i
 have e:q4Y (q5B g r) (([]:List Oc),0)=some ([]++(Czz 0 (r.rt_.length+1)).flatMap (reqK g r)):=key
 rw[e];rfl
theorem z6z (e:Expr):1≤fuE e:=by rw[z1E];omega
theorem z6A {e x:Expr}(hx:x∈e.Args):fuE x+1≤fuE e:=by
 have:=z3n hx
 have:=z1E e
 omega
theorem z1R {P:Expr→Prop}(h:∀ e,(∀ x∈e.Args,P x)→P e)(e:Expr):P e:=by
 have:∀ n e,fuE e≤n→P e:=by
  intro n
  induction n with
  | zero=>intro e he;have:=z6z e;omega
  | succ n ih=>intro e he;exact h e fun x hx=>ih x (by have:=z6A hx;omega)
 exact this _ e (Acz _)
theorem q4T {α ρ:Type}{c:ρ}{q:α→Bool}:∀ {xs:List α} {i:Nat} {f:Nat→α→Unit→Option (Unit ⊕ ρ)},(∀ k x,x∈xs→f k x ()=some (if q x=true then .inl () else .inr c))→findL f i xs ()=some (if xs.all q=true then .inl () else .inr c)
 | [],i,f,h=>rfl
 | x::xs,i,f,h=>by
  rw[findL,h i x (by simp)]
  by_cases hx:q x=true
  ·rw[ifP hx,bsS]
   show findL f (i+1) xs ()=_
   rw[q4T fun k y hy=>h k y (by simp[hy])]
   simp[hx]
  ·rw[ifN hx];simp[hx]
theorem j1B {α:Type}{q:α→Bool}:∀ {xs:List α} {i:Nat} {f:Nat→α→Unit→Option (Unit ⊕ Int)},(∀ k x,x∈xs→f k x ()=some (if q x=true then .inr (k:Int) else .inl ()))→findL f i xs ()=some (if xs.any q=true then .inr ((i+xs.findIdx q:Nat):Int) else .inl ())
 | [],i,f,h=>rfl
 | x::xs,i,f,h=>by
  rw[findL,h i x (by simp)]
  by_cases hx:q x=true
  ·rw[ifP hx];simp[hx,Dyz]
  ·rw[ifN hx,bsS]
   show findL f (i+1) xs ()=_
   rw[j1B fun k y hy=>h k y (by simp[hy])]
   have hx' : q x=false:=by simpa using hx
   simp only[List.any_cons,hx',Bool.false_or,Dyz,cond_false]
   rw[show i+1+xs.findIdx q=i+(xs.findIdx q+1) by omega]
mutual
def allE (p:Expr→Bool):Expr→Bool
 | ⟨a0,a1,a2,a3,a4,a5,a6⟩=>p ⟨a0,a1,a2,a3,a4,a5,a6⟩&&k2R p a6
def k2R (p:Expr→Bool):List Expr→Bool
 | []=>true
 | x::xs=>allE p x&&k2R p xs
end
mutual
def cntE:Expr→Nat
 | ⟨_,_,_,_,_,_,a6⟩=>z4N a6+1
def z4N:List Expr→Nat
 | []=>0
 | x::xs=>cntE x+z4N xs
end
mutual
def depE:Expr→Nat
 | ⟨_,_,_,_,_,_,a6⟩=>j2o a6+1
def j2o:List Expr→Nat
 | []=>0
 | x::xs=>max (depE x) (j2o xs)
end
theorem j7W (p:Expr→Bool):∀ l,k2R p l=l.all (allE p)
 | []=>rfl
 | x::xs=>by rw[k2R,j7W p xs];rfl
theorem j3V (p:Expr→Bool)(e:Expr):allE p e=(p e&&e.Args.all (allE p)):=by
 cases e;rw[allE,j7W]
theorem z9a (e:Expr):cntE e=z4N e.Args+1:=by cases e;rfl
theorem k0M (e:Expr):depE e=j2o e.Args+1:=by cases e;rfl
mutual
theorem j7X:∀ e:Expr,cntE e≤1+z1h e
 | ⟨a0,a1,a2,a3,a4,a5,a6⟩=>by
  have:=j5t a6
  simp only[cntE,z1h];omega
theorem j5t:∀ l:List Expr,z4N l≤z3l l
 | []=>by simp[z4N]
 | x::xs=>by
  have h1:=j7X x
  have h2:=j5t xs
  simp only[z4N,z3l];omega
end
theorem k4r {e:Expr}(h:Sz.szd e≤1048576):cntE e≤1048577:=by
 have h1:=j7X e
 have h2:z1h e=Sz.szd e:=rfl
 omega
mutual
theorem k0N:∀ e:Expr,depE e≤cntE e
 | ⟨_,_,_,_,_,_,a6⟩=>by
  have:=j7Y a6
  simp only[depE,cntE];omega
theorem j7Y:∀ l:List Expr,j2o l≤z4N l
 | []=>Acz _
 | x::xs=>by
  have h1:=k0N x
  have h2:=j7Y xs
  simp only[j2o,z4N];omega
end
theorem j5u:∀ {l:List Expr} {x:Expr},x∈l→cntE x≤z4N l
 | y::l,x,h=>by
  simp only[z4N]
  rcases List.mem_cons.1 h with e|h
  ·subst e;omega
  ·have:=j5u h;omega
theorem k0O {e x:Expr}(hx:x∈e.Args):cntE x+1≤cntE e:=by
 have:=j5u hx
 have:=z9a e
 omega
theorem j9o (e:Expr):∀ m,fuE e≤m→cntE e≤1099511627776→q9s m e=some (cntE e:Int):=by
 induction e using z1R with
 | h e ih=>
  intro m hm hc
  obtain⟨m,rfl⟩:∃ q,m=q+1:=⟨m-1,by have:=z6z e;omega⟩
  show z1n (q9s m) e=_
  unfold z1n
  have key:∀ (l:List Expr) (i s:Nat),(∀ x∈l,x∈e.Args)→s+z4N l≤1099511627776→eachL (z1L (q9s m)) i l (s:Int)=some ((s+z4N l:Nat):Int):=by
   intro l
   induction l with
   | nil=>intro i s _ _;rfl
   | cons x l ihl=>
    intro i s hx hs
    have hxm:=hx x (by simp)
    simp only[z4N] at hs
    have h1:=ih x hxm m (by have:=z6A hxm;omega) (by omega)
    rw[eachL]
    unfold z1L
    rw[h1,bsS,q3G (by constructor<;>omega),bsS]
    have:=ihl (i+1) (s+cntE x) (fun y hy=>hx y (by simp[hy])) (by omega)
    rw[Int.natCast_add] at this
    unfold z1L at this
    rw[this,z4N]
    congr 1;omega
  rw[z9a] at hc
  have:=key e.Args 0 1 (fun _ h=>h) (by omega)
  rw[show ((1:Nat):Int)=1 from rfl] at this
  rw[this,bsS,z9a,Nat.add_comm]
theorem k0P {e:Expr}(h:cntE e≤1099511627776):z5v e=some (cntE e:Int):=q8H (fuE e) fun m hm=>j9o e m hm h
theorem k6B (a b:Nat):(if (b:Int) > (a:Int) then (b:Int) else (a:Int))=((max a b:Nat):Int):=by
 split<;>omega
theorem j1C {f:Expr→Option Int}{g:Nat→Expr→Int→Option Int}(hg:∀ k x s,g k x s=(f x).bind fun y=>some (if y > s then y else s)):∀ (l:List Expr) (i s:Nat),(∀ x∈l,f x=some (depE x:Int))→eachL g i l (s:Int)=some ((max s (j2o l):Nat):Int)
 | [],i,s,_=>by rw[eachL,j2o,Nat.max_zero]
 | x::l,i,s,h=>by
  rw[eachL,hg,h x (by simp),bsS,bsS,k6B,j1C hg l (i+1) _ fun y hy=>h y (by simp[hy]),j2o,Nat.max_assoc]
theorem j6T (a b:Int):q9H a b=some (if b > a then b else a):=by
 unfold q9H
 by_cases h:b<a
 ·rw[ifP h,ifN (by omega)]
 ·rw[ifN h]
  split
  ·rfl
  ·congr 1;omega
theorem j2L (e:Expr):∀ m,fuE e≤m→cntE e≤1099511627776→q6m m e=some (depE e:Int)∧q6l m e=some (depE e:Int):=by
 induction e using z1R with
 | h e ih=>
  intro m hm hc
  obtain⟨m,rfl⟩:∃ q,m=q+1:=⟨m-1,by have:=z6z e;omega⟩
  show q8U (q6m m) e=_∧q8O (q6l m) e=_
  unfold q8U q8O
  have hx:∀ x∈e.Args,q6m m x=some (depE x:Int)∧q6l m x=some (depE x:Int):=fun x hx=>ih x hx m (by have:=z6A hx;omega) (by have:=k0O hx;omega)
  have k1:=j1C (f:=q6m m) (g:=z5w (q6m m)) (fun k x s=>rfl) e.Args 0 0 fun x h=>(hx x h).1
  have k2:=j1C (f:=q6l m) (g:=z2k (q6l m)) (fun k x s=>by
   unfold z2k
   congr 1;funext y
   rw[j6T,bsS]) e.Args 0 0 fun x h=>(hx x h).2
  rw[show ((0:Nat):Int)=0 from rfl] at k1 k2
  have hd:=k0N e
  rw[k0M] at hd
  rw[k1,k2]
  have hg:I64 (((max 0 (j2o e.Args):Nat):Int)+1):=by constructor<;>omega
  have he:((max 0 (j2o e.Args):Nat):Int)+1=(depE e:Int):=by rw[k0M];omega
  refine⟨?_,?_⟩
  ·rw[bsS,q3G hg,he]
  ·rw[bsS,q3G hg,he]
theorem k0Q {e:Expr}(h:cntE e≤1099511627776):z3y e=some (depE e:Int):=q8H (fuE e) fun m hm=>(j2L e m hm h).1
theorem k0R {e:Expr}(h:cntE e≤1099511627776):z3t e=some (depE e:Int):=q8H (fuE e) fun m hm=>(j2L e m hm h).2
def z9W (a:Int)(n:Nat):Int:=if (n:Int)≤a then a-n else -1
theorem k0S (e:Expr):∀ m,fuE e≤m→∀ a:Int,0≤a→a≤1048576→cntE e≤1099511627776→z2j m e a=some (z9W a (cntE e)):=by
 induction e using z1R with
 | h e ih=>
  intro m hm a h0 h1 hc
  obtain⟨m,rfl⟩:∃ q,m=q+1:=⟨m-1,by have:=z6z e;omega⟩
  show z5k (z2j m) e a=_
  unfold z5k
  rw[q3G (by constructor<;>omega)]
  have hlen:e.Args.length≤cntE e:=by
   rw[z9a]
   have:∀ l:List Expr,l.length≤z4N l:=by
    intro l
    induction l with
    | nil=>simp
    | cons x l ih=>
     have:=z9a x
     simp only[z4N,lnC];omega
   have:=this e.Args;omega
  have key:∀ (n k:Nat) (s:Int),k+n=e.Args.length→-1≤s→s≤1048576→q4Y (z1V (z2j m) e) (s,(k:Int))=some (if 0≤s then z9W s (z4N (e.Args.drop k)) else s):=by
   intro n
   induction n with
   | zero=>
    intro k s hk _ _
    have hdrop:e.Args.drop k=[]:=Dxz (by omega)
    refine q3V ?_
    unfold z1V
    dsimp only
    rw[ifN (by omega),hdrop]
    congr 2
    split
    ·unfold z9W;simp[z4N];omega
    ·rfl
   | succ n ihn=>
    intro k s hk hs1 hs2
    have hkl:k<e.Args.length:=by omega
    by_cases hs:0≤s
    ·have hxm:e.Args[k]∈e.Args:=List.getElem_mem hkl
     have hr:=ih _ hxm m (by have:=z6A hxm;omega) s hs hs2 (by have:=k0O hxm;omega)
     have hstep:z1V (z2j m) e (s,(k:Int))=some (.inl (z9W s (cntE e.Args[k]),((k+1:Nat):Int))):=by
      unfold z1V
      dsimp only
      rw[ifP (by omega),ifP hs,q3G (by omega),tnC,Ckz hkl,bsS,hr,bsS,q3G (by constructor<;>omega)]
      rfl
     have hb1:-1≤z9W s (cntE e.Args[k]):=by unfold z9W;split<;>omega
     have hb2:z9W s (cntE e.Args[k])≤1048576:=by unfold z9W;split<;>omega
     rw[q4Q hstep,ihn (k+1) _ (by omega) hb1 hb2,ifP hs]
     have hd:e.Args.drop k=e.Args[k]::e.Args.drop (k+1):=Cpz hkl
     rw[hd,z4N]
     congr 1
     unfold z9W
     split<;>split<;>(try split)<;>omega
    ·refine q3V ?_
     unfold z1V
     dsimp only
     rw[ifP (by omega),ifN hs,ifN hs]
  have:=key e.Args.length 0 (a-1) (by omega) (by omega) (by omega)
  rw[show ((0:Nat):Int)=0 from rfl] at this
  rw[this,bsS,List.drop_zero,z9a]
  congr 1
  unfold z9W
  split<;>(try split)<;>(try split)<;>omega
theorem k2S {e:Expr}{a:Int}(h0:0≤a)(h1:a≤1048576)(h:cntE e≤1099511627776):j0G e a=some (z9W a (cntE e)):=q8H (fuE e) fun m hm=>k0S e m hm a h0 h1 h
end Go.Proofs.YtnhofaohogianaaGreat
