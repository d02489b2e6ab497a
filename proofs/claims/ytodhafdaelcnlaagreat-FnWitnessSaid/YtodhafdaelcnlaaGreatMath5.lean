/- What those partial functions come to: plain lemmas on data; each bears its conditions in its statement. -/
import Derived.Test.YtodhafdaelcnlaaGreatMath4
set_option linter.unusedVariables false
set_option linter.unusedSimpArgs false
set_option linter.ambiguousOpen false
set_option linter.unusedSectionVars false
set_option linter.unnecessarySimpa false
open List renaming findIdx?_cons->Epz,findIdx?_eq_some_iff_getElem->Eqz,getD_eq_getElem?_getD->Cwz,getElem?_eq_getElem->Cmz,replicate->Bqz,mem_of_getElem?->Bvz,eq_nil_of_length_eq_zero->Awz,range'->Dbz,mem_cons->Dsz,not_mem_nil->Daz
open Nat renaming zero_add->Adz,le_trans->Bgz
open Int renaming natCast_nonneg->Doz
open Option renaming getD_some->Cbz
namespace Go.Proofs.YtodhafdaelcnlaaGreat
open Go Go.E
def ie (g:al)(n:ar):Option Nat:=g.ss_.findIdx? λy=>decide (y.Name=n)
def fl (g:al)(n:ar):Int:=match ie g n with
 | some j=>(j:Int)
 | none=>-1
theorem pk {α ρ:Type}{q:α->Bool}{c:Nat->ρ}:∀ {xs:List α} {i:Nat} {f:Nat->α->Unit->Option (Unit ⊕ ρ)},(∀ j x,xs[j]?=some x->f (i+j) x ()=some (if q x=true then .inr (c (i+j)) else .inl ())) ->
  findL f i xs ()=some (match xs.findIdx? q with|some j=>.inr (c (i+j))|none=>.inl ())
 | [],_,_,_=>rfl
 | x::xs,i,f,h=>by
  rw[findL,show f i x ()=_ from h 0 x rfl,aj,Epz];by_cases hq:q x=true;rw[ao hq,ao hq];rw[an hq,an hq];have ih:=pk (q:=q) (c:=c) (xs:=xs) (i:=i+1) (f:=f) λj y hy=>by
   have:=h (j+1) y (by simpa using hy);rw[show i+1+j=i+(j+1) by omega];exact this
  dsimp only;rw[ih];cases xs.findIdx? q with
  | none=>rfl
  | some j=>simp only[Option.map_some];rw[show i+1+j=i+(j+1) by omega]
theorem qv (g:al)(n:ar):kD g n=some (fl g n):=by
 unfold kD fl ie;rw[pk (q:=λy:ah=>decide (y.Name=n)) (c:=λk=>(k:Int)) λj x hx=>by
  unfold Mb;by_cases hn:x.Name=n;rw[ao hn,ao (by simpa using hn)];rw[an hn,an (by simpa using hn)]]
 cases g.ss_.findIdx? λy=>decide (y.Name=n) with
 | none=>rfl
 | some j=>dsimp only;rw[Adz];rfl
theorem Pz {g:al}{n:ar}{j:Nat}(h:ie g n=some j):j<g.ss_.length:=by
 unfold ie at h;rw[Eqz] at h;exact h.1
def dJ (g:al)(hs:List Int)(n:ar):Bool:=match ie g n with
 | some j=>decide (0<hs.getD j 0)
 | none=>false
def sC (g:al)(hs:List Int)(n:ar):Bool:=g.rs_.any λr=>decide (r.Left=n)&&r.rt_.all (dJ g hs)
theorem FA {α:Type}{q:α->Bool}{f:Nat->α->Bool->Option Bool}:∀ (xs:List α) (i:Nat) (b:Bool),(∀ k x s,x∈xs->f k x s=some (s&&q x))->eachL f i xs b=some (b&&xs.all q)
 | [],_,b,_=>by simp[eachL]
 | x::xs,i,b,h=>by
  rw[eachL,h i x b (by simp),aj,FA xs (i+1) _ λk y s hy=>h k y s (by simp[hy]),List.all_cons,Bool.and_assoc]
theorem getD_some {hs:List Int}{j:Nat}(h:j<hs.length):hs[j]?=some (hs.getD j 0):=by
 rw[Cwz,Cmz h];rfl
theorem Py {g:al}{hs:List Int}(hl:hs.length=g.ss_.length)(n:ar):uB n g hs=some (match ie g n with|some j=>hs.getD j 0|none=>0):=by
 unfold uB ie;rw[pk (q:=λy:ah=>decide (y.Name=n)) (c:=λk=>hs.getD k 0) λj x hx=>by
  unfold GT;have hj:j<g.ss_.length:=(List.getElem?_eq_some_iff.1 hx).1;by_cases hn:x.Name=n;rw[ao hn,ao (by simpa using hn),Adz,getD_some (by omega)];rfl;rw[an hn,an (by simpa using hn)]]
 cases g.ss_.findIdx? λy=>decide (y.Name=n) with
 | none=>rfl
 | some j=>dsimp only;rw[Adz];rfl
theorem WW {g:al}{hs:List Int}(hl:hs.length=g.ss_.length)(xs:List ar)(b:Bool):eachL (BE g hs) 0 xs b=some (b&&xs.all (dJ g hs)):=
 FA xs 0 b λk x s _=>by
  unfold BE dJ;cases s with
  | false=>rfl
  | true=>
   rw[ao rfl,Py hl,aj,aj,Bool.true_and];cases ie g x<;>rfl
theorem WV {g:al}{hs:List Int}(hl:hs.length=g.ss_.length)(xs:List ar)(b:Bool):eachL (Cj g hs) 0 xs b=some (b&&xs.all (dJ g hs)):=
 FA xs 0 b λk x s _=>by
  unfold Cj dJ;rw[qv,aj];unfold fl;cases s with
  | false=>rfl
  | true=>
   cases hj:ie g x with
   | none=>rfl
   | some j=>
    have:=Pz hj;dsimp only;rw[ao rfl,aj,decide_eq_true (Doz j),ao rfl];unfold jt;by_cases h0:(0:Int)<(j:Int);rw[ao h0,aj,aE (Doz j),cd,getD_some (by omega)];rfl;obtain rfl:j=0:=by omega
    rw[an h0,aj,aE (by omega),show (0:Int).toNat=0 from rfl,getD_some (by omega)];rfl
theorem VX {g:al}{hs:List Int}(hl:hs.length=g.ss_.length)(n:ar):uM g n hs=some (sC g hs n):=by
 unfold uM sC;rw[ga (c:=true) (q:=λr:ae=>!(decide (r.Left=n)&&r.rt_.all (dJ g hs))) λk x hx=>by
  unfold G2;rw[WV hl,aj];cases (decide (x.Left=n)&&x.rt_.all (dJ g hs))<;>rfl]
 have e:(g.rs_.all λr=>!(decide (r.Left=n)&&r.rt_.all (dJ g hs)))=!(g.rs_.any λr=>decide (r.Left=n)&&r.rt_.all (dJ g hs)):=by rw[List.not_any_eq_all_not]
 rw[e];cases g.rs_.any λr=>decide (r.Left=n)&&r.rt_.all (dJ g hs)<;>rfl
def e9 (g:al)(hs:List Int):Prop:=hs.length=g.ss_.length/\∀ j,0<=hs.getD j 0
theorem e9.set {g:al}{hs:List Int}(h:e9 g hs){k:Nat}{v:Int}(hv:0<=v):e9 g (hs.set k v):=by
 refine⟨by simpa using h.1,λj=>?_⟩;rw[Cwz,List.getElem?_set];split;split;exact hv;simp;rw[← Cwz];exact h.2 j
theorem DZ {g:al}{hs:List Int}(hl:hs.length=g.ss_.length){v:Int}(k:Nat)(x:ah)(hk:k<g.ss_.length):∀ (rs:List ae) (i:Nat) (s:List Int),s.length=g.ss_.length ->
  eachL (xT g v hs k x) i rs s=some (if (rs.any λr=>decide (r.Left=x.Name)&&r.rt_.all (dJ g hs))=true then s.set k v else s)
 | [],i,s,_=>by simp[eachL]
 | r::rs,i,s,hs'=>by
  have e:xT g v hs k x i r s=some (if (decide (r.Left=x.Name)&&r.rt_.all (dJ g hs))=true then s.set k v else s):=by
   unfold xT;rw[WW hl,aj];cases (decide (r.Left=x.Name)&&r.rt_.all (dJ g hs)) with
   | false=>rfl
   | true=>rw[ao rfl,ao rfl,Cmz (by omega)];rfl
  rw[eachL,e,aj];by_cases Y:(decide (r.Left=x.Name)&&r.rt_.all (dJ g hs))=true;rw[ao Y,DZ hl k x hk rs (i+1) (s.set k v) (by simpa using hs')];have:(r::rs).any (λr=>decide (r.Left=x.Name)&&r.rt_.all (dJ g hs))=true:=by rw[List.any_cons,Y];rfl
  rw[ao this,List.set_set,ite_self];rw[an Y,DZ hl k x hk rs (i+1) s hs'];have:(r::rs).any (λr=>decide (r.Left=x.Name)&&r.rt_.all (dJ g hs))=rs.any (λr=>decide (r.Left=x.Name)&&r.rt_.all (dJ g hs)):=by rw[List.any_cons,Bool.eq_false_iff.2 Y];rfl
  rw[this]
theorem O2 {g:al}{hs:List Int}(h:e9 g hs){v:Int}{k:Nat}{x:ah}(hk:k<g.ss_.length){s:List Int}(hs' : s.length=g.ss_.length) :
  xS g v hs k x s=some (if (decide (hs.getD k 0=0)&&sC g hs x.Name)=true then s.set k v else s):=by
 have h0:=h.2 k;unfold xS;rw[getD_some (by rw[h.1];exact hk),aj];by_cases hz:hs.getD k 0=0;rw[an (by omega),decide_eq_true hz,DZ h.1 k x hk _ _ _ hs'];rfl;rw[ao (by omega),decide_eq_false hz];rfl
theorem O1 {g:al}{hs:List Int}(h:e9 g hs){v:Int}{k:Nat}{x:ah}(hk:k<g.ss_.length){s:List Int}(hs' : s.length=g.ss_.length) :
  yI g hs v k x s=some (if (decide (hs.getD k 0=0)&&sC g hs x.Name)=true then s.set k v else s):=by
 unfold yI;rw[getD_some (by rw[h.1];exact hk),aj];by_cases hz:hs.getD k 0=0;rw[ao hz,decide_eq_true hz,VX h.1,aj,Bool.true_and];cases sC g hs x.Name with
 | false=>rfl
 | true=>rw[ao rfl,ao rfl,Cmz (by omega)];rfl
 rw[an hz,decide_eq_false hz];rfl
theorem Mz {g:al}{hs:List Int}(h:e9 g hs){v:Int}(hv:0<=v):∀ (xs:List ah) (i:Nat) (s:List Int),i+xs.length=g.ss_.length->e9 g s ->
  ∃ t,eachL (xS g v hs) i xs s=some t/\eachL (yI g hs v) i xs s=some t/\e9 g t
 | [],i,s,_,hs'=>⟨s,rfl,rfl,hs'⟩
 | x::xs,i,s,hi,hs'=>by
  simp only[bC] at hi;have e1:=O2 (x:=x) h (v:=v) (k:=i) (by omega) hs'.1;have e2:=O1 (x:=x) h (v:=v) (k:=i) (by omega) hs'.1;have hn:e9 g (if (decide (hs.getD i 0=0)&&sC g hs x.Name)=true then s.set i v else s):=by
   split;exact hs'.set hv;exact hs'
  obtain⟨t,U,K,h3⟩:=Mz h hv xs (i+1) _ (by omega) hn;exact⟨t,by rw[eachL,e1,aj,U],by rw[eachL,e2,aj,K],h3⟩
theorem NQ {g:al}(hn:g.ss_.length<=1048576):∃ l,rz g=some l/\uL g=some l/\e9 g l:=by
 have key:∀ (m k:Nat) (hs:List Int),k+m=g.ss_.length+1->1<=k->e9 g hs->∃ t,bA (rG g) ((k:Int),hs)=some t/\bA (rV g) (hs,(k:Int))=some t/\e9 g t:=by
  intro m
  induction m with
  | zero=>
   intro k hs hk _ h;refine⟨hs,cF ?_,cF ?_,h⟩;unfold rG;dsimp only;rw[an (by omega)];unfold rV;dsimp only;rw[an (by omega)]
  | succ m ih=>
   intro k hs hk U h;have hl:=h.1;obtain⟨t,e1,e2,e3⟩:=Mz h (v:=(k:Int)) (by omega) g.ss_ 0 hs (by omega) h;obtain⟨q,f1,f2,f3⟩:=ih (k+1) t (by omega) (by omega) e3;refine⟨q,?_,?_,f3⟩;have e:rG g ((k:Int),hs)=some (.inl (((k+1:Nat):Int),t)):=by
    unfold rG;dsimp only;rw[ao (by omega),aE (by refine⟨?_,?_,?_⟩<;>omega),aE (by simp),e1,aj,aE (by constructor<;>omega)];rfl
   rw[eh e];exact f1;have e:rV g (hs,(k:Int))=some (.inl (t,((k+1:Nat):Int))):=by
    unfold rV;dsimp only;rw[ao (by omega),aE (by simp only[List.length_nil];constructor<;>omega),e2,aj,aE (by constructor<;>omega)];rfl
   rw[eh e];exact f2
 have h0:e9 g (Bqz g.ss_.length (0:Int)):=⟨by simp,λj=>by rw[Cwz,List.getElem?_replicate];split<;>simp⟩
 obtain⟨t,f1,f2,f3⟩:=key g.ss_.length 1 (Bqz g.ss_.length 0) (by omega) (by omega) h0;refine⟨t,?_,?_,f3⟩;unfold rz;rw[aE (by refine⟨?_,?_,?_⟩<;>omega),show bA (rG g) (1,Bqz g.ss_.length 0)=some t from f1];rfl;unfold uL;rw[aE (by refine⟨?_,?_,?_⟩<;>omega),show bA (rV g) (Bqz g.ss_.length 0,1)=some t from f2];rfl
theorem Shape.names {g:al}(h:Shape g){k j:Nat}{x y:ah}(hk:g.ss_[k]?=some x)(hj:g.ss_[j]?=some y)(hn:x.Name=y.Name):k=j:=by
 have key:∀ {k j:Nat} {x y:ah},g.ss_[k]?=some x->g.ss_[j]?=some y->x.Name=y.Name->¬ k<j:=by
  intro k j x y hk hj hn hlt;have:=py _ _ h.sym j y hj;unfold jA at this;rw[Bool.or_eq_false_iff] at this;have K:=this.2;unfold dw at K;rw[List.nil_append,List.any_eq_false] at K;exact K x (Bvz (i:=k) (by rw[List.getElem?_take,ao hlt];exact hk)) (by simpa using hn)
 have U:=key hk hj hn;have K:=key hj hk hn.symm;omega
theorem Shape.at_ {g:al}(h:Shape g){k:Nat}{x:ah}(hk:g.ss_[k]?=some x):ie g x.Name=some k:=by
 unfold ie;cases he:g.ss_.findIdx? λy=>decide (y.Name=x.Name) with
 | none=>
  rw[List.findIdx?_eq_none_iff] at he;have:=he x (Bvz hk);simp at this
 | some j=>
  rw[Eqz] at he;obtain⟨hj,U,_⟩:=he;rw[h.names (Cmz hj) hk (by simpa using U)]
noncomputable def qF (g:al):List Int:=(rz g).getD []
noncomputable def sk (g:al):Int×Int:=
 if (kz g).1=0 then
  match g.rs_.findIdx? λr=>!fU g r with
  | some k=>(7,(k:Int))
  | none=>match (qF g).findIdx? λx=>decide (x=0) with
   | some k=>(8,(k:Int))
   | none=>(0,0)
 else kz g
theorem Ut {g:al}(h:Sz.szd g<=1048576):vv g=some (sk g):=by
 unfold vv sk;rw[VZ h,aj];dsimp only;by_cases h0:(kz g).1=0;rw[ao h0,ao h0];rw[tx (q:=λr=>!fU g r) (c:=λk=>((7:Int),(k:Int))) λk r Z=>by
  unfold He;rw[Uv g (Bgz (gv Z) h),aj,← apply_ite some]]
 cases g.rs_.findIdx? λr=>!fU g r with
 | some k=>dsimp only;rw[Adz];rfl
 | none=>
  obtain⟨l,e1,e2,e3⟩:=NQ (g:=g) (Ec h).1;rw[aj,lL,e1,aj];unfold qF;rw[e1,Cbz];rw[tx (q:=λx:Int=>decide (x=0)) (c:=λk=>((8:Int),(k:Int))) λk x hx=>by
   unfold Hd;by_cases hz:x=0;rw[ao hz,ao (by simpa using hz)];rw[an hz,an (by simpa using hz)]]
  dsimp only;cases l.findIdx? λx=>decide (x=0) with
  | some k=>dsimp only;rw[Adz];rfl
  | none=>rfl
 rw[an h0,an h0]
theorem Us {g:al}(h:Sz.szd g<=1048576):vk g=some (sk g):=by
 unfold vk sk;rw[VY h,aj];dsimp only;by_cases h0:(kz g).1=0;have hS:=J9 h0;rw[ao h0,ao h0];rw[tx (q:=λr=>!fU g r) (c:=λk=>((7:Int),(k:Int))) λk r Z=>by
  unfold Hf;rw[Uu (gZ h) (Bgz (gv Z) h) λq hq=>hS.pos Z hq,aj];cases fU g r<;>rfl]
 cases g.rs_.findIdx? λr=>!fU g r with
 | some k=>dsimp only;rw[Adz];rfl
 | none=>
  obtain⟨l,e1,e2,e3⟩:=NQ (g:=g) (Ec h).1;rw[aj,lL];unfold qF;rw[e1,Cbz];have hprod:∀ k x,g.ss_[k]?=some x->vl g x.Name=some (!decide (l.getD k 0=0)):=by
   intro k x hk;have hk' : k<g.ss_.length:=(List.getElem?_eq_some_iff.1 hk).1;have ha:fl g x.Name=(k:Int):=by unfold fl;rw[hS.at_ hk]
   unfold vl yj;rw[qv,ha,aj,an (by omega),e2,aj,aE (by omega),cd,getD_some (by rw[e3.1];exact hk'),aj,aj];have:=e3.2 k;congr 1;by_cases hz:l.getD k 0=0;rw[decide_eq_true hz,decide_eq_false (by omega)];rfl;rw[decide_eq_false hz,decide_eq_true (by omega)];rfl
  have hrun:∀ (xs:List ah) (ys:List Int) (i:Nat),(∀ j x,xs[j]?=some x->g.ss_[i+j]?=some x)->ys.length=xs.length->(∀ j y,ys[j]?=some y->l.getD (i+j) 0=y) ->
    findL (za g) i xs ()=some (match ys.findIdx? λx=>decide (x=0) with|some j=>.inr (8,((i+j:Nat):Int))|none=>.inl ()):=by
   intro xs
   induction xs with
   | nil=>
    intro ys i _ hl _;obtain rfl:=Awz hl;rfl
   | cons x xs ih=>
    intro ys i hx hl hy;cases ys with
    | nil=>simp at hl
    | cons y ys=>
     have U:=hprod i x (by simpa using hx 0 x rfl);have K:l.getD i 0=y:=by simpa using hy 0 y rfl
     have ih:=ih ys (i+1) (λj z hz=>by rw[show i+1+j=i+(j+1) by omega];exact hx (j+1) z (by simpa using hz)) (by simpa using hl) λj z hz=>by
      rw[show i+1+j=i+(j+1) by omega];exact hy (j+1) z (by simpa using hz)
     rw[K] at U;have e:za g i x ()=some (if y=0 then .inr (8,(i:Int)) else .inl ()):=by
      unfold za;rw[U,aj];by_cases hz:y=0;rw[decide_eq_true hz,ao hz];rfl;rw[decide_eq_false hz,an hz];rfl
     rw[findL,e,aj,Epz];by_cases hz:y=0;rw[ao hz,ao (by simpa using hz)];rfl;rw[an hz,an (by simpa using hz)];dsimp only;rw[ih];cases ys.findIdx? λx=>decide (x=0) with
     | none=>rfl
     | some j=>simp only[Option.map_some];rw[show i+1+j=i+(j+1) by omega]
  rw[hrun g.ss_ l 0 (λj x hx=>by rw[Adz];exact hx) e3.1 λj y hy=>by rw[Adz,Cwz,hy];rfl];dsimp only;cases l.findIdx? λx=>decide (x=0) with
  | some k=>dsimp only;rw[Adz];rfl
  | none=>rfl
 rw[an h0,an h0]
noncomputable def nq (g:al):Bool:=decide ((sk g).1=0)
theorem tq {g:al}(h:Sz.szd g<=1048576):rF g=some (nq g):=by
 unfold rF;rw[Ut h];rfl
theorem EZ {g:al}(h:Sz.szd g<=1048576):rB g=some (nq g):=by
 unfold rB;rw[Us h];rfl
theorem uf {g:al}(h:nq g=true):Shape g:=by
 refine J9 ?_;unfold nq at h;rw[decide_eq_true_eq] at h;unfold sk at h;by_cases h0:(kz g).1=0;exact h0;rw[an h0] at h;exact h
theorem P9 {n:Nat}{x y:Int}(hx:0<=x/\x<=((2 ^ n:Nat):Int)-1)(hy:0<=y/\y<=((2 ^ n:Nat):Int)-1):0<=gS x y/\gS x y<=((2 ^ n:Nat):Int)-1:=by
 have:=Nat.or_lt_two_pow (n:=n) (x:=x.toNat) (y:=y.toNat) (by omega) (by omega);unfold gS;omega
def vg (a:au):Nat:=(a.Rows.map Int.toNat).sum
theorem VW {a:au}(ha:aL a):vg a<=16*65535:=by
 have key:∀ l:List Int,(∀ x∈l,x.toNat<=65535)->(l.map Int.toNat).sum<=l.length*65535:=by
  intro l
  induction l with
  | nil=>intro _;simp
  | cons x l ih=>
   intro h;have U:=h x (by simp);have K:=ih λy hy=>h y (by simp[hy]);simp only[List.map_cons,List.sum_cons,bC];omega
 have U:=key a.Rows λx hx=>by
  have:=ha.2.2.2 x hx;have:=O4 ha.2.1;omega
 have hl:a.Rows.length<=16:=by have:=ha.2.2.1;have:=ha.2.1;omega
 exact Bgz U (Nat.mul_le_mul_right 65535 hl)
theorem Jf {b:List Int}{f:Nat->Int->Unit->Option (Unit ⊕ Bool)}(hf:∀ k x,f k x ()=(b[k]?).bind λx2=>if x=x2 then some (.inl ()) else some (.inr false)) :
  ∀ (xs ys:List Int) (i:Nat),xs.length=ys.length->(∀ j,b[i+j]?=ys[j]?)->findL f i xs ()=some (if xs=ys then .inl () else .inr false)
 | [],ys,i,hl,_=>by obtain rfl:=Awz hl.symm;rfl
 | x::xs,[],i,hl,_=>by simp at hl
 | x::xs,y::ys,i,hl,Y=>by
  have h0:b[i]?=some y:=by simpa using Y 0
  rw[findL,hf,h0,aj];by_cases hx:x=y;rw[ao hx,aj];dsimp only;rw[Jf hf xs ys (i+1) (by simpa using hl) λj=>by have:=Y (j+1);rw[show i+1+j=i+(j+1) by omega];simpa using this];subst hx;by_cases he:xs=ys;rw[ao he,ao (by rw[he])];rw[an he,an (by intro hh;injection hh with _ K;exact he K)];rw[an hx,aj];dsimp only;rw[an (by intro hh;injection hh with K _;exact hx K)]
theorem Je (a b:au):vB a b=some (decide (a=b)):=by
 obtain⟨n,xs⟩:=a;obtain⟨m,ys⟩:=b;unfold vB pr;dsimp only;by_cases hn:n=m;rw[ao hn];by_cases hl:xs.length=ys.length;rw[ao (by omega),Jf (b:=ys) (λk x=>rfl) xs ys 0 hl λj=>by rw[Adz]];by_cases he:xs=ys;rw[ao he,decide_eq_true (by rw[hn,he])];rfl;rw[an he,decide_eq_false (by intro hh;injection hh with _ K;exact he K)];rfl;rw[an (by omega),decide_eq_false (by intro hh;injection hh with _ K;exact hl (by rw[K]))];rfl;rw[an hn,decide_eq_false (by intro hh;injection hh with U _;exact hn U)]
theorem S0 (a b:au):yZ a b=some (decide (a=b)):=by
 rw[← Je];rfl
noncomputable def jn (r:au):Bool:=decide (∃ k:Nat,k<r.Rows.length/\bG (dr r) (k:Int) (k:Int))
theorem KQ {r:au}(h:r.Rows.length<=1048576):rv r=some (jn r):=X2 h
theorem KP {r:au}(h:r.Rows.length<=1048576):pA r=some (jn r):=by
 unfold pA jn;rw[nU,aj];by_cases hv:aL r;rw[decide_eq_true hv,ao rfl,Lj h,aj];have hN:r.N.toNat=r.Rows.length:=by have:=hv.2.2.1;omega
 rw[hN,Fl (c:=true) (n:=r.Rows.length) (q:=λk=>!decide (bG (dr r) (k:Int) (k:Int))) (λk hk=>by
  unfold NA;rw[pH,aj];by_cases hp:bG (dr r) (k:Int) (k:Int);rw[decide_eq_true hp];rfl;rw[decide_eq_false hp];rfl) r.Rows.length 0 (by omega)]
 by_cases he:∃ k:Nat,k<r.Rows.length/\bG (dr r) (k:Int) (k:Int);rw[decide_eq_true he,an];· rfl
 obtain⟨k,hk,hp⟩:=he;rw[List.all_eq_true];intro hh;have:=hh k (by simp;omega);simp[hp] at this;rw[decide_eq_false he,ao];· rfl
 rw[List.all_eq_true];intro k hk;simp at hk;have:¬ bG (dr r) (k:Int) (k:Int):=λhp=>he ⟨k,hk,hp⟩;simp[this];rw[decide_eq_false hv,an (by simp),decide_eq_false];rintro⟨k,hk,hp⟩;have:dr r=r:=by unfold dr;rw[an hv]
 rw[this] at hp;exact hv hp.1
def ct (g:al)(s:ar):List aI:=(bR g s).1.as_.filter sI
theorem Ga {g:al}(h:dP g)(s:ar):(ct g s).length<=1048576:=Bgz (List.length_filter_le _ _) (pn h s)
theorem Lc {l:List aI}(h:l.length<=1048576):eachL qa 0 l []=some (l.filter sI):=by
 have:=rk (p:=sI) (g:=λx:aI=>x) (B:=1048577) (f:=qa) (λk x s hs=>by
  have hg:((s.length:Int)+1)*40<=140737488355328/\(s.length:Int)+1<=9223372036854775807:=by constructor<;>omega
  unfold qa sI;rw[aE hg];by_cases m1:x.Mode=1;rw[ao m1,ao (by simp[m1])];rfl;rw[an m1];by_cases m2:x.Mode=2;rw[ao m2,ao (by simp[m2])];rfl;rw[an m2,an (by simp[m1,m2])];rfl) l 0 [] (by simp;omega)
 rw[this];simp
theorem Fz {g:al}(h:dP g)(s:ar):ox g s=some (ct g s):=by
 unfold ox ct;rw[lR h,aj]
 try dsimp only
 rw[Lc (pn h s)];rfl
theorem LU {g:al}(h:dP g)(s:ar):kV g s=some (ct g s):=by
 unfold kV ct;rw[po,aj]
 try dsimp only
 rw[MO,Lc (pn h s)];rfl
def cB (g:al)(r:ae)(k:Nat):List Oc:=(ct g (cE r (k:Int))).map λx=>(⟨(k:Int),x.Name⟩:Oc)
def bX (g:al)(r:ae):List Oc:=(Dbz 0 (r.rt_.length+1)).flatMap (cB g r)
theorem KO {g:al}(h:dP g)(r:ae)(k:Nat):(cB g r k).length<=1048576:=by unfold cB;rw[bc];exact Ga h _
theorem AN {g:al}(h:dP g){r:ae}(hl:fm r):kU g r=some (bX g r):=by
 have hl' : r.rt_.length<=1048576:=hl;have key:=Gc (h:=cB g r) (C:=1048576) (n:=r.rt_.length+1) (f:=jO g r) (λk s hk hs=>by
  unfold jO;rw[wE hl,aj,LU h,aj,tA k _ 0 s (by have:=Ga h (cE r (k:Int));omega)];rfl)
  (λk _=>KO h r k) (r.rt_.length+1) 0 [] (by omega) (by simp)
 unfold kU;rw[aE (by constructor<;>omega),key];rfl
theorem Jd {g:al}(h:dP g){r:ae}(hl:fm r):mV g r=some (bX g r):=by
 have hl' : r.rt_.length<=1048576:=hl;have key:=Fo (h:=cB g r) (C:=1048576) (n:=r.rt_.length+1) (f:=l7 g r) (λk s hk hs=>by
  unfold l7;dsimp only;rw[ao (by omega),mz hl,aj,Fz h,aj,Kd,tA k _ 0 s (by have:=Ga h (cE r (k:Int));omega),aj,aE (by constructor<;>omega)];rfl) (λs=>by
  unfold l7;dsimp only;rw[an (by omega)]) (λk _=>KO h r k) (r.rt_.length+1) 0 [] (by omega) (by simp)
 unfold mV;have e:bA (l7 g r) (([]:List Oc),0)=some ([]++(Dbz 0 (r.rt_.length+1)).flatMap (cB g r)):=key;rw[e];rfl
theorem KN {g:al}(h:dP g){r:ae}(hl:fm r):(bX g r).length<=1099512676352:=by
 obtain⟨l,_,K,h3⟩:=A5 h hl;rw[AN h hl] at K;cases K;exact h3
def dU (g:al)(r:ae)(k:Int):List Int:=(((bX g r).zipIdx 0).filter λq=>decide (q.1.Pos=k)).map λq=>(q.2:Int)
theorem KM (k:Int){l:List Oc}(h:l.length<=1099512676352):eachL (p9 k) 0 l []=some (((l.zipIdx 0).filter λq=>decide (q.1.Pos=k)).map λq=>(q.2:Int)):=by
 have:=Fp (p:=λx:Oc=>decide (x.Pos=k)) (g:=λi:Nat=>(i:Int)) (B:=4398046511104) (f:=p9 k) (λi x s hs=>by
  have hg:((s.length:Int)+1)*8<=140737488355328/\(s.length:Int)+1<=9223372036854775807:=by constructor<;>omega
  unfold p9;rw[aE hg];by_cases m1:x.Pos=k;rw[ao m1,ao (by simp[m1])];rfl;rw[an m1,an (by simp[m1])];rfl) l 0 [] (by simp;omega)
 rw[this];simp
theorem SZ {g:al}(h:dP g){r:ae}(hl:fm r)(k:Int):p8 g r k=some (dU g r k):=by
 unfold p8 dU;rw[Jd h hl,aj,KM k (KN h hl)];rfl
theorem SY {g:al}(h:dP g){r:ae}(hl:fm r)(k:Int):lZ g r k=some (dU g r k):=by
 unfold lZ dU;rw[AN h hl,aj,G0,KM k (KN h hl)];rfl
theorem LS {α:Type}(p:α->Bool):∀ (l:List α) (i:Nat),((l.zipIdx i).filter λq=>p q.1).length=l.countP p
 | [],i=>rfl
 | x::l,i=>by
  rw[List.zipIdx_cons,List.filter_cons,List.countP_cons];have ih:=LS p l (i+1);by_cases hp:p x=true;rw[ao hp,ao hp,bC,ih];rw[an hp,an hp,ih];rfl
theorem SX (g:al){r:ae}{k:Nat}(hk:k<=r.rt_.length):(dU g r (k:Int)).length=(ct g (cE r (k:Int))).length:=by
 unfold dU;rw[bc,LS (λx:Oc=>decide (x.Pos=(k:Int)))];unfold bX;rw[List.countP_flatMap];have hK:∀ j:Nat,(cB g r j).countP (λx=>decide (x.Pos=(k:Int)))=if j=k then (ct g (cE r (k:Int))).length else 0:=by
  intro j;unfold cB;rw[List.countP_map];by_cases hj:j=k;subst hj;rw[ao rfl,List.countP_eq_length.2 (by simp)];rw[an hj,List.countP_eq_zero.2];intro a _;simp;omega
 have hsum:∀ m i,((Dbz i m).map (List.countP (λx:Oc=>decide (x.Pos=(k:Int))) ∘ cB g r)).sum=if i<=k/\k<i+m then (ct g (cE r (k:Int))).length else 0:=by
  intro m
  induction m with
  | zero=>intro i;rw[an (by omega)];rfl
  | succ m ih=>
   intro i;rw[List.range'_succ,List.map_cons,List.sum_cons,ih (i+1),Function.comp,hK i];by_cases U:i=k;rw[ao U,an (by omega),ao (by omega)];rfl;rw[an U,Adz];by_cases K:i+1<=k/\k<i+1+m;rw[ao K,ao (by omega)];rw[an K,an (by omega)]
 rw[hsum,ao (by omega)]
noncomputable def gm (own:au) (a:Nat) (x:Int):Nat->List Int->au->au
 | _,[],o=>o
 | i,y::ys,o=>gm own a x (i+1) ys (if bG own (a:Int) (i:Int) then cC o x y else o)
noncomputable def js (own:au) (at' : List Int):Nat->List Int->au->au
 | _,[],o=>o
 | a,x::xs,o=>js own at' (a+1) xs (gm own a x 0 at' o)
theorem F9 (own:au)(a:Nat)(x:Int):∀ (ys:List Int) (i:Nat) (o:au),(gm own a x i ys o).Rows.length=o.Rows.length/\(gm own a x i ys o).N=o.N
 | [],i,o=>⟨rfl,rfl⟩
 | y::ys,i,o=>by
  rw[gm];have ih:=F9 own a x ys (i+1) (if bG own (a:Int) (i:Int) then cC o x y else o);by_cases h:bG own (a:Int) (i:Int);rw[ao h] at ih ⊢;have:=qV o x y;exact⟨ih.1.trans this.1,ih.2.trans this.2⟩;rw[an h] at ih ⊢;exact ih
theorem No (own:au)(at' : List Int):∀ (xs:List Int) (a:Nat) (o:au),(js own at' a xs o).Rows.length=o.Rows.length/\(js own at' a xs o).N=o.N
 | [],a,o=>⟨rfl,rfl⟩
 | x::xs,a,o=>by
  rw[js];have ih:=No own at' xs (a+1) (gm own a x 0 at' o);have:=F9 own a x at' 0 o;exact⟨ih.1.trans this.1,ih.2.trans this.2⟩
theorem Jc (own:au)(a:Nat)(x:Int):∀ (ys:List Int) (i:Nat) (o:au),o.Rows.length<=1048576 ->
  eachL (yS own a x) i ys (o.Rows,o.N)=some ((gm own a x i ys o).Rows,(gm own a x i ys o).N)/\eachL (w9 own a x) i ys (o.N,o.Rows)=some ((gm own a x i ys o).N,(gm own a x i ys o).Rows)
 | [],i,o,_=>⟨rfl,rfl⟩
 | y::ys,i,o,h=>by
  have e1:yS own a x i y (o.Rows,o.N)=some ((if bG own (a:Int) (i:Int) then cC o x y else o).Rows,(if bG own (a:Int) (i:Int) then cC o x y else o).N):=by
   unfold yS;dsimp only;rw[pH,aj];by_cases hp:bG own (a:Int) (i:Int);rw[decide_eq_true hp,ao rfl,ao hp,wu h];rfl;rw[decide_eq_false hp,an (by simp),an hp];rfl
  have e2:w9 own a x i y (o.N,o.Rows)=some ((if bG own (a:Int) (i:Int) then cC o x y else o).N,(if bG own (a:Int) (i:Int) then cC o x y else o).Rows):=by
   unfold w9;dsimp only;rw[BK,aj];by_cases hp:bG own (a:Int) (i:Int);rw[decide_eq_true hp,ao rfl,ao hp,A7,wu h];rfl;rw[decide_eq_false hp,an (by simp),an hp];rfl
  have hl:(if bG own (a:Int) (i:Int) then cC o x y else o).Rows.length<=1048576:=by
   split;rw[(qV o x y).1];exact h;exact h
  have ih:=Jc own a x ys (i+1) _ hl;rw[eachL,eachL,e1,e2,aj,aj,gm];exact ih
theorem EY (own:au)(at' : List Int):∀ (xs:List Int) (a:Nat) (o:au),o.Rows.length<=1048576 ->
  eachL (yR own at') a xs (o.Rows,o.N)=some ((js own at' a xs o).Rows,(js own at' a xs o).N)/\eachL (w8 own at') a xs (o.N,o.Rows)=some ((js own at' a xs o).N,(js own at' a xs o).Rows)
 | [],a,o,_=>⟨rfl,rfl⟩
 | x::xs,a,o,h=>by
  have U:=Jc own a x at' 0 o h;have hl:(gm own a x 0 at' o).Rows.length<=1048576:=by rw[(F9 own a x at' 0 o).1];exact h
  have ih:=EY own at' xs (a+1) _ hl;have e1:yR own at' a x (o.Rows,o.N)=some ((gm own a x 0 at' o).Rows,(gm own a x 0 at' o).N):=by
   unfold yR;dsimp only;rw[U.1];rfl
  have e2:w8 own at' a x (o.N,o.Rows)=some ((gm own a x 0 at' o).N,(gm own a x 0 at' o).Rows):=by
   unfold w8;dsimp only;rw[U.2];rfl
  rw[eachL,eachL,e1,e2,aj,aj,js];exact ih
noncomputable def lE (g:al) (r:ae) (o:au) (pos:Int) (own:au):au:=js own (dU g r pos) 0 (dU g r pos) o
theorem VV {g:al}(h:dP g){r:ae}(hl:fm r){o:au}(ho:o.Rows.length<=1048576)(pos:Int)(own:au):sW g r o pos own=some (lE g r o pos own):=by
 unfold sW lE;rw[SY h hl,aj,(EY own (dU g r pos) (dU g r pos) 0 o ho).2];rfl
theorem rC {r:ae}{k:Nat}{x:ar}(h:r.rt_[k]?=some x):cE r ((k+1:Nat):Int)=x:=by
 have hk:=(List.getElem?_eq_some_iff.1 h).1;unfold cE;rw[an (by omega),ao (by omega),show (((k+1:Nat):Int)-1).toNat=k by omega,Cwz,h];rfl
noncomputable def fO (g:al) (r:ae):Nat->List au->au->au
 | _,[],o=>o
 | k,own::l,o=>fO g r (k+1) l (lE g r o ((k+1:Nat):Int) own)
theorem WU (g:al)(r:ae)(o:au)(pos:Int)(own:au):(lE g r o pos own).Rows.length=o.Rows.length:=(No own _ _ 0 o).1
def lC (g:al)(r:ae)(list:List au):Prop:=list.length=r.rt_.length/\∀ k own,list[k]?=some own->aL own/\own.N=((ct g (cE r ((k+1:Nat):Int))).length:Int)
theorem LR {g:al}(h:dP g){r:ae}(hl:fm r){list:List au}(hf:lC g r list):∀ (m k:Nat) (o:au),k+m=list.length->o.Rows.length<=1048576 ->
  findL (yQ g r) k (list.drop k) (o.Rows,o.N)=some (.inl ((fO g r k (list.drop k) o).Rows,(fO g r k (list.drop k) o).N)) /\
  findL (yW g r) k (list.drop k) (o.Rows,o.N)=some (.inl ((fO g r k (list.drop k) o).Rows,(fO g r k (list.drop k) o).N))/\(fO g r k (list.drop k) o).Rows.length=o.Rows.length
 | 0,k,o,hk,_=>by rw[List.drop_eq_nil_of_le (by omega)];exact⟨rfl,rfl,rfl⟩
 | m+1,k,o,hk,ho=>by
  have hk' : k<list.length:=by omega
  rw[List.drop_eq_getElem_cons hk'];have hv:=hf.2 k list[k] (Cmz hk');have hR:k<r.rt_.length:=by rw[← hf.1];exact hk'
  have hsym:=rC (r:=r) (k:=k) (Cmz hR);have hpl:=SX g (r:=r) (k:=k+1) (by omega);have e1:yQ g r k list[k] (o.Rows,o.N)=some (.inl ((lE g r o ((k+1:Nat):Int) list[k]).Rows,(lE g r o ((k+1:Nat):Int) list[k]).N)):=by
   unfold yQ;dsimp only;rw[SZ h hl,aj,nU,aj,decide_eq_true hv.1,ao rfl,ao (by rw[hpl];exact hv.2),(EY list[k] _ _ 0 o ho).1];rfl
  have e2:yW g r k list[k] (o.Rows,o.N)=some (.inl ((lE g r o ((k+1:Nat):Int) list[k]).Rows,(lE g r o ((k+1:Nat):Int) list[k]).N)):=by
   unfold yW;dsimp only;rw[Cmz hR,aj,LU h,aj,ao (by rw[← hsym];exact hv.2),VV h hl ho];rfl
  have hlen:=WU g r o ((k+1:Nat):Int) list[k];have ih:=LR h hl hf m (k+1) (lE g r o ((k+1:Nat):Int) list[k]) (by omega) (by rw[hlen];exact ho);rw[findL,findL,e1,e2,aj,aj,fO];exact⟨ih.1,ih.2.1,ih.2.2.trans hlen⟩
noncomputable def dv (g:al) (r:ae):au:=(qd g r).getD ⟨0,[]⟩
theorem IN {g:al}{r:ae}(h:Sz.szd g<=1048576)(Z:Sz.szd r<=1048576):qd g r=some (dv g r)/\qb g r=some (dv g r)/\(dv g r).Rows.length<=16:=by
 obtain⟨x,U,K,h3⟩:=W0 h Z;unfold dv;rw[U,K];exact⟨rfl,rfl,h3⟩
noncomputable def dQ (g:al) (r:ae) (list:List au):au:=if 16<(bX g r).length then ⟨0,[]⟩ else dr (fO g r 0 list (dv g r))
theorem nD {g:al}{r:ae}(h:Sz.szd g<=1048576)(Z:Sz.szd r<=1048576){list:List au}(hf:lC g r list):og g r list=some (dQ g r list)/\rU g r list=some (dQ g r list)/\(dQ g r list).Rows.length<=16:=by
 have hg:=gZ h;have hl:=iv Z;obtain⟨l1,l2,l3⟩:=IN h Z;have hn:(list.length:Int)=(r.rt_.length:Int):=by rw[hf.1]
 unfold og rU;rw[Jd hg hl,AN hg hl];simp only[aj];rw[ao hn,ao hn];simp only[aj];by_cases h16:16<(bX g r).length;have hi:(16:Int)<((bX g r).length:Int):=by omega
 have hc:dQ g r list=⟨0,[]⟩:=ao h16;rw[hc,decide_eq_true hi,ao rfl,ao hi];exact⟨rfl,rfl,by simp⟩;have hi:¬ (16:Int)<((bX g r).length:Int):=by omega
 have hc:dQ g r list=dr (fO g r 0 list (dv g r)):=an h16;rw[hc,decide_eq_false hi,an (by simp),an hi,l1,l2,aj,aj];have key:=LR hg hl hf list.length 0 (dv g r) (by omega) (by omega);rw[List.drop_zero] at key;have hlen:(fO g r 0 list (dv g r)).Rows.length<=16:=by rw[key.2.2];exact l3
 rw[key.1,key.2.1,aj,aj,lL,lL];dsimp only;rw[Lj (r:=⟨(fO g r 0 list (dv g r)).N,(fO g r 0 list (dv g r)).Rows⟩) (by show (fO g r 0 list (dv g r)).Rows.length<=_;omega),Li (r:=⟨(fO g r 0 list (dv g r)).N,(fO g r 0 list (dv g r)).Rows⟩) (by show (fO g r 0 list (dv g r)).Rows.length<=_;omega)];exact⟨rfl,rfl,by rw[(MP _).1];exact hlen⟩
section
variable {α β ρ σ:Type}{Q:β->Prop}{b:List UInt8}
theorem Ok.bif {c:Prop}[Decidable c]{A B:Option α}{k:α->Option β}(U:c->Ok Q (A.bind k))(K:¬ c->Ok Q (B.bind k)):Ok Q ((if c then A else B).bind k):=by
 by_cases hc:c;rw[ao hc];exact U hc;rw[an hc];exact K hc
theorem Ok.bso {x:α}{k:α->Option β}(h:Ok Q (k x)):Ok Q ((some x).bind k):=h
theorem Ok.bbi {γ:Type}{A:Option α}{B:α->Option γ}{k:γ->Option β}(h:Ok Q (A.bind λx=>(B x).bind k)):Ok Q ((A.bind B).bind k):=by
 rw[Option.bind_assoc];exact h
theorem Ok.bgr {c:Prop}[Decidable c]{A:Option α}{k:α->Option β}(hc:c)(h:Ok Q (A.bind k)):Ok Q ((Go.E.grd c A).bind k):=by rw[aE hc];exact h
theorem Ok.get {l:List α}{j:Nat}{k:α->Option β}(hj:j<l.length)(h:∀ x,x∈l->Ok Q (k x)):Ok Q ((l[j]?).bind k):=by
 obtain⟨x,hx⟩:∃ x,l[j]?=some x:=⟨_,Cmz hj⟩
 rw[hx];exact h x (Bvz hx)
theorem Ok.eq {A:Option α}{x:α}{k:α->Option β}(hA:A=some x)(h:Ok Q (k x)):Ok Q (A.bind k):=by rw[hA];exact h
theorem bS {P:α->Prop}{o:Option (α×aK)}(ho:Dr b P o){k:α×aK->Option β}(hk:∀ y i' h',P y->0<=i'->Ok Q (k (y,⟨b,i',h'⟩))):Ok Q (o.bind k):=by
 obtain⟨⟨y,z⟩,rfl,hy,hz,he⟩:=ho;obtain⟨zb,zi,zh⟩:=z;dsimp only at he hz hy;subst he;exact hk y zi zh hy hz
theorem cb {i h:Int}(hi:0<=i):CB b ⟨b,i,h⟩:=⟨hi,rfl⟩
theorem Dr.re {P:α->Prop}{y:α}{i h:Int}(hy:P y)(hi:0<=i):Dr b P (some (y,(⟨b,i,h⟩:aK))):=⟨_,rfl,hy,hi,rfl⟩
theorem EX {P:σ->Prop}{Q:ρ->Prop}{f:σ->Option (σ ⊕ ρ)}(μ:σ->Nat)(hf:∀ s,P s->Ok (λz=>match z with|.inl s'=>P s'/\μ s'<μ s|.inr r=>Q r) (f s)):∀ s,P s->Ok Q (bA f s):=by
 have key:∀ n s,μ s<n->P s->Ok Q (bA f s):=by
  intro n
  induction n with
  | zero=>intro s h;omega
  | succ n ih=>
   intro s h hp;obtain⟨z,hz,hq⟩:=hf s hp;cases z with
   | inl s'=>rw[eh hz];exact ih s' (by have:=hq.2;omega) hq.1
   | inr r=>exact⟨r,cF hz,hq⟩
 exact λs hs=>key _ s (Nat.lt_succ_self _) hs
end
theorem qu {α β:Type}{Q:β->Prop}(P:Nat->List α->Prop){f:Nat->Int×Int×List α->Option (Int×Int×List α)}{k:Int×Int×List α->Option β}{n:Nat}{i h:Int}{l:List α}(hi:0<=i)(h0:P 0 l)
  (hf:∀ j l i h,j<n->0<=i->P j l->Ok (λs:Int×Int×List α=>0<=s.1/\P (j+1) s.2.2) (f j (i,h,l))) (hk:∀ l i h,0<=i->P n l->Ok Q (k (i,h,l))):Ok Q ((eachN f 0 n (i,h,l)).bind k):=by
 obtain⟨s,e,U⟩:=EE (P:=λk (s:Int×Int×List α)=>0<=s.1/\P k s.2.2) (f:=f) (n:=n) (i:=0) (s:=(i,h,l)) ⟨hi,h0⟩ λj s _ hj hs=>hf j _ _ _ (by omega) hs.1 hs.2;rw[e];rw[Adz] at U;exact hk _ _ _ U.1 U.2
theorem DN {γ α β:Type}{Q:β->Prop}(P:Nat->List α->Prop){f:Nat->γ->Int×Int×List α->Option (Int×Int×List α)}{k:Int×Int×List α->Option β}{xs:List γ}{i h:Int}{l:List α}(hi:0<=i)(h0:P 0 l)
  (hf:∀ j x l i h,x∈xs->j<xs.length->0<=i->P j l->Ok (λs:Int×Int×List α=>0<=s.1/\P (j+1) s.2.2) (f j x (i,h,l))) (hk:∀ l i h,0<=i->P xs.length l->Ok Q (k (i,h,l))):Ok Q ((eachL f 0 xs (i,h,l)).bind k):=by
 obtain⟨s,e,U⟩:=tw (P:=λk (s:Int×Int×List α)=>0<=s.1/\P k s.2.2) (f:=f) (xs:=xs) (i:=0) (s:=(i,h,l)) ⟨hi,h0⟩ λj x s hx _ hj hs=>hf j x _ _ _ hx (by omega) hs.1 hs.2;rw[e];rw[Adz] at U;exact hk _ _ _ U.1 U.2
def SB (s:ah):Prop:=s.Name.size<=8/\1<=s.as_.length/\s.as_.length<=5/\∀ a∈s.as_,a.Name.size<=8
def RB (r:ae):Prop:=r.Name.size<=8/\r.Left.size<=8/\r.rt_.length<=5/\(∀ x∈r.rt_,x.size<=8)
def j1 (l:List ah):Prop:=1<=l.length/\l.length<=3/\∀ s∈l,SB s
theorem wy {α:Type}[Sz α]{m:Nat}:∀ {l:List α},(∀ x∈l,Sz.szd x<=m)->bQ l<=l.length*(m+1)
 | [],_=>by simp[bQ]
 | x::l,h=>by
  have U:=wy (m:=m) (l:=l) λy hy=>h y (by simp[hy]);have K:=h x (by simp);simp only[bQ,bC,Nat.add_mul];omega
theorem RB.rok {r:ae}(h:RB r):fm r:=by have:=h.2.2.1;show r.rt_.length<=1048576;omega
section
variable {b:List UInt8}(Y:b.length<=1048576)
include Y
theorem P8 {x:ar}(h:x∈[(⟨#[97]⟩:ar),(⟨#[98]⟩:ar),(⟨#[99]⟩:ar),(⟨#[100]⟩:ar)]):x.size<=8:=by
 simp only[Dsz,Daz,or_false] at h;rcases h with h|h|h|h<;>rw[h]<;>decide
theorem IM {nm:ar}(hn:nm.size<=8)(a2 a3:Bool){i h:Int}(hi:0<=i):Dr b SB (rf nm a2 a3 ⟨b,i,h⟩):=by
 unfold rf;refine bS (dC Y 4 ⟨hi,rfl⟩) λy i1 U hy hi1=>?_;have h4:=hy.2.1 (by omega);refine .grd (by constructor<;>omega) ?_;refine qu (λk l=>l.length=k/\∀ a∈l,a.Name.size<=8) hi1 ⟨rfl,by simp⟩ (λk s1 s2 s3 hk hs1 hs=>?_) λs1 i2 K p1 hs=>?_;obtain⟨hs2,hs3⟩:=hs;unfold Ng;dsimp only;refine .bbi (.get (by simp;omega) λx1 hx1=>?_);have hx1:=P8 Y hx1;have fin:∀ (t m:Int) (i' h' : Int),0<=i'->Ok (λs:Int×Int×List aI=>0<=s.1/\(s.2.2.length=k+1/\∀ a∈s.2.2,a.Name.size<=8)) (some (i',h',s1++[(⟨x1,t,m,false⟩:aI)])):=λt m i' h' hi'=>by
  refine .ret ⟨hi',by simp[hs2],λa ha=>?_⟩;simp only[List.mem_append,Dsz,Daz,or_false] at ha;rcases ha with ha|ha;exact hs3 a ha;rw[ha];exact hx1
 refine .bbi (bS (nO Y (by simp) ⟨hs1,rfl⟩) λt i2 K _ hi2=>?_);refine .bbi (bS (nO Y (by simp) ⟨hi2,rfl⟩) λm i3 h3 _ hi3=>?_);cases a2<;>cases a3<;>dsimp only
 all_goals
  repeat' first
   | ((with_reducible refine .bso ?_);try dsimp only)
   | (with_reducible exact fin _ _ _ _ (by assumption))
   | ((with_reducible refine .bbi ?_);try dsimp only)
   | (with_reducible refine .bif (λ_=>?_) λ_=>?_)
   | (with_reducible refine .ite (λ_=>?_) λ_=>?_)
   | ((with_reducible refine bS (iu Y _ (cb (by assumption))) λ_ _ _ _ _=>?_);try dsimp only)
   | ((with_reducible refine bS (nO Y (by simp) (cb (by assumption))) λ_ _ _ _ _=>?_);try dsimp only)
   | ((with_reducible refine bS (dC Y _ (cb (by assumption))) λ_ _ _ _ _=>?_);try dsimp only)
   | (refine .bgr (by constructor<;>omega) ?_)
   | (refine .grd (by constructor<;>omega) ?_)
 obtain⟨p2,p3⟩:=hs;dsimp only;exact Dr.re ⟨hn,by dsimp only;omega,by dsimp only;omega,p3⟩ p1
end
theorem EW {g:al}(h:j1 g.ss_)(nm:ar):(bR g nm).1.as_.length<=5/\∀ a∈(bR g nm).1.as_,a.Name.size<=8:=by
 unfold bR;split;rename_i y hy;have:=h.2.2 y (List.mem_of_find?_eq_some hy);exact⟨this.2.2.1,this.2.2.2⟩;exact⟨by simp[zS],by simp[zS]⟩
theorem Ur {y:ah}(h:∀ a∈y.as_,a.Name.size<=8)(nm:ar):l5 y nm=some (eS y nm):=by
 unfold l5 eS;rw[pz (p:=λa=>decide (a.Name=nm)) (r:=λa=>(a,true)) λk x _=>⟨λhp=>by unfold CE;rw[ao (by simpa using hp)],λhp=>by unfold CE;rw[an (by simpa using hp)]⟩];cases y.as_.find? λa=>decide (a.Name=nm)<;>rfl
theorem j1.g {g:al}(h:j1 g.ss_):dP g:=λy hy=>by have:=(h.2.2 y hy).2.2.1;omega
theorem Aj {g:al}(hs:j1 g.ss_){r:ae}(Z:r.rt_.length<=5)(k:Int):Ok (λq=>∀ o∈q,o.Name.size<=8) (lN g r k):=by
 unfold lN;refine Ok.bind (Q:=λq=>∀ o∈q,o.Name.size<=8) (EX (P:=λs:List Oc×Int=>0<=s.2/\s.2<=r.rt_.length+1/\(s.1.length:Int)<=5*s.2/\∀ o∈s.1,o.Name.size<=8) (λs=>(r.rt_.length+1-s.2).toNat) ?_ _ ⟨by simp,by simp;omega,by simp,by simp⟩) λq hq=>.ret hq;rintro⟨q,p⟩ ⟨U,K,h3,h4⟩;dsimp only at U K h3 h4;unfold Me;dsimp only;refine .ite (λhp=>?_) λ_=>.ret h4;refine .eq (mz (show r.rt_.length<=1048576 by omega) p) ?_;refine .eq (lR hs.g _) ?_;have hff:=EW hs (cE r p);generalize bR g (cE r p)=fs at hff;obtain⟨y,yb⟩:=fs;obtain⟨f1,f2⟩:=hff;dsimp only at f1 f2 ⊢;refine Ok.bind (Q:=λq'=>q'.length<=q.length+5/\∀ o∈q',o.Name.size<=8) ((tw (P:=λk q'=>q'.length<=q.length+k/\∀ o∈q',o.Name.size<=8) (i:=0) ⟨by omega,h4⟩ ?_).mono λq' hq=>⟨by omega,hq.2⟩) λq' hq=>.grd (by constructor<;>omega) (.ret ⟨⟨by dsimp only;omega,by dsimp only;omega,by dsimp only;omega,hq.2⟩,by dsimp only;omega⟩);intro j a l ha _ hj hl;have hl1:=hl.1;have hl2:=hl.2;have ha:=f2 a ha;unfold Mf;dsimp only;have e1:Ok (λq' : List Oc=>q'.length<=q.length+(j+1)/\∀ o∈q',o.Name.size<=8) (some l):=.ret ⟨by omega,hl2⟩;have e2:Ok (λq' : List Oc=>q'.length<=q.length+(j+1)/\∀ o∈q',o.Name.size<=8) (some (l++[(⟨p,a.Name⟩:Oc)])):=.ret ⟨by simp;omega,λo ho=>by
  simp only[List.mem_append,Dsz,Daz,or_false] at ho;rcases ho with ho|ho;exact hl2 o ho;rw[ho];exact ha⟩
 have Y:([]:List UInt8).length<=1048576:=by simp
 repeat' first
  | ((with_reducible refine .bso ?_);try dsimp only)
  | (with_reducible exact e1)
  | (with_reducible exact e2)
  | ((with_reducible refine .bbi ?_);try dsimp only)
  | (with_reducible refine .bif (λ_=>?_) λ_=>?_)
  | (with_reducible refine .ite (λ_=>?_) λ_=>?_)
  | ((with_reducible refine bS (iu Y _ (cb (by assumption))) λ_ _ _ _ _=>?_);try dsimp only)
  | ((with_reducible refine bS (nO Y (by simp) (cb (by assumption))) λ_ _ _ _ _=>?_);try dsimp only)
  | ((with_reducible refine bS (dC Y _ (cb (by assumption))) λ_ _ _ _ _=>?_);try dsimp only)
  | (refine .bgr (by constructor<;>omega) ?_)
  | (refine .grd (by constructor<;>omega) ?_)
theorem O0 (a:Int):Ok (λ_=>True) (jN a):=by
 unfold jN;rw[jG,aj,jG,aj]
 repeat' first
  | exact .ret trivial
  | refine .ite (λ_=>?_) λ_=>?_
theorem OZ (a:Int)(x y:Expr):kC a x y=some (⟨4,a,0,0,(⟨#[]⟩:ar),(⟨#[]⟩:ar),[x,y]⟩:Expr):=rfl
theorem TP (g:al)(r:ae)(rem:Bool):∀ (m n1 n2:Nat),m<n1->m<n2->∀ (k d:Int) (o:aK),d<=m+1->iU n1 g r k d rem o=iU n2 g r k d rem o:=by
 intro m
 induction m with
 | zero=>
  intro n1 n2 U K k d o hd;obtain⟨n1,rfl⟩:∃ q,n1=q+1:=⟨n1-1,by omega⟩
  obtain⟨n2,rfl⟩:∃ q,n2=q+1:=⟨n2-1,by omega⟩
  show jK (iU n1) g r k d rem o=jK (iU n2) g r k d rem o;unfold jK;simp only[ao (show d<2 by omega),aj,if_true]
 | succ m ih=>
  intro n1 n2 U K k d o hd;obtain⟨n1,rfl⟩:∃ q,n1=q+1:=⟨n1-1,by omega⟩
  obtain⟨n2,rfl⟩:∃ q,n2=q+1:=⟨n2-1,by omega⟩
  show jK (iU n1) g r k d rem o=jK (iU n2) g r k d rem o;have h:∀ k o,iU n1 g r k (d-1) rem o=iU n2 g r k (d-1) rem o:=λk o=>ih n1 n2 (by omega) (by omega) k (d-1) o (by omega);unfold jK;simp only[h]
section
variable {b:List UInt8}(Y:b.length<=1048576)
include Y
theorem Uq {g:al}(hs:j1 g.ss_){r:ae}(Z:r.rt_.length<=5)(rem:Bool):∀ (m n:Nat),m<n->∀ (k d i h:Int),d<=m+1->-1000+m<=d->d<=1000->0<=i->Dr b (λe=>Sz.szd e<=fb m) (iU n g r k d rem ⟨b,i,h⟩):=by
 intro m
 induction m with
 | zero=>
  intro n hn k d i h hd hd0 hd1 hi;obtain⟨n,rfl⟩:∃ q,n=q+1:=⟨n-1,by omega⟩
  show Dr b _ (jK (iU n) g r k d rem ⟨b,i,h⟩);unfold jK;rw[ao (show d<2 by omega)];dsimp only;rw[aj];dsimp only;rw[ao rfl];unfold Dr;have hf:=sG Y 0
  repeat' first
   | ((with_reducible refine .bso ?_);try dsimp only)
   | ((with_reducible refine .bind (Aj hs Z _) λ_ _=>?_))
   | ((with_reducible refine bS (sJ Y _ (by assumption) (cb (by assumption))) λ_ _ _ _ _=>?_);try dsimp only)
   | ((with_reducible refine .bbi ?_);try dsimp only)
   | (with_reducible refine .bif (λ_=>?_) λ_=>?_)
   | (with_reducible refine .ite (λ_=>?_) λ_=>?_)
   | ((with_reducible refine bS (iu Y _ (cb (by assumption))) λ_ _ _ _ _=>?_);try dsimp only)
   | ((with_reducible refine bS (nO Y (by simp) (cb (by assumption))) λ_ _ _ _ _=>?_);try dsimp only)
   | ((with_reducible refine bS (dC Y _ (cb (by assumption))) λ_ _ _ _ _=>?_);try dsimp only)
   | (refine .bgr (by constructor<;>omega) ?_)
   | (refine .grd (by constructor<;>omega) ?_)
  all_goals refine⟨_,rfl,?_,by assumption,rfl⟩
  all_goals dsimp only
  all_goals first
   | (rw[sH Y,mB Y];omega)
   | omega
 | succ m ih=>
  intro n hn k d i h hd hd0 hd1 hi;obtain⟨n,rfl⟩:∃ q,n=q+1:=⟨n-1,by omega⟩
  have hr1:∀ k i h,0<=i->Dr b (λe=>Sz.szd e<=fb m) (iU n g r k (d-1) rem ⟨b,i,h⟩):=λk i h hi=>ih n (by omega) k (d-1) i h (by omega) (by omega) (by omega) hi;show Dr b _ (jK (iU n) g r k d rem ⟨b,i,h⟩);unfold jK Dr;dsimp only;have hl:=hs.1;have hf:=sG Y m;have hg:=JN Y m;have hid:aW (d-1):=by constructor<;>omega
  repeat' first
   | ((with_reducible refine .bso ?_);try dsimp only)
   | ((with_reducible refine .bind (Aj hs Z _) λ_ _=>?_))
   | ((with_reducible refine bS (sJ Y _ (by assumption) (cb (by assumption))) λ_ _ _ _ _=>?_);try dsimp only)
   | ((with_reducible refine bS (hr1 _ _ _ (by assumption)) λ_ _ _ _ _=>?_);try dsimp only)
   | ((with_reducible refine .bind (O0 _) λ_ _=>?_);try dsimp only)
   | ((with_reducible refine .eq (OZ _ _ _) ?_);try dsimp only)
   | ((with_reducible refine .grd hid ?_))
   | ((with_reducible refine .grd (by omega) ?_))
   | ((with_reducible refine .get (l:=g.ss_) (by omega) λx hx=>?_);obtain⟨_,_,_,hat⟩:=hs.2.2 x hx)
   | ((with_reducible refine .get (by omega) λx hx=>?_);have hxn:=hat x hx)
   | ((with_reducible refine .bbi ?_);try dsimp only)
   | (with_reducible refine .bif (λ_=>?_) λ_=>?_)
   | (with_reducible refine .ite (λ_=>?_) λ_=>?_)
   | ((with_reducible refine bS (iu Y _ (cb (by assumption))) λ_ _ _ _ _=>?_);try dsimp only)
   | ((with_reducible refine bS (nO Y (by simp) (cb (by assumption))) λ_ _ _ _ _=>?_);try dsimp only)
   | ((with_reducible refine bS (dC Y _ (cb (by assumption))) λ_ _ _ _ _=>?_);try dsimp only)
   | (refine .bgr (by constructor<;>omega) ?_)
   | (refine .grd (by constructor<;>omega) ?_)
  all_goals refine⟨_,rfl,?_,by assumption,rfl⟩
  all_goals dsimp only at *
  all_goals first
   | (rw[sH Y,mB Y];omega)
   | (rw[IS Y];omega)
   | (rw[D3 Y,mB Y];omega)
   | (rw[Ki Y,mB Y];omega)
   | omega
theorem TO {g:al}(hs:j1 g.ss_){r:ae}(Z:r.rt_.length<=5)(rem:Bool)(k d i h:Int)(h0:0<=d)(h3:d<=3)(hi:0<=i):Dr b (λe=>Sz.szd e<=320) (FY g r k d rem ⟨b,i,h⟩):=
 JO (N:=3) (λn hn=>TP g r rem 2 (n+1) n (by omega) (by omega) k d _ (by omega)) (Uq Y hs Z rem 2 3 (by omega) k d i h (by omega) (by omega) (by omega) hi)
end
end Go.Proofs.YtodhafdaelcnlaaGreat
