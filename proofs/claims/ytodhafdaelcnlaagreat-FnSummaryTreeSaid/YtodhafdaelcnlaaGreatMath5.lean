/- What those partial functions come to: plain lemmas on data; each bears its conditions in its statement. -/
import Derived.Test.YtodhafdaelcnlaaGreatMath4
set_option linter.unusedVariables false
set_option linter.unusedSimpArgs false
set_option linter.ambiguousOpen false
set_option linter.unusedSectionVars false
set_option linter.unnecessarySimpa false
open List renaming findIdx?_cons->Eoz,findIdx?_eq_some_iff_getElem->Epz,getD_eq_getElem?_getD->Cwz,getElem?_eq_getElem->Cmz,replicate->Bqz,mem_of_getElem?->Bvz,eq_nil_of_length_eq_zero->Awz,range'->Dbz,mem_cons->Dsz,not_mem_nil->Daz
open Nat renaming zero_add->Adz,le_trans->Bgz
open Int renaming natCast_nonneg->Doz
open Option renaming getD_some->Cbz
namespace Go.Proofs.YtodhafdaelcnlaaGreat
open Go Go.E
def fS (g:al)(n:ar):Option Nat:=g.ss_.findIdx? λy=>decide (y.Name=n)
def eh (g:al)(n:ar):Int:=match fS g n with
 | some j=>(j:Int)
 | none=>-1
theorem pG {α ρ:Type}{q:α->Bool}{c:Nat->ρ}:∀ {xs:List α} {i:Nat} {f:Nat->α->Unit->Option (Unit ⊕ ρ)},(∀ j x,xs[j]?=some x->f (i+j) x ()=some (if q x=true then .inr (c (i+j)) else .inl ())) ->
  findL f i xs ()=some (match xs.findIdx? q with|some j=>.inr (c (i+j))|none=>.inl ())
 | [],_,_,_=>rfl
 | x::xs,i,f,h=>by
  rw[findL,show f i x ()=_ from h 0 x rfl,aj,Eoz];by_cases hq:q x=true;rw[ao hq,ao hq];rw[an hq,an hq];have ih:=pG (q:=q) (c:=c) (xs:=xs) (i:=i+1) (f:=f) λj y hy=>by
   have:=h (j+1) y (by simpa using hy);rw[show i+1+j=i+(j+1) by omega];exact this
  dsimp only;rw[ih];cases xs.findIdx? q with
  | none=>rfl
  | some j=>simp only[Option.map_some];rw[show i+1+j=i+(j+1) by omega]
theorem oR (g:al)(n:ar):ku g n=some (eh g n):=by
 unfold ku eh fS;rw[pG (q:=λy:ah=>decide (y.Name=n)) (c:=λk=>(k:Int)) λj x hx=>by
  unfold Mc;by_cases hn:x.Name=n;rw[ao hn,ao (by simpa using hn)];rw[an hn,an (by simpa using hn)]]
 cases g.ss_.findIdx? λy=>decide (y.Name=n) with
 | none=>rfl
 | some j=>dsimp only;rw[Adz];rfl
theorem PX {g:al}{n:ar}{j:Nat}(h:fS g n=some j):j<g.ss_.length:=by
 unfold fS at h;rw[Epz] at h;exact h.1
def dx (g:al)(hs:List Int)(n:ar):Bool:=match fS g n with
 | some j=>decide (0<hs.getD j 0)
 | none=>false
def kL (g:al)(hs:List Int)(n:ar):Bool:=g.rs_.any λr=>decide (r.Left=n)&&r.rt_.all (dx g hs)
theorem FC {α:Type}{q:α->Bool}{f:Nat->α->Bool->Option Bool}:∀ (xs:List α) (i:Nat) (b:Bool),(∀ k x s,x∈xs->f k x s=some (s&&q x))->eachL f i xs b=some (b&&xs.all q)
 | [],_,b,_=>by simp[eachL]
 | x::xs,i,b,h=>by
  rw[eachL,h i x b (by simp),aj,FC xs (i+1) _ λk y s hy=>h k y s (by simp[hy]),List.all_cons,Bool.and_assoc]
theorem getD_some {hs:List Int}{j:Nat}(h:j<hs.length):hs[j]?=some (hs.getD j 0):=by
 rw[Cwz,Cmz h];rfl
theorem PW {g:al}{hs:List Int}(hl:hs.length=g.ss_.length)(n:ar):uI n g hs=some (match fS g n with|some j=>hs.getD j 0|none=>0):=by
 unfold uI fS;rw[pG (q:=λy:ah=>decide (y.Name=n)) (c:=λk=>hs.getD k 0) λj x hx=>by
  unfold G3;have hj:j<g.ss_.length:=(List.getElem?_eq_some_iff.1 hx).1;by_cases hn:x.Name=n;rw[ao hn,ao (by simpa using hn),Adz,getD_some (by omega)];rfl;rw[an hn,an (by simpa using hn)]]
 cases g.ss_.findIdx? λy=>decide (y.Name=n) with
 | none=>rfl
 | some j=>dsimp only;rw[Adz];rfl
theorem XR {g:al}{hs:List Int}(hl:hs.length=g.ss_.length)(xs:List ar)(b:Bool):eachL (BZ g hs) 0 xs b=some (b&&xs.all (dx g hs)):=
 FC xs 0 b λk x s _=>by
  unfold BZ dx;cases s with
  | false=>rfl
  | true=>
   rw[ao rfl,PW hl,aj,aj,Bool.true_and];cases fS g x<;>rfl
theorem XQ {g:al}{hs:List Int}(hl:hs.length=g.ss_.length)(xs:List ar)(b:Bool):eachL (Cm g hs) 0 xs b=some (b&&xs.all (dx g hs)):=
 FC xs 0 b λk x s _=>by
  unfold Cm dx;rw[oR,aj];unfold eh;cases s with
  | false=>rfl
  | true=>
   cases hj:fS g x with
   | none=>rfl
   | some j=>
    have:=PX hj;dsimp only;rw[ao rfl,aj,decide_eq_true (Doz j),ao rfl];unfold kT;by_cases h0:(0:Int)<(j:Int);rw[ao h0,aj,aF (Doz j),b7,getD_some (by omega)];rfl;obtain rfl:j=0:=by omega
    rw[an h0,aj,aF (by omega),show (0:Int).toNat=0 from rfl,getD_some (by omega)];rfl
theorem WH {g:al}{hs:List Int}(hl:hs.length=g.ss_.length)(n:ar):uU g n hs=some (kL g hs n):=by
 unfold uU kL;rw[gz (c:=true) (q:=λr:ae=>!(decide (r.Left=n)&&r.rt_.all (dx g hs))) λk x hx=>by
  unfold Hd;rw[XQ hl,aj];cases (decide (x.Left=n)&&x.rt_.all (dx g hs))<;>rfl]
 have e:(g.rs_.all λr=>!(decide (r.Left=n)&&r.rt_.all (dx g hs)))=!(g.rs_.any λr=>decide (r.Left=n)&&r.rt_.all (dx g hs)):=by rw[List.not_any_eq_all_not]
 rw[e];cases g.rs_.any λr=>decide (r.Left=n)&&r.rt_.all (dx g hs)<;>rfl
def de (g:al)(hs:List Int):Prop:=hs.length=g.ss_.length/\∀ j,0<=hs.getD j 0
theorem de.set {g:al}{hs:List Int}(h:de g hs){k:Nat}{v:Int}(hv:0<=v):de g (hs.set k v):=by
 refine⟨by simpa using h.1,λj=>?_⟩;rw[Cwz,List.getElem?_set];split;split;exact hv;simp;rw[← Cwz];exact h.2 j
theorem Ee {g:al}{hs:List Int}(hl:hs.length=g.ss_.length){v:Int}(k:Nat)(x:ah)(hk:k<g.ss_.length):∀ (rs:List ae) (i:Nat) (s:List Int),s.length=g.ss_.length ->
  eachL (yp g v hs k x) i rs s=some (if (rs.any λr=>decide (r.Left=x.Name)&&r.rt_.all (dx g hs))=true then s.set k v else s)
 | [],i,s,_=>by simp[eachL]
 | r::rs,i,s,hs'=>by
  have e:yp g v hs k x i r s=some (if (decide (r.Left=x.Name)&&r.rt_.all (dx g hs))=true then s.set k v else s):=by
   unfold yp;rw[XR hl,aj];cases (decide (r.Left=x.Name)&&r.rt_.all (dx g hs)) with
   | false=>rfl
   | true=>rw[ao rfl,ao rfl,Cmz (by omega)];rfl
  rw[eachL,e,aj];by_cases Y:(decide (r.Left=x.Name)&&r.rt_.all (dx g hs))=true;rw[ao Y,Ee hl k x hk rs (i+1) (s.set k v) (by simpa using hs')];have:(r::rs).any (λr=>decide (r.Left=x.Name)&&r.rt_.all (dx g hs))=true:=by rw[List.any_cons,Y];rfl
  rw[ao this,List.set_set,ite_self];rw[an Y,Ee hl k x hk rs (i+1) s hs'];have:(r::rs).any (λr=>decide (r.Left=x.Name)&&r.rt_.all (dx g hs))=rs.any (λr=>decide (r.Left=x.Name)&&r.rt_.all (dx g hs)):=by rw[List.any_cons,Bool.eq_false_iff.2 Y];rfl
  rw[this]
theorem PF {g:al}{hs:List Int}(h:de g hs){v:Int}{k:Nat}{x:ah}(hk:k<g.ss_.length){s:List Int}(hs' : s.length=g.ss_.length) :
  yo g v hs k x s=some (if (decide (hs.getD k 0=0)&&kL g hs x.Name)=true then s.set k v else s):=by
 have h0:=h.2 k;unfold yo;rw[getD_some (by rw[h.1];exact hk),aj];by_cases hz:hs.getD k 0=0;rw[an (by omega),decide_eq_true hz,Ee h.1 k x hk _ _ _ hs'];rfl;rw[ao (by omega),decide_eq_false hz];rfl
theorem HO {g:al}{hs:List Int}(h:de g hs){v:Int}{k:Nat}{x:ah}(hk:k<g.ss_.length){s:List Int}(hs' : s.length=g.ss_.length) :
  vv g hs v k x s=some (if (decide (hs.getD k 0=0)&&kL g hs x.Name)=true then s.set k v else s):=by
 unfold vv;rw[getD_some (by rw[h.1];exact hk),aj];by_cases hz:hs.getD k 0=0;rw[ao hz,decide_eq_true hz,WH h.1,aj,Bool.true_and];cases kL g hs x.Name with
 | false=>rfl
 | true=>rw[ao rfl,ao rfl,Cmz (by omega)];rfl
 rw[an hz,decide_eq_false hz];rfl
theorem Nr {g:al}{hs:List Int}(h:de g hs){v:Int}(hv:0<=v):∀ (xs:List ah) (i:Nat) (s:List Int),i+xs.length=g.ss_.length->de g s ->
  ∃ t,eachL (yo g v hs) i xs s=some t/\eachL (vv g hs v) i xs s=some t/\de g t
 | [],i,s,_,hs'=>⟨s,rfl,rfl,hs'⟩
 | x::xs,i,s,hi,hs'=>by
  simp only[bE] at hi;have e1:=PF (x:=x) h (v:=v) (k:=i) (by omega) hs'.1;have e2:=HO (x:=x) h (v:=v) (k:=i) (by omega) hs'.1;have hn:de g (if (decide (hs.getD i 0=0)&&kL g hs x.Name)=true then s.set i v else s):=by
   split;exact hs'.set hv;exact hs'
  obtain⟨t,U,K,h3⟩:=Nr h hv xs (i+1) _ (by omega) hn;exact⟨t,by rw[eachL,e1,aj,U],by rw[eachL,e2,aj,K],h3⟩
theorem B6 {g:al}(hn:g.ss_.length<=1048576):∃ l,rJ g=some l/\qe g=some l/\de g l:=by
 have key:∀ (m k:Nat) (hs:List Int),k+m=g.ss_.length+1->1<=k->de g hs->∃ t,bK (rU g) ((k:Int),hs)=some t/\bK (ly g) (hs,(k:Int))=some t/\de g t:=by
  intro m
  induction m with
  | zero=>
   intro k hs hk _ h;refine⟨hs,c9 ?_,c9 ?_,h⟩;unfold rU;dsimp only;rw[an (by omega)];unfold ly;dsimp only;rw[an (by omega)]
  | succ m ih=>
   intro k hs hk U h;have hl:=h.1;obtain⟨t,e1,e2,e3⟩:=Nr h (v:=(k:Int)) (by omega) g.ss_ 0 hs (by omega) h;obtain⟨q,f1,f2,f3⟩:=ih (k+1) t (by omega) (by omega) e3;refine⟨q,?_,?_,f3⟩;have e:rU g ((k:Int),hs)=some (.inl (((k+1:Nat):Int),t)):=by
    unfold rU;dsimp only;rw[ao (by omega),aF (by refine⟨?_,?_,?_⟩<;>omega),aF (by simp),e1,aj,aF (by constructor<;>omega)];rfl
   rw[eS e];exact f1;have e:ly g (hs,(k:Int))=some (.inl (t,((k+1:Nat):Int))):=by
    unfold ly;dsimp only;rw[ao (by omega),aF (by simp only[List.length_nil];constructor<;>omega),e2,aj,aF (by constructor<;>omega)];rfl
   rw[eS e];exact f2
 have h0:de g (Bqz g.ss_.length (0:Int)):=⟨by simp,λj=>by rw[Cwz,List.getElem?_replicate];split<;>simp⟩
 obtain⟨t,f1,f2,f3⟩:=key g.ss_.length 1 (Bqz g.ss_.length 0) (by omega) (by omega) h0;refine⟨t,?_,?_,f3⟩;unfold rJ;rw[aF (by refine⟨?_,?_,?_⟩<;>omega),show bK (rU g) (1,Bqz g.ss_.length 0)=some t from f1];rfl;unfold qe;rw[aF (by refine⟨?_,?_,?_⟩<;>omega),show bK (ly g) (Bqz g.ss_.length 0,1)=some t from f2];rfl
theorem Shape.names {g:al}(h:Shape g){k j:Nat}{x y:ah}(hk:g.ss_[k]?=some x)(hj:g.ss_[j]?=some y)(hn:x.Name=y.Name):k=j:=by
 have key:∀ {k j:Nat} {x y:ah},g.ss_[k]?=some x->g.ss_[j]?=some y->x.Name=y.Name->¬ k<j:=by
  intro k j x y hk hj hn hlt;have:=pM _ _ h.sym j y hj;unfold jJ at this;rw[Bool.or_eq_false_iff] at this;have K:=this.2;unfold dC at K;rw[List.nil_append,List.any_eq_false] at K;exact K x (Bvz (i:=k) (by rw[List.getElem?_take,ao hlt];exact hk)) (by simpa using hn)
 have U:=key hk hj hn;have K:=key hj hk hn.symm;omega
theorem Shape.at_ {g:al}(h:Shape g){k:Nat}{x:ah}(hk:g.ss_[k]?=some x):fS g x.Name=some k:=by
 unfold fS;cases he:g.ss_.findIdx? λy=>decide (y.Name=x.Name) with
 | none=>
  rw[List.findIdx?_eq_none_iff] at he;have:=he x (Bvz hk);simp at this
 | some j=>
  rw[Epz] at he;obtain⟨hj,U,_⟩:=he;rw[h.names (Cmz hj) hk (by simpa using U)]
noncomputable def nR (g:al):List Int:=(rJ g).getD []
noncomputable def qM (g:al):Int×Int:=
 if (km g).1=0 then
  match g.rs_.findIdx? λr=>!fW g r with
  | some k=>(7,(k:Int))
  | none=>match (nR g).findIdx? λx=>decide (x=0) with
   | some k=>(8,(k:Int))
   | none=>(0,0)
 else km g
theorem Vu {g:al}(h:Sz.szd g<=1048576):vo g=some (qM g):=by
 unfold vo qM;rw[WJ h,aj];dsimp only;by_cases h0:(km g).1=0;rw[ao h0,ao h0];rw[tD (q:=λr=>!fW g r) (c:=λk=>((7:Int),(k:Int))) λk r Z=>by
  unfold Hj;rw[Vw g (Bgz (ib Z) h),aj,← apply_ite some]]
 cases g.rs_.findIdx? λr=>!fW g r with
 | some k=>dsimp only;rw[Adz];rfl
 | none=>
  obtain⟨l,e1,e2,e3⟩:=B6 (g:=g) (EA h).1;rw[aj,mP,e1,aj];unfold nR;rw[e1,Cbz];rw[tD (q:=λx:Int=>decide (x=0)) (c:=λk=>((8:Int),(k:Int))) λk x hx=>by
   unfold Hi;by_cases hz:x=0;rw[ao hz,ao (by simpa using hz)];rw[an hz,an (by simpa using hz)]]
  dsimp only;cases l.findIdx? λx=>decide (x=0) with
  | some k=>dsimp only;rw[Adz];rfl
  | none=>rfl
 rw[an h0,an h0]
theorem U4 {g:al}(h:Sz.szd g<=1048576):vt g=some (qM g):=by
 unfold vt qM;rw[WI h,aj];dsimp only;by_cases h0:(km g).1=0;have hS:=K8 h0;rw[ao h0,ao h0];rw[tD (q:=λr=>!fW g r) (c:=λk=>((7:Int),(k:Int))) λk r Z=>by
  unfold Hk;rw[Vv (gJ h) (Bgz (ib Z) h) λq hq=>hS.pos Z hq,aj];cases fW g r<;>rfl]
 cases g.rs_.findIdx? λr=>!fW g r with
 | some k=>dsimp only;rw[Adz];rfl
 | none=>
  obtain⟨l,e1,e2,e3⟩:=B6 (g:=g) (EA h).1;rw[aj,mP];unfold nR;rw[e1,Cbz];have hprod:∀ k x,g.ss_[k]?=some x->vu g x.Name=some (!decide (l.getD k 0=0)):=by
   intro k x hk;have hk' : k<g.ss_.length:=(List.getElem?_eq_some_iff.1 hk).1;have ha:eh g x.Name=(k:Int):=by unfold eh;rw[hS.at_ hk]
   unfold vu yF;rw[oR,ha,aj,an (by omega),e2,aj,aF (by omega),b7,getD_some (by rw[e3.1];exact hk'),aj,aj];have:=e3.2 k;congr 1;by_cases hz:l.getD k 0=0;rw[decide_eq_true hz,decide_eq_false (by omega)];rfl;rw[decide_eq_false hz,decide_eq_true (by omega)];rfl
  have hrun:∀ (xs:List ah) (ys:List Int) (i:Nat),(∀ j x,xs[j]?=some x->g.ss_[i+j]?=some x)->ys.length=xs.length->(∀ j y,ys[j]?=some y->l.getD (i+j) 0=y) ->
    findL (zk g) i xs ()=some (match ys.findIdx? λx=>decide (x=0) with|some j=>.inr (8,((i+j:Nat):Int))|none=>.inl ()):=by
   intro xs
   induction xs with
   | nil=>
    intro ys i _ hl _;obtain rfl:=Awz hl;rfl
   | cons x xs ih=>
    intro ys i hx hl hy;cases ys with
    | nil=>simp at hl
    | cons y ys=>
     have U:=hprod i x (by simpa using hx 0 x rfl);have K:l.getD i 0=y:=by simpa using hy 0 y rfl
     have ih:=ih ys (i+1) (λj z hz=>by rw[show i+1+j=i+(j+1) by omega];exact hx (j+1) z (by simpa using hz)) (by simpa using hl) λj z hz=>by
      rw[show i+1+j=i+(j+1) by omega];exact hy (j+1) z (by simpa using hz)
     rw[K] at U;have e:zk g i x ()=some (if y=0 then .inr (8,(i:Int)) else .inl ()):=by
      unfold zk;rw[U,aj];by_cases hz:y=0;rw[decide_eq_true hz,ao hz];rfl;rw[decide_eq_false hz,an hz];rfl
     rw[findL,e,aj,Eoz];by_cases hz:y=0;rw[ao hz,ao (by simpa using hz)];rfl;rw[an hz,an (by simpa using hz)];dsimp only;rw[ih];cases ys.findIdx? λx=>decide (x=0) with
     | none=>rfl
     | some j=>simp only[Option.map_some];rw[show i+1+j=i+(j+1) by omega]
  rw[hrun g.ss_ l 0 (λj x hx=>by rw[Adz];exact hx) e3.1 λj y hy=>by rw[Adz,Cwz,hy];rfl];dsimp only;cases l.findIdx? λx=>decide (x=0) with
  | some k=>dsimp only;rw[Adz];rfl
  | none=>rfl
 rw[an h0,an h0]
noncomputable def mu (g:al):Bool:=decide ((qM g).1=0)
theorem E0 {g:al}(h:Sz.szd g<=1048576):uz g=some (mu g):=by
 unfold uz;rw[Vu h];rfl
theorem KM {g:al}(h:Sz.szd g<=1048576):rM g=some (mu g):=by
 unfold rM;rw[U4 h];rfl
theorem tZ {g:al}(h:mu g=true):Shape g:=by
 refine K8 ?_;unfold mu at h;rw[decide_eq_true_eq] at h;unfold qM at h;by_cases h0:(km g).1=0;exact h0;rw[an h0] at h;exact h
theorem PV {n:Nat}{x y:Int}(hx:0<=x/\x<=((2 ^ n:Nat):Int)-1)(hy:0<=y/\y<=((2 ^ n:Nat):Int)-1):0<=iR x y/\iR x y<=((2 ^ n:Nat):Int)-1:=by
 have:=Nat.or_lt_two_pow (n:=n) (x:=x.toNat) (y:=y.toNat) (by omega) (by omega);unfold iR;omega
def vg (a:au):Nat:=(a.Rows.map Int.toNat).sum
theorem WG {a:au}(ha:aI a):vg a<=16*65535:=by
 have key:∀ l:List Int,(∀ x∈l,x.toNat<=65535)->(l.map Int.toNat).sum<=l.length*65535:=by
  intro l
  induction l with
  | nil=>intro _;simp
  | cons x l ih=>
   intro h;have U:=h x (by simp);have K:=ih λy hy=>h y (by simp[hy]);simp only[List.map_cons,List.sum_cons,bE];omega
 have U:=key a.Rows λx hx=>by
  have:=ha.2.2.2 x hx;have:=PH ha.2.1;omega
 have hl:a.Rows.length<=16:=by have:=ha.2.2.1;have:=ha.2.1;omega
 exact Bgz U (Nat.mul_le_mul_right 65535 hl)
theorem J0 {b:List Int}{f:Nat->Int->Unit->Option (Unit ⊕ Bool)}(hf:∀ k x,f k x ()=(b[k]?).bind λx2=>if x=x2 then some (.inl ()) else some (.inr false)) :
  ∀ (xs ys:List Int) (i:Nat),xs.length=ys.length->(∀ j,b[i+j]?=ys[j]?)->findL f i xs ()=some (if xs=ys then .inl () else .inr false)
 | [],ys,i,hl,_=>by obtain rfl:=Awz hl.symm;rfl
 | x::xs,[],i,hl,_=>by simp at hl
 | x::xs,y::ys,i,hl,Y=>by
  have h0:b[i]?=some y:=by simpa using Y 0
  rw[findL,hf,h0,aj];by_cases hx:x=y;rw[ao hx,aj];dsimp only;rw[J0 hf xs ys (i+1) (by simpa using hl) λj=>by have:=Y (j+1);rw[show i+1+j=i+(j+1) by omega];simpa using this];subst hx;by_cases he:xs=ys;rw[ao he,ao (by rw[he])];rw[an he,an (by intro hh;injection hh with _ K;exact he K)];rw[an hx,aj];dsimp only;rw[an (by intro hh;injection hh with K _;exact hx K)]
theorem AU (a b:au):sw a b=some (decide (a=b)):=by
 obtain⟨n,xs⟩:=a;obtain⟨m,ys⟩:=b;unfold sw pJ;dsimp only;by_cases hn:n=m;rw[ao hn];by_cases hl:xs.length=ys.length;rw[ao (by omega),J0 (b:=ys) (λk x=>rfl) xs ys 0 hl λj=>by rw[Adz]];by_cases he:xs=ys;rw[ao he,decide_eq_true (by rw[hn,he])];rfl;rw[an he,decide_eq_false (by intro hh;injection hh with _ K;exact he K)];rfl;rw[an (by omega),decide_eq_false (by intro hh;injection hh with _ K;exact hl (by rw[K]))];rfl;rw[an hn,decide_eq_false (by intro hh;injection hh with U _;exact hn U)]
theorem wN (a b:au):vF a b=some (decide (a=b)):=by
 rw[← AU];rfl
def bJ (g:al)(s:ar):List aG:=(bM g s).1.as_.filter sS
theorem F8 {g:al}(h:ee g)(s:ar):(bJ g s).length<=1048576:=Bgz (List.length_filter_le _ _) (pH h s)
theorem LW {l:List aG}(h:l.length<=1048576):eachL qq 0 l []=some (l.filter sS):=by
 have:=ry (p:=sS) (g:=λx:aG=>x) (B:=1048577) (f:=qq) (λk x s hs=>by
  have hg:((s.length:Int)+1)*40<=140737488355328/\(s.length:Int)+1<=9223372036854775807:=by constructor<;>omega
  unfold qq sS;rw[aF hg];by_cases m1:x.Mode=1;rw[ao m1,ao (by simp[m1])];rfl;rw[an m1];by_cases m2:x.Mode=2;rw[ao m2,ao (by simp[m2])];rfl;rw[an m2,an (by simp[m1,m2])];rfl) l 0 [] (by simp;omega)
 rw[this];simp
theorem tC {g:al}(h:ee g)(s:ar):nD g s=some (bJ g s):=by
 unfold nD bJ;rw[l7 h,aj]
 try dsimp only
 rw[LW (pH h s)];rfl
theorem LV {g:al}(h:ee g)(s:ar):lu g s=some (bJ g s):=by
 unfold lu bJ;rw[pI,aj]
 try dsimp only
 rw[Nt,LW (pH h s)];rfl
def b9 (g:al)(r:ae)(k:Nat):List Oc:=(bJ g (cn r (k:Int))).map λx=>(⟨(k:Int),x.Name⟩:Oc)
def br (g:al)(r:ae):List Oc:=(Dbz 0 (r.rt_.length+1)).flatMap (b9 g r)
theorem KL {g:al}(h:ee g)(r:ae)(k:Nat):(b9 g r k).length<=1048576:=by unfold b9;rw[bh];exact F8 h _
theorem AS {g:al}(h:ee g){r:ae}(hl:fB r):lq g r=some (br g r):=by
 have hl' : r.rt_.length<=1048576:=hl;have key:=Ga (h:=b9 g r) (C:=1048576) (n:=r.rt_.length+1) (f:=j7 g r) (λk s hk hs=>by
  unfold j7;rw[wO hl,aj,LV h,aj,tF k _ 0 s (by have:=F8 h (cn r (k:Int));omega)];rfl)
  (λk _=>KL h r k) (r.rt_.length+1) 0 [] (by omega) (by simp)
 unfold lq;rw[aF (by constructor<;>omega),key];rfl
theorem JZ {g:al}(h:ee g){r:ae}(hl:fB r):nB g r=some (br g r):=by
 have hl' : r.rt_.length<=1048576:=hl;have key:=FD (h:=b9 g r) (C:=1048576) (n:=r.rt_.length+1) (f:=mj g r) (λk s hk hs=>by
  unfold mj;dsimp only;rw[ao (by omega),mO hl,aj,tC h,aj,Lc,tF k _ 0 s (by have:=F8 h (cn r (k:Int));omega),aj,aF (by constructor<;>omega)];rfl) (λs=>by
  unfold mj;dsimp only;rw[an (by omega)]) (λk _=>KL h r k) (r.rt_.length+1) 0 [] (by omega) (by simp)
 unfold nB;have e:bK (mj g r) (([]:List Oc),0)=some ([]++(Dbz 0 (r.rt_.length+1)).flatMap (b9 g r)):=key;rw[e];rfl
theorem KJ {g:al}(h:ee g){r:ae}(hl:fB r):(br g r).length<=1099512676352:=by
 obtain⟨l,_,K,h3⟩:=Bn h hl;rw[AS h hl] at K;cases K;exact h3
def dc (g:al)(r:ae)(k:Int):List Int:=(((br g r).zipIdx 0).filter λq=>decide (q.1.Pos=k)).map λq=>(q.2:Int)
theorem KI (k:Int){l:List Oc}(h:l.length<=1099512676352):eachL (qp k) 0 l []=some (((l.zipIdx 0).filter λq=>decide (q.1.Pos=k)).map λq=>(q.2:Int)):=by
 have:=FE (p:=λx:Oc=>decide (x.Pos=k)) (g:=λi:Nat=>(i:Int)) (B:=4398046511104) (f:=qp k) (λi x s hs=>by
  have hg:((s.length:Int)+1)*8<=140737488355328/\(s.length:Int)+1<=9223372036854775807:=by constructor<;>omega
  unfold qp;rw[aF hg];by_cases m1:x.Pos=k;rw[ao m1,ao (by simp[m1])];rfl;rw[an m1,an (by simp[m1])];rfl) l 0 [] (by simp;omega)
 rw[this];simp
theorem Tu {g:al}(h:ee g){r:ae}(hl:fB r)(k:Int):qo g r k=some (dc g r k):=by
 unfold qo dc;rw[JZ h hl,aj,KI k (KJ h hl)];rfl
theorem Tt {g:al}(h:ee g){r:ae}(hl:fB r)(k:Int):mf g r k=some (dc g r k):=by
 unfold mf dc;rw[AS h hl,aj,Ha,KI k (KJ h hl)];rfl
theorem LU {α:Type}(p:α->Bool):∀ (l:List α) (i:Nat),((l.zipIdx i).filter λq=>p q.1).length=l.countP p
 | [],i=>rfl
 | x::l,i=>by
  rw[List.zipIdx_cons,List.filter_cons,List.countP_cons];have ih:=LU p l (i+1);by_cases hp:p x=true;rw[ao hp,ao hp,bE,ih];rw[an hp,an hp,ih];rfl
theorem JY (g:al){r:ae}{k:Nat}(hk:k<=r.rt_.length):(dc g r (k:Int)).length=(bJ g (cn r (k:Int))).length:=by
 unfold dc;rw[bh,LU (λx:Oc=>decide (x.Pos=(k:Int)))];unfold br;rw[List.countP_flatMap];have hK:∀ j:Nat,(b9 g r j).countP (λx=>decide (x.Pos=(k:Int)))=if j=k then (bJ g (cn r (k:Int))).length else 0:=by
  intro j;unfold b9;rw[List.countP_map];by_cases hj:j=k;subst hj;rw[ao rfl,List.countP_eq_length.2 (by simp)];rw[an hj,List.countP_eq_zero.2];intro a _;simp;omega
 have hsum:∀ m i,((Dbz i m).map (List.countP (λx:Oc=>decide (x.Pos=(k:Int))) ∘ b9 g r)).sum=if i<=k/\k<i+m then (bJ g (cn r (k:Int))).length else 0:=by
  intro m
  induction m with
  | zero=>intro i;rw[an (by omega)];rfl
  | succ m ih=>
   intro i;rw[List.range'_succ,List.map_cons,List.sum_cons,ih (i+1),Function.comp,hK i];by_cases U:i=k;rw[ao U,an (by omega),ao (by omega)];rfl;rw[an U,Adz];by_cases K:i+1<=k/\k<i+1+m;rw[ao K,ao (by omega)];rw[an K,an (by omega)]
 rw[hsum,ao (by omega)]
noncomputable def fO (own:au) (a:Nat) (x:Int):Nat->List Int->au->au
 | _,[],o=>o
 | i,y::ys,o=>fO own a x (i+1) ys (if bG own (a:Int) (i:Int) then ca o x y else o)
noncomputable def ia (own:au) (at' : List Int):Nat->List Int->au->au
 | _,[],o=>o
 | a,x::xs,o=>ia own at' (a+1) xs (fO own a x 0 at' o)
theorem xU (own:au)(a:Nat)(x:Int):∀ (ys:List Int) (i:Nat) (o:au),(fO own a x i ys o).Rows.length=o.Rows.length/\(fO own a x i ys o).N=o.N
 | [],i,o=>⟨rfl,rfl⟩
 | y::ys,i,o=>by
  rw[fO];have ih:=xU own a x ys (i+1) (if bG own (a:Int) (i:Int) then ca o x y else o);by_cases h:bG own (a:Int) (i:Int);rw[ao h] at ih ⊢;have:=lW o x y;exact⟨ih.1.trans this.1,ih.2.trans this.2⟩;rw[an h] at ih ⊢;exact ih
theorem BL (own:au)(at' : List Int):∀ (xs:List Int) (a:Nat) (o:au),(ia own at' a xs o).Rows.length=o.Rows.length/\(ia own at' a xs o).N=o.N
 | [],a,o=>⟨rfl,rfl⟩
 | x::xs,a,o=>by
  rw[ia];have ih:=BL own at' xs (a+1) (fO own a x 0 at' o);have:=xU own a x at' 0 o;exact⟨ih.1.trans this.1,ih.2.trans this.2⟩
theorem JX (own:au)(a:Nat)(x:Int):∀ (ys:List Int) (i:Nat) (o:au),o.Rows.length<=1048576 ->
  eachL (zf own a x) i ys (o.Rows,o.N)=some ((fO own a x i ys o).Rows,(fO own a x i ys o).N)/\eachL (xx own a x) i ys (o.N,o.Rows)=some ((fO own a x i ys o).N,(fO own a x i ys o).Rows)
 | [],i,o,_=>⟨rfl,rfl⟩
 | y::ys,i,o,h=>by
  have e1:zf own a x i y (o.Rows,o.N)=some ((if bG own (a:Int) (i:Int) then ca o x y else o).Rows,(if bG own (a:Int) (i:Int) then ca o x y else o).N):=by
   unfold zf;dsimp only;rw[oB,aj];by_cases hp:bG own (a:Int) (i:Int);rw[decide_eq_true hp,ao rfl,ao hp,qU h];rfl;rw[decide_eq_false hp,an (by simp),an hp];rfl
  have e2:xx own a x i y (o.N,o.Rows)=some ((if bG own (a:Int) (i:Int) then ca o x y else o).N,(if bG own (a:Int) (i:Int) then ca o x y else o).Rows):=by
   unfold xx;dsimp only;rw[NK,aj];by_cases hp:bG own (a:Int) (i:Int);rw[decide_eq_true hp,ao rfl,ao hp,Bp,qU h];rfl;rw[decide_eq_false hp,an (by simp),an hp];rfl
  have hl:(if bG own (a:Int) (i:Int) then ca o x y else o).Rows.length<=1048576:=by
   split;rw[(lW o x y).1];exact h;exact h
  have ih:=JX own a x ys (i+1) _ hl;rw[eachL,eachL,e1,e2,aj,aj,fO];exact ih
theorem EZ (own:au)(at' : List Int):∀ (xs:List Int) (a:Nat) (o:au),o.Rows.length<=1048576 ->
  eachL (ze own at') a xs (o.Rows,o.N)=some ((ia own at' a xs o).Rows,(ia own at' a xs o).N)/\eachL (xw own at') a xs (o.N,o.Rows)=some ((ia own at' a xs o).N,(ia own at' a xs o).Rows)
 | [],a,o,_=>⟨rfl,rfl⟩
 | x::xs,a,o,h=>by
  have U:=JX own a x at' 0 o h;have hl:(fO own a x 0 at' o).Rows.length<=1048576:=by rw[(xU own a x at' 0 o).1];exact h
  have ih:=EZ own at' xs (a+1) _ hl;have e1:ze own at' a x (o.Rows,o.N)=some ((fO own a x 0 at' o).Rows,(fO own a x 0 at' o).N):=by
   unfold ze;dsimp only;rw[U.1];rfl
  have e2:xw own at' a x (o.N,o.Rows)=some ((fO own a x 0 at' o).N,(fO own a x 0 at' o).Rows):=by
   unfold xw;dsimp only;rw[U.2];rfl
  rw[eachL,eachL,e1,e2,aj,aj,ia];exact ih
noncomputable def jI (g:al) (r:ae) (o:au) (pos:Int) (own:au):au:=ia own (dc g r pos) 0 (dc g r pos) o
theorem WE {g:al}(h:ee g){r:ae}(hl:fB r){o:au}(ho:o.Rows.length<=1048576)(pos:Int)(own:au):tk g r o pos own=some (jI g r o pos own):=by
 unfold tk jI;rw[Tt h hl,aj,(EZ own (dc g r pos) (dc g r pos) 0 o ho).2];rfl
theorem oA {r:ae}{k:Nat}{x:ar}(h:r.rt_[k]?=some x):cn r ((k+1:Nat):Int)=x:=by
 have hk:=(List.getElem?_eq_some_iff.1 h).1;unfold cn;rw[an (by omega),ao (by omega),show (((k+1:Nat):Int)-1).toNat=k by omega,Cwz,h];rfl
noncomputable def dq (g:al) (r:ae):Nat->List au->au->au
 | _,[],o=>o
 | k,own::l,o=>dq g r (k+1) l (jI g r o ((k+1:Nat):Int) own)
theorem XP (g:al)(r:ae)(o:au)(pos:Int)(own:au):(jI g r o pos own).Rows.length=o.Rows.length:=(BL own _ _ 0 o).1
def kl (g:al)(r:ae)(list:List au):Prop:=list.length=r.rt_.length/\∀ k own,list[k]?=some own->aI own/\own.N=((bJ g (cn r ((k+1:Nat):Int))).length:Int)
theorem LS {g:al}(h:ee g){r:ae}(hl:fB r){list:List au}(hf:kl g r list):∀ (m k:Nat) (o:au),k+m=list.length->o.Rows.length<=1048576 ->
  findL (zd g r) k (list.drop k) (o.Rows,o.N)=some (.inl ((dq g r k (list.drop k) o).Rows,(dq g r k (list.drop k) o).N)) /\
  findL (yX g r) k (list.drop k) (o.Rows,o.N)=some (.inl ((dq g r k (list.drop k) o).Rows,(dq g r k (list.drop k) o).N))/\(dq g r k (list.drop k) o).Rows.length=o.Rows.length
 | 0,k,o,hk,_=>by rw[List.drop_eq_nil_of_le (by omega)];exact⟨rfl,rfl,rfl⟩
 | m+1,k,o,hk,ho=>by
  have hk' : k<list.length:=by omega
  rw[List.drop_eq_getElem_cons hk'];have hv:=hf.2 k list[k] (Cmz hk');have hR:k<r.rt_.length:=by rw[← hf.1];exact hk'
  have hsym:=oA (r:=r) (k:=k) (Cmz hR);have hpl:=JY g (r:=r) (k:=k+1) (by omega);have e1:zd g r k list[k] (o.Rows,o.N)=some (.inl ((jI g r o ((k+1:Nat):Int) list[k]).Rows,(jI g r o ((k+1:Nat):Int) list[k]).N)):=by
   unfold zd;dsimp only;rw[Tu h hl,aj,p5,aj,decide_eq_true hv.1,ao rfl,ao (by rw[hpl];exact hv.2),(EZ list[k] _ _ 0 o ho).1];rfl
  have e2:yX g r k list[k] (o.Rows,o.N)=some (.inl ((jI g r o ((k+1:Nat):Int) list[k]).Rows,(jI g r o ((k+1:Nat):Int) list[k]).N)):=by
   unfold yX;dsimp only;rw[Cmz hR,aj,LV h,aj,ao (by rw[← hsym];exact hv.2),WE h hl ho];rfl
  have hlen:=XP g r o ((k+1:Nat):Int) list[k];have ih:=LS h hl hf m (k+1) (jI g r o ((k+1:Nat):Int) list[k]) (by omega) (by rw[hlen];exact ho);rw[findL,findL,e1,e2,aj,aj,dq];exact⟨ih.1,ih.2.1,ih.2.2.trans hlen⟩
noncomputable def cg (g:al) (r:ae):au:=(qw g r).getD ⟨0,[]⟩
theorem I3 {g:al}{r:ae}(h:Sz.szd g<=1048576)(Z:Sz.szd r<=1048576):qw g r=some (cg g r)/\qu g r=some (cg g r)/\(cg g r).Rows.length<=16:=by
 obtain⟨x,U,K,h3⟩:=XV h Z;unfold cg;rw[U,K];exact⟨rfl,rfl,h3⟩
noncomputable def eP (g:al) (r:ae) (list:List au):au:=if 16<(br g r).length then ⟨0,[]⟩ else fe (dq g r 0 list (cg g r))
theorem AR {g:al}{r:ae}(h:Sz.szd g<=1048576)(Z:Sz.szd r<=1048576){list:List au}(hf:kl g r list):sq g r list=some (eP g r list)/\u0 g r list=some (eP g r list)/\(eP g r list).Rows.length<=16:=by
 have hg:=gJ h;have hl:=iv Z;obtain⟨l1,l2,l3⟩:=I3 h Z;have hn:(list.length:Int)=(r.rt_.length:Int):=by rw[hf.1]
 unfold sq u0;rw[JZ hg hl,AS hg hl];simp only[aj];rw[ao hn,ao hn];simp only[aj];by_cases h16:16<(br g r).length;have hi:(16:Int)<((br g r).length:Int):=by omega
 have hc:eP g r list=⟨0,[]⟩:=ao h16;rw[hc,decide_eq_true hi,ao rfl,ao hi];exact⟨rfl,rfl,by simp⟩;have hi:¬ (16:Int)<((br g r).length:Int):=by omega
 have hc:eP g r list=fe (dq g r 0 list (cg g r)):=an h16;rw[hc,decide_eq_false hi,an (by simp),an hi,l1,l2,aj,aj];have key:=LS hg hl hf list.length 0 (cg g r) (by omega) (by omega);rw[List.drop_zero] at key;have hlen:(dq g r 0 list (cg g r)).Rows.length<=16:=by rw[key.2.2];exact l3
 rw[key.1,key.2.1,aj,aj,mP,mP];dsimp only;rw[Ww (r:=⟨(dq g r 0 list (cg g r)).N,(dq g r 0 list (cg g r)).Rows⟩) (by show (dq g r 0 list (cg g r)).Rows.length<=_;omega),Wv (r:=⟨(dq g r 0 list (cg g r)).N,(dq g r 0 list (cg g r)).Rows⟩) (by show (dq g r 0 list (cg g r)).Rows.length<=_;omega)];exact⟨rfl,rfl,by rw[(Gd _).1];exact hlen⟩
section
variable {α β ρ σ:Type}{Q:β->Prop}{b:List UInt8}
theorem Ok.bif {c:Prop}[Decidable c]{A B:Option α}{k:α->Option β}(U:c->Ok Q (A.bind k))(K:¬ c->Ok Q (B.bind k)):Ok Q ((if c then A else B).bind k):=by
 by_cases hc:c;rw[ao hc];exact U hc;rw[an hc];exact K hc
theorem Ok.bso {x:α}{k:α->Option β}(h:Ok Q (k x)):Ok Q ((some x).bind k):=h
theorem Ok.bbi {γ:Type}{A:Option α}{B:α->Option γ}{k:γ->Option β}(h:Ok Q (A.bind λx=>(B x).bind k)):Ok Q ((A.bind B).bind k):=by
 rw[Option.bind_assoc];exact h
theorem Ok.bgr {c:Prop}[Decidable c]{A:Option α}{k:α->Option β}(hc:c)(h:Ok Q (A.bind k)):Ok Q ((Go.E.grd c A).bind k):=by rw[aF hc];exact h
theorem Ok.get {l:List α}{j:Nat}{k:α->Option β}(hj:j<l.length)(h:∀ x,x∈l->Ok Q (k x)):Ok Q ((l[j]?).bind k):=by
 obtain⟨x,hx⟩:∃ x,l[j]?=some x:=⟨_,Cmz hj⟩
 rw[hx];exact h x (Bvz hx)
theorem Ok.eq {A:Option α}{x:α}{k:α->Option β}(hA:A=some x)(h:Ok Q (k x)):Ok Q (A.bind k):=by rw[hA];exact h
theorem bU {P:α->Prop}{o:Option (α×aL)}(ho:Dr b P o){k:α×aL->Option β}(hk:∀ y i' h',P y->0<=i'->Ok Q (k (y,⟨b,i',h'⟩))):Ok Q (o.bind k):=by
 obtain⟨⟨y,z⟩,rfl,hy,hz,he⟩:=ho;obtain⟨zb,zi,zh⟩:=z;dsimp only at he hz hy;subst he;exact hk y zi zh hy hz
theorem cb {i h:Int}(hi:0<=i):CB b ⟨b,i,h⟩:=⟨hi,rfl⟩
theorem Dr.re {P:α->Prop}{y:α}{i h:Int}(hy:P y)(hi:0<=i):Dr b P (some (y,(⟨b,i,h⟩:aL))):=⟨_,rfl,hy,hi,rfl⟩
theorem EY {P:σ->Prop}{Q:ρ->Prop}{f:σ->Option (σ ⊕ ρ)}(μ:σ->Nat)(hf:∀ s,P s->Ok (λz=>match z with|.inl s'=>P s'/\μ s'<μ s|.inr r=>Q r) (f s)):∀ s,P s->Ok Q (bK f s):=by
 have key:∀ n s,μ s<n->P s->Ok Q (bK f s):=by
  intro n
  induction n with
  | zero=>intro s h;omega
  | succ n ih=>
   intro s h hp;obtain⟨z,hz,hq⟩:=hf s hp;cases z with
   | inl s'=>rw[eS hz];exact ih s' (by have:=hq.2;omega) hq.1
   | inr r=>exact⟨r,c9 hz,hq⟩
 exact λs hs=>key _ s (Nat.lt_succ_self _) hs
end
theorem qL {α β:Type}{Q:β->Prop}(P:Nat->List α->Prop){f:Nat->Int×Int×List α->Option (Int×Int×List α)}{k:Int×Int×List α->Option β}{n:Nat}{i h:Int}{l:List α}(hi:0<=i)(h0:P 0 l)
  (hf:∀ j l i h,j<n->0<=i->P j l->Ok (λs:Int×Int×List α=>0<=s.1/\P (j+1) s.2.2) (f j (i,h,l))) (hk:∀ l i h,0<=i->P n l->Ok Q (k (i,h,l))):Ok Q ((eachN f 0 n (i,h,l)).bind k):=by
 obtain⟨s,e,U⟩:=E4 (P:=λk (s:Int×Int×List α)=>0<=s.1/\P k s.2.2) (f:=f) (n:=n) (i:=0) (s:=(i,h,l)) ⟨hi,h0⟩ λj s _ hj hs=>hf j _ _ _ (by omega) hs.1 hs.2;rw[e];rw[Adz] at U;exact hk _ _ _ U.1 U.2
theorem D1 {γ α β:Type}{Q:β->Prop}(P:Nat->List α->Prop){f:Nat->γ->Int×Int×List α->Option (Int×Int×List α)}{k:Int×Int×List α->Option β}{xs:List γ}{i h:Int}{l:List α}(hi:0<=i)(h0:P 0 l)
  (hf:∀ j x l i h,x∈xs->j<xs.length->0<=i->P j l->Ok (λs:Int×Int×List α=>0<=s.1/\P (j+1) s.2.2) (f j x (i,h,l))) (hk:∀ l i h,0<=i->P xs.length l->Ok Q (k (i,h,l))):Ok Q ((eachL f 0 xs (i,h,l)).bind k):=by
 obtain⟨s,e,U⟩:=ti (P:=λk (s:Int×Int×List α)=>0<=s.1/\P k s.2.2) (f:=f) (xs:=xs) (i:=0) (s:=(i,h,l)) ⟨hi,h0⟩ λj x s hx _ hj hs=>hf j x _ _ _ hx (by omega) hs.1 hs.2;rw[e];rw[Adz] at U;exact hk _ _ _ U.1 U.2
def SB (s:ah):Prop:=s.Name.size<=8/\1<=s.as_.length/\s.as_.length<=5/\∀ a∈s.as_,a.Name.size<=8
def RB (r:ae):Prop:=r.Name.size<=8/\r.Left.size<=8/\r.rt_.length<=5/\(∀ x∈r.rt_,x.size<=8)
def kh (l:List ah):Prop:=1<=l.length/\l.length<=3/\∀ s∈l,SB s
theorem wG {α:Type}[Sz α]{m:Nat}:∀ {l:List α},(∀ x∈l,Sz.szd x<=m)->bW l<=l.length*(m+1)
 | [],_=>by simp[bW]
 | x::l,h=>by
  have U:=wG (m:=m) (l:=l) λy hy=>h y (by simp[hy]);have K:=h x (by simp);simp only[bW,bE,Nat.add_mul];omega
theorem RB.rok {r:ae}(h:RB r):fB r:=by have:=h.2.2.1;show r.rt_.length<=1048576;omega
section
variable {b:List UInt8}(Y:b.length<=1048576)
include Y
theorem PU {x:ar}(h:x∈[(⟨#[97]⟩:ar),(⟨#[98]⟩:ar),(⟨#[99]⟩:ar),(⟨#[100]⟩:ar)]):x.size<=8:=by
 simp only[Dsz,Daz,or_false] at h;rcases h with h|h|h|h<;>rw[h]<;>decide
theorem I2 {nm:ar}(hn:nm.size<=8)(a2 a3:Bool){i h:Int}(hi:0<=i):Dr b SB (rE nm a2 a3 ⟨b,i,h⟩):=by
 unfold rE;refine bU (dt Y 4 ⟨hi,rfl⟩) λy i1 U hy hi1=>?_;have h4:=hy.2.1 (by omega);refine .grd (by constructor<;>omega) ?_;refine qL (λk l=>l.length=k/\∀ a∈l,a.Name.size<=8) hi1 ⟨rfl,by simp⟩ (λk s1 s2 s3 hk hs1 hs=>?_) λs1 i2 K p1 hs=>?_;obtain⟨hs2,hs3⟩:=hs;unfold M1;dsimp only;refine .bbi (.get (by simp;omega) λx1 hx1=>?_);have hx1:=PU Y hx1;have fin:∀ (t m:Int) (i' h' : Int),0<=i'->Ok (λs:Int×Int×List aG=>0<=s.1/\(s.2.2.length=k+1/\∀ a∈s.2.2,a.Name.size<=8)) (some (i',h',s1++[(⟨x1,t,m,false⟩:aG)])):=λt m i' h' hi'=>by
  refine .ret ⟨hi',by simp[hs2],λa ha=>?_⟩;simp only[List.mem_append,Dsz,Daz,or_false] at ha;rcases ha with ha|ha;exact hs3 a ha;rw[ha];exact hx1
 refine .bbi (bU (ov Y (by simp) ⟨hs1,rfl⟩) λt i2 K _ hi2=>?_);refine .bbi (bU (ov Y (by simp) ⟨hi2,rfl⟩) λm i3 h3 _ hi3=>?_);cases a2<;>cases a3<;>dsimp only
 all_goals
  repeat' first
   | ((with_reducible refine .bso ?_);try dsimp only)
   | (with_reducible exact fin _ _ _ _ (by assumption))
   | ((with_reducible refine .bbi ?_);try dsimp only)
   | (with_reducible refine .bif (λ_=>?_) λ_=>?_)
   | (with_reducible refine .ite (λ_=>?_) λ_=>?_)
   | ((with_reducible refine bU (ir Y _ (cb (by assumption))) λ_ _ _ _ _=>?_);try dsimp only)
   | ((with_reducible refine bU (ov Y (by simp) (cb (by assumption))) λ_ _ _ _ _=>?_);try dsimp only)
   | ((with_reducible refine bU (dt Y _ (cb (by assumption))) λ_ _ _ _ _=>?_);try dsimp only)
   | (refine .bgr (by constructor<;>omega) ?_)
   | (refine .grd (by constructor<;>omega) ?_)
 obtain⟨p2,p3⟩:=hs;dsimp only;exact Dr.re ⟨hn,by dsimp only;omega,by dsimp only;omega,p3⟩ p1
end
theorem EX {g:al}(h:kh g.ss_)(nm:ar):(bM g nm).1.as_.length<=5/\∀ a∈(bM g nm).1.as_,a.Name.size<=8:=by
 unfold bM;split;rename_i y hy;have:=h.2.2 y (List.mem_of_find?_eq_some hy);exact⟨this.2.2.1,this.2.2.2⟩;exact⟨by simp[zS],by simp[zS]⟩
theorem U3 {y:ah}(h:∀ a∈y.as_,a.Name.size<=8)(nm:ar):mh y nm=some (eY y nm):=by
 unfold mh eY;rw[pN (p:=λa=>decide (a.Name=nm)) (r:=λa=>(a,true)) λk x _=>⟨λhp=>by unfold CU;rw[ao (by simpa using hp)],λhp=>by unfold CU;rw[an (by simpa using hp)]⟩];cases y.as_.find? λa=>decide (a.Name=nm)<;>rfl
theorem kh.g {g:al}(h:kh g.ss_):ee g:=λy hy=>by have:=(h.2.2 y hy).2.2.1;omega
theorem Au {g:al}(hs:kh g.ss_){r:ae}(Z:r.rt_.length<=5)(k:Int):Ok (λq=>∀ o∈q,o.Name.size<=8) (lZ g r k):=by
 unfold lZ;refine Ok.bind (Q:=λq=>∀ o∈q,o.Name.size<=8) (EY (P:=λs:List Oc×Int=>0<=s.2/\s.2<=r.rt_.length+1/\(s.1.length:Int)<=5*s.2/\∀ o∈s.1,o.Name.size<=8) (λs=>(r.rt_.length+1-s.2).toNat) ?_ _ ⟨by simp,by simp;omega,by simp,by simp⟩) λq hq=>.ret hq;rintro⟨q,p⟩ ⟨U,K,h3,h4⟩;dsimp only at U K h3 h4;unfold Mf;dsimp only;refine .ite (λhp=>?_) λ_=>.ret h4;refine .eq (mO (show r.rt_.length<=1048576 by omega) p) ?_;refine .eq (l7 hs.g _) ?_;have hff:=EX hs (cn r p);generalize bM g (cn r p)=fs at hff;obtain⟨y,yb⟩:=fs;obtain⟨f1,f2⟩:=hff;dsimp only at f1 f2 ⊢;refine Ok.bind (Q:=λq'=>q'.length<=q.length+5/\∀ o∈q',o.Name.size<=8) ((ti (P:=λk q'=>q'.length<=q.length+k/\∀ o∈q',o.Name.size<=8) (i:=0) ⟨by omega,h4⟩ ?_).mono λq' hq=>⟨by omega,hq.2⟩) λq' hq=>.grd (by constructor<;>omega) (.ret ⟨⟨by dsimp only;omega,by dsimp only;omega,by dsimp only;omega,hq.2⟩,by dsimp only;omega⟩);intro j a l ha _ hj hl;have hl1:=hl.1;have hl2:=hl.2;have ha:=f2 a ha;unfold Mg;dsimp only;have e1:Ok (λq' : List Oc=>q'.length<=q.length+(j+1)/\∀ o∈q',o.Name.size<=8) (some l):=.ret ⟨by omega,hl2⟩;have e2:Ok (λq' : List Oc=>q'.length<=q.length+(j+1)/\∀ o∈q',o.Name.size<=8) (some (l++[(⟨p,a.Name⟩:Oc)])):=.ret ⟨by simp;omega,λo ho=>by
  simp only[List.mem_append,Dsz,Daz,or_false] at ho;rcases ho with ho|ho;exact hl2 o ho;rw[ho];exact ha⟩
 have Y:([]:List UInt8).length<=1048576:=by simp
 repeat' first
  | ((with_reducible refine .bso ?_);try dsimp only)
  | (with_reducible exact e1)
  | (with_reducible exact e2)
  | ((with_reducible refine .bbi ?_);try dsimp only)
  | (with_reducible refine .bif (λ_=>?_) λ_=>?_)
  | (with_reducible refine .ite (λ_=>?_) λ_=>?_)
  | ((with_reducible refine bU (ir Y _ (cb (by assumption))) λ_ _ _ _ _=>?_);try dsimp only)
  | ((with_reducible refine bU (ov Y (by simp) (cb (by assumption))) λ_ _ _ _ _=>?_);try dsimp only)
  | ((with_reducible refine bU (dt Y _ (cb (by assumption))) λ_ _ _ _ _=>?_);try dsimp only)
  | (refine .bgr (by constructor<;>omega) ?_)
  | (refine .grd (by constructor<;>omega) ?_)
theorem PE (a:Int):Ok (λ_=>True) (jZ a):=by
 unfold jZ;rw[jS,aj,jS,aj]
 repeat' first
  | exact .ret trivial
  | refine .ite (λ_=>?_) λ_=>?_
theorem PD (a:Int)(x y:Expr):kN a x y=some (⟨4,a,0,0,(⟨#[]⟩:ar),(⟨#[]⟩:ar),[x,y]⟩:Expr):=rfl
theorem Ts (g:al)(r:ae)(rem:Bool):∀ (m n1 n2:Nat),m<n1->m<n2->∀ (k d:Int) (o:aL),d<=m+1->jh n1 g r k d rem o=jh n2 g r k d rem o:=by
 intro m
 induction m with
 | zero=>
  intro n1 n2 U K k d o hd;obtain⟨n1,rfl⟩:∃ q,n1=q+1:=⟨n1-1,by omega⟩
  obtain⟨n2,rfl⟩:∃ q,n2=q+1:=⟨n2-1,by omega⟩
  show jW (jh n1) g r k d rem o=jW (jh n2) g r k d rem o;unfold jW;simp only[ao (show d<2 by omega),aj,if_true]
 | succ m ih=>
  intro n1 n2 U K k d o hd;obtain⟨n1,rfl⟩:∃ q,n1=q+1:=⟨n1-1,by omega⟩
  obtain⟨n2,rfl⟩:∃ q,n2=q+1:=⟨n2-1,by omega⟩
  show jW (jh n1) g r k d rem o=jW (jh n2) g r k d rem o;have h:∀ k o,jh n1 g r k (d-1) rem o=jh n2 g r k (d-1) rem o:=λk o=>ih n1 n2 (by omega) (by omega) k (d-1) o (by omega);unfold jW;simp only[h]
section
variable {b:List UInt8}(Y:b.length<=1048576)
include Y
theorem U2 {g:al}(hs:kh g.ss_){r:ae}(Z:r.rt_.length<=5)(rem:Bool):∀ (m n:Nat),m<n->∀ (k d i h:Int),d<=m+1->-1000+m<=d->d<=1000->0<=i->Dr b (λe=>Sz.szd e<=fb m) (jh n g r k d rem ⟨b,i,h⟩):=by
 intro m
 induction m with
 | zero=>
  intro n hn k d i h hd hd0 hd1 hi;obtain⟨n,rfl⟩:∃ q,n=q+1:=⟨n-1,by omega⟩
  show Dr b _ (jW (jh n) g r k d rem ⟨b,i,h⟩);unfold jW;rw[ao (show d<2 by omega)];dsimp only;rw[aj];dsimp only;rw[ao rfl];unfold Dr;have hf:=sO Y 0
  repeat' first
   | ((with_reducible refine .bso ?_);try dsimp only)
   | ((with_reducible refine .bind (Au hs Z _) λ_ _=>?_))
   | ((with_reducible refine bU (sT Y _ (by assumption) (cb (by assumption))) λ_ _ _ _ _=>?_);try dsimp only)
   | ((with_reducible refine .bbi ?_);try dsimp only)
   | (with_reducible refine .bif (λ_=>?_) λ_=>?_)
   | (with_reducible refine .ite (λ_=>?_) λ_=>?_)
   | ((with_reducible refine bU (ir Y _ (cb (by assumption))) λ_ _ _ _ _=>?_);try dsimp only)
   | ((with_reducible refine bU (ov Y (by simp) (cb (by assumption))) λ_ _ _ _ _=>?_);try dsimp only)
   | ((with_reducible refine bU (dt Y _ (cb (by assumption))) λ_ _ _ _ _=>?_);try dsimp only)
   | (refine .bgr (by constructor<;>omega) ?_)
   | (refine .grd (by constructor<;>omega) ?_)
  all_goals refine⟨_,rfl,?_,by assumption,rfl⟩
  all_goals dsimp only
  all_goals first
   | (rw[sP Y,mR Y];omega)
   | omega
 | succ m ih=>
  intro n hn k d i h hd hd0 hd1 hi;obtain⟨n,rfl⟩:∃ q,n=q+1:=⟨n-1,by omega⟩
  have hr1:∀ k i h,0<=i->Dr b (λe=>Sz.szd e<=fb m) (jh n g r k (d-1) rem ⟨b,i,h⟩):=λk i h hi=>ih n (by omega) k (d-1) i h (by omega) (by omega) (by omega) hi;show Dr b _ (jW (jh n) g r k d rem ⟨b,i,h⟩);unfold jW Dr;dsimp only;have hl:=hs.1;have hf:=sO Y m;have hg:=JQ Y m;have hid:aX (d-1):=by constructor<;>omega
  repeat' first
   | ((with_reducible refine .bso ?_);try dsimp only)
   | ((with_reducible refine .bind (Au hs Z _) λ_ _=>?_))
   | ((with_reducible refine bU (sT Y _ (by assumption) (cb (by assumption))) λ_ _ _ _ _=>?_);try dsimp only)
   | ((with_reducible refine bU (hr1 _ _ _ (by assumption)) λ_ _ _ _ _=>?_);try dsimp only)
   | ((with_reducible refine .bind (PE _) λ_ _=>?_);try dsimp only)
   | ((with_reducible refine .eq (PD _ _ _) ?_);try dsimp only)
   | ((with_reducible refine .grd hid ?_))
   | ((with_reducible refine .grd (by omega) ?_))
   | ((with_reducible refine .get (l:=g.ss_) (by omega) λx hx=>?_);obtain⟨_,_,_,hat⟩:=hs.2.2 x hx)
   | ((with_reducible refine .get (by omega) λx hx=>?_);have hxn:=hat x hx)
   | ((with_reducible refine .bbi ?_);try dsimp only)
   | (with_reducible refine .bif (λ_=>?_) λ_=>?_)
   | (with_reducible refine .ite (λ_=>?_) λ_=>?_)
   | ((with_reducible refine bU (ir Y _ (cb (by assumption))) λ_ _ _ _ _=>?_);try dsimp only)
   | ((with_reducible refine bU (ov Y (by simp) (cb (by assumption))) λ_ _ _ _ _=>?_);try dsimp only)
   | ((with_reducible refine bU (dt Y _ (cb (by assumption))) λ_ _ _ _ _=>?_);try dsimp only)
   | (refine .bgr (by constructor<;>omega) ?_)
   | (refine .grd (by constructor<;>omega) ?_)
  all_goals refine⟨_,rfl,?_,by assumption,rfl⟩
  all_goals dsimp only at *
  all_goals first
   | (rw[sP Y,mR Y];omega)
   | (rw[I7 Y];omega)
   | (rw[Ej Y,mR Y];omega)
   | (rw[Li Y,mR Y];omega)
   | omega
theorem Tq {g:al}(hs:kh g.ss_){r:ae}(Z:r.rt_.length<=5)(rem:Bool)(k d i h:Int)(h0:0<=d)(h3:d<=3)(hi:0<=i):Dr b (λe=>Sz.szd e<=320) (BE g r k d rem ⟨b,i,h⟩):=
 Kf (N:=3) (λn hn=>Ts g r rem 2 (n+1) n (by omega) (by omega) k d _ (by omega)) (U2 Y hs Z rem 2 3 (by omega) k d i h (by omega) (by omega) (by omega) hi)
end
end Go.Proofs.YtodhafdaelcnlaaGreat
