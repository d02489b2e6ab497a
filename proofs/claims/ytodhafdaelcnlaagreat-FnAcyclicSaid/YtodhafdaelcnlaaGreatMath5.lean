/- What those partial functions come to: plain lemmas on data; each bears its conditions in its statement. -/
import Derived.Test.YtodhafdaelcnlaaGreatMath4
set_option linter.unusedVariables false
set_option linter.unusedSimpArgs false
set_option linter.ambiguousOpen false
set_option linter.unusedSectionVars false
set_option linter.unnecessarySimpa false
open List renaming findIdx?_cons->Epz,findIdx?_eq_some_iff_getElem->Eqz,getD_eq_getElem?_getD->Cwz,getElem?_eq_getElem->Cmz,replicate->Bqz,mem_of_getElem?->Bvz,eq_nil_of_length_eq_zero->Awz,range'->Dbz,mem_cons->Dsz,not_mem_nil->Daz
open Nat renaming zero_add->Adz,le_trans->Bgz
open Int renaming natCast_nonneg->Doz
open Option renaming getD_some->Cbz
namespace Go.Proofs.YtodhafdaelcnlaaGreat
open Go Go.E
def eK (g:ak)(n:an):Option Nat:=g.ss_.findIdx? λy=>decide (y.Name=n)
def gy (g:ak)(n:an):Int:=match eK g n with
 | some j=>(j:Int)
 | none=>-1
theorem oS {α ρ:Type}{q:α->Bool}{c:Nat->ρ}:∀ {xs:List α} {i:Nat} {f:Nat->α->Unit->Option (Unit ⊕ ρ)},(∀ j x,xs[j]?=some x->f (i+j) x ()=some (if q x=true then .inr (c (i+j)) else .inl ())) ->
  findL f i xs ()=some (match xs.findIdx? q with|some j=>.inr (c (i+j))|none=>.inl ())
 | [],_,_,_=>rfl
 | x::xs,i,f,h=>by
  rw[findL,show f i x ()=_ from h 0 x rfl,aj,Epz];by_cases hq:q x=true;rw[ao hq,ao hq];rw[al hq,al hq];have ih:=oS (q:=q) (c:=c) (xs:=xs) (i:=i+1) (f:=f) λj y hy=>by
   have:=h (j+1) y (by simpa using hy);rw[show i+1+j=i+(j+1) by omega];exact this
  dsimp only;rw[ih];cases xs.findIdx? q with
  | none=>rfl
  | some j=>simp only[Option.map_some];rw[show i+1+j=i+(j+1) by omega]
theorem pX (g:ak)(n:an):kK g n=some (gy g n):=by
 unfold kK gy eK;rw[oS (q:=λy:af=>decide (y.Name=n)) (c:=λk=>(k:Int)) λj x hx=>by
  unfold LI;by_cases hn:x.Name=n;rw[ao hn,ao (by simpa using hn)];rw[al hn,al (by simpa using hn)]]
 cases g.ss_.findIdx? λy=>decide (y.Name=n) with
 | none=>rfl
 | some j=>dsimp only;rw[Adz];rfl
theorem R7 {g:ak}{n:an}{j:Nat}(h:eK g n=some j):j<g.ss_.length:=by
 unfold eK at h;rw[Eqz] at h;exact h.1
def dH (g:ak)(hs:List Int)(n:an):Bool:=match eK g n with
 | some j=>decide (0<hs.getD j 0)
 | none=>false
def se (g:ak)(hs:List Int)(n:an):Bool:=g.rs_.any λr=>decide (r.Left=n)&&r.rt_.all (dH g hs)
theorem Fe {α:Type}{q:α->Bool}{f:Nat->α->Bool->Option Bool}:∀ (xs:List α) (i:Nat) (b:Bool),(∀ k x s,x∈xs->f k x s=some (s&&q x))->eachL f i xs b=some (b&&xs.all q)
 | [],_,b,_=>by simp[eachL]
 | x::xs,i,b,h=>by
  rw[eachL,h i x b (by simp),aj,Fe xs (i+1) _ λk y s hy=>h k y s (by simp[hy]),List.all_cons,Bool.and_assoc]
theorem getD_some {hs:List Int}{j:Nat}(h:j<hs.length):hs[j]?=some (hs.getD j 0):=by
 rw[Cwz,Cmz h];rfl
theorem R6 {g:ak}{hs:List Int}(hl:hs.length=g.ss_.length)(n:an):ua n g hs=some (match eK g n with|some j=>hs.getD j 0|none=>0):=by
 unfold ua eK;rw[oS (q:=λy:af=>decide (y.Name=n)) (c:=λk=>hs.getD k 0) λj x hx=>by
  unfold Gy;have hj:j<g.ss_.length:=(List.getElem?_eq_some_iff.1 hx).1;by_cases hn:x.Name=n;rw[ao hn,ao (by simpa using hn),Adz,getD_some (by omega)];rfl;rw[al hn,al (by simpa using hn)]]
 cases g.ss_.findIdx? λy=>decide (y.Name=n) with
 | none=>rfl
 | some j=>dsimp only;rw[Adz];rfl
theorem Wu {g:ak}{hs:List Int}(hl:hs.length=g.ss_.length)(xs:List an)(b:Bool):eachL (BF g hs) 0 xs b=some (b&&xs.all (dH g hs)):=
 Fe xs 0 b λk x s _=>by
  unfold BF dH;cases s with
  | false=>rfl
  | true=>
   rw[ao rfl,R6 hl,aj,aj,Bool.true_and];cases eK g x<;>rfl
theorem Wt {g:ak}{hs:List Int}(hl:hs.length=g.ss_.length)(xs:List an)(b:Bool):eachL (BW g hs) 0 xs b=some (b&&xs.all (dH g hs)):=
 Fe xs 0 b λk x s _=>by
  unfold BW dH;rw[pX,aj];unfold gy;cases s with
  | false=>rfl
  | true=>
   cases hj:eK g x with
   | none=>rfl
   | some j=>
    have:=R7 hj;dsimp only;rw[ao rfl,aj,decide_eq_true (Doz j),ao rfl];unfold fZ;by_cases h0:(0:Int)<(j:Int);rw[ao h0,aj,aD (Doz j),cE,getD_some (by omega)];rfl;obtain rfl:j=0:=by omega
    rw[al h0,aj,aD (by omega),show (0:Int).toNat=0 from rfl,getD_some (by omega)];rfl
theorem VB {g:ak}{hs:List Int}(hl:hs.length=g.ss_.length)(n:an):uz g n hs=some (se g hs n):=by
 unfold uz se;rw[gb (c:=true) (q:=λr:aa=>!(decide (r.Left=n)&&r.rt_.all (dH g hs))) λk x hx=>by
  unfold GL;rw[Wt hl,aj];cases (decide (x.Left=n)&&x.rt_.all (dH g hs))<;>rfl]
 have e:(g.rs_.all λr=>!(decide (r.Left=n)&&r.rt_.all (dH g hs)))=!(g.rs_.any λr=>decide (r.Left=n)&&r.rt_.all (dH g hs)):=by rw[List.not_any_eq_all_not]
 rw[e];cases g.rs_.any λr=>decide (r.Left=n)&&r.rt_.all (dH g hs)<;>rfl
def eZ (g:ak)(hs:List Int):Prop:=hs.length=g.ss_.length/\∀ j,0<=hs.getD j 0
theorem eZ.set {g:ak}{hs:List Int}(h:eZ g hs){k:Nat}{v:Int}(hv:0<=v):eZ g (hs.set k v):=by
 refine⟨by simpa using h.1,λj=>?_⟩;rw[Cwz,List.getElem?_set];split;split;exact hv;simp;rw[← Cwz];exact h.2 j
theorem DG {g:ak}{hs:List Int}(hl:hs.length=g.ss_.length){v:Int}(k:Nat)(x:af)(hk:k<g.ss_.length):∀ (rs:List aa) (i:Nat) (s:List Int),s.length=g.ss_.length ->
  eachL (xN g v hs k x) i rs s=some (if (rs.any λr=>decide (r.Left=x.Name)&&r.rt_.all (dH g hs))=true then s.set k v else s)
 | [],i,s,_=>by simp[eachL]
 | r::rs,i,s,hs'=>by
  have e:xN g v hs k x i r s=some (if (decide (r.Left=x.Name)&&r.rt_.all (dH g hs))=true then s.set k v else s):=by
   unfold xN;rw[Wu hl,aj];cases (decide (r.Left=x.Name)&&r.rt_.all (dH g hs)) with
   | false=>rfl
   | true=>rw[ao rfl,ao rfl,Cmz (by omega)];rfl
  rw[eachL,e,aj];by_cases Y:(decide (r.Left=x.Name)&&r.rt_.all (dH g hs))=true;rw[ao Y,DG hl k x hk rs (i+1) (s.set k v) (by simpa using hs')];have:(r::rs).any (λr=>decide (r.Left=x.Name)&&r.rt_.all (dH g hs))=true:=by rw[List.any_cons,Y];rfl
  rw[ao this,List.set_set,ite_self];rw[al Y,DG hl k x hk rs (i+1) s hs'];have:(r::rs).any (λr=>decide (r.Left=x.Name)&&r.rt_.all (dH g hs))=rs.any (λr=>decide (r.Left=x.Name)&&r.rt_.all (dH g hs)):=by rw[List.any_cons,Bool.eq_false_iff.2 Y];rfl
  rw[this]
theorem OZ {g:ak}{hs:List Int}(h:eZ g hs){v:Int}{k:Nat}{x:af}(hk:k<g.ss_.length){s:List Int}(hs' : s.length=g.ss_.length) :
  xM g v hs k x s=some (if (decide (hs.getD k 0=0)&&se g hs x.Name)=true then s.set k v else s):=by
 have h0:=h.2 k;unfold xM;rw[getD_some (by rw[h.1];exact hk),aj];by_cases hz:hs.getD k 0=0;rw[al (by omega),decide_eq_true hz,DG h.1 k x hk _ _ _ hs'];rfl;rw[ao (by omega),decide_eq_false hz];rfl
theorem OY {g:ak}{hs:List Int}(h:eZ g hs){v:Int}{k:Nat}{x:af}(hk:k<g.ss_.length){s:List Int}(hs' : s.length=g.ss_.length) :
  yp g hs v k x s=some (if (decide (hs.getD k 0=0)&&se g hs x.Name)=true then s.set k v else s):=by
 unfold yp;rw[getD_some (by rw[h.1];exact hk),aj];by_cases hz:hs.getD k 0=0;rw[ao hz,decide_eq_true hz,VB h.1,aj,Bool.true_and];cases se g hs x.Name with
 | false=>rfl
 | true=>rw[ao rfl,ao rfl,Cmz (by omega)];rfl
 rw[al hz,decide_eq_false hz];rfl
theorem L8 {g:ak}{hs:List Int}(h:eZ g hs){v:Int}(hv:0<=v):∀ (xs:List af) (i:Nat) (s:List Int),i+xs.length=g.ss_.length->eZ g s ->
  ∃ t,eachL (xM g v hs) i xs s=some t/\eachL (yp g hs v) i xs s=some t/\eZ g t
 | [],i,s,_,hs'=>⟨s,rfl,rfl,hs'⟩
 | x::xs,i,s,hi,hs'=>by
  simp only[bH] at hi;have e1:=OZ (x:=x) h (v:=v) (k:=i) (by omega) hs'.1;have e2:=OY (x:=x) h (v:=v) (k:=i) (by omega) hs'.1;have hn:eZ g (if (decide (hs.getD i 0=0)&&se g hs x.Name)=true then s.set i v else s):=by
   split;exact hs'.set hv;exact hs'
  obtain⟨t,U,W,h3⟩:=L8 h hv xs (i+1) _ (by omega) hn;exact⟨t,by rw[eachL,e1,aj,U],by rw[eachL,e2,aj,W],h3⟩
theorem BA {g:ak}(hn:g.ss_.length<=1048576):∃ l,qR g=some l/\nR g=some l/\eZ g l:=by
 have key:∀ (m k:Nat) (hs:List Int),k+m=g.ss_.length+1->1<=k->eZ g hs->∃ t,bE (rh g) ((k:Int),hs)=some t/\bE (rL g) (hs,(k:Int))=some t/\eZ g t:=by
  intro m
  induction m with
  | zero=>
   intro k hs hk _ h;refine⟨hs,db ?_,db ?_,h⟩;unfold rh;dsimp only;rw[al (by omega)];unfold rL;dsimp only;rw[al (by omega)]
  | succ m ih=>
   intro k hs hk U h;have hl:=h.1;obtain⟨t,e1,e2,e3⟩:=L8 h (v:=(k:Int)) (by omega) g.ss_ 0 hs (by omega) h;obtain⟨q,f1,f2,f3⟩:=ih (k+1) t (by omega) (by omega) e3;refine⟨q,?_,?_,f3⟩;have e:rh g ((k:Int),hs)=some (.inl (((k+1:Nat):Int),t)):=by
    unfold rh;dsimp only;rw[ao (by omega),aD (by refine⟨?_,?_,?_⟩<;>omega),aD (by simp),e1,aj,aD (by constructor<;>omega)];rfl
   rw[fi e];exact f1;have e:rL g (hs,(k:Int))=some (.inl (t,((k+1:Nat):Int))):=by
    unfold rL;dsimp only;rw[ao (by omega),aD (by simp only[List.length_nil];constructor<;>omega),e2,aj,aD (by constructor<;>omega)];rfl
   rw[fi e];exact f2
 have h0:eZ g (Bqz g.ss_.length (0:Int)):=⟨by simp,λj=>by rw[Cwz,List.getElem?_replicate];split<;>simp⟩
 obtain⟨t,f1,f2,f3⟩:=key g.ss_.length 1 (Bqz g.ss_.length 0) (by omega) (by omega) h0;refine⟨t,?_,?_,f3⟩;unfold qR;rw[aD (by refine⟨?_,?_,?_⟩<;>omega),show bE (rh g) (1,Bqz g.ss_.length 0)=some t from f1];rfl;unfold nR;rw[aD (by refine⟨?_,?_,?_⟩<;>omega),show bE (rL g) (Bqz g.ss_.length 0,1)=some t from f2];rfl
theorem Shape.names {g:ak}(h:Shape g){k j:Nat}{x y:af}(hk:g.ss_[k]?=some x)(hj:g.ss_[j]?=some y)(hn:x.Name=y.Name):k=j:=by
 have key:∀ {k j:Nat} {x y:af},g.ss_[k]?=some x->g.ss_[j]?=some y->x.Name=y.Name->¬ k<j:=by
  intro k j x y hk hj hn hlt;have:=o8 _ _ h.sym j y hj;unfold jB at this;rw[Bool.or_eq_false_iff] at this;have W:=this.2;unfold dx at W;rw[List.nil_append,List.any_eq_false] at W;exact W x (Bvz (i:=k) (by rw[List.getElem?_take,ao hlt];exact hk)) (by simpa using hn)
 have U:=key hk hj hn;have W:=key hj hk hn.symm;omega
theorem Shape.at_ {g:ak}(h:Shape g){k:Nat}{x:af}(hk:g.ss_[k]?=some x):eK g x.Name=some k:=by
 unfold eK;cases he:g.ss_.findIdx? λy=>decide (y.Name=x.Name) with
 | none=>
  rw[List.findIdx?_eq_none_iff] at he;have:=he x (Bvz hk);simp at this
 | some j=>
  rw[Eqz] at he;obtain⟨hj,U,_⟩:=he;rw[h.names (Cmz hj) hk (by simpa using U)]
noncomputable def qf (g:ak):List Int:=(qR g).getD []
noncomputable def rY (g:ak):Int×Int:=
 if (kF g).1=0 then
  match g.rs_.findIdx? λr=>!fT g r with
  | some k=>(7,(k:Int))
  | none=>match (qf g).findIdx? λx=>decide (x=0) with
   | some k=>(8,(k:Int))
   | none=>(0,0)
 else kF g
theorem Up {g:ak}(h:Sz.szd g<=1048576):uO g=some (rY g):=by
 unfold uO rY;rw[V1 h,aj];dsimp only;by_cases h0:(kF g).1=0;rw[ao h0,ao h0];rw[sQ (q:=λr=>!fT g r) (c:=λk=>((7:Int),(k:Int))) λk r Z=>by
  unfold GV;rw[Ur g (Bgz (ia Z) h),aj,← apply_ite some]]
 cases g.rs_.findIdx? λr=>!fT g r with
 | some k=>dsimp only;rw[Adz];rfl
 | none=>
  obtain⟨l,e1,e2,e3⟩:=BA (g:=g) (D4 h).1;rw[aj,lH,e1,aj];unfold qf;rw[e1,Cbz];rw[sQ (q:=λx:Int=>decide (x=0)) (c:=λk=>((8:Int),(k:Int))) λk x hx=>by
   unfold GU;by_cases hz:x=0;rw[ao hz,ao (by simpa using hz)];rw[al hz,al (by simpa using hz)]]
  dsimp only;cases l.findIdx? λx=>decide (x=0) with
  | some k=>dsimp only;rw[Adz];rfl
  | none=>rfl
 rw[al h0,al h0]
theorem JZ {g:ak}(h:Sz.szd g<=1048576):rG g=some (rY g):=by
 unfold rG rY;rw[VC h,aj];dsimp only;by_cases h0:(kF g).1=0;have hS:=J1 h0;rw[ao h0,ao h0];rw[sQ (q:=λr=>!fT g r) (c:=λk=>((7:Int),(k:Int))) λk r Z=>by
  unfold GW;rw[Uq (iP h) (Bgz (ia Z) h) λq hq=>hS.pos Z hq,aj];cases fT g r<;>rfl]
 cases g.rs_.findIdx? λr=>!fT g r with
 | some k=>dsimp only;rw[Adz];rfl
 | none=>
  obtain⟨l,e1,e2,e3⟩:=BA (g:=g) (D4 h).1;rw[aj,lH];unfold qf;rw[e1,Cbz];have hprod:∀ k x,g.ss_[k]?=some x->uQ g x.Name=some (!decide (l.getD k 0=0)):=by
   intro k x hk;have hk' : k<g.ss_.length:=(List.getElem?_eq_some_iff.1 hk).1;have ha:gy g x.Name=(k:Int):=by unfold gy;rw[hS.at_ hk]
   unfold uQ yd;rw[pX,ha,aj,al (by omega),e2,aj,aD (by omega),cE,getD_some (by rw[e3.1];exact hk'),aj,aj];have:=e3.2 k;congr 1;by_cases hz:l.getD k 0=0;rw[decide_eq_true hz,decide_eq_false (by omega)];rfl;rw[decide_eq_false hz,decide_eq_true (by omega)];rfl
  have hrun:∀ (xs:List af) (ys:List Int) (i:Nat),(∀ j x,xs[j]?=some x->g.ss_[i+j]?=some x)->ys.length=xs.length->(∀ j y,ys[j]?=some y->l.getD (i+j) 0=y) ->
    findL (yI g) i xs ()=some (match ys.findIdx? λx=>decide (x=0) with|some j=>.inr (8,((i+j:Nat):Int))|none=>.inl ()):=by
   intro xs
   induction xs with
   | nil=>
    intro ys i _ hl _;obtain rfl:=Awz hl;rfl
   | cons x xs ih=>
    intro ys i hx hl hy;cases ys with
    | nil=>simp at hl
    | cons y ys=>
     have U:=hprod i x (by simpa using hx 0 x rfl);have W:l.getD i 0=y:=by simpa using hy 0 y rfl
     have ih:=ih ys (i+1) (λj z hz=>by rw[show i+1+j=i+(j+1) by omega];exact hx (j+1) z (by simpa using hz)) (by simpa using hl) λj z hz=>by
      rw[show i+1+j=i+(j+1) by omega];exact hy (j+1) z (by simpa using hz)
     rw[W] at U;have e:yI g i x ()=some (if y=0 then .inr (8,(i:Int)) else .inl ()):=by
      unfold yI;rw[U,aj];by_cases hz:y=0;rw[decide_eq_true hz,ao hz];rfl;rw[decide_eq_false hz,al hz];rfl
     rw[findL,e,aj,Epz];by_cases hz:y=0;rw[ao hz,ao (by simpa using hz)];rfl;rw[al hz,al (by simpa using hz)];dsimp only;rw[ih];cases ys.findIdx? λx=>decide (x=0) with
     | none=>rfl
     | some j=>simp only[Option.map_some];rw[show i+1+j=i+(j+1) by omega]
  rw[hrun g.ss_ l 0 (λj x hx=>by rw[Adz];exact hx) e3.1 λj y hy=>by rw[Adz,Cwz,hy];rfl];dsimp only;cases l.findIdx? λx=>decide (x=0) with
  | some k=>dsimp only;rw[Adz];rfl
  | none=>rfl
 rw[al h0,al h0]
noncomputable def nh (g:ak):Bool:=decide ((rY g).1=0)
theorem JY {g:ak}(h:Sz.szd g<=1048576):tS g=some (nh g):=by
 unfold tS;rw[Up h];rfl
theorem Uo {g:ak}(h:Sz.szd g<=1048576):tI g=some (nh g):=by
 unfold tI;rw[JZ h];rfl
theorem FC {g:ak}(h:nh g=true):Shape g:=by
 refine J1 ?_;unfold nh at h;rw[decide_eq_true_eq] at h;unfold rY at h;by_cases h0:(kF g).1=0;exact h0;rw[al h0] at h;exact h
theorem R5 {n:Nat}{x y:Int}(hx:0<=x/\x<=((2 ^ n:Nat):Int)-1)(hy:0<=y/\y<=((2 ^ n:Nat):Int)-1):0<=gW x y/\gW x y<=((2 ^ n:Nat):Int)-1:=by
 have:=Nat.or_lt_two_pow (n:=n) (x:=x.toNat) (y:=y.toNat) (by omega) (by omega);unfold gW;omega
def uI (a:au):Nat:=(a.Rows.map Int.toNat).sum
theorem Vz {a:au}(ha:aI a):uI a<=16*65535:=by
 have key:∀ l:List Int,(∀ x∈l,x.toNat<=65535)->(l.map Int.toNat).sum<=l.length*65535:=by
  intro l
  induction l with
  | nil=>intro _;simp
  | cons x l ih=>
   intro h;have U:=h x (by simp);have W:=ih λy hy=>h y (by simp[hy]);simp only[List.map_cons,List.sum_cons,bH];omega
 have U:=key a.Rows λx hx=>by
  have:=ha.2.2.2 x hx;have:=O2 ha.2.1;omega
 have hl:a.Rows.length<=16:=by have:=ha.2.2.1;have:=ha.2.1;omega
 exact Bgz U (Nat.mul_le_mul_right 65535 hl)
theorem I8 {b:List Int}{f:Nat->Int->Unit->Option (Unit ⊕ Bool)}(hf:∀ k x,f k x ()=(b[k]?).bind λx2=>if x=x2 then some (.inl ()) else some (.inr false)) :
  ∀ (xs ys:List Int) (i:Nat),xs.length=ys.length->(∀ j,b[i+j]?=ys[j]?)->findL f i xs ()=some (if xs=ys then .inl () else .inr false)
 | [],ys,i,hl,_=>by obtain rfl:=Awz hl.symm;rfl
 | x::xs,[],i,hl,_=>by simp at hl
 | x::xs,y::ys,i,hl,Y=>by
  have h0:b[i]?=some y:=by simpa using Y 0
  rw[findL,hf,h0,aj];by_cases hx:x=y;rw[ao hx,aj];dsimp only;rw[I8 hf xs ys (i+1) (by simpa using hl) λj=>by have:=Y (j+1);rw[show i+1+j=i+(j+1) by omega];simpa using this];subst hx;by_cases he:xs=ys;rw[ao he,ao (by rw[he])];rw[al he,al (by intro hh;injection hh with _ W;exact he W)];rw[al hx,aj];dsimp only;rw[al (by intro hh;injection hh with W _;exact hx W)]
theorem I7 (a b:au):ve a b=some (decide (a=b)):=by
 obtain⟨n,xs⟩:=a;obtain⟨m,ys⟩:=b;unfold ve xi;dsimp only;by_cases hn:n=m;rw[ao hn];by_cases hl:xs.length=ys.length;rw[ao (by omega),I8 (b:=ys) (λk x=>rfl) xs ys 0 hl λj=>by rw[Adz]];by_cases he:xs=ys;rw[ao he,decide_eq_true (by rw[hn,he])];rfl;rw[al he,decide_eq_false (by intro hh;injection hh with _ W;exact he W)];rfl;rw[al (by omega),decide_eq_false (by intro hh;injection hh with _ W;exact hl (by rw[W]))];rfl;rw[al hn,decide_eq_false (by intro hh;injection hh with U _;exact hn U)]
theorem SQ (a b:au):yG a b=some (decide (a=b)):=by
 rw[← I7];rfl
noncomputable def ng (r:au):Bool:=decide (∃ k:Nat,k<r.Rows.length/\bD (cC r) (k:Int) (k:Int))
theorem Un {r:au}(h:r.Rows.length<=1048576):qL r=some (ng r):=XF h
theorem Um {r:au}(h:r.Rows.length<=1048576):tx r=some (ng r):=by
 unfold tx ng;rw[nK,aj];by_cases hv:aI r;rw[decide_eq_true hv,ao rfl,K0 h,aj];have hN:r.N.toNat=r.Rows.length:=by have:=hv.2.2.1;omega
 rw[hN,Ff (c:=true) (n:=r.Rows.length) (q:=λk=>!decide (bD (cC r) (k:Int) (k:Int))) (λk hk=>by
  unfold M3;rw[pg,aj];by_cases hp:bD (cC r) (k:Int) (k:Int);rw[decide_eq_true hp];rfl;rw[decide_eq_false hp];rfl) r.Rows.length 0 (by omega)]
 by_cases he:∃ k:Nat,k<r.Rows.length/\bD (cC r) (k:Int) (k:Int);rw[decide_eq_true he,al];· rfl
 obtain⟨k,hk,hp⟩:=he;rw[List.all_eq_true];intro hh;have:=hh k (by simp;omega);simp[hp] at this;rw[decide_eq_false he,ao];· rfl
 rw[List.all_eq_true];intro k hk;simp at hk;have:¬ bD (cC r) (k:Int) (k:Int):=λhp=>he ⟨k,hk,hp⟩;simp[this];rw[decide_eq_false hv,al (by simp),decide_eq_false];rintro⟨k,hk,hp⟩;have:cC r=r:=by unfold cC;rw[al hv]
 rw[this] at hp;exact hv hp.1
def cL (g:ak)(s:an):List aH:=(bT g s).1.as_.filter so
theorem FB {g:ak}(h:dQ g)(s:an):(cL g s).length<=1048576:=Bgz (List.length_filter_le _ _) (oT h s)
theorem Lp {l:List aH}(h:l.length<=1048576):eachL pJ 0 l []=some (l.filter so):=by
 have:=qC (p:=so) (g:=λx:aH=>x) (B:=1048577) (f:=pJ) (λk x s hs=>by
  have hg:((s.length:Int)+1)*40<=140737488355328/\(s.length:Int)+1<=9223372036854775807:=by constructor<;>omega
  unfold pJ so;rw[aD hg];by_cases m1:x.Mode=1;rw[ao m1,ao (by simp[m1])];rfl;rw[al m1];by_cases m2:x.Mode=2;rw[ao m2,ao (by simp[m2])];rfl;rw[al m2,al (by simp[m1,m2])];rfl) l 0 [] (by simp;omega)
 rw[this];simp
theorem Fc {g:ak}(h:dQ g)(s:an):nW g s=some (cL g s):=by
 unfold nW cL;rw[lQ h,aj]
 try dsimp only
 rw[Lp (oT h s)];rfl
theorem Lo {g:ak}(h:dQ g)(s:an):kZ g s=some (cL g s):=by
 unfold kZ cL;rw[oU,aj]
 try dsimp only
 rw[Ma,Lp (oT h s)];rfl
def b0 (g:ak)(r:aa)(k:Nat):List Oc:=(cL g (cy r (k:Int))).map λx=>(⟨(k:Int),x.Name⟩:Oc)
def bk (g:ak)(r:aa):List Oc:=(Dbz 0 (r.rt_.length+1)).flatMap (b0 g r)
theorem JX {g:ak}(h:dQ g)(r:aa)(k:Nat):(b0 g r k).length<=1048576:=by unfold b0;rw[bn];exact FB h _
theorem Ap {g:ak}(h:dQ g){r:aa}(hl:fm r):kV g r=some (bk g r):=by
 have hl' : r.rt_.length<=1048576:=hl;have key:=FE (h:=b0 g r) (C:=1048576) (n:=r.rt_.length+1) (f:=jO g r) (λk s hk hs=>by
  unfold jO;rw[wy hl,aj,Lo h,aj,td k _ 0 s (by have:=FB h (cy r (k:Int));omega)];rfl)
  (λk _=>JX h r k) (r.rt_.length+1) 0 [] (by omega) (by simp)
 unfold kV;rw[aD (by constructor<;>omega),key];rfl
theorem I6 {g:ak}(h:dQ g){r:aa}(hl:fm r):mZ g r=some (bk g r):=by
 have hl' : r.rt_.length<=1048576:=hl;have key:=Fg (h:=b0 g r) (C:=1048576) (n:=r.rt_.length+1) (f:=lY g r) (λk s hk hs=>by
  unfold lY;dsimp only;rw[ao (by omega),mu hl,aj,Fc h,aj,J5,td k _ 0 s (by have:=FB h (cy r (k:Int));omega),aj,aD (by constructor<;>omega)];rfl) (λs=>by
  unfold lY;dsimp only;rw[al (by omega)]) (λk _=>JX h r k) (r.rt_.length+1) 0 [] (by omega) (by simp)
 unfold mZ;have e:bE (lY g r) (([]:List Oc),0)=some ([]++(Dbz 0 (r.rt_.length+1)).flatMap (b0 g r)):=key;rw[e];rfl
theorem KD {g:ak}(h:dQ g){r:aa}(hl:fm r):(bk g r).length<=1099512676352:=by
 obtain⟨l,_,W,h3⟩:=AA h hl;rw[Ap h hl] at W;cases W;exact h3
def dv (g:ak)(r:aa)(k:Int):List Int:=(((bk g r).zipIdx 0).filter λq=>decide (q.1.Pos=k)).map λq=>(q.2:Int)
theorem KC (k:Int){l:List Oc}(h:l.length<=1099512676352):eachL (pI k) 0 l []=some (((l.zipIdx 0).filter λq=>decide (q.1.Pos=k)).map λq=>(q.2:Int)):=by
 have:=Fh (p:=λx:Oc=>decide (x.Pos=k)) (g:=λi:Nat=>(i:Int)) (B:=4398046511104) (f:=pI k) (λi x s hs=>by
  have hg:((s.length:Int)+1)*8<=140737488355328/\(s.length:Int)+1<=9223372036854775807:=by constructor<;>omega
  unfold pI;rw[aD hg];by_cases m1:x.Pos=k;rw[ao m1,ao (by simp[m1])];rfl;rw[al m1,al (by simp[m1])];rfl) l 0 [] (by simp;omega)
 rw[this];simp
theorem SP {g:ak}(h:dQ g){r:aa}(hl:fm r)(k:Int):pH g r k=some (dv g r k):=by
 unfold pH dv;rw[I6 h hl,aj,KC k (KD h hl)];rfl
theorem SO {g:ak}(h:dQ g){r:aa}(hl:fm r)(k:Int):lZ g r k=some (dv g r k):=by
 unfold lZ dv;rw[Ap h hl,aj,GG,KC k (KD h hl)];rfl
theorem Ln {α:Type}(p:α->Bool):∀ (l:List α) (i:Nat),((l.zipIdx i).filter λq=>p q.1).length=l.countP p
 | [],i=>rfl
 | x::l,i=>by
  rw[List.zipIdx_cons,List.filter_cons,List.countP_cons];have ih:=Ln p l (i+1);by_cases hp:p x=true;rw[ao hp,ao hp,bH,ih];rw[al hp,al hp,ih];rfl
theorem I5 (g:ak){r:aa}{k:Nat}(hk:k<=r.rt_.length):(dv g r (k:Int)).length=(cL g (cy r (k:Int))).length:=by
 unfold dv;rw[bn,Ln (λx:Oc=>decide (x.Pos=(k:Int)))];unfold bk;rw[List.countP_flatMap];have hK:∀ j:Nat,(b0 g r j).countP (λx=>decide (x.Pos=(k:Int)))=if j=k then (cL g (cy r (k:Int))).length else 0:=by
  intro j;unfold b0;rw[List.countP_map];by_cases hj:j=k;subst hj;rw[ao rfl,List.countP_eq_length.2 (by simp)];rw[al hj,List.countP_eq_zero.2];intro a _;simp;omega
 have hsum:∀ m i,((Dbz i m).map (List.countP (λx:Oc=>decide (x.Pos=(k:Int))) ∘ b0 g r)).sum=if i<=k/\k<i+m then (cL g (cy r (k:Int))).length else 0:=by
  intro m
  induction m with
  | zero=>intro i;rw[al (by omega)];rfl
  | succ m ih=>
   intro i;rw[List.range'_succ,List.map_cons,List.sum_cons,ih (i+1),Function.comp,hK i];by_cases U:i=k;rw[ao U,al (by omega),ao (by omega)];rfl;rw[al U,Adz];by_cases W:i+1<=k/\k<i+1+m;rw[ao W,ao (by omega)];rw[al W,al (by omega)]
 rw[hsum,ao (by omega)]
noncomputable def fP (own:au) (a:Nat) (x:Int):Nat->List Int->au->au
 | _,[],o=>o
 | i,y::ys,o=>fP own a x (i+1) ys (if bD own (a:Int) (i:Int) then cB o x y else o)
noncomputable def iy (own:au) (at' : List Int):Nat->List Int->au->au
 | _,[],o=>o
 | a,x::xs,o=>iy own at' (a+1) xs (fP own a x 0 at' o)
theorem xm (own:au)(a:Nat)(x:Int):∀ (ys:List Int) (i:Nat) (o:au),(fP own a x i ys o).Rows.length=o.Rows.length/\(fP own a x i ys o).N=o.N
 | [],i,o=>⟨rfl,rfl⟩
 | y::ys,i,o=>by
  rw[fP];have ih:=xm own a x ys (i+1) (if bD own (a:Int) (i:Int) then cB o x y else o);by_cases h:bD own (a:Int) (i:Int);rw[ao h] at ih ⊢;have:=nD o x y;exact⟨ih.1.trans this.1,ih.2.trans this.2⟩;rw[al h] at ih ⊢;exact ih
theorem Bl (own:au)(at' : List Int):∀ (xs:List Int) (a:Nat) (o:au),(iy own at' a xs o).Rows.length=o.Rows.length/\(iy own at' a xs o).N=o.N
 | [],a,o=>⟨rfl,rfl⟩
 | x::xs,a,o=>by
  rw[iy];have ih:=Bl own at' xs (a+1) (fP own a x 0 at' o);have:=xm own a x at' 0 o;exact⟨ih.1.trans this.1,ih.2.trans this.2⟩
theorem I4 (own:au)(a:Nat)(x:Int):∀ (ys:List Int) (i:Nat) (o:au),o.Rows.length<=1048576 ->
  eachL (yL own a x) i ys (o.Rows,o.N)=some ((fP own a x i ys o).Rows,(fP own a x i ys o).N)/\eachL (xf own a x) i ys (o.N,o.Rows)=some ((fP own a x i ys o).N,(fP own a x i ys o).Rows)
 | [],i,o,_=>⟨rfl,rfl⟩
 | y::ys,i,o,h=>by
  have e1:yL own a x i y (o.Rows,o.N)=some ((if bD own (a:Int) (i:Int) then cB o x y else o).Rows,(if bD own (a:Int) (i:Int) then cB o x y else o).N):=by
   unfold yL;dsimp only;rw[pg,aj];by_cases hp:bD own (a:Int) (i:Int);rw[decide_eq_true hp,ao rfl,ao hp,wa h];rfl;rw[decide_eq_false hp,al (by simp),al hp];rfl
  have e2:xf own a x i y (o.N,o.Rows)=some ((if bD own (a:Int) (i:Int) then cB o x y else o).N,(if bD own (a:Int) (i:Int) then cB o x y else o).Rows):=by
   unfold xf;dsimp only;rw[Bm,aj];by_cases hp:bD own (a:Int) (i:Int);rw[decide_eq_true hp,ao rfl,ao hp,AC,wa h];rfl;rw[decide_eq_false hp,al (by simp),al hp];rfl
  have hl:(if bD own (a:Int) (i:Int) then cB o x y else o).Rows.length<=1048576:=by
   split;rw[(nD o x y).1];exact h;exact h
  have ih:=I4 own a x ys (i+1) _ hl;rw[eachL,eachL,e1,e2,aj,aj,fP];exact ih
theorem EH (own:au)(at' : List Int):∀ (xs:List Int) (a:Nat) (o:au),o.Rows.length<=1048576 ->
  eachL (yK own at') a xs (o.Rows,o.N)=some ((iy own at' a xs o).Rows,(iy own at' a xs o).N)/\eachL (xd own at') a xs (o.N,o.Rows)=some ((iy own at' a xs o).N,(iy own at' a xs o).Rows)
 | [],a,o,_=>⟨rfl,rfl⟩
 | x::xs,a,o,h=>by
  have U:=I4 own a x at' 0 o h;have hl:(fP own a x 0 at' o).Rows.length<=1048576:=by rw[(xm own a x at' 0 o).1];exact h
  have ih:=EH own at' xs (a+1) _ hl;have e1:yK own at' a x (o.Rows,o.N)=some ((fP own a x 0 at' o).Rows,(fP own a x 0 at' o).N):=by
   unfold yK;dsimp only;rw[U.1];rfl
  have e2:xd own at' a x (o.N,o.Rows)=some ((fP own a x 0 at' o).N,(fP own a x 0 at' o).Rows):=by
   unfold xd;dsimp only;rw[U.2];rfl
  rw[eachL,eachL,e1,e2,aj,aj,iy];exact ih
noncomputable def j5 (g:ak) (r:aa) (o:au) (pos:Int) (own:au):au:=iy own (dv g r pos) 0 (dv g r pos) o
theorem Vy {g:ak}(h:dQ g){r:aa}(hl:fm r){o:au}(ho:o.Rows.length<=1048576)(pos:Int)(own:au):sH g r o pos own=some (j5 g r o pos own):=by
 unfold sH j5;rw[SO h hl,aj,(EH own (dv g r pos) (dv g r pos) 0 o ho).2];rfl
theorem tP {r:aa}{k:Nat}{x:an}(h:r.rt_[k]?=some x):cy r ((k+1:Nat):Int)=x:=by
 have hk:=(List.getElem?_eq_some_iff.1 h).1;unfold cy;rw[al (by omega),ao (by omega),show (((k+1:Nat):Int)-1).toNat=k by omega,Cwz,h];rfl
noncomputable def dN (g:ak) (r:aa):Nat->List au->au->au
 | _,[],o=>o
 | k,own::l,o=>dN g r (k+1) l (j5 g r o ((k+1:Nat):Int) own)
theorem Ws (g:ak)(r:aa)(o:au)(pos:Int)(own:au):(j5 g r o pos own).Rows.length=o.Rows.length:=(Bl own _ _ 0 o).1
def ny (g:ak)(r:aa)(list:List au):Prop:=list.length=r.rt_.length/\∀ k own,list[k]?=some own->aI own/\own.N=((cL g (cy r ((k+1:Nat):Int))).length:Int)
theorem Lm {g:ak}(h:dQ g){r:aa}(hl:fm r){list:List au}(hf:ny g r list):∀ (m k:Nat) (o:au),k+m=list.length->o.Rows.length<=1048576 ->
  findL (yJ g r) k (list.drop k) (o.Rows,o.N)=some (.inl ((dN g r k (list.drop k) o).Rows,(dN g r k (list.drop k) o).N)) /\
  findL (yz g r) k (list.drop k) (o.Rows,o.N)=some (.inl ((dN g r k (list.drop k) o).Rows,(dN g r k (list.drop k) o).N))/\(dN g r k (list.drop k) o).Rows.length=o.Rows.length
 | 0,k,o,hk,_=>by rw[List.drop_eq_nil_of_le (by omega)];exact⟨rfl,rfl,rfl⟩
 | m+1,k,o,hk,ho=>by
  have hk' : k<list.length:=by omega
  rw[List.drop_eq_getElem_cons hk'];have hv:=hf.2 k list[k] (Cmz hk');have hR:k<r.rt_.length:=by rw[← hf.1];exact hk'
  have hsym:=tP (r:=r) (k:=k) (Cmz hR);have hpl:=I5 g (r:=r) (k:=k+1) (by omega);have e1:yJ g r k list[k] (o.Rows,o.N)=some (.inl ((j5 g r o ((k+1:Nat):Int) list[k]).Rows,(j5 g r o ((k+1:Nat):Int) list[k]).N)):=by
   unfold yJ;dsimp only;rw[SP h hl,aj,nK,aj,decide_eq_true hv.1,ao rfl,ao (by rw[hpl];exact hv.2),(EH list[k] _ _ 0 o ho).1];rfl
  have e2:yz g r k list[k] (o.Rows,o.N)=some (.inl ((j5 g r o ((k+1:Nat):Int) list[k]).Rows,(j5 g r o ((k+1:Nat):Int) list[k]).N)):=by
   unfold yz;dsimp only;rw[Cmz hR,aj,Lo h,aj,ao (by rw[← hsym];exact hv.2),Vy h hl ho];rfl
  have hlen:=Ws g r o ((k+1:Nat):Int) list[k];have ih:=Lm h hl hf m (k+1) (j5 g r o ((k+1:Nat):Int) list[k]) (by omega) (by rw[hlen];exact ho);rw[findL,findL,e1,e2,aj,aj,dN];exact⟨ih.1,ih.2.1,ih.2.2.trans hlen⟩
noncomputable def b7 (g:ak) (r:aa):au:=(pN g r).getD ⟨0,[]⟩
theorem ID {g:ak}{r:aa}(h:Sz.szd g<=1048576)(Z:Sz.szd r<=1048576):pN g r=some (b7 g r)/\pL g r=some (b7 g r)/\(b7 g r).Rows.length<=16:=by
 obtain⟨x,U,W,h3⟩:=Wy h Z;unfold b7;rw[U,W];exact⟨rfl,rfl,h3⟩
noncomputable def fS (g:ak) (r:aa) (list:List au):au:=if 16<(bk g r).length then ⟨0,[]⟩ else cC (dN g r 0 list (b7 g r))
theorem Ao {g:ak}{r:aa}(h:Sz.szd g<=1048576)(Z:Sz.szd r<=1048576){list:List au}(hf:ny g r list):rK g r list=some (fS g r list)/\rJ g r list=some (fS g r list)/\(fS g r list).Rows.length<=16:=by
 have hg:=iP h;have hl:=iB Z;obtain⟨l1,l2,l3⟩:=ID h Z;have hn:(list.length:Int)=(r.rt_.length:Int):=by rw[hf.1]
 unfold rK rJ;rw[I6 hg hl,Ap hg hl];simp only[aj];rw[ao hn,ao hn];simp only[aj];by_cases h16:16<(bk g r).length;have hi:(16:Int)<((bk g r).length:Int):=by omega
 have hc:fS g r list=⟨0,[]⟩:=ao h16;rw[hc,decide_eq_true hi,ao rfl,ao hi];exact⟨rfl,rfl,by simp⟩;have hi:¬ (16:Int)<((bk g r).length:Int):=by omega
 have hc:fS g r list=cC (dN g r 0 list (b7 g r)):=al h16;rw[hc,decide_eq_false hi,al (by simp),al hi,l1,l2,aj,aj];have key:=Lm hg hl hf list.length 0 (b7 g r) (by omega) (by omega);rw[List.drop_zero] at key;have hlen:(dN g r 0 list (b7 g r)).Rows.length<=16:=by rw[key.2.2];exact l3
 rw[key.1,key.2.1,aj,aj,lH,lH];dsimp only;rw[K0 (r:=⟨(dN g r 0 list (b7 g r)).N,(dN g r 0 list (b7 g r)).Rows⟩) (by show (dN g r 0 list (b7 g r)).Rows.length<=_;omega),KZ (r:=⟨(dN g r 0 list (b7 g r)).N,(dN g r 0 list (b7 g r)).Rows⟩) (by show (dN g r 0 list (b7 g r)).Rows.length<=_;omega)];exact⟨rfl,rfl,by rw[(xo _).1];exact hlen⟩
section
variable {α β ρ σ:Type}{Q:β->Prop}{b:List UInt8}
theorem Ok.bif {c:Prop}[Decidable c]{A B:Option α}{k:α->Option β}(U:c->Ok Q (A.bind k))(W:¬ c->Ok Q (B.bind k)):Ok Q ((if c then A else B).bind k):=by
 by_cases hc:c;rw[ao hc];exact U hc;rw[al hc];exact W hc
theorem Ok.bso {x:α}{k:α->Option β}(h:Ok Q (k x)):Ok Q ((some x).bind k):=h
theorem Ok.bbi {γ:Type}{A:Option α}{B:α->Option γ}{k:γ->Option β}(h:Ok Q (A.bind λx=>(B x).bind k)):Ok Q ((A.bind B).bind k):=by
 rw[Option.bind_assoc];exact h
theorem Ok.bgr {c:Prop}[Decidable c]{A:Option α}{k:α->Option β}(hc:c)(h:Ok Q (A.bind k)):Ok Q ((Go.E.grd c A).bind k):=by rw[aD hc];exact h
theorem Ok.get {l:List α}{j:Nat}{k:α->Option β}(hj:j<l.length)(h:∀ x,x∈l->Ok Q (k x)):Ok Q ((l[j]?).bind k):=by
 obtain⟨x,hx⟩:∃ x,l[j]?=some x:=⟨_,Cmz hj⟩
 rw[hx];exact h x (Bvz hx)
theorem Ok.eq {A:Option α}{x:α}{k:α->Option β}(hA:A=some x)(h:Ok Q (k x)):Ok Q (A.bind k):=by rw[hA];exact h
theorem bz {P:α->Prop}{o:Option (α×aB)}(ho:Dr b P o){k:α×aB->Option β}(hk:∀ y i' h',P y->0<=i'->Ok Q (k (y,⟨b,i',h'⟩))):Ok Q (o.bind k):=by
 obtain⟨⟨y,z⟩,rfl,hy,hz,he⟩:=ho;obtain⟨zb,zi,zh⟩:=z;dsimp only at he hz hy;subst he;exact hk y zi zh hy hz
theorem cb {i h:Int}(hi:0<=i):CB b ⟨b,i,h⟩:=⟨hi,rfl⟩
theorem Dr.re {P:α->Prop}{y:α}{i h:Int}(hy:P y)(hi:0<=i):Dr b P (some (y,(⟨b,i,h⟩:aB))):=⟨_,rfl,hy,hi,rfl⟩
theorem Ay {P:σ->Prop}{Q:ρ->Prop}{f:σ->Option (σ ⊕ ρ)}(μ:σ->Nat)(hf:∀ s,P s->Ok (λz=>match z with|.inl s'=>P s'/\μ s'<μ s|.inr r=>Q r) (f s)):∀ s,P s->Ok Q (bE f s):=by
 have key:∀ n s,μ s<n->P s->Ok Q (bE f s):=by
  intro n
  induction n with
  | zero=>intro s h;omega
  | succ n ih=>
   intro s h hp;obtain⟨z,hz,hq⟩:=hf s hp;cases z with
   | inl s'=>rw[fi hz];exact ih s' (by have:=hq.2;omega) hq.1
   | inr r=>exact⟨r,db hz,hq⟩
 exact λs hs=>key _ s (Nat.lt_succ_self _) hs
end
theorem pW {α β:Type}{Q:β->Prop}(P:Nat->List α->Prop){f:Nat->Int×Int×List α->Option (Int×Int×List α)}{k:Int×Int×List α->Option β}{n:Nat}{i h:Int}{l:List α}(hi:0<=i)(h0:P 0 l)
  (hf:∀ j l i h,j<n->0<=i->P j l->Ok (λs:Int×Int×List α=>0<=s.1/\P (j+1) s.2.2) (f j (i,h,l))) (hk:∀ l i h,0<=i->P n l->Ok Q (k (i,h,l))):Ok Q ((eachN f 0 n (i,h,l)).bind k):=by
 obtain⟨s,e,U⟩:=EM (P:=λk (s:Int×Int×List α)=>0<=s.1/\P k s.2.2) (f:=f) (n:=n) (i:=0) (s:=(i,h,l)) ⟨hi,h0⟩ λj s _ hj hs=>hf j _ _ _ (by omega) hs.1 hs.2;rw[e];rw[Adz] at U;exact hk _ _ _ U.1 U.2
theorem Dt {γ α β:Type}{Q:β->Prop}(P:Nat->List α->Prop){f:Nat->γ->Int×Int×List α->Option (Int×Int×List α)}{k:Int×Int×List α->Option β}{xs:List γ}{i h:Int}{l:List α}(hi:0<=i)(h0:P 0 l)
  (hf:∀ j x l i h,x∈xs->j<xs.length->0<=i->P j l->Ok (λs:Int×Int×List α=>0<=s.1/\P (j+1) s.2.2) (f j x (i,h,l))) (hk:∀ l i h,0<=i->P xs.length l->Ok Q (k (i,h,l))):Ok Q ((eachL f 0 xs (i,h,l)).bind k):=by
 obtain⟨s,e,U⟩:=AD (P:=λk (s:Int×Int×List α)=>0<=s.1/\P k s.2.2) (f:=f) (xs:=xs) (i:=0) (s:=(i,h,l)) ⟨hi,h0⟩ λj x s hx _ hj hs=>hf j x _ _ _ hx (by omega) hs.1 hs.2;rw[e];rw[Adz] at U;exact hk _ _ _ U.1 U.2
def SB (s:af):Prop:=s.Name.size<=8/\1<=s.as_.length/\s.as_.length<=5/\∀ a∈s.as_,a.Name.size<=8
def RB (r:aa):Prop:=r.Name.size<=8/\r.Left.size<=8/\r.rt_.length<=5/\(∀ x∈r.rt_,x.size<=8)
def jY (l:List af):Prop:=1<=l.length/\l.length<=3/\∀ s∈l,SB s
theorem we {α:Type}[Sz α]{m:Nat}:∀ {l:List α},(∀ x∈l,Sz.szd x<=m)->bP l<=l.length*(m+1)
 | [],_=>by simp[bP]
 | x::l,h=>by
  have U:=we (m:=m) (l:=l) λy hy=>h y (by simp[hy]);have W:=h x (by simp);simp only[bP,bH,Nat.add_mul];omega
theorem RB.rok {r:aa}(h:RB r):fm r:=by have:=h.2.2.1;show r.rt_.length<=1048576;omega
section
variable {b:List UInt8}(Y:b.length<=1048576)
include Y
theorem R4 {x:an}(h:x∈[(⟨#[97]⟩:an),(⟨#[98]⟩:an),(⟨#[99]⟩:an),(⟨#[100]⟩:an)]):x.size<=8:=by
 simp only[Dsz,Daz,or_false] at h;rcases h with h|h|h|h<;>rw[h]<;>decide
theorem IC {nm:an}(hn:nm.size<=8)(a2 a3:Bool){i h:Int}(hi:0<=i):Dr b SB (qH nm a2 a3 ⟨b,i,h⟩):=by
 unfold qH;refine bz (cR Y 4 ⟨hi,rfl⟩) λy i1 U hy hi1=>?_;have h4:=hy.2.1 (by omega);refine .grd (by constructor<;>omega) ?_;refine pW (λk l=>l.length=k/\∀ a∈l,a.Name.size<=8) hi1 ⟨rfl,by simp⟩ (λk s1 s2 s3 hk hs1 hs=>?_) λs1 i2 W p1 hs=>?_;obtain⟨hs2,hs3⟩:=hs;unfold MH;dsimp only;refine .bbi (.get (by simp;omega) λx1 hx1=>?_);have hx1:=R4 Y hx1;have fin:∀ (t m:Int) (i' h' : Int),0<=i'->Ok (λs:Int×Int×List aH=>0<=s.1/\(s.2.2.length=k+1/\∀ a∈s.2.2,a.Name.size<=8)) (some (i',h',s1++[(⟨x1,t,m,false⟩:aH)])):=λt m i' h' hi'=>by
  refine .ret ⟨hi',by simp[hs2],λa ha=>?_⟩;simp only[List.mem_append,Dsz,Daz,or_false] at ha;rcases ha with ha|ha;exact hs3 a ha;rw[ha];exact hx1
 refine .bbi (bz (lS Y (by simp) ⟨hs1,rfl⟩) λt i2 W _ hi2=>?_);refine .bbi (bz (lS Y (by simp) ⟨hi2,rfl⟩) λm i3 h3 _ hi3=>?_);cases a2<;>cases a3<;>dsimp only
 all_goals
  repeat' first
   | ((with_reducible refine .bso ?_);try dsimp only)
   | (with_reducible exact fin _ _ _ _ (by assumption))
   | ((with_reducible refine .bbi ?_);try dsimp only)
   | (with_reducible refine .bif (λ_=>?_) λ_=>?_)
   | (with_reducible refine .ite (λ_=>?_) λ_=>?_)
   | ((with_reducible refine bz (fY Y _ (cb (by assumption))) λ_ _ _ _ _=>?_);try dsimp only)
   | ((with_reducible refine bz (lS Y (by simp) (cb (by assumption))) λ_ _ _ _ _=>?_);try dsimp only)
   | ((with_reducible refine bz (cR Y _ (cb (by assumption))) λ_ _ _ _ _=>?_);try dsimp only)
   | (refine .bgr (by constructor<;>omega) ?_)
   | (refine .grd (by constructor<;>omega) ?_)
 obtain⟨p2,p3⟩:=hs;dsimp only;exact Dr.re ⟨hn,by dsimp only;omega,by dsimp only;omega,p3⟩ p1
end
theorem EG {g:ak}(h:jY g.ss_)(nm:an):(bT g nm).1.as_.length<=5/\∀ a∈(bT g nm).1.as_,a.Name.size<=8:=by
 unfold bT;split;rename_i y hy;have:=h.2.2 y (List.mem_of_find?_eq_some hy);exact⟨this.2.2.1,this.2.2.2⟩;exact⟨by simp[zS],by simp[zS]⟩
theorem Ul {y:af}(h:∀ a∈y.as_,a.Name.size<=8)(nm:an):l4 y nm=some (fc y nm):=by
 unfold l4 fc;rw[pa (p:=λa=>decide (a.Name=nm)) (r:=λa=>(a,true)) λk x _=>⟨λhp=>by unfold Cu;rw[ao (by simpa using hp)],λhp=>by unfold Cu;rw[al (by simpa using hp)]⟩];cases y.as_.find? λa=>decide (a.Name=nm)<;>rfl
theorem jY.g {g:ak}(h:jY g.ss_):dQ g:=λy hy=>by have:=(h.2.2 y hy).2.2.1;omega
theorem zU {g:ak}(hs:jY g.ss_){r:aa}(Z:r.rt_.length<=5)(k:Int):Ok (λq=>∀ o∈q,o.Name.size<=8) (lN g r k):=by
 unfold lN;refine Ok.bind (Q:=λq=>∀ o∈q,o.Name.size<=8) (Ay (P:=λs:List Oc×Int=>0<=s.2/\s.2<=r.rt_.length+1/\(s.1.length:Int)<=5*s.2/\∀ o∈s.1,o.Name.size<=8) (λs=>(r.rt_.length+1-s.2).toNat) ?_ _ ⟨by simp,by simp;omega,by simp,by simp⟩) λq hq=>.ret hq;rintro⟨q,p⟩ ⟨U,W,h3,h4⟩;dsimp only at U W h3 h4;unfold LK;dsimp only;refine .ite (λhp=>?_) λ_=>.ret h4;refine .eq (mu (show r.rt_.length<=1048576 by omega) p) ?_;refine .eq (lQ hs.g _) ?_;have hff:=EG hs (cy r p);generalize bT g (cy r p)=fs at hff;obtain⟨y,yb⟩:=fs;obtain⟨f1,f2⟩:=hff;dsimp only at f1 f2 ⊢;refine Ok.bind (Q:=λq'=>q'.length<=q.length+5/\∀ o∈q',o.Name.size<=8) ((AD (P:=λk q'=>q'.length<=q.length+k/\∀ o∈q',o.Name.size<=8) (i:=0) ⟨by omega,h4⟩ ?_).mono λq' hq=>⟨by omega,hq.2⟩) λq' hq=>.grd (by constructor<;>omega) (.ret ⟨⟨by dsimp only;omega,by dsimp only;omega,by dsimp only;omega,hq.2⟩,by dsimp only;omega⟩);intro j a l ha _ hj hl;have hl1:=hl.1;have hl2:=hl.2;have ha:=f2 a ha;unfold LN;dsimp only;have e1:Ok (λq' : List Oc=>q'.length<=q.length+(j+1)/\∀ o∈q',o.Name.size<=8) (some l):=.ret ⟨by omega,hl2⟩;have e2:Ok (λq' : List Oc=>q'.length<=q.length+(j+1)/\∀ o∈q',o.Name.size<=8) (some (l++[(⟨p,a.Name⟩:Oc)])):=.ret ⟨by simp;omega,λo ho=>by
  simp only[List.mem_append,Dsz,Daz,or_false] at ho;rcases ho with ho|ho;exact hl2 o ho;rw[ho];exact ha⟩
 have Y:([]:List UInt8).length<=1048576:=by simp
 repeat' first
  | ((with_reducible refine .bso ?_);try dsimp only)
  | (with_reducible exact e1)
  | (with_reducible exact e2)
  | ((with_reducible refine .bbi ?_);try dsimp only)
  | (with_reducible refine .bif (λ_=>?_) λ_=>?_)
  | (with_reducible refine .ite (λ_=>?_) λ_=>?_)
  | ((with_reducible refine bz (fY Y _ (cb (by assumption))) λ_ _ _ _ _=>?_);try dsimp only)
  | ((with_reducible refine bz (lS Y (by simp) (cb (by assumption))) λ_ _ _ _ _=>?_);try dsimp only)
  | ((with_reducible refine bz (cR Y _ (cb (by assumption))) λ_ _ _ _ _=>?_);try dsimp only)
  | (refine .bgr (by constructor<;>omega) ?_)
  | (refine .grd (by constructor<;>omega) ?_)
theorem OX (a:Int):Ok (λ_=>True) (jM a):=by
 unfold jM;rw[jH,aj,jH,aj]
 repeat' first
  | exact .ret trivial
  | refine .ite (λ_=>?_) λ_=>?_
theorem OW (a:Int)(x y:Expr):kH a x y=some (⟨4,a,0,0,(⟨#[]⟩:an),(⟨#[]⟩:an),[x,y]⟩:Expr):=rfl
theorem SN (g:ak)(r:aa)(rem:Bool):∀ (m n1 n2:Nat),m<n1->m<n2->∀ (k d:Int) (o:aB),d<=m+1->ja n1 g r k d rem o=ja n2 g r k d rem o:=by
 intro m
 induction m with
 | zero=>
  intro n1 n2 U W k d o hd;obtain⟨n1,rfl⟩:∃ q,n1=q+1:=⟨n1-1,by omega⟩
  obtain⟨n2,rfl⟩:∃ q,n2=q+1:=⟨n2-1,by omega⟩
  show jK (ja n1) g r k d rem o=jK (ja n2) g r k d rem o;unfold jK;simp only[ao (show d<2 by omega),aj,if_true]
 | succ m ih=>
  intro n1 n2 U W k d o hd;obtain⟨n1,rfl⟩:∃ q,n1=q+1:=⟨n1-1,by omega⟩
  obtain⟨n2,rfl⟩:∃ q,n2=q+1:=⟨n2-1,by omega⟩
  show jK (ja n1) g r k d rem o=jK (ja n2) g r k d rem o;have h:∀ k o,ja n1 g r k (d-1) rem o=ja n2 g r k (d-1) rem o:=λk o=>ih n1 n2 (by omega) (by omega) k (d-1) o (by omega);unfold jK;simp only[h]
section
variable {b:List UInt8}(Y:b.length<=1048576)
include Y
theorem Uk {g:ak}(hs:jY g.ss_){r:aa}(Z:r.rt_.length<=5)(rem:Bool):∀ (m n:Nat),m<n->∀ (k d i h:Int),d<=m+1->-1000+m<=d->d<=1000->0<=i->Dr b (λe=>Sz.szd e<=fb m) (ja n g r k d rem ⟨b,i,h⟩):=by
 intro m
 induction m with
 | zero=>
  intro n hn k d i h hd hd0 hd1 hi;obtain⟨n,rfl⟩:∃ q,n=q+1:=⟨n-1,by omega⟩
  show Dr b _ (jK (ja n) g r k d rem ⟨b,i,h⟩);unfold jK;rw[ao (show d<2 by omega)];dsimp only;rw[aj];dsimp only;rw[ao rfl];unfold Dr;have hf:=sg Y 0
  repeat' first
   | ((with_reducible refine .bso ?_);try dsimp only)
   | ((with_reducible refine .bind (zU hs Z _) λ_ _=>?_))
   | ((with_reducible refine bz (sq Y _ (by assumption) (cb (by assumption))) λ_ _ _ _ _=>?_);try dsimp only)
   | ((with_reducible refine .bbi ?_);try dsimp only)
   | (with_reducible refine .bif (λ_=>?_) λ_=>?_)
   | (with_reducible refine .ite (λ_=>?_) λ_=>?_)
   | ((with_reducible refine bz (fY Y _ (cb (by assumption))) λ_ _ _ _ _=>?_);try dsimp only)
   | ((with_reducible refine bz (lS Y (by simp) (cb (by assumption))) λ_ _ _ _ _=>?_);try dsimp only)
   | ((with_reducible refine bz (cR Y _ (cb (by assumption))) λ_ _ _ _ _=>?_);try dsimp only)
   | (refine .bgr (by constructor<;>omega) ?_)
   | (refine .grd (by constructor<;>omega) ?_)
  all_goals refine⟨_,rfl,?_,by assumption,rfl⟩
  all_goals dsimp only
  all_goals first
   | (rw[sh Y,my Y];omega)
   | omega
 | succ m ih=>
  intro n hn k d i h hd hd0 hd1 hi;obtain⟨n,rfl⟩:∃ q,n=q+1:=⟨n-1,by omega⟩
  have hr1:∀ k i h,0<=i->Dr b (λe=>Sz.szd e<=fb m) (ja n g r k (d-1) rem ⟨b,i,h⟩):=λk i h hi=>ih n (by omega) k (d-1) i h (by omega) (by omega) (by omega) hi;show Dr b _ (jK (ja n) g r k d rem ⟨b,i,h⟩);unfold jK Dr;dsimp only;have hl:=hs.1;have hf:=sg Y m;have hg:=Jr Y m;have hid:aR (d-1):=by constructor<;>omega
  repeat' first
   | ((with_reducible refine .bso ?_);try dsimp only)
   | ((with_reducible refine .bind (zU hs Z _) λ_ _=>?_))
   | ((with_reducible refine bz (sq Y _ (by assumption) (cb (by assumption))) λ_ _ _ _ _=>?_);try dsimp only)
   | ((with_reducible refine bz (hr1 _ _ _ (by assumption)) λ_ _ _ _ _=>?_);try dsimp only)
   | ((with_reducible refine .bind (OX _) λ_ _=>?_);try dsimp only)
   | ((with_reducible refine .eq (OW _ _ _) ?_);try dsimp only)
   | ((with_reducible refine .grd hid ?_))
   | ((with_reducible refine .grd (by omega) ?_))
   | ((with_reducible refine .get (l:=g.ss_) (by omega) λx hx=>?_);obtain⟨_,_,_,hat⟩:=hs.2.2 x hx)
   | ((with_reducible refine .get (by omega) λx hx=>?_);have hxn:=hat x hx)
   | ((with_reducible refine .bbi ?_);try dsimp only)
   | (with_reducible refine .bif (λ_=>?_) λ_=>?_)
   | (with_reducible refine .ite (λ_=>?_) λ_=>?_)
   | ((with_reducible refine bz (fY Y _ (cb (by assumption))) λ_ _ _ _ _=>?_);try dsimp only)
   | ((with_reducible refine bz (lS Y (by simp) (cb (by assumption))) λ_ _ _ _ _=>?_);try dsimp only)
   | ((with_reducible refine bz (cR Y _ (cb (by assumption))) λ_ _ _ _ _=>?_);try dsimp only)
   | (refine .bgr (by constructor<;>omega) ?_)
   | (refine .grd (by constructor<;>omega) ?_)
  all_goals refine⟨_,rfl,?_,by assumption,rfl⟩
  all_goals dsimp only at *
  all_goals first
   | (rw[sh Y,my Y];omega)
   | (rw[IJ Y];omega)
   | (rw[DO Y,my Y];omega)
   | (rw[Ka Y,my Y];omega)
   | omega
theorem SL {g:ak}(hs:jY g.ss_){r:aa}(Z:r.rt_.length<=5)(rem:Bool)(k d i h:Int)(h0:0<=d)(h3:d<=3)(hi:0<=i):Dr b (λe=>Sz.szd e<=320) (Ba g r k d rem ⟨b,i,h⟩):=
 Js (N:=3) (λn hn=>SN g r rem 2 (n+1) n (by omega) (by omega) k d _ (by omega)) (Uk Y hs Z rem 2 3 (by omega) k d i h (by omega) (by omega) (by omega) hi)
end
end Go.Proofs.YtodhafdaelcnlaaGreat
