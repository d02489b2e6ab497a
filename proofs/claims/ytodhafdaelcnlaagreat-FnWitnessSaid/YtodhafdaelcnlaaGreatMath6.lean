/- What those partial functions come to: plain lemmas on data; each bears its conditions in its statement. -/
import Derived.Test.YtodhafdaelcnlaaGreatMath5
set_option linter.unusedVariables false
set_option linter.unusedSimpArgs false
set_option linter.ambiguousOpen false
set_option linter.unusedSectionVars false
set_option linter.unnecessarySimpa false
open List renaming flatMap_cons->Bkz,length_append->Axz,length_filter_le->Erz,range'->Dbz,mem_of_mem_take->Esz,mem_cons->Dsz,not_mem_nil->Daz,length_take->Brz,mem_append->Ciz,mem_of_getElem?->Bvz,getElem?_eq_getElem->Cmz,set->Dnz,length_set->Clz,getElem?_set->Cjz,getElem?_of_mem->Elz,mem_of_find?_eq_some->Ecz,mem_range'_1->Etz,getD_eq_getElem?_getD->Cwz,mem_or_eq_of_mem_set->Euz,replicate->Bqz,fst_mem_of_mem_zipIdx->Evz,getElem?_replicate->Ewz,mem_cons_self->Ckz,getElem?_eq_none->Avz,range->Amz,mem_cons_of_mem->Buz
open Nat renaming le_trans->Bgz,zero_add->Adz,mul_le_mul_right->Cpz,le_refl->Acz,succ_mul->Exz,pos_of_ne_zero->Eyz,mod_lt->Ezz,div_lt_iff_lt_mul->Faz,mul_comm->Fbz,add_mul_div_left->Fcz,add_mul_mod_self_left->Fdz,mod_eq_of_lt->Fez
open Option renaming getD_some->Cbz
open Bool renaming false_eq_true->Eaz
namespace Go.Proofs.YtodhafdaelcnlaaGreat
open Go Go.E
theorem KL {α β:Type}{f:α->List β}{C:Nat}(h:∀ x,(f x).length<=C):∀ l:List α,(l.flatMap f).length<=l.length*C
 | []=>by simp
 | x::l=>by
  have U:=KL h l;have K:=h x;simp only[Bkz,Axz,bC,Nat.add_mul];omega
theorem Jb {g:al}(hs:j1 g.ss_)(r:ae)(k:Nat):(eU g r k).length<=5/\∀ o∈eU g r k,o.Name.size<=8:=by
 obtain⟨f1,f2⟩:=EW hs (cE r (k:Int));unfold eU;refine⟨by rw[bc];exact Bgz (Erz _ _) f1,λo ho=>?_⟩;obtain⟨a,ha,rfl⟩:=List.mem_map.1 ho;exact f2 a (List.mem_filter.1 ha).1
theorem TN {g:al}(hs:j1 g.ss_){r:ae}(Z:r.rt_.length<=5):(cy g r).length<=30/\∀ o∈cy g r,o.Name.size<=8:=by
 unfold cy;refine⟨?_,λo ho=>?_⟩;have:=KL (C:=5) (λk=>(Jb hs r k).1) (Dbz 0 (r.rt_.length+1));rw[List.length_range'] at this;omega;obtain⟨k,_,hk⟩:=List.mem_flatMap.1 ho;exact (Jb hs r k).2 o hk
theorem tp {α:Type}[Sz α](l:List α)(x:α):bQ (l++[x])=bQ l+(1+Sz.szd x):=by rw[Bv];rfl
theorem wx (o:Oc)(e:Expr):Sz.szd (⟨o,e⟩:aZ)=o.Name.size+Sz.szd e:=by rw[ym,fB];dsimp only;omega
theorem IL (s m:ar)(e f:Expr):Sz.szd (⟨s,m,e,f⟩:Cn)=s.size+m.size+Sz.szd e+Sz.szd f:=by rw[Co,fB,fB];dsimp only;omega
section
variable {b:List UInt8}(Y:b.length<=1048576)
include Y
theorem TM {g:al}(hs:j1 g.ss_){r:ae}(Z:RB r)(he:r.es_=[])(rem:Bool){i h:Int}(hi:0<=i):Dr b (λq=>RB q/\(bQ q.es_<=12000/\q.es_.length<=30)/\q.cs_=r.cs_) (ub g r rem ⟨b,i,h⟩):=by
 have h5:=Z.2.2.1;obtain⟨q1,q2⟩:=TN hs h5;unfold ub;refine .eq (Ed hs.g Z.rok) ?_;refine DN (λj (l:List aZ)=>l.length=j/\bQ l<=j*400) hi (by rw[he];exact⟨rfl,by simp[bQ]⟩) (λj x l i h hx hj hi hl=>?_) λl i h hi hl=>?_;obtain⟨hl1,hl2⟩:=hl;have hx:=q2 x hx;have fin:∀ (e:Expr) (i' h' : Int),Sz.szd e<=320->0<=i'->Ok (λs:Int×Int×List aZ=>0<=s.1/\(s.2.2.length=j+1/\bQ s.2.2<=(j+1)*400)) (some (i',h',l++[(⟨x,e⟩:aZ)])):=λe i' h' U hi'=>.ret ⟨hi',by simp[hl1],by dsimp only;rw[tp,wx];omega⟩;unfold NL;dsimp only;refine .bbi (.eq (mz (show r.rt_.length<=1048576 by omega) _) ?_);refine .bbi (.eq (lR hs.g _) ?_);have hff:=EW hs (cE r x.Pos);generalize bR g (cE r x.Pos)=fs at hff;obtain⟨y,yb⟩:=fs;obtain⟨f1,f2⟩:=hff;dsimp only at f1 f2 ⊢;refine .bbi (.eq (Ur f2 _) ?_);generalize eS y x.Name=fa;obtain⟨a,ab⟩:=fa;dsimp only;refine .bbi (bS (dC Y 3 (cb hi)) λd i1 U hd hi1=>?_);have hd3:=hd.2.1 (by omega);refine .bgr (by constructor<;>omega) ?_;refine .bbi (bS (TO Y hs (r:=⟨r.Name,r.Left,r.rt_,r.ll_,l,r.cs_⟩) h5 rem _ _ _ _ (by omega) (by omega) hi1) λe i2 K he2 hi2=>?_);dsimp only at he2 ⊢;refine .bbi (.eq (xj (by have:=D2 Y he2;omega)) ?_);refine .bif (λ_=>?_) λ_=>?_;refine .bgr (by constructor<;>omega) ?_;exact fin _ _ _ he2 hi2;refine .bbi (bS (sJ Y _ (by simp) (cb hi2)) λe3 i3 h3 he3 hi3=>?_);refine .bgr (by constructor<;>omega) ?_;exact fin _ _ _ (by show Sz.szd e3<=320;have:Sz.szd e3<=8:=he3;omega) hi3;exact⟨_,rfl,⟨Z,⟨by have:=hl.2;dsimp only;omega,by have:=hl.1;dsimp only;omega⟩,rfl⟩,hi,rfl⟩
theorem P7 {g:al}(hs:j1 g.ss_){r:ae}(Z:RB r)(hc:r.cs_=[]){i h:Int}(hi:0<=i):Dr b (λq=>RB q/\q.es_=r.es_/\bQ q.cs_<=200) (tN g r ⟨b,i,h⟩):=by
 have h5:=Z.2.2.1;unfold tN;refine DN (λ_ (l:List Cn)=>l.length<=2/\bQ l<=l.length*40) hi (by rw[hc];simp[bQ]) (λj x l i h hx hj hi hl=>?_) λl i h hi hl=>?_;obtain⟨s1,_,_,s2⟩:=hs.2.2 x hx;unfold Nc;dsimp only;refine DN (λ_ (l:List Cn)=>l.length<=2/\bQ l<=l.length*40) hi hl (λj2 a l i h ha hj hi hl=>?_) λl i h hi hl=>.ret ⟨hi,hl⟩;have ha:=s2 a ha;unfold Nf;dsimp only;refine .bbi ?_;refine .bif (λ_=>.bso ?_) λ_=>.bso ?_;refine .bbi ?_;refine .bif (λK=>?_) λ_=>.bso ?_;have hl2:l.length<2:=by have:=of_decide_eq_true K;omega
 refine .bbi (bS (iu Y _ (cb hi)) λy i1 U _ hi1=>?_);refine .bso ?_;dsimp only;refine .bif (λ_=>?_) λ_=>.bso ?_;refine .bbi (.bind (Aj hs (r:=⟨r.Name,r.Left,r.rt_,r.ll_,r.es_,l⟩) h5 _) λq hq=>?_);refine .bbi (bS (sJ Y _ hq (cb hi1)) λe i2 K he hi2=>?_);refine .bbi (.bind (Aj hs (r:=⟨r.Name,r.Left,r.rt_,r.ll_,r.es_,l⟩) h5 _) λq3 hq3=>?_);refine .bbi (bS (sJ Y _ hq3 (cb hi2)) λe3 i3 h3 he3 hi3=>?_);refine .bgr (by constructor<;>omega) ?_;refine .bso (.ret ⟨hi3,by dsimp only;simp;omega,?_⟩);dsimp only at he he3 ⊢;rw[tp,IL,Axz,List.length_singleton];have:=hl.2;omega;exact .ret ⟨hi1,hl⟩;dsimp only;refine .bif (λh=>by cases h) λ_=>.bso (.ret ⟨hi,hl⟩);refine .bbi ?_;refine .bif (λh=>by cases h) λ_=>.bso ?_;dsimp only;refine .bif (λh=>by cases h) λ_=>.bso (.ret ⟨hi,hl⟩);refine⟨_,rfl,⟨Z,rfl,?_⟩,hi,rfl⟩;have:=hl.1;have:=hl.2;dsimp only;have h80:l.length*40<=80:=by omega
 omega
end
theorem P6 {k:Nat}(hk:k<2):Ok (λx=>x.size<=1) (rQ (k:Int)):=by
 have:k=0∨k=1:=by omega
 rcases this with rfl|rfl;exact⟨⟨#[48]⟩,by unfold rQ;rfl,by decide⟩;refine⟨⟨#[49]⟩,?_,by decide⟩;unfold rQ;rw[an (by decide)];have U:yy (((1:Nat):Int),(⟨#[]⟩:ar))=some (.inl (0,⟨#[49]⟩)):=by
  unfold yy;dsimp only;rw[an (by decide),an (by decide),aE (by constructor<;>decide),aE (by decide),aE (by constructor<;>decide)];rfl
 have K:yy (0,(⟨#[49]⟩:ar))=some (.inr ⟨#[49]⟩):=rfl;rw[eh U,cF K];rfl
def R0 (r:ae):Prop:=RB r/\r.es_=[]/\r.cs_=[]
def R1 (r:ae):Prop:=RB r/\(bQ r.es_<=12000/\r.es_.length<=30)/\bQ r.cs_<=200
theorem R0.r1 {r:ae}(h:R0 r):R1 r:=⟨h.1,⟨by rw[h.2.1];simp[bQ],by rw[h.2.1];simp⟩,by rw[h.2.2];simp[bQ]⟩
def GB (g:al):Prop:=j1 g.ss_/\1<=g.rs_.length/\g.rs_.length<=8/\∀ r∈g.rs_,R1 r
theorem CM {x:ar}{n:Nat}(h:x∈[(⟨#[115]⟩:ar),(⟨#[116]⟩:ar),(⟨#[117]⟩:ar)].take n):x.size=1:=by
 have h:=Esz h;simp only[Dsz,Daz,or_false] at h;rcases h with h|h|h<;>rw[h]<;>rfl
theorem Bl (x y:ar):(x++y).size=x.size+y.size:=ByteArray.size_append
section
variable {b:List UInt8}(Y:b.length<=1048576)
include Y
theorem LQ (pl:Bool){i h:Int}(hi:0<=i):Dr b GB (rq pl ⟨b,i,h⟩):=by
 unfold rq;refine bS (dC Y 3 (cb hi)) λy i1 U hy hi1=>?_;have h3:=hy.2.1 (by omega);have h0:=hy.1;dsimp only;refine .grd (by constructor<;>omega) (.grd (by omega) (.grd (by simp;omega) ?_));have hlen:([(⟨#[115]⟩:ar),(⟨#[116]⟩:ar),(⟨#[117]⟩:ar)].take ((1+y).toNat)).length=(1+y).toNat:=by rw[Brz];simp;omega
 refine qu (λk (l:List ah)=>l.length=k/\∀ s∈l,SB s) hi1 ⟨rfl,by simp⟩ (λj l i h hj hi hl=>?_) λsyms i2 K hi2 hsyms=>?_;unfold NK;dsimp only;refine .get (by rw[hlen];exact hj) λx hx=>?_;have hx:=CM hx;refine bS (IM Y (by omega) _ _ hi) λs i1 U hs hi1=>?_;refine .grd (by have:=hl.1;constructor<;>omega) (.ret ⟨hi1,by simp[hl.1],λa ha=>?_⟩);simp only[Ciz,Dsz,Daz,or_false] at ha;rcases ha with ha|ha;exact hl.2 a ha;rw[ha];exact hs;have hS:j1 syms:=⟨by rw[hsyms.1];omega,by rw[hsyms.1];omega,hsyms.2⟩
 dsimp only;refine qu (λk (l:List ae)=>k<=l.length/\l.length<=3*k/\∀ r∈l,R0 r) hi2 ⟨by simp,by simp,by simp⟩ (λj l i h hj hi hl=>?_) λrules i3 h3 hi3 Z=>?_;unfold NH;dsimp only;refine .get (by rw[hlen];exact hj) λx hx=>?_;have hx:=CM hx;refine .grd (by rw[hx];decide) ?_;refine bS (iu Y _ (cb hi)) λy3 i1 U _ hi1=>?_;have hl1:=hl.1;have hl2:=hl.2.1;refine .grd (by constructor<;>omega) ?_;refine bS (dC Y 2 (cb hi1)) λy4 i4 h4 hy4 hi4=>?_;have h42:=hy4.2.1 (by omega);have h40:=hy4.1;refine .grd (by constructor<;>omega) ?_;dsimp only;refine qu (λk (q:List ae)=>q.length=l.length+1+k/\∀ r∈q,R0 r) hi4 ⟨by simp,λa ha=>?_⟩ (λj2 q i h hj2 hi hq=>?_) λq i6 h6 hi6 hq=>?_;simp only[Ciz,Dsz,Daz,or_false] at ha;rcases ha with ha|ha;exact hl.2.2 a ha;rw[ha];exact⟨⟨by dsimp only;rw[Bl,hx];decide,by dsimp only;omega,by simp,by simp⟩,rfl,rfl⟩;unfold NI;dsimp only;refine .grd (by rw[hx];decide) ?_;refine .bind (P6 (by omega)) λnm hnm=>?_;refine .grd (by rw[Bl,hx];have:(⟨#[112]⟩:ar).size=1:=rfl;omega) ?_;refine bS (iu Y _ (cb hi)) λy6 i1 U _ hi1=>?_;refine bS (dC Y 3 (cb hi1)) λy7 i7 h7 hy7 hi7=>?_;have h72:=hy7.2.1 (by omega);have h70:=hy7.1;refine .grd (by constructor<;>omega) ?_;dsimp only;refine qu (λk (q:List ar)=>q.length=k/\∀ x∈q,x.size<=8) hi7 ⟨rfl,by simp⟩ (λj4 q4 i h hj4 hi hq4=>?_) λq4 i8 h8 hi8 hq4=>?_;unfold NJ;dsimp only;refine bS (kB Y (by intro h;have:=congrArg List.length h;rw[hlen] at this;simp at this;omega) (cb hi)) λz i1 U hz hi1=>?_;have hz:=CM hz;refine .grd (by have:=hq4.1;constructor<;>omega) (.ret ⟨hi1,by simp[hq4.1],λa ha=>?_⟩);simp only[Ciz,Dsz,Daz,or_false] at ha;rcases ha with ha|ha;exact hq4.2 a ha;rw[ha];omega;have hq41:=hq4.1;have hq1:=hq.1;refine .grd (by constructor<;>omega) (.ret ⟨hi8,by simp;omega,λa ha=>?_⟩);simp only[Ciz,Dsz,Daz,or_false] at ha;rcases ha with ha|ha;exact hq.2 a ha;rw[ha];exact⟨⟨by dsimp only;rw[Bl,Bl,hx];have:(⟨#[112]⟩:ar).size=1:=rfl;omega,by dsimp only;omega,by dsimp only;omega,hq4.2⟩,rfl,rfl⟩;exact .ret ⟨hi6,by dsimp only;have:=hq.1;omega,by dsimp only;have:=hq.1;omega,hq.2⟩;dsimp only;have hr1:=Z.1;have hr2:=Z.2.1;have key:∀ rs:List ae,1<=rs.length->rs.length<=8->(∀ r∈rs,R0 r)->Ok (λr=>GB r.1/\CB b r.2) ((bA (BF pl ⟨b,i,h⟩ syms) (0,i3,h3,rs)).bind λ(s14,s15,s16)=>some ((⟨syms,s16⟩:al),(⟨b,s14,s15⟩:aK))):=by
  intro rs g1 g2 g3;refine Ok.bind (Q:=λs:Int×Int×List ae=>0<=s.1/\s.2.2.length=rs.length/\∀ r∈s.2.2,R1 r) (EX (P:=λs:Int×Int×Int×List ae=>0<=s.1/\s.1<=rs.length/\0<=s.2.1/\s.2.2.2.length=rs.length/\∀ (k:Nat) x,s.2.2.2[k]?=some x->R1 x/\(s.1<=(k:Int)->R0 x)) (λs=>(rs.length-s.1).toNat) ?_ _ ⟨Int.le_refl _,by dsimp only;omega,hi3,rfl,λk x hx=>⟨(g3 x (Bvz hx)).r1,λ_=>g3 x (Bvz hx)⟩⟩) ?_;rintro⟨p,i5,h5,q⟩ ⟨W,a2,a3,a4,a5⟩;dsimp only at W a2 a3 a4 a5;unfold BF;dsimp only;refine .ite (λhp=>?_) λ_=>.ret ⟨a3,a4,λr Z=>?_⟩;obtain⟨x,hx⟩:∃ x,q[p.toNat]?=some x:=⟨_,Cmz (by omega)⟩
  have hx0:=(a5 _ _ hx).2 (by omega);rw[hx];have fin:∀ (y:ae) (i' h' : Int),R1 y->0<=i'->(0<=p+1/\p+1<=rs.length/\0<=i'/\(Dnz q p.toNat y).length=rs.length/\∀ (k:Nat) x,(Dnz q p.toNat y)[k]?=some x->R1 x/\(p+1<=(k:Int)->R0 x))/\(rs.length-(p+1)).toNat<(rs.length-p).toNat:=λy i' h' hy hi'=>by
   refine⟨⟨by omega,by omega,hi',by rw[Clz];exact a4,λk x hk=>?_⟩,by omega⟩;rw[Cjz] at hk;by_cases e:p.toNat=k;rw[ao e] at hk;split at hk;cases hk;exact⟨hy,λh=>by omega⟩;cases hk;rw[an e] at hk;exact⟨(a5 _ _ hk).1,λh=>(a5 _ _ hk).2 (by omega)⟩
  refine .bgr W (.bbi (.bso ?_));refine .bbi (bS (TM Y (g:=⟨syms,q⟩) hS hx0.1 hx0.2.1 _ a3) λy i6 h6 hy hi6=>?_);obtain⟨b1,b2,b3⟩:=hy;rw[hx0.2.2] at b3;dsimp only;refine .bif (λ_=>.bso ?_) λ_=>?_;exact .grd (by constructor<;>omega) (.ret (fin _ _ h6 ⟨b1,b2,by rw[b3];simp[bQ]⟩ hi6));refine .bbi (bS (P7 Y (g:=⟨syms,q⟩) hS b1 b3 hi6) λy2 i7 h7 hy2 hi7=>?_);refine .bso ?_;exact .grd (by constructor<;>omega) (.ret (fin _ _ h7 ⟨hy2.1,by rw[hy2.2.1];exact b2,hy2.2.2⟩ hi7));obtain⟨k,hk⟩:=Elz Z;exact (a5 _ _ hk).1;rintro⟨s1,s2,s3⟩ ⟨c1,c2,c3⟩;exact⟨_,rfl,⟨hS,by dsimp only at c2 ⊢;omega,by dsimp only at c2 ⊢;omega,c3⟩,c1,rfl⟩
 refine .bif (λh8=>.bgr (by omega) (.bso ?_)) λh8=>.bso ?_;exact key _ (by rw[Brz];omega) (by rw[Brz];omega) λr hr'=>Z.2.2 r (Esz hr');exact key _ (by omega) (by omega) Z.2.2
end
theorem EV {α β:Type}{p:α->Bool}{g:α->β}{B:Nat}{f:Nat->α->List β->Option (List β)}:∀ (xs:List α) (i:Nat) (s:List β),(∀ k x s,x∈xs->s.length<B->f k x s=some (if p x=true then s++[g x] else s))->s.length+xs.length<=B ->
  eachL f i xs s=some (s++(xs.filter p).map g)
 | [],i,s,_,_=>by simp[eachL]
 | x::xs,i,s,hf,h=>by
  simp only[bC] at h;by_cases hp:p x=true;have ih:=EV xs (i+1) (s++[g x]) (λk y s hy=>hf k y s (by simp[hy])) (by simp;omega);simp[eachL,hf i x s (by simp) (by omega),hp,ih];have ih:=EV xs (i+1) s (λk y s hy=>hf k y s (by simp[hy])) (by omega);simp[eachL,hf i x s (by simp) (by omega),hp,ih]
theorem nH {α β:Type}{g:α->β}{B:Nat}{f:Nat->α->List β->Option (List β)}(xs:List α)(i:Nat)(s:List β)(hf:∀ k x s,x∈xs->s.length<B->f k x s=some (s++[g x]))(h:s.length+xs.length<=B) :
  eachL f i xs s=some (s++xs.map g):=by
 have:=EV (p:=λ_=>true) (g:=g) (B:=B) (f:=f) xs i s (λk x s hx hs=>by rw[hf k x s hx hs,ao rfl]) h;rw[this];congr 2;congr 1;simp
theorem KJ {g:al}{n:ar}(h:(bR g n).2=true):∃ j y,ie g n=some j/\g.ss_[j]?=some y/\bR g n=(y,true)/\y.Name=n:=by
 unfold bR at h ⊢;cases hf:g.ss_.find? λy=>decide (y.Name=n) with
 | none=>rw[hf] at h;cases h
 | some y=>
  have hn:y.Name=n:=by simpa using List.find?_some (p:=λy:ah=>decide (y.Name=n)) hf
  unfold ie;cases he:g.ss_.findIdx? λy=>decide (y.Name=n) with
  | none=>
   rw[List.findIdx?_eq_none_iff] at he;have:=he y (Ecz hf);simp[hn] at this
  | some j=>
   refine⟨j,y,rfl,?_,rfl,hn⟩;rw[List.findIdx?_eq_some_iff_getElem] at he;obtain⟨hj,U,K⟩:=he;rw[List.find?_eq_some_iff_getElem] at hf;obtain⟨_,i,hi,hy,h3⟩:=hf;have:i=j:=by
    rcases Nat.lt_trichotomy i j with hlt|heq|hgt;have:=K i hlt;rw[hy] at this;simp[hn] at this;exact heq;have:=h3 j hgt;simp at this;simp at U;exact absurd U this
   subst this;rw[Cmz hi,hy]
theorem Shape.known {g:al}(h:Shape g){r:ae}(Z:r∈g.rs_){k:Nat}(hk:k<=r.rt_.length):(bR g (cE r (k:Int))).2=true:=by
 have h3:=h.brk 3 (by omega) (by omega) r Z;unfold iq at h3;rw[ao rfl,Bool.not_eq_false'] at h3;unfold qB at h3;rw[List.all_eq_true] at h3;exact h3 k (by rw[Etz];omega)
theorem Shape.right {g:al}(h:Shape g){r:ae}(Z:r∈g.rs_){n:ar}(hn:n∈r.rt_):(bR g n).2=true:=by
 obtain⟨k,hk⟩:=Elz hn;have hlt:=(List.getElem?_eq_some_iff.1 hk).1;have:=h.known Z (k:=k+1) (by omega);rwa[rC hk] at this
theorem Shape.left {g:al}(h:Shape g){r:ae}(Z:r∈g.rs_):(bR g r.Left).2=true:=by
 have:=h.known Z (k:=0) (by omega);unfold cE at this;rwa[ao (by rfl)] at this
theorem Shape.attrs {g:al}(h:Shape g){y:ah}(hy:y∈g.ss_):y.as_.length<=4:=by
 have:=h.symB hy;unfold Go.Proofs.YtodhafdaelcnlaaGreat.symB at this;simp only[Bool.and_eq_true,decide_eq_true_eq] at this;exact this.2.2.1
theorem Shape.plain {g:al}(h:Shape g)(n:ar):(ct g n).length<=4:=by
 refine Bgz (Erz _ _) ?_;unfold bR;cases hf:g.ss_.find? λy=>decide (y.Name=n) with
 | none=>simp[zS]
 | some y=>exact h.attrs (Ecz hf)
theorem AZ (g:al)(n:ar):oe g n=some (fl g n):=by
 unfold oe zH fl ie;rw[pk (q:=λy:ah=>decide (y.Name=n)) (c:=λk=>(k:Int)) λj x hx=>by
  unfold H6 y0;rw[aj,← apply_ite some]]
 cases g.ss_.findIdx? λy=>decide (y.Name=n) with
 | none=>rfl
 | some j=>dsimp only;rw[Adz];rfl
def Inv (g:al)(all:List au):Prop:=all.length=g.ss_.length/\∀ (k:Nat) (y:ah) (a:au),g.ss_[k]?=some y->all[k]?=some a->aL a/\a.N=((ct g y.Name).length:Int)
def zR:au:=⟨0,[]⟩
def wc (g:al)(all:List au)(n:ar):au:=all.getD ((ie g n).getD 0) zR
theorem Inv.at_ {g:al}{all:List au}(h:Inv g all){n:ar}(hn:(bR g n).2=true):∃ j,ie g n=some j/\j<g.ss_.length/\all[j]?=some (wc g all n)/\aL (wc g all n)/\(wc g all n).N=((ct g n).length:Int):=by
 obtain⟨j,y,U,K,h3,h4⟩:=KJ hn;have hj:=(List.getElem?_eq_some_iff.1 K).1;have e:all[j]?=some (wc g all n):=by
  unfold wc;rw[U,Cbz,Cwz,Cmz (by rw[h.1];exact hj)];rfl
 have:=h.2 j y _ K e;rw[h4] at this;exact⟨j,U,hj,e,this⟩
theorem eQ {g:al}(hS:Shape g){r:ae}(Z:r∈g.rs_):r.rt_.length<=3:=by
 have:=hS.ruleB Z;unfold Go.Proofs.YtodhafdaelcnlaaGreat.ruleB at this;simp only[Bool.and_eq_true,decide_eq_true_eq] at this;exact this.2.1.1
noncomputable def cG (g:al) (r:ae) (c:au):au:=(kf g r c).getD ⟨0,[]⟩
theorem wH {g:al}(h:dP g){r:ae}(hl:fm r)(c:au):kf g r c=some (cG g r c)/\rO g r c=some (cG g r c):=by
 obtain⟨x,U,K,_⟩:=YJ (c:=c) h hl;unfold cG;rw[U,K];exact⟨rfl,rfl⟩
def mL (all:List au):Nat:=(all.map vg).sum
theorem Inv.bound {g:al}{all:List au}(h:Inv g all):mL all<=all.length*(16*65535):=by
 have key:∀ l:List au,(∀ a∈l,aL a)->mL l<=l.length*(16*65535):=by
  intro l
  induction l with
  | nil=>intro _;simp[mL]
  | cons a l ih=>
   intro hv;have U:=VW (hv a (by simp));have K:=ih λb Y=>hv b (by simp[Y]);unfold mL at K ⊢;simp only[List.map_cons,List.sum_cons,bC];omega
 refine key all λa ha=>?_;obtain⟨k,hk⟩:=Elz ha;have hlt:=(List.getElem?_eq_some_iff.1 hk).1;exact (h.2 k _ a (Cmz (by rw[← h.1];exact hlt)) hk).1
theorem aL.len {a:au}(h:aL a):a.Rows.length<=16:=by have:=h.2.2.1;have:=h.2.1;omega
theorem Ja {α:Type}[Sz α](x:α):∀ (l:List α) (j:Nat),bQ (l.set j x)<=bQ l+Sz.szd x
 | [],_=>by simp[bQ]
 | y::l,0=>by simp only[Dnz,bQ];omega
 | y::l,j+1=>by have:=Ja x l j;simp only[Dnz,bQ];omega
theorem VU {α:Type}[Sz α](l:List α):bQ (l.drop 1)<=bQ l:=by
 cases l with
 | nil=>simp
 | cons x l=>simp only[List.drop,bQ];omega
theorem My (a:Int):∀ (l:List Expr) (i:Nat),(∀ x∈l,∃ v,∀ m,dD x<=m->kP m x a=some v)->∃ r,∀ m,(∀ x∈l,dD x<=m)->findL (pP (kP m) a) i l ()=some r
 | [],i,_=>⟨.inl (),λm _=>rfl⟩
 | x::l,i,h=>by
  obtain⟨v,hv⟩:=h x (by simp);obtain⟨r,Z⟩:=My a l (i+1) λy hy=>h y (by simp[hy]);cases v with
  | true=>
   refine⟨r,λm hm=>?_⟩;have U:=Z m λy hy=>hm y (by simp[hy]);have K:pP (kP m) a i x ()=some (.inl ()):=by unfold pP;rw[hv m (hm x (by simp))];rfl
   rw[findL,K];exact U
  | false=>
   refine⟨.inr false,λm hm=>?_⟩;have K:pP (kP m) a i x ()=some (.inr false):=by unfold pP;rw[hv m (hm x (by simp))];rfl
   rw[findL,K];rfl
theorem VS (e:Expr)(a:Int):∃ v,xW e a=some v:=by
 have key:∀ e:Expr,∃ v,∀ m,dD e<=m->kP m e a=some v:=by
  intro e
  induction e using lQ with
  | h e ih=>
   obtain⟨r,Z⟩:=My a e.Args 0 ih;have:∃ v,∀ m,dD e<=m+1->nS (kP m) e a=some v:=by
    cases r with
    | inl u=>exact⟨_,λm hm=>by unfold nS;rw[Z m λx hx=>by have:=j6 hx;omega];rfl⟩
    | inr q=>exact⟨_,λm hm=>by unfold nS;rw[Z m λx hx=>by have:=j6 hx;omega];rfl⟩
   obtain⟨v,hv⟩:=this;refine⟨v,λm hm=>?_⟩;obtain⟨m,rfl⟩:∃ q,m=q+1:=⟨m-1,by have:=kA e;omega⟩
   exact hv m hm
 obtain⟨v,hv⟩:=key e;exact⟨v,gY (dD e) hv⟩
def R2 (r:ae):Prop:=RB r/\bQ r.es_<=60000/\bQ r.cs_<=200
def nB (g:al):Prop:=j1 g.ss_/\1<=g.rs_.length/\g.rs_.length<=8/\∀ r∈g.rs_,R2 r
theorem SB.set {s:ah}(h:SB s){x:aI}(hx:x.Name.size<=8):SB ⟨s.Name,Dnz s.as_ 0 x⟩:=by
 refine⟨h.1,by dsimp only;rw[Clz];exact h.2.1,by dsimp only;rw[Clz];exact h.2.2.1,λa ha=>?_⟩;rcases Euz ha with ha|ha;exact h.2.2.2 a ha;rw[ha];exact hx
theorem nB.set {ss:List ah}{rs:List ae}(h:nB ⟨ss,rs⟩)(k:Nat){x:ae}(hx:R2 x):nB ⟨ss,rs.set k x⟩:=by
 refine⟨h.1,by dsimp only;rw[Clz];exact h.2.1,by dsimp only;rw[Clz];exact h.2.2.1,λa ha=>?_⟩;rcases Euz ha with ha|ha;exact h.2.2.2 a ha;rw[ha];exact hx
section
variable {b:List UInt8}(Y:b.length<=1048576)
include Y
theorem Up {e:Expr}{n:Nat}(h:Sz.szd e<=n)(hn:n<=1048576)(a:Int):Ok (λ_=>True) (lS e a):=by
 unfold lS;refine .eq (xj (by have:=D2 Y h;omega)) ?_;obtain⟨v,hv⟩:=VS e a;exact .ite (λ_=>.eq hv (.ret trivial)) λ_=>.ret trivial
theorem Uo {i h:Int}(hi:0<=i):Dr b (λr=>RB r/\r.rt_.length<=3/\bQ r.es_<=1200/\bQ r.cs_<=200) (tM ⟨b,i,h⟩):=by
 unfold tM;refine bS (kB Y (by simp) (cb hi)) λy1 i1 U hy1 hi1=>?_;refine bS (kB Y (by simp) (cb hi1)) λy2 i2 K hy2 hi2=>?_;refine bS (iu Y _ (cb hi2)) λy3 i3 h3 _ hi3=>?_;refine bS (dC Y 4 (cb hi3)) λy4 i4 h4 hy4 hi4=>?_;have h44:=hy4.2.1 (by omega);have h40:=hy4.1;have n1:y1.size<=8:=by
  simp only[Dsz,Daz,or_false] at hy1;rcases hy1 with h|h|h<;>subst h<;>(try dsimp only)<;>decide
 have n2:y2.size<=8:=by
  simp only[Dsz,Daz,or_false] at hy2;rcases hy2 with h|h<;>subst h<;>(try dsimp only)<;>decide
 dsimp only;refine qu (λk (q:List ar)=>q.length=k/\∀ x∈q,x.size<=8) hi4 ⟨rfl,by simp⟩ (λj4 q4 i h hj4 hi hq4=>?_) λq4 i8 h8 hi8 hq4=>?_;unfold Na;dsimp only;refine bS (kB Y (by simp) (cb hi)) λz i1 U hz hi1=>?_;refine .grd (by have:=hq4.1;constructor<;>omega) (.ret ⟨hi1,by simp[hq4.1],λa ha=>?_⟩);simp only[Ciz,Dsz,Daz,or_false] at ha hz;rcases ha with ha|ha;exact hq4.2 a ha;rw[ha];rcases hz with h|h|h<;>subst h<;>(try dsimp only)<;>decide;refine bS (dC Y 4 (cb hi8)) λy6 i6 h6 hy6 hi6=>?_;have h64:=hy6.2.1 (by omega);dsimp only;refine qu (λk (q:List aZ)=>q.length<=k/\bQ q<=k*400) hi6 ⟨by simp,by simp[bQ]⟩ (λj q i h hj hi hq=>?_) λq i9 h9 hi9 hq=>?_;have hq1:=hq.1;have hq2:=hq.2;unfold M9;dsimp only;refine .bbi (bS (dC Y 3 (cb hi)) λy7 i7 h7 hy7 hi7=>?_);have h73:=hy7.2.1 (by omega);have h70:=hy7.1;refine .bgr (by constructor<;>omega) (.bbi (bS (JM Y 2 (by omega) (by omega) (by omega) (cb hi7)) λe i8 h8 he hi8=>?_));have he:Sz.szd e<=320:=he;refine .bbi (.bind (Up Y he (by omega) y4) λv _=>?_);refine .bif (λ_=>?_) λ_=>.bso (.ret ⟨hi8,Bgz hq1 (Nat.le_succ _),Bgz hq2 (Cpz 400 (Nat.le_succ j))⟩);refine .bgr (by constructor<;>omega) (.bbi (bS (dC Y _ (cb hi8)) λy10 i9 h9 _ hi9=>?_));refine .bbi (bS (Ef Y (cb hi9)) λnm i10 h10 hnm hi10=>?_);refine .bgr (by constructor<;>omega) (.bso (.ret ⟨hi10,by dsimp only;simp;omega,?_⟩));dsimp only;rw[tp,wx];have hnm:nm.size=1:=hnm;dsimp only;omega;have hq2:=hq.2;have hR:RB ⟨y1,y2,q4,y3,q,[]⟩:=⟨n1,n2,by have:=hq4.1;dsimp only;omega,hq4.2⟩
 refine bS (iu Y _ (cb hi9)) λy12 i12 h12 _ hi12=>?_;refine .ite (λ_=>?_) λ_=>⟨_,rfl,⟨hR,by have:=hq4.1;dsimp only;omega,by dsimp only;omega,by simp[bQ]⟩,hi12,rfl⟩
 refine bS (dC Y _ (cb hi12)) λy13 i13 h13 _ hi13=>?_;refine .eq rfl ?_;refine .grd (by simp only[List.length_nil];constructor<;>omega) ⟨_,rfl,⟨hR,by have:=hq4.1;dsimp only;omega,by dsimp only;omega,?_⟩,hi13,rfl⟩;dsimp only;rw[List.nil_append];show 1+Sz.szd (⟨(⟨#[115]⟩:ar),(⟨#[99]⟩:ar),_,_⟩:Cn)+0<=200;rw[IL,sH Y,sH Y,mB Y];decide
theorem Un {i h:Int}(hi:0<=i):Dr b R2 (tK ⟨b,i,h⟩):=by
 unfold tK;refine bS (Uo Y hi) λr i1 U Z hi1=>?_;obtain⟨r1,r2,r3,r4⟩:=Z;refine bS (dC Y 12 (cb hi1)) λy2 i2 K _ hi2=>?_;dsimp only;refine .ite (λ_=>?_) λ_=>.ite (λ_=>?_) λ_=>.ite (λ_=>?_) λ_=>.ite (λ_=>?_) λ_=>.ite (λ_=>?_) λ_=>?_;refine bS (kB Y (by simp) (cb hi2)) λz i3 h3 hz hi3=>⟨_,rfl,⟨⟨?_,r1.2.1,r1.2.2.1,r1.2.2.2⟩,by dsimp only;omega,r4⟩,hi3,rfl⟩
 simp only[Dsz,Daz,or_false] at hz;rcases hz with h|h|h<;>subst h<;>(try dsimp only)<;>decide;refine .grd (by simp only[bC,List.length_nil];constructor<;>omega) ⟨_,rfl,⟨⟨r1.1,r1.2.1,by simp;omega,λx hx=>?_⟩,by dsimp only;omega,r4⟩,hi2,rfl⟩;simp only[Ciz,Dsz,Daz,or_false] at hx;rcases hx with h|h|h;exact r1.2.2.2 x h;rw[h];decide;rw[h];decide;refine bS (dC Y 5 (cb hi2)) λy4 i4 h4 hy4 hi4=>?_;have h40:=hy4.1;have h44:=hy4.2.1 (by omega);refine .grd (by constructor<;>omega) ?_;refine bS (Tc Y (cb hi4)) λe i5 h5 he hi5=>?_;have he:Sz.szd e<=30000:=he;have hl:=iW r.es_;refine .grd (by constructor<;>omega) ⟨_,rfl,⟨r1,?_,r4⟩,hi5,rfl⟩;dsimp only;rw[tp,wx];have:(⟨#[97]⟩:ar).size=1:=rfl;dsimp only;omega;exact⟨_,rfl,⟨⟨r1.1,by dsimp only;decide,r1.2.2.1,r1.2.2.2⟩,by dsimp only;omega,r4⟩,hi2,rfl⟩;refine .grd (by constructor<;>omega) ?_;refine bS (dC Y _ (cb hi2)) λy6 i6 h6 hy6 hi6=>?_;have h60:=hy6.1;have h61:=hy6.2.1 (by omega);refine .grd h60 (.grd (by omega) ⟨_,rfl,⟨⟨r1.1,r1.2.1,by dsimp only;rw[Brz];omega,λx hx=>r1.2.2.2 x (Esz hx)⟩,by dsimp only;omega,r4⟩,hi6,rfl⟩);exact⟨_,rfl,⟨r1,by dsimp only;omega,r4⟩,hi2,rfl⟩
theorem Um {i h:Int}(hi:0<=i):Dr b SB (tJ ⟨b,i,h⟩):=by
 unfold tJ;refine bS (kB Y (by simp) (cb hi)) λnm i1 U hnm hi1=>?_;have hnm:nm.size<=8:=by
  simp only[Dsz,Daz,or_false] at hnm;rcases hnm with h|h|h|h<;>subst h<;>(try dsimp only)<;>decide
 refine bS (IM Y hnm _ _ hi1) λs i2 K hs hi2=>?_;refine bS (dC Y 10 (cb hi2)) λy3 i3 h3 _ hi3=>?_;have hl:=hs.2.1;dsimp only;refine .ite (λ_=>?_) λ_=>.ite (λ_=>?_) λ_=>.ite (λ_=>?_) λ_=>.ite (λ_=>?_) λ_=>.ite (λ_=>?_) λ_=>?_;exact .get (by omega) λx hx=>⟨_,rfl,hs.set (by exact hs.2.2.2 x hx),hi3,rfl⟩
 exact bS (dC Y 5 (cb hi3)) λy4 i4 h4 _ hi4=>.get (by omega) λx hx=>⟨_,rfl,hs.set (by exact hs.2.2.2 x hx),hi4,rfl⟩
 exact bS (dC Y 6 (cb hi3)) λy4 i4 h4 _ hi4=>.get (by omega) λx hx=>⟨_,rfl,hs.set (by exact hs.2.2.2 x hx),hi4,rfl⟩
 refine bS (kB Y (by simp) (cb hi3)) λz i4 h4 hz hi4=>.get (by omega) λx hx=>⟨_,rfl,hs.set ?_,hi4,rfl⟩
 simp only[Dsz,Daz,or_false] at hz;rcases hz with h|h|h<;>subst h<;>(try dsimp only)<;>decide;refine Ok.bind (Q:=λl:List aI=>1<=l.length/\l.length<=5/\∀ a∈l,a.Name.size<=8) (EX (P:=λl:List aI=>1<=l.length/\l.length<=5/\∀ a∈l,a.Name.size<=8) (λl=>5-l.length) (λl hl=>?_) _ ⟨hs.2.1,hs.2.2.1,hs.2.2.2⟩) λl hl=>⟨_,rfl,⟨hs.1,hl.1,hl.2.1,hl.2.2⟩,hi3,rfl⟩
 unfold M8;refine .ite (λh5=>?_) λ_=>.ret hl;refine .get (by simp;omega) λx hx=>.grd (by constructor<;>omega) (.ret ⟨⟨by simp,by simp;omega,λa ha=>?_⟩,by simp;omega⟩);simp only[Ciz,Dsz,Daz,or_false] at ha hx;rcases ha with ha|ha;exact hl.2.2 a ha;rw[ha];dsimp only;rcases hx with h|h|h|h|h<;>subst h<;>(try dsimp only)<;>decide;exact⟨_,rfl,hs,hi3,rfl⟩
theorem VQ {i h:Int}(hi:0<=i):Dr b nB (ua ⟨b,i,h⟩):=by
 unfold ua;refine bS (iu Y _ (cb hi)) λy1 i1 U _ hi1=>?_;refine bS (LQ Y y1 hi1) λg i2 K hg hi2=>?_;obtain⟨ss,rs⟩:=g;obtain⟨g1,g2,g3,g4⟩:=hg;dsimp only at g1 g2 g3 g4;have hG:nB ⟨ss,rs⟩:=⟨g1,g2,g3,λr Z=>by obtain⟨a,c,d⟩:=g4 r Z;exact⟨a,by omega,d⟩⟩
 refine bS (dC Y _ (cb hi2)) λy3 i3 h3 hy3 hi3=>?_;have h30:=hy3.1;have h31:=hy3.2.1 (by dsimp only;omega);dsimp only at h31;refine bS (dC Y 14 (cb hi3)) λy4 i4 h4 _ hi4=>?_;have hk:y3.toNat<rs.length:=by omega
 dsimp only;have same:Ok (λr:al×aK=>nB r.1/\CB b r.2) (some ((⟨ss,rs⟩:al),(⟨b,i4,h4⟩:aK))):=⟨_,rfl,hG,hi4,rfl⟩
 refine .ite (λ_=>?_) λ_=>.ite (λ_=>?_) λ_=>.ite (λ_=>?_) λ_=>.ite (λ_=>?_) λ_=>.ite (λ_=>?_) λ_=>.ite (λ_=>?_) λ_=>.ite (λ_=>?_) λ_=>same;exact bS (Un Y hi4) λr i5 h5 Z hi5=>.grd h30 (.get hk λx hx=>⟨_,rfl,hG.set _ Z,hi5,rfl⟩);refine bS (Um Y hi4) λs i5 h5 hs hi5=>.get (by have:=g1.1;omega) λx hx=>⟨_,rfl,⟨⟨by dsimp only;rw[Clz];exact g1.1,by dsimp only;rw[Clz];exact g1.2.1,λa ha=>?_⟩,g2,g3,hG.2.2.2⟩,hi5,rfl⟩
 rcases Euz ha with ha|ha;exact g1.2.2 a ha;rw[ha];exact hs;refine .get (by omega) λx hx=>.grd h30 (.get hk λr Z=>⟨_,rfl,hG.set _ ?_,hi4,rfl⟩);have a:=hG.2.2.2 r Z;exact⟨⟨(g4 x hx).1.1,a.1.2.1,a.1.2.2.1,a.1.2.2.2⟩,a.2.1,a.2.2⟩;refine .grd h30 (.get hk λr Z=>.ite (λh0=>.grd (by omega) ⟨_,rfl,hG.set _ ?_,hi4,rfl⟩) λ_=>same);have a:=hG.2.2.2 r Z;exact⟨a.1,by have:=VU r.es_;have:=a.2.1;dsimp only;omega,a.2.2⟩;refine .grd h30 (.get hk λr Z=>.ite (λh0=>?_) λ_=>same);have a:=g4 r Z;have hl:=iW r.es_;have a2:=a.2.1;refine .get (by omega) λx hx=>.grd (by constructor<;>omega) ⟨_,rfl,hG.set _ ⟨a.1,?_,a.2.2⟩,hi4,rfl⟩;have:=AD hx;dsimp only;rw[tp];omega;refine bS (kB Y (by simp) (cb hi4)) λz i5 h5 hz hi5=>.grd h30 (.get hk λr Z=>⟨_,rfl,hG.set _ ?_,hi5,rfl⟩);have a:=hG.2.2.2 r Z;refine⟨⟨a.1.1,?_,a.1.2.2.1,a.1.2.2.2⟩,a.2.1,a.2.2⟩;simp only[Dsz,Daz,or_false] at hz;rcases hz with h|h<;>subst h<;>(try dsimp only)<;>decide;refine .grd h30 (.get hk λr Z=>.ite (λh0=>?_) λ_=>same);refine bS (JL Y (cb hi4)) λe i5 h5 he hi5=>?_;have he:Sz.szd e<=20480:=he;have a:=g4 r Z;have a2:=a.2.1;refine .get (by omega) λx hx=>⟨_,rfl,hG.set _ ⟨a.1,?_,a.2.2⟩,hi5,rfl⟩
 have U:=AD hx;have K:=Ja (⟨x.At,e⟩:aZ) r.es_ 0;have h3:Sz.szd x=x.At.Name.size+Sz.szd x.Expr:=wx x.At x.Expr;rw[wx] at K;dsimp only;omega
end
theorem Qb {r:ae}(h:R2 r):Sz.szd r<=60300:=by
 have U:=wy (m:=8) h.1.2.2.2;have:=h.1.2.2.1;have:=h.1.1;have:=h.1.2.1;have:=h.2.1;have:=h.2.2;have h9:r.rt_.length*(8+1)<=45:=by omega
 rw[pd];omega
theorem Qa {s:ah}(h:SB s):Sz.szd s<=60:=by
 have U:=wy (m:=8) (l:=s.as_) λa ha=>by rw[Za];exact h.2.2.2 a ha
 have:=h.2.2.1;have:=h.1;have h9:s.as_.length*(8+1)<=45:=by omega
 rw[MX];omega
theorem Qd {g:al}(h:nB g):Sz.szd g<=1048576:=by
 have U:=wy (m:=60) (l:=g.ss_) λs hs=>Qa (h.1.2.2 s hs);have K:=wy (m:=60300) (l:=g.rs_) λr Z=>Qb (h.2.2.2 r Z);have h3:g.ss_.length*(60+1)<=183:=by have:=h.1.2.1;omega
 have h4:g.rs_.length*(60300+1)<=482408:=by have:=h.2.2.1;omega
 rw[xN];omega
theorem ue {r:au}(h:aL r)(i k:Int):aL (cC r i k):=by
 unfold cC;by_cases hc:aL r/\jz r i/\jz r k;rw[ao hc];obtain⟨_,hi,hk⟩:=hc;unfold wF;refine⟨h.1,h.2.1,by dsimp only;rw[Clz];exact h.2.2.1,λx hx=>?_⟩;rcases Euz hx with hx|hx;exact h.2.2.2 x hx;rw[hx];have U:=h.1;have hk1:=hk.1;have hk2:=hk.2;refine P9 ?_ ?_;unfold gW;rw[Cwz];cases hq:r.Rows[i.toNat]? with
 | none=>show (0:Int)<=0/\(0:Int)<=((2 ^ r.N.toNat:Nat):Int)-1;have:=Nat.two_pow_pos r.N.toNat;omega
 | some y=>exact h.2.2.2 y (Bvz hq)
 have K:2 ^ k.toNat<2 ^ r.N.toNat:=Nat.pow_lt_pow_right (by decide) (by omega);constructor;exact Int.natCast_nonneg _;dsimp only;omega;rw[an hc];exact h
theorem AM {r:au}(h:aL r)(i k:Int)(a c:Nat):Rl (cC r i k).Rows a c↔Rl r.Rows a c∨(jz r i/\jz r k/\(a:Int)=i/\(c:Int)=k):=by
 unfold cC;by_cases hc:aL r/\jz r i/\jz r k;rw[ao hc];obtain⟨_,hi,hk⟩:=hc;have hi1:=hi.1;have hi2:=hi.2;have hk1:=hk.1;have hl:=h.2.2.1;unfold wF Rl;dsimp only;rw[Cwz,Cjz];by_cases e:i.toNat=a;rw[ao e,ao (by omega),Cbz,xh,Nat.testBit_or,cd,Nat.testBit_two_pow];unfold gW;rw[e];simp only[Bool.or_eq_true,decide_eq_true_eq];constructor;rintro (U|U);exact .inl U;exact .inr ⟨hi,hk,by omega,by omega⟩;rintro (U|⟨_,_,_,U⟩);exact .inl U;exact .inr (by omega);rw[an e,← Cwz];constructor;exact λU=>.inl U;rintro (U|⟨_,_,U,_⟩);exact U;omega;rw[an hc];constructor;exact λU=>.inl U;rintro (U|⟨U,K,_⟩);exact U;exact absurd ⟨h,U,K⟩ hc
def sS (a b:au):Prop:=aL a/\aL b/\a.N=b.N/\∀ i j:Nat,Rl a.Rows i j->Rl b.Rows i j
theorem sS.refl {a:au}(h:aL a):sS a a:=⟨h,h,rfl,λ_ _ h=>h⟩
theorem sS.trans {a b c:au}(h:sS a b)(k:sS b c):sS a c:=⟨h.1,k.2.1,h.2.2.1.trans k.2.2.1,λi j x=>k.2.2.2 i j (h.2.2.2 i j x)⟩
theorem BJ {n:Int}(h0:0<=n)(U:n<=16):aL ⟨n,Bqz n.toNat 0⟩:=by
 refine⟨h0,U,by simp;omega,λx hx=>?_⟩;have:=(List.mem_replicate.1 hx).2;have K:=Nat.two_pow_pos n.toNat
 dsimp only;omega
theorem Dy {g:al}{r:ae}{m:Nat}(hm:m<(ct g (cE r ((0:Nat):Int))).length):(dU g r ((0:Nat):Int))[m]?=some (m:Int):=by
 unfold dU;have e:bX g r=cB g r 0++(Dbz 1 r.rt_.length).flatMap (cB g r):=by unfold bX;rw[List.range'_succ,Bkz]
 have f1:((cB g r 0).zipIdx 0).filter (λq=>decide (q.1.Pos=((0:Nat):Int)))=(cB g r 0).zipIdx 0:=List.filter_eq_self.2 λq hq=>by
  have:=Evz hq;unfold cB at this;obtain⟨a,_,ha⟩:=List.mem_map.1 this;rw[← ha];simp
 have f2:(((Dbz 1 r.rt_.length).flatMap (cB g r)).zipIdx (0+(cB g r 0).length)).filter (λq=>decide (q.1.Pos=((0:Nat):Int)))=[]:=List.filter_eq_nil_iff.2 λq hq=>by
  have:=Evz hq;obtain⟨k,hk,hk2⟩:=List.mem_flatMap.1 this;rw[Etz] at hk;unfold cB at hk2;obtain⟨a,_,ha⟩:=List.mem_map.1 hk2;rw[← ha];simp;omega
 rw[e,List.zipIdx_append,List.filter_append,f1,f2,List.append_nil,List.getElem?_map,List.getElem?_zipIdx];have hl:m<(cB g r 0).length:=by unfold cB;rw[bc];exact hm
 rw[Cmz hl];simp
theorem TL {g:al}(hg:dP g){r:ae}(hn:(ct g r.Left).length<=16)(c:au):∃ s,kf g r c=some s/\aL s/\s.N=((ct g r.Left).length:Int)/\∀ a b:Nat,Rl s.Rows a b->bG c (a:Int) (b:Int):=by
 have hv:=BJ (n:=((ct g r.Left).length:Int)) (by omega) (by omega);have P0:∀ s:List Int×Int,(aL ⟨s.2,s.1⟩/\s.2=((ct g r.Left).length:Int)/\∀ a b:Nat,Rl s.1 a b->bG c (a:Int) (b:Int))->s.1.length<=1048576:=λs h=>by have:=h.1.2.2.1;have:=h.1.2.1;dsimp only at *;omega
 have key:=tw (P:=λ_ (s:List Int×Int)=>aL ⟨s.2,s.1⟩/\s.2=((ct g r.Left).length:Int)/\∀ a b:Nat,Rl s.1 a b->bG c (a:Int) (b:Int)) (f:=pZ c (ct g r.Left)) (xs:=ct g r.Left) (i:=0) (s:=(Bqz ((ct g r.Left).length:Int).toNat 0,((ct g r.Left).length:Int))) ⟨hv,rfl,λa b h=>by
   exfalso;unfold Rl at h;rw[Cwz,Ewz] at h;split at h<;>simp at h⟩ λk x s _ _ _ hs=>by
  obtain⟨s1,s2⟩:=s;have K:=tw (P:=λ_ (s:List Int×Int)=>aL ⟨s.2,s.1⟩/\s.2=((ct g r.Left).length:Int)/\∀ a b:Nat,Rl s.1 a b->bG c (a:Int) (b:Int)) (f:=oo c k x) (xs:=ct g r.Left) (i:=0) (s:=(s1,s2)) hs λk2 x2 s _ _ _ hs=>by
   obtain⟨t1,t2⟩:=s;have hl:=P0 _ hs;dsimp only at hs hl;unfold oo;dsimp only;rw[pH,wu (r:=⟨t2,t1⟩) hl];simp only[aj];by_cases p1:bG c (k:Int) (k2:Int);have hA:aL (cC ⟨t2,t1⟩ (k:Int) (k2:Int))/\(cC ⟨t2,t1⟩ (k:Int) (k2:Int)).N=((ct g r.Left).length:Int)/\∀ a b:Nat,Rl (cC ⟨t2,t1⟩ (k:Int) (k2:Int)).Rows a b->bG c (a:Int) (b:Int):=by
    refine⟨ue hs.1 _ _,(qV _ _ _).2.trans hs.2.1,λa b h=>?_⟩;rcases (AM hs.1 _ _ a b).1 h with h|⟨_,_,U,K⟩
    exact hs.2.2 a b h;rw[U,K];exact p1
   by_cases m1:x.Mode=1;by_cases m2:x2.Mode=2;simp only[m1,m2,p1,if_true,decide_true,aj];exact⟨_,rfl,hA⟩;simp only[m1,m2,if_true,if_false,decide_false,aj,Eaz];exact⟨_,rfl,hs⟩;simp only[m1,if_false,aj,Eaz];exact⟨_,rfl,hs⟩;by_cases m1:x.Mode=1;by_cases m2:x2.Mode=2;simp only[m1,m2,p1,if_true,if_false,decide_true,decide_false,aj,Eaz];exact⟨_,rfl,hs⟩;simp only[m1,m2,if_true,if_false,decide_false,aj,Eaz];exact⟨_,rfl,hs⟩;simp only[m1,if_false,aj,Eaz];exact⟨_,rfl,hs⟩
  obtain⟨s',e,h3⟩:=K;exact⟨s',by unfold pZ;dsimp only;rw[e];rfl,h3⟩
 obtain⟨⟨s1,s2⟩,e,U,K,h3⟩:=key;refine⟨⟨s2,s1⟩,?_,U,K,h3⟩;unfold kf;rw[Fz hg,aj,ED (by omega) (by omega),aj];dsimp only;rw[e];rfl
end Go.Proofs.YtodhafdaelcnlaaGreat
set_option maxRecDepth 100000
set_option maxHeartbeats 4000000
namespace Go.Proofs.YtodhafdaelcnlaaGreat
open Go Go.E
theorem EU:∀ (n:Nat) (l:List Nat),l.Nodup->(∀ x∈l,x<n)->l.length<=n
 | 0,[],_,_=>Acz _
 | 0,x::l,_,h=>absurd (h x Ckz) (Nat.not_lt_zero _)
 | n+1,l,hd,h=>by
  by_cases hn:n∈l;have U:=EU n (l.erase n) (hd.erase n) λx hx=>by
   have K:=(List.Nodup.mem_erase_iff hd).1 hx;have:=h x K.2;have:=K.1;omega
  rw[List.length_erase_of_mem hn] at U;omega;have:=EU n l hd λx hx=>by
   have K:=h x hx;have:x≠n:=λe=>hn (e▸hx);omega
  omega
def oF:List Bool->Nat
 | []=>0
 | b::bs=>(if b=true then 1 else 0)+2*oF bs
theorem I9:∀ l:List Bool,oF l<2 ^ l.length
 | []=>by decide
 | b::bs=>by
  have:=I9 bs;rw[oF,bC,Nat.pow_succ];split<;>omega
theorem ET:∀ {l m:List Bool},l.length=m.length->oF l=oF m->l=m
 | [],[],_,_=>rfl
 | [],_::_,h,_=>by simp at h
 | _::_,[],h,_=>by simp at h
 | b::bs,c::cs,h,e=>by
  rw[oF,oF] at e;have h' : bs.length=cs.length:=by simpa using h
  cases b<;>cases c<;>simp at e;rw[ET h' (by omega)];omega;omega;rw[ET h' (by omega)]
theorem I8 {α:Type}{p q:α->Bool}(h:∀ x,p x=true->q x=true->False):∀ l:List α,(l.filter p).length+(l.filter q).length<=l.length
 | []=>Acz _
 | x::l=>by
  have:=I8 h l;rw[List.filter_cons,List.filter_cons,bC];cases hp:p x<;>cases hq:q x;simp;omega;simp;omega;simp;omega;exact absurd hq (λhq=>h x hp hq)
theorem TK {a b:au}(ha:aL a)(Y:aL b)(hN:a.N=b.N)(h:∀ i j:Nat,Rl a.Rows i j↔Rl b.Rows i j):a=b:=by
 obtain⟨n,xs⟩:=a;obtain⟨m,ys⟩:=b;have U:=ha.2.2.1;have K:=Y.2.2.1;dsimp only at U K hN;have e:xs=ys:=by
  apply List.ext_getElem?;intro i;by_cases hi:i<xs.length;obtain⟨x,hx⟩:∃ x,xs[i]?=some x:=⟨_,Cmz hi⟩
  obtain⟨y,hy⟩:∃ y,ys[i]?=some y:=⟨_,Cmz (by omega)⟩
  have hx0:=(ha.2.2.2 x (Bvz hx)).1;have hy0:=(Y.2.2.2 y (Bvz hy)).1;have:x.toNat=y.toNat:=by
   apply Nat.eq_of_testBit_eq;intro j;have:=h i j;unfold Rl at this;dsimp only at this;rw[Cwz,Cwz,hx,hy,Cbz,Cbz] at this;exact Bool.eq_iff_iff.2 this
  rw[hx,hy];congr 1;omega;rw[Avz (by omega),Avz (by omega)]
 rw[e,hN]
def kr (L:List aI)(s:au):Prop:=aL s/\s.N=(L.length:Int)/\∀ a b:Nat,Rl s.Rows a b->∃ x y,L[a]?=some x/\x.Mode=1/\L[b]?=some y/\y.Mode=2
def lJ (L:List aI)(m:Int)(a:Nat):Bool:=decide ((L[a]?).map (·.Mode)=some m)
def mu (L:List aI):List (Nat×Nat):=((Amz L.length).filter (lJ L 1)).flatMap λa=>((Amz L.length).filter (lJ L 2)).map λb=>(a,b)
theorem F8 {α β:Type}{f:α->List β}{n:Nat}(h:∀ x,(f x).length=n):∀ l:List α,(l.flatMap f).length=l.length*n
 | []=>by simp
 | x::l=>by rw[Bkz,Axz,h,F8 h l,bC,Exz];omega
theorem VP {L:List aI}(h:L.length<=4):(mu L).length<=4:=by
 unfold mu;rw[F8 (n:=((Amz L.length).filter (lJ L 2)).length) λx=>by rw[bc]];have U:=I8 (p:=lJ L 1) (q:=lJ L 2) (λx U K=>by
  unfold lJ at U K;have U:=of_decide_eq_true U;have K:=of_decide_eq_true K;rw[U] at K;cases K) (Amz L.length)
 rw[List.length_range] at U;generalize ((Amz L.length).filter (lJ L 1)).length=x at U;generalize ((Amz L.length).filter (lJ L 2)).length=y at U;have:x=0∨x=1∨x=2∨x=3∨x=4:=by omega
 rcases this with e|e|e|e|e<;>subst e<;>omega
noncomputable def wb (L:List aI) (s:au):Nat:=oF ((mu L).map λp=>s.Rows.getD p.1 0 |>.toNat.testBit p.2)
theorem TJ {L:List aI}(h:L.length<=4)(s:au):wb L s<16:=by
 have U:=I9 ((mu L).map λp=>s.Rows.getD p.1 0 |>.toNat.testBit p.2);have K:=VP h;rw[bc] at U;have h3:2 ^ (mu L).length<=2 ^ 4:=Nat.pow_le_pow_right (by decide) K;unfold wb;omega
theorem Ul {L:List aI}{s t:au}(hs:kr L s)(ht:kr L t)(h:wb L s=wb L t):s=t:=by
 have e:=ET (by simp) h;have key:∀ {s t:au},kr L s->((mu L).map λp=>(s.Rows.getD p.1 0).toNat.testBit p.2)=((mu L).map λp=>(t.Rows.getD p.1 0).toNat.testBit p.2)->∀ i j:Nat,Rl s.Rows i j->Rl t.Rows i j:=by
  intro s t hs e i j h;obtain⟨x,y,U,K,h3,h4⟩:=hs.2.2 i j h;have hm:(i,j)∈mu L:=by
   unfold mu;refine List.mem_flatMap.2 ⟨i,List.mem_filter.2 ⟨List.mem_range.2 (List.getElem?_eq_some_iff.1 U).1,by unfold lJ;rw[U];simp[K]⟩,?_⟩;exact List.mem_map.2 ⟨j,List.mem_filter.2 ⟨List.mem_range.2 (List.getElem?_eq_some_iff.1 h3).1,by unfold lJ;rw[h3];simp[h4]⟩,rfl⟩
  have:=(List.map_inj_left.1 e) (i,j) hm;unfold Rl at h ⊢;dsimp only at this;rw[← this];exact h
 exact TK hs.1 ht.1 (hs.2.1.trans ht.2.1.symm) λi j=>⟨key hs e i j,key ht e.symm i j⟩
theorem xM {L:List aI}(h:L.length<=4){l:List au}(hn:l.Nodup)(hl:∀ s∈l,kr L s):l.length<=16:=by
 have:=EU 16 (l.map (wb L)) (by
  rw[List.Nodup,List.pairwise_map];refine List.Pairwise.imp_of_mem ?_ hn;intro a b ha Y hne hc;exact hne (Ul (hl a ha) (hl b Y) hc)) λx hx=>by
  obtain⟨s,_,rfl⟩:=List.mem_map.1 hx;exact TJ h s
 rwa[bc] at this
theorem VO {g:al}(hg:dP g){r:ae}(hn:(ct g r.Left).length<=16)(c:au):∃ s,kf g r c=some s/\kr (ct g r.Left) s:=by
 have hv:=BJ (n:=((ct g r.Left).length:Int)) (by omega) (by omega);have P0:∀ s:List Int×Int,kr (ct g r.Left) ⟨s.2,s.1⟩->s.1.length<=1048576:=λs h=>by have:=h.1.2.2.1;have:=h.1.2.1;dsimp only at *;omega
 obtain⟨s',e,h3⟩:=iw (P:=λ_ (s:List Int×Int)=>kr (ct g r.Left) ⟨s.2,s.1⟩) (f:=pZ c (ct g r.Left)) (xs:=ct g r.Left) (i:=0) (s:=(Bqz ((ct g r.Left).length:Int).toNat 0,((ct g r.Left).length:Int))) ⟨hv,rfl,λa b h=>by
   exfalso;unfold Rl at h;rw[Cwz,Ewz] at h;split at h<;>simp at h⟩ λk x s hx hs=>by
  rw[Adz];obtain⟨s1,s2⟩:=s;obtain⟨s',e,h3⟩:=iw (P:=λ_ (s:List Int×Int)=>kr (ct g r.Left) ⟨s.2,s.1⟩) (f:=oo c k x) (xs:=ct g r.Left) (i:=0) (s:=(s1,s2)) hs λk2 x2 s hx2 hs=>by
   rw[Adz];obtain⟨t1,t2⟩:=s;have hl:=P0 _ hs;dsimp only at hs hl;unfold oo;dsimp only;rw[pH,wu (r:=⟨t2,t1⟩) hl];simp only[aj];by_cases p1:bG c (k:Int) (k2:Int);by_cases m1:x.Mode=1;by_cases m2:x2.Mode=2;simp only[m1,m2,p1,if_true,decide_true,aj];refine⟨_,rfl,ue hs.1 _ _,(qV _ _ _).2.trans hs.2.1,λa b h=>?_⟩;rcases (AM hs.1 _ _ a b).1 h with h|⟨_,_,U,K⟩
   exact hs.2.2 a b h;have e1:a=k:=by omega
   have e2:b=k2:=by omega
   subst e1;subst e2;exact⟨x,x2,hx,m1,hx2,m2⟩;simp only[m1,m2,if_true,if_false,decide_false,aj,Eaz];exact⟨_,rfl,hs⟩;simp only[m1,if_false,aj,Eaz];exact⟨_,rfl,hs⟩;by_cases m1:x.Mode=1;by_cases m2:x2.Mode=2;simp only[m1,m2,p1,if_true,if_false,decide_true,decide_false,aj,Eaz];exact⟨_,rfl,hs⟩;simp only[m1,m2,if_true,if_false,decide_false,aj,Eaz];exact⟨_,rfl,hs⟩;simp only[m1,if_false,aj,Eaz];exact⟨_,rfl,hs⟩
  exact⟨s',by unfold pZ;dsimp only;rw[e];rfl,h3⟩
 obtain⟨s1,s2⟩:=s';refine⟨⟨s2,s1⟩,?_,h3⟩;unfold kf;rw[Fz hg,aj,ED (by omega) (by omega),aj];dsimp only;rw[e];rfl
def cj:List Nat->Nat
 | []=>1
 | c::cs=>c*cj cs
def bh:List Nat->Nat->List Nat
 | [],_=>[]
 | _::cs,n=>(n / cj cs)::bh cs (n % cj cs)
def jT:List Nat->List Nat->Option (List Nat)
 | c::cs,d::ds=>match jT cs ds with
  | some ds'=>some (d::ds')
  | none=>if d+1<c then some ((d+1)::Bqz cs.length 0) else none
 | _,_=>none
theorem o8:∀ (cs:List Nat) (n:Nat),(bh cs n).length=cs.length
 | [],_=>rfl
 | _::cs,n=>by rw[bh,bC,o8 cs,bC]
theorem qU:∀ cs:List Nat,bh cs 0=Bqz cs.length 0
 | []=>rfl
 | c::cs=>by rw[bh,Nat.zero_div,Nat.zero_mod,qU cs,bC,List.replicate_succ]
theorem tn:∀ (cs:List Nat) (n:Nat),n<cj cs->jT cs (bh cs n)=if n+1<cj cs then some (bh cs (n+1)) else none
 | [],n,h=>by
  rw[cj] at h;rw[an (by rw[cj];omega)];rfl
 | c::cs,n,h=>by
  rw[cj] at h ⊢;have hP:0<cj cs:=Eyz λe=>by rw[e] at h;omega
  have Z:=Ezz n hP;have hq:n / cj cs<c:=(Faz hP).2 h;have hn:=Nat.div_add_mod n (cj cs);rw[bh,jT,tn cs _ Z];generalize hQ:n / cj cs=q at hq hn ⊢;generalize hR:n % cj cs=r at Z hn ⊢;generalize hPe:cj cs=P at h hP Z hn ⊢;by_cases U:r+1<P;rw[ao U];have hc:n+1<c*P:=by
   have:(q+1)*P<=c*P:=Cpz _ hq;rw[Exz,Fbz] at this;omega
  have e1:(n+1) / P=q:=by
   rw[← hn];rw[show P*q+r+1=(r+1)+P*q by omega,Fcz _ _ hP,Nat.div_eq_of_lt U,Adz]
  have e2:(n+1) % P=r+1:=by
   rw[← hn,show P*q+r+1=(r+1)+P*q by omega,Fdz,Fez U]
  rw[ao hc,bh,hPe,e1,e2];rw[an U];have hr1:r+1=P:=by omega
  have hn1:n+1=P*(q+1):=by rw[Nat.mul_succ];omega
  have e1:(n+1) / P=q+1:=by rw[hn1,Nat.mul_div_cancel_left _ hP]
  have e2:(n+1) % P=0:=by rw[hn1,Nat.mul_mod_right]
  dsimp only;by_cases K:q+1<c;have hc:n+1<c*P:=by
   rw[hn1,Fbz c P];exact (Nat.mul_lt_mul_left hP).2 K
  rw[ao K,ao hc,bh,hPe,e1,e2,qU];have hc:¬ n+1<c*P:=by
   have:c=q+1:=by omega
   rw[hn1,this,Fbz P];omega
  rw[an K,an hc]
theorem Fy:∀ (cs:List Nat) (n:Nat),cj (cs++[n])=cj cs*n
 | [],n=>by simp[cj]
 | c::cs,n=>by rw[List.cons_append,cj,cj,Fy cs,Nat.mul_assoc]
theorem KI (n:Nat):∀ (cs:List Nat) (m:Nat),m<cj cs*n->bh (cs++[n]) m=bh cs (m / n)++[m % n]
 | [],m,h=>by
  rw[cj,Nat.one_mul] at h;show [m / 1]=[m % n];rw[Nat.div_one,Fez h]
 | c::cs,m,h=>by
  rw[cj] at h;have hP:0<cj cs*n:=Eyz λe=>by rw[Nat.mul_assoc,e] at h;omega
  rw[List.cons_append,bh,bh,Fy,KI n cs _ (Ezz _ hP),Nat.mod_mul_left_div_self,Nat.mod_mul_left_mod,Nat.div_div_eq_div_mul,Fbz n];rfl
def bY (cs:List Nat):List (List Nat):=(Amz (cj cs)).map (bh cs)
theorem LO (n:Nat):∀ p:Nat,Amz (p*n)=(Amz p).flatMap λi=>(Amz n).map λj=>i*n+j
 | 0=>by simp
 | p+1=>by
  rw[Exz,List.range_add,LO n p,List.range_succ,List.flatMap_append];simp
theorem NP {α β:Type}{f g:α->List β}:∀ {l:List α},(∀ x∈l,f x=g x)->l.flatMap f=l.flatMap g
 | [],_=>rfl
 | x::l,h=>by rw[Bkz,Bkz,h x Ckz,NP λy hy=>h y (Buz _ hy)]
theorem TH (cs:List Nat)(n:Nat):bY (cs++[n])=(bY cs).flatMap λc=>(Amz n).map λj=>c++[j]:=by
 unfold bY;rw[Fy,LO,List.map_flatMap,List.flatMap_map];refine NP λi hi=>?_;rw[List.map_map];refine List.map_congr_left λj hj=>?_;have U:=List.mem_range.1 hi;have K:=List.mem_range.1 hj;have hlt:i*n+j<cj cs*n:=by
  have:(i+1)*n<=cj cs*n:=Cpz _ U;rw[Exz] at this;omega
 show bh (cs++[n]) (i*n+j)=bh cs i++[j];have hn:0<n:=by omega
 rw[KI n cs _ hlt];rw[show i*n+j=j+n*i by rw[Fbz,Nat.add_comm],Fcz _ _ hn,Nat.div_eq_of_lt K,Adz,Fdz,Fez K]
theorem tm:∀ {cs:List Nat},(∀ c∈cs,0<c)->0<cj cs
 | [],_=>Nat.one_pos
 | c::cs,h=>Nat.mul_pos (h c Ckz) (tm λx hx=>h x (Buz _ hx))
theorem LN:∀ {cs:List Nat},0∈cs->cj cs=0
 | c::cs,h=>by
  rw[cj];rcases List.mem_cons.1 h with e|e;rw[← e,Nat.zero_mul];rw[LN e,Nat.mul_zero]
theorem I7 {b:Nat}:∀ {cs:List Nat},(∀ c∈cs,c<=b)->cj cs<=b ^ cs.length
 | [],_=>Acz _
 | c::cs,h=>by
  rw[cj,bC,Nat.pow_succ,Fbz];exact Nat.mul_le_mul (I7 λx hx=>h x (Buz _ hx)) (h c Ckz)
theorem sB:∀ {cs:List Nat} {n:Nat},n<cj cs->∀ (i d c:Nat),(bh cs n)[i]?=some d->cs[i]?=some c->d<c
 | [],n,h,i,d,c,U,K=>by rw[List.getElem?_nil] at K;cases K
 | x::cs,n,h,0,d,c,U,K=>by
  cases U;cases K;rw[cj] at h;have hP:0<cj cs:=Eyz λe=>by rw[e] at h;omega
  exact (Faz hP).2 h
 | x::cs,n,h,i+1,d,c,U,K=>by
  rw[cj] at h;have hP:0<cj cs:=Eyz λe=>by rw[e] at h;omega
  exact sB (Ezz _ hP) i d c U K
end Go.Proofs.YtodhafdaelcnlaaGreat
