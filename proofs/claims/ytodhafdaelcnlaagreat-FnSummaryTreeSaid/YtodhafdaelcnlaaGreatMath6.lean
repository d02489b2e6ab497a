/- What those partial functions come to: plain lemmas on data; each bears its conditions in its statement. -/
import Derived.Test.YtodhafdaelcnlaaGreatMath5
set_option linter.unusedVariables false
set_option linter.unusedSimpArgs false
set_option linter.ambiguousOpen false
set_option linter.unusedSectionVars false
set_option linter.unnecessarySimpa false
open List renaming flatMap_cons->Bkz,length_append->Axz,length_filter_le->Eqz,range'->Dbz,mem_of_mem_take->Erz,mem_cons->Dsz,not_mem_nil->Daz,length_take->Brz,mem_append->Ciz,mem_of_getElem?->Bvz,getElem?_eq_getElem->Cmz,set->Dnz,length_set->Clz,getElem?_set->Cjz,getElem?_of_mem->Ekz,mem_of_find?_eq_some->Ebz,mem_range'_1->Esz,getD_eq_getElem?_getD->Cwz,mem_or_eq_of_mem_set->Etz,replicate->Bqz,fst_mem_of_mem_zipIdx->Euz,getElem?_replicate->Evz,getElem?_eq_none->Avz,range->Amz
open Nat renaming le_trans->Bgz,zero_add->Adz
open Option renaming getD_some->Cbz
open Bool renaming false_eq_true->Dzz
namespace Go.Proofs.YtodhafdaelcnlaaGreat
open Go Go.E
theorem KH {α β:Type}{f:α->List β}{C:Nat}(h:∀ x,(f x).length<=C):∀ l:List α,(l.flatMap f).length<=l.length*C
 | []=>by simp
 | x::l=>by
  have U:=KH h l;have K:=h x;simp only[Bkz,Axz,bE,Nat.add_mul];omega
theorem JW {g:al}(hs:kh g.ss_)(r:ae)(k:Nat):(eR g r k).length<=5/\∀ o∈eR g r k,o.Name.size<=8:=by
 obtain⟨f1,f2⟩:=EX hs (cn r (k:Int));unfold eR;refine⟨by rw[bh];exact Bgz (Eqz _ _) f1,λo ho=>?_⟩;obtain⟨a,ha,rfl⟩:=List.mem_map.1 ho;exact f2 a (List.mem_filter.1 ha).1
theorem Tp {g:al}(hs:kh g.ss_){r:ae}(Z:r.rt_.length<=5):(cB g r).length<=30/\∀ o∈cB g r,o.Name.size<=8:=by
 unfold cB;refine⟨?_,λo ho=>?_⟩;have:=KH (C:=5) (λk=>(JW hs r k).1) (Dbz 0 (r.rt_.length+1));rw[List.length_range'] at this;omega;obtain⟨k,_,hk⟩:=List.mem_flatMap.1 ho;exact (JW hs r k).2 o hk
theorem tc {α:Type}[Sz α](l:List α)(x:α):bW (l++[x])=bW l+(1+Sz.szd x):=by rw[BJ];rfl
theorem wF (o:Oc)(e:Expr):Sz.szd (⟨o,e⟩:ba)=o.Name.size+Sz.szd e:=by rw[yw,fQ];dsimp only;omega
theorem I1 (s m:ar)(e f:Expr):Sz.szd (⟨s,m,e,f⟩:Cn)=s.size+m.size+Sz.szd e+Sz.szd f:=by rw[CI,fQ,fQ];dsimp only;omega
section
variable {b:List UInt8}(Y:b.length<=1048576)
include Y
theorem To {g:al}(hs:kh g.ss_){r:ae}(Z:RB r)(he:r.es_=[])(rem:Bool){i h:Int}(hi:0<=i):Dr b (λq=>RB q/\(bW q.es_<=12000/\q.es_.length<=30)/\q.cs_=r.cs_) (uq g r rem ⟨b,i,h⟩):=by
 have h5:=Z.2.2.1;obtain⟨q1,q2⟩:=Tp hs h5;unfold uq;refine .eq (EB hs.g Z.rok) ?_;refine D1 (λj (l:List ba)=>l.length=j/\bW l<=j*400) hi (by rw[he];exact⟨rfl,by simp[bW]⟩) (λj x l i h hx hj hi hl=>?_) λl i h hi hl=>?_;obtain⟨hl1,hl2⟩:=hl;have hx:=q2 x hx;have fin:∀ (e:Expr) (i' h' : Int),Sz.szd e<=320->0<=i'->Ok (λs:Int×Int×List ba=>0<=s.1/\(s.2.2.length=j+1/\bW s.2.2<=(j+1)*400)) (some (i',h',l++[(⟨x,e⟩:ba)])):=λe i' h' U hi'=>.ret ⟨hi',by simp[hl1],by dsimp only;rw[tc,wF];omega⟩;unfold NX;dsimp only;refine .bbi (.eq (mO (show r.rt_.length<=1048576 by omega) _) ?_);refine .bbi (.eq (l7 hs.g _) ?_);have hff:=EX hs (cn r x.Pos);generalize bM g (cn r x.Pos)=fs at hff;obtain⟨y,yb⟩:=fs;obtain⟨f1,f2⟩:=hff;dsimp only at f1 f2 ⊢;refine .bbi (.eq (U3 f2 _) ?_);generalize eY y x.Name=fa;obtain⟨a,ab⟩:=fa;dsimp only;refine .bbi (bU (dt Y 3 (cb hi)) λd i1 U hd hi1=>?_);have hd3:=hd.2.1 (by omega);refine .bgr (by constructor<;>omega) ?_;refine .bbi (bU (Tq Y hs (r:=⟨r.Name,r.Left,r.rt_,r.ll_,l,r.cs_⟩) h5 rem _ _ _ _ (by omega) (by omega) hi1) λe i2 K he2 hi2=>?_);dsimp only at he2 ⊢;refine .bbi (.eq (xt (by have:=Ed Y he2;omega)) ?_);refine .bif (λ_=>?_) λ_=>?_;refine .bgr (by constructor<;>omega) ?_;exact fin _ _ _ he2 hi2;refine .bbi (bU (sT Y _ (by simp) (cb hi2)) λe3 i3 h3 he3 hi3=>?_);refine .bgr (by constructor<;>omega) ?_;exact fin _ _ _ (by show Sz.szd e3<=320;have:Sz.szd e3<=8:=he3;omega) hi3;exact⟨_,rfl,⟨Z,⟨by have:=hl.2;dsimp only;omega,by have:=hl.1;dsimp only;omega⟩,rfl⟩,hi,rfl⟩
theorem PT {g:al}(hs:kh g.ss_){r:ae}(Z:RB r)(hc:r.cs_=[]){i h:Int}(hi:0<=i):Dr b (λq=>RB q/\q.es_=r.es_/\bW q.cs_<=200) (tL g r ⟨b,i,h⟩):=by
 have h5:=Z.2.2.1;unfold tL;refine D1 (λ_ (l:List Cn)=>l.length<=2/\bW l<=l.length*40) hi (by rw[hc];simp[bW]) (λj x l i h hx hj hi hl=>?_) λl i h hi hl=>?_;obtain⟨s1,_,_,s2⟩:=hs.2.2 x hx;unfold MZ;dsimp only;refine D1 (λ_ (l:List Cn)=>l.length<=2/\bW l<=l.length*40) hi hl (λj2 a l i h ha hj hi hl=>?_) λl i h hi hl=>.ret ⟨hi,hl⟩;have ha:=s2 a ha;unfold M0;dsimp only;refine .bbi ?_;refine .bif (λ_=>.bso ?_) λ_=>.bso ?_;refine .bbi ?_;refine .bif (λK=>?_) λ_=>.bso ?_;have hl2:l.length<2:=by have:=of_decide_eq_true K;omega
 refine .bbi (bU (ir Y _ (cb hi)) λy i1 U _ hi1=>?_);refine .bso ?_;dsimp only;refine .bif (λ_=>?_) λ_=>.bso ?_;refine .bbi (.bind (Au hs (r:=⟨r.Name,r.Left,r.rt_,r.ll_,r.es_,l⟩) h5 _) λq hq=>?_);refine .bbi (bU (sT Y _ hq (cb hi1)) λe i2 K he hi2=>?_);refine .bbi (.bind (Au hs (r:=⟨r.Name,r.Left,r.rt_,r.ll_,r.es_,l⟩) h5 _) λq3 hq3=>?_);refine .bbi (bU (sT Y _ hq3 (cb hi2)) λe3 i3 h3 he3 hi3=>?_);refine .bgr (by constructor<;>omega) ?_;refine .bso (.ret ⟨hi3,by dsimp only;simp;omega,?_⟩);dsimp only at he he3 ⊢;rw[tc,I1,Axz,List.length_singleton];have:=hl.2;omega;exact .ret ⟨hi1,hl⟩;dsimp only;refine .bif (λh=>by cases h) λ_=>.bso (.ret ⟨hi,hl⟩);refine .bbi ?_;refine .bif (λh=>by cases h) λ_=>.bso ?_;dsimp only;refine .bif (λh=>by cases h) λ_=>.bso (.ret ⟨hi,hl⟩);refine⟨_,rfl,⟨Z,rfl,?_⟩,hi,rfl⟩;have:=hl.1;have:=hl.2;dsimp only;have h80:l.length*40<=80:=by omega
 omega
end
theorem PS {k:Nat}(hk:k<2):Ok (λx=>x.size<=1) (sb (k:Int)):=by
 have:k=0∨k=1:=by omega
 rcases this with rfl|rfl;exact⟨⟨#[48]⟩,by unfold sb;rfl,by decide⟩;refine⟨⟨#[49]⟩,?_,by decide⟩;unfold sb;rw[an (by decide)];have U:yV (((1:Nat):Int),(⟨#[]⟩:ar))=some (.inl (0,⟨#[49]⟩)):=by
  unfold yV;dsimp only;rw[an (by decide),an (by decide),aF (by constructor<;>decide),aF (by decide),aF (by constructor<;>decide)];rfl
 have K:yV (0,(⟨#[49]⟩:ar))=some (.inr ⟨#[49]⟩):=rfl;rw[eS U,c9 K];rfl
def R0 (r:ae):Prop:=RB r/\r.es_=[]/\r.cs_=[]
def R1 (r:ae):Prop:=RB r/\(bW r.es_<=12000/\r.es_.length<=30)/\bW r.cs_<=200
theorem R0.r1 {r:ae}(h:R0 r):R1 r:=⟨h.1,⟨by rw[h.2.1];simp[bW],by rw[h.2.1];simp⟩,by rw[h.2.2];simp[bW]⟩
def GB (g:al):Prop:=kh g.ss_/\1<=g.rs_.length/\g.rs_.length<=8/\∀ r∈g.rs_,R1 r
theorem C1 {x:ar}{n:Nat}(h:x∈[(⟨#[115]⟩:ar),(⟨#[116]⟩:ar),(⟨#[117]⟩:ar)].take n):x.size=1:=by
 have h:=Erz h;simp only[Dsz,Daz,or_false] at h;rcases h with h|h|h<;>rw[h]<;>rfl
theorem Bs (x y:ar):(x++y).size=x.size+y.size:=ByteArray.size_append
section
variable {b:List UInt8}(Y:b.length<=1048576)
include Y
theorem LR (pl:Bool){i h:Int}(hi:0<=i):Dr b GB (rP pl ⟨b,i,h⟩):=by
 unfold rP;refine bU (dt Y 3 (cb hi)) λy i1 U hy hi1=>?_;have h3:=hy.2.1 (by omega);have h0:=hy.1;dsimp only;refine .grd (by constructor<;>omega) (.grd (by omega) (.grd (by simp;omega) ?_));have hlen:([(⟨#[115]⟩:ar),(⟨#[116]⟩:ar),(⟨#[117]⟩:ar)].take ((1+y).toNat)).length=(1+y).toNat:=by rw[Brz];simp;omega
 refine qL (λk (l:List ah)=>l.length=k/\∀ s∈l,SB s) hi1 ⟨rfl,by simp⟩ (λj l i h hj hi hl=>?_) λsyms i2 K hi2 hsyms=>?_;unfold NW;dsimp only;refine .get (by rw[hlen];exact hj) λx hx=>?_;have hx:=C1 hx;refine bU (I2 Y (by omega) _ _ hi) λs i1 U hs hi1=>?_;refine .grd (by have:=hl.1;constructor<;>omega) (.ret ⟨hi1,by simp[hl.1],λa ha=>?_⟩);simp only[Ciz,Dsz,Daz,or_false] at ha;rcases ha with ha|ha;exact hl.2 a ha;rw[ha];exact hs;have hS:kh syms:=⟨by rw[hsyms.1];omega,by rw[hsyms.1];omega,hsyms.2⟩
 dsimp only;refine qL (λk (l:List ae)=>k<=l.length/\l.length<=3*k/\∀ r∈l,R0 r) hi2 ⟨by simp,by simp,by simp⟩ (λj l i h hj hi hl=>?_) λrules i3 h3 hi3 Z=>?_;unfold NS;dsimp only;refine .get (by rw[hlen];exact hj) λx hx=>?_;have hx:=C1 hx;refine .grd (by rw[hx];decide) ?_;refine bU (ir Y _ (cb hi)) λy3 i1 U _ hi1=>?_;have hl1:=hl.1;have hl2:=hl.2.1;refine .grd (by constructor<;>omega) ?_;refine bU (dt Y 2 (cb hi1)) λy4 i4 h4 hy4 hi4=>?_;have h42:=hy4.2.1 (by omega);have h40:=hy4.1;refine .grd (by constructor<;>omega) ?_;dsimp only;refine qL (λk (q:List ae)=>q.length=l.length+1+k/\∀ r∈q,R0 r) hi4 ⟨by simp,λa ha=>?_⟩ (λj2 q i h hj2 hi hq=>?_) λq i6 h6 hi6 hq=>?_;simp only[Ciz,Dsz,Daz,or_false] at ha;rcases ha with ha|ha;exact hl.2.2 a ha;rw[ha];exact⟨⟨by dsimp only;rw[Bs,hx];decide,by dsimp only;omega,by simp,by simp⟩,rfl,rfl⟩;unfold NT;dsimp only;refine .grd (by rw[hx];decide) ?_;refine .bind (PS (by omega)) λnm hnm=>?_;refine .grd (by rw[Bs,hx];have:(⟨#[112]⟩:ar).size=1:=rfl;omega) ?_;refine bU (ir Y _ (cb hi)) λy6 i1 U _ hi1=>?_;refine bU (dt Y 3 (cb hi1)) λy7 i7 h7 hy7 hi7=>?_;have h72:=hy7.2.1 (by omega);have h70:=hy7.1;refine .grd (by constructor<;>omega) ?_;dsimp only;refine qL (λk (q:List ar)=>q.length=k/\∀ x∈q,x.size<=8) hi7 ⟨rfl,by simp⟩ (λj4 q4 i h hj4 hi hq4=>?_) λq4 i8 h8 hi8 hq4=>?_;unfold NU;dsimp only;refine bU (kO Y (by intro h;have:=congrArg List.length h;rw[hlen] at this;simp at this;omega) (cb hi)) λz i1 U hz hi1=>?_;have hz:=C1 hz;refine .grd (by have:=hq4.1;constructor<;>omega) (.ret ⟨hi1,by simp[hq4.1],λa ha=>?_⟩);simp only[Ciz,Dsz,Daz,or_false] at ha;rcases ha with ha|ha;exact hq4.2 a ha;rw[ha];omega;have hq41:=hq4.1;have hq1:=hq.1;refine .grd (by constructor<;>omega) (.ret ⟨hi8,by simp;omega,λa ha=>?_⟩);simp only[Ciz,Dsz,Daz,or_false] at ha;rcases ha with ha|ha;exact hq.2 a ha;rw[ha];exact⟨⟨by dsimp only;rw[Bs,Bs,hx];have:(⟨#[112]⟩:ar).size=1:=rfl;omega,by dsimp only;omega,by dsimp only;omega,hq4.2⟩,rfl,rfl⟩;exact .ret ⟨hi6,by dsimp only;have:=hq.1;omega,by dsimp only;have:=hq.1;omega,hq.2⟩;dsimp only;have hr1:=Z.1;have hr2:=Z.2.1;have key:∀ rs:List ae,1<=rs.length->rs.length<=8->(∀ r∈rs,R0 r)->Ok (λr=>GB r.1/\CB b r.2) ((bK (B3 pl ⟨b,i,h⟩ syms) (0,i3,h3,rs)).bind λ(s14,s15,s16)=>some ((⟨syms,s16⟩:al),(⟨b,s14,s15⟩:aL))):=by
  intro rs g1 g2 g3;refine Ok.bind (Q:=λs:Int×Int×List ae=>0<=s.1/\s.2.2.length=rs.length/\∀ r∈s.2.2,R1 r) (EY (P:=λs:Int×Int×Int×List ae=>0<=s.1/\s.1<=rs.length/\0<=s.2.1/\s.2.2.2.length=rs.length/\∀ (k:Nat) x,s.2.2.2[k]?=some x->R1 x/\(s.1<=(k:Int)->R0 x)) (λs=>(rs.length-s.1).toNat) ?_ _ ⟨Int.le_refl _,by dsimp only;omega,hi3,rfl,λk x hx=>⟨(g3 x (Bvz hx)).r1,λ_=>g3 x (Bvz hx)⟩⟩) ?_;rintro⟨p,i5,h5,q⟩ ⟨W,a2,a3,a4,a5⟩;dsimp only at W a2 a3 a4 a5;unfold B3;dsimp only;refine .ite (λhp=>?_) λ_=>.ret ⟨a3,a4,λr Z=>?_⟩;obtain⟨x,hx⟩:∃ x,q[p.toNat]?=some x:=⟨_,Cmz (by omega)⟩
  have hx0:=(a5 _ _ hx).2 (by omega);rw[hx];have fin:∀ (y:ae) (i' h' : Int),R1 y->0<=i'->(0<=p+1/\p+1<=rs.length/\0<=i'/\(Dnz q p.toNat y).length=rs.length/\∀ (k:Nat) x,(Dnz q p.toNat y)[k]?=some x->R1 x/\(p+1<=(k:Int)->R0 x))/\(rs.length-(p+1)).toNat<(rs.length-p).toNat:=λy i' h' hy hi'=>by
   refine⟨⟨by omega,by omega,hi',by rw[Clz];exact a4,λk x hk=>?_⟩,by omega⟩;rw[Cjz] at hk;by_cases e:p.toNat=k;rw[ao e] at hk;split at hk;cases hk;exact⟨hy,λh=>by omega⟩;cases hk;rw[an e] at hk;exact⟨(a5 _ _ hk).1,λh=>(a5 _ _ hk).2 (by omega)⟩
  refine .bgr W (.bbi (.bso ?_));refine .bbi (bU (To Y (g:=⟨syms,q⟩) hS hx0.1 hx0.2.1 _ a3) λy i6 h6 hy hi6=>?_);obtain⟨b1,b2,b3⟩:=hy;rw[hx0.2.2] at b3;dsimp only;refine .bif (λ_=>.bso ?_) λ_=>?_;exact .grd (by constructor<;>omega) (.ret (fin _ _ h6 ⟨b1,b2,by rw[b3];simp[bW]⟩ hi6));refine .bbi (bU (PT Y (g:=⟨syms,q⟩) hS b1 b3 hi6) λy2 i7 h7 hy2 hi7=>?_);refine .bso ?_;exact .grd (by constructor<;>omega) (.ret (fin _ _ h7 ⟨hy2.1,by rw[hy2.2.1];exact b2,hy2.2.2⟩ hi7));obtain⟨k,hk⟩:=Ekz Z;exact (a5 _ _ hk).1;rintro⟨s1,s2,s3⟩ ⟨c1,c2,c3⟩;exact⟨_,rfl,⟨hS,by dsimp only at c2 ⊢;omega,by dsimp only at c2 ⊢;omega,c3⟩,c1,rfl⟩
 refine .bif (λh8=>.bgr (by omega) (.bso ?_)) λh8=>.bso ?_;exact key _ (by rw[Brz];omega) (by rw[Brz];omega) λr hr'=>Z.2.2 r (Erz hr');exact key _ (by omega) (by omega) Z.2.2
end
theorem EW {α β:Type}{p:α->Bool}{g:α->β}{B:Nat}{f:Nat->α->List β->Option (List β)}:∀ (xs:List α) (i:Nat) (s:List β),(∀ k x s,x∈xs->s.length<B->f k x s=some (if p x=true then s++[g x] else s))->s.length+xs.length<=B ->
  eachL f i xs s=some (s++(xs.filter p).map g)
 | [],i,s,_,_=>by simp[eachL]
 | x::xs,i,s,hf,h=>by
  simp only[bE] at h;by_cases hp:p x=true;have ih:=EW xs (i+1) (s++[g x]) (λk y s hy=>hf k y s (by simp[hy])) (by simp;omega);simp[eachL,hf i x s (by simp) (by omega),hp,ih];have ih:=EW xs (i+1) s (λk y s hy=>hf k y s (by simp[hy])) (by omega);simp[eachL,hf i x s (by simp) (by omega),hp,ih]
theorem oh {α β:Type}{g:α->β}{B:Nat}{f:Nat->α->List β->Option (List β)}(xs:List α)(i:Nat)(s:List β)(hf:∀ k x s,x∈xs->s.length<B->f k x s=some (s++[g x]))(h:s.length+xs.length<=B) :
  eachL f i xs s=some (s++xs.map g):=by
 have:=EW (p:=λ_=>true) (g:=g) (B:=B) (f:=f) xs i s (λk x s hx hs=>by rw[hf k x s hx hs,ao rfl]) h;rw[this];congr 2;congr 1;simp
theorem KG {g:al}{n:ar}(h:(bM g n).2=true):∃ j y,fS g n=some j/\g.ss_[j]?=some y/\bM g n=(y,true)/\y.Name=n:=by
 unfold bM at h ⊢;cases hf:g.ss_.find? λy=>decide (y.Name=n) with
 | none=>rw[hf] at h;cases h
 | some y=>
  have hn:y.Name=n:=by simpa using List.find?_some (p:=λy:ah=>decide (y.Name=n)) hf
  unfold fS;cases he:g.ss_.findIdx? λy=>decide (y.Name=n) with
  | none=>
   rw[List.findIdx?_eq_none_iff] at he;have:=he y (Ebz hf);simp[hn] at this
  | some j=>
   refine⟨j,y,rfl,?_,rfl,hn⟩;rw[List.findIdx?_eq_some_iff_getElem] at he;obtain⟨hj,U,K⟩:=he;rw[List.find?_eq_some_iff_getElem] at hf;obtain⟨_,i,hi,hy,h3⟩:=hf;have:i=j:=by
    rcases Nat.lt_trichotomy i j with hlt|heq|hgt;have:=K i hlt;rw[hy] at this;simp[hn] at this;exact heq;have:=h3 j hgt;simp at this;simp at U;exact absurd U this
   subst this;rw[Cmz hi,hy]
theorem Shape.known {g:al}(h:Shape g){r:ae}(Z:r∈g.rs_){k:Nat}(hk:k<=r.rt_.length):(bM g (cn r (k:Int))).2=true:=by
 have h3:=h.brk 3 (by omega) (by omega) r Z;unfold iG at h3;rw[ao rfl,Bool.not_eq_false'] at h3;unfold qS at h3;rw[List.all_eq_true] at h3;exact h3 k (by rw[Esz];omega)
theorem Shape.right {g:al}(h:Shape g){r:ae}(Z:r∈g.rs_){n:ar}(hn:n∈r.rt_):(bM g n).2=true:=by
 obtain⟨k,hk⟩:=Ekz hn;have hlt:=(List.getElem?_eq_some_iff.1 hk).1;have:=h.known Z (k:=k+1) (by omega);rwa[oA hk] at this
theorem Shape.left {g:al}(h:Shape g){r:ae}(Z:r∈g.rs_):(bM g r.Left).2=true:=by
 have:=h.known Z (k:=0) (by omega);unfold cn at this;rwa[ao (by rfl)] at this
theorem Shape.attrs {g:al}(h:Shape g){y:ah}(hy:y∈g.ss_):y.as_.length<=4:=by
 have:=h.symB hy;unfold Go.Proofs.YtodhafdaelcnlaaGreat.symB at this;simp only[Bool.and_eq_true,decide_eq_true_eq] at this;exact this.2.2.1
theorem Shape.plain {g:al}(h:Shape g)(n:ar):(bJ g n).length<=4:=by
 refine Bgz (Eqz _ _) ?_;unfold bM;cases hf:g.ss_.find? λy=>decide (y.Name=n) with
 | none=>simp[zS]
 | some y=>exact h.attrs (Ebz hf)
theorem py (g:al)(n:ar):oH g n=some (eh g n):=by
 unfold oH zU eh fS;rw[pG (q:=λy:ah=>decide (y.Name=n)) (c:=λk=>(k:Int)) λj x hx=>by
  unfold H4 zj;rw[aj,← apply_ite some]]
 cases g.ss_.findIdx? λy=>decide (y.Name=n) with
 | none=>rfl
 | some j=>dsimp only;rw[Adz];rfl
def Inv (g:al)(all:List au):Prop:=all.length=g.ss_.length/\∀ (k:Nat) (y:ah) (a:au),g.ss_[k]?=some y->all[k]?=some a->aI a/\a.N=((bJ g y.Name).length:Int)
def zR:au:=⟨0,[]⟩
def wu (g:al)(all:List au)(n:ar):au:=all.getD ((fS g n).getD 0) zR
theorem Inv.at_ {g:al}{all:List au}(h:Inv g all){n:ar}(hn:(bM g n).2=true):∃ j,fS g n=some j/\j<g.ss_.length/\all[j]?=some (wu g all n)/\aI (wu g all n)/\(wu g all n).N=((bJ g n).length:Int):=by
 obtain⟨j,y,U,K,h3,h4⟩:=KG hn;have hj:=(List.getElem?_eq_some_iff.1 K).1;have e:all[j]?=some (wu g all n):=by
  unfold wu;rw[U,Cbz,Cwz,Cmz (by rw[h.1];exact hj)];rfl
 have:=h.2 j y _ K e;rw[h4] at this;exact⟨j,U,hj,e,this⟩
theorem gu {g:al}(hS:Shape g){r:ae}(Z:r∈g.rs_):r.rt_.length<=3:=by
 have:=hS.ruleB Z;unfold Go.Proofs.YtodhafdaelcnlaaGreat.ruleB at this;simp only[Bool.and_eq_true,decide_eq_true_eq] at this;exact this.2.1.1
noncomputable def cw (g:al) (r:ae) (c:au):au:=(jX g r c).getD ⟨0,[]⟩
theorem sR {g:al}(h:ee g){r:ae}(hl:fB r)(c:au):jX g r c=some (cw g r c)/\r8 g r c=some (cw g r c):=by
 obtain⟨x,U,K,_⟩:=Y8 (c:=c) h hl;unfold cw;rw[U,K];exact⟨rfl,rfl⟩
def nb (all:List au):Nat:=(all.map vg).sum
theorem Inv.bound {g:al}{all:List au}(h:Inv g all):nb all<=all.length*(16*65535):=by
 have key:∀ l:List au,(∀ a∈l,aI a)->nb l<=l.length*(16*65535):=by
  intro l
  induction l with
  | nil=>intro _;simp[nb]
  | cons a l ih=>
   intro hv;have U:=WG (hv a (by simp));have K:=ih λb Y=>hv b (by simp[Y]);unfold nb at K ⊢;simp only[List.map_cons,List.sum_cons,bE];omega
 refine key all λa ha=>?_;obtain⟨k,hk⟩:=Ekz ha;have hlt:=(List.getElem?_eq_some_iff.1 hk).1;exact (h.2 k _ a (Cmz (by rw[← h.1];exact hlt)) hk).1
theorem aI.len {a:au}(h:aI a):a.Rows.length<=16:=by have:=h.2.2.1;have:=h.2.1;omega
theorem JV {α:Type}[Sz α](x:α):∀ (l:List α) (j:Nat),bW (l.set j x)<=bW l+Sz.szd x
 | [],_=>by simp[bW]
 | y::l,0=>by simp only[Dnz,bW];omega
 | y::l,j+1=>by have:=JV x l j;simp only[Dnz,bW];omega
theorem WC {α:Type}[Sz α](l:List α):bW (l.drop 1)<=bW l:=by
 cases l with
 | nil=>simp
 | cons x l=>simp only[List.drop,bW];omega
theorem Nq (a:Int):∀ (l:List Expr) (i:Nat),(∀ x∈l,∃ v,∀ m,dL x<=m->lf m x a=some v)->∃ r,∀ m,(∀ x∈l,dL x<=m)->findL (qa (lf m) a) i l ()=some r
 | [],i,_=>⟨.inl (),λm _=>rfl⟩
 | x::l,i,h=>by
  obtain⟨v,hv⟩:=h x (by simp);obtain⟨r,Z⟩:=Nq a l (i+1) λy hy=>h y (by simp[hy]);cases v with
  | true=>
   refine⟨r,λm hm=>?_⟩;have U:=Z m λy hy=>hm y (by simp[hy]);have K:qa (lf m) a i x ()=some (.inl ()):=by unfold qa;rw[hv m (hm x (by simp))];rfl
   rw[findL,K];exact U
  | false=>
   refine⟨.inr false,λm hm=>?_⟩;have K:qa (lf m) a i x ()=some (.inr false):=by unfold qa;rw[hv m (hm x (by simp))];rfl
   rw[findL,K];rfl
theorem WB (e:Expr)(a:Int):∃ v,yt e a=some v:=by
 have key:∀ e:Expr,∃ v,∀ m,dL e<=m->lf m e a=some v:=by
  intro e
  induction e using lX with
  | h e ih=>
   obtain⟨r,Z⟩:=Nq a e.Args 0 ih;have:∃ v,∀ m,dL e<=m+1->oD (lf m) e a=some v:=by
    cases r with
    | inl u=>exact⟨_,λm hm=>by unfold oD;rw[Z m λx hx=>by have:=kn hx;omega];rfl⟩
    | inr q=>exact⟨_,λm hm=>by unfold oD;rw[Z m λx hx=>by have:=kn hx;omega];rfl⟩
   obtain⟨v,hv⟩:=this;refine⟨v,λm hm=>?_⟩;obtain⟨m,rfl⟩:∃ q,m=q+1:=⟨m-1,by have:=kM e;omega⟩
   exact hv m hm
 obtain⟨v,hv⟩:=key e;exact⟨v,iu (dL e) hv⟩
def R2 (r:ae):Prop:=RB r/\bW r.es_<=60000/\bW r.cs_<=200
def mJ (g:al):Prop:=kh g.ss_/\1<=g.rs_.length/\g.rs_.length<=8/\∀ r∈g.rs_,R2 r
theorem SB.set {s:ah}(h:SB s){x:aG}(hx:x.Name.size<=8):SB ⟨s.Name,Dnz s.as_ 0 x⟩:=by
 refine⟨h.1,by dsimp only;rw[Clz];exact h.2.1,by dsimp only;rw[Clz];exact h.2.2.1,λa ha=>?_⟩;rcases Etz ha with ha|ha;exact h.2.2.2 a ha;rw[ha];exact hx
theorem mJ.set {ss:List ah}{rs:List ae}(h:mJ ⟨ss,rs⟩)(k:Nat){x:ae}(hx:R2 x):mJ ⟨ss,rs.set k x⟩:=by
 refine⟨h.1,by dsimp only;rw[Clz];exact h.2.1,by dsimp only;rw[Clz];exact h.2.2.1,λa ha=>?_⟩;rcases Etz ha with ha|ha;exact h.2.2.2 a ha;rw[ha];exact hx
section
variable {b:List UInt8}(Y:b.length<=1048576)
include Y
theorem U1 {e:Expr}{n:Nat}(h:Sz.szd e<=n)(hn:n<=1048576)(a:Int):Ok (λ_=>True) (ma e a):=by
 unfold ma;refine .eq (xt (by have:=Ed Y h;omega)) ?_;obtain⟨v,hv⟩:=WB e a;exact .ite (λ_=>.eq hv (.ret trivial)) λ_=>.ret trivial
theorem U0 {i h:Int}(hi:0<=i):Dr b (λr=>RB r/\r.rt_.length<=3/\bW r.es_<=1200/\bW r.cs_<=200) (tK ⟨b,i,h⟩):=by
 unfold tK;refine bU (kO Y (by simp) (cb hi)) λy1 i1 U hy1 hi1=>?_;refine bU (kO Y (by simp) (cb hi1)) λy2 i2 K hy2 hi2=>?_;refine bU (ir Y _ (cb hi2)) λy3 i3 h3 _ hi3=>?_;refine bU (dt Y 4 (cb hi3)) λy4 i4 h4 hy4 hi4=>?_;have h44:=hy4.2.1 (by omega);have h40:=hy4.1;have n1:y1.size<=8:=by
  simp only[Dsz,Daz,or_false] at hy1;rcases hy1 with h|h|h<;>subst h<;>(try dsimp only)<;>decide
 have n2:y2.size<=8:=by
  simp only[Dsz,Daz,or_false] at hy2;rcases hy2 with h|h<;>subst h<;>(try dsimp only)<;>decide
 dsimp only;refine qL (λk (q:List ar)=>q.length=k/\∀ x∈q,x.size<=8) hi4 ⟨rfl,by simp⟩ (λj4 q4 i h hj4 hi hq4=>?_) λq4 i8 h8 hi8 hq4=>?_;unfold MY;dsimp only;refine bU (kO Y (by simp) (cb hi)) λz i1 U hz hi1=>?_;refine .grd (by have:=hq4.1;constructor<;>omega) (.ret ⟨hi1,by simp[hq4.1],λa ha=>?_⟩);simp only[Ciz,Dsz,Daz,or_false] at ha hz;rcases ha with ha|ha;exact hq4.2 a ha;rw[ha];rcases hz with h|h|h<;>subst h<;>(try dsimp only)<;>decide;refine bU (dt Y 4 (cb hi8)) λy6 i6 h6 hy6 hi6=>?_;have h64:=hy6.2.1 (by omega);dsimp only;refine qL (λk (q:List ba)=>q.length<=k/\bW q<=k*400) hi6 ⟨by simp,by simp[bW]⟩ (λj q i h hj hi hq=>?_) λq i9 h9 hi9 hq=>?_;have hq1:=hq.1;have hq2:=hq.2;unfold MX;dsimp only;refine .bbi (bU (dt Y 3 (cb hi)) λy7 i7 h7 hy7 hi7=>?_);have h73:=hy7.2.1 (by omega);have h70:=hy7.1;refine .bgr (by constructor<;>omega) (.bbi (bU (JP Y 2 (by omega) (by omega) (by omega) (cb hi7)) λe i8 h8 he hi8=>?_));have he:Sz.szd e<=320:=he;refine .bbi (.bind (U1 Y he (by omega) y4) λv _=>?_);refine .bif (λ_=>?_) λ_=>.bso (.ret ⟨hi8,Bgz hq1 (Nat.le_succ _),Bgz hq2 (Nat.mul_le_mul_right 400 (Nat.le_succ j))⟩);refine .bgr (by constructor<;>omega) (.bbi (bU (dt Y _ (cb hi8)) λy10 i9 h9 _ hi9=>?_));refine .bbi (bU (EC Y (cb hi9)) λnm i10 h10 hnm hi10=>?_);refine .bgr (by constructor<;>omega) (.bso (.ret ⟨hi10,by dsimp only;simp;omega,?_⟩));dsimp only;rw[tc,wF];have hnm:nm.size=1:=hnm;dsimp only;omega;have hq2:=hq.2;have hR:RB ⟨y1,y2,q4,y3,q,[]⟩:=⟨n1,n2,by have:=hq4.1;dsimp only;omega,hq4.2⟩
 refine bU (ir Y _ (cb hi9)) λy12 i12 h12 _ hi12=>?_;refine .ite (λ_=>?_) λ_=>⟨_,rfl,⟨hR,by have:=hq4.1;dsimp only;omega,by dsimp only;omega,by simp[bW]⟩,hi12,rfl⟩
 refine bU (dt Y _ (cb hi12)) λy13 i13 h13 _ hi13=>?_;refine .eq rfl ?_;refine .grd (by simp only[List.length_nil];constructor<;>omega) ⟨_,rfl,⟨hR,by have:=hq4.1;dsimp only;omega,by dsimp only;omega,?_⟩,hi13,rfl⟩;dsimp only;rw[List.nil_append];show 1+Sz.szd (⟨(⟨#[115]⟩:ar),(⟨#[99]⟩:ar),_,_⟩:Cn)+0<=200;rw[I1,sP Y,sP Y,mR Y];decide
theorem UZ {i h:Int}(hi:0<=i):Dr b R2 (tI ⟨b,i,h⟩):=by
 unfold tI;refine bU (U0 Y hi) λr i1 U Z hi1=>?_;obtain⟨r1,r2,r3,r4⟩:=Z;refine bU (dt Y 12 (cb hi1)) λy2 i2 K _ hi2=>?_;dsimp only;refine .ite (λ_=>?_) λ_=>.ite (λ_=>?_) λ_=>.ite (λ_=>?_) λ_=>.ite (λ_=>?_) λ_=>.ite (λ_=>?_) λ_=>?_;refine bU (kO Y (by simp) (cb hi2)) λz i3 h3 hz hi3=>⟨_,rfl,⟨⟨?_,r1.2.1,r1.2.2.1,r1.2.2.2⟩,by dsimp only;omega,r4⟩,hi3,rfl⟩
 simp only[Dsz,Daz,or_false] at hz;rcases hz with h|h|h<;>subst h<;>(try dsimp only)<;>decide;refine .grd (by simp only[bE,List.length_nil];constructor<;>omega) ⟨_,rfl,⟨⟨r1.1,r1.2.1,by simp;omega,λx hx=>?_⟩,by dsimp only;omega,r4⟩,hi2,rfl⟩;simp only[Ciz,Dsz,Daz,or_false] at hx;rcases hx with h|h|h;exact r1.2.2.2 x h;rw[h];decide;rw[h];decide;refine bU (dt Y 5 (cb hi2)) λy4 i4 h4 hy4 hi4=>?_;have h40:=hy4.1;have h44:=hy4.2.1 (by omega);refine .grd (by constructor<;>omega) ?_;refine bU (TF Y (cb hi4)) λe i5 h5 he hi5=>?_;have he:Sz.szd e<=30000:=he;have hl:=jj r.es_;refine .grd (by constructor<;>omega) ⟨_,rfl,⟨r1,?_,r4⟩,hi5,rfl⟩;dsimp only;rw[tc,wF];have:(⟨#[97]⟩:ar).size=1:=rfl;dsimp only;omega;exact⟨_,rfl,⟨⟨r1.1,by dsimp only;decide,r1.2.2.1,r1.2.2.2⟩,by dsimp only;omega,r4⟩,hi2,rfl⟩;refine .grd (by constructor<;>omega) ?_;refine bU (dt Y _ (cb hi2)) λy6 i6 h6 hy6 hi6=>?_;have h60:=hy6.1;have h61:=hy6.2.1 (by omega);refine .grd h60 (.grd (by omega) ⟨_,rfl,⟨⟨r1.1,r1.2.1,by dsimp only;rw[Brz];omega,λx hx=>r1.2.2.2 x (Erz hx)⟩,by dsimp only;omega,r4⟩,hi6,rfl⟩);exact⟨_,rfl,⟨r1,by dsimp only;omega,r4⟩,hi2,rfl⟩
theorem UY {i h:Int}(hi:0<=i):Dr b SB (tH ⟨b,i,h⟩):=by
 unfold tH;refine bU (kO Y (by simp) (cb hi)) λnm i1 U hnm hi1=>?_;have hnm:nm.size<=8:=by
  simp only[Dsz,Daz,or_false] at hnm;rcases hnm with h|h|h|h<;>subst h<;>(try dsimp only)<;>decide
 refine bU (I2 Y hnm _ _ hi1) λs i2 K hs hi2=>?_;refine bU (dt Y 10 (cb hi2)) λy3 i3 h3 _ hi3=>?_;have hl:=hs.2.1;dsimp only;refine .ite (λ_=>?_) λ_=>.ite (λ_=>?_) λ_=>.ite (λ_=>?_) λ_=>.ite (λ_=>?_) λ_=>.ite (λ_=>?_) λ_=>?_;exact .get (by omega) λx hx=>⟨_,rfl,hs.set (by exact hs.2.2.2 x hx),hi3,rfl⟩
 exact bU (dt Y 5 (cb hi3)) λy4 i4 h4 _ hi4=>.get (by omega) λx hx=>⟨_,rfl,hs.set (by exact hs.2.2.2 x hx),hi4,rfl⟩
 exact bU (dt Y 6 (cb hi3)) λy4 i4 h4 _ hi4=>.get (by omega) λx hx=>⟨_,rfl,hs.set (by exact hs.2.2.2 x hx),hi4,rfl⟩
 refine bU (kO Y (by simp) (cb hi3)) λz i4 h4 hz hi4=>.get (by omega) λx hx=>⟨_,rfl,hs.set ?_,hi4,rfl⟩
 simp only[Dsz,Daz,or_false] at hz;rcases hz with h|h|h<;>subst h<;>(try dsimp only)<;>decide;refine Ok.bind (Q:=λl:List aG=>1<=l.length/\l.length<=5/\∀ a∈l,a.Name.size<=8) (EY (P:=λl:List aG=>1<=l.length/\l.length<=5/\∀ a∈l,a.Name.size<=8) (λl=>5-l.length) (λl hl=>?_) _ ⟨hs.2.1,hs.2.2.1,hs.2.2.2⟩) λl hl=>⟨_,rfl,⟨hs.1,hl.1,hl.2.1,hl.2.2⟩,hi3,rfl⟩
 unfold MW;refine .ite (λh5=>?_) λ_=>.ret hl;refine .get (by simp;omega) λx hx=>.grd (by constructor<;>omega) (.ret ⟨⟨by simp,by simp;omega,λa ha=>?_⟩,by simp;omega⟩);simp only[Ciz,Dsz,Daz,or_false] at ha hx;rcases ha with ha|ha;exact hl.2.2 a ha;rw[ha];dsimp only;rcases hx with h|h|h|h|h<;>subst h<;>(try dsimp only)<;>decide;exact⟨_,rfl,hs,hi3,rfl⟩
theorem WA {i h:Int}(hi:0<=i):Dr b mJ (uo ⟨b,i,h⟩):=by
 unfold uo;refine bU (ir Y _ (cb hi)) λy1 i1 U _ hi1=>?_;refine bU (LR Y y1 hi1) λg i2 K hg hi2=>?_;obtain⟨ss,rs⟩:=g;obtain⟨g1,g2,g3,g4⟩:=hg;dsimp only at g1 g2 g3 g4;have hG:mJ ⟨ss,rs⟩:=⟨g1,g2,g3,λr Z=>by obtain⟨a,c,d⟩:=g4 r Z;exact⟨a,by omega,d⟩⟩
 refine bU (dt Y _ (cb hi2)) λy3 i3 h3 hy3 hi3=>?_;have h30:=hy3.1;have h31:=hy3.2.1 (by dsimp only;omega);dsimp only at h31;refine bU (dt Y 14 (cb hi3)) λy4 i4 h4 _ hi4=>?_;have hk:y3.toNat<rs.length:=by omega
 dsimp only;have same:Ok (λr:al×aL=>mJ r.1/\CB b r.2) (some ((⟨ss,rs⟩:al),(⟨b,i4,h4⟩:aL))):=⟨_,rfl,hG,hi4,rfl⟩
 refine .ite (λ_=>?_) λ_=>.ite (λ_=>?_) λ_=>.ite (λ_=>?_) λ_=>.ite (λ_=>?_) λ_=>.ite (λ_=>?_) λ_=>.ite (λ_=>?_) λ_=>.ite (λ_=>?_) λ_=>same;exact bU (UZ Y hi4) λr i5 h5 Z hi5=>.grd h30 (.get hk λx hx=>⟨_,rfl,hG.set _ Z,hi5,rfl⟩);refine bU (UY Y hi4) λs i5 h5 hs hi5=>.get (by have:=g1.1;omega) λx hx=>⟨_,rfl,⟨⟨by dsimp only;rw[Clz];exact g1.1,by dsimp only;rw[Clz];exact g1.2.1,λa ha=>?_⟩,g2,g3,hG.2.2.2⟩,hi5,rfl⟩
 rcases Etz ha with ha|ha;exact g1.2.2 a ha;rw[ha];exact hs;refine .get (by omega) λx hx=>.grd h30 (.get hk λr Z=>⟨_,rfl,hG.set _ ?_,hi4,rfl⟩);have a:=hG.2.2.2 r Z;exact⟨⟨(g4 x hx).1.1,a.1.2.1,a.1.2.2.1,a.1.2.2.2⟩,a.2.1,a.2.2⟩;refine .grd h30 (.get hk λr Z=>.ite (λh0=>.grd (by omega) ⟨_,rfl,hG.set _ ?_,hi4,rfl⟩) λ_=>same);have a:=hG.2.2.2 r Z;exact⟨a.1,by have:=WC r.es_;have:=a.2.1;dsimp only;omega,a.2.2⟩;refine .grd h30 (.get hk λr Z=>.ite (λh0=>?_) λ_=>same);have a:=g4 r Z;have hl:=jj r.es_;have a2:=a.2.1;refine .get (by omega) λx hx=>.grd (by constructor<;>omega) ⟨_,rfl,hG.set _ ⟨a.1,?_,a.2.2⟩,hi4,rfl⟩;have:=AX hx;dsimp only;rw[tc];omega;refine bU (kO Y (by simp) (cb hi4)) λz i5 h5 hz hi5=>.grd h30 (.get hk λr Z=>⟨_,rfl,hG.set _ ?_,hi5,rfl⟩);have a:=hG.2.2.2 r Z;refine⟨⟨a.1.1,?_,a.1.2.2.1,a.1.2.2.2⟩,a.2.1,a.2.2⟩;simp only[Dsz,Daz,or_false] at hz;rcases hz with h|h<;>subst h<;>(try dsimp only)<;>decide;refine .grd h30 (.get hk λr Z=>.ite (λh0=>?_) λ_=>same);refine bU (JO Y (cb hi4)) λe i5 h5 he hi5=>?_;have he:Sz.szd e<=20480:=he;have a:=g4 r Z;have a2:=a.2.1;refine .get (by omega) λx hx=>⟨_,rfl,hG.set _ ⟨a.1,?_,a.2.2⟩,hi5,rfl⟩
 have U:=AX hx;have K:=JV (⟨x.At,e⟩:ba) r.es_ 0;have h3:Sz.szd x=x.At.Name.size+Sz.szd x.Expr:=wF x.At x.Expr;rw[wF] at K;dsimp only;omega
end
theorem Qs {r:ae}(h:R2 r):Sz.szd r<=60300:=by
 have U:=wG (m:=8) h.1.2.2.2;have:=h.1.2.2.1;have:=h.1.1;have:=h.1.2.1;have:=h.2.1;have:=h.2.2;have h9:r.rt_.length*(8+1)<=45:=by omega
 rw[pA];omega
theorem Qr {s:ah}(h:SB s):Sz.szd s<=60:=by
 have U:=wG (m:=8) (l:=s.as_) λa ha=>by rw[Zu];exact h.2.2.2 a ha
 have:=h.2.2.1;have:=h.1;have h9:s.as_.length*(8+1)<=45:=by omega
 rw[Ny];omega
theorem HZ {g:al}(h:mJ g):Sz.szd g<=1048576:=by
 have U:=wG (m:=60) (l:=g.ss_) λs hs=>Qr (h.1.2.2 s hs);have K:=wG (m:=60300) (l:=g.rs_) λr Z=>Qs (h.2.2.2 r Z);have h3:g.ss_.length*(60+1)<=183:=by have:=h.1.2.1;omega
 have h4:g.rs_.length*(60300+1)<=482408:=by have:=h.2.2.1;omega
 rw[yi];omega
theorem nj {r:au}(h:aI r)(i k:Int):aI (ca r i k):=by
 unfold ca;by_cases hc:aI r/\eE r i/\eE r k;rw[ao hc];obtain⟨_,hi,hk⟩:=hc;unfold wR;refine⟨h.1,h.2.1,by dsimp only;rw[Clz];exact h.2.2.1,λx hx=>?_⟩;rcases Etz hx with hx|hx;exact h.2.2.2 x hx;rw[hx];have U:=h.1;have hk1:=hk.1;have hk2:=hk.2;refine PV ?_ ?_;unfold ij;rw[Cwz];cases hq:r.Rows[i.toNat]? with
 | none=>show (0:Int)<=0/\(0:Int)<=((2 ^ r.N.toNat:Nat):Int)-1;have:=Nat.two_pow_pos r.N.toNat;omega
 | some y=>exact h.2.2.2 y (Bvz hq)
 have K:2 ^ k.toNat<2 ^ r.N.toNat:=Nat.pow_lt_pow_right (by decide) (by omega);constructor;exact Int.natCast_nonneg _;dsimp only;omega;rw[an hc];exact h
theorem pv {r:au}(h:aI r)(i k:Int)(a c:Nat):Rl (ca r i k).Rows a c↔Rl r.Rows a c∨(eE r i/\eE r k/\(a:Int)=i/\(c:Int)=k):=by
 unfold ca;by_cases hc:aI r/\eE r i/\eE r k;rw[ao hc];obtain⟨_,hi,hk⟩:=hc;have hi1:=hi.1;have hi2:=hi.2;have hk1:=hk.1;have hl:=h.2.2.1;unfold wR Rl;dsimp only;rw[Cwz,Cjz];by_cases e:i.toNat=a;rw[ao e,ao (by omega),Cbz,FF,Nat.testBit_or,b7,Nat.testBit_two_pow];unfold ij;rw[e];simp only[Bool.or_eq_true,decide_eq_true_eq];constructor;rintro (U|U);exact .inl U;exact .inr ⟨hi,hk,by omega,by omega⟩;rintro (U|⟨_,_,_,U⟩);exact .inl U;exact .inr (by omega);rw[an e,← Cwz];constructor;exact λU=>.inl U;rintro (U|⟨_,_,U,_⟩);exact U;omega;rw[an hc];constructor;exact λU=>.inl U;rintro (U|⟨U,K,_⟩);exact U;exact absurd ⟨h,U,K⟩ hc
def ew (a b:au):Prop:=aI a/\aI b/\a.N=b.N/\∀ i j:Nat,Rl a.Rows i j->Rl b.Rows i j
theorem ew.refl {a:au}(h:aI a):ew a a:=⟨h,h,rfl,λ_ _ h=>h⟩
theorem ew.trans {a b c:au}(h:ew a b)(k:ew b c):ew a c:=⟨h.1,k.2.1,h.2.2.1.trans k.2.2.1,λi j x=>k.2.2.2 i j (h.2.2.2 i j x)⟩
theorem lR {a b:au}(h:a.N=b.N)(i:Int):eE a i->eE b i:=λ⟨U,K⟩=>⟨U,by omega⟩
theorem ew.add {a b:au}(h:ew a b)(i k:Int):ew a (ca b i k):=
 h.trans ⟨h.2.1,nj h.2.1 i k,(lW _ _ _).2.symm,λx y hx=>(pv h.2.1 i k x y).2 (.inl hx)⟩
theorem ew.close {a:au}(h:aI a):ew a (fe a):=by
 refine⟨h,B7 h,(Gd _).2.symm,λi j hx=>?_⟩;unfold fe;rw[ao h];exact JM (l6 h).1 _ i j hx
theorem xT (own:au)(a:Nat)(x:Int):∀ (ys:List Int) (i:Nat) (o:au),aI o->ew o (fO own a x i ys o)
 | [],i,o,h=>ew.refl h
 | y::ys,i,o,h=>by
  rw[fO];by_cases hp:bG own (a:Int) (i:Int);rw[ao hp];exact ((ew.refl h).add x y).trans (xT own a x ys (i+1) _ (nj h x y));rw[an hp];exact xT own a x ys (i+1) _ h
theorem B5 (own:au)(at' : List Int):∀ (xs:List Int) (a:Nat) (o:au),aI o->ew o (ia own at' a xs o)
 | [],a,o,h=>ew.refl h
 | x::xs,a,o,h=>by
  rw[ia];have U:=xT own a x at' 0 o h;exact U.trans (B5 own at' xs (a+1) _ U.2.1)
theorem FB (g:al)(r:ae):∀ (l:List au) (k:Nat) (o:au),aI o->ew o (dq g r k l o)
 | [],k,o,h=>ew.refl h
 | own::l,k,o,h=>by
  rw[dq];have U:ew o (jI g r o ((k+1:Nat):Int) own):=B5 own _ _ 0 o h;exact U.trans (FB g r l (k+1) _ U.2.1)
theorem yh {n:Int}(h0:0<=n)(U:n<=16):aI ⟨n,Bqz n.toNat 0⟩:=by
 refine⟨h0,U,by simp;omega,λx hx=>?_⟩;have:=(List.mem_replicate.1 hx).2;have K:=Nat.two_pow_pos n.toNat
 dsimp only;omega
theorem DT {g:al}{r:ae}{m:Nat}(hm:m<(bJ g (cn r ((0:Nat):Int))).length):(dc g r ((0:Nat):Int))[m]?=some (m:Int):=by
 unfold dc;have e:br g r=b9 g r 0++(Dbz 1 r.rt_.length).flatMap (b9 g r):=by unfold br;rw[List.range'_succ,Bkz]
 have f1:((b9 g r 0).zipIdx 0).filter (λq=>decide (q.1.Pos=((0:Nat):Int)))=(b9 g r 0).zipIdx 0:=List.filter_eq_self.2 λq hq=>by
  have:=Euz hq;unfold b9 at this;obtain⟨a,_,ha⟩:=List.mem_map.1 this;rw[← ha];simp
 have f2:(((Dbz 1 r.rt_.length).flatMap (b9 g r)).zipIdx (0+(b9 g r 0).length)).filter (λq=>decide (q.1.Pos=((0:Nat):Int)))=[]:=List.filter_eq_nil_iff.2 λq hq=>by
  have:=Euz hq;obtain⟨k,hk,hk2⟩:=List.mem_flatMap.1 this;rw[Esz] at hk;unfold b9 at hk2;obtain⟨a,_,ha⟩:=List.mem_map.1 hk2;rw[← ha];simp;omega
 rw[e,List.zipIdx_append,List.filter_append,f1,f2,List.append_nil,List.getElem?_map,List.getElem?_zipIdx];have hl:m<(b9 g r 0).length:=by unfold b9;rw[bh];exact hm
 rw[Cmz hl];simp
theorem Tn {g:al}(hg:ee g){r:ae}(hn:(bJ g r.Left).length<=16)(c:au):∃ s,jX g r c=some s/\aI s/\s.N=((bJ g r.Left).length:Int)/\∀ a b:Nat,Rl s.Rows a b->bG c (a:Int) (b:Int):=by
 have hv:=yh (n:=((bJ g r.Left).length:Int)) (by omega) (by omega);have P0:∀ s:List Int×Int,(aI ⟨s.2,s.1⟩/\s.2=((bJ g r.Left).length:Int)/\∀ a b:Nat,Rl s.1 a b->bG c (a:Int) (b:Int))->s.1.length<=1048576:=λs h=>by have:=h.1.2.2.1;have:=h.1.2.1;dsimp only at *;omega
 have key:=ti (P:=λ_ (s:List Int×Int)=>aI ⟨s.2,s.1⟩/\s.2=((bJ g r.Left).length:Int)/\∀ a b:Nat,Rl s.1 a b->bG c (a:Int) (b:Int)) (f:=me c (bJ g r.Left)) (xs:=bJ g r.Left) (i:=0) (s:=(Bqz ((bJ g r.Left).length:Int).toNat 0,((bJ g r.Left).length:Int))) ⟨hv,rfl,λa b h=>by
   exfalso;unfold Rl at h;rw[Cwz,Evz] at h;split at h<;>simp at h⟩ λk x s _ _ _ hs=>by
  obtain⟨s1,s2⟩:=s;have K:=ti (P:=λ_ (s:List Int×Int)=>aI ⟨s.2,s.1⟩/\s.2=((bJ g r.Left).length:Int)/\∀ a b:Nat,Rl s.1 a b->bG c (a:Int) (b:Int)) (f:=lj c k x) (xs:=bJ g r.Left) (i:=0) (s:=(s1,s2)) hs λk2 x2 s _ _ _ hs=>by
   obtain⟨t1,t2⟩:=s;have hl:=P0 _ hs;dsimp only at hs hl;unfold lj;dsimp only;rw[oB,qU (r:=⟨t2,t1⟩) hl];simp only[aj];by_cases p1:bG c (k:Int) (k2:Int);have hA:aI (ca ⟨t2,t1⟩ (k:Int) (k2:Int))/\(ca ⟨t2,t1⟩ (k:Int) (k2:Int)).N=((bJ g r.Left).length:Int)/\∀ a b:Nat,Rl (ca ⟨t2,t1⟩ (k:Int) (k2:Int)).Rows a b->bG c (a:Int) (b:Int):=by
    refine⟨nj hs.1 _ _,(lW _ _ _).2.trans hs.2.1,λa b h=>?_⟩;rcases (pv hs.1 _ _ a b).1 h with h|⟨_,_,U,K⟩
    exact hs.2.2 a b h;rw[U,K];exact p1
   by_cases m1:x.Mode=1;by_cases m2:x2.Mode=2;simp only[m1,m2,p1,if_true,decide_true,aj];exact⟨_,rfl,hA⟩;simp only[m1,m2,if_true,if_false,decide_false,aj,Dzz];exact⟨_,rfl,hs⟩;simp only[m1,if_false,aj,Dzz];exact⟨_,rfl,hs⟩;by_cases m1:x.Mode=1;by_cases m2:x2.Mode=2;simp only[m1,m2,p1,if_true,if_false,decide_true,decide_false,aj,Dzz];exact⟨_,rfl,hs⟩;simp only[m1,m2,if_true,if_false,decide_false,aj,Dzz];exact⟨_,rfl,hs⟩;simp only[m1,if_false,aj,Dzz];exact⟨_,rfl,hs⟩
  obtain⟨s',e,h3⟩:=K;exact⟨s',by unfold me;dsimp only;rw[e];rfl,h3⟩
 obtain⟨⟨s1,s2⟩,e,U,K,h3⟩:=key;refine⟨⟨s2,s1⟩,?_,U,K,h3⟩;unfold jX;rw[tC hg,aj,tg (by omega) (by omega),aj];dsimp only;rw[e];rfl
end Go.Proofs.YtodhafdaelcnlaaGreat
set_option maxRecDepth 100000
set_option maxHeartbeats 4000000
namespace Go.Proofs.YtodhafdaelcnlaaGreat
open Go Go.E
theorem EV:∀ (n:Nat) (l:List Nat),l.Nodup->(∀ x∈l,x<n)->l.length<=n
 | 0,[],_,_=>Nat.le_refl _
 | 0,x::l,_,h=>absurd (h x List.mem_cons_self) (Nat.not_lt_zero _)
 | n+1,l,hd,h=>by
  by_cases hn:n∈l;have U:=EV n (l.erase n) (hd.erase n) λx hx=>by
   have K:=(List.Nodup.mem_erase_iff hd).1 hx;have:=h x K.2;have:=K.1;omega
  rw[List.length_erase_of_mem hn] at U;omega;have:=EV n l hd λx hx=>by
   have K:=h x hx;have:x≠n:=λe=>hn (e▸hx);omega
  omega
def oQ:List Bool->Nat
 | []=>0
 | b::bs=>(if b=true then 1 else 0)+2*oQ bs
theorem JU:∀ l:List Bool,oQ l<2 ^ l.length
 | []=>by decide
 | b::bs=>by
  have:=JU bs;rw[oQ,bE,Nat.pow_succ];split<;>omega
theorem EU:∀ {l m:List Bool},l.length=m.length->oQ l=oQ m->l=m
 | [],[],_,_=>rfl
 | [],_::_,h,_=>by simp at h
 | _::_,[],h,_=>by simp at h
 | b::bs,c::cs,h,e=>by
  rw[oQ,oQ] at e;have h' : bs.length=cs.length:=by simpa using h
  cases b<;>cases c<;>simp at e;rw[EU h' (by omega)];omega;omega;rw[EU h' (by omega)]
theorem JS {α:Type}{p q:α->Bool}(h:∀ x,p x=true->q x=true->False):∀ l:List α,(l.filter p).length+(l.filter q).length<=l.length
 | []=>Nat.le_refl _
 | x::l=>by
  have:=JS h l;rw[List.filter_cons,List.filter_cons,bE];cases hp:p x<;>cases hq:q x;simp;omega;simp;omega;simp;omega;exact absurd hq (λhq=>h x hp hq)
theorem Tm {a b:au}(ha:aI a)(Y:aI b)(hN:a.N=b.N)(h:∀ i j:Nat,Rl a.Rows i j↔Rl b.Rows i j):a=b:=by
 obtain⟨n,xs⟩:=a;obtain⟨m,ys⟩:=b;have U:=ha.2.2.1;have K:=Y.2.2.1;dsimp only at U K hN;have e:xs=ys:=by
  apply List.ext_getElem?;intro i;by_cases hi:i<xs.length;obtain⟨x,hx⟩:∃ x,xs[i]?=some x:=⟨_,Cmz hi⟩
  obtain⟨y,hy⟩:∃ y,ys[i]?=some y:=⟨_,Cmz (by omega)⟩
  have hx0:=(ha.2.2.2 x (Bvz hx)).1;have hy0:=(Y.2.2.2 y (Bvz hy)).1;have:x.toNat=y.toNat:=by
   apply Nat.eq_of_testBit_eq;intro j;have:=h i j;unfold Rl at this;dsimp only at this;rw[Cwz,Cwz,hx,hy,Cbz,Cbz] at this;exact Bool.eq_iff_iff.2 this
  rw[hx,hy];congr 1;omega;rw[Avz (by omega),Avz (by omega)]
 rw[e,hN]
def kF (L:List aG)(s:au):Prop:=aI s/\s.N=(L.length:Int)/\∀ a b:Nat,Rl s.Rows a b->∃ x y,L[a]?=some x/\x.Mode=1/\L[b]?=some y/\y.Mode=2
def lU (L:List aG)(m:Int)(a:Nat):Bool:=decide ((L[a]?).map (·.Mode)=some m)
def mK (L:List aG):List (Nat×Nat):=((Amz L.length).filter (lU L 1)).flatMap λa=>((Amz L.length).filter (lU L 2)).map λb=>(a,b)
theorem F7 {α β:Type}{f:α->List β}{n:Nat}(h:∀ x,(f x).length=n):∀ l:List α,(l.flatMap f).length=l.length*n
 | []=>by simp
 | x::l=>by rw[Bkz,Axz,h,F7 h l,bE,Nat.succ_mul];omega
theorem Wz {L:List aG}(h:L.length<=4):(mK L).length<=4:=by
 unfold mK;rw[F7 (n:=((Amz L.length).filter (lU L 2)).length) λx=>by rw[bh]];have U:=JS (p:=lU L 1) (q:=lU L 2) (λx U K=>by
  unfold lU at U K;have U:=of_decide_eq_true U;have K:=of_decide_eq_true K;rw[U] at K;cases K) (Amz L.length)
 rw[List.length_range] at U;generalize ((Amz L.length).filter (lU L 1)).length=x at U;generalize ((Amz L.length).filter (lU L 2)).length=y at U;have:x=0∨x=1∨x=2∨x=3∨x=4:=by omega
 rcases this with e|e|e|e|e<;>subst e<;>omega
noncomputable def wt (L:List aG) (s:au):Nat:=oQ ((mK L).map λp=>s.Rows.getD p.1 0 |>.toNat.testBit p.2)
theorem Tl {L:List aG}(h:L.length<=4)(s:au):wt L s<16:=by
 have U:=JU ((mK L).map λp=>s.Rows.getD p.1 0 |>.toNat.testBit p.2);have K:=Wz h;rw[bh] at U;have h3:2 ^ (mK L).length<=2 ^ 4:=Nat.pow_le_pow_right (by decide) K;unfold wt;omega
theorem UX {L:List aG}{s t:au}(hs:kF L s)(ht:kF L t)(h:wt L s=wt L t):s=t:=by
 have e:=EU (by simp) h;have key:∀ {s t:au},kF L s->((mK L).map λp=>(s.Rows.getD p.1 0).toNat.testBit p.2)=((mK L).map λp=>(t.Rows.getD p.1 0).toNat.testBit p.2)->∀ i j:Nat,Rl s.Rows i j->Rl t.Rows i j:=by
  intro s t hs e i j h;obtain⟨x,y,U,K,h3,h4⟩:=hs.2.2 i j h;have hm:(i,j)∈mK L:=by
   unfold mK;refine List.mem_flatMap.2 ⟨i,List.mem_filter.2 ⟨List.mem_range.2 (List.getElem?_eq_some_iff.1 U).1,by unfold lU;rw[U];simp[K]⟩,?_⟩;exact List.mem_map.2 ⟨j,List.mem_filter.2 ⟨List.mem_range.2 (List.getElem?_eq_some_iff.1 h3).1,by unfold lU;rw[h3];simp[h4]⟩,rfl⟩
  have:=(List.map_inj_left.1 e) (i,j) hm;unfold Rl at h ⊢;dsimp only at this;rw[← this];exact h
 exact Tm hs.1 ht.1 (hs.2.1.trans ht.2.1.symm) λi j=>⟨key hs e i j,key ht e.symm i j⟩
theorem yg {L:List aG}(h:L.length<=4){l:List au}(hn:l.Nodup)(hl:∀ s∈l,kF L s):l.length<=16:=by
 have:=EV 16 (l.map (wt L)) (by
  rw[List.Nodup,List.pairwise_map];refine List.Pairwise.imp_of_mem ?_ hn;intro a b ha Y hne hc;exact hne (UX (hl a ha) (hl b Y) hc)) λx hx=>by
  obtain⟨s,_,rfl⟩:=List.mem_map.1 hx;exact Tl h s
 rwa[bh] at this
theorem Wy {g:al}(hg:ee g){r:ae}(hn:(bJ g r.Left).length<=16)(c:au):∃ s,jX g r c=some s/\kF (bJ g r.Left) s:=by
 have hv:=yh (n:=((bJ g r.Left).length:Int)) (by omega) (by omega);have P0:∀ s:List Int×Int,kF (bJ g r.Left) ⟨s.2,s.1⟩->s.1.length<=1048576:=λs h=>by have:=h.1.2.2.1;have:=h.1.2.1;dsimp only at *;omega
 obtain⟨s',e,h3⟩:=jT (P:=λ_ (s:List Int×Int)=>kF (bJ g r.Left) ⟨s.2,s.1⟩) (f:=me c (bJ g r.Left)) (xs:=bJ g r.Left) (i:=0) (s:=(Bqz ((bJ g r.Left).length:Int).toNat 0,((bJ g r.Left).length:Int))) ⟨hv,rfl,λa b h=>by
   exfalso;unfold Rl at h;rw[Cwz,Evz] at h;split at h<;>simp at h⟩ λk x s hx hs=>by
  rw[Adz];obtain⟨s1,s2⟩:=s;obtain⟨s',e,h3⟩:=jT (P:=λ_ (s:List Int×Int)=>kF (bJ g r.Left) ⟨s.2,s.1⟩) (f:=lj c k x) (xs:=bJ g r.Left) (i:=0) (s:=(s1,s2)) hs λk2 x2 s hx2 hs=>by
   rw[Adz];obtain⟨t1,t2⟩:=s;have hl:=P0 _ hs;dsimp only at hs hl;unfold lj;dsimp only;rw[oB,qU (r:=⟨t2,t1⟩) hl];simp only[aj];by_cases p1:bG c (k:Int) (k2:Int);by_cases m1:x.Mode=1;by_cases m2:x2.Mode=2;simp only[m1,m2,p1,if_true,decide_true,aj];refine⟨_,rfl,nj hs.1 _ _,(lW _ _ _).2.trans hs.2.1,λa b h=>?_⟩;rcases (pv hs.1 _ _ a b).1 h with h|⟨_,_,U,K⟩
   exact hs.2.2 a b h;have e1:a=k:=by omega
   have e2:b=k2:=by omega
   subst e1;subst e2;exact⟨x,x2,hx,m1,hx2,m2⟩;simp only[m1,m2,if_true,if_false,decide_false,aj,Dzz];exact⟨_,rfl,hs⟩;simp only[m1,if_false,aj,Dzz];exact⟨_,rfl,hs⟩;by_cases m1:x.Mode=1;by_cases m2:x2.Mode=2;simp only[m1,m2,p1,if_true,if_false,decide_true,decide_false,aj,Dzz];exact⟨_,rfl,hs⟩;simp only[m1,m2,if_true,if_false,decide_false,aj,Dzz];exact⟨_,rfl,hs⟩;simp only[m1,if_false,aj,Dzz];exact⟨_,rfl,hs⟩
  exact⟨s',by unfold me;dsimp only;rw[e];rfl,h3⟩
 obtain⟨s1,s2⟩:=s';refine⟨⟨s2,s1⟩,?_,h3⟩;unfold jX;rw[tC hg,aj,tg (by omega) (by omega),aj];dsimp only;rw[e];rfl
end Go.Proofs.YtodhafdaelcnlaaGreat
