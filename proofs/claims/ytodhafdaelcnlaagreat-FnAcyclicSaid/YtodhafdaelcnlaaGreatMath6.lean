/- What those partial functions come to: plain lemmas on data; each bears its conditions in its statement. -/
import Derived.Test.YtodhafdaelcnlaaGreatMath5
set_option linter.unusedVariables false
set_option linter.unusedSimpArgs false
set_option linter.ambiguousOpen false
set_option linter.unusedSectionVars false
set_option linter.unnecessarySimpa false
open List renaming length_append->Axz,length_filter_le->Erz,length_singleton->Coz,mem_of_mem_take->Esz,mem_cons->Dsz,not_mem_nil->Daz,length_take->Brz,mem_append->Ciz,mem_of_getElem?->Bvz,getElem?_eq_getElem->Cmz,set->Dnz,length_set->Clz,getElem?_set->Cjz,getElem?_of_mem->Elz,mem_of_find?_eq_some->Ecz,getD_eq_getElem?_getD->Cwz,mem_or_eq_of_mem_set->Etz,length_nil->Dyz,replicate->Bqz,length_replicate->Ddz,getElem?_set_self->Euz,mem_singleton->Bpz
open Nat renaming le_trans->Bgz,zero_add->Adz
open Bool renaming false_ne_true->Evz
namespace Go.Proofs.YtodhafdaelcnlaaGreat
open Go Go.E
theorem KB {α β:Type}{f:α->List β}{C:Nat}(h:∀ x,(f x).length<=C):∀ l:List α,(l.flatMap f).length<=l.length*C
 | []=>by simp
 | x::l=>by
  have U:=KB h l;have W:=h x;simp only[List.flatMap_cons,Axz,bH,Nat.add_mul];omega
theorem I3 {g:ak}(hs:jY g.ss_)(r:aa)(k:Nat):(eW g r k).length<=5/\∀ o∈eW g r k,o.Name.size<=8:=by
 obtain⟨f1,f2⟩:=EG hs (cy r (k:Int));unfold eW;refine⟨by rw[bn];exact Bgz (Erz _ _) f1,λo ho=>?_⟩;obtain⟨a,ha,rfl⟩:=List.mem_map.1 ho;exact f2 a (List.mem_filter.1 ha).1
theorem SK {g:ak}(hs:jY g.ss_){r:aa}(Z:r.rt_.length<=5):(cx g r).length<=30/\∀ o∈cx g r,o.Name.size<=8:=by
 unfold cx;refine⟨?_,λo ho=>?_⟩;have:=KB (C:=5) (λk=>(I3 hs r k).1) (List.range' 0 (r.rt_.length+1));rw[List.length_range'] at this;omega;obtain⟨k,_,hk⟩:=List.mem_flatMap.1 ho;exact (I3 hs r k).2 o hk
theorem sE {α:Type}[Sz α](l:List α)(x:α):bP (l++[x])=bP l+(1+Sz.szd x):=by rw[Bg];rfl
theorem wc (o:Oc)(e:Expr):Sz.szd (⟨o,e⟩:aU)=o.Name.size+Sz.szd e:=by rw[uf,eX];dsimp only;omega
theorem IB (s m:an)(e f:Expr):Sz.szd (⟨s,m,e,f⟩:Cn)=s.size+m.size+Sz.szd e+Sz.szd f:=by rw[yF,eX,eX];dsimp only;omega
section
variable {b:List UInt8}(Y:b.length<=1048576)
include Y
theorem SJ {g:ak}(hs:jY g.ss_){r:aa}(Z:RB r)(he:r.es_=[])(rem:Bool){i h:Int}(hi:0<=i):Dr b (λq=>RB q/\(bP q.es_<=12000/\q.es_.length<=30)/\q.cs_=r.cs_) (tK g r rem ⟨b,i,h⟩):=by
 have h5:=Z.2.2.1;obtain⟨q1,q2⟩:=SK hs h5;unfold tK;refine .eq (D5 hs.g Z.rok) ?_;refine Dt (λj (l:List aU)=>l.length=j/\bP l<=j*400) hi (by rw[he];exact⟨rfl,by simp[bP]⟩) (λj x l i h hx hj hi hl=>?_) λl i h hi hl=>?_;obtain⟨hl1,hl2⟩:=hl;have hx:=q2 x hx;have fin:∀ (e:Expr) (i' h' : Int),Sz.szd e<=320->0<=i'->Ok (λs:Int×Int×List aU=>0<=s.1/\(s.2.2.length=j+1/\bP s.2.2<=(j+1)*400)) (some (i',h',l++[(⟨x,e⟩:aU)])):=λe i' h' U hi'=>.ret ⟨hi',by simp[hl1],by dsimp only;rw[sE,wc];omega⟩;unfold Nj;dsimp only;refine .bbi (.eq (mu (show r.rt_.length<=1048576 by omega) _) ?_);refine .bbi (.eq (lQ hs.g _) ?_);have hff:=EG hs (cy r x.Pos);generalize bT g (cy r x.Pos)=fs at hff;obtain⟨y,yb⟩:=fs;obtain⟨f1,f2⟩:=hff;dsimp only at f1 f2 ⊢;refine .bbi (.eq (Ul f2 _) ?_);generalize fc y x.Name=fa;obtain⟨a,ab⟩:=fa;dsimp only;refine .bbi (bz (cR Y 3 (cb hi)) λd i1 U hd hi1=>?_);have hd3:=hd.2.1 (by omega);refine .bgr (by constructor<;>omega) ?_;refine .bbi (bz (SL Y hs (r:=⟨r.Name,r.Left,r.rt_,r.ll_,l,r.cs_⟩) h5 rem _ _ _ _ (by omega) (by omega) hi1) λe i2 W he2 hi2=>?_);dsimp only at he2 ⊢;refine .bbi (.eq (xa (by have:=DU Y he2;omega)) ?_);refine .bif (λ_=>?_) λ_=>?_;refine .bgr (by constructor<;>omega) ?_;exact fin _ _ _ he2 hi2;refine .bbi (bz (sq Y _ (by simp) (cb hi2)) λe3 i3 h3 he3 hi3=>?_);refine .bgr (by constructor<;>omega) ?_;exact fin _ _ _ (by show Sz.szd e3<=320;have:Sz.szd e3<=8:=he3;omega) hi3;exact⟨_,rfl,⟨Z,⟨by have:=hl.2;dsimp only;omega,by have:=hl.1;dsimp only;omega⟩,rfl⟩,hi,rfl⟩
theorem R3 {g:ak}(hs:jY g.ss_){r:aa}(Z:RB r)(hc:r.cs_=[]){i h:Int}(hi:0<=i):Dr b (λq=>RB q/\q.es_=r.es_/\bP q.cs_<=200) (sW g r ⟨b,i,h⟩):=by
 have h5:=Z.2.2.1;unfold sW;refine Dt (λ_ (l:List Cn)=>l.length<=2/\bP l<=l.length*40) hi (by rw[hc];simp[bP]) (λj x l i h hx hj hi hl=>?_) λl i h hi hl=>?_;obtain⟨s1,_,_,s2⟩:=hs.2.2 x hx;unfold Ms;dsimp only;refine Dt (λ_ (l:List Cn)=>l.length<=2/\bP l<=l.length*40) hi hl (λj2 a l i h ha hj hi hl=>?_) λl i h hi hl=>.ret ⟨hi,hl⟩;have ha:=s2 a ha;unfold MG;dsimp only;refine .bbi ?_;refine .bif (λ_=>.bso ?_) λ_=>.bso ?_;refine .bbi ?_;refine .bif (λW=>?_) λ_=>.bso ?_;have hl2:l.length<2:=by have:=of_decide_eq_true W;omega
 refine .bbi (bz (fY Y _ (cb hi)) λy i1 U _ hi1=>?_);refine .bso ?_;dsimp only;refine .bif (λ_=>?_) λ_=>.bso ?_;refine .bbi (.bind (zU hs (r:=⟨r.Name,r.Left,r.rt_,r.ll_,r.es_,l⟩) h5 _) λq hq=>?_);refine .bbi (bz (sq Y _ hq (cb hi1)) λe i2 W he hi2=>?_);refine .bbi (.bind (zU hs (r:=⟨r.Name,r.Left,r.rt_,r.ll_,r.es_,l⟩) h5 _) λq3 hq3=>?_);refine .bbi (bz (sq Y _ hq3 (cb hi2)) λe3 i3 h3 he3 hi3=>?_);refine .bgr (by constructor<;>omega) ?_;refine .bso (.ret ⟨hi3,by dsimp only;simp;omega,?_⟩);dsimp only at he he3 ⊢;rw[sE,IB,Axz,Coz];have:=hl.2;omega;exact .ret ⟨hi1,hl⟩;dsimp only;refine .bif (λh=>by cases h) λ_=>.bso (.ret ⟨hi,hl⟩);refine .bbi ?_;refine .bif (λh=>by cases h) λ_=>.bso ?_;dsimp only;refine .bif (λh=>by cases h) λ_=>.bso (.ret ⟨hi,hl⟩);refine⟨_,rfl,⟨Z,rfl,?_⟩,hi,rfl⟩;have:=hl.1;have:=hl.2;dsimp only;have h80:l.length*40<=80:=by omega
 omega
end
theorem RZ {k:Nat}(hk:k<2):Ok (λx=>x.size<=1) (rp (k:Int)):=by
 have:k=0∨k=1:=by omega
 rcases this with rfl|rfl;exact⟨⟨#[48]⟩,by unfold rp;rfl,by decide⟩;refine⟨⟨#[49]⟩,?_,by decide⟩;unfold rp;rw[al (by decide)];have U:yy (((1:Nat):Int),(⟨#[]⟩:an))=some (.inl (0,⟨#[49]⟩)):=by
  unfold yy;dsimp only;rw[al (by decide),al (by decide),aD (by constructor<;>decide),aD (by decide),aD (by constructor<;>decide)];rfl
 have W:yy (0,(⟨#[49]⟩:an))=some (.inr ⟨#[49]⟩):=rfl;rw[fi U,db W];rfl
def R0 (r:aa):Prop:=RB r/\r.es_=[]/\r.cs_=[]
def R1 (r:aa):Prop:=RB r/\(bP r.es_<=12000/\r.es_.length<=30)/\bP r.cs_<=200
theorem R0.r1 {r:aa}(h:R0 r):R1 r:=⟨h.1,⟨by rw[h.2.1];simp[bP],by rw[h.2.1];simp⟩,by rw[h.2.2];simp[bP]⟩
def GB (g:ak):Prop:=jY g.ss_/\1<=g.rs_.length/\g.rs_.length<=8/\∀ r∈g.rs_,R1 r
theorem CE {x:an}{n:Nat}(h:x∈[(⟨#[115]⟩:an),(⟨#[116]⟩:an),(⟨#[117]⟩:an)].take n):x.size=1:=by
 have h:=Esz h;simp only[Dsz,Daz,or_false] at h;rcases h with h|h|h<;>rw[h]<;>rfl
theorem AU (x y:an):(x++y).size=x.size+y.size:=ByteArray.size_append
section
variable {b:List UInt8}(Y:b.length<=1048576)
include Y
theorem Ll (pl:Bool){i h:Int}(hi:0<=i):Dr b GB (qX pl ⟨b,i,h⟩):=by
 unfold qX;refine bz (cR Y 3 (cb hi)) λy i1 U hy hi1=>?_;have h3:=hy.2.1 (by omega);have h0:=hy.1;dsimp only;refine .grd (by constructor<;>omega) (.grd (by omega) (.grd (by simp;omega) ?_));have hlen:([(⟨#[115]⟩:an),(⟨#[116]⟩:an),(⟨#[117]⟩:an)].take ((1+y).toNat)).length=(1+y).toNat:=by rw[Brz];simp;omega
 refine pW (λk (l:List af)=>l.length=k/\∀ s∈l,SB s) hi1 ⟨rfl,by simp⟩ (λj l i h hj hi hl=>?_) λsyms i2 W hi2 hsyms=>?_;unfold Ni;dsimp only;refine .get (by rw[hlen];exact hj) λx hx=>?_;have hx:=CE hx;refine bz (IC Y (by omega) _ _ hi) λs i1 U hs hi1=>?_;refine .grd (by have:=hl.1;constructor<;>omega) (.ret ⟨hi1,by simp[hl.1],λa ha=>?_⟩);simp only[Ciz,Dsz,Daz,or_false] at ha;rcases ha with ha|ha;exact hl.2 a ha;rw[ha];exact hs;have hS:jY syms:=⟨by rw[hsyms.1];omega,by rw[hsyms.1];omega,hsyms.2⟩
 dsimp only;refine pW (λk (l:List aa)=>k<=l.length/\l.length<=3*k/\∀ r∈l,R0 r) hi2 ⟨by simp,by simp,by simp⟩ (λj l i h hj hi hl=>?_) λrules i3 h3 hi3 Z=>?_;unfold M8;dsimp only;refine .get (by rw[hlen];exact hj) λx hx=>?_;have hx:=CE hx;refine .grd (by rw[hx];decide) ?_;refine bz (fY Y _ (cb hi)) λy3 i1 U _ hi1=>?_;have hl1:=hl.1;have hl2:=hl.2.1;refine .grd (by constructor<;>omega) ?_;refine bz (cR Y 2 (cb hi1)) λy4 i4 h4 hy4 hi4=>?_;have h42:=hy4.2.1 (by omega);have h40:=hy4.1;refine .grd (by constructor<;>omega) ?_;dsimp only;refine pW (λk (q:List aa)=>q.length=l.length+1+k/\∀ r∈q,R0 r) hi4 ⟨by simp,λa ha=>?_⟩ (λj2 q i h hj2 hi hq=>?_) λq i6 h6 hi6 hq=>?_;simp only[Ciz,Dsz,Daz,or_false] at ha;rcases ha with ha|ha;exact hl.2.2 a ha;rw[ha];exact⟨⟨by dsimp only;rw[AU,hx];decide,by dsimp only;omega,by simp,by simp⟩,rfl,rfl⟩;unfold M9;dsimp only;refine .grd (by rw[hx];decide) ?_;refine .bind (RZ (by omega)) λnm hnm=>?_;refine .grd (by rw[AU,hx];have:(⟨#[112]⟩:an).size=1:=rfl;omega) ?_;refine bz (fY Y _ (cb hi)) λy6 i1 U _ hi1=>?_;refine bz (cR Y 3 (cb hi1)) λy7 i7 h7 hy7 hi7=>?_;have h72:=hy7.2.1 (by omega);have h70:=hy7.1;refine .grd (by constructor<;>omega) ?_;dsimp only;refine pW (λk (q:List an)=>q.length=k/\∀ x∈q,x.size<=8) hi7 ⟨rfl,by simp⟩ (λj4 q4 i h hj4 hi hq4=>?_) λq4 i8 h8 hi8 hq4=>?_;unfold Na;dsimp only;refine bz (ka Y (by intro h;have:=congrArg List.length h;rw[hlen] at this;simp at this;omega) (cb hi)) λz i1 U hz hi1=>?_;have hz:=CE hz;refine .grd (by have:=hq4.1;constructor<;>omega) (.ret ⟨hi1,by simp[hq4.1],λa ha=>?_⟩);simp only[Ciz,Dsz,Daz,or_false] at ha;rcases ha with ha|ha;exact hq4.2 a ha;rw[ha];omega;have hq41:=hq4.1;have hq1:=hq.1;refine .grd (by constructor<;>omega) (.ret ⟨hi8,by simp;omega,λa ha=>?_⟩);simp only[Ciz,Dsz,Daz,or_false] at ha;rcases ha with ha|ha;exact hq.2 a ha;rw[ha];exact⟨⟨by dsimp only;rw[AU,AU,hx];have:(⟨#[112]⟩:an).size=1:=rfl;omega,by dsimp only;omega,by dsimp only;omega,hq4.2⟩,rfl,rfl⟩;exact .ret ⟨hi6,by dsimp only;have:=hq.1;omega,by dsimp only;have:=hq.1;omega,hq.2⟩;dsimp only;have hr1:=Z.1;have hr2:=Z.2.1;have key:∀ rs:List aa,1<=rs.length->rs.length<=8->(∀ r∈rs,R0 r)->Ok (λr=>GB r.1/\CB b r.2) ((bE (BG pl ⟨b,i,h⟩ syms) (0,i3,h3,rs)).bind λ(s14,s15,s16)=>some ((⟨syms,s16⟩:ak),(⟨b,s14,s15⟩:aB))):=by
  intro rs g1 g2 g3;refine Ok.bind (Q:=λs:Int×Int×List aa=>0<=s.1/\s.2.2.length=rs.length/\∀ r∈s.2.2,R1 r) (Ay (P:=λs:Int×Int×Int×List aa=>0<=s.1/\s.1<=rs.length/\0<=s.2.1/\s.2.2.2.length=rs.length/\∀ (k:Nat) x,s.2.2.2[k]?=some x->R1 x/\(s.1<=(k:Int)->R0 x)) (λs=>(rs.length-s.1).toNat) ?_ _ ⟨Int.le_refl _,by dsimp only;omega,hi3,rfl,λk x hx=>⟨(g3 x (Bvz hx)).r1,λ_=>g3 x (Bvz hx)⟩⟩) ?_;rintro⟨p,i5,h5,q⟩ ⟨K,a2,a3,a4,a5⟩;dsimp only at K a2 a3 a4 a5;unfold BG;dsimp only;refine .ite (λhp=>?_) λ_=>.ret ⟨a3,a4,λr Z=>?_⟩;obtain⟨x,hx⟩:∃ x,q[p.toNat]?=some x:=⟨_,Cmz (by omega)⟩
  have hx0:=(a5 _ _ hx).2 (by omega);rw[hx];have fin:∀ (y:aa) (i' h' : Int),R1 y->0<=i'->(0<=p+1/\p+1<=rs.length/\0<=i'/\(Dnz q p.toNat y).length=rs.length/\∀ (k:Nat) x,(Dnz q p.toNat y)[k]?=some x->R1 x/\(p+1<=(k:Int)->R0 x))/\(rs.length-(p+1)).toNat<(rs.length-p).toNat:=λy i' h' hy hi'=>by
   refine⟨⟨by omega,by omega,hi',by rw[Clz];exact a4,λk x hk=>?_⟩,by omega⟩;rw[Cjz] at hk;by_cases e:p.toNat=k;rw[ao e] at hk;split at hk;cases hk;exact⟨hy,λh=>by omega⟩;cases hk;rw[al e] at hk;exact⟨(a5 _ _ hk).1,λh=>(a5 _ _ hk).2 (by omega)⟩
  refine .bgr K (.bbi (.bso ?_));refine .bbi (bz (SJ Y (g:=⟨syms,q⟩) hS hx0.1 hx0.2.1 _ a3) λy i6 h6 hy hi6=>?_);obtain⟨b1,b2,b3⟩:=hy;rw[hx0.2.2] at b3;dsimp only;refine .bif (λ_=>.bso ?_) λ_=>?_;exact .grd (by constructor<;>omega) (.ret (fin _ _ h6 ⟨b1,b2,by rw[b3];simp[bP]⟩ hi6));refine .bbi (bz (R3 Y (g:=⟨syms,q⟩) hS b1 b3 hi6) λy2 i7 h7 hy2 hi7=>?_);refine .bso ?_;exact .grd (by constructor<;>omega) (.ret (fin _ _ h7 ⟨hy2.1,by rw[hy2.2.1];exact b2,hy2.2.2⟩ hi7));obtain⟨k,hk⟩:=Elz Z;exact (a5 _ _ hk).1;rintro⟨s1,s2,s3⟩ ⟨c1,c2,c3⟩;exact⟨_,rfl,⟨hS,by dsimp only at c2 ⊢;omega,by dsimp only at c2 ⊢;omega,c3⟩,c1,rfl⟩
 refine .bif (λh8=>.bgr (by omega) (.bso ?_)) λh8=>.bso ?_;exact key _ (by rw[Brz];omega) (by rw[Brz];omega) λr hr'=>Z.2.2 r (Esz hr');exact key _ (by omega) (by omega) Z.2.2
end
theorem EF {α β:Type}{p:α->Bool}{g:α->β}{B:Nat}{f:Nat->α->List β->Option (List β)}:∀ (xs:List α) (i:Nat) (s:List β),(∀ k x s,x∈xs->s.length<B->f k x s=some (if p x=true then s++[g x] else s))->s.length+xs.length<=B ->
  eachL f i xs s=some (s++(xs.filter p).map g)
 | [],i,s,_,_=>by simp[eachL]
 | x::xs,i,s,hf,h=>by
  simp only[bH] at h;by_cases hp:p x=true;have ih:=EF xs (i+1) (s++[g x]) (λk y s hy=>hf k y s (by simp[hy])) (by simp;omega);simp[eachL,hf i x s (by simp) (by omega),hp,ih];have ih:=EF xs (i+1) s (λk y s hy=>hf k y s (by simp[hy])) (by omega);simp[eachL,hf i x s (by simp) (by omega),hp,ih]
theorem oL {α β:Type}{g:α->β}{B:Nat}{f:Nat->α->List β->Option (List β)}(xs:List α)(i:Nat)(s:List β)(hf:∀ k x s,x∈xs->s.length<B->f k x s=some (s++[g x]))(h:s.length+xs.length<=B) :
  eachL f i xs s=some (s++xs.map g):=by
 have:=EF (p:=λ_=>true) (g:=g) (B:=B) (f:=f) xs i s (λk x s hx hs=>by rw[hf k x s hx hs,ao rfl]) h;rw[this];congr 2;congr 1;simp
theorem KA {g:ak}{n:an}(h:(bT g n).2=true):∃ j y,eK g n=some j/\g.ss_[j]?=some y/\bT g n=(y,true)/\y.Name=n:=by
 unfold bT at h ⊢;cases hf:g.ss_.find? λy=>decide (y.Name=n) with
 | none=>rw[hf] at h;cases h
 | some y=>
  have hn:y.Name=n:=by simpa using List.find?_some (p:=λy:af=>decide (y.Name=n)) hf
  unfold eK;cases he:g.ss_.findIdx? λy=>decide (y.Name=n) with
  | none=>
   rw[List.findIdx?_eq_none_iff] at he;have:=he y (Ecz hf);simp[hn] at this
  | some j=>
   refine⟨j,y,rfl,?_,rfl,hn⟩;rw[List.findIdx?_eq_some_iff_getElem] at he;obtain⟨hj,U,W⟩:=he;rw[List.find?_eq_some_iff_getElem] at hf;obtain⟨_,i,hi,hy,h3⟩:=hf;have:i=j:=by
    rcases Nat.lt_trichotomy i j with hlt|heq|hgt;have:=W i hlt;rw[hy] at this;simp[hn] at this;exact heq;have:=h3 j hgt;simp at this;simp at U;exact absurd U this
   subst this;rw[Cmz hi,hy]
theorem Shape.known {g:ak}(h:Shape g){r:aa}(Z:r∈g.rs_){k:Nat}(hk:k<=r.rt_.length):(bT g (cy r (k:Int))).2=true:=by
 have h3:=h.brk 3 (by omega) (by omega) r Z;unfold iw at h3;rw[ao rfl,Bool.not_eq_false'] at h3;unfold qa at h3;rw[List.all_eq_true] at h3;exact h3 k (by rw[List.mem_range'_1];omega)
theorem Shape.right {g:ak}(h:Shape g){r:aa}(Z:r∈g.rs_){n:an}(hn:n∈r.rt_):(bT g n).2=true:=by
 obtain⟨k,hk⟩:=Elz hn;have hlt:=(List.getElem?_eq_some_iff.1 hk).1;have:=h.known Z (k:=k+1) (by omega);rwa[tP hk] at this
theorem Shape.left {g:ak}(h:Shape g){r:aa}(Z:r∈g.rs_):(bT g r.Left).2=true:=by
 have:=h.known Z (k:=0) (by omega);unfold cy at this;rwa[ao (by rfl)] at this
theorem Shape.attrs {g:ak}(h:Shape g){y:af}(hy:y∈g.ss_):y.as_.length<=4:=by
 have:=h.symB hy;unfold Go.Proofs.YtodhafdaelcnlaaGreat.symB at this;simp only[Bool.and_eq_true,decide_eq_true_eq] at this;exact this.2.2.1
theorem Shape.plain {g:ak}(h:Shape g)(n:an):(cL g n).length<=4:=by
 refine Bgz (Erz _ _) ?_;unfold bT;cases hf:g.ss_.find? λy=>decide (y.Name=n) with
 | none=>simp[zS]
 | some y=>exact h.attrs (Ecz hf)
theorem Kz (g:ak)(n:an):pE g n=some (gy g n):=by
 unfold pE zu gy eK;rw[oS (q:=λy:af=>decide (y.Name=n)) (c:=λk=>(k:Int)) λj x hx=>by
  unfold Hr yH;rw[aj,← apply_ite some]]
 cases g.ss_.findIdx? λy=>decide (y.Name=n) with
 | none=>rfl
 | some j=>dsimp only;rw[Adz];rfl
def Inv (g:ak)(all:List au):Prop:=all.length=g.ss_.length/\∀ (k:Nat) (y:af) (a:au),g.ss_[k]?=some y->all[k]?=some a->aI a/\a.N=((cL g y.Name).length:Int)
def zR:au:=⟨0,[]⟩
def vR (g:ak)(all:List au)(n:an):au:=all.getD ((eK g n).getD 0) zR
theorem Inv.at_ {g:ak}{all:List au}(h:Inv g all){n:an}(hn:(bT g n).2=true):∃ j,eK g n=some j/\j<g.ss_.length/\all[j]?=some (vR g all n)/\aI (vR g all n)/\(vR g all n).N=((cL g n).length:Int):=by
 obtain⟨j,y,U,W,h3,h4⟩:=KA hn;have hj:=(List.getElem?_eq_some_iff.1 W).1;have e:all[j]?=some (vR g all n):=by
  unfold vR;rw[U,Option.getD_some,Cwz,Cmz (by rw[h.1];exact hj)];rfl
 have:=h.2 j y _ W e;rw[h4] at this;exact⟨j,U,hj,e,this⟩
theorem hJ {g:ak}(hS:Shape g){r:aa}(Z:r∈g.rs_):r.rt_.length<=3:=by
 have:=hS.ruleB Z;unfold Go.Proofs.YtodhafdaelcnlaaGreat.ruleB at this;simp only[Bool.and_eq_true,decide_eq_true_eq] at this;exact this.2.1.1
noncomputable def eU (g:ak) (r:aa) (c:au):au:=(lU g r c).getD ⟨0,[]⟩
theorem DZ {g:ak}(h:dQ g){r:aa}(hl:fm r)(c:au):lU g r c=some (eU g r c)/\rv g r c=some (eU g r c):=by
 obtain⟨x,U,W,_⟩:=Yp (c:=c) h hl;unfold eU;rw[U,W];exact⟨rfl,rfl⟩
def mJ (all:List au):Nat:=(all.map uI).sum
theorem Inv.bound {g:ak}{all:List au}(h:Inv g all):mJ all<=all.length*(16*65535):=by
 have key:∀ l:List au,(∀ a∈l,aI a)->mJ l<=l.length*(16*65535):=by
  intro l
  induction l with
  | nil=>intro _;simp[mJ]
  | cons a l ih=>
   intro hv;have U:=Vz (hv a (by simp));have W:=ih λb Y=>hv b (by simp[Y]);unfold mJ at W ⊢;simp only[List.map_cons,List.sum_cons,bH];omega
 refine key all λa ha=>?_;obtain⟨k,hk⟩:=Elz ha;have hlt:=(List.getElem?_eq_some_iff.1 hk).1;exact (h.2 k _ a (Cmz (by rw[← h.1];exact hlt)) hk).1
theorem aI.len {a:au}(h:aI a):a.Rows.length<=16:=by have:=h.2.2.1;have:=h.2.1;omega
theorem I2 {α:Type}[Sz α](x:α):∀ (l:List α) (j:Nat),bP (l.set j x)<=bP l+Sz.szd x
 | [],_=>by simp[bP]
 | y::l,0=>by simp only[Dnz,bP];omega
 | y::l,j+1=>by have:=I2 x l j;simp only[Dnz,bP];omega
theorem Vx {α:Type}[Sz α](l:List α):bP (l.drop 1)<=bP l:=by
 cases l with
 | nil=>simp
 | cons x l=>simp only[List.drop,bP];omega
theorem L6 (a:Int):∀ (l:List Expr) (i:Nat),(∀ x∈l,∃ v,∀ m,dD x<=m->kR m x a=some v)->∃ r,∀ m,(∀ x∈l,dD x<=m)->findL (pv (kR m) a) i l ()=some r
 | [],i,_=>⟨.inl (),λm _=>rfl⟩
 | x::l,i,h=>by
  obtain⟨v,hv⟩:=h x (by simp);obtain⟨r,Z⟩:=L6 a l (i+1) λy hy=>h y (by simp[hy]);cases v with
  | true=>
   refine⟨r,λm hm=>?_⟩;have U:=Z m λy hy=>hm y (by simp[hy]);have W:pv (kR m) a i x ()=some (.inl ()):=by unfold pv;rw[hv m (hm x (by simp))];rfl
   rw[findL,W];exact U
  | false=>
   refine⟨.inr false,λm hm=>?_⟩;have W:pv (kR m) a i x ()=some (.inr false):=by unfold pv;rw[hv m (hm x (by simp))];rfl
   rw[findL,W];rfl
theorem Vw (e:Expr)(a:Int):∃ v,xQ e a=some v:=by
 have key:∀ e:Expr,∃ v,∀ m,dD e<=m->kR m e a=some v:=by
  intro e
  induction e using lK with
  | h e ih=>
   obtain⟨r,Z⟩:=L6 a e.Args 0 ih;have:∃ v,∀ m,dD e<=m+1->nL (kR m) e a=some v:=by
    cases r with
    | inl u=>exact⟨_,λm hm=>by unfold nL;rw[Z m λx hx=>by have:=j6 hx;omega];rfl⟩
    | inr q=>exact⟨_,λm hm=>by unfold nL;rw[Z m λx hx=>by have:=j6 hx;omega];rfl⟩
   obtain⟨v,hv⟩:=this;refine⟨v,λm hm=>?_⟩;obtain⟨m,rfl⟩:∃ q,m=q+1:=⟨m-1,by have:=kG e;omega⟩
   exact hv m hm
 obtain⟨v,hv⟩:=key e;exact⟨v,iA (dD e) hv⟩
def R2 (r:aa):Prop:=RB r/\bP r.es_<=60000/\bP r.cs_<=200
def kD (g:ak):Prop:=jY g.ss_/\1<=g.rs_.length/\g.rs_.length<=8/\∀ r∈g.rs_,R2 r
theorem SB.set {s:af}(h:SB s){x:aH}(hx:x.Name.size<=8):SB ⟨s.Name,Dnz s.as_ 0 x⟩:=by
 refine⟨h.1,by dsimp only;rw[Clz];exact h.2.1,by dsimp only;rw[Clz];exact h.2.2.1,λa ha=>?_⟩;rcases Etz ha with ha|ha;exact h.2.2.2 a ha;rw[ha];exact hx
theorem kD.set {ss:List af}{rs:List aa}(h:kD ⟨ss,rs⟩)(k:Nat){x:aa}(hx:R2 x):kD ⟨ss,rs.set k x⟩:=by
 refine⟨h.1,by dsimp only;rw[Clz];exact h.2.1,by dsimp only;rw[Clz];exact h.2.2.1,λa ha=>?_⟩;rcases Etz ha with ha|ha;exact h.2.2.2 a ha;rw[ha];exact hx
section
variable {b:List UInt8}(Y:b.length<=1048576)
include Y
theorem Uj {e:Expr}{n:Nat}(h:Sz.szd e<=n)(hn:n<=1048576)(a:Int):Ok (λ_=>True) (lR e a):=by
 unfold lR;refine .eq (xa (by have:=DU Y h;omega)) ?_;obtain⟨v,hv⟩:=Vw e a;exact .ite (λ_=>.eq hv (.ret trivial)) λ_=>.ret trivial
theorem Ui {i h:Int}(hi:0<=i):Dr b (λr=>RB r/\r.rt_.length<=3/\bP r.es_<=1200/\bP r.cs_<=200) (sV ⟨b,i,h⟩):=by
 unfold sV;refine bz (ka Y (by simp) (cb hi)) λy1 i1 U hy1 hi1=>?_;refine bz (ka Y (by simp) (cb hi1)) λy2 i2 W hy2 hi2=>?_;refine bz (fY Y _ (cb hi2)) λy3 i3 h3 _ hi3=>?_;refine bz (cR Y 4 (cb hi3)) λy4 i4 h4 hy4 hi4=>?_;have h44:=hy4.2.1 (by omega);have h40:=hy4.1;have n1:y1.size<=8:=by
  simp only[Dsz,Daz,or_false] at hy1;rcases hy1 with h|h|h<;>subst h<;>(try dsimp only)<;>decide
 have n2:y2.size<=8:=by
  simp only[Dsz,Daz,or_false] at hy2;rcases hy2 with h|h<;>subst h<;>(try dsimp only)<;>decide
 dsimp only;refine pW (λk (q:List an)=>q.length=k/\∀ x∈q,x.size<=8) hi4 ⟨rfl,by simp⟩ (λj4 q4 i h hj4 hi hq4=>?_) λq4 i8 h8 hi8 hq4=>?_;unfold Mr;dsimp only;refine bz (ka Y (by simp) (cb hi)) λz i1 U hz hi1=>?_;refine .grd (by have:=hq4.1;constructor<;>omega) (.ret ⟨hi1,by simp[hq4.1],λa ha=>?_⟩);simp only[Ciz,Dsz,Daz,or_false] at ha hz;rcases ha with ha|ha;exact hq4.2 a ha;rw[ha];rcases hz with h|h|h<;>subst h<;>(try dsimp only)<;>decide;refine bz (cR Y 4 (cb hi8)) λy6 i6 h6 hy6 hi6=>?_;have h64:=hy6.2.1 (by omega);dsimp only;refine pW (λk (q:List aU)=>q.length<=k/\bP q<=k*400) hi6 ⟨by simp,by simp[bP]⟩ (λj q i h hj hi hq=>?_) λq i9 h9 hi9 hq=>?_;have hq1:=hq.1;have hq2:=hq.2;unfold Mq;dsimp only;refine .bbi (bz (cR Y 3 (cb hi)) λy7 i7 h7 hy7 hi7=>?_);have h73:=hy7.2.1 (by omega);have h70:=hy7.1;refine .bgr (by constructor<;>omega) (.bbi (bz (Jq Y 2 (by omega) (by omega) (by omega) (cb hi7)) λe i8 h8 he hi8=>?_));have he:Sz.szd e<=320:=he;refine .bbi (.bind (Uj Y he (by omega) y4) λv _=>?_);refine .bif (λ_=>?_) λ_=>.bso (.ret ⟨hi8,Bgz hq1 (Nat.le_succ _),Bgz hq2 (Nat.mul_le_mul_right 400 (Nat.le_succ j))⟩);refine .bgr (by constructor<;>omega) (.bbi (bz (cR Y _ (cb hi8)) λy10 i9 h9 _ hi9=>?_));refine .bbi (bz (D7 Y (cb hi9)) λnm i10 h10 hnm hi10=>?_);refine .bgr (by constructor<;>omega) (.bso (.ret ⟨hi10,by dsimp only;simp;omega,?_⟩));dsimp only;rw[sE,wc];have hnm:nm.size=1:=hnm;dsimp only;omega;have hq2:=hq.2;have hR:RB ⟨y1,y2,q4,y3,q,[]⟩:=⟨n1,n2,by have:=hq4.1;dsimp only;omega,hq4.2⟩
 refine bz (fY Y _ (cb hi9)) λy12 i12 h12 _ hi12=>?_;refine .ite (λ_=>?_) λ_=>⟨_,rfl,⟨hR,by have:=hq4.1;dsimp only;omega,by dsimp only;omega,by simp[bP]⟩,hi12,rfl⟩
 refine bz (cR Y _ (cb hi12)) λy13 i13 h13 _ hi13=>?_;refine .eq rfl ?_;refine .grd (by simp only[Dyz];constructor<;>omega) ⟨_,rfl,⟨hR,by have:=hq4.1;dsimp only;omega,by dsimp only;omega,?_⟩,hi13,rfl⟩;dsimp only;rw[List.nil_append];show 1+Sz.szd (⟨(⟨#[115]⟩:an),(⟨#[99]⟩:an),_,_⟩:Cn)+0<=200;rw[IB,sh Y,sh Y,my Y];decide
theorem Uh {i h:Int}(hi:0<=i):Dr b R2 (sT ⟨b,i,h⟩):=by
 unfold sT;refine bz (Ui Y hi) λr i1 U Z hi1=>?_;obtain⟨r1,r2,r3,r4⟩:=Z;refine bz (cR Y 12 (cb hi1)) λy2 i2 W _ hi2=>?_;dsimp only;refine .ite (λ_=>?_) λ_=>.ite (λ_=>?_) λ_=>.ite (λ_=>?_) λ_=>.ite (λ_=>?_) λ_=>.ite (λ_=>?_) λ_=>?_;refine bz (ka Y (by simp) (cb hi2)) λz i3 h3 hz hi3=>⟨_,rfl,⟨⟨?_,r1.2.1,r1.2.2.1,r1.2.2.2⟩,by dsimp only;omega,r4⟩,hi3,rfl⟩
 simp only[Dsz,Daz,or_false] at hz;rcases hz with h|h|h<;>subst h<;>(try dsimp only)<;>decide;refine .grd (by simp only[bH,Dyz];constructor<;>omega) ⟨_,rfl,⟨⟨r1.1,r1.2.1,by simp;omega,λx hx=>?_⟩,by dsimp only;omega,r4⟩,hi2,rfl⟩;simp only[Ciz,Dsz,Daz,or_false] at hx;rcases hx with h|h|h;exact r1.2.2.2 x h;rw[h];decide;rw[h];decide;refine bz (cR Y 5 (cb hi2)) λy4 i4 h4 hy4 hi4=>?_;have h40:=hy4.1;have h44:=hy4.2.1 (by omega);refine .grd (by constructor<;>omega) ?_;refine bz (S4 Y (cb hi4)) λe i5 h5 he hi5=>?_;have he:Sz.szd e<=30000:=he;have hl:=gG r.es_;refine .grd (by constructor<;>omega) ⟨_,rfl,⟨r1,?_,r4⟩,hi5,rfl⟩;dsimp only;rw[sE,wc];have:(⟨#[97]⟩:an).size=1:=rfl;dsimp only;omega;exact⟨_,rfl,⟨⟨r1.1,by dsimp only;decide,r1.2.2.1,r1.2.2.2⟩,by dsimp only;omega,r4⟩,hi2,rfl⟩;refine .grd (by constructor<;>omega) ?_;refine bz (cR Y _ (cb hi2)) λy6 i6 h6 hy6 hi6=>?_;have h60:=hy6.1;have h61:=hy6.2.1 (by omega);refine .grd h60 (.grd (by omega) ⟨_,rfl,⟨⟨r1.1,r1.2.1,by dsimp only;rw[Brz];omega,λx hx=>r1.2.2.2 x (Esz hx)⟩,by dsimp only;omega,r4⟩,hi6,rfl⟩);exact⟨_,rfl,⟨r1,by dsimp only;omega,r4⟩,hi2,rfl⟩
theorem Ug {i h:Int}(hi:0<=i):Dr b SB (sS ⟨b,i,h⟩):=by
 unfold sS;refine bz (ka Y (by simp) (cb hi)) λnm i1 U hnm hi1=>?_;have hnm:nm.size<=8:=by
  simp only[Dsz,Daz,or_false] at hnm;rcases hnm with h|h|h|h<;>subst h<;>(try dsimp only)<;>decide
 refine bz (IC Y hnm _ _ hi1) λs i2 W hs hi2=>?_;refine bz (cR Y 10 (cb hi2)) λy3 i3 h3 _ hi3=>?_;have hl:=hs.2.1;dsimp only;refine .ite (λ_=>?_) λ_=>.ite (λ_=>?_) λ_=>.ite (λ_=>?_) λ_=>.ite (λ_=>?_) λ_=>.ite (λ_=>?_) λ_=>?_;exact .get (by omega) λx hx=>⟨_,rfl,hs.set (by exact hs.2.2.2 x hx),hi3,rfl⟩
 exact bz (cR Y 5 (cb hi3)) λy4 i4 h4 _ hi4=>.get (by omega) λx hx=>⟨_,rfl,hs.set (by exact hs.2.2.2 x hx),hi4,rfl⟩
 exact bz (cR Y 6 (cb hi3)) λy4 i4 h4 _ hi4=>.get (by omega) λx hx=>⟨_,rfl,hs.set (by exact hs.2.2.2 x hx),hi4,rfl⟩
 refine bz (ka Y (by simp) (cb hi3)) λz i4 h4 hz hi4=>.get (by omega) λx hx=>⟨_,rfl,hs.set ?_,hi4,rfl⟩
 simp only[Dsz,Daz,or_false] at hz;rcases hz with h|h|h<;>subst h<;>(try dsimp only)<;>decide;refine Ok.bind (Q:=λl:List aH=>1<=l.length/\l.length<=5/\∀ a∈l,a.Name.size<=8) (Ay (P:=λl:List aH=>1<=l.length/\l.length<=5/\∀ a∈l,a.Name.size<=8) (λl=>5-l.length) (λl hl=>?_) _ ⟨hs.2.1,hs.2.2.1,hs.2.2.2⟩) λl hl=>⟨_,rfl,⟨hs.1,hl.1,hl.2.1,hl.2.2⟩,hi3,rfl⟩
 unfold Mp;refine .ite (λh5=>?_) λ_=>.ret hl;refine .get (by simp;omega) λx hx=>.grd (by constructor<;>omega) (.ret ⟨⟨by simp,by simp;omega,λa ha=>?_⟩,by simp;omega⟩);simp only[Ciz,Dsz,Daz,or_false] at ha hx;rcases ha with ha|ha;exact hl.2.2 a ha;rw[ha];dsimp only;rcases hx with h|h|h|h|h<;>subst h<;>(try dsimp only)<;>decide;exact⟨_,rfl,hs,hi3,rfl⟩
theorem Lk {i h:Int}(hi:0<=i):Dr b kD (qW ⟨b,i,h⟩):=by
 unfold qW;refine bz (fY Y _ (cb hi)) λy1 i1 U _ hi1=>?_;refine bz (Ll Y y1 hi1) λg i2 W hg hi2=>?_;obtain⟨ss,rs⟩:=g;obtain⟨g1,g2,g3,g4⟩:=hg;dsimp only at g1 g2 g3 g4;have hG:kD ⟨ss,rs⟩:=⟨g1,g2,g3,λr Z=>by obtain⟨a,c,d⟩:=g4 r Z;exact⟨a,by omega,d⟩⟩
 refine bz (cR Y _ (cb hi2)) λy3 i3 h3 hy3 hi3=>?_;have h30:=hy3.1;have h31:=hy3.2.1 (by dsimp only;omega);dsimp only at h31;refine bz (cR Y 14 (cb hi3)) λy4 i4 h4 _ hi4=>?_;have hk:y3.toNat<rs.length:=by omega
 dsimp only;have same:Ok (λr:ak×aB=>kD r.1/\CB b r.2) (some ((⟨ss,rs⟩:ak),(⟨b,i4,h4⟩:aB))):=⟨_,rfl,hG,hi4,rfl⟩
 refine .ite (λ_=>?_) λ_=>.ite (λ_=>?_) λ_=>.ite (λ_=>?_) λ_=>.ite (λ_=>?_) λ_=>.ite (λ_=>?_) λ_=>.ite (λ_=>?_) λ_=>.ite (λ_=>?_) λ_=>same;exact bz (Uh Y hi4) λr i5 h5 Z hi5=>.grd h30 (.get hk λx hx=>⟨_,rfl,hG.set _ Z,hi5,rfl⟩);refine bz (Ug Y hi4) λs i5 h5 hs hi5=>.get (by have:=g1.1;omega) λx hx=>⟨_,rfl,⟨⟨by dsimp only;rw[Clz];exact g1.1,by dsimp only;rw[Clz];exact g1.2.1,λa ha=>?_⟩,g2,g3,hG.2.2.2⟩,hi5,rfl⟩
 rcases Etz ha with ha|ha;exact g1.2.2 a ha;rw[ha];exact hs;refine .get (by omega) λx hx=>.grd h30 (.get hk λr Z=>⟨_,rfl,hG.set _ ?_,hi4,rfl⟩);have a:=hG.2.2.2 r Z;exact⟨⟨(g4 x hx).1.1,a.1.2.1,a.1.2.2.1,a.1.2.2.2⟩,a.2.1,a.2.2⟩;refine .grd h30 (.get hk λr Z=>.ite (λh0=>.grd (by omega) ⟨_,rfl,hG.set _ ?_,hi4,rfl⟩) λ_=>same);have a:=hG.2.2.2 r Z;exact⟨a.1,by have:=Vx r.es_;have:=a.2.1;dsimp only;omega,a.2.2⟩;refine .grd h30 (.get hk λr Z=>.ite (λh0=>?_) λ_=>same);have a:=g4 r Z;have hl:=gG r.es_;have a2:=a.2.1;refine .get (by omega) λx hx=>.grd (by constructor<;>omega) ⟨_,rfl,hG.set _ ⟨a.1,?_,a.2.2⟩,hi4,rfl⟩;have:=Aq hx;dsimp only;rw[sE];omega;refine bz (ka Y (by simp) (cb hi4)) λz i5 h5 hz hi5=>.grd h30 (.get hk λr Z=>⟨_,rfl,hG.set _ ?_,hi5,rfl⟩);have a:=hG.2.2.2 r Z;refine⟨⟨a.1.1,?_,a.1.2.2.1,a.1.2.2.2⟩,a.2.1,a.2.2⟩;simp only[Dsz,Daz,or_false] at hz;rcases hz with h|h<;>subst h<;>(try dsimp only)<;>decide;refine .grd h30 (.get hk λr Z=>.ite (λh0=>?_) λ_=>same);refine bz (JF Y (cb hi4)) λe i5 h5 he hi5=>?_;have he:Sz.szd e<=20480:=he;have a:=g4 r Z;have a2:=a.2.1;refine .get (by omega) λx hx=>⟨_,rfl,hG.set _ ⟨a.1,?_,a.2.2⟩,hi5,rfl⟩
 have U:=Aq hx;have W:=I2 (⟨x.At,e⟩:aU) r.es_ 0;have h3:Sz.szd x=x.At.Name.size+Sz.szd x.Expr:=wc x.At x.Expr;rw[wc] at W;dsimp only;omega
end
theorem Pf {r:aa}(h:R2 r):Sz.szd r<=60300:=by
 have U:=we (m:=8) h.1.2.2.2;have:=h.1.2.2.1;have:=h.1.1;have:=h.1.2.1;have:=h.2.1;have:=h.2.2;have h9:r.rt_.length*(8+1)<=45:=by omega
 rw[nE];omega
theorem Pe {s:af}(h:SB s):Sz.szd s<=60:=by
 have U:=we (m:=8) (l:=s.as_) λa ha=>by rw[YS];exact h.2.2.2 a ha
 have:=h.2.2.1;have:=h.1;have h9:s.as_.length*(8+1)<=45:=by omega
 rw[Mi];omega
theorem Hj {g:ak}(h:kD g):Sz.szd g<=1048576:=by
 have U:=we (m:=60) (l:=g.ss_) λs hs=>Pe (h.1.2.2 s hs);have W:=we (m:=60300) (l:=g.rs_) λr Z=>Pf (h.2.2.2 r Z);have h3:g.ss_.length*(60+1)<=183:=by have:=h.1.2.1;omega
 have h4:g.rs_.length*(60300+1)<=482408:=by have:=h.2.2.1;omega
 rw[xF];omega
end Go.Proofs.YtodhafdaelcnlaaGreat
set_option maxRecDepth 100000
set_option maxHeartbeats 4000000
namespace Go.Proofs.YtodhafdaelcnlaaGreat
open Go Go.E
def Eg (tb:List (List Int))(k j:Nat):Prop:=∃ row,tb[k]?=some row/\((j:Nat):Int)∈row
inductive Dp (tb:List (List Int)):Nat->Nat->Prop
 | one {k j:Nat} (h:Eg tb k j):Dp tb k j
 | step {k m j:Nat} (h:Eg tb k m) (W:Dp tb m j):Dp tb k j
theorem Dp.trans {tb:List (List Int)}{a b c:Nat}(h:Dp tb a b)(k:Dp tb b c):Dp tb a c:=by
 induction h with
 | one h=>exact .step h k
 | step h _ ih=>exact .step h (ih k)
def TB (tb:List (List Int)):Prop:=tb.length<=1000/\∀ row∈tb,∀ x∈row,-1<=x/\x<(tb.length:Int)
theorem wZ (l:List Int)(x:Int):rb l x=some (decide (x∈l)):=by
 have h:=Fo (c:=true) (xs:=l) (i:=0) (p:=λ_ y=>y=x) (f:=xV x) λk y _=>⟨λe=>by unfold xV;rw[ao e],λe=>by unfold xV;rw[al e]⟩
 unfold rb;by_cases hx:x∈l;obtain⟨k,hk⟩:=Elz hx;rw[h.1 ⟨k,x,hk,rfl⟩,decide_eq_true hx];rfl;rw[h.2 (λk y hk e=>hx (e▸Bvz hk)),decide_eq_false hx];rfl
theorem Uf (tb:List (List Int))(h:tb.length<=1000):eachL xw 0 tb ([]:List Int)=some (Bqz tb.length (-1)):=by
 obtain⟨s',e,hp⟩:=iW (P:=λi (s:List Int)=>s=Bqz i (-1)) (xs:=tb) (i:=0) (s:=[]) (f:=xw) rfl λk x s hk hs=>by
  have hlt:=(List.getElem?_eq_some_iff.1 hk).1;refine⟨s++[-1],?_,?_⟩;unfold xw;rw[aD (by rw[hs,Ddz];constructor<;>omega)];rw[hs,List.replicate_succ']
 rw[e,hp,Adz]
def iT (l:List Int)(m:Int)(k:Nat)(row:List Int)(s:List Int×List Int):List Int×List Int:=
 if s.1.getD k 0<0/\(l.any λj=>row.contains j)=true then (s.1.set k m,s.2++[(k:Int)]) else s
theorem Ee {n k:Nat}(hk:k<n){m:Int}(hm:0<m)(row:List Int):∀ (l:List Int) (i:Nat) (s:List Int×List Int),s.1.length=n->s.2.length<=1000000->eachL (kP m k row) i l s=some (iT l m k row s)
 | [],i,s,_,_=>by rw[eachL];unfold iT;rw[al (by simp)]
 | j::l,i,(far,nx),hl,hs=>by
  dsimp only at hl hs;have hg:far[k]?=some (far.getD k 0):=by rw[Cwz,Cmz (by omega)];rfl
  rw[eachL];by_cases h0:far.getD k 0<0;by_cases hj:j∈row;have e:kP m k row i j (far,nx)=some (far.set k m,nx++[(k:Int)]):=by
   unfold kP;dsimp only;rw[hg,aj,ao h0,wZ,aj,ao (decide_eq_true hj),aD (by constructor<;>omega)];rfl
  have hg2:(far.set k m).getD k 0=m:=by rw[Cwz,Euz (by omega)];rfl
  have e2:∀ (l:List Int) (i:Nat),eachL (kP m k row) i l (far.set k m,nx++[(k:Int)])=some (far.set k m,nx++[(k:Int)]):=by
   intro l
   induction l with
   | nil=>intro i;rw[eachL]
   | cons x l ih=>
    intro i;rw[eachL,show kP m k row i x (far.set k m,nx++[(k:Int)])=some (far.set k m,nx++[(k:Int)]) by
     unfold kP;dsimp only;rw[Euz (by omega),aj,al (by omega)];rfl,aj,ih]
  rw[e,aj,e2];unfold iT;rw[ao ⟨h0,by rw[List.any_cons,Bool.or_eq_true];exact .inl (List.contains_iff_mem.2 hj)⟩];have e:kP m k row i j (far,nx)=some (far,nx):=by
   unfold kP;dsimp only;rw[hg,aj,ao h0,wZ,aj,al (by rw[decide_eq_false hj];decide)];rfl
  rw[e,aj,Ee hk hm row l (i+1) (far,nx) hl hs];unfold iT;dsimp only;have:(j::l).any (λj=>row.contains j)=l.any (λj=>row.contains j):=by
   rw[List.any_cons,show row.contains j=false by rw[Bool.eq_false_iff];exact λh=>hj (List.contains_iff_mem.1 h),Bool.false_or]
  rw[this];have e:kP m k row i j (far,nx)=some (far,nx):=by
   unfold kP;dsimp only;rw[hg,aj,al h0];rfl
  rw[e,aj,Ee hk hm row l (i+1) (far,nx) hl hs];unfold iT;dsimp only;rw[al (λh=>h0 h.1),al (λh=>h0 h.1)]
structure FI (tb:List (List Int)) (i:Nat) (far l:List Int) (m:Int):Prop where
 len:far.length=tb.length
 m1:1<=m
 rng:∀ (k:Nat) (x:Int),far[k]?=some x->x = -1∨(1<=x/\x<m)
 sound:∀ k:Nat,0<far.getD k 0->Dp tb k i
 lst:∀ x∈l,∃ j:Nat,x=(j:Int)/\j<tb.length/\(j=i∨Dp tb j i)
 comp:∀ k j:Nat,Eg tb k j->(j=i∨0<far.getD j 0)->((j:Nat):Int)∉l->0<far.getD k 0
theorem FI.pos {tb:List (List Int)}{i:Nat}{far l:List Int}{m:Int}(h:FI tb i far l m){k:Nat}(hk:k<tb.length)(hn:¬ far.getD k 0<0):0<far.getD k 0:=by
 have hg:far[k]?=some (far.getD k 0):=by rw[Cwz,Cmz (by rw[h.len];exact hk)];rfl
 rcases h.rng k _ hg with e|e<;>omega
def fH (l:List Int):Nat:=l.countP λx=>decide (x<0)
structure FR (tb:List (List Int)) (i:Nat) (f0 l:List Int) (m:Int) (k:Nat) (s:List Int×List Int):Prop where
 len:s.1.length=tb.length
 old:∀ j:Nat,0<f0.getD j 0->s.1.getD j 0=f0.getD j 0
 val:∀ j:Nat,s.1.getD j 0=f0.getD j 0∨(f0.getD j 0<0/\s.1.getD j 0=m)
 new:∀ j:Nat,f0.getD j 0<0->0<s.1.getD j 0->((j:Nat):Int)∈s.2
 nx:∀ x∈s.2,∃ j:Nat,x=(j:Int)/\j<tb.length/\Dp tb j i
 nl:s.2.length<=k
 cnt:fH s.1+s.2.length=fH f0
 sound:∀ j:Nat,0<s.1.getD j 0->Dp tb j i
 comp:∀ q j:Nat,q<k->Eg tb q j->((j:Nat):Int)∈l->0<s.1.getD q 0
theorem Ue {l:List Int}{k:Nat}{m:Int}(hk:k<l.length)(h:l.getD k 0<0)(hm:0<m):fH (l.set k m)+1=fH l:=by
 unfold fH
 induction l generalizing k with
 | nil=>simp at hk
 | cons x l ih=>
  cases k with
  | zero=>
   have h:x<0:=h;rw[List.set_cons_zero,List.countP_cons_of_neg (by simp;omega),List.countP_cons_of_pos (by simpa using h)]
  | succ k=>
   rw[List.set_cons_succ,List.countP_cons,List.countP_cons];have:=ih (k:=k) (by simpa using hk) h;omega
theorem SI {tb:List (List Int)}{i:Nat}{f0 l:List Int}{m:Int}(hF:FI tb i f0 l m){k:Nat}{row:List Int}(Z:tb[k]?=some row){s:List Int×List Int}(h:FR tb i f0 l m k s):FR tb i f0 l m (k+1) (iT l m k row s):=by
 have hk:=(List.getElem?_eq_some_iff.1 Z).1;have hm:=hF.m1;unfold iT;by_cases hc:s.1.getD k 0<0/\(l.any λj=>row.contains j)=true;rw[ao hc];obtain⟨h0,ha⟩:=hc;obtain⟨x,hx,hxr⟩:=List.any_eq_true.1 ha;have hxr:=List.contains_iff_mem.1 hxr;obtain⟨j0,e0,_,hj0⟩:=hF.lst x hx;have hE:Eg tb k j0:=⟨row,Z,e0▸hxr⟩
 have hD:Dp tb k i:=by
  rcases hj0 with e|e;subst e;exact .one hE;exact .step hE e
 have f0k:f0.getD k 0<0:=by
  rcases h.val k with e|e;rw[← e];exact h0;exact e.1
 have hset:∀ j:Nat,(s.1.set k m).getD j 0=if j=k then m else s.1.getD j 0:=λj=>by
  rw[Cwz,Cwz,Cjz];by_cases e:k=j;subst e;rw[ao rfl,ao (by rw[h.len];exact hk),ao rfl];rfl;rw[al e,al (λe2=>e e2.symm)]
 refine⟨by rw[Clz];exact h.len,λj hj=>?_,λj=>?_,λj hj hp=>?_,λx hx=>?_,by simp;have:=h.nl;omega,?_,λj hj=>?_,λq j hq hE hl=>?_⟩;rw[hset];by_cases e:j=k;subst e;omega;rw[al e];exact h.old j hj;rw[hset];by_cases e:j=k;subst e;exact .inr ⟨f0k,ao rfl⟩;rw[al e];exact h.val j;rw[hset] at hp;by_cases e:j=k;subst e;exact List.mem_append_right _ (by simp);rw[al e] at hp;exact List.mem_append_left _ (h.new j hj hp);rcases List.mem_append.1 hx with hx|hx;exact h.nx x hx;rw[Bpz] at hx;exact⟨k,hx,hk,hD⟩;have:=Ue (l:=s.1) (k:=k) (m:=m) (by rw[h.len];exact hk) h0 (by omega);have:=h.cnt;rw[Axz,Coz];dsimp only;omega;rw[hset] at hj;by_cases e:j=k;subst e;exact hD;rw[al e] at hj;exact h.sound j hj;rw[hset];by_cases e:q=k;rw[ao e];omega;rw[al e];exact h.comp q j (by omega) hE hl;rw[al hc];refine⟨h.len,h.old,h.val,h.new,h.nx,by have:=h.nl;omega,h.cnt,h.sound,λq j hq hE hl=>?_⟩;by_cases e:q=k;subst e;obtain⟨row',hr',hj⟩:=hE;rw[Z] at hr';cases hr';have ha:(l.any λj=>row.contains j)=true:=List.any_eq_true.2 ⟨_,hl,List.contains_iff_mem.2 hj⟩;have h0:¬ s.1.getD q 0<0:=λh0=>hc ⟨h0,ha⟩;rcases h.val q with e|e;rw[e] at h0 ⊢;exact hF.pos hk h0;rw[e.2];omega;exact h.comp q j (by omega) hE hl
theorem Vv {tb:List (List Int)}{i:Nat}{f0 l:List Int}{m:Int}(hT:tb.length<=1000)(hF:FI tb i f0 l m)(hm:m<=100000):∃ s,eachL (xv l m) 0 tb (f0,([]:List Int))=some s/\FI tb i s.1 s.2 (m+1)/\fH s.1+s.2.length=fH f0:=by
 have hm1:=hF.m1;obtain⟨s,e,hp⟩:=iW (P:=λk (s:List Int×List Int)=>FR tb i f0 l m k s) (xs:=tb) (i:=0) (s:=(f0,([]:List Int))) (f:=xv l m)
  ⟨hF.len,λ_ _=>rfl,λ_=>.inl rfl,λj U W=>(by dsimp only at W;omega),λx hx=>(nomatch hx),Nat.le_refl _,rfl,hF.sound,λq j hq=>(by omega)⟩ λk row s hk hs=>by
  rw[Adz] at hs ⊢;have hlt:=(List.getElem?_eq_some_iff.1 hk).1;refine⟨_,?_,SI hF hk hs⟩;obtain⟨far,nx⟩:=s;unfold xv;dsimp only;rw[Ee (n:=tb.length) hlt (by omega) row l 0 (far,nx) hs.len (by have:=hs.nl;dsimp only at this ⊢;omega)];rfl
 rw[Adz] at hp;refine⟨s,e,⟨hp.len,by omega,λk x hx=>?_,hp.sound,λx hx=>?_,λk j hE hj hn=>?_⟩,hp.cnt⟩;have hg:s.1.getD k 0=x:=by rw[Cwz,hx];rfl
 rcases hp.val k with e|e;have hlt:=(List.getElem?_eq_some_iff.1 hx).1;rw[hp.len] at hlt;have hg0:f0[k]?=some (f0.getD k 0):=by rw[Cwz,Cmz (by rw[hF.len];exact hlt)];rfl
 rcases hF.rng k _ hg0 with e2|e2<;>omega;omega;obtain⟨j,e1,e2,e3⟩:=hp.nx x hx;exact⟨j,e1,e2,.inr e3⟩;have hk:k<tb.length:=by obtain⟨row,Z,_⟩:=hE;exact (List.getElem?_eq_some_iff.1 Z).1
 by_cases hl:((j:Nat):Int)∈l;exact hp.comp k j hk hE hl;have hold:j=i∨0<f0.getD j 0:=by
  rcases hj with e|e;exact .inl e;rcases hp.val j with e2|e2;rw[e2] at e;exact .inr e;exact absurd (hp.new j e2.1 e) hn
 have h0:=hF.comp k j hE hold hl;rw[hp.old k h0];exact h0
theorem Ud {tb:List (List Int)}{i:Nat}(hT:tb.length<=1000):∀ (d:Nat) (f0 l:List Int) (m:Int),FI tb i f0 l m->m+fH f0<=90000->fH f0=d->∃ far x,bE (tC tb) (f0,l,m)=some (far,x)/\FI tb i far [] (far.length+90000):=by
 intro d
 induction d using Nat.strongRecOn with
 | ind d ih=>
  intro f0 l m hF Y hd;have done:∀ (f1:List Int) (m1:Int),FI tb i f1 [] m1->m1<=90001->∃ far x,bE (tC tb) (f1,[],m1)=some (far,x)/\FI tb i far [] (far.length+90000):=λf1 m1 U hm=>by
   refine⟨f1,[],db (by unfold tC;dsimp only;rw[al (by simp)]),U.len,by omega,λk x hx=>?_,U.sound,U.lst,U.comp⟩;rcases U.rng k x hx with e|e;exact .inl e;have:0<f1.length:=Nat.lt_of_le_of_lt (Nat.zero_le _) (List.getElem?_eq_some_iff.1 hx).1;exact .inr ⟨e.1,by omega⟩
  cases l with
  | nil=>exact done f0 m hF (by omega)
  | cons y l=>
   obtain⟨s,e,U,W⟩:=Vv hT hF (by omega);have hm:=hF.m1;rw[fi (s':=(s.1,s.2,m+1)) (by unfold tC;dsimp only;rw[ao (by rw[bH];omega),e,aj,aD (by constructor<;>omega)])];cases hs:s.2 with
   | nil=>rw[hs] at U;exact done s.1 (m+1) U (by omega)
   | cons z t=>
    rw[hs,bH] at W;rw[← hs];exact ih (fH s.1) (by omega) s.1 s.2 (m+1) U (by omega) rfl
theorem SH (l:List Int):fH l<=l.length:=List.countP_le_length
theorem RY {tb:List (List Int)}(hT:tb.length<=1000){i:Nat}(hi:i<tb.length):∃ far,ti tb (i:Int)=some far/\far.length=tb.length/\(∀ x∈far,x<=100000)/\∀ k:Nat,0<far.getD k 0↔Dp tb k i:=by
 have hrep:∀ k:Nat,(Bqz tb.length (-1:Int)).getD k 0 = -1∨(Bqz tb.length (-1:Int)).getD k 0=0:=λk=>by
  rw[Cwz,List.getElem?_replicate];by_cases h:k<tb.length;rw[ao h];exact .inl rfl;rw[al h];exact .inr rfl
 have h0:FI tb i (Bqz tb.length (-1)) [(i:Int)] 1:=by
  refine⟨Ddz,by omega,λk x hx=>?_,λk hk=>?_,λx hx=>?_,λk j hE hj hn=>?_⟩;exact .inl (List.eq_of_mem_replicate (Bvz hx));rcases hrep k with e|e<;>omega;rw[Bpz] at hx;exact⟨i,hx,hi,.inl rfl⟩;rcases hj with e|e;subst e;exact absurd (List.mem_singleton.2 rfl) hn;rcases hrep j with e2|e2<;>omega
 have hn:=SH (Bqz tb.length (-1:Int));rw[Ddz] at hn;obtain⟨far,x,e,hF⟩:=Ud hT _ _ _ _ h0 (by omega) rfl;refine⟨far,?_,hF.len,λx hx=>?_,λk=>⟨hF.sound k,λh=>?_⟩⟩;unfold ti;rw[Uf tb hT,aj,e];rfl;obtain⟨k,hk⟩:=Elz hx;have:=hF.len;rcases hF.rng k x hk with e|e<;>omega;have key:∀ {a b:Nat},Dp tb a b->b=i->0<far.getD a 0:=λh=>by
  induction h with
  | one h=>intro e;exact hF.comp _ _ h (.inl e) (λh=>nomatch h)
  | step h _ ih=>intro e;exact hF.comp _ _ h (.inr (ih e)) (λh=>nomatch h)
 exact key h rfl
def yO (far:List Int)(i n x:Int):Option Bool:=(if 1<n then ((if x=i then some (true,true) else grd (0<=x) <| (far[x.toNat]?).bind λx3=>grd (aR (n-1)) <| some (false,!(decide (x3=(n-1))))).bind λ(s13,s14)=>some (true,s14)) else some (false,false)).bind λ(s11,s12)=>some s12
def CC (i n x:Int):Option Bool:=if x<0 then some true else ((if n=1 then some (true,!(decide (x=i))) else some (false,false)).bind λ(s8,s9)=>some s9)
theorem Tv (far:List Int)(i n:Int)(j:Nat)(x s:Int):B6 i far n j x s=((CC i n x).bind λs7=>(if s7=true then some true else yO far i n x).bind λs10=>if s10=true then some s else ((if s<0 then some true else some (decide (x<s))).bind λs15=>if s15=true then some x else some s)).bind λs6=>some s6:=rfl
theorem RX {far:List Int}{i n x:Int}(hn:0<n)(hn2:n<=200000)(h:0<=x)(hx:x<(far.length:Int)):∃ b,yO far i n x=some b:=by
 unfold yO;by_cases hn1:1<n;rw[ao hn1];by_cases hi:x=i;rw[ao hi];exact⟨_,rfl⟩;rw[al hi,aD h,Cmz (by omega),aj,aD (by constructor<;>omega)];exact⟨_,rfl⟩;rw[al hn1];exact⟨_,rfl⟩
theorem I1 {tb:List (List Int)}(hT:TB tb){far:List Int}(hl:far.length=tb.length)(i:Int){n:Int}(hn:0<n)(hn2:n<=200000):∀ (l:List Int) (j:Nat) (s:Int),(∀ x∈l,-1<=x/\x<(tb.length:Int))->-1<=s->s<(tb.length:Int)->∃ s',eachL (B6 i far n) j l s=some s'/\-1<=s'/\s'<(tb.length:Int)
 | [],j,s,_,U,W=>⟨s,rfl,U,W⟩
 | x::l,j,s,hx,U,W=>by
  have hx0:=hx x (by simp);have tail:∀ b:Bool,∃ s1,(if b=true then some s else ((if s<0 then some true else some (decide (x<s))).bind λs15=>if s15=true then some x else some s))=some s1/\-1<=s1/\s1<(tb.length:Int):=by
   intro b;cases b with
   | true=>exact⟨s,rfl,U,W⟩
   | false=>
    rw[al Evz];by_cases h:s<0;rw[ao h];exact⟨x,rfl,hx0⟩;rw[al h,aj];by_cases h2' : x<s;rw[ao (decide_eq_true h2')];exact⟨x,rfl,hx0⟩;rw[al (by rw[decide_eq_false h2'];decide)];exact⟨s,rfl,U,W⟩
  have hA:∃ b,CC i n x=some b/\(b=false->0<=x):=by
   unfold CC;by_cases h:x<0;rw[ao h];exact⟨true,rfl,λe=>nomatch e⟩;rw[al h];by_cases hn1:n=1;rw[ao hn1];exact⟨_,rfl,λ_=>by omega⟩;rw[al hn1];exact⟨_,rfl,λ_=>by omega⟩
  obtain⟨a,ea,ha⟩:=hA;have mid:∃ b,(if a=true then some true else yO far i n x)=some b:=by
   cases a with
   | true=>exact⟨true,rfl⟩
   | false=>
    rw[al Evz];exact RX hn hn2 (ha rfl) (by rw[hl];exact hx0.2)
  obtain⟨b,eb⟩:=mid;obtain⟨s1,e1,e2,e3⟩:=tail b;obtain⟨s',f1,f2⟩:=I1 hT hl i hn hn2 l (j+1) s1 (λy hy=>hx y (by simp[hy])) e2 e3;refine⟨s',?_,f2⟩;rw[eachL,Tv,ea,aj,eb,aj,e1,aj,aj];exact f1
theorem Dq (x:Int):fZ x 0=some (if 0<x then x else 0):=by
 unfold fZ;by_cases h:0<x;rw[ao h,ao h];rw[al h,al h]
theorem Ky {tb:List (List Int)}(hT:TB tb){far:List Int}(hl:far.length=tb.length)(hf:∀ x∈far,x<=100000)(i:Int):∀ (n:Nat) (out:List Int) (at' : Int),n+out.length<=200000->0<=at'->at'<(tb.length:Int)->∃ l,bE (uw tb i far) (out,at',(n:Int))=some l/\l.length=out.length+n
 | 0,out,at',_,_,_=>⟨out,db (by unfold uw;dsimp only;rw[al (by omega)]),rfl⟩
 | n+1,out,at',hn,h0,U=>by
  have hlt:at'.toNat<tb.length:=by omega
  obtain⟨s,e,e2,e3⟩:=I1 hT hl i (n:=((n+1:Nat):Int)) (by omega) (by omega) tb[at'.toNat] 0 (-1) (hT.2 _ (List.getElem_mem hlt)) (by omega) (by omega);obtain⟨l,f1,f2⟩:=Ky hT hl hf i n (out++[at']) (if 0<s then s else 0) (by simp;omega) (by split<;>omega) (by split<;>omega);refine⟨l,?_,by rw[f2];simp;omega⟩;rw[fi (s':=(out++[at'],(if 0<s then s else 0),(n:Int)))];exact f1;unfold uw;dsimp only;rw[ao (by omega),aD (by constructor<;>omega),aD h0,Cmz hlt,aj,e,aj,Dq,aj,aD (by constructor<;>omega)];rw[show ((n+1:Nat):Int)-1=(n:Int) by omega]
theorem RV {tb:List (List Int)}(hT:TB tb){i:Nat}(hi:i<tb.length):∃ l,ui tb (i:Int)=some l/\l.length<=100000/\(0<l.length↔Dp tb i i):=by
 obtain⟨far,e,hl,hf,hd⟩:=RY hT.1 hi;have hg:far[i]?=some (far.getD i 0):=by rw[Cwz,Cmz (by omega)];rfl
 unfold ui;rw[e,aj,aD (by omega),cE,hg,aj];by_cases h0:0<far.getD i 0;have Y:=hf _ (Bvz hg);obtain⟨n,hn⟩:∃ n:Nat,far.getD i 0=(n:Int):=⟨(far.getD i 0).toNat,by omega⟩
 obtain⟨l,f1,f2⟩:=Ky hT hl hf (i:Int) n [] (i:Int) (by simp;omega) (by omega) (by omega);rw[hn,f1];simp only[Dyz] at f2;exact⟨l,rfl,by omega,⟨λ_=>(hd i).1 h0,λ_=>by omega⟩⟩;rw[db (r:=([]:List Int)) (by unfold uw;dsimp only;rw[al h0])];exact⟨[],rfl,by simp,⟨λh=>by simp at h,λh=>absurd ((hd i).2 h) h0⟩⟩
theorem Uc {tb:List (List Int)}(hT:TB tb):∃ l,eachL (uh tb) 0 tb ([]:List Int)=some l/\(0<l.length↔∃ k,Dp tb k k):=by
 obtain⟨s',e,hp⟩:=iW (P:=λi (s:List Int)=>0<s.length↔∃ k,k<i/\Dp tb k k) (xs:=tb) (i:=0) (s:=([]:List Int)) (f:=uh tb) ⟨λh=>by simp at h,λ⟨k,h,_⟩=>by omega⟩ λk row s hk hs=>by
  rw[Adz] at hs ⊢;have hlt:=(List.getElem?_eq_some_iff.1 hk).1;obtain⟨l,e,U,W⟩:=RV hT hlt;have hval:uh tb k row s=some (if 0<l.length/\(s.length=0∨l.length<s.length) then l else s):=by
   unfold uh;rw[e,aj];by_cases c1:0<l.length;rw[ao (by omega:0<((l.length:Nat):Int))];by_cases c2:s.length=0;rw[ao (by omega:((s.length:Nat):Int)=0),ao ⟨c1,.inl c2⟩];rfl;rw[al (by omega:¬ ((s.length:Nat):Int)=0)];by_cases c3:l.length<s.length;rw[ao ⟨c1,.inr c3⟩,show decide (((l.length:Nat):Int)<((s.length:Nat):Int))=true from decide_eq_true (by omega)];rfl;rw[al (by omega),show decide (((l.length:Nat):Int)<((s.length:Nat):Int))=false from decide_eq_false (by omega)];rfl;rw[al (by omega:¬ 0<((l.length:Nat):Int)),al (λh=>c1 h.1)];rfl
  refine⟨_,hval,?_⟩;by_cases c:0<l.length/\(s.length=0∨l.length<s.length);rw[ao c];exact⟨λ_=>⟨k,by omega,W.1 c.1⟩,λ_=>c.1⟩;rw[al c];constructor;intro h;obtain⟨j,hj,hd⟩:=hs.1 h;exact⟨j,by omega,hd⟩;rintro⟨j,hj,hd⟩;by_cases e:j=k;subst e;have:=W.2 hd;omega;exact hs.2 ⟨j,by omega,hd⟩
 rw[Adz] at hp;refine⟨s',e,hp.trans ⟨λ⟨k,_,h⟩=>⟨k,h⟩,λ⟨k,h⟩=>⟨k,?_,h⟩⟩⟩;cases h with
 | one h=>obtain⟨row,Z,_⟩:=h;exact (List.getElem?_eq_some_iff.1 Z).1
 | step h _=>obtain⟨row,Z,_⟩:=h;exact (List.getElem?_eq_some_iff.1 Z).1
end Go.Proofs.YtodhafdaelcnlaaGreat
