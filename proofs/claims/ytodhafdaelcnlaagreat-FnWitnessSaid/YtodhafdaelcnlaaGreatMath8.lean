/- What those partial functions come to: plain lemmas on data; each bears its conditions in its statement. -/
import Derived.Test.YtodhafdaelcnlaaGreatMath7
set_option linter.unusedVariables false
set_option linter.unusedSimpArgs false
set_option linter.ambiguousOpen false
set_option linter.unusedSectionVars false
set_option linter.unnecessarySimpa false
set_option maxRecDepth 100000
set_option maxHeartbeats 4000000
open List renaming getD_eq_getElem?_getD->Cwz,map_set->Fqz,map_append->Diz,getElem?_eq_getElem->Cmz,mem_of_getElem?->Bvz,length_range->Flz,getElem?_map->Czz,foldl_cons->Fmz,replicate->Bqz,map_replicate->Dhz,take_of_length_le->Biz,length_nil->Dyz,nil_append->Edz,length_append->Axz,getElem?_set->Cjz,getElem?_append_left->Atz,mem_singleton->Bpz,getElem?_replicate->Ewz,append_assoc->Azz
open Bool renaming false_ne_true->Fpz
open Nat renaming zero_add->Adz,le_refl->Acz
open Option renaming getD_some->Cbz
namespace Go.Proofs.YtodhafdaelcnlaaGreat
open Go Go.E
noncomputable def lU (g:al) (r:ae) (x:au) (c:List Int) (q:List (List aw)×Bool):List (List aw)×Bool:=
 if cG g r x∈(aC q.1).getD (ba g r.Left) [] then q else (q.1.set (ba g r.Left) (q.1.getD (ba g r.Left) []++[⟨cG g r x,r,c⟩]),true)
theorem UZ (F:List (List aw))(k:Nat):(aC F).getD k []=(F.getD k []).map aw.sy_:=by
 rw[Cwz,Cwz,lI];cases F[k]? <;> rfl
theorem TD (g:al)(r:ae)(x:au)(c:List Int)(q:List (List aw)×Bool):(aC (lU g r x c q).1,(lU g r x c q).2)=stA (ba g r.Left) (cG g r x) (aC q.1,q.2):=by
 unfold lU stA;dsimp only;by_cases h:cG g r x∈(aC q.1).getD (ba g r.Left) [];rw[ao h,ao h];rw[an h,an h];dsimp only;rw[UZ];unfold aC;rw[Fqz,Diz];rfl
theorem UY {g:al}(h0:Sz.szd g<=1048576)(hS:Shape g){r:ae}(Z:r∈g.rs_){F:List (List aw)}{b:Bool}(hi:aH g (aC F)){c:List Int}(hc:c.length<=1048576)(x:au) :
  pT c x g F b r (fl g r.Left)=some (true,(lU g r x c (F,b)).1,(lU g r x c (F,b)).2):=by
 obtain⟨U,K,h3,h4,h5⟩:=hi.at_ (hS.left Z);have hle:=hi.le hS (hS.left Z);have hw:ba g r.Left<F.length:=by unfold aC at K;rwa[bc] at K
 obtain⟨fs,hf⟩:∃ fs,F[ba g r.Left]?=some fs:=⟨_,Cmz hw⟩
 have hm:ei g (aC F) r.Left=fs.map aw.sy_:=by
  rw[lI,hf] at h3;exact (Option.some.inj h3).symm
 have hgd:(aC F).getD (ba g r.Left) []=fs.map aw.sy_:=hm;have hgf:F.getD (ba g r.Left) []=fs:=by rw[Cwz,hf];rfl
 rw[hm,bc] at hle;unfold pT lU;dsimp only;rw[hgd,hgf,(wH (gZ h0) (by have:=eQ hS Z;show r.rt_.length<=1048576;omega) x).2,aj,U,aE (by omega),cd,hf,aj,I6,aj];by_cases hs:cG g r x∈fs.map aw.sy_;rw[ao (decide_eq_true hs),ao hs];rw[decide_eq_false hs,an Fpz,an hs,AX c hc,aj,aE (by constructor<;>omega)]
noncomputable def eN (g:al) (r:ae) (A:List (List au)) (q:List (List aw)×Bool) (c:List Nat):List (List aw)×Bool:=lU g r (dQ g r (dq g r A c)) (iL c) q
theorem Jv (g:al)(r:ae)(A:List (List au))(q:List (List aw)×Bool)(c:List Nat):(aC (eN g r A q c).1,(eN g r A q c).2)=stA (ba g r.Left) (eY g r A c) (aC q.1,q.2):=TD g r _ _ q
theorem Yb {g:al}(h0:Sz.szd g<=1048576)(hS:Shape g){r:ae}(Z:r∈g.rs_){A:List (List au)}(hA:aH g A){F:List (List aw)}{b:Bool}(hi:aH g (aC F))(he:bJ A (aC F)){c:List Nat}(h:Ch g r A c) :
  qm (iL c) g F b r (fl g r.Left) g r F (iL (r.rt_.map (ba g)))=some (true,(eN g r A (F,b) c).1,(eN g r A (F,b) c).2,(eN g r A (F,b) c).1):=by
 have h3:=eQ hS Z;obtain⟨_,e2,_⟩:=nD h0 (Nat.le_trans (gv Z) h0) (nM hS Z hA h);unfold qm;rw[AV hS Z hA he h,aj,e2,aj,UY h0 hS Z (b:=b) hi (c:=iL c) (by rw[fT,h.1];omega) (dQ g r (dq g r A c))];rfl
theorem AJ {g:al}(h0:Sz.szd g<=1048576)(hS:Shape g){r:ae}(Z:r∈g.rs_){A:List (List au)}{q:List (List aw)×Bool}(hi:aH g (aC q.1))(he:bJ A (aC q.1))(c:List Nat):aH g (aC (eN g r A q c).1)/\bJ A (aC (eN g r A q c).1):=by
 have mv:=Ai (A:=A) hS Z (q:=(aC q.1,q.2)) hi he (Az h0 hS r (dQ g r (dq g r A c)));have e:=congrArg Prod.fst (Jv g r A q c);dsimp only at e;rw[e];exact⟨mv.inv,mv.ext⟩
theorem LH {g:al}(h0:Sz.szd g<=1048576)(hS:Shape g){r:ae}(Z:r∈g.rs_){A:List (List au)}(hA:aH g A) :
  ∀ (d n:Nat) (q:List (List aw)×Bool),n<cj (aV g r A)->cj (aV g r A)-n=d->aH g (aC q.1)->bJ A (aC q.1) ->
   bA (nb (iL (aV g r A)) g r (fl g r.Left) g r (iL (r.rt_.map (ba g)))) (iL (bh (aV g r A) n),q.1,q.2)=some (.inr ((((bY (aV g r A)).drop n).foldl (eN g r A) q).1,(((bY (aV g r A)).drop n).foldl (eN g r A) q).2,(((bY (aV g r A)).drop n).foldl (eN g r A) q).1))
 | 0,n,q,hn,hd,hi,he=>by omega
 | d+1,n,q,hn,hd,hi,he=>by
  obtain⟨F,b⟩:=q;dsimp only at hi he ⊢;have hch:=Ax hn;have e1:=Yb h0 hS Z hA (b:=b) hi he hch;obtain⟨hi1,he1⟩:=AJ h0 hS Z (q:=(F,b)) hi he (bh (aV g r A) n);have h3:=eQ hS Z;have hcl:=jr g r A;obtain⟨q,e2,hq⟩:=xp (cs:=aV g r A) (ds:=bh (aV g r A) n) rfl (o8 _ _) (λi d c U K=>⟨sB hn i d c U K,by have:=wv hS Z hA c (Bvz K);omega⟩) (by omega);obtain⟨q1,q2⟩:=q;have hdrop:(bY (aV g r A)).drop n=bh (aV g r A) n::(bY (aV g r A)).drop (n+1):=by
   have hl:n<(bY (aV g r A)).length:=by unfold bY;rw[bc,Flz];exact hn
   have hg:(bY (aV g r A))[n]?=some (bh (aV g r A) n):=by
    unfold bY;rw[Czz,List.getElem?_range hn];rfl
   rw[Cmz hl] at hg;rw[List.drop_eq_getElem_cons hl,Option.some.inj hg]
  rw[hdrop,Fmz];generalize hQ:eN g r A (F,b) (bh (aV g r A) n)=Q at e1 hi1 he1;unfold oE at hq;rw[tn _ _ hn] at hq;by_cases hlast:n+1<cj (aV g r A);rw[ao hlast] at hq;obtain⟨k0,x,hx,hxl,hset⟩:=hq;dsimp only at k0 hx hset;have hs:nb (iL (aV g r A)) g r (fl g r.Left) g r (iL (r.rt_.map (ba g))) (iL (bh (aV g r A) n),F,b)=some (.inl (iL (bh (aV g r A) (n+1)),Q.1,Q.2)):=by
   unfold nb;dsimp only;rw[e1,aj];dsimp only;rw[ao rfl,e2,aj];dsimp only;rw[an (by omega),aE k0,hx,aj,aE ⟨by omega,by omega⟩,← hset];rfl
  rw[eh hs];exact LH h0 hS Z hA d (n+1) Q hlast (by omega) hi1 he1;rw[an hlast] at hq;dsimp only at hq;have:(bY (aV g r A)).drop (n+1)=[]:=List.drop_eq_nil_of_le (by unfold bY;rw[bc,Flz];omega);rw[this];exact cF (by
   unfold nb;dsimp only;rw[e1,aj];dsimp only;rw[ao rfl,e2,aj];dsimp only;rw[ao hq];rfl)
noncomputable def cx (g:al) (A:List (List au)) (q:List (List aw)×Bool) (r:ae):List (List aw)×Bool:=(bY (aV g r A)).foldl (eN g r A) q
theorem LG (g:al)(r:ae)(A:List (List au)):∀ (cs:List (List Nat)) (q:List (List aw)×Bool),(aC (cs.foldl (eN g r A) q).1,(cs.foldl (eN g r A) q).2)=cs.foldl (λq c=>stA (ba g r.Left) (eY g r A c) q) (aC q.1,q.2)
 | [],q=>rfl
 | c::cs,q=>by rw[Fmz,Fmz,LG g r A cs,Jv]
theorem KE (g:al)(A:List (List au))(q:List (List aw)×Bool)(r:ae):(aC (cx g A q r).1,(cx g A q r).2)=fW g A (aC q.1,q.2) r:=LG g r A _ q
theorem UX {g:al}(h0:Sz.szd g<=1048576)(hS:Shape g){r:ae}(Z:r∈g.rs_){A:List (List au)}(hA:aH g A){q:List (List aw)×Bool}(hi:aH g (aC q.1))(he:bJ A (aC q.1)) :
  qh (iL (aV g r A)) g q.1 q.2 r (fl g r.Left) g r q.1 (iL (r.rt_.map (ba g)))=some ((cx g A q r).1,(cx g A q r).2,(cx g A q r).1):=by
 unfold qh cx;rw[yl,aj];have h3:=eQ hS Z;have hcl:=jr g r A;by_cases hz:0∈aV g r A;rw[ao (decide_eq_true hz),AK hz];rfl;rw[decide_eq_false hz,an Fpz,fT,aE (by refine⟨?_,?_,?_⟩<;>omega)];have hp:0<cj (aV g r A):=tm λc hc=>Nat.pos_of_ne_zero λe=>hz (e▸hc);have e:=LH h0 hS Z hA _ 0 q hp rfl hi he;rw[qU,show iL (Bqz (aV g r A).length 0)=Bqz (aV g r A).length (0:Int) by unfold iL;rw[Dhz];rfl,List.drop_zero] at e;rw[e];rfl
theorem WR {g:al}(h0:Sz.szd g<=1048576)(hS:Shape g){r:ae}(Z:r∈g.rs_){A:List (List au)}(hA:aH g A){q:List (List aw)×Bool}(hi:aH g (aC q.1))(he:bJ A (aC q.1)) :
  qj g r q.1 (iL (A.map (·.length))) g q.1 q.2 r (fl g r.Left)=some (cx g A q r):=by
 have h3:=eQ hS Z;have e:=UX h0 hS Z hA hi he;unfold qj;obtain⟨s',e2,hp⟩:=iw (P:=λk (s:List Int×List Int)=>s=((iL (aV g r A)).take k,(iL (r.rt_.map (ba g))).take k)) (f:=vR g (iL (A.map (·.length)))) (xs:=r.rt_) (i:=0) (s:=([],[])) (by rw[List.take_zero,List.take_zero]) λk n s hn hs=>by
  rw[Adz] at hs ⊢;rw[hs];exact⟨_,xL hS Z hA hn,rfl⟩
 rw[Adz] at hp;rw[e2,hp,Biz (by rw[fT,jr];omega),Biz (by rw[fT,bc];omega),aj];dsimp only;rw[e];rfl
theorem AU {g:al}(h0:Sz.szd g<=1048576)(hS:Shape g){r:ae}(Z:r∈g.rs_){A:List (List au)}{q:List (List aw)×Bool}(hi:aH g (aC q.1))(he:bJ A (aC q.1)):aH g (aC (cx g A q r).1)/\bJ A (aC (cx g A q r).1):=by
 have mv:=Ay h0 hS Z (q:=(aC q.1,q.2)) hi he;have e:=congrArg Prod.fst (KE g A q r);dsimp only at e;rw[e];exact⟨mv.inv,mv.ext⟩
theorem LC {g:al}(h0:Sz.szd g<=1048576)(hS:Shape g){A:List (List au)}(hA:aH g A):∀ (rs:List ae) (i:Nat) (q:List (List aw)×Bool),(∀ r∈rs,r∈g.rs_)->aH g (aC q.1)->bJ A (aC q.1) ->
  eachL (pE g (iL (A.map (·.length)))) i rs (q.1,q.2)=some (rs.foldl (cx g A) q)
 | [],i,q,_,hi,he=>rfl
 | r::rs,i,q,hrs,hi,he=>by
  have Z:=hrs r (by simp);have e1:=WR h0 hS Z hA (q:=q) hi he;obtain⟨hi1,he1⟩:=AU h0 hS Z hi he;have e2:=LC h0 hS hA rs (i+1) (cx g A q r) (λx hx=>hrs x (by simp[hx])) hi1 he1;rw[eachL,show pE g (iL (A.map (·.length))) i r (q.1,q.2)=some ((cx g A q r).1,(cx g A q r).2) by
   unfold pE;dsimp only;rw[AZ,aj,e1];rfl,aj,Fmz]
  exact e2
noncomputable def eV (g:al) (F:List (List aw)):List (List aw)×Bool:=g.rs_.foldl (cx g (aC F)) (F,false)
theorem LB (g:al)(A:List (List au)):∀ (rs:List ae) (q:List (List aw)×Bool),(aC (rs.foldl (cx g A) q).1,(rs.foldl (cx g A) q).2)=rs.foldl (fW g A) (aC q.1,q.2)
 | [],q=>rfl
 | r::rs,q=>by rw[Fmz,Fmz,LB g A rs,KE]
theorem F7 (g:al)(F:List (List aw)):(aC (eV g F).1,(eV g F).2)=lD g (aC F):=LB g _ _ _
theorem Mx {g:al}(h0:Sz.szd g<=1048576)(hS:Shape g){F:List (List aw)}(hi:aH g (aC F)) :
  pL g F=some (if (eV g F).2=true then .inl (eV g F).1 else .inr (eV g F).1):=by
 have e:=LC h0 hS hi g.rs_ 0 (F,false) (λ_ h=>h) hi (.rfl' _);have hl:F.length<=1048576:=by
  have U:=hi.1;have K:=hS.syms.2;unfold aC at U;rw[bc] at U;omega
 unfold pL;rw[ud hl,aj,e,aj];show (if (eV g F).2=true then some (Sum.inl (eV g F).1) else some (Sum.inr (eV g F).1))=_;cases (eV g F).2<;>rfl
def db (F:List (List aw)):List aD:=F.map λl=>⟨l.map λf=>f.rule.Name,l.map aw.ca_⟩
theorem Ju (F:List (List aw))(k:Nat):(db F)[k]?=(F[k]?).map λl=>(⟨l.map λf=>f.rule.Name,l.map aw.ca_⟩:aD):=by unfold db;rw[Czz]
theorem OY {g:al}(h0:Sz.szd g<=1048576)(hS:Shape g){r:ae}(Z:r∈g.rs_){A:List (List au)}(hA:aH g A){q:List (List aw)×Bool}(hi:aH g (aC q.1)){c:List Nat}(h:Ch g r A c)(k:Nat) :
  xC g A r (fl g r.Left) k (iL c) (aC q.1,db q.1,q.2)=some (aC (eN g r A q c).1,db (eN g r A q c).1,(eN g r A q c).2):=by
 obtain⟨F,b⟩:=q;dsimp only at hi ⊢;obtain⟨U,K,h3,h4,h5⟩:=hi.at_ (hS.left Z);have hle:=hi.le hS (hS.left Z);have hw:ba g r.Left<F.length:=by unfold aC at K;rwa[bc] at K
 obtain⟨fs,hf⟩:∃ fs,F[ba g r.Left]?=some fs:=⟨_,Cmz hw⟩
 have hm:ei g (aC F) r.Left=fs.map aw.sy_:=by
  rw[lI,hf] at h3;exact (Option.some.inj h3).symm
 have hgd:(aC F).getD (ba g r.Left) []=fs.map aw.sy_:=hm;have hgf:F.getD (ba g r.Left) []=fs:=by rw[Cwz,hf];rfl
 rw[hm,bc] at hle;have hsm:(aC F)[ba g r.Left]?=some (fs.map aw.sy_):=by rw[lI,hf];rfl
 have hrc:(db F)[ba g r.Left]?=some ⟨fs.map λf=>f.rule.Name,fs.map aw.ca_⟩:=by rw[Ju,hf];rfl
 obtain⟨e1,_,_⟩:=nD h0 (Nat.le_trans (gv Z) h0) (nM hS Z hA h);unfold xC;dsimp only;rw[tj hS Z hA h,aj,e1,aj,(wH (gZ h0) (by have:=eQ hS Z;show r.rt_.length<=1048576;omega) _).1,aj,U,aE (by omega),cd,hsm,aj,Jy,aj];unfold eN lU;dsimp only;rw[hgd,hgf];by_cases hs:cG g r (dQ g r (dq g r A c))∈fs.map aw.sy_;rw[ao (decide_eq_true hs),ao hs];rfl;rw[decide_eq_false hs,an Fpz,an hs,aE (by rw[bc];constructor<;>omega),aE (by omega),hrc,aj];dsimp only;rw[aE (by rw[bc];constructor<;>omega),aE (by rw[bc];constructor<;>omega),aj];dsimp only;unfold aC db;rw[Fqz,Fqz,Diz,Diz,Diz];rfl
theorem HS {g:al}(h0:Sz.szd g<=1048576)(hS:Shape g){r:ae}(Z:r∈g.rs_){A:List (List au)}(hA:aH g A):∀ (cs:List (List Nat)) (k:Nat) (q:List (List aw)×Bool),(∀ c∈cs,Ch g r A c)->aH g (aC q.1)->bJ A (aC q.1) ->
  eachL (xC g A r (fl g r.Left)) k (cs.map iL) (aC q.1,db q.1,q.2)=some (aC (cs.foldl (eN g r A) q).1,db (cs.foldl (eN g r A) q).1,(cs.foldl (eN g r A) q).2)
 | [],k,q,_,_,_=>rfl
 | c::cs,k,q,hc,hi,he=>by
  rw[List.map_cons,eachL,OY h0 hS Z hA hi (hc c (by simp)) k,aj,Fmz];obtain⟨hi1,he1⟩:=AJ h0 hS Z hi he c;exact HS h0 hS Z hA cs (k+1) (eN g r A q c) (λx hx=>hc x (by simp[hx])) hi1 he1
theorem HR {g:al}(h0:Sz.szd g<=1048576)(hS:Shape g){A:List (List au)}(hA:aH g A):∀ (rs:List ae) (i:Nat) (q:List (List aw)×Bool),(∀ r∈rs,r∈g.rs_)->aH g (aC q.1)->bJ A (aC q.1) ->
  eachL (xB g A) i rs (aC q.1,db q.1,q.2)=some (aC (rs.foldl (cx g A) q).1,db (rs.foldl (cx g A) q).1,(rs.foldl (cx g A) q).2)
 | [],i,q,_,hi,he=>rfl
 | r::rs,i,q,hrs,hi,he=>by
  have Z:=hrs r (by simp);have hl:A.length<=1048576:=by have U:=hA.1;have K:=hS.syms.2;omega
  obtain⟨hi1,he1⟩:=AU h0 hS Z hi he;have e:xB g A i r (aC q.1,db q.1,q.2)=some (aC (cx g A q r).1,db (cx g A q r).1,(cx g A q r).2):=by
   unfold xB;dsimp only;rw[xo hl,aj,xK hS Z hA,aj,qv,aj,HS h0 hS Z hA _ 0 q (λc hc=>mb hc) hi he];rfl
  rw[eachL,e,aj,Fmz];exact HR h0 hS hA rs (i+1) (cx g A q r) (λx hx=>hrs x (by simp[hx])) hi1 he1
theorem UW {g:al}(hS:Shape g){A:List (List au)}(hA:aH g A):eachL FU 0 A ([]:List (List au))=some A:=by
 have hl:A.length<=4:=by have U:=hA.1;have K:=hS.syms.2;omega
 rw[nH (g:=λx:List au=>x) (B:=1048576) A 0 [] (λk x s hx hs=>by
  obtain⟨j,hj⟩:=List.getElem?_of_mem hx;have hlt:=(List.getElem?_eq_some_iff.1 hj).1;obtain⟨y,hy⟩:∃ y,g.ss_[j]?=some y:=⟨_,Cmz (by rw[← hA.1];exact hlt)⟩
  have hx16:x.length<=16:=xM (hS.plain y.Name) (hA.2 j y x hy hj).1 (hA.2 j y x hy hj).2;unfold FU;rw[aE (by rw[Dyz];constructor<;>omega),aE (by constructor<;>omega)]) (by rw[Dyz];omega),Edz,List.map_id']
theorem HQ {g:al}(h0:Sz.szd g<=1048576)(hS:Shape g){F:List (List aw)}(hi:aH g (aC F)) :
  xA g (aC F,db F)=some (if (eV g F).2=true then .inl (aC (eV g F).1,db (eV g F).1) else .inr (aC (eV g F).1,db (eV g F).1)):=by
 unfold xA;dsimp only;rw[UW hS hi,aj,HR h0 hS hi g.rs_ 0 (F,false) (λ_ h=>h) hi (.rfl' _),aj];show (if (eV g F).2=true then some (Sum.inl (aC (eV g F).1,db (eV g F).1)) else some (Sum.inr (aC (eV g F).1,db (eV g F).1)))=_;cases (eV g F).2<;>rfl
inductive Tr:Type
 | node (rule:ar) (ks:List Tr)
mutual
def Tr.sz:Tr->Nat
 | .node _ ks=>1+Tr.szs ks
def Tr.szs:List Tr->Nat
 | []=>0
 | t::ts=>Tr.sz t+Tr.szs ts
end
theorem Tr.pos:∀ t:Tr,0<t.sz
 | .node _ ks=>by rw[Tr.sz];omega
def cM (g:al)(F:List (List aw))(n:ar)(d:Int):Option aw:=(F.getD (ba g n) [])[d.toNat]?
def fc (rec:aw->Option Tr)(g:al)(F:List (List aw)):List ar->List Int->Option (List Tr)
 | [],[]=>some []
 | n::ns,d::ds=>(cM g F n d).bind λf=>(rec f).bind λt=>(fc rec g F ns ds).bind λts=>some (t::ts)
 | [],_::_=>none
 | _::_,[]=>none
def dZ (g:al)(F:List (List aw)):Nat->aw->Option Tr
 | 0,_=>none
 | n+1,f=>(fc (dZ g F n) g F f.rule.rt_ f.ca_).bind λks=>some (.node f.rule.Name ks)
theorem F6 {rec rec' : aw->Option Tr}{g:al}{F F' : List (List aw)}(U:∀ f t,rec f=some t->rec' f=some t)(K:∀ n d f,cM g F n d=some f->cM g F' n d=some f):∀ (ns:List ar) (ds:List Int) (ts:List Tr),fc rec g F ns ds=some ts->fc rec' g F' ns ds=some ts
 | [],[],ts,h=>h
 | n::ns,d::ds,ts,h=>by
  rw[fc] at h ⊢;obtain⟨f,e1,h⟩:=Option.bind_eq_some_iff.1 h;obtain⟨t,e2,h⟩:=Option.bind_eq_some_iff.1 h;obtain⟨us,e3,h⟩:=Option.bind_eq_some_iff.1 h;rw[K n d f e1,aj,U f t e2,aj,F6 U K ns ds us e3];exact h
 | [],_::_,ts,h=>by cases h
 | _::_,[],ts,h=>by cases h
theorem ER {g:al}{F F' : List (List aw)}(K:∀ n d f,cM g F n d=some f->cM g F' n d=some f):∀ (n m:Nat) (f:aw) (t:Tr),n<=m->dZ g F n f=some t->dZ g F' m f=some t
 | 0,m,f,t,_,h=>by cases h
 | n+1,0,f,t,hm,h=>by omega
 | n+1,m+1,f,t,hm,h=>by
  rw[dZ] at h ⊢;obtain⟨ks,e1,h⟩:=Option.bind_eq_some_iff.1 h;rw[F6 (λf t ht=>ER K n m f t (by omega) ht) K _ _ _ e1];exact h
def okF (g:al)(F:List (List aw))(n:Nat)(f:aw):Prop:=f.rule∈g.rs_/\(∀ d∈f.ca_,0<=d)/\∃ t,dZ g F n f=some t
def fD (g:al)(F:List (List aw)):Prop:=∀ l∈F,∀ f∈l,okF g F (dm (aC F)) f
theorem DT (c:List Nat):∀ d∈iL c,(0:Int)<=d:=λd hd=>by
 unfold iL at hd;obtain⟨n,_,rfl⟩:=List.mem_map.1 hd;omega
theorem Lz {rec:aw->Option Tr}{g:al}{F:List (List aw)}:∀ (ns:List ar) (c:List Nat),c.length=ns.length->(∀ (i:Nat) (n:ar) (d:Nat),ns[i]?=some n->c[i]?=some d->∃ f t,cM g F n (d:Int)=some f/\rec f=some t)->∃ ts,fc rec g F ns (iL c)=some ts
 | [],[],_,_=>⟨[],rfl⟩
 | [],_::_,h,_=>by simp at h
 | _::_,[],h,_=>by simp at h
 | n::ns,d::c,h,hk=>by
  obtain⟨f,t,e1,e2⟩:=hk 0 n d rfl rfl;obtain⟨ts,e3⟩:=Lz ns c (by simpa using h) λi n d U K=>hk (i+1) n d U K;refine⟨t::ts,?_⟩;show fc rec g F (n::ns) ((d:Int)::iL c)=_;rw[fc,e1,aj,e2,aj,e3];rfl
theorem Ep {g:al}(hS:Shape g){r:ae}(Z:r∈g.rs_){A:List (List au)}(hA:aH g A){F:List (List aw)}(he:bJ A (aC F))(hD:fD g F){c:List Nat}(h:Ch g r A c):∃ ts,fc (dZ g F (dm (aC F))) g F r.rt_ (iL c)=some ts:=by
 refine Lz r.rt_ c h.1 λi n d U K=>?_;have hd:=h.2 i n d U K;obtain⟨_,_,h3,_⟩:=hA.at_ (hS.right Z (Bvz U));obtain⟨t,ht⟩:=he.2 _ _ h3;rw[lI] at ht;cases hF:F[ba g n]? with
 | none=>rw[hF] at ht;cases ht
 | some l=>
  rw[hF] at ht;have ht:l.map aw.sy_=ei g A n++t:=Option.some.inj ht;have hl:d<l.length:=by
   have:=congrArg List.length ht;rw[bc,Axz] at this;omega
  obtain⟨tr,htr⟩:=(hD l (Bvz hF) l[d] (List.getElem_mem hl)).2.2;refine⟨l[d],tr,?_,htr⟩;unfold cM;rw[Cwz,hF,Cbz,cd,Cmz hl]
theorem TC {g:al}(h0:Sz.szd g<=1048576)(hS:Shape g){r:ae}(Z:r∈g.rs_){A:List (List au)}(hA:aH g A){q:List (List aw)×Bool}(hi:aH g (aC q.1))(he:bJ A (aC q.1))(hD:fD g q.1){c:List Nat}(h:Ch g r A c):fD g (eN g r A q c).1:=by
 obtain⟨ts,hts⟩:=Ep hS Z hA he hD h;obtain⟨U,K,h3,_,_⟩:=hi.at_ (hS.left Z);have hw:ba g r.Left<q.1.length:=by unfold aC at K;rwa[bc] at K
 unfold eN lU;by_cases hs:cG g r (dQ g r (dq g r A c))∈(aC q.1).getD (ba g r.Left) [];rw[ao hs];exact hD;rw[an hs];dsimp only;generalize hfs:q.1.getD (ba g r.Left) []=fs;have hf:q.1[ba g r.Left]?=some fs:=by
  rw[Cwz,Cmz hw] at hfs;rw[Cmz hw];exact congrArg some hfs
 generalize hx:(⟨cG g r (dQ g r (dq g r A c)),r,iL c⟩:aw)=x;have hxr:x.rule=r:=by rw[← hx]
 have hxc:x.ca_=iL c:=by rw[← hx]
 have ht:dm (aC (q.1.set (ba g r.Left) (fs++[x])))=dm (aC q.1)+1:=by
  have:=D8 (aC q.1) (ba g r.Left) ((fs++[x]).map aw.sy_) (fs.map aw.sy_) (by rw[lI,hf];rfl);rw[show aC (q.1.set (ba g r.Left) (fs++[x]))=(aC q.1).set (ba g r.Left) ((fs++[x]).map aw.sy_) by unfold aC;rw[Fqz]];have l1:((fs++[x]).map aw.sy_).length=fs.length+1:=by simp
  have l2:(fs.map aw.sy_).length=fs.length:=by simp
  rw[l1,l2] at this;omega
 have hmono:∀ n d f,cM g q.1 n d=some f->cM g (q.1.set (ba g r.Left) (fs++[x])) n d=some f:=λn d f h=>by
  unfold cM at h ⊢;rw[Cwz] at h ⊢;rw[Cjz];by_cases e:ba g r.Left=ba g n;rw[ao e,ao hw,Cbz];rw[← e,hf,Cbz] at h;have hlt:=(List.getElem?_eq_some_iff.1 h).1;rw[Atz hlt];exact h;rw[an e];exact h
 intro l hl f hfl;rw[ht];have old:okF g q.1 (dm (aC q.1)) f->okF g (q.1.set (ba g r.Left) (fs++[x])) (dm (aC q.1)+1) f:=λ⟨a,b,t,d⟩=>⟨a,b,t,ER hmono _ _ f t (by omega) d⟩
 rcases List.mem_or_eq_of_mem_set hl with hl|hl;exact old (hD l hl f hfl);rw[hl] at hfl;rcases List.mem_append.1 hfl with hfl|hfl;exact old (hD fs (Bvz hf) f hfl);rw[Bpz] at hfl;subst hfl;refine⟨by rw[hxr];exact Z,by rw[hxc];exact DT c,.node f.rule.Name ts,?_⟩;rw[dZ,hxr,hxc,F6 (λf t h=>ER hmono _ _ f t (Acz _) h) hmono _ _ _ hts];rfl
theorem Ly {g:al}(h0:Sz.szd g<=1048576)(hS:Shape g){r:ae}(Z:r∈g.rs_){A:List (List au)}(hA:aH g A):∀ (cs:List (List Nat)) (q:List (List aw)×Bool),(∀ c∈cs,Ch g r A c)->aH g (aC q.1)->bJ A (aC q.1)->fD g q.1->fD g (cs.foldl (eN g r A) q).1
 | [],q,_,_,_,hD=>hD
 | c::cs,q,hc,hi,he,hD=>by
  rw[Fmz];obtain⟨hi1,he1⟩:=AJ h0 hS Z hi he c;exact Ly h0 hS Z hA cs _ (λx hx=>hc x (by simp[hx])) hi1 he1 (TC h0 hS Z hA hi he hD (hc c (by simp)))
theorem Lx {g:al}(h0:Sz.szd g<=1048576)(hS:Shape g){A:List (List au)}(hA:aH g A):∀ (rs:List ae) (q:List (List aw)×Bool),(∀ r∈rs,r∈g.rs_)->aH g (aC q.1)->bJ A (aC q.1)->fD g q.1->fD g (rs.foldl (cx g A) q).1
 | [],q,_,_,_,hD=>hD
 | r::rs,q,Z,hi,he,hD=>by
  rw[Fmz];have hr1:=Z r (by simp);obtain⟨hi1,he1⟩:=AU h0 hS hr1 hi he;exact Lx h0 hS hA rs _ (λx hx=>Z x (by simp[hx])) hi1 he1 (Ly h0 hS hr1 hA _ q (λc hc=>mb hc) hi he hD)
theorem Mu {g:al}(h0:Sz.szd g<=1048576)(hS:Shape g){F:List (List aw)}(hi:aH g (aC F))(hD:fD g F):aH g (aC (eV g F).1)/\fD g (eV g F).1:=by
 have e:=congrArg Prod.fst (F7 g F);dsimp only at e;refine⟨by rw[e];exact (tk h0 hS hi).inv,?_⟩;exact Lx h0 hS hi g.rs_ (F,false) (λ_ h=>h) hi (.rfl' _) hD
def jS (g:al)(F:List (List aw)):List ar->List Int->Option (List au)
 | [],[]=>some []
 | n::ns,d::ds=>(cM g F n d).bind λf=>(jS g F ns ds).bind λL=>some (f.sy_::L)
 | [],_::_=>none
 | _::_,[]=>none
theorem F5 {g:al}{F F' : List (List aw)}(K:∀ n d f,cM g F n d=some f->cM g F' n d=some f):∀ (ns:List ar) (ds:List Int) (L:List au),jS g F ns ds=some L->jS g F' ns ds=some L
 | [],[],L,h=>h
 | n::ns,d::ds,L,h=>by
  rw[jS] at h ⊢;obtain⟨f,e1,h⟩:=Option.bind_eq_some_iff.1 h;obtain⟨us,e3,h⟩:=Option.bind_eq_some_iff.1 h;rw[K n d f e1,aj,F5 K ns ds us e3];exact h
 | [],_::_,L,h=>by cases h
 | _::_,[],L,h=>by cases h
def HP (g:al)(F:List (List aw))(f:aw):Prop:=∃ L,jS g F f.rule.rt_ f.ca_=some L/\f.sy_=cG g f.rule (dQ g f.rule L)
def dY (g:al)(F:List (List aw)):Prop:=∀ k l,F[k]?=some l->∀ f∈l,ba g f.rule.Left=k/\HP g F f
theorem Lw {g:al}{A:List (List au)}{F:List (List aw)}:∀ (ns:List ar) (c:List Nat),c.length=ns.length->(∀ (i:Nat) (n:ar) (d:Nat),ns[i]?=some n->c[i]?=some d->∃ f,cM g F n (d:Int)=some f/\f.sy_=(ei g A n).getD d DG)->jS g F ns (iL c)=some ((ns.zip c).map λp=>(ei g A p.1).getD p.2 DG)
 | [],[],_,_=>rfl
 | [],_::_,h,_=>by simp at h
 | _::_,[],h,_=>by simp at h
 | n::ns,d::c,h,hk=>by
  obtain⟨f,e1,e2⟩:=hk 0 n d rfl rfl;have e3:=Lw ns c (by simpa using h) λi n d U K=>hk (i+1) n d U K;show jS g F (n::ns) ((d:Int)::iL c)=_;rw[jS,e1,aj,e3,aj,e2];rfl
theorem Jt {g:al}(hS:Shape g){r:ae}(Z:r∈g.rs_){A:List (List au)}(hA:aH g A){F:List (List aw)}(he:bJ A (aC F)){c:List Nat}(h:Ch g r A c):jS g F r.rt_ (iL c)=some (dq g r A c):=by
 refine Lw r.rt_ c h.1 λi n d U K=>?_;have hd:=h.2 i n d U K;obtain⟨_,_,h3,_⟩:=hA.at_ (hS.right Z (Bvz U));obtain⟨t,ht⟩:=he.2 _ _ h3;rw[lI] at ht;cases hF:F[ba g n]? with
 | none=>rw[hF] at ht;cases ht
 | some l=>
  rw[hF] at ht;have ht:l.map aw.sy_=ei g A n++t:=Option.some.inj ht;have hl:d<l.length:=by
   have:=congrArg List.length ht;rw[bc,Axz] at this;omega
  refine⟨l[d],?_,?_⟩;unfold cM;rw[Cwz,hF,Cbz,cd,Cmz hl];have h4:=congrArg (λx=>x[d]?) ht;rw[Czz,Cmz hl,Atz hd] at h4;rw[Cwz,← h4];rfl
theorem Px {g:al}(hS:Shape g){r:ae}(Z:r∈g.rs_){A:List (List au)}(hA:aH g A){q:List (List aw)×Bool}(hi:aH g (aC q.1))(he:bJ A (aC q.1))(hD:dY g q.1){c:List Nat}(h:Ch g r A c):dY g (eN g r A q c).1:=by
 have hL:=Jt hS Z hA he h;obtain⟨U,K,h3,_,_⟩:=hi.at_ (hS.left Z);have hw:ba g r.Left<q.1.length:=by unfold aC at K;rwa[bc] at K
 unfold eN lU;by_cases hs:cG g r (dQ g r (dq g r A c))∈(aC q.1).getD (ba g r.Left) [];rw[ao hs];exact hD;rw[an hs];dsimp only;generalize hfs:q.1.getD (ba g r.Left) []=fs;have hf:q.1[ba g r.Left]?=some fs:=by
  rw[Cwz,Cmz hw] at hfs;rw[Cmz hw];exact congrArg some hfs
 have hmono:∀ n d f,cM g q.1 n d=some f->cM g (q.1.set (ba g r.Left) (fs++[(⟨cG g r (dQ g r (dq g r A c)),r,iL c⟩:aw)])) n d=some f:=λn d f h=>by
  unfold cM at h ⊢;rw[Cwz] at h ⊢;rw[Cjz];by_cases e:ba g r.Left=ba g n;rw[ao e,ao hw,Cbz];rw[← e,hf,Cbz] at h;have hlt:=(List.getElem?_eq_some_iff.1 h).1;rw[Atz hlt];exact h;rw[an e];exact h
 intro k l hl f hfl;have old:∀ k l f,q.1[k]?=some l->f∈l->ba g f.rule.Left=k/\HP g (q.1.set (ba g r.Left) (fs++[(⟨cG g r (dQ g r (dq g r A c)),r,iL c⟩:aw)])) f:=λk l f hk hm=>by
  obtain⟨a,L,b,e⟩:=hD k l hk f hm;exact⟨a,L,F5 hmono _ _ _ b,e⟩
 rw[Cjz] at hl;by_cases e:ba g r.Left=k;subst e;rw[ao rfl,ao hw] at hl;cases hl;rcases List.mem_append.1 hfl with hfl|hfl;exact old _ fs f hf hfl;rw[Bpz] at hfl;subst hfl;exact⟨rfl,_,F5 hmono _ _ _ hL,rfl⟩;rw[an e] at hl;exact old k l f hl hfl
theorem Js {g:al}(h0:Sz.szd g<=1048576)(hS:Shape g){r:ae}(Z:r∈g.rs_){A:List (List au)}(hA:aH g A):∀ (cs:List (List Nat)) (q:List (List aw)×Bool),(∀ c∈cs,Ch g r A c)->aH g (aC q.1)->bJ A (aC q.1)->dY g q.1->dY g (cs.foldl (eN g r A) q).1
 | [],q,_,_,_,hD=>hD
 | c::cs,q,hc,hi,he,hD=>by
  rw[Fmz];obtain⟨hi1,he1⟩:=AJ h0 hS Z hi he c;exact Js h0 hS Z hA cs _ (λx hx=>hc x (by simp[hx])) hi1 he1 (Px hS Z hA hi he hD (hc c (by simp)))
theorem Jr {g:al}(h0:Sz.szd g<=1048576)(hS:Shape g){A:List (List au)}(hA:aH g A):∀ (rs:List ae) (q:List (List aw)×Bool),(∀ r∈rs,r∈g.rs_)->aH g (aC q.1)->bJ A (aC q.1)->dY g q.1->dY g (rs.foldl (cx g A) q).1
 | [],q,_,_,_,hD=>hD
 | r::rs,q,Z,hi,he,hD=>by
  rw[Fmz];have hr1:=Z r (by simp);obtain⟨hi1,he1⟩:=AU h0 hS hr1 hi he;exact Jr h0 hS hA rs _ (λx hx=>Z x (by simp[hx])) hi1 he1 (Js h0 hS hr1 hA _ q (λc hc=>mb hc) hi he hD)
theorem UV {g:al}(h0:Sz.szd g<=1048576)(hS:Shape g){F:List (List aw)}(hi:aH g (aC F))(hD:dY g F):dY g (eV g F).1:=
 Jr h0 hS hi g.rs_ (F,false) (λ_ h=>h) hi (.rfl' _) hD
theorem Pw {g:al}(h0:Sz.szd g<=1048576)(hS:Shape g)(P:List (List aw)->Prop)(hP:∀ F,aH g (aC F)->P F->P (eV g F).1):∀ (d:Nat) (F:List (List aw)),aH g (aC F)->fD g F->P F->g.ss_.length*16-dm (aC F)<=d ->
  ∃ F',bA (pL g) F=some F'/\bA (xA g) (aC F,db F)=some (aC F',db F')/\aH g (aC F')/\fD g F'/\P F':=by
 intro d
 induction d with
 | zero=>
  intro F hi hD hp hd;have e1:=Mx h0 hS hi;have e2:=HQ h0 hS hi;have mv:=tk h0 hS hi;have Y:=mv.inv.bound hS;obtain⟨i1,i2⟩:=Mu h0 hS hi hD;have i3:=hP F hi hp;have hc:(eV g F).2=false:=by
   have e:=congrArg Prod.snd (F7 g F);dsimp only at e;rw[e];cases hq:(lD g (aC F)).2 with
   | false=>rfl
   | true=>
    rcases mv.up hq with h|h;cases h;dsimp only at h;omega
  rw[hc,an Fpz] at e1 e2;exact⟨_,cF e1,cF e2,i1,i2,i3⟩
 | succ d ih=>
  intro F hi hD hp hd;have e1:=Mx h0 hS hi;have e2:=HQ h0 hS hi;have mv:=tk h0 hS hi;have Y:=mv.inv.bound hS;obtain⟨i1,i2⟩:=Mu h0 hS hi hD;have i3:=hP F hi hp;have es:=F7 g F;cases hq:(eV g F).2 with
  | false=>
   rw[hq,an Fpz] at e1 e2;exact⟨_,cF e1,cF e2,i1,i2,i3⟩
  | true=>
   rw[hq,ao rfl] at e1 e2;have hlt:dm (aC F)<dm (aC (eV g F).1):=by
    have ea:=congrArg Prod.fst es;have eb:=congrArg Prod.snd es;dsimp only at ea eb;rw[ea];rcases mv.up (by rw[← eb];exact hq) with h|h;cases h;exact h
   obtain⟨F',f1,f2,f3,f4⟩:=ih _ i1 i2 i3 (by omega);exact⟨F',by rw[eh e1];exact f1,by rw[eh e2];exact f2,f3,f4⟩
theorem Mt {g:al}(h0:Sz.szd g<=1048576)(hS:Shape g):∃ F,kO g=some F/\qY g=some (aC F,db F)/\aH g (aC F)/\fD g F/\dY g F:=by
 have e:aC (Bqz g.ss_.length [])=Bqz g.ss_.length []:=by unfold aC;rw[Dhz];rfl
 have er:db (Bqz g.ss_.length [])=Bqz g.ss_.length ⟨[],[]⟩:=by unfold db;rw[Dhz];rfl
 obtain⟨F,U,K,h3,h4⟩:=Pw h0 hS (dY g) (λF hi hp=>UV h0 hS hi hp) _ (Bqz g.ss_.length []) (by
  rw[e];refine⟨by rw[List.length_replicate],λk y L _ hL=>?_⟩;rw[Ewz] at hL;split at hL;cases hL;exact⟨List.nodup_nil,λa ha=>by simp at ha⟩;cases hL) (λl hl f hf=>by
  rw[List.eq_of_mem_replicate hl] at hf;exact nomatch hf) (λk l hk f hf=>by
  rw[Ewz] at hk;split at hk;cases hk;exact nomatch hf;cases hk) (Acz _)
 rw[e,er] at K;have hs:=hS.syms.2;refine⟨F,?_,?_,h3,h4⟩;unfold kO;rw[aE (by refine⟨?_,?_,?_⟩<;>omega),U];rfl;unfold qY;rw[aE (by refine⟨?_,?_,?_⟩<;>omega),aE (by refine⟨?_,?_,?_⟩<;>omega),K];rfl
theorem WQ {g:al}(h0:Sz.szd g<=1048576)(hS:Shape g):∃ F,kO g=some F/\qY g=some (aC F,db F)/\aH g (aC F)/\fD g F:=
 let ⟨F,a,b,c,d,_⟩:=Mt h0 hS
 ⟨F,a,b,c,d⟩
def cR:Nat->List Tr->List Int
 | _,[]=>[]
 | b,t::ts=>(b:Int)::cR (b+t.sz) ts
mutual
def bp (z:Nat->Int):Tr->Int->Int->Nat->List Node
 | .node r ks,p,q,b=>(⟨z b,p,q,0,r,cR (b+1) ks⟩:Node)::fF z ks (b:Int) 1 (b+1)
def fF (z:Nat->Int):List Tr->Int->Nat->Nat->List Node
 | [],_,_,_=>[]
 | t::ts,p,k,b=>bp z t p (k:Int) b++fF z ts p (k+1) (b+t.sz)
end
mutual
theorem mA (z:Nat->Int):∀ (t:Tr) (p q:Int) (b:Nat),(bp z t p q b).length=t.sz
 | .node r ks,p,q,b=>by rw[bp,bC,Lv z ks,Tr.sz];omega
theorem Lv (z:Nat->Int):∀ (ts:List Tr) (p:Int) (k b:Nat),(fF z ts p k b).length=Tr.szs ts
 | [],_,_,_=>rfl
 | t::ts,p,k,b=>by rw[fF,Axz,mA z t,Lv z ts,Tr.szs]
end
def cn (b:Nat):Int:=((b+1:Nat):Int)
theorem Shape.r3 {g:al}(hS:Shape g){r:ae}(Z:r∈g.rs_):r.rt_.length<=3:=eQ hS Z
theorem ti {rec:aw->Option Tr}{g:al}{F:List (List aw)}:∀ (ns:List ar) (ds:List Int) (ts:List Tr),fc rec g F ns ds=some ts->ds.length=ns.length/\ts.length=ns.length
 | [],[],ts,h=>by cases h;exact⟨rfl,rfl⟩
 | n::ns,d::ds,ts,h=>by
  rw[fc] at h;obtain⟨f,e1,h⟩:=Option.bind_eq_some_iff.1 h;obtain⟨t,e2,h⟩:=Option.bind_eq_some_iff.1 h;obtain⟨us,e3,h⟩:=Option.bind_eq_some_iff.1 h;cases h;obtain⟨U,K⟩:=ti ns ds us e3;exact⟨by simp[U],by simp[K]⟩
 | [],_::_,ts,h=>by cases h
 | _::_,[],ts,h=>by cases h
theorem sA {g:al}{F:List (List aw)}{n:ar}{d:Int}{f:aw}(h:cM g F n d=some f):∃ l,F[ba g n]?=some l/\l[d.toNat]?=some f/\l∈F/\f∈l:=by
 unfold cM at h;rw[Cwz] at h;cases hF:F[ba g n]? with
 | none=>rw[hF] at h;simp at h
 | some l=>
  rw[hF,Cbz] at h;exact⟨l,rfl,h,Bvz hF,Bvz h⟩
section
variable {g:al}{F:List (List aw)}
def HO (g:al)(F:List (List aw))(m:Nat)(f:aw)(t:Tr):Prop:=
 ∀ (N:List Node) (p q:Int),N.length<=16->∃ z:ay,(∀ k,m<=k->lK k g F f p q ⟨N⟩=some (decide (N.length+t.sz<=16),z))/\(N.length+t.sz<=16->z=⟨N++bp cn t p q N.length⟩)
theorem HN (hS:Shape g)(hA:aH g (aC F)){n:Nat}(ih:∀ f t,(∃ l∈F,f∈l)->dZ g F n f=some t->HO g F n f t){f:aw}(Z:f.rule∈g.rs_){N:List Node}{p q:Int}(nm:ar) :
  ∀ (ds:List Int) (ns:List ar) (ks:List Tr) (k:Nat) (ch:List Int) (M:List Node),fc (dZ g F n) g F ns ds=some ks->(∀ d∈ds,0<=d)->(∀ (j:Nat) x,ns[j]?=some x->f.rule.rt_[k+j]?=some x)->ch.length<=k->k+ds.length<=3->N.length+1+M.length<=16 ->
   ∃ X,(∀ m,n<=m->findL (sV (lK m) g F f ⟨N⟩) k ds (N++(⟨cn N.length,p,q,0,nm,ch⟩:Node)::M)=some X) /\
    ((N.length+1+M.length+Tr.szs ks<=16->X=.inl (N++(⟨cn N.length,p,q,0,nm,ch++cR (N.length+1+M.length) ks⟩:Node)::(M++fF cn ks (N.length:Int) (k+1) (N.length+1+M.length)))) /\
    (¬ N.length+1+M.length+Tr.szs ks<=16->∃ z,X=.inr (false,z)))
 | [],ns,ks,k,ch,M,hk,_,_,_,_,hl=>by
  cases ns with
  | cons _ _=>cases hk
  | nil=>
   cases hk;refine⟨_,λm hm=>rfl,λ_=>?_,λh=>absurd hl (by rw[Tr.szs] at h;omega)⟩;rw[cR,fF,List.append_nil,List.append_nil]
 | d::ds,ns,ks,k,ch,M,hk,hd,hn,hc,h3,hl=>by
  cases ns with
  | nil=>cases hk
  | cons x ns=>
   rw[fc] at hk;obtain⟨f',e1,hk⟩:=Option.bind_eq_some_iff.1 hk;obtain⟨t,e2,hk⟩:=Option.bind_eq_some_iff.1 hk;obtain⟨ts,e3,hk⟩:=Option.bind_eq_some_iff.1 hk;cases hk;obtain⟨l,k1,k2,k3,k4⟩:=sA e1;have hx:=hn 0 x rfl;rw[Nat.add_zero] at hx;have hd0:=hd d (by simp);obtain⟨W,_⟩:=hA.at_ (hS.right Z (Bvz hx));simp only[bC] at h3;have hs1:(N++(⟨cn N.length,p,q,0,nm,ch⟩:Node)::M)[N.length]?=some ⟨cn N.length,p,q,0,nm,ch⟩:=by
    rw[List.getElem?_append_right (Acz _),Nat.sub_self];rfl
   have hset:(N++(⟨cn N.length,p,q,0,nm,ch⟩:Node)::M).set N.length ⟨cn N.length,p,q,0,nm,ch++[((N++(⟨cn N.length,p,q,0,nm,ch⟩:Node)::M).length:Int)]⟩=N++(⟨cn N.length,p,q,0,nm,ch++[((N.length+1+M.length:Nat):Int)]⟩:Node)::M:=by
    rw[List.set_append_right _ _ (Acz _),Nat.sub_self,List.set_cons_zero,Axz,bC,show N.length+(M.length+1)=N.length+1+M.length by omega]
   have hlen:(N++(⟨cn N.length,p,q,0,nm,ch++[((N.length+1+M.length:Nat):Int)]⟩:Node)::M).length=N.length+1+M.length:=by
    rw[Axz,bC];omega
   obtain⟨z,g1,g2⟩:=ih f' t ⟨l,k3,k4⟩ e2 (N++(⟨cn N.length,p,q,0,nm,ch++[((N.length+1+M.length:Nat):Int)]⟩:Node)::M) (N.length:Int) ((k+1:Nat):Int) (by rw[hlen];exact hl);rw[hlen] at g1 g2;have e:∀ m,n<=m->sV (lK m) g F f ⟨N⟩ k d (N++(⟨cn N.length,p,q,0,nm,ch⟩:Node)::M)=some (if N.length+1+M.length+t.sz<=16 then .inl z.ns_ else .inr (false,z)):=λm hm=>by
    unfold sV;dsimp only;rw[hs1,aj];dsimp only;rw[aE (by constructor<;>omega),hx,aj,AZ,aj,W,aE (by omega),cd,k1,aj,aE hd0,k2,aj,hset,g1 m hm,aj];dsimp only;by_cases hf:N.length+1+M.length+t.sz<=16;rw[decide_eq_true hf,ao rfl,ao hf];rw[decide_eq_false hf,an Fpz,an hf]
   by_cases hf:N.length+1+M.length+t.sz<=16;have hM:(M++bp cn t (N.length:Int) ((k+1:Nat):Int) (N.length+1+M.length)).length=M.length+t.sz:=by rw[Axz,mA]
   obtain⟨X,x1,x2,x3⟩:=HN hS hA ih Z (N:=N) (p:=p) (q:=q) nm ds ns ts (k+1) (ch++[((N.length+1+M.length:Nat):Int)]) (M++bp cn t (N.length:Int) ((k+1:Nat):Int) (N.length+1+M.length)) e3 (λd h=>hd d (by simp[h])) (λj y hy=>by rw[show k+1+j=k+(j+1) by omega];exact hn (j+1) y hy) (by simp;omega) (by omega) (by rw[hM];omega);rw[hM] at x2 x3;refine⟨X,λm hm=>?_,λh=>?_,λh=>x3 (by rw[Tr.szs] at h;omega)⟩;rw[findL,e m hm,aj,ao hf];dsimp only;rw[g2 hf];dsimp only;rw[Azz,List.cons_append];exact x1 m hm;rw[x2 (by rw[Tr.szs] at h;omega),cR,fF,show N.length+1+(M.length+t.sz)=N.length+1+M.length+t.sz by omega];simp only[Azz,List.cons_append,Edz];exact⟨.inr (false,z),λm hm=>by rw[findL,e m hm,aj,an hf],λh=>absurd h (by rw[Tr.szs];omega),λ_=>⟨z,rfl⟩⟩
theorem Jq (hS:Shape g)(hA:aH g (aC F))(hD:fD g F):∀ (n:Nat) (f:aw) (t:Tr),f.rule∈g.rs_->(∀ d∈f.ca_,0<=d)->dZ g F n f=some t->HO g F n f t
 | 0,f,t,_,_,h=>by cases h
 | n+1,f,t,Z,hc,h=>by
  rw[dZ] at h;obtain⟨ks,e1,h⟩:=Option.bind_eq_some_iff.1 h;cases h;intro N p q hN;have hk3:=(ti _ _ _ e1).1;have hR:=eQ hS Z;rw[Tr.sz];by_cases h16:(N.length:Int)=16;refine⟨⟨N⟩,λm hm=>?_,λh=>by omega⟩;cases m with
  | zero=>omega
  | succ m=>
   show oX (lK m) g F f p q ⟨N⟩=_;unfold oX;dsimp only;rw[ao h16,decide_eq_false (by omega)]
  have hl:N.length+1+([]:List Node).length<=16:=by simp;omega
  obtain⟨X,x1,x2,x3⟩:=HN hS hA (n:=n) (λf' t' ⟨l,hl,hf⟩ ht=>Jq hS hA hD n f' t' (hD l hl f' hf).1 (hD l hl f' hf).2.1 ht) Z (N:=N) (p:=p) (q:=q) f.rule.Name f.ca_ f.rule.rt_ ks 0 [] [] e1 hc (λj x hx=>by rw[Adz];exact hx) (Acz _) (by omega) hl;have hid:cn N.length=((N.length+1:Nat):Int):=rfl;rw[hid] at x1;simp only[Dyz,Nat.add_zero,Edz] at x2 x3;have step:∀ (r:Bool×ay),(∀ m,n<=m->((findL (sV (lK m) g F f ⟨N⟩) 0 f.ca_ (N++[(⟨((N.length+1:Nat):Int),p,q,0,f.rule.Name,[]⟩:Node)])).bind <| bb (λr1=>some r1) λs1=>some (true,(⟨s1⟩:ay)))=some r)->∀ m,n+1<=m->lK m g F f p q ⟨N⟩=some r:=λr Z m hm=>by
   cases m with
   | zero=>omega
   | succ m=>
    show oX (lK m) g F f p q ⟨N⟩=_;unfold oX;dsimp only;rw[an h16,aE (by constructor<;>omega),aE (by constructor<;>omega)];exact Z m (by omega)
  by_cases hf:N.length+1+Tr.szs ks<=16;have e2:=x2 hf;refine⟨_,step _ λm hm=>by rw[x1 m hm,e2,aj,decide_eq_true (by omega)];rfl,λ_=>?_⟩;rw[bp];obtain⟨z,hz⟩:=x3 hf;exact⟨z,step _ λm hm=>by rw[x1 m hm,hz,aj,decide_eq_false (by omega)];rfl,λh=>by omega⟩
theorem KD (hS:Shape g)(hA:aH g (aC F))(hD:fD g F){n:Nat}{f:aw}{t:Tr}(Z:f.rule∈g.rs_)(hc:∀ d∈f.ca_,0<=d)(h:dZ g F n f=some t):jH g F f=some (if t.sz<=16 then (⟨bp cn t (-1) 0 0⟩,true) else (⟨[]⟩,false)):=by
 obtain⟨z,e1,e2⟩:=Jq hS hA hD n f t Z hc h [] (-1) 0 (by simp);simp only[Dyz,Adz,Edz] at e1 e2;unfold jH EC;rw[gY n e1,aj];dsimp only;by_cases hf:t.sz<=16;rw[decide_eq_true hf,ao rfl,ao hf,e2 hf];rw[decide_eq_false hf,an Fpz,an hf]
end
end Go.Proofs.YtodhafdaelcnlaaGreat
