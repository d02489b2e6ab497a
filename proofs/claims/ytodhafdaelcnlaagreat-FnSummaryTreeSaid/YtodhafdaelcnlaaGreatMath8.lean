/- What those partial functions come to: plain lemmas on data; each bears its conditions in its statement. -/
import Derived.Test.YtodhafdaelcnlaaGreatMath7
set_option linter.unusedVariables false
set_option linter.unusedSimpArgs false
set_option linter.ambiguousOpen false
set_option linter.unusedSectionVars false
set_option linter.unnecessarySimpa false
set_option maxRecDepth 100000
set_option maxHeartbeats 4000000
open List renaming getD_eq_getElem?_getD->Cwz,map_set->Frz,map_append->Diz,getElem?_eq_getElem->Cmz,mem_of_getElem?->Bvz,length_range->Fez,getElem?_map->Czz,foldl_cons->Ffz,replicate->Bqz,map_replicate->Dhz,take_of_length_le->Biz,length_nil->Dyz,nil_append->Ecz,length_append->Axz,getElem?_set->Cjz,getElem?_append_left->Atz,mem_singleton->Bpz,getElem?_replicate->Evz,append_assoc->Azz
open Bool renaming false_ne_true->Fqz
open Nat renaming zero_add->Adz,le_refl->Acz
open Option renaming getD_some->Cbz
namespace Go.Proofs.YtodhafdaelcnlaaGreat
open Go Go.E
noncomputable def l8 (g:al) (r:ae) (x:au) (c:List Int) (q:List (List aB)×Bool):List (List aB)×Bool:=
 if cw g r x∈(aN q.1).getD (bc g r.Left) [] then q else (q.1.set (bc g r.Left) (q.1.getD (bc g r.Left) []++[⟨cw g r x,r,c⟩]),true)
theorem UW (F:List (List aB))(k:Nat):(aN F).getD k []=(F.getD k []).map aB.sy_:=by
 rw[Cwz,Cwz,kt];cases F[k]? <;> rfl
theorem Tf (g:al)(r:ae)(x:au)(c:List Int)(q:List (List aB)×Bool):(aN (l8 g r x c q).1,(l8 g r x c q).2)=stA (bc g r.Left) (cw g r x) (aN q.1,q.2):=by
 unfold l8 stA;dsimp only;by_cases h:cw g r x∈(aN q.1).getD (bc g r.Left) [];rw[ao h,ao h];rw[an h,an h];dsimp only;rw[UW];unfold aN;rw[Frz,Diz];rfl
theorem UV {g:al}(h0:Sz.szd g<=1048576)(hS:Shape g){r:ae}(Z:r∈g.rs_){F:List (List aB)}{b:Bool}(hi:aM g (aN F)){c:List Int}(hc:c.length<=1048576)(x:au) :
  p9 c x g F b r (eh g r.Left)=some (true,(l8 g r x c (F,b)).1,(l8 g r x c (F,b)).2):=by
 obtain⟨U,K,h3,h4,h5⟩:=hi.at_ (hS.left Z);have hle:=hi.le hS (hS.left Z);have hw:bc g r.Left<F.length:=by unfold aN at K;rwa[bh] at K
 obtain⟨fs,hf⟩:∃ fs,F[bc g r.Left]?=some fs:=⟨_,Cmz hw⟩
 have hm:dK g (aN F) r.Left=fs.map aB.sy_:=by
  rw[kt,hf] at h3;exact (Option.some.inj h3).symm
 have hgd:(aN F).getD (bc g r.Left) []=fs.map aB.sy_:=hm;have hgf:F.getD (bc g r.Left) []=fs:=by rw[Cwz,hf];rfl
 rw[hm,bh] at hle;unfold p9 l8;dsimp only;rw[hgd,hgf,(sR (gJ h0) (by have:=gu hS Z;show r.rt_.length<=1048576;omega) x).2,aj,U,aF (by omega),b7,hf,aj,JA,aj];by_cases hs:cw g r x∈fs.map aB.sy_;rw[ao (decide_eq_true hs),ao hs];rw[decide_eq_false hs,an Fqz,an hs,KD c hc,aj,aF (by constructor<;>omega)]
noncomputable def eZ (g:al) (r:ae) (A:List (List au)) (q:List (List aB)×Bool) (c:List Nat):List (List aB)×Bool:=l8 g r (eP g r (eN g r A c)) (iL c) q
theorem Ju (g:al)(r:ae)(A:List (List au))(q:List (List aB)×Bool)(c:List Nat):(aN (eZ g r A q c).1,(eZ g r A q c).2)=stA (bc g r.Left) (ei g r A c) (aN q.1,q.2):=Tf g r _ _ q
theorem Yi {g:al}(h0:Sz.szd g<=1048576)(hS:Shape g){r:ae}(Z:r∈g.rs_){A:List (List au)}(hA:aM g A){F:List (List aB)}{b:Bool}(hi:aM g (aN F))(he:bO A (aN F)){c:List Nat}(h:Ch g r A c) :
  qC (iL c) g F b r (eh g r.Left) g r F (iL (r.rt_.map (bc g)))=some (true,(eZ g r A (F,b) c).1,(eZ g r A (F,b) c).2,(eZ g r A (F,b) c).1):=by
 have h3:=gu hS Z;obtain⟨_,e2,_⟩:=AR h0 (Nat.le_trans (ib Z) h0) (xo hS Z hA h);unfold qC;rw[KC hS Z hA he h,aj,e2,aj,UV h0 hS Z (b:=b) hi (c:=iL c) (by rw[jH,h.1];omega) (eP g r (eN g r A c))];rfl
theorem AQ {g:al}(h0:Sz.szd g<=1048576)(hS:Shape g){r:ae}(Z:r∈g.rs_){A:List (List au)}{q:List (List aB)×Bool}(hi:aM g (aN q.1))(he:bO A (aN q.1))(c:List Nat):aM g (aN (eZ g r A q c).1)/\bO A (aN (eZ g r A q c).1):=by
 have mv:=wk (A:=A) hS Z (q:=(aN q.1,q.2)) hi he (qR h0 hS r (eP g r (eN g r A c)));have e:=congrArg Prod.fst (Ju g r A q c);dsimp only at e;rw[e];exact⟨mv.inv,mv.ext⟩
theorem LJ {g:al}(h0:Sz.szd g<=1048576)(hS:Shape g){r:ae}(Z:r∈g.rs_){A:List (List au)}(hA:aM g A) :
  ∀ (d n:Nat) (q:List (List aB)×Bool),n<cT (bA g r A)->cT (bA g r A)-n=d->aM g (aN q.1)->bO A (aN q.1) ->
   bK (nG (iL (bA g r A)) g r (eh g r.Left) g r (iL (r.rt_.map (bc g)))) (iL (bP (bA g r A) n),q.1,q.2)=some (.inr ((((dn (bA g r A)).drop n).foldl (eZ g r A) q).1,(((dn (bA g r A)).drop n).foldl (eZ g r A) q).2,(((dn (bA g r A)).drop n).foldl (eZ g r A) q).1))
 | 0,n,q,hn,hd,hi,he=>by omega
 | d+1,n,q,hn,hd,hi,he=>by
  obtain⟨F,b⟩:=q;dsimp only at hi he ⊢;have hch:=I0 hn;have e1:=Yi h0 hS Z hA (b:=b) hi he hch;obtain⟨hi1,he1⟩:=AQ h0 hS Z (q:=(F,b)) hi he (bP (bA g r A) n);have h3:=gu hS Z;have hcl:=nZ g r A;obtain⟨q,e2,hq⟩:=Np (cs:=bA g r A) (ds:=bP (bA g r A) n) rfl (wM _ _) (λi d c U K=>⟨AD hn i d c U K,by have:=D8 hS Z hA c (Bvz K);omega⟩) (by omega);obtain⟨q1,q2⟩:=q;have hdrop:(dn (bA g r A)).drop n=bP (bA g r A) n::(dn (bA g r A)).drop (n+1):=by
   have hl:n<(dn (bA g r A)).length:=by unfold dn;rw[bh,Fez];exact hn
   have hg:(dn (bA g r A))[n]?=some (bP (bA g r A) n):=by
    unfold dn;rw[Czz,List.getElem?_range hn];rfl
   rw[Cmz hl] at hg;rw[List.drop_eq_getElem_cons hl,Option.some.inj hg]
  rw[hdrop,Ffz];generalize hQ:eZ g r A (F,b) (bP (bA g r A) n)=Q at e1 hi1 he1;unfold sF at hq;rw[ET _ _ hn] at hq;by_cases hlast:n+1<cT (bA g r A);rw[ao hlast] at hq;obtain⟨k0,x,hx,hxl,hset⟩:=hq;dsimp only at k0 hx hset;have hs:nG (iL (bA g r A)) g r (eh g r.Left) g r (iL (r.rt_.map (bc g))) (iL (bP (bA g r A) n),F,b)=some (.inl (iL (bP (bA g r A) (n+1)),Q.1,Q.2)):=by
   unfold nG;dsimp only;rw[e1,aj];dsimp only;rw[ao rfl,e2,aj];dsimp only;rw[an (by omega),aF k0,hx,aj,aF ⟨by omega,by omega⟩,← hset];rfl
  rw[eS hs];exact LJ h0 hS Z hA d (n+1) Q hlast (by omega) hi1 he1;rw[an hlast] at hq;dsimp only at hq;have:(dn (bA g r A)).drop (n+1)=[]:=List.drop_eq_nil_of_le (by unfold dn;rw[bh,Fez];omega);rw[this];exact c9 (by
   unfold nG;dsimp only;rw[e1,aj];dsimp only;rw[ao rfl,e2,aj];dsimp only;rw[ao hq];rfl)
noncomputable def cE (g:al) (A:List (List au)) (q:List (List aB)×Bool) (r:ae):List (List aB)×Bool:=(dn (bA g r A)).foldl (eZ g r A) q
theorem LI (g:al)(r:ae)(A:List (List au)):∀ (cs:List (List Nat)) (q:List (List aB)×Bool),(aN (cs.foldl (eZ g r A) q).1,(cs.foldl (eZ g r A) q).2)=cs.foldl (λq c=>stA (bc g r.Left) (ei g r A c) q) (aN q.1,q.2)
 | [],q=>rfl
 | c::cs,q=>by rw[Ffz,Ffz,LI g r A cs,Ju]
theorem Ky (g:al)(A:List (List au))(q:List (List aB)×Bool)(r:ae):(aN (cE g A q r).1,(cE g A q r).2)=fG g A (aN q.1,q.2) r:=LI g r A _ q
theorem UU {g:al}(h0:Sz.szd g<=1048576)(hS:Shape g){r:ae}(Z:r∈g.rs_){A:List (List au)}(hA:aM g A){q:List (List aB)×Bool}(hi:aM g (aN q.1))(he:bO A (aN q.1)) :
  qA (iL (bA g r A)) g q.1 q.2 r (eh g r.Left) g r q.1 (iL (r.rt_.map (bc g)))=some ((cE g A q r).1,(cE g A q r).2,(cE g A q r).1):=by
 unfold qA cE;rw[Oi,aj];have h3:=gu hS Z;have hcl:=nZ g r A;by_cases hz:0∈bA g r A;rw[ao (decide_eq_true hz),Jz hz];rfl;rw[decide_eq_false hz,an Fqz,jH,aF (by refine⟨?_,?_,?_⟩<;>omega)];have hp:0<cT (bA g r A):=Bj λc hc=>Nat.pos_of_ne_zero λe=>hz (e▸hc);have e:=LJ h0 hS Z hA _ 0 q hp rfl hi he;rw[Bl,show iL (Bqz (bA g r A).length 0)=Bqz (bA g r A).length (0:Int) by unfold iL;rw[Dhz];rfl,List.drop_zero] at e;rw[e];rfl
theorem XM {g:al}(h0:Sz.szd g<=1048576)(hS:Shape g){r:ae}(Z:r∈g.rs_){A:List (List au)}(hA:aM g A){q:List (List aB)×Bool}(hi:aM g (aN q.1))(he:bO A (aN q.1)) :
  qB g r q.1 (iL (A.map (·.length))) g q.1 q.2 r (eh g r.Left)=some (cE g A q r):=by
 have h3:=gu hS Z;have e:=UU h0 hS Z hA hi he;unfold qB;obtain⟨s',e2,hp⟩:=jT (P:=λk (s:List Int×List Int)=>s=((iL (bA g r A)).take k,(iL (r.rt_.map (bc g))).take k)) (f:=vY g (iL (A.map (·.length)))) (xs:=r.rt_) (i:=0) (s:=([],[])) (by rw[List.take_zero,List.take_zero]) λk n s hn hs=>by
  rw[Adz] at hs ⊢;rw[hs];exact⟨_,NH hS Z hA hn,rfl⟩
 rw[Adz] at hp;rw[e2,hp,Biz (by rw[jH,nZ];omega),Biz (by rw[jH,bh];omega),aj];dsimp only;rw[e];rfl
theorem Bh {g:al}(h0:Sz.szd g<=1048576)(hS:Shape g){r:ae}(Z:r∈g.rs_){A:List (List au)}{q:List (List aB)×Bool}(hi:aM g (aN q.1))(he:bO A (aN q.1)):aM g (aN (cE g A q r).1)/\bO A (aN (cE g A q r).1):=by
 have mv:=wE h0 hS Z (q:=(aN q.1,q.2)) hi he;have e:=congrArg Prod.fst (Ky g A q r);dsimp only at e;rw[e];exact⟨mv.inv,mv.ext⟩
theorem LH {g:al}(h0:Sz.szd g<=1048576)(hS:Shape g){A:List (List au)}(hA:aM g A):∀ (rs:List ae) (i:Nat) (q:List (List aB)×Bool),(∀ r∈rs,r∈g.rs_)->aM g (aN q.1)->bO A (aN q.1) ->
  eachL (pX g (iL (A.map (·.length)))) i rs (q.1,q.2)=some (rs.foldl (cE g A) q)
 | [],i,q,_,hi,he=>rfl
 | r::rs,i,q,hrs,hi,he=>by
  have Z:=hrs r (by simp);have e1:=XM h0 hS Z hA (q:=q) hi he;obtain⟨hi1,he1⟩:=Bh h0 hS Z hi he;have e2:=LH h0 hS hA rs (i+1) (cE g A q r) (λx hx=>hrs x (by simp[hx])) hi1 he1;rw[eachL,show pX g (iL (A.map (·.length))) i r (q.1,q.2)=some ((cE g A q r).1,(cE g A q r).2) by
   unfold pX;dsimp only;rw[py,aj,e1];rfl,aj,Ffz]
  exact e2
noncomputable def fl (g:al) (F:List (List aB)):List (List aB)×Bool:=g.rs_.foldl (cE g (aN F)) (F,false)
theorem LG (g:al)(A:List (List au)):∀ (rs:List ae) (q:List (List aB)×Bool),(aN (rs.foldl (cE g A) q).1,(rs.foldl (cE g A) q).2)=rs.foldl (fG g A) (aN q.1,q.2)
 | [],q=>rfl
 | r::rs,q=>by rw[Ffz,Ffz,LG g A rs,Ky]
theorem F6 (g:al)(F:List (List aB)):(aN (fl g F).1,(fl g F).2)=iF g (aN F):=LG g _ _ _
theorem Nm {g:al}(h0:Sz.szd g<=1048576)(hS:Shape g){F:List (List aB)}(hi:aM g (aN F)) :
  pW g F=some (if (fl g F).2=true then .inl (fl g F).1 else .inr (fl g F).1):=by
 have e:=LH h0 hS hi g.rs_ 0 (F,false) (λ_ h=>h) hi (.rfl' _);have hl:F.length<=1048576:=by
  have U:=hi.1;have K:=hS.syms.2;unfold aN at U;rw[bh] at U;omega
 unfold pW;rw[No hl,aj,e,aj];show (if (fl g F).2=true then some (Sum.inl (fl g F).1) else some (Sum.inr (fl g F).1))=_;cases (fl g F).2<;>rfl
def dp (F:List (List aB)):List aE:=F.map λl=>⟨l.map λf=>f.rule.Name,l.map aB.children⟩
theorem Es (F:List (List aB))(k:Nat):(dp F)[k]?=(F[k]?).map λl=>(⟨l.map λf=>f.rule.Name,l.map aB.children⟩:aE):=by unfold dp;rw[Czz]
theorem PC {g:al}(h0:Sz.szd g<=1048576)(hS:Shape g){r:ae}(Z:r∈g.rs_){A:List (List au)}(hA:aM g A){q:List (List aB)×Bool}(hi:aM g (aN q.1)){c:List Nat}(h:Ch g r A c)(k:Nat) :
  xM g A r (eh g r.Left) k (iL c) (aN q.1,dp q.1,q.2)=some (aN (eZ g r A q c).1,dp (eZ g r A q c).1,(eZ g r A q c).2):=by
 obtain⟨F,b⟩:=q;dsimp only at hi ⊢;obtain⟨U,K,h3,h4,h5⟩:=hi.at_ (hS.left Z);have hle:=hi.le hS (hS.left Z);have hw:bc g r.Left<F.length:=by unfold aN at K;rwa[bh] at K
 obtain⟨fs,hf⟩:∃ fs,F[bc g r.Left]?=some fs:=⟨_,Cmz hw⟩
 have hm:dK g (aN F) r.Left=fs.map aB.sy_:=by
  rw[kt,hf] at h3;exact (Option.some.inj h3).symm
 have hgd:(aN F).getD (bc g r.Left) []=fs.map aB.sy_:=hm;have hgf:F.getD (bc g r.Left) []=fs:=by rw[Cwz,hf];rfl
 rw[hm,bh] at hle;have hsm:(aN F)[bc g r.Left]?=some (fs.map aB.sy_):=by rw[kt,hf];rfl
 have hrc:(dp F)[bc g r.Left]?=some ⟨fs.map λf=>f.rule.Name,fs.map aB.children⟩:=by rw[Es,hf];rfl
 obtain⟨e1,_,_⟩:=AR h0 (Nat.le_trans (ib Z) h0) (xo hS Z hA h);unfold xM;dsimp only;rw[Kz hS Z hA h,aj,e1,aj,(sR (gJ h0) (by have:=gu hS Z;show r.rt_.length<=1048576;omega) _).1,aj,U,aF (by omega),b7,hsm,aj,Jx,aj];unfold eZ l8;dsimp only;rw[hgd,hgf];by_cases hs:cw g r (eP g r (eN g r A c))∈fs.map aB.sy_;rw[ao (decide_eq_true hs),ao hs];rfl;rw[decide_eq_false hs,an Fqz,an hs,aF (by rw[bh];constructor<;>omega),aF (by omega),hrc,aj];dsimp only;rw[aF (by rw[bh];constructor<;>omega),aF (by rw[bh];constructor<;>omega),aj];dsimp only;unfold aN dp;rw[Frz,Frz,Diz,Diz,Diz];rfl
theorem HM {g:al}(h0:Sz.szd g<=1048576)(hS:Shape g){r:ae}(Z:r∈g.rs_){A:List (List au)}(hA:aM g A):∀ (cs:List (List Nat)) (k:Nat) (q:List (List aB)×Bool),(∀ c∈cs,Ch g r A c)->aM g (aN q.1)->bO A (aN q.1) ->
  eachL (xM g A r (eh g r.Left)) k (cs.map iL) (aN q.1,dp q.1,q.2)=some (aN (cs.foldl (eZ g r A) q).1,dp (cs.foldl (eZ g r A) q).1,(cs.foldl (eZ g r A) q).2)
 | [],k,q,_,_,_=>rfl
 | c::cs,k,q,hc,hi,he=>by
  rw[List.map_cons,eachL,PC h0 hS Z hA hi (hc c (by simp)) k,aj,Ffz];obtain⟨hi1,he1⟩:=AQ h0 hS Z hi he c;exact HM h0 hS Z hA cs (k+1) (eZ g r A q c) (λx hx=>hc x (by simp[hx])) hi1 he1
theorem HL {g:al}(h0:Sz.szd g<=1048576)(hS:Shape g){A:List (List au)}(hA:aM g A):∀ (rs:List ae) (i:Nat) (q:List (List aB)×Bool),(∀ r∈rs,r∈g.rs_)->aM g (aN q.1)->bO A (aN q.1) ->
  eachL (xL g A) i rs (aN q.1,dp q.1,q.2)=some (aN (rs.foldl (cE g A) q).1,dp (rs.foldl (cE g A) q).1,(rs.foldl (cE g A) q).2)
 | [],i,q,_,hi,he=>rfl
 | r::rs,i,q,hrs,hi,he=>by
  have Z:=hrs r (by simp);have hl:A.length<=1048576:=by have U:=hA.1;have K:=hS.syms.2;omega
  obtain⟨hi1,he1⟩:=Bh h0 hS Z hi he;have e:xL g A i r (aN q.1,dp q.1,q.2)=some (aN (cE g A q r).1,dp (cE g A q r).1,(cE g A q r).2):=by
   unfold xL;dsimp only;rw[Nn hl,aj,NG hS Z hA,aj,oR,aj,HM h0 hS Z hA _ 0 q (λc hc=>wm hc) hi he];rfl
  rw[eachL,e,aj,Ffz];exact HL h0 hS hA rs (i+1) (cE g A q r) (λx hx=>hrs x (by simp[hx])) hi1 he1
theorem UT {g:al}(hS:Shape g){A:List (List au)}(hA:aM g A):eachL BA 0 A ([]:List (List au))=some A:=by
 have hl:A.length<=4:=by have U:=hA.1;have K:=hS.syms.2;omega
 rw[oh (g:=λx:List au=>x) (B:=1048576) A 0 [] (λk x s hx hs=>by
  obtain⟨j,hj⟩:=List.getElem?_of_mem hx;have hlt:=(List.getElem?_eq_some_iff.1 hj).1;obtain⟨y,hy⟩:∃ y,g.ss_[j]?=some y:=⟨_,Cmz (by rw[← hA.1];exact hlt)⟩
  have hx16:x.length<=16:=yg (hS.plain y.Name) (hA.2 j y x hy hj).1 (hA.2 j y x hy hj).2;unfold BA;rw[aF (by rw[Dyz];constructor<;>omega),aF (by constructor<;>omega)]) (by rw[Dyz];omega),Ecz,List.map_id']
theorem HK {g:al}(h0:Sz.szd g<=1048576)(hS:Shape g){F:List (List aB)}(hi:aM g (aN F)) :
  xK g (aN F,dp F)=some (if (fl g F).2=true then .inl (aN (fl g F).1,dp (fl g F).1) else .inr (aN (fl g F).1,dp (fl g F).1)):=by
 unfold xK;dsimp only;rw[UT hS hi,aj,HL h0 hS hi g.rs_ 0 (F,false) (λ_ h=>h) hi (.rfl' _),aj];show (if (fl g F).2=true then some (Sum.inl (aN (fl g F).1,dp (fl g F).1)) else some (Sum.inr (aN (fl g F).1,dp (fl g F).1)))=_;cases (fl g F).2<;>rfl
inductive Tr:Type
 | node (rule:ar) (ks:List Tr)
mutual
def Tr.sz:Tr->Nat
 | .node _ ks=>1+Tr.szs ks
def Tr.szs:List Tr->Nat
 | []=>0
 | t::ts=>Tr.sz t+Tr.szs ts
end
theorem Tr.pos:∀ t:Tr,0<t.sz
 | .node _ ks=>by rw[Tr.sz];omega
def cP (g:al)(F:List (List aB))(n:ar)(d:Int):Option aB:=(F.getD (bc g n) [])[d.toNat]?
def fV (rec:aB->Option Tr)(g:al)(F:List (List aB)):List ar->List Int->Option (List Tr)
 | [],[]=>some []
 | n::ns,d::ds=>(cP g F n d).bind λf=>(rec f).bind λt=>(fV rec g F ns ds).bind λts=>some (t::ts)
 | [],_::_=>none
 | _::_,[]=>none
def fi (g:al)(F:List (List aB)):Nat->aB->Option Tr
 | 0,_=>none
 | n+1,f=>(fV (fi g F n) g F f.rule.rt_ f.children).bind λks=>some (.node f.rule.Name ks)
theorem F5 {rec rec' : aB->Option Tr}{g:al}{F F' : List (List aB)}(U:∀ f t,rec f=some t->rec' f=some t)(K:∀ n d f,cP g F n d=some f->cP g F' n d=some f):∀ (ns:List ar) (ds:List Int) (ts:List Tr),fV rec g F ns ds=some ts->fV rec' g F' ns ds=some ts
 | [],[],ts,h=>h
 | n::ns,d::ds,ts,h=>by
  rw[fV] at h ⊢;obtain⟨f,e1,h⟩:=Option.bind_eq_some_iff.1 h;obtain⟨t,e2,h⟩:=Option.bind_eq_some_iff.1 h;obtain⟨us,e3,h⟩:=Option.bind_eq_some_iff.1 h;rw[K n d f e1,aj,U f t e2,aj,F5 U K ns ds us e3];exact h
 | [],_::_,ts,h=>by cases h
 | _::_,[],ts,h=>by cases h
theorem ER {g:al}{F F' : List (List aB)}(K:∀ n d f,cP g F n d=some f->cP g F' n d=some f):∀ (n m:Nat) (f:aB) (t:Tr),n<=m->fi g F n f=some t->fi g F' m f=some t
 | 0,m,f,t,_,h=>by cases h
 | n+1,0,f,t,hm,h=>by omega
 | n+1,m+1,f,t,hm,h=>by
  rw[fi] at h ⊢;obtain⟨ks,e1,h⟩:=Option.bind_eq_some_iff.1 h;rw[F5 (λf t ht=>ER K n m f t (by omega) ht) K _ _ _ e1];exact h
def okF (g:al)(F:List (List aB))(n:Nat)(f:aB):Prop:=f.rule∈g.rs_/\(∀ d∈f.children,0<=d)/\∃ t,fi g F n f=some t
def fM (g:al)(F:List (List aB)):Prop:=∀ l∈F,∀ f∈l,okF g F (eB (aN F)) f
theorem Pz (c:List Nat):∀ d∈iL c,(0:Int)<=d:=λd hd=>by
 unfold iL at hd;obtain⟨n,_,rfl⟩:=List.mem_map.1 hd;omega
theorem LC {rec:aB->Option Tr}{g:al}{F:List (List aB)}:∀ (ns:List ar) (c:List Nat),c.length=ns.length->(∀ (i:Nat) (n:ar) (d:Nat),ns[i]?=some n->c[i]?=some d->∃ f t,cP g F n (d:Int)=some f/\rec f=some t)->∃ ts,fV rec g F ns (iL c)=some ts
 | [],[],_,_=>⟨[],rfl⟩
 | [],_::_,h,_=>by simp at h
 | _::_,[],h,_=>by simp at h
 | n::ns,d::c,h,hk=>by
  obtain⟨f,t,e1,e2⟩:=hk 0 n d rfl rfl;obtain⟨ts,e3⟩:=LC ns c (by simpa using h) λi n d U K=>hk (i+1) n d U K;refine⟨t::ts,?_⟩;show fV rec g F (n::ns) ((d:Int)::iL c)=_;rw[fV,e1,aj,e2,aj,e3];rfl
theorem T6 {g:al}(hS:Shape g){r:ae}(Z:r∈g.rs_){A:List (List au)}(hA:aM g A){F:List (List aB)}(he:bO A (aN F))(hD:fM g F){c:List Nat}(h:Ch g r A c):∃ ts,fV (fi g F (eB (aN F))) g F r.rt_ (iL c)=some ts:=by
 refine LC r.rt_ c h.1 λi n d U K=>?_;have hd:=h.2 i n d U K;obtain⟨_,_,h3,_⟩:=hA.at_ (hS.right Z (Bvz U));obtain⟨t,ht⟩:=he.2 _ _ h3;rw[kt] at ht;cases hF:F[bc g n]? with
 | none=>rw[hF] at ht;cases ht
 | some l=>
  rw[hF] at ht;have ht:l.map aB.sy_=dK g A n++t:=Option.some.inj ht;have hl:d<l.length:=by
   have:=congrArg List.length ht;rw[bh,Axz] at this;omega
  obtain⟨tr,htr⟩:=(hD l (Bvz hF) l[d] (List.getElem_mem hl)).2.2;refine⟨l[d],tr,?_,htr⟩;unfold cP;rw[Cwz,hF,Cbz,b7,Cmz hl]
theorem T5 {g:al}(h0:Sz.szd g<=1048576)(hS:Shape g){r:ae}(Z:r∈g.rs_){A:List (List au)}(hA:aM g A){q:List (List aB)×Bool}(hi:aM g (aN q.1))(he:bO A (aN q.1))(hD:fM g q.1){c:List Nat}(h:Ch g r A c):fM g (eZ g r A q c).1:=by
 obtain⟨ts,hts⟩:=T6 hS Z hA he hD h;obtain⟨U,K,h3,_,_⟩:=hi.at_ (hS.left Z);have hw:bc g r.Left<q.1.length:=by unfold aN at K;rwa[bh] at K
 unfold eZ l8;by_cases hs:cw g r (eP g r (eN g r A c))∈(aN q.1).getD (bc g r.Left) [];rw[ao hs];exact hD;rw[an hs];dsimp only;generalize hfs:q.1.getD (bc g r.Left) []=fs;have hf:q.1[bc g r.Left]?=some fs:=by
  rw[Cwz,Cmz hw] at hfs;rw[Cmz hw];exact congrArg some hfs
 generalize hx:(⟨cw g r (eP g r (eN g r A c)),r,iL c⟩:aB)=x;have hxr:x.rule=r:=by rw[← hx]
 have hxc:x.children=iL c:=by rw[← hx]
 have ht:eB (aN (q.1.set (bc g r.Left) (fs++[x])))=eB (aN q.1)+1:=by
  have:=Ew (aN q.1) (bc g r.Left) ((fs++[x]).map aB.sy_) (fs.map aB.sy_) (by rw[kt,hf];rfl);rw[show aN (q.1.set (bc g r.Left) (fs++[x]))=(aN q.1).set (bc g r.Left) ((fs++[x]).map aB.sy_) by unfold aN;rw[Frz]];have l1:((fs++[x]).map aB.sy_).length=fs.length+1:=by simp
  have l2:(fs.map aB.sy_).length=fs.length:=by simp
  rw[l1,l2] at this;omega
 have hmono:∀ n d f,cP g q.1 n d=some f->cP g (q.1.set (bc g r.Left) (fs++[x])) n d=some f:=λn d f h=>by
  unfold cP at h ⊢;rw[Cwz] at h ⊢;rw[Cjz];by_cases e:bc g r.Left=bc g n;rw[ao e,ao hw,Cbz];rw[← e,hf,Cbz] at h;have hlt:=(List.getElem?_eq_some_iff.1 h).1;rw[Atz hlt];exact h;rw[an e];exact h
 intro l hl f hfl;rw[ht];have old:okF g q.1 (eB (aN q.1)) f->okF g (q.1.set (bc g r.Left) (fs++[x])) (eB (aN q.1)+1) f:=λ⟨a,b,t,d⟩=>⟨a,b,t,ER hmono _ _ f t (by omega) d⟩
 rcases List.mem_or_eq_of_mem_set hl with hl|hl;exact old (hD l hl f hfl);rw[hl] at hfl;rcases List.mem_append.1 hfl with hfl|hfl;exact old (hD fs (Bvz hf) f hfl);rw[Bpz] at hfl;subst hfl;refine⟨by rw[hxr];exact Z,by rw[hxc];exact Pz c,.node f.rule.Name ts,?_⟩;rw[fi,hxr,hxc,F5 (λf t h=>ER hmono _ _ f t (Acz _) h) hmono _ _ _ hts];rfl
theorem LB {g:al}(h0:Sz.szd g<=1048576)(hS:Shape g){r:ae}(Z:r∈g.rs_){A:List (List au)}(hA:aM g A):∀ (cs:List (List Nat)) (q:List (List aB)×Bool),(∀ c∈cs,Ch g r A c)->aM g (aN q.1)->bO A (aN q.1)->fM g q.1->fM g (cs.foldl (eZ g r A) q).1
 | [],q,_,_,_,hD=>hD
 | c::cs,q,hc,hi,he,hD=>by
  rw[Ffz];obtain⟨hi1,he1⟩:=AQ h0 hS Z hi he c;exact LB h0 hS Z hA cs _ (λx hx=>hc x (by simp[hx])) hi1 he1 (T5 h0 hS Z hA hi he hD (hc c (by simp)))
theorem Lz {g:al}(h0:Sz.szd g<=1048576)(hS:Shape g){A:List (List au)}(hA:aM g A):∀ (rs:List ae) (q:List (List aB)×Bool),(∀ r∈rs,r∈g.rs_)->aM g (aN q.1)->bO A (aN q.1)->fM g q.1->fM g (rs.foldl (cE g A) q).1
 | [],q,_,_,_,hD=>hD
 | r::rs,q,Z,hi,he,hD=>by
  rw[Ffz];have hr1:=Z r (by simp);obtain⟨hi1,he1⟩:=Bh h0 hS hr1 hi he;exact Lz h0 hS hA rs _ (λx hx=>Z x (by simp[hx])) hi1 he1 (LB h0 hS hr1 hA _ q (λc hc=>wm hc) hi he hD)
theorem Nl {g:al}(h0:Sz.szd g<=1048576)(hS:Shape g){F:List (List aB)}(hi:aM g (aN F))(hD:fM g F):aM g (aN (fl g F).1)/\fM g (fl g F).1:=by
 have e:=congrArg Prod.fst (F6 g F);dsimp only at e;refine⟨by rw[e];exact (tq h0 hS hi).inv,?_⟩;exact Lz h0 hS hi g.rs_ (F,false) (λ_ h=>h) hi (.rfl' _) hD
def iV (g:al)(F:List (List aB)):List ar->List Int->Option (List au)
 | [],[]=>some []
 | n::ns,d::ds=>(cP g F n d).bind λf=>(iV g F ns ds).bind λL=>some (f.sy_::L)
 | [],_::_=>none
 | _::_,[]=>none
theorem F4 {g:al}{F F' : List (List aB)}(K:∀ n d f,cP g F n d=some f->cP g F' n d=some f):∀ (ns:List ar) (ds:List Int) (L:List au),iV g F ns ds=some L->iV g F' ns ds=some L
 | [],[],L,h=>h
 | n::ns,d::ds,L,h=>by
  rw[iV] at h ⊢;obtain⟨f,e1,h⟩:=Option.bind_eq_some_iff.1 h;obtain⟨us,e3,h⟩:=Option.bind_eq_some_iff.1 h;rw[K n d f e1,aj,F4 K ns ds us e3];exact h
 | [],_::_,L,h=>by cases h
 | _::_,[],L,h=>by cases h
def HJ (g:al)(F:List (List aB))(f:aB):Prop:=∃ L,iV g F f.rule.rt_ f.children=some L/\f.sy_=cw g f.rule (eP g f.rule L)
def dG (g:al)(F:List (List aB)):Prop:=∀ k l,F[k]?=some l->∀ f∈l,bc g f.rule.Left=k/\HJ g F f
theorem Ly {g:al}{A:List (List au)}{F:List (List aB)}:∀ (ns:List ar) (c:List Nat),c.length=ns.length->(∀ (i:Nat) (n:ar) (d:Nat),ns[i]?=some n->c[i]?=some d->∃ f,cP g F n (d:Int)=some f/\f.sy_=(dK g A n).getD d DW)->iV g F ns (iL c)=some ((ns.zip c).map λp=>(dK g A p.1).getD p.2 DW)
 | [],[],_,_=>rfl
 | [],_::_,h,_=>by simp at h
 | _::_,[],h,_=>by simp at h
 | n::ns,d::c,h,hk=>by
  obtain⟨f,e1,e2⟩:=hk 0 n d rfl rfl;have e3:=Ly ns c (by simpa using h) λi n d U K=>hk (i+1) n d U K;show iV g F (n::ns) ((d:Int)::iL c)=_;rw[iV,e1,aj,e3,aj,e2];rfl
theorem T4 {g:al}(hS:Shape g){r:ae}(Z:r∈g.rs_){A:List (List au)}(hA:aM g A){F:List (List aB)}(he:bO A (aN F)){c:List Nat}(h:Ch g r A c):iV g F r.rt_ (iL c)=some (eN g r A c):=by
 refine Ly r.rt_ c h.1 λi n d U K=>?_;have hd:=h.2 i n d U K;obtain⟨_,_,h3,_⟩:=hA.at_ (hS.right Z (Bvz U));obtain⟨t,ht⟩:=he.2 _ _ h3;rw[kt] at ht;cases hF:F[bc g n]? with
 | none=>rw[hF] at ht;cases ht
 | some l=>
  rw[hF] at ht;have ht:l.map aB.sy_=dK g A n++t:=Option.some.inj ht;have hl:d<l.length:=by
   have:=congrArg List.length ht;rw[bh,Axz] at this;omega
  refine⟨l[d],?_,?_⟩;unfold cP;rw[Cwz,hF,Cbz,b7,Cmz hl];have h4:=congrArg (λx=>x[d]?) ht;rw[Czz,Cmz hl,Atz hd] at h4;rw[Cwz,← h4];rfl
theorem Py {g:al}(hS:Shape g){r:ae}(Z:r∈g.rs_){A:List (List au)}(hA:aM g A){q:List (List aB)×Bool}(hi:aM g (aN q.1))(he:bO A (aN q.1))(hD:dG g q.1){c:List Nat}(h:Ch g r A c):dG g (eZ g r A q c).1:=by
 have hL:=T4 hS Z hA he h;obtain⟨U,K,h3,_,_⟩:=hi.at_ (hS.left Z);have hw:bc g r.Left<q.1.length:=by unfold aN at K;rwa[bh] at K
 unfold eZ l8;by_cases hs:cw g r (eP g r (eN g r A c))∈(aN q.1).getD (bc g r.Left) [];rw[ao hs];exact hD;rw[an hs];dsimp only;generalize hfs:q.1.getD (bc g r.Left) []=fs;have hf:q.1[bc g r.Left]?=some fs:=by
  rw[Cwz,Cmz hw] at hfs;rw[Cmz hw];exact congrArg some hfs
 have hmono:∀ n d f,cP g q.1 n d=some f->cP g (q.1.set (bc g r.Left) (fs++[(⟨cw g r (eP g r (eN g r A c)),r,iL c⟩:aB)])) n d=some f:=λn d f h=>by
  unfold cP at h ⊢;rw[Cwz] at h ⊢;rw[Cjz];by_cases e:bc g r.Left=bc g n;rw[ao e,ao hw,Cbz];rw[← e,hf,Cbz] at h;have hlt:=(List.getElem?_eq_some_iff.1 h).1;rw[Atz hlt];exact h;rw[an e];exact h
 intro k l hl f hfl;have old:∀ k l f,q.1[k]?=some l->f∈l->bc g f.rule.Left=k/\HJ g (q.1.set (bc g r.Left) (fs++[(⟨cw g r (eP g r (eN g r A c)),r,iL c⟩:aB)])) f:=λk l f hk hm=>by
  obtain⟨a,L,b,e⟩:=hD k l hk f hm;exact⟨a,L,F4 hmono _ _ _ b,e⟩
 rw[Cjz] at hl;by_cases e:bc g r.Left=k;subst e;rw[ao rfl,ao hw] at hl;cases hl;rcases List.mem_append.1 hfl with hfl|hfl;exact old _ fs f hf hfl;rw[Bpz] at hfl;subst hfl;exact⟨rfl,_,F4 hmono _ _ _ hL,rfl⟩;rw[an e] at hl;exact old k l f hl hfl
theorem Jt {g:al}(h0:Sz.szd g<=1048576)(hS:Shape g){r:ae}(Z:r∈g.rs_){A:List (List au)}(hA:aM g A):∀ (cs:List (List Nat)) (q:List (List aB)×Bool),(∀ c∈cs,Ch g r A c)->aM g (aN q.1)->bO A (aN q.1)->dG g q.1->dG g (cs.foldl (eZ g r A) q).1
 | [],q,_,_,_,hD=>hD
 | c::cs,q,hc,hi,he,hD=>by
  rw[Ffz];obtain⟨hi1,he1⟩:=AQ h0 hS Z hi he c;exact Jt h0 hS Z hA cs _ (λx hx=>hc x (by simp[hx])) hi1 he1 (Py hS Z hA hi he hD (hc c (by simp)))
theorem Js {g:al}(h0:Sz.szd g<=1048576)(hS:Shape g){A:List (List au)}(hA:aM g A):∀ (rs:List ae) (q:List (List aB)×Bool),(∀ r∈rs,r∈g.rs_)->aM g (aN q.1)->bO A (aN q.1)->dG g q.1->dG g (rs.foldl (cE g A) q).1
 | [],q,_,_,_,hD=>hD
 | r::rs,q,Z,hi,he,hD=>by
  rw[Ffz];have hr1:=Z r (by simp);obtain⟨hi1,he1⟩:=Bh h0 hS hr1 hi he;exact Js h0 hS hA rs _ (λx hx=>Z x (by simp[hx])) hi1 he1 (Jt h0 hS hr1 hA _ q (λc hc=>wm hc) hi he hD)
theorem US {g:al}(h0:Sz.szd g<=1048576)(hS:Shape g){F:List (List aB)}(hi:aM g (aN F))(hD:dG g F):dG g (fl g F).1:=
 Js h0 hS hi g.rs_ (F,false) (λ_ h=>h) hi (.rfl' _) hD
theorem Px {g:al}(h0:Sz.szd g<=1048576)(hS:Shape g)(P:List (List aB)->Prop)(hP:∀ F,aM g (aN F)->P F->P (fl g F).1):∀ (d:Nat) (F:List (List aB)),aM g (aN F)->fM g F->P F->g.ss_.length*16-eB (aN F)<=d ->
  ∃ F',bK (pW g) F=some F'/\bK (xK g) (aN F,dp F)=some (aN F',dp F')/\aM g (aN F')/\fM g F'/\P F':=by
 intro d
 induction d with
 | zero=>
  intro F hi hD hp hd;have e1:=Nm h0 hS hi;have e2:=HK h0 hS hi;have mv:=tq h0 hS hi;have Y:=mv.inv.bound hS;obtain⟨i1,i2⟩:=Nl h0 hS hi hD;have i3:=hP F hi hp;have hc:(fl g F).2=false:=by
   have e:=congrArg Prod.snd (F6 g F);dsimp only at e;rw[e];cases hq:(iF g (aN F)).2 with
   | false=>rfl
   | true=>
    rcases mv.up hq with h|h;cases h;dsimp only at h;omega
  rw[hc,an Fqz] at e1 e2;exact⟨_,c9 e1,c9 e2,i1,i2,i3⟩
 | succ d ih=>
  intro F hi hD hp hd;have e1:=Nm h0 hS hi;have e2:=HK h0 hS hi;have mv:=tq h0 hS hi;have Y:=mv.inv.bound hS;obtain⟨i1,i2⟩:=Nl h0 hS hi hD;have i3:=hP F hi hp;have es:=F6 g F;cases hq:(fl g F).2 with
  | false=>
   rw[hq,an Fqz] at e1 e2;exact⟨_,c9 e1,c9 e2,i1,i2,i3⟩
  | true=>
   rw[hq,ao rfl] at e1 e2;have hlt:eB (aN F)<eB (aN (fl g F).1):=by
    have ea:=congrArg Prod.fst es;have eb:=congrArg Prod.snd es;dsimp only at ea eb;rw[ea];rcases mv.up (by rw[← eb];exact hq) with h|h;cases h;exact h
   obtain⟨F',f1,f2,f3,f4⟩:=ih _ i1 i2 i3 (by omega);exact⟨F',by rw[eS e1];exact f1,by rw[eS e2];exact f2,f3,f4⟩
theorem Nk {g:al}(h0:Sz.szd g<=1048576)(hS:Shape g):∃ F,ox g=some F/\rA g=some (aN F,dp F)/\aM g (aN F)/\fM g F/\dG g F:=by
 have e:aN (Bqz g.ss_.length [])=Bqz g.ss_.length []:=by unfold aN;rw[Dhz];rfl
 have er:dp (Bqz g.ss_.length [])=Bqz g.ss_.length ⟨[],[]⟩:=by unfold dp;rw[Dhz];rfl
 obtain⟨F,U,K,h3,h4⟩:=Px h0 hS (dG g) (λF hi hp=>US h0 hS hi hp) _ (Bqz g.ss_.length []) (by
  rw[e];refine⟨by rw[List.length_replicate],λk y L _ hL=>?_⟩;rw[Evz] at hL;split at hL;cases hL;exact⟨List.nodup_nil,λa ha=>by simp at ha⟩;cases hL) (λl hl f hf=>by
  rw[List.eq_of_mem_replicate hl] at hf;exact nomatch hf) (λk l hk f hf=>by
  rw[Evz] at hk;split at hk;cases hk;exact nomatch hf;cases hk) (Acz _)
 rw[e,er] at K;have hs:=hS.syms.2;refine⟨F,?_,?_,h3,h4⟩;unfold ox;rw[aF (by refine⟨?_,?_,?_⟩<;>omega),U];rfl;unfold rA;rw[aF (by refine⟨?_,?_,?_⟩<;>omega),aF (by refine⟨?_,?_,?_⟩<;>omega),K];rfl
theorem XL {g:al}(h0:Sz.szd g<=1048576)(hS:Shape g):∃ F,ox g=some F/\rA g=some (aN F,dp F)/\aM g (aN F)/\fM g F:=
 let ⟨F,a,b,c,d,_⟩:=Nk h0 hS
 ⟨F,a,b,c,d⟩
def cz:Nat->List Tr->List Int
 | _,[]=>[]
 | b,t::ts=>(b:Int)::cz (b+t.sz) ts
mutual
def bD (z:Nat->Int):Tr->Int->Int->Nat->List Node
 | .node r ks,p,q,b=>(⟨z b,p,q,0,r,cz (b+1) ks⟩:Node)::fU z ks (b:Int) 1 (b+1)
def fU (z:Nat->Int):List Tr->Int->Nat->Nat->List Node
 | [],_,_,_=>[]
 | t::ts,p,k,b=>bD z t p (k:Int) b++fU z ts p (k+1) (b+t.sz)
end
mutual
theorem mQ (z:Nat->Int):∀ (t:Tr) (p q:Int) (b:Nat),(bD z t p q b).length=t.sz
 | .node r ks,p,q,b=>by rw[bD,bE,Lx z ks,Tr.sz];omega
theorem Lx (z:Nat->Int):∀ (ts:List Tr) (p:Int) (k b:Nat),(fU z ts p k b).length=Tr.szs ts
 | [],_,_,_=>rfl
 | t::ts,p,k,b=>by rw[fU,Axz,mQ z t,Lx z ts,Tr.szs]
end
def cH (b:Nat):Int:=((b+1:Nat):Int)
theorem Shape.r3 {g:al}(hS:Shape g){r:ae}(Z:r∈g.rs_):r.rt_.length<=3:=gu hS Z
theorem tp {rec:aB->Option Tr}{g:al}{F:List (List aB)}:∀ (ns:List ar) (ds:List Int) (ts:List Tr),fV rec g F ns ds=some ts->ds.length=ns.length/\ts.length=ns.length
 | [],[],ts,h=>by cases h;exact⟨rfl,rfl⟩
 | n::ns,d::ds,ts,h=>by
  rw[fV] at h;obtain⟨f,e1,h⟩:=Option.bind_eq_some_iff.1 h;obtain⟨t,e2,h⟩:=Option.bind_eq_some_iff.1 h;obtain⟨us,e3,h⟩:=Option.bind_eq_some_iff.1 h;cases h;obtain⟨U,K⟩:=tp ns ds us e3;exact⟨by simp[U],by simp[K]⟩
 | [],_::_,ts,h=>by cases h
 | _::_,[],ts,h=>by cases h
theorem qQ {g:al}{F:List (List aB)}{n:ar}{d:Int}{f:aB}(h:cP g F n d=some f):∃ l,F[bc g n]?=some l/\l[d.toNat]?=some f/\l∈F/\f∈l:=by
 unfold cP at h;rw[Cwz] at h;cases hF:F[bc g n]? with
 | none=>rw[hF] at h;simp at h
 | some l=>
  rw[hF,Cbz] at h;exact⟨l,rfl,h,Bvz hF,Bvz h⟩
section
variable {g:al}{F:List (List aB)}
def HI (g:al)(F:List (List aB))(m:Nat)(f:aB)(t:Tr):Prop:=
 ∀ (N:List Node) (p q:Int),N.length<=16->∃ z:az,(∀ k,m<=k->lV k g F f p q ⟨N⟩=some (decide (N.length+t.sz<=16),z))/\(N.length+t.sz<=16->z=⟨N++bD cH t p q N.length⟩)
theorem HY (hS:Shape g)(hA:aM g (aN F)){n:Nat}(ih:∀ f t,(∃ l∈F,f∈l)->fi g F n f=some t->HI g F n f t){f:aB}(Z:f.rule∈g.rs_){N:List Node}{p q:Int}(nm:ar) :
  ∀ (ds:List Int) (ns:List ar) (ks:List Tr) (k:Nat) (ch:List Int) (M:List Node),fV (fi g F n) g F ns ds=some ks->(∀ d∈ds,0<=d)->(∀ (j:Nat) x,ns[j]?=some x->f.rule.rt_[k+j]?=some x)->ch.length<=k->k+ds.length<=3->N.length+1+M.length<=16 ->
   ∃ X,(∀ m,n<=m->findL (tj (lV m) g F f ⟨N⟩) k ds (N++(⟨cH N.length,p,q,0,nm,ch⟩:Node)::M)=some X) /\
    ((N.length+1+M.length+Tr.szs ks<=16->X=.inl (N++(⟨cH N.length,p,q,0,nm,ch++cz (N.length+1+M.length) ks⟩:Node)::(M++fU cH ks (N.length:Int) (k+1) (N.length+1+M.length)))) /\
    (¬ N.length+1+M.length+Tr.szs ks<=16->∃ z,X=.inr (false,z)))
 | [],ns,ks,k,ch,M,hk,_,_,_,_,hl=>by
  cases ns with
  | cons _ _=>cases hk
  | nil=>
   cases hk;refine⟨_,λm hm=>rfl,λ_=>?_,λh=>absurd hl (by rw[Tr.szs] at h;omega)⟩;rw[cz,fU,List.append_nil,List.append_nil]
 | d::ds,ns,ks,k,ch,M,hk,hd,hn,hc,h3,hl=>by
  cases ns with
  | nil=>cases hk
  | cons x ns=>
   rw[fV] at hk;obtain⟨f',e1,hk⟩:=Option.bind_eq_some_iff.1 hk;obtain⟨t,e2,hk⟩:=Option.bind_eq_some_iff.1 hk;obtain⟨ts,e3,hk⟩:=Option.bind_eq_some_iff.1 hk;cases hk;obtain⟨l,k1,k2,k3,k4⟩:=qQ e1;have hx:=hn 0 x rfl;rw[Nat.add_zero] at hx;have hd0:=hd d (by simp);obtain⟨W,_⟩:=hA.at_ (hS.right Z (Bvz hx));simp only[bE] at h3;have hs1:(N++(⟨cH N.length,p,q,0,nm,ch⟩:Node)::M)[N.length]?=some ⟨cH N.length,p,q,0,nm,ch⟩:=by
    rw[List.getElem?_append_right (Acz _),Nat.sub_self];rfl
   have hset:(N++(⟨cH N.length,p,q,0,nm,ch⟩:Node)::M).set N.length ⟨cH N.length,p,q,0,nm,ch++[((N++(⟨cH N.length,p,q,0,nm,ch⟩:Node)::M).length:Int)]⟩=N++(⟨cH N.length,p,q,0,nm,ch++[((N.length+1+M.length:Nat):Int)]⟩:Node)::M:=by
    rw[List.set_append_right _ _ (Acz _),Nat.sub_self,List.set_cons_zero,Axz,bE,show N.length+(M.length+1)=N.length+1+M.length by omega]
   have hlen:(N++(⟨cH N.length,p,q,0,nm,ch++[((N.length+1+M.length:Nat):Int)]⟩:Node)::M).length=N.length+1+M.length:=by
    rw[Axz,bE];omega
   obtain⟨z,g1,g2⟩:=ih f' t ⟨l,k3,k4⟩ e2 (N++(⟨cH N.length,p,q,0,nm,ch++[((N.length+1+M.length:Nat):Int)]⟩:Node)::M) (N.length:Int) ((k+1:Nat):Int) (by rw[hlen];exact hl);rw[hlen] at g1 g2;have e:∀ m,n<=m->tj (lV m) g F f ⟨N⟩ k d (N++(⟨cH N.length,p,q,0,nm,ch⟩:Node)::M)=some (if N.length+1+M.length+t.sz<=16 then .inl z.ns_ else .inr (false,z)):=λm hm=>by
    unfold tj;dsimp only;rw[hs1,aj];dsimp only;rw[aF (by constructor<;>omega),hx,aj,py,aj,W,aF (by omega),b7,k1,aj,aF hd0,k2,aj,hset,g1 m hm,aj];dsimp only;by_cases hf:N.length+1+M.length+t.sz<=16;rw[decide_eq_true hf,ao rfl,ao hf];rw[decide_eq_false hf,an Fqz,an hf]
   by_cases hf:N.length+1+M.length+t.sz<=16;have hM:(M++bD cH t (N.length:Int) ((k+1:Nat):Int) (N.length+1+M.length)).length=M.length+t.sz:=by rw[Axz,mQ]
   obtain⟨X,x1,x2,x3⟩:=HY hS hA ih Z (N:=N) (p:=p) (q:=q) nm ds ns ts (k+1) (ch++[((N.length+1+M.length:Nat):Int)]) (M++bD cH t (N.length:Int) ((k+1:Nat):Int) (N.length+1+M.length)) e3 (λd h=>hd d (by simp[h])) (λj y hy=>by rw[show k+1+j=k+(j+1) by omega];exact hn (j+1) y hy) (by simp;omega) (by omega) (by rw[hM];omega);rw[hM] at x2 x3;refine⟨X,λm hm=>?_,λh=>?_,λh=>x3 (by rw[Tr.szs] at h;omega)⟩;rw[findL,e m hm,aj,ao hf];dsimp only;rw[g2 hf];dsimp only;rw[Azz,List.cons_append];exact x1 m hm;rw[x2 (by rw[Tr.szs] at h;omega),cz,fU,show N.length+1+(M.length+t.sz)=N.length+1+M.length+t.sz by omega];simp only[Azz,List.cons_append,Ecz];exact⟨.inr (false,z),λm hm=>by rw[findL,e m hm,aj,an hf],λh=>absurd h (by rw[Tr.szs];omega),λ_=>⟨z,rfl⟩⟩
theorem Jr (hS:Shape g)(hA:aM g (aN F))(hD:fM g F):∀ (n:Nat) (f:aB) (t:Tr),f.rule∈g.rs_->(∀ d∈f.children,0<=d)->fi g F n f=some t->HI g F n f t
 | 0,f,t,_,_,h=>by cases h
 | n+1,f,t,Z,hc,h=>by
  rw[fi] at h;obtain⟨ks,e1,h⟩:=Option.bind_eq_some_iff.1 h;cases h;intro N p q hN;have hk3:=(tp _ _ _ e1).1;have hR:=gu hS Z;rw[Tr.sz];by_cases h16:(N.length:Int)=16;refine⟨⟨N⟩,λm hm=>?_,λh=>by omega⟩;cases m with
  | zero=>omega
  | succ m=>
   show ps (lV m) g F f p q ⟨N⟩=_;unfold ps;dsimp only;rw[ao h16,decide_eq_false (by omega)]
  have hl:N.length+1+([]:List Node).length<=16:=by simp;omega
  obtain⟨X,x1,x2,x3⟩:=HY hS hA (n:=n) (λf' t' ⟨l,hl,hf⟩ ht=>Jr hS hA hD n f' t' (hD l hl f' hf).1 (hD l hl f' hf).2.1 ht) Z (N:=N) (p:=p) (q:=q) f.rule.Name f.children f.rule.rt_ ks 0 [] [] e1 hc (λj x hx=>by rw[Adz];exact hx) (Acz _) (by omega) hl;have hid:cH N.length=((N.length+1:Nat):Int):=rfl;rw[hid] at x1;simp only[Dyz,Nat.add_zero,Ecz] at x2 x3;have step:∀ (r:Bool×az),(∀ m,n<=m->((findL (tj (lV m) g F f ⟨N⟩) 0 f.children (N++[(⟨((N.length+1:Nat):Int),p,q,0,f.rule.Name,[]⟩:Node)])).bind <| bg (λr1=>some r1) λs1=>some (true,(⟨s1⟩:az)))=some r)->∀ m,n+1<=m->lV m g F f p q ⟨N⟩=some r:=λr Z m hm=>by
   cases m with
   | zero=>omega
   | succ m=>
    show ps (lV m) g F f p q ⟨N⟩=_;unfold ps;dsimp only;rw[an h16,aF (by constructor<;>omega),aF (by constructor<;>omega)];exact Z m (by omega)
  by_cases hf:N.length+1+Tr.szs ks<=16;have e2:=x2 hf;refine⟨_,step _ λm hm=>by rw[x1 m hm,e2,aj,decide_eq_true (by omega)];rfl,λ_=>?_⟩;rw[bD];obtain⟨z,hz⟩:=x3 hf;exact⟨z,step _ λm hm=>by rw[x1 m hm,hz,aj,decide_eq_false (by omega)];rfl,λh=>by omega⟩
theorem Kx (hS:Shape g)(hA:aM g (aN F))(hD:fM g F){n:Nat}{f:aB}{t:Tr}(Z:f.rule∈g.rs_)(hc:∀ d∈f.children,0<=d)(h:fi g F n f=some t):kQ g F f=some (if t.sz<=16 then (⟨bD cH t (-1) 0 0⟩,true) else (⟨[]⟩,false)):=by
 obtain⟨z,e1,e2⟩:=Jr hS hA hD n f t Z hc h [] (-1) 0 (by simp);simp only[Dyz,Adz,Ecz] at e1 e2;unfold kQ Et;rw[iu n e1,aj];dsimp only;by_cases hf:t.sz<=16;rw[decide_eq_true hf,ao rfl,ao hf,e2 hf];rw[decide_eq_false hf,an Fqz,an hf]
end
end Go.Proofs.YtodhafdaelcnlaaGreat
