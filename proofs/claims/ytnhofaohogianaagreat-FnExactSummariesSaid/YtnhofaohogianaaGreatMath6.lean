/- What those partial functions come to: plain lemmas on data; each bears its conditions in its statement. -/
import Derived.Test.YtnhofaohogianaaGreatMath5
set_option linter.unusedVariables false
set_option linter.unusedSimpArgs false
set_option linter.ambiguousOpen false
set_option linter.unusedSectionVars false
set_option linter.unnecessarySimpa false
set_option maxRecDepth 100000
set_option maxHeartbeats 4000000
open List renaming getElem?_map→Cxz,length_nil→Dpz,findIdx?_eq_none_iff→Ekz,findIdx?_eq_some_iff_getElem→Epz,getElem?_eq_getElem→Ckz,take_zero→Ffz,mem_of_getElem?→Bsz,length_take→Boz,take_add_one→Duz,take_length→Fgz,length_range→Fhz,foldl_cons→Fiz,replicate→Bmz,map_replicate→Dgz,nil_append→Dqz,map_cons→Bhz,length_take_le→Fjz,take_of_length_le→Bfz,length_append→Awz,set→Dlz
open Bool renaming false_ne_true→Fkz
open Nat renaming zero_add→Adz,le_trans→Bdz
namespace Go.Proofs.YtnhofaohogianaaGreat
open Go Go.E
def sms (F:List (List Fo_)):List (List Rl_):=F.map fun l=>l.map Fo_.summary
theorem j7f (F:List (List Fo_))(k:Nat):(sms F)[k]?=(F[k]?).map fun l=>l.map Fo_.summary:=by unfold sms;rw[Cxz]
theorem k3x (l:List Int)(h:l.length≤1048576):q5G l=some l:=by
 unfold q5G
 rw[q3G (by rw[Dpz];constructor<;>omega)]
theorem k5H (fs:List Fo_)(s:Rl_):q3X fs s=some (decide (s∈fs.map Fo_.summary)):=by
 unfold q3X q4F
 rw[z2K (q:=fun f:Fo_=>decide (f.summary=s)) (c:=fun k=>(k:Int)) fun j x hx=>by
  unfold q5Z z1e
  rw[k5y,bsS,bsS,← apply_ite some]]
 cases e:fs.findIdx? fun f=>decide (f.summary=s) with
 | none=>
  rw[Ekz] at e
  have:¬ s∈fs.map Fo_.summary:=fun h=>by
   obtain⟨f,h1,h2⟩:=List.mem_map.1 h
   have:=e f h1
   simp[h2] at this
  rw[decide_eq_false this];rfl
 | some j=>
  rw[Epz] at e
  obtain⟨hj,h1,h2⟩:=e
  have:s∈fs.map Fo_.summary:=List.mem_map.2 ⟨fs[j],List.getElem_mem hj,of_decide_eq_true h1⟩
  rw[decide_eq_true this]
  dsimp only
  simp only[bsS,z6F]
  rw[decide_eq_true (by omega)]
theorem k5I {g:Gm_}(h0:Sz.szd g≤1048576)(hS:Shape g){r:Rule}(hr:r∈g.rs_){F:List (List Fo_)}{b:Bool}(hi:InvS g (sms F)){c:List Int}(hc:c.length≤1048576)(x:Rl_) :
  ∃ F',z1q c x g F b r (atI g r.Left)=some (true,F',(stA (atN g r.Left) (sumS g r x) (sms F,b)).2)∧sms F'=(stA (atN g r.Left) (sumS g r x) (sms F,b)).1:=by
 obtain⟨h1,h2,h3,h4,h5⟩:=hi.at_ (hS.left hr)
 have hle:=hi.le hS (hS.left hr)
 have hw:atN g r.Left<F.length:=by unfold sms at h2;rwa[lnM] at h2
 obtain⟨fs,hf⟩:∃ fs,F[atN g r.Left]?=some fs:=⟨_,Ckz hw⟩
 have hm:lsA g (sms F) r.Left=fs.map Fo_.summary:=by
  rw[j7f,hf] at h3
  exact (Option.some.inj h3).symm
 have hgd:(sms F).getD (atN g r.Left) []=fs.map Fo_.summary:=hm
 rw[hm,lnM] at hle
 unfold z1q stA
 dsimp only
 rw[hgd,(k1B (z3C h0) (by have:=z6C hS hr;show r.rt_.length≤1048576;omega) x).2,bsS,h1,q3G (by omega),tnC,hf,bsS,k5H,bsS]
 by_cases hs:sumS g r x∈fs.map Fo_.summary
 ·rw[ifP (decide_eq_true hs),ifP hs]
  exact⟨F,rfl,rfl⟩
 ·rw[decide_eq_false hs,ifN Fkz,ifN hs,k3x c hc,bsS,q3G (by constructor<;>omega)]
  refine⟨_,rfl,?_⟩
  unfold sms
  rw[List.map_set,List.map_append];rfl
theorem k3y {g:Gm_}(hS:Shape g){r:Rule}(hr:r∈g.rs_){A:List (List Rl_)}(hA:InvS g A){F:List (List Fo_)}(he:Ext A (sms F)){c:List Nat}(h:Ch g r A c) :
  eachL (q5o F (iL (r.rt_.map (atN g)))) 0 (iL c) []=some (z4p g r A c):=by
 have h3:=z6C hS hr
 obtain⟨s',e,hp⟩:=z3k (P:=fun k s=>s=(z4p g r A c).take k) (f:=q5o F (iL (r.rt_.map (atN g)))) (xs:=iL c) (i:=0) (s:=[]) (by rw[Ffz]) fun k x s hx hs=>by
  rw[Adz] at hs ⊢
  rw[z5Z] at hx
  cases hd:c[k]? with
  | none=>rw[hd] at hx;cases hx
  | some d=>
   rw[hd] at hx;cases hx
   have hlt:=(List.getElem?_eq_some_iff.1 hd).1
   rw[h.1] at hlt
   obtain⟨n,hn⟩:∃ n,r.rt_[k]?=some n:=⟨_,Ckz hlt⟩
   obtain⟨own,h1,h2⟩:=j4i h hn hd
   obtain⟨t,ht⟩:=he.2 _ _ (hA.at_ (hS.right hr (Bsz hn))).2.2.1
   rw[j7f] at ht
   cases hf:F[atN g n]? with
   | none=>rw[hf] at ht;cases ht
   | some fs=>
    rw[hf] at ht
    have ht:fs.map Fo_.summary=lsA g A n++t:=Option.some.inj ht
    have hd2:=h.2 k n d hn hd
    have hfd:(fs.map Fo_.summary)[d]?=some own:=by rw[ht,List.getElem?_append_left hd2];exact h2
    rw[Cxz] at hfd
    cases hq:fs[d]? with
    | none=>rw[hq] at hfd;cases hfd
    | some q=>
     rw[hq] at hfd
     have hfd:=Option.some.inj hfd
     have hsl:s.length≤3:=by rw[hs,Boz,z8r h];omega
     refine⟨s++[own],?_,?_⟩
     ·unfold q5o
      rw[z5Z,Cxz,hn]
      simp only[Option.map_some,bsS]
      rw[q3G (by omega),tnC,hf,bsS,q3G (by omega),tnC,hq,bsS,q3G (by constructor<;>omega),hfd]
     ·rw[hs,Duz,h1];rfl
 rw[e,hp,z8s,Adz,h.1,← z8r h,Fgz]
theorem j9B {g:Gm_}(h0:Sz.szd g≤1048576)(hS:Shape g){r:Rule}(hr:r∈g.rs_){A:List (List Rl_)}(hA:InvS g A){F:List (List Fo_)}{b:Bool}(hi:InvS g (sms F))(he:Ext A (sms F)){c:List Nat}(h:Ch g r A c) :
  ∃ F',q4W (iL c) g F b r (atI g r.Left) g r F (iL (r.rt_.map (atN g)))=some (true,F',(stA (atN g r.Left) (ownR g r A c) (sms F,b)).2,F')∧sms F'=(stA (atN g r.Left) (ownR g r A c) (sms F,b)).1:=by
 have h3:=z6C hS hr
 obtain⟨_,e2,_⟩:=k1z h0 (Bdz (z5W hr) h0) (j5K hS hr hA h)
 obtain⟨F',e,hF⟩:=k5I h0 hS hr (b:=b) hi (c:=iL c) (by rw[z8s,h.1];omega) (j2p g r (z4p g r A c))
 refine⟨F',?_,hF⟩
 unfold q4W
 rw[k3y hS hr hA he h,bsS,e2,bsS,e];rfl
theorem k4t {g:Gm_}(hS:Shape g){r:Rule}(hr:r∈g.rs_){A:List (List Rl_)}(hA:InvS g A):∀ c∈q5Q g r A,c≤16:=fun c hc=>by
 obtain⟨n,h1,rfl⟩:=List.mem_map.1 hc
 exact hA.le hS (hS.right hr h1)
theorem j1L (g:Gm_)(r:Rule)(A:List (List Rl_)):(q5Q g r A).length=r.rt_.length:=by unfold q5Q;rw[lnM]
theorem k6L {g:Gm_}{r:Rule}{A:List (List Rl_)}{n:Nat}(h:n<q7h (q5Q g r A)):Ch g r A (digL (q5Q g r A) n):=k6I (List.mem_map.2 ⟨n,List.mem_range.2 h,rfl⟩)
theorem j8n {g:Gm_}(h0:Sz.szd g≤1048576)(hS:Shape g){r:Rule}(hr:r∈g.rs_){A:List (List Rl_)}(hA:InvS g A) :
  ∀ (d n:Nat) (F:List (List Fo_)) (b:Bool),n<q7h (q5Q g r A)→q7h (q5Q g r A)-n=d→InvS g (sms F)→Ext A (sms F) →
   ∃ F' b',q4Y (q3N (iL (q5Q g r A)) g r (atI g r.Left) g r (iL (r.rt_.map (atN g)))) (iL (digL (q5Q g r A) n),F,b)=some (.inr (F',b',F')) ∧
    (sms F',b')=((chL (q5Q g r A)).drop n).foldl (fun q c=>stA (atN g r.Left) (ownR g r A c) q) (sms F,b)
 | 0,n,F,b,hn,hd,hi,he=>by omega
 | d+1,n,F,b,hn,hd,hi,he=>by
  have hch:=k6L hn
  obtain⟨F1,e1,hF1⟩:=j9B h0 hS hr hA (b:=b) hi he hch
  have mv:=k5G (A:=A) hS hr (q:=(sms F,b)) hi he (k1J h0 hS r (j2p g r (z4p g r A (digL (q5Q g r A) n))))
  have h3:=z6C hS hr
  have hcl:=j1L g r A
  obtain⟨q,e2,hq⟩:=j9A (cs:=q5Q g r A) (ds:=digL (q5Q g r A) n) rfl (j4g _ _) (fun i d c h1 h2=>⟨k1I hn i d c h1 h2,by have:=k4t hS hr hA c (Bsz h2);omega⟩) (by omega)
  obtain⟨q1,q2⟩:=q
  have hdrop:(chL (q5Q g r A)).drop n=digL (q5Q g r A) n::(chL (q5Q g r A)).drop (n+1):=by
   have hl:n<(chL (q5Q g r A)).length:=by unfold chL;rw[lnM,Fhz];exact hn
   have hg:(chL (q5Q g r A))[n]?=some (digL (q5Q g r A) n):=by
    unfold chL
    rw[Cxz,List.getElem?_range hn];rfl
   rw[Ckz hl] at hg
   rw[List.drop_eq_getElem_cons hl,Option.some.inj hg]
  rw[hdrop,Fiz]
  have e3:(sms F1,(stA (atN g r.Left) (ownR g r A (digL (q5Q g r A) n)) (sms F,b)).2)=stA (atN g r.Left) (ownR g r A (digL (q5Q g r A) n)) (sms F,b):=by rw[hF1]
  rw[← e3]
  have hi1:InvS g (sms F1):=by rw[hF1];exact mv.inv
  have he1:Ext A (sms F1):=by rw[hF1];exact mv.ext
  unfold k1M at hq
  rw[j8i _ _ hn] at hq
  by_cases hlast:n+1<q7h (q5Q g r A)
  ·rw[ifP hlast] at hq
   obtain⟨k0,x,hx,hxl,hset⟩:=hq
   dsimp only at k0 hx hset
   have hs:q3N (iL (q5Q g r A)) g r (atI g r.Left) g r (iL (r.rt_.map (atN g))) (iL (digL (q5Q g r A) n),F,b)=some (.inl (iL (digL (q5Q g r A) (n+1)),F1,(stA (atN g r.Left) (ownR g r A (digL (q5Q g r A) n)) (sms F,b)).2)):=by
    unfold q3N
    dsimp only
    rw[e1,bsS]
    dsimp only
    rw[ifP rfl,e2,bsS]
    dsimp only
    rw[ifN (by omega),q3G k0,hx,bsS,q3G ⟨by omega,by omega⟩,← hset]
    rfl
   rw[q4Q hs]
   exact j8n h0 hS hr hA d (n+1) F1 _ hlast (by omega) hi1 he1
  ·rw[ifN hlast] at hq
   dsimp only at hq
   refine⟨F1,_,q3V (by
    unfold q3N
    dsimp only
    rw[e1,bsS]
    dsimp only
    rw[ifP rfl,e2,bsS]
    dsimp only
    rw[ifP hq]),?_⟩
   have:(chL (q5Q g r A)).drop (n+1)=[]:=List.drop_eq_nil_of_le (by unfold chL;rw[lnM,Fhz];omega)
   rw[this];rfl
theorem j5M (l:List Nat):q5V (iL l) 0=some (decide (0∈l)):=by
 unfold q5V q7X
 rw[z2K (q:=fun x:Int=>decide (x=0)) (c:=fun k=>(k:Int)) fun j x hx=>by
  unfold z2x
  by_cases h:x=0
  ·rw[ifP h.symm,ifP (decide_eq_true h)]
  ·rw[ifN (fun e=>h e.symm),ifN (by simpa using h)]]
 cases e:(iL l).findIdx? fun x=>decide (x=0) with
 | none=>
  rw[Ekz] at e
  have:¬ 0∈l:=fun h=>by
   have:=e 0 (List.mem_map.2 ⟨0,h,rfl⟩)
   simp at this
  rw[decide_eq_false this];rfl
 | some j=>
  rw[Epz] at e
  obtain⟨hj,h1,h2⟩:=e
  have h3:(iL l)[j]=0:=of_decide_eq_true h1
  have:(0:Nat)∈l:=by
   have h4:(iL l)[j]?=some 0:=by rw[Ckz hj,h3]
   rw[z5Z] at h4
   cases h5:l[j]? with
   | none=>rw[h5] at h4;cases h4
   | some n=>
    rw[h5] at h4
    have h4:(n:Int)=0:=Option.some.inj h4
    have:n=0:=by omega
    subst this
    exact Bsz h5
  rw[decide_eq_true this]
  simp only[bsS,z6F]
  rw[decide_eq_true (by omega)]
theorem k5J {cs:List Nat}(h:0∈cs):chL cs=[]:=by unfold chL;rw[j5J h];rfl
theorem k5K {g:Gm_}(h0:Sz.szd g≤1048576)(hS:Shape g){r:Rule}(hr:r∈g.rs_){A:List (List Rl_)}(hA:InvS g A){F:List (List Fo_)}(b:Bool)(hi:InvS g (sms F))(he:Ext A (sms F)) :
  ∃ F' b',q3Q (iL (q5Q g r A)) g F b r (atI g r.Left) g r F (iL (r.rt_.map (atN g)))=some (F',b',F')∧(sms F',b')=runR g A (sms F,b) r:=by
 unfold q3Q runR
 rw[j5M,bsS]
 have h3:=z6C hS hr
 have hcl:=j1L g r A
 by_cases hz:0∈q5Q g r A
 ·rw[ifP (decide_eq_true hz),k5J hz]
  exact⟨F,b,rfl,rfl⟩
 ·rw[decide_eq_false hz,ifN Fkz,z8s,q3G (by refine⟨?_,?_,?_⟩<;>omega)]
  have hp:0<q7h (q5Q g r A):=j8k fun c hc=>Nat.pos_of_ne_zero fun e=>hz (e▸hc)
  obtain⟨F',b',e,hF⟩:=j8n h0 hS hr hA _ 0 F b hp rfl hi he
  rw[j4h,show iL (Bmz (q5Q g r A).length 0)=Bmz (q5Q g r A).length (0:Int) by unfold iL;rw[Dgz];rfl] at e
  rw[e]
  rw[List.drop_zero] at hF
  exact⟨F',b',rfl,hF⟩
theorem j7g {F:List (List Fo_)}(h:F.length≤1048576):eachL z6Q 0 F ([]:List Int)=some (F.map fun l:List Fo_=>(l.length:Int)):=by
 rw[z8p (g:=fun l:List Fo_=>(l.length:Int)) (B:=1048576) F 0 [] (fun k x s hx hs=>by
  unfold z6Q
  rw[q3G (by constructor<;>omega)]) (by rw[Dpz];omega),Dqz]
theorem j7h (F:List (List Fo_)):(F.map fun l:List Fo_=>(l.length:Int))=iL ((sms F).map (·.length)):=by
 induction F with
 | nil=>rfl
 | cons l F ih=>
  unfold iL sms at ih ⊢
  simp only[Bhz,lnM] at ih ⊢
  rw[ih]
theorem j9C {F:List (List Fo_)}(h:F.length≤1048576):z3Y F=some (iL ((sms F).map (·.length))):=by
 unfold z3Y
 rw[j7g h,j7h];rfl
theorem bnd8 {l:List Int}(h:l.length≤3):((l.length:Int)+1)*8≤140737488355328∧(l.length:Int)+1≤9223372036854775807:=by constructor<;>omega
theorem j7i {g:Gm_}(hS:Shape g){r:Rule}(hr:r∈g.rs_){A:List (List Rl_)}(hA:InvS g A){k:Nat}{n:BA_}(hn:r.rt_[k]?=some n) :
  q5I g (iL (A.map (·.length))) k n ((iL (q5Q g r A)).take k,(iL (r.rt_.map (atN g))).take k)=some ((iL (q5Q g r A)).take (k+1),(iL (r.rt_.map (atN g))).take (k+1)):=by
 have h3:=z6C hS hr
 have hlt:=(List.getElem?_eq_some_iff.1 hn).1
 obtain⟨k1,k2,k3,_,_⟩:=hA.at_ (hS.right hr (Bsz hn))
 have e1:(iL (q5Q g r A)).take (k+1)=(iL (q5Q g r A)).take k++[((lsA g A n).length:Int)]:=by
  rw[Duz,z5Z]
  unfold q5Q
  rw[Cxz,hn];rfl
 have e2:(iL (r.rt_.map (atN g))).take (k+1)=(iL (r.rt_.map (atN g))).take k++[(atN g n:Int)]:=by
  rw[Duz,z5Z,Cxz,hn];rfl
 have b1:((iL (q5Q g r A)).take k).length≤3:=Bdz (Fjz _ _) (by omega)
 have b2:((iL (r.rt_.map (atN g))).take k).length≤3:=Bdz (Fjz _ _) (by omega)
 have hx:(iL (A.map (·.length)))[atN g n]?=some ((lsA g A n).length:Int):=by rw[z5Z,Cxz,k3];rfl
 rw[e1,e2]
 generalize (iL (q5Q g r A)).take k=s1 at b1
 generalize (iL (r.rt_.map (atN g))).take k=s2 at b2
 generalize iL (A.map (·.length))=cc at hx
 unfold q5I
 dsimp only
 rw[j8h,bsS,k1,q3G (by omega),tnC,hx,bsS,q3G (bnd8 b1),q3G (bnd8 b2)]
theorem k1N {g:Gm_}(h0:Sz.szd g≤1048576)(hS:Shape g){r:Rule}(hr:r∈g.rs_){A:List (List Rl_)}(hA:InvS g A){F:List (List Fo_)}(b:Bool)(hi:InvS g (sms F))(he:Ext A (sms F)) :
  ∃ F' b',q5e g r F (iL (A.map (·.length))) g F b r (atI g r.Left)=some (F',b')∧(sms F',b')=runR g A (sms F,b) r:=by
 have h3:=z6C hS hr
 obtain⟨F',b',e,hF⟩:=k5K h0 hS hr hA b hi he
 refine⟨F',b',?_,hF⟩
 unfold q5e
 obtain⟨s',e2,hp⟩:=z3k (P:=fun k (s:List Int×List Int)=>s=((iL (q5Q g r A)).take k,(iL (r.rt_.map (atN g))).take k)) (f:=q5I g (iL (A.map (·.length)))) (xs:=r.rt_) (i:=0) (s:=([],[])) (by rw[Ffz,Ffz]) fun k n s hn hs=>by
  rw[Adz] at hs ⊢
  rw[hs]
  exact⟨_,j7i hS hr hA hn,rfl⟩
 rw[Adz] at hp
 rw[e2,hp,Bfz (by rw[z8s,j1L];omega),Bfz (by rw[z8s,lnM];omega),bsS]
 dsimp only
 rw[e];rfl
theorem j8o {g:Gm_}(h0:Sz.szd g≤1048576)(hS:Shape g){A:List (List Rl_)}(hA:InvS g A):∀ (rs:List Rule) (i:Nat) (F:List (List Fo_)) (b:Bool),(∀ r∈rs,r∈g.rs_)→InvS g (sms F)→Ext A (sms F) →
  ∃ F' b',eachL (z4D g (iL (A.map (·.length)))) i rs (F,b)=some (F',b')∧(sms F',b')=rs.foldl (runR g A) (sms F,b)
 | [],i,F,b,_,hi,he=>⟨F,b,rfl,rfl⟩
 | r::rs,i,F,b,hrs,hi,he=>by
  have hr:=hrs r (by simp)
  obtain⟨F1,b1,e1,hF1⟩:=k1N h0 hS hr hA b hi he
  have mv:=k1L h0 hS hr (q:=(sms F,b)) hi he
  rw[← hF1] at mv
  obtain⟨F2,b2,e2,hF2⟩:=j8o h0 hS hA rs (i+1) F1 b1 (fun x hx=>hrs x (by simp[hx])) mv.inv mv.ext
  refine⟨F2,b2,?_,by rw[Fiz,← hF1];exact hF2⟩
  rw[eachL,show z4D g (iL (A.map (·.length))) i r (F,b)=some (F1,b1) by
   unfold z4D
   dsimp only
   rw[j8h,bsS,e1];rfl,bsS]
  exact e2
noncomputable def z9x (g:Gm_) (A:List (List Rl_)):List (List Rl_)×Bool:=g.rs_.foldl (runR g A) (A,false)
theorem j8p {g:Gm_}(h0:Sz.szd g≤1048576)(hS:Shape g){A:List (List Rl_)}(hA:InvS g A):Mv g A (A,false) (z9x g A):=
 Mv.fold _ _ hA (.rfl' A) fun q r hr h he=>k1L h0 hS hr h he
theorem j5N {g:Gm_}(h0:Sz.szd g≤1048576)(hS:Shape g){F:List (List Fo_)}(hi:InvS g (sms F)) :
  ∃ F',z4E g F=some (if (z9x g (sms F)).2=true then .inl F' else .inr F')∧sms F'=(z9x g (sms F)).1:=by
 obtain⟨F',b',e,hF⟩:=j8o h0 hS hi g.rs_ 0 F false (fun _ h=>h) hi (.rfl' _)
 have hl:F.length≤1048576:=by
  have h1:=hi.1
  have h2:=hS.syms.2
  unfold sms at h1
  rw[lnM] at h1
  omega
 have hr:z9x g (sms F)=(sms F',b'):=hF.symm
 refine⟨F',?_,by rw[hr]⟩
 unfold z4E
 rw[j9C hl,bsS,e,bsS,hr]
 dsimp only
 cases b'<;>rfl
theorem j9D {A:List (List Rl_)}(h:A.length≤1048576):z1l A=some (iL (A.map (·.length))):=by
 unfold z1l
 rw[z8p (g:=fun l:List Rl_=>(l.length:Int)) (B:=1048576) A 0 [] (fun k x s hx hs=>by
  unfold z7N
  rw[q3G (by constructor<;>omega)]) (by rw[Dpz];omega),bsS,Dqz]
 unfold iL
 rw[List.map_map];rfl
theorem k1O (n:Nat):q9H 0 (n:Int)=some (n:Int):=by
 rw[j6T]
 by_cases h:(n:Int) > 0
 ·rw[ifP h]
 ·rw[ifN h,show (n:Int)=0 by omega]
theorem j7j {g:Gm_}(hS:Shape g){r:Rule}(hr:r∈g.rs_){A:List (List Rl_)}(hA:InvS g A):q9Q g r (iL (A.map (·.length)))=some ((chL (q5Q g r A)).map iL):=by
 have h3:=z6C hS hr
 unfold q9Q
 have key:∀ (k:Nat),k≤r.rt_.length→(∀ c∈(q5Q g r A).take k,c≤16)∧((q5Q g r A).take k).length=k:=fun k hk=>by
  refine⟨fun c hc=>k4t hS hr hA c (List.mem_of_mem_take hc),?_⟩
  rw[Boz,j1L];omega
 obtain⟨s',e2,hp⟩:=z3k (P:=fun k (s:List (List Int))=>s=(chL ((q5Q g r A).take k)).map iL) (f:=z3x g (iL (A.map (·.length)))) (xs:=r.rt_) (i:=0) (s:=[[]]) (by rw[Ffz];rfl) fun k n s hn hs=>by
  rw[Adz] at hs ⊢
  have hlt:=(List.getElem?_eq_some_iff.1 hn).1
  have hkn:=hS.right hr (Bsz hn)
  obtain⟨k1,k2,k3,_,_⟩:=hA.at_ hkn
  have hle:=hA.le hS hkn
  have htk:(q5Q g r A).take (k+1)=(q5Q g r A).take k++[(lsA g A n).length]:=by
   rw[Duz]
   unfold q5Q
   rw[Cxz,hn];rfl
  have hcl:(chL ((q5Q g r A).take k)).length≤256:=by
   unfold chL
   rw[lnM,Fhz]
   have h4:=k1H (key k (by omega)).1
   rw[(key k (by omega)).2] at h4
   have h5:16 ^ k≤16 ^ 2:=Nat.pow_le_pow_right (by omega) (by omega)
   omega
  refine⟨(chL ((q5Q g r A).take (k+1))).map iL,?_,rfl⟩
  unfold z3x
  rw[k1p,bsS,k1,k1O (atN g n),bsS,q3G (by omega),tnC,z5Z,Cxz,k3]
  simp only[Option.map_some,bsS]
  rw[hs,htk,k5F]
  obtain⟨s2,e3,hp2⟩:=z3k (P:=fun j (s:List (List Int))=>s=(((chL ((q5Q g r A).take k)).take j).flatMap fun c=>(List.range (lsA g A n).length).map fun d=>iL (c++[d]))) (f:=z3w ((lsA g A n).length:Int)) (xs:=(chL ((q5Q g r A).take k)).map iL) (i:=0) (s:=[]) (by rw[Ffz];rfl) fun j x s hx hs2=>by
   rw[Adz] at hs2 ⊢
   rw[Cxz] at hx
   cases hc:(chL ((q5Q g r A).take k))[j]? with
   | none=>rw[hc] at hx;cases hx
   | some c=>
    rw[hc] at hx;cases hx
    have hj:=(List.getElem?_eq_some_iff.1 hc).1
    have hclen:c.length=k:=by
     obtain⟨m,hm,rfl⟩:=List.mem_map.1 (Bsz hc)
     rw[j4g,(key k (by omega)).2]
    have hsl:s.length≤256*16:=by
     rw[hs2,z9f (n:=(lsA g A n).length) fun c=>by rw[lnM,Fhz]]
     rw[Boz]
     exact Nat.mul_le_mul (by omega) hle
    unfold z3w
    rw[tnC]
    obtain⟨s3,e4,hp3⟩:=z8g (P:=fun d (t:List (List Int))=>t=s++(List.range d).map fun d=>iL (c++[d])) (f:=z3v (iL c)) (n:=(lsA g A n).length) (i:=0) (s:=s) (by rw[List.range_zero,List.map_nil,List.append_nil]) fun d t h1 h2 ht=>by
     have htl:t.length≤256*16+16:=by rw[ht,Awz,lnM,Fhz];omega
     refine⟨_,by
      unfold z3v
      rw[q3G (by rw[Dpz,z8s];constructor<;>omega),q3G (by rw[z8s];constructor<;>omega),q3G (by constructor<;>omega)],?_⟩
     rw[ht,List.range_succ,List.map_append,List.append_assoc,Bhz,List.map_nil,k6J c [d]];rfl
    refine⟨s3,by rw[e4];rfl,?_⟩
    rw[hp3,Adz,hs2,Duz,hc,List.flatMap_append]
    simp
  rw[e3]
  rw[Adz,lnM,Fgz] at hp2
  rw[hp2,List.map_flatMap]
  simp only[List.map_map,bsS]
  rfl
 rw[e2,hp,Adz,Bfz (by rw[j1L];omega)];rfl
theorem k6M {l:List Rl_}(h:l.length≤16):((l.length:Int)+1)*32≤140737488355328∧(l.length:Int)+1≤9223372036854775807:=by constructor<;>omega
theorem j9E {g:Gm_}(hS:Shape g){r:Rule}(hr:r∈g.rs_){A:List (List Rl_)}(hA:InvS g A){c:List Nat}(h:Ch g r A c){k d:Nat}(hd:c[k]?=some d) :
  z4x g r A k (d:Int) ((z4p g r A c).take k)=some ((z4p g r A c).take (k+1)):=by
 have h3:=z6C hS hr
 have hlt:=(List.getElem?_eq_some_iff.1 hd).1
 rw[h.1] at hlt
 obtain⟨n,hn⟩:∃ n,r.rt_[k]?=some n:=⟨_,Ckz hlt⟩
 obtain⟨own,h1,h2⟩:=j4i h hn hd
 obtain⟨k1,k2,k3,_,_⟩:=hA.at_ (hS.right hr (Bsz hn))
 have e1:(z4p g r A c).take (k+1)=(z4p g r A c).take k++[own]:=by rw[Duz,h1];rfl
 have b1:((z4p g r A c).take k).length≤16:=Bdz (Fjz _ _) (by omega)
 rw[e1]
 generalize (z4p g r A c).take k=s at b1
 unfold z4x
 rw[hn,bsS,k1p,bsS,k1,k1O,bsS,q3G (by omega),tnC,k3,bsS,q3G (by omega),tnC,h2,bsS,q3G (k6M b1)]
theorem k3z {g:Gm_}(hS:Shape g){r:Rule}(hr:r∈g.rs_){A:List (List Rl_)}(hA:InvS g A){c:List Nat}(h:Ch g r A c) :
  z3R g r A (iL c)=some (z4p g r A c):=by
 unfold z3R
 obtain⟨s',e,hp⟩:=z3k (P:=fun k s=>s=(z4p g r A c).take k) (f:=z4x g r A) (xs:=iL c) (i:=0) (s:=[]) (by rw[Ffz]) fun k x s hx hs=>by
  rw[Adz] at hs ⊢
  rw[z5Z] at hx
  cases hd:c[k]? with
  | none=>rw[hd] at hx;cases hx
  | some d=>
   rw[hd] at hx
   have hx:(d:Int)=x:=Option.some.inj hx
   rw[hs,← hx]
   exact⟨_,j9E hS hr hA h hd,rfl⟩
 rw[e,hp,z8s,Adz,h.1,← z8r h,Fgz];rfl
theorem k5L (l:List Rl_)(s:Rl_):z5t l s=some (decide (s∈l)):=by
 unfold z5t
 rw[z2K (q:=fun f:Rl_=>decide (f=s)) (c:=fun _=>true) fun j x hx=>by
  unfold j2D
  rw[k1v,bsS,← apply_ite some]]
 cases e:l.findIdx? fun f=>decide (f=s) with
 | none=>
  rw[Ekz] at e
  have:¬ s∈l:=fun h=>by
   have:=e s h
   simp at this
  rw[decide_eq_false this];rfl
 | some j=>
  rw[Epz] at e
  obtain⟨hj,h1,h2⟩:=e
  have h1:l[j]=s:=of_decide_eq_true h1
  have:s∈l:=h1▸List.getElem_mem hj
  rw[decide_eq_true this];rfl
theorem k5M {g:Gm_}(h0:Sz.szd g≤1048576)(hS:Shape g){r:Rule}(hr:r∈g.rs_){A:List (List Rl_)}(hA:InvS g A){q:List (List Rl_)×Bool}(hi:InvS g q.1){c:List Nat}(h:Ch g r A c)(k:Nat) :
  z2Z g A r (atI g r.Left) k (iL c) q=some (stA (atN g r.Left) (ownR g r A c) q):=by
 obtain⟨B,b⟩:=q
 obtain⟨h1,h2,h3,h4,h5⟩:=hi.at_ (hS.left hr)
 have hle:=hi.le hS (hS.left hr)
 dsimp only at h1 h2 h3 h4 h5 hle
 have hgd:B.getD (atN g r.Left) []=lsA g B r.Left:=rfl
 obtain⟨e1,_,_⟩:=k1z h0 (Bdz (z5W hr) h0) (j5K hS hr hA h)
 have h3r:=z6C hS hr
 unfold z2Z stA
 dsimp only
 rw[k3z hS hr hA h,bsS,e1,bsS,(k1B (z3C h0) (by show r.rt_.length≤1048576;omega) _).1,bsS,h1,q3G (by omega),tnC,h3,bsS,k5L,bsS,hgd]
 rw[show sumS g r (j2p g r (z4p g r A c))=ownR g r A c from rfl]
 by_cases hm:ownR g r A c∈lsA g B r.Left
 ·rw[ifP (decide_eq_true hm),ifP hm];rfl
 ·rw[decide_eq_false hm,ifN Fkz,ifN hm,q3G (k6M hle)];rfl
theorem k1P {g:Gm_}(h0:Sz.szd g≤1048576)(hS:Shape g){r:Rule}(hr:r∈g.rs_){A:List (List Rl_)}(hA:InvS g A):∀ (cs:List (List Nat)) (k:Nat) (q:List (List Rl_)×Bool),(∀ c∈cs,Ch g r A c)→InvS g q.1→Ext A q.1 →
  eachL (z2Z g A r (atI g r.Left)) k (cs.map iL) q=some (cs.foldl (fun q c=>stA (atN g r.Left) (ownR g r A c) q) q)
 | [],k,q,_,_,_=>rfl
 | c::cs,k,q,hc,hi,he=>by
  have mv:=k5G (A:=A) hS hr (q:=q) hi he (k1J h0 hS r (j2p g r (z4p g r A c)))
  rw[Bhz,eachL,k5M h0 hS hr hA hi (hc c (by simp)),bsS,Fiz]
  exact k1P h0 hS hr hA cs (k+1) _ (fun x hx=>hc x (by simp[hx])) mv.inv mv.ext
theorem k1Q {g:Gm_}(h0:Sz.szd g≤1048576)(hS:Shape g){A:List (List Rl_)}(hA:InvS g A):∀ (rs:List Rule) (i:Nat) (q:List (List Rl_)×Bool),(∀ r∈rs,r∈g.rs_)→InvS g q.1→Ext A q.1 →
  eachL (z3a g A) i rs q=some (rs.foldl (runR g A) q)
 | [],i,q,_,_,_=>rfl
 | r::rs,i,q,hrs,hi,he=>by
  have hr:=hrs r (by simp)
  have mv:=k1L h0 hS hr hi he
  have hl:A.length≤1048576:=by have h1:=hA.1;have h2:=hS.syms.2;omega
  have e:z3a g A i r q=some (runR g A q r):=by
   unfold z3a
   obtain⟨B,b⟩:=q
   dsimp only
   rw[j9D hl,bsS,j7j hS hr hA,bsS,k1p,bsS,k1P h0 hS hr hA _ 0 (B,b) (fun c hc=>k6I hc) hi he,bsS]
   rfl
  rw[eachL,e,bsS,Fiz]
  exact k1Q h0 hS hA rs (i+1) _ (fun x hx=>hrs x (by simp[hx])) mv.inv mv.ext
theorem j1M {g:Gm_}(h0:Sz.szd g≤1048576)(hS:Shape g){A:List (List Rl_)}(hA:InvS g A):z2t g A=some (z9x g A):=by
 have hl:A.length≤4:=by have h1:=hA.1;have h2:=hS.syms.2;omega
 unfold z2t
 rw[z8p (g:=fun l:List Rl_=>l) (B:=1048576) A 0 [] (fun k x s hx hs=>by
  obtain⟨j,hj⟩:=List.getElem?_of_mem hx
  have hlt:=(List.getElem?_eq_some_iff.1 hj).1
  obtain⟨y,hy⟩:∃ y,g.ss_[j]?=some y:=⟨_,Ckz (by rw[← hA.1];exact hlt)⟩
  have hx16:x.length≤16:=z2L (hS.plain y.Name) (hA.2 j y x hy hj).1 (hA.2 j y x hy hj).2
  unfold z9n
  rw[q3G (by rw[Dpz];constructor<;>omega),q3G (by constructor<;>omega)]) (by rw[Dpz];omega),bsS,Dqz,List.map_id',k1Q h0 hS hA g.rs_ 0 (A,false) (fun _ h=>h) hA (.rfl' A),bsS]
 rfl
theorem k6N {g:Gm_}(h0:Sz.szd g≤1048576)(hS:Shape g):∀ (d:Nat) (F:List (List Fo_)),InvS g (sms F)→g.ss_.length*16-tot (sms F)≤d →
  ∃ F',q4Y (z4E g) F=some F'∧q4Y (q7s g) (sms F)=some (sms F',true)∧InvS g (sms F'):=by
 intro d
 induction d with
 | zero=>
  intro F hi hd
  obtain⟨F1,e1,hF⟩:=j5N h0 hS hi
  have mv:=j8p h0 hS hi
  have hb:=mv.inv.bound hS
  have hc:(z9x g (sms F)).2=false:=by
   cases hq:(z9x g (sms F)).2 with
   | false=>rfl
   | true=>
    rcases mv.up hq with h|h
    ·cases h
    ·dsimp only at h;omega
  have hno:=mv.no hc
  rw[hc,ifN Fkz] at e1
  have hF1:sms F1=sms F:=by rw[hF,hno]
  refine⟨F1,q3V e1,?_,by rw[hF1];exact hi⟩
  rw[hF1]
  exact q3V (by unfold q7s;rw[j1M h0 hS hi,bsS,hno];rfl)
 | succ d ih=>
  intro F hi hd
  obtain⟨F1,e1,hF⟩:=j5N h0 hS hi
  have mv:=j8p h0 hS hi
  have hb:=mv.inv.bound hS
  cases hq:(z9x g (sms F)).2 with
  | false=>
   have hno:=mv.no hq
   rw[hq,ifN Fkz] at e1
   have hF1:sms F1=sms F:=by rw[hF,hno]
   refine⟨F1,q3V e1,?_,by rw[hF1];exact hi⟩
   rw[hF1]
   exact q3V (by unfold q7s;rw[j1M h0 hS hi,bsS,hno];rfl)
  | true=>
   rw[hq,ifP rfl] at e1
   have hlt:tot (sms F)<tot (sms F1):=by
    rw[hF]
    rcases mv.up hq with h|h
    ·cases h
    ·exact h
   obtain⟨F',h1,h2,h3⟩:=ih F1 (by rw[hF];exact mv.inv) (by omega)
   refine⟨F',by rw[q4Q e1];exact h1,?_,h3⟩
   have s1:q7s g (sms F)=some (.inl (sms F1)):=by
    unfold q7s
    rw[j1M h0 hS hi,bsS,hF]
    dsimp only
    rw[hq];rfl
   rw[q4Q s1];exact h2
theorem k1R {g:Gm_}(h0:Sz.szd g≤1048576)(hS:Shape g):∃ F,z4a g=some F∧q4Y (q7s g) (Bmz g.ss_.length [])=some (sms F,true)∧InvS g (sms F):=by
 have e:sms (Bmz g.ss_.length [])=Bmz g.ss_.length []:=by unfold sms;rw[Dgz];rfl
 obtain⟨F,h1,h2,h3⟩:=k6N h0 hS _ (Bmz g.ss_.length []) (by
  rw[e]
  refine⟨by rw[List.length_replicate],fun k y L _ hL=>?_⟩
  rw[List.getElem?_replicate] at hL
  split at hL
  ·cases hL;exact⟨List.nodup_nil,fun a ha=>by simp at ha⟩
  ·cases hL) (Nat.le_refl _)
 rw[e] at h2
 have hs:=hS.syms.2
 refine⟨F,?_,h2,h3⟩
 unfold z4a
 rw[q3G (by refine⟨?_,?_,?_⟩<;>omega),h1];rfl
def uSzF {α:Type}(g:α→Int→Option Int)(n:Nat)(x:α):Prop:=∀ s:Int,0≤s→s≤1048576→g x s=some (if (n:Int)≤s then s-n else -1)
theorem j5O {α:Type}[Sz α]{f:Nat→α→Int→Option (Int ⊕ Int)}:∀ (xs:List α) (i:Nat) (s:Int),(∀ k x s,x∈xs→0≤s→s≤1048576→f k x s=some (if (Sz.szd x:Int)≤s then .inl (s-Sz.szd x) else .inr (-1)))→0≤s→s≤1048576 →
  findL f i xs s=some (if ((szL xs-xs.length:Nat):Int)≤s then .inl (s-(szL xs-xs.length:Nat)) else .inr (-1))
 | [],i,s,_,h0,_=>by simp[findL,szL,h0]
 | x::xs,i,s,hf,h0,h1=>by
  have hl:=q4P xs
  have e:szL (x::xs)-(x::xs).length=Sz.szd x+(szL xs-xs.length):=by simp only[szL,lnC];omega
  rw[e]
  show (f i x s).bind _=_
  rw[hf i x s (by simp) h0 h1]
  by_cases hx:(Sz.szd x:Int)≤s
  ·rw[ifP hx]
   show findL f (i+1) xs (s-Sz.szd x)=_
   rw[j5O xs (i+1) _ (fun k y t hy=>hf k y t (by simp[hy])) (by omega) (by omega)]
   by_cases h2:((Sz.szd x+(szL xs-xs.length):Nat):Int)≤s
   ·rw[ifP h2,ifP (by omega)];congr 2;omega
   ·rw[ifN h2,ifN (by omega)]
  ·rw[ifN hx,ifN (by omega)];rfl
theorem j1N {α:Type}[Sz α]{xs:List α}{f:Nat→α→Int→Option (Int ⊕ Int)}(hf:∀ k x s,x∈xs→0≤s→s≤1048576→f k x s=some (if (Sz.szd x:Int)≤s then .inl (s-Sz.szd x) else .inr (-1)))(s:Int)(h0:0≤s)(h1:s≤1048576)(hl:xs.length≤9223372036854775807) :
  (grd (I64 (s-(xs.length:Int))) <| if (s-(xs.length:Int))<0 then some (-1) else (findL f 0 xs (s-(xs.length:Int))).bind <| onr (fun r1=>some r1) fun s1=>some s1)=some (if (szL xs:Int)≤s then s-(szL xs:Nat) else -1):=by
 have hl':=q4P xs
 rw[q3G (by constructor<;>omega)]
 by_cases h2:s-(xs.length:Int)<0
 ·rw[ifP h2,ifN (by omega)]
 ·rw[ifN h2,j5O xs 0 _ hf (by omega) (by omega),bsS]
  by_cases h3:(szL xs:Int)≤s
  ·rw[ifP h3,ifP (by omega),z3q];congr 1;omega
  ·rw[ifN h3,ifN (by omega),z6F]
theorem j2Q {α:Type}[Sz α]{g:α→Int→Option Int}{xs:List α}(hg:∀ x∈xs,uSzF g (Sz.szd x) x)(k:Nat)(x:α)(s:Int)(hx:x∈xs)(h0:0≤s)(h1:s≤1048576) :
  ((g x s).bind fun y1=>if y1<0 then some (.inr (-1)) else some (.inl y1):Option (Int ⊕ Int))=some (if (Sz.szd x:Int)≤s then .inl (s-Sz.szd x) else .inr (-1)):=by
 rw[hg x hx s h0 h1,bsS]
 by_cases h2:(Sz.szd x:Int)≤s
 ·rw[ifP h2,ifN (by omega),ifP h2]
 ·rw[ifN h2,ifP (by omega),ifN h2]
theorem z1T (n m:Nat){k:Int→Option Int}{s:Int}(h0:0≤s)(h1:s≤1048576)(hn:n≤9223372036854775807)(hk:∀ t,0≤t→t≤1048576→k t=some (if (m:Int)≤t then t-m else -1)) :
  (grd (I64 (s-(n:Int))) <| if (s-(n:Int))<0 then some (-1) else k (s-(n:Int)))=some (if ((n+m:Nat):Int)≤s then s-(n+m:Nat) else -1):=by
 rw[q3G (by constructor<;>omega)]
 by_cases h2:s-(n:Int)<0
 ·rw[ifP h2,ifN (by omega)]
 ·rw[ifN h2,hk _ (by omega) (by omega)]
  by_cases h3:((n+m:Nat):Int)≤s
  ·rw[ifP h3,ifP (by omega)];congr 1;omega
  ·rw[ifN h3,ifN (by omega)]
theorem z0p (n m:Nat){o:Option Int}{k:Int→Option Int}{s:Int}(h0:0≤s)(h1:s≤1048576)(ho:o=some (if (n:Int)≤s then s-n else -1))(hk:∀ t,0≤t→t≤1048576→k t=some (if (m:Int)≤t then t-m else -1)) :
  (o.bind fun y1=>if y1<0 then some (-1) else k y1)=some (if ((n+m:Nat):Int)≤s then s-(n+m:Nat) else -1):=by
 rw[ho,bsS]
 by_cases h2:(n:Int)≤s
 ·rw[ifP h2,ifN (by omega),hk _ (by omega) (by omega)]
  by_cases h3:((n+m:Nat):Int)≤s
  ·rw[ifP h3,ifP (by omega)];congr 1;omega
  ·rw[ifN h3,ifN (by omega)]
 ·rw[ifN h2,ifP (by omega),ifN (by omega)]
theorem z3o {t:Int}(h0:0≤t)(_:t≤1048576):some t=some (if ((0:Nat):Int)≤t then t-(0:Nat) else -1):=by rw[ifP (by omega)];congr 1;omega
section
open Go.A
theorem k3A {xs:List BA_}(h:boD (.sl 1 (xs.map A.D.s))):uSzF z2T (szL xs) xs:=fun s h0 h1=>
 j1N (f:=z4w) (fun k x s hx h0 h1=>by
  unfold z4w
  have hb:x.size≤9223372036854775807:=j3k.1 (q8g.1 (z6J h hx)).1
  rw[q3G (by constructor<;>omega)]
  show (_:Option (Int ⊕ Int))=some (if (x.size:Int)≤s then Sum.inl (s-x.size) else Sum.inr (-1))
  by_cases h2:(x.size:Int)≤s
  ·rw[ifN (by omega),ifP h2]
  ·rw[ifP (by omega),ifN h2]) s h0 h1 (z6K h)
theorem k3B {x:At_}(h:boCs (At_.l x)):uSzF z0Q (Sz.szd x) x:=fun s h0 h1=>by
 simp only[At_.l,q8g,j3k] at h
 exact z1T x.Name.size 0 h0 h1 h.1 (k:=some) (fun t=>z3o)
theorem k1S {k:Nat}{xs:List At_}(h:boD (.sl k (xs.map At_.D))):uSzF q9B (szL xs) xs:=fun s h0 h1=>
 j1N (f:=z4P) (j2Q fun x hx=>k3B (z6J h hx)) s h0 h1 (z6K h)
theorem k5N {x:Symbol}(h:boCs (Symbol.l x)):uSzF z4v (Sz.szd x) x:=fun s h0 h1=>by
 simp only[Symbol.l,q8g,j3k] at h
 exact z1T x.Name.size _ h0 h1 h.1 fun t h0 h1=>z0p (szL x.as_) 0 h0 h1 (k1S h.2.1 t h0 h1) fun t=>z3o
theorem k3C {k:Nat}{xs:List Symbol}(h:boD (.sl k (xs.map Symbol.D))):uSzF z2S (szL xs) xs:=fun s h0 h1=>
 j1N (f:=z7C) (j2Q fun x hx=>k5N (z6J h hx)) s h0 h1 (z6K h)
theorem k5O {x:Oc}(h:x.Name.size≤9223372036854775807):uSzF q9C (Sz.szd x) x:=fun s h0 h1=>
 z1T x.Name.size 0 h0 h1 h (k:=some) (fun t=>z3o)
theorem k1T:∀ (m:Nat) (e:Expr),fuE e≤m→boCs (Expr.l e)→uSzF (z3M m) (Sz.szd e) e:=by
 intro m
 induction m with
 | zero=>intro e h;rw[z1E] at h;omega
 | succ m ih=>
  intro e h hr s h0 h1
  rw[z1E] at h
  simp only[Expr.l,q8g,j3k] at hr
  obtain⟨_,_,_,_,h2,h3,h4,_⟩:=hr
  rw[q7A,Nat.add_assoc]
  show z5f (z3M m) e s=_
  unfold z5f
  exact z1T e.Symbol.size _ h0 h1 h2 fun t h0 h1=>z1T e.Name.size _ h0 h1 h3 fun t h0 h1=>
   z0p (szL e.Args) 0 h0 h1 (j1N (f:=j0C (z3M m)) (j2Q fun x hx=>ih x (by have:=z3n hx;omega) (by rw[← Expr.D_cells];exact z6J h4 hx)) t h0 h1 (z6K h4)) fun t=>z3o
theorem j7k {e:Expr}(h:boCs (Expr.l e)):uSzF z5g (Sz.szd e) e:=fun s h0 h1=>
 q8H (fuE e) fun n hn=>k1T n e hn h s h0 h1
theorem k5P {x:Eqn}(h:boCs (Eqn.l x)):uSzF z1I (Sz.szd x) x:=fun s h0 h1=>by
 have e:Sz.szd x=Sz.szd x.At+(Sz.szd x.Expr+0):=by rw[z3m,q7A,j2n];omega
 simp only[Eqn.l,q8g] at h
 rw[e]
 exact z0p _ _ h0 h1 (k5O (j3k.1 h.2.1) s h0 h1) fun t h0 h1=>z0p _ 0 h0 h1 (j7k (by simp only[Expr.l,q8g];exact h.2.2) t h0 h1) fun t=>z3o
theorem k3D {k:Nat}{xs:List Eqn}(h:boD (.sl k (xs.map Eqn.D))):uSzF z0R (szL xs) xs:=fun s h0 h1=>
 j1N (f:=z5h) (j2Q fun x hx=>k5P (z6J h hx)) s h0 h1 (z6K h)
theorem k5Q {x:Cn}(h:boCs (Cn.l x)):uSzF q8o (Sz.szd x) x:=fun s h0 h1=>by
 have e:Sz.szd x=x.Symbol.size+(x.Name.size+(Sz.szd x.tt_+(Sz.szd x.Value+0))):=by rw[q9j,q7A,q7A];omega
 simp only[Cn.l,q8g] at h
 obtain⟨h1',h2,a1,a2,a3,a4,a5,a6,a7,hb⟩:=h
 rw[e]
 exact z1T _ _ h0 h1 (j3k.1 h1') fun t h0 h1=>z1T _ _ h0 h1 (j3k.1 h2) fun t h0 h1=>z0p _ _ h0 h1 (j7k (by simp only[Expr.l,q8g];exact⟨a1,a2,a3,a4,a5,a6,a7,by rw[boCs];trivial⟩) t h0 h1) fun t h0 h1=>
  z0p _ 0 h0 h1 (j7k (by simp only[Expr.l,q8g];exact hb) t h0 h1) fun t=>z3o
theorem k3E {k:Nat}{xs:List Cn}(h:boD (.sl k (xs.map Cn.D))):uSzF q7U (szL xs) xs:=fun s h0 h1=>
 j1N (f:=z2h) (j2Q fun x hx=>k5Q (z6J h hx)) s h0 h1 (z6K h)
theorem k3F {x:Rule}(h:boCs (Rule.l x)):uSzF z7D (Sz.szd x) x:=fun s h0 h1=>by
 have e:Sz.szd x=x.Name.size+(x.Left.size+(szL x.rt_+(szL x.es_+(szL x.cs_+0)))):=by rw[z4K];omega
 simp only[Rule.l,q8g] at h
 obtain⟨h2,h3,h4,_,h5,h6,_⟩:=h
 rw[e]
 exact z1T _ _ h0 h1 (j3k.1 h2) fun t h0 h1=>z1T _ _ h0 h1 (j3k.1 h3) fun t h0 h1=>z0p _ _ h0 h1 (k3A h4 t h0 h1) fun t h0 h1=>z0p _ _ h0 h1 (k3D h5 t h0 h1) fun t h0 h1=>
  z0p _ 0 h0 h1 (k3E h6 t h0 h1) fun t=>z3o
theorem k1U {k:Nat}{xs:List Rule}(h:boD (.sl k (xs.map Rule.D))):uSzF z6d (szL xs) xs:=fun s h0 h1=>
 j1N (f:=j0D) (j2Q fun x hx=>k3F (z6J h hx)) s h0 h1 (z6K h)
theorem k3G {x:Gm_}(h:boCs (Gm_.l x)):uSzF z2U (Sz.szd x) x:=fun s h0 h1=>by
 have e:Sz.szd x=szL x.ss_+(szL x.rs_+0):=by rw[z0M];omega
 simp only[Gm_.l,q8g] at h
 rw[e]
 exact z0p _ _ h0 h1 (k3C h.1 s h0 h1) fun t h0 h1=>z0p _ 0 h0 h1 (k1U h.2.1 t h0 h1) fun t=>z3o
end
theorem k3H {α:Type}{z y:α}(pre:List α)(n:Nat):Dlz (pre++Bmz (n+1) z) pre.length y=(pre++[y])++Bmz n z:=by
 rw[List.set_append_right _ _ (Nat.le_refl _),Nat.sub_self,List.replicate_succ,List.set_cons_zero];simp
theorem k1V {α:Type}{z:α}{f:Nat→α→List α→Option (List α)}:∀ (xs pre:List α),(∀ k x s,x∈xs→k<s.length→f k x s=some (Dlz s k x))→eachL f pre.length xs (pre++Bmz xs.length z)=some (pre++xs)
 | [],pre,_=>by simp[eachL]
 | x::xs,pre,hf=>by
  show (f pre.length x _).bind _=_
  rw[hf _ _ _ (by simp) (by simp),lnC,k3H,bsS]
  have:=k1V (z:=z) xs (pre++[x]) fun k y s hy=>hf k y s (by simp[hy])
  rw[Awz] at this
  rw[show pre.length+1=pre.length+[x].length from rfl,this];simp
theorem z7k {α:Type}{z:α}{g:α→Option α}{b:Int}{xs:List α}{f:Nat→α→List α→Option (List α)}(hb:(xs.length:Int)*b≤281474976710656)(hl:xs.length≤1048576)(hf:∀ k x s,x∈xs→k<s.length→f k x s=some (Dlz s k x)) :
  (grd (0≤(xs.length:Int)∧(xs.length:Int)*b≤281474976710656∧(xs.length:Int)≤9223372036854775807) <| (eachL f 0 xs (Bmz xs.length z)).bind fun s1=>some s1)=some xs:=by
 rw[q3G ⟨by omega,hb,by omega⟩]
 have:=k1V (z:=z) xs [] hf
 rw[Dpz,Dqz,Dqz] at this
 rw[this];rfl
theorem j2R {α:Type}{g:α→Option α}{xs:List α}(hg:∀ x∈xs,g x=some x)(k:Nat)(x:α)(s:List α)(hx:x∈xs)(hk:k<s.length):((g x).bind fun y1=>(s[k]?).bind fun x2=>some (Dlz s k y1))=some (Dlz s k x):=by
 rw[hg x hx,bsS,Ckz hk];rfl
theorem k3I {xs:List BA_}(h:szL xs≤1048576):z2W xs=some xs:=by
 have hl:=q4P xs
 exact z7k (g:=some) (by omega) (by omega) fun k x s _ hk=>by unfold z7E;rw[Ckz hk];rfl
theorem k1W {xs:List At_}(h:szL xs≤1048576):q9D xs=some xs:=by
 have hl:=q4P xs
 exact z7k (g:=some) (by omega) (by omega) (j2R (g:=z0S) fun x _=>rfl)
theorem k5R {x:Symbol}(h:Sz.szd x≤1048576):z0u x=some x:=by
 unfold z0u;rw[k1W (by rw[z8T] at h;omega)];rfl
theorem k3J {xs:List Symbol}(h:szL xs≤1048576):z2V xs=some xs:=by
 have hl:=q4P xs
 exact z7k (g:=some) (by omega) (by omega) (j2R (g:=z0u) fun x hx=>k5R (by have:=z1Q hx;omega))
theorem k1X:∀ (m:Nat) (e:Expr),fuE e≤m→Sz.szd e≤1048576→z2i m e=some e:=by
 intro m
 induction m with
 | zero=>intro e h;rw[z1E] at h;omega
 | succ m ih=>
  intro e h hs
  rw[z1E] at h
  show z5i (z2i m) e=_
  unfold z5i
  have hz:=q7A e
  have hl:=q4P e.Args
  have:z6e (z2i m) e.Args=some e.Args:=z7k (g:=some) (by omega) (by omega) (j2R (g:=z2i m) fun x hx=>ih x (by have:=z3n hx;omega) (by have:=k0B hx;omega))
  rw[this,bsS];cases e;rfl
theorem j7l {e:Expr}(h:Sz.szd e≤1048576):z5j e=some e:=q8H (fuE e) fun n hn=>k1X n e hn h
theorem k5S {x:Eqn}(h:Sz.szd x≤1048576):q8p x=some x:=by
 unfold q8p
 rw[show q9E x.At=some x.At from rfl,j7l (by rw[z3m] at h;rw[q7A];omega)];rfl
theorem k3K {xs:List Eqn}(h:szL xs≤1048576):z0T xs=some xs:=by
 have hl:=q4P xs
 exact z7k (g:=some) (by omega) (by omega) (j2R (g:=q8p) fun x hx=>k5S (by have:=z1Q hx;omega))
theorem k5T {x:Cn}(h:Sz.szd x≤1048576):q6n x=some x:=by
 unfold q6n
 rw[q9j] at h
 rw[j7l (by rw[q7A];omega),bsS,j7l (by rw[q7A];omega)];rfl
theorem k3L {xs:List Cn}(h:szL xs≤1048576):q7V xs=some xs:=by
 have hl:=q4P xs
 exact z7k (g:=some) (by omega) (by omega) (j2R (g:=q6n) fun x hx=>k5T (by have:=z1Q hx;omega))
theorem k3M {x:Rule}(h:Sz.szd x≤1048576):z3N x=some x:=by
 unfold z3N
 rw[z4K] at h
 rw[k3I (by omega),bsS,k3K (by omega),bsS,k3L (by omega)];rfl
theorem k1Y {xs:List Rule}(h:szL xs≤1048576):z6f xs=some xs:=by
 have hl:=q4P xs
 exact z7k (g:=some) (by omega) (by omega) (j2R (g:=z3N) fun x hx=>k3M (by have:=z1Q hx;omega))
theorem k3N {x:Gm_}(h:Sz.szd x≤1048576):q7m x=some x:=by
 unfold q7m
 rw[z0M] at h
 rw[k3J (by omega),bsS,k1Y (by omega)];rfl
theorem k4u {α:Type}{f:Nat→α→Unit→Option (Unit ⊕ Bool)}:∀ (xs:List α) (i:Nat),(∀ k x,xs[k]?=some x→f (i+k) x ()=some (.inl ()))→findL f i xs ()=some (.inl ())
 | [],i,_=>rfl
 | x::xs,i,hf=>by
  show (f i x ()).bind _=_
  have h0:=hf 0 x rfl
  rw[Nat.add_zero] at h0
  rw[h0]
  exact k4u xs (i+1) fun k y hy=>by have:=hf (k+1) y hy;rwa[show i+1+k=i+(k+1) by omega]
theorem z3F {α:Type}{xs:List α}{f:Nat→α→Unit→Option (Unit ⊕ Bool)}(hf:∀ k x,xs[k]?=some x→f k x ()=some (.inl ())) :
  (if (xs.length:Int)=(xs.length:Int) then (findL f 0 xs ()).bind <| onr (fun r1=>some r1) fun _=>some true else some false)=some true:=by
 rw[ifP rfl,k4u xs 0 fun k x h=>by rw[Adz];exact hf k x h];rfl
theorem z9y {α:Type}{g:α→α→Option Bool}{xs:List α}(hg:∀ x∈xs,g x x=some true)(k:Nat)(x:α)(h:xs[k]?=some x):((xs[k]?).bind fun x2=>(g x x2).bind fun y1=>if y1=true then some (.inl ()) else some (.inr false):Option (Unit ⊕ Bool))=some (.inl ()):=by
 rw[h,bsS,hg x (Bsz h)];rfl
theorem k3O (x:At_):q7M x x=some true:=by simp[q7M]
theorem k1Z (xs:List At_):z0i xs xs=some true:=z3F (f:=z4U xs) (z9y (g:=q7M) fun x _=>k3O x)
theorem k5U (x:Symbol):z0F x x=some true:=by simp[z0F,k1Z]
theorem k3P (xs:List Symbol):z3c xs xs=some true:=z3F (f:=z7Y xs) (z9y (g:=z0F) fun x _=>k5U x)
theorem k3Q (xs:List BA_):z3d xs xs=some true:=z3F (f:=z4G xs) fun k x h=>by unfold z4G;rw[h,bsS,ifP rfl]
theorem k3R (x:Oc):q8n x x=some true:=by simp[q8n]
theorem k2a:∀ (m:Nat) (e:Expr),fuE e≤m→z1r m e e=some true:=by
 intro m
 induction m with
 | zero=>intro e h;rw[z1E] at h;omega
 | succ m ih=>
  intro e h
  rw[z1E] at h
  show z5F (z1r m) e e=_
  have:z6k (z1r m) e.Args e.Args=some true:=z3F (f:=j0N (z1r m) e.Args) (z9y (g:=z1r m) fun x hx=>ih x (by have:=z3n hx;omega))
  simp[z5F,this]
theorem j8q (e:Expr):z5G e e=some true:=q8H (fuE e) fun n hn=>k2a n e hn
theorem k5V (x:Eqn):q8y x x=some true:=by simp[q8y,k3R,j8q]
theorem k3S (xs:List Eqn):z1f xs xs=some true:=z3F (f:=z5H xs) (z9y (g:=q8y) fun x _=>k5V x)
theorem k5W (x:Cn):q6p x x=some true:=by simp[q6p,j8q]
theorem k3T (xs:List Cn):q7Y xs xs=some true:=z3F (f:=z2z xs) (z9y (g:=q6p) fun x _=>k5W x)
theorem k3U (x:Rule):z4b x x=some true:=by simp[z4b,k3Q,k3S,k3T]
theorem k2b (xs:List Rule):z6l xs xs=some true:=z3F (f:=j0O xs) (z9y (g:=z4b) fun x _=>k3U x)
theorem k3V (x:Gm_):z1s x x=some true:=by simp[z1s,k3P,k2b]
end Go.Proofs.YtnhofaohogianaaGreat
