/- What those partial functions come to: plain lemmas on data; each bears its conditions in its statement. -/
import Derived.Test.YtipikecbeganoaaGreatMath5
set_option linter.unusedVariables false
set_option linter.unusedSimpArgs false
set_option linter.ambiguousOpen false
set_option linter.unusedSectionVars false
set_option linter.unnecessarySimpa false
set_option maxRecDepth 100000
set_option maxHeartbeats 4000000
namespace Go.Proofs.YtipikecbeganoaaGreat
open Go Go.E
theorem z7l (l:List Nat)(i:Nat):(iL l)[i]?=(l[i]?).map fun n:Nat=>(n:Int):=by unfold iL;rw[List.getElem?_map]
theorem z5r (l:List Nat):(iL l).length=l.length:=by unfold iL;rw[lnM]
theorem k9R (l m:List Nat):iL (l++m)=iL l++iL m:=by unfold iL;rw[List.map_append]
theorem k9S (l:List Nat)(i x:Nat):(iL l).set i (x:Int)=iL (l.set i x):=by unfold iL;rw[List.map_set]
theorem j8h:∀ (m:Nat) (cs ds e:List Nat),ds.length=cs.length→j0C (cs.drop m) (ds.drop m)=some e→j0C cs ds=some (ds.take m++e)
 | 0,cs,ds,e,_,h=>by simpa using h
 | m+1,[],ds,e,hl,h=>by rw[List.drop_nil] at h;simp[j0C] at h
 | m+1,c::cs,[],e,hl,h=>by simp at hl
 | m+1,c::cs,d::ds,e,hl,h=>by
  rw[j0C,j8h m cs ds e (by simpa using hl) (by simpa using h)];rfl
def k2H (cs ds:List Nat)(q:Int×List Int):Prop:=match j0C cs ds with
 | none=>q.1<0
 | some e=>0≤q.1∧∃ x:Nat,q.2[q.1.toNat]?=some (x:Int)∧x≤1048576∧q.2.set q.1.toNat ((x+1:Nat):Int)=iL e
theorem k1g {cs ds:List Nat}{f:(Int×List Int)→Option ((Int×List Int) ⊕ (Int×List Int))}(hf:f=q3S (iL cs))(hl:ds.length=cs.length)(hd:∀ (i d c:Nat),ds[i]?=some d→cs[i]?=some c→d<c∧c≤1048576)(hn:cs.length≤1048576) :
  ∀ m:Nat,m≤cs.length→j0C (cs.drop m) (ds.drop m)=none→∃ q,q5g f ((m:Int)-1,iL (ds.take m++List.replicate (cs.length-m) 0))=some q∧k2H cs ds q
 | 0,_,h=>by
  refine⟨_,q3U (r:=_) (by rw[hf];unfold q3S;dsimp only;rw[ifN (by omega)]),?_⟩
  unfold k2H
  rw[List.drop_zero,List.drop_zero] at h
  rw[h]
  show (0:Int)-1<0
  omega
 | m+1,hm,h=>by
  have hm1:m<cs.length:=hm
  have hm2:m<ds.length:=by omega
  obtain⟨c,hc⟩:∃ c,cs[m]?=some c:=⟨_,List.getElem?_eq_getElem hm1⟩
  obtain⟨d,hdd⟩:∃ d,ds[m]?=some d:=⟨_,List.getElem?_eq_getElem hm2⟩
  obtain⟨h1,h2⟩:=hd m d c hdd hc
  have ed:ds.drop m=d::ds.drop (m+1):=by rw[List.drop_eq_getElem_cons hm2];rw[List.getElem?_eq_getElem hm2] at hdd;rw[Option.some.inj hdd]
  have ec:cs.drop m=c::cs.drop (m+1):=by rw[List.drop_eq_getElem_cons hm1];rw[List.getElem?_eq_getElem hm1] at hc;rw[Option.some.inj hc]
  have et:ds.take (m+1)=ds.take m++[d]:=by rw[List.take_add_one,hdd];rfl
  have hlen:(ds.take m).length=m:=by rw[List.length_take];omega
  have hg:(iL (ds.take (m+1)++List.replicate (cs.length-(m+1)) 0))[m]?=some (d:Int):=by
   rw[z7l,et,List.append_assoc,List.getElem?_append_right (by omega),hlen,Nat.sub_self];rfl
  have hset:∀ x:Nat,(iL (ds.take (m+1)++List.replicate (cs.length-(m+1)) 0)).set m (x:Int)=iL (ds.take m++x::List.replicate (cs.length-(m+1)) 0):=fun x=>by
   rw[k9S,et,List.append_assoc,List.set_append_right _ _ (by omega),hlen,Nat.sub_self];rfl
  have hN:(((m+1:Nat):Int)-1)=(m:Int):=by omega
  by_cases e:d=c-1
  ·have hs:f (((m+1:Nat):Int)-1,iL (ds.take (m+1)++List.replicate (cs.length-(m+1)) 0))=some (.inl ((m:Int)-1,iL (ds.take m++List.replicate (cs.length-m) 0))):=by
    rw[hf]
    unfold q3S
    dsimp only
    rw[hN,ifP (by omega),q3N (by omega),tnC,hg,bsS,q3N (by omega),z7l,hc,Option.map_some,bsS,q3N ⟨by omega,by omega⟩,ifP (by omega),q3N ⟨by omega,by omega⟩]
    have:=hset 0
    rw[show ((0:Nat):Int)=0 from rfl] at this
    rw[this,show cs.length-m=(cs.length-(m+1))+1 by omega,List.replicate_succ]
   rw[q4Q hs]
   refine k1g hf hl hd hn m (by omega) ?_
   rw[ec,ed,j0C,h]
   dsimp only
   rw[ifN (by omega)]
  ·refine⟨_,q3U (r:=_) (by
    rw[hf]
    unfold q3S
    dsimp only
    rw[hN,ifP (by omega),q3N (by omega),tnC,hg,bsS,q3N (by omega),z7l,hc,Option.map_some,bsS,q3N ⟨by omega,by omega⟩,ifN (by omega)]),?_⟩
   have hx:j0C cs ds=some (ds.take m++(d+1)::List.replicate (cs.length-(m+1)) 0):=by
    refine j8h m cs ds _ hl ?_
    rw[ec,ed,j0C,h]
    dsimp only
    rw[ifP (by omega),List.length_drop]
   unfold k2H
   rw[hx]
   dsimp only
   refine⟨by omega,d,?_,by omega,?_⟩
   ·rw[tnC];exact hg
   ·rw[tnC];exact hset (d+1)
theorem j4S {cs ds:List Nat}{f:(Int×List Int)→Option ((Int×List Int) ⊕ (Int×List Int))}(hf:f=q3S (iL cs))(hl:ds.length=cs.length)(hd:∀ (i d c:Nat),ds[i]?=some d→cs[i]?=some c→d<c∧c≤1048576)(hn:cs.length≤1048576) :
  ∃ q,q5g f (((iL cs).length:Int)-1,iL ds)=some q∧k2H cs ds q:=by
 have:=k1g hf hl hd hn cs.length (Nat.le_refl _) (by rw[List.drop_length,j0C];intro a b c d h;simp at h)
 rw[Nat.sub_self,List.replicate_zero,List.append_nil,← hl,List.take_length] at this
 rw[z5r,← hl];exact this
def sms (F:List (List found)):List (List Rl_):=F.map fun l=>l.map found.summary
theorem z7m (F:List (List found))(k:Nat):(sms F)[k]?=(F[k]?).map fun l=>l.map found.summary:=by unfold sms;rw[List.getElem?_map]
theorem k1h (l:List Int)(h:l.length≤1048576):q5x l=some l:=by
 unfold q5x
 rw[q3N (by rw[List.length_nil];constructor<;>omega)]
theorem k8P (fs:List found)(s:Rl_):q4h fs s=some (decide (s∈fs.map found.summary)):=by
 unfold q4h q4V
 rw[z3O (q:=fun f:found=>decide (f.summary=s)) (c:=fun k=>(k:Int)) fun j x hx=>by
  unfold q6o z1W
  rw[j9O,bsS,bsS,← apply_ite some]]
 cases e:fs.findIdx? fun f=>decide (f.summary=s) with
 | none=>
  rw[List.findIdx?_eq_none_iff] at e
  have:¬ s∈fs.map found.summary:=fun h=>by
   obtain⟨f,h1,h2⟩:=List.mem_map.1 h
   have:=e f h1
   simp[h2] at this
  rw[decide_eq_false this];rfl
 | some j=>
  rw[List.findIdx?_eq_some_iff_getElem] at e
  obtain⟨hj,h1,h2⟩:=e
  have:s∈fs.map found.summary:=List.mem_map.2 ⟨fs[j],List.getElem_mem hj,of_decide_eq_true h1⟩
  rw[decide_eq_true this]
  dsimp only
  simp only[bsS,z8a]
  rw[decide_eq_true (by omega)]
theorem k1i {g:Gm_}(hS:Shape g){r:Rule}(hr:r∈g.Rules){A:List (List Rl_)}(hA:InvS g A){F:List (List found)}(he:Ext A (sms F)){c:List Nat}(h:Ch g r A c) :
  eachL (q5E F (iL (r.Right.map (atN g)))) 0 (iL c) []=some (z1G g r A c):=by
 have h3:=z2z hS hr
 obtain⟨s',e,hp⟩:=z2L (P:=fun k s=>s=(z1G g r A c).take k) (f:=q5E F (iL (r.Right.map (atN g)))) (xs:=iL c) (i:=0) (s:=[]) (by rw[List.take_zero]) fun k x s hx hs=>by
  rw[Nat.zero_add] at hs ⊢
  rw[z7l] at hx
  cases hd:c[k]? with
  | none=>rw[hd] at hx;cases hx
  | some d=>
   rw[hd] at hx;cases hx
   have hlt:=(List.getElem?_eq_some_iff.1 hd).1
   rw[h.1] at hlt
   obtain⟨n,hn⟩:∃ n,r.Right[k]?=some n:=⟨_,List.getElem?_eq_getElem hlt⟩
   obtain⟨own,h1,h2⟩:=j6y h hn hd
   obtain⟨t,ht⟩:=he.2 _ _ (hA.at_ (hS.right hr (List.mem_of_getElem? hn))).2.2.1
   rw[z7m] at ht
   cases hf:F[atN g n]? with
   | none=>rw[hf] at ht;cases ht
   | some fs=>
    rw[hf] at ht
    have ht:fs.map found.summary=lsA g A n++t:=Option.some.inj ht
    have hd2:=h.2 k n d hn hd
    have hfd:(fs.map found.summary)[d]?=some own:=by rw[ht,List.getElem?_append_left hd2];exact h2
    rw[List.getElem?_map] at hfd
    cases hq:fs[d]? with
    | none=>rw[hq] at hfd;cases hfd
    | some q=>
     rw[hq] at hfd
     have hfd:=Option.some.inj hfd
     have hsl:s.length≤3:=by rw[hs,List.length_take,z9Q h];omega
     refine⟨s++[own],?_,?_⟩
     ·unfold q5E
      rw[z7l,List.getElem?_map,hn]
      simp only[Option.map_some,bsS]
      rw[q3N (by omega),tnC,hf,bsS,q3N (by omega),tnC,hq,bsS,q3N (by constructor<;>omega),hfd]
     ·rw[hs,List.take_add_one,h1];rfl
 rw[e,hp,z5r,Nat.zero_add,h.1,← z9Q h,List.take_length]
theorem k4J {g:Gm_}(hS:Shape g){r:Rule}(hr:r∈g.Rules){A:List (List Rl_)}(hA:InvS g A):∀ c∈q4R g r A,c≤16:=fun c hc=>by
 obtain⟨n,h1,rfl⟩:=List.mem_map.1 hc
 exact hA.le hS (hS.right hr h1)
theorem z7n (g:Gm_)(r:Rule)(A:List (List Rl_)):(q4R g r A).length=r.Right.length:=by unfold q4R;rw[lnM]
theorem k7C {g:Gm_}{r:Rule}{A:List (List Rl_)}{n:Nat}(h:n<q6U (q4R g r A)):Ch g r A (digL (q4R g r A) n):=k4I (List.mem_map.2 ⟨n,List.mem_range.2 h,rfl⟩)
theorem j1a (l:List Nat):q5N (iL l) 0=some (decide (0∈l)):=by
 unfold q5N q8C
 rw[z3O (q:=fun x:Int=>decide (x=0)) (c:=fun k=>(k:Int)) fun j x hx=>by
  unfold z3z
  by_cases h:x=0
  ·rw[ifP h.symm,ifP (decide_eq_true h)]
  ·rw[ifN (fun e=>h e.symm),ifN (by simpa using h)]]
 cases e:(iL l).findIdx? fun x=>decide (x=0) with
 | none=>
  rw[List.findIdx?_eq_none_iff] at e
  have:¬ 0∈l:=fun h=>by
   have:=e 0 (List.mem_map.2 ⟨0,h,rfl⟩)
   simp at this
  rw[decide_eq_false this];rfl
 | some j=>
  rw[List.findIdx?_eq_some_iff_getElem] at e
  obtain⟨hj,h1,h2⟩:=e
  have h3:(iL l)[j]=0:=of_decide_eq_true h1
  have:(0:Nat)∈l:=by
   have h4:(iL l)[j]?=some 0:=by rw[List.getElem?_eq_getElem hj,h3]
   rw[z7l] at h4
   cases h5:l[j]? with
   | none=>rw[h5] at h4;cases h4
   | some n=>
    rw[h5] at h4
    have h4:(n:Int)=0:=Option.some.inj h4
    have:n=0:=by omega
    subst this
    exact List.mem_of_getElem? h5
  rw[decide_eq_true this]
  simp only[bsS,z8a]
  rw[decide_eq_true (by omega)]
theorem k4K {cs:List Nat}(h:0∈cs):chL cs=[]:=by unfold chL;rw[j8g h];rfl
theorem j9S {F:List (List found)}(h:F.length≤1048576):eachL z8n 0 F ([]:List Int)=some (F.map fun l:List found=>(l.length:Int)):=by
 rw[z9O (g:=fun l:List found=>(l.length:Int)) (B:=1048576) F 0 [] (fun k x s hx hs=>by
  unfold z8n
  rw[q3N (by constructor<;>omega)]) (by rw[List.length_nil];omega),List.nil_append]
theorem j9T (F:List (List found)):(F.map fun l:List found=>(l.length:Int))=iL ((sms F).map (·.length)):=by
 induction F with
 | nil=>rfl
 | cons l F ih=>
  unfold iL sms at ih ⊢
  simp only[List.map_cons,lnM] at ih ⊢
  rw[ih]
theorem j4T {F:List (List found)}(h:F.length≤1048576):z2X F=some (iL ((sms F).map (·.length))):=by
 unfold z2X
 rw[j9S h,j9T];rfl
theorem bnd8 {l:List Int}(h:l.length≤3):((l.length:Int)+1)*8≤140737488355328∧(l.length:Int)+1≤9223372036854775807:=by constructor<;>omega
theorem j3E {g:Gm_}(hS:Shape g){r:Rule}(hr:r∈g.Rules){A:List (List Rl_)}(hA:InvS g A){k:Nat}{n:ByteArray}(hn:r.Right[k]?=some n) :
  q6a g (iL (A.map (·.length))) k n ((iL (q4R g r A)).take k,(iL (r.Right.map (atN g))).take k)=some ((iL (q4R g r A)).take (k+1),(iL (r.Right.map (atN g))).take (k+1)):=by
 have h3:=z2z hS hr
 have hlt:=(List.getElem?_eq_some_iff.1 hn).1
 obtain⟨k1,k2,k3,_,_⟩:=hA.at_ (hS.right hr (List.mem_of_getElem? hn))
 have e1:(iL (q4R g r A)).take (k+1)=(iL (q4R g r A)).take k++[((lsA g A n).length:Int)]:=by
  rw[List.take_add_one,z7l]
  unfold q4R
  rw[List.getElem?_map,hn];rfl
 have e2:(iL (r.Right.map (atN g))).take (k+1)=(iL (r.Right.map (atN g))).take k++[(atN g n:Int)]:=by
  rw[List.take_add_one,z7l,List.getElem?_map,hn];rfl
 have b1:((iL (q4R g r A)).take k).length≤3:=Nat.le_trans (List.length_take_le _ _) (by omega)
 have b2:((iL (r.Right.map (atN g))).take k).length≤3:=Nat.le_trans (List.length_take_le _ _) (by omega)
 have hx:(iL (A.map (·.length)))[atN g n]?=some ((lsA g A n).length:Int):=by rw[z7l,List.getElem?_map,k3];rfl
 rw[e1,e2]
 generalize (iL (q4R g r A)).take k=s1 at b1
 generalize (iL (r.Right.map (atN g))).take k=s2 at b2
 generalize iL (A.map (·.length))=cc at hx
 unfold q6a
 dsimp only
 rw[j1O,bsS,k1,q3N (by omega),tnC,hx,bsS,q3N (bnd8 b1),q3N (bnd8 b2)]
noncomputable def k4L (g:Gm_) (A:List (List Rl_)):List (List Rl_)×Bool:=g.Rules.foldl (runR g A) (A,false)
theorem j6z {g:Gm_}(h0:Sz.szd g≤1048576)(hS:Shape g){A:List (List Rl_)}(hA:InvS g A):Mv g A (A,false) (k4L g A):=
 Mv.fold _ _ hA (.rfl' A) fun q r hr h he=>k7B h0 hS hr h he
theorem j4U {A:List (List Rl_)}(h:A.length≤1048576):q9Z A=some (iL (A.map (·.length))):=by
 unfold q9Z
 rw[z9O (g:=fun l:List Rl_=>(l.length:Int)) (B:=1048576) A 0 [] (fun k x s hx hs=>by
  unfold z9m
  rw[q3N (by constructor<;>omega)]) (by rw[List.length_nil];omega),bsS,List.nil_append]
 unfold iL
 rw[List.map_map];rfl
theorem k4M (n:Nat):z0v 0 (n:Int)=some (n:Int):=by
 rw[j9D]
 by_cases h:(n:Int) > 0
 ·rw[ifP h]
 ·rw[ifN h,show (n:Int)=0 by omega]
theorem j3F {g:Gm_}(hS:Shape g){r:Rule}(hr:r∈g.Rules){A:List (List Rl_)}(hA:InvS g A):q9b g r (iL (A.map (·.length)))=some ((chL (q4R g r A)).map iL):=by
 have h3:=z2z hS hr
 unfold q9b
 have key:∀ (k:Nat),k≤r.Right.length→(∀ c∈(q4R g r A).take k,c≤16)∧((q4R g r A).take k).length=k:=fun k hk=>by
  refine⟨fun c hc=>k4J hS hr hA c (List.mem_of_mem_take hc),?_⟩
  rw[List.length_take,z7n];omega
 obtain⟨s',e2,hp⟩:=z2L (P:=fun k (s:List (List Int))=>s=(chL ((q4R g r A).take k)).map iL) (f:=z4w g (iL (A.map (·.length)))) (xs:=r.Right) (i:=0) (s:=[[]]) (by rw[List.take_zero];rfl) fun k n s hn hs=>by
  rw[Nat.zero_add] at hs ⊢
  have hlt:=(List.getElem?_eq_some_iff.1 hn).1
  have hkn:=hS.right hr (List.mem_of_getElem? hn)
  obtain⟨k1,k2,k3,_,_⟩:=hA.at_ hkn
  have hle:=hA.le hS hkn
  have htk:(q4R g r A).take (k+1)=(q4R g r A).take k++[(lsA g A n).length]:=by
   rw[List.take_add_one]
   unfold q4R
   rw[List.getElem?_map,hn];rfl
  have hcl:(chL ((q4R g r A).take k)).length≤256:=by
   unfold chL
   rw[lnM,List.length_range]
   have h4:=k4H (key k (by omega)).1
   rw[(key k (by omega)).2] at h4
   have h5:16 ^ k≤16 ^ 2:=Nat.pow_le_pow_right (by omega) (by omega)
   omega
  refine⟨(chL ((q4R g r A).take (k+1))).map iL,?_,rfl⟩
  unfold z4w
  rw[j9N,bsS,k1,k4M (atN g n),bsS,q3N (by omega),tnC,z7l,List.getElem?_map,k3]
  simp only[Option.map_some,bsS]
  rw[hs,htk,k8O]
  obtain⟨s2,e3,hp2⟩:=z2L (P:=fun j (s:List (List Int))=>s=(((chL ((q4R g r A).take k)).take j).flatMap fun c=>(List.range (lsA g A n).length).map fun d=>iL (c++[d]))) (f:=z4v ((lsA g A n).length:Int)) (xs:=(chL ((q4R g r A).take k)).map iL) (i:=0) (s:=[]) (by rw[List.take_zero];rfl) fun j x s hx hs2=>by
   rw[Nat.zero_add] at hs2 ⊢
   rw[List.getElem?_map] at hx
   cases hc:(chL ((q4R g r A).take k))[j]? with
   | none=>rw[hc] at hx;cases hx
   | some c=>
    rw[hc] at hx;cases hx
    have hj:=(List.getElem?_eq_some_iff.1 hc).1
    have hclen:c.length=k:=by
     obtain⟨m,hm,rfl⟩:=List.mem_map.1 (List.mem_of_getElem? hc)
     rw[j3C,(key k (by omega)).2]
    have hsl:s.length≤256*16:=by
     rw[hs2,j0B (n:=(lsA g A n).length) fun c=>by rw[lnM,List.length_range]]
     rw[List.length_take]
     exact Nat.mul_le_mul (by omega) hle
    unfold z4v
    rw[tnC]
    obtain⟨s3,e4,hp3⟩:=z9G (P:=fun d (t:List (List Int))=>t=s++(List.range d).map fun d=>iL (c++[d])) (f:=z4u (iL c)) (n:=(lsA g A n).length) (i:=0) (s:=s) (by rw[List.range_zero,List.map_nil,List.append_nil]) fun d t h1 h2 ht=>by
     have htl:t.length≤256*16+16:=by rw[ht,List.length_append,lnM,List.length_range];omega
     refine⟨_,by
      unfold z4u
      rw[q3N (by rw[List.length_nil,z5r];constructor<;>omega),q3N (by rw[z5r];constructor<;>omega),q3N (by constructor<;>omega)],?_⟩
     rw[ht,List.range_succ,List.map_append,List.append_assoc,List.map_cons,List.map_nil,k9R c [d]];rfl
    refine⟨s3,by rw[e4];rfl,?_⟩
    rw[hp3,Nat.zero_add,hs2,List.take_add_one,hc,List.flatMap_append]
    simp
  rw[e3]
  rw[Nat.zero_add,lnM,List.take_length] at hp2
  rw[hp2,List.map_flatMap]
  simp only[List.map_map,bsS]
  rfl
 rw[e2,hp,Nat.zero_add,List.take_of_length_le (by rw[z7n];omega)];rfl
theorem x0v {l:List Rl_}(h:l.length≤16):((l.length:Int)+1)*32≤140737488355328∧(l.length:Int)+1≤9223372036854775807:=by constructor<;>omega
theorem k2I {g:Gm_}(hS:Shape g){r:Rule}(hr:r∈g.Rules){A:List (List Rl_)}(hA:InvS g A){c:List Nat}(h:Ch g r A c){k d:Nat}(hd:c[k]?=some d) :
  z5y g r A k (d:Int) ((z1G g r A c).take k)=some ((z1G g r A c).take (k+1)):=by
 have h3:=z2z hS hr
 have hlt:=(List.getElem?_eq_some_iff.1 hd).1
 rw[h.1] at hlt
 obtain⟨n,hn⟩:∃ n,r.Right[k]?=some n:=⟨_,List.getElem?_eq_getElem hlt⟩
 obtain⟨own,h1,h2⟩:=j6y h hn hd
 obtain⟨k1,k2,k3,_,_⟩:=hA.at_ (hS.right hr (List.mem_of_getElem? hn))
 have e1:(z1G g r A c).take (k+1)=(z1G g r A c).take k++[own]:=by rw[List.take_add_one,h1];rfl
 have b1:((z1G g r A c).take k).length≤16:=Nat.le_trans (List.length_take_le _ _) (by omega)
 rw[e1]
 generalize (z1G g r A c).take k=s at b1
 unfold z5y
 rw[hn,bsS,j9N,bsS,k1,k4M,bsS,q3N (by omega),tnC,k3,bsS,q3N (by omega),tnC,h2,bsS,q3N (x0v b1)]
theorem j6A {g:Gm_}(hS:Shape g){r:Rule}(hr:r∈g.Rules){A:List (List Rl_)}(hA:InvS g A){c:List Nat}(h:Ch g r A c) :
  z2U g r A (iL c)=some (z1G g r A c):=by
 unfold z2U
 obtain⟨s',e,hp⟩:=z2L (P:=fun k s=>s=(z1G g r A c).take k) (f:=z5y g r A) (xs:=iL c) (i:=0) (s:=[]) (by rw[List.take_zero]) fun k x s hx hs=>by
  rw[Nat.zero_add] at hs ⊢
  rw[z7l] at hx
  cases hd:c[k]? with
  | none=>rw[hd] at hx;cases hx
  | some d=>
   rw[hd] at hx
   have hx:(d:Int)=x:=Option.some.inj hx
   rw[hs,← hx]
   exact⟨_,k2I hS hr hA h hd,rfl⟩
 rw[e,hp,z5r,Nat.zero_add,h.1,← z9Q h,List.take_length];rfl
theorem k8Q (l:List Rl_)(s:Rl_):z6C l s=some (decide (s∈l)):=by
 unfold z6C
 rw[z3O (q:=fun f:Rl_=>decide (f=s)) (c:=fun _=>true) fun j x hx=>by
  unfold j4z
  rw[j6p,bsS,← apply_ite some]]
 cases e:l.findIdx? fun f=>decide (f=s) with
 | none=>
  rw[List.findIdx?_eq_none_iff] at e
  have:¬ s∈l:=fun h=>by
   have:=e s h
   simp at this
  rw[decide_eq_false this];rfl
 | some j=>
  rw[List.findIdx?_eq_some_iff_getElem] at e
  obtain⟨hj,h1,h2⟩:=e
  have h1:l[j]=s:=of_decide_eq_true h1
  have:s∈l:=h1▸List.getElem_mem hj
  rw[decide_eq_true this];rfl
noncomputable def stF (g:Gm_) (r:Rule) (x:Rl_) (c:List Int) (q:List (List found)×Bool):List (List found)×Bool:=
 if sumS g r x∈(sms q.1).getD (atN g r.Left) [] then q else (q.1.set (atN g r.Left) (q.1.getD (atN g r.Left) []++[⟨sumS g r x,r,c⟩]),true)
theorem k6G (F:List (List found))(k:Nat):(sms F).getD k []=(F.getD k []).map found.summary:=by
 rw[List.getD_eq_getElem?_getD,List.getD_eq_getElem?_getD,z7m]
 cases F[k]? <;> rfl
theorem k8R (g:Gm_)(r:Rule)(x:Rl_)(c:List Int)(q:List (List found)×Bool):(sms (stF g r x c q).1,(stF g r x c q).2)=stA (atN g r.Left) (sumS g r x) (sms q.1,q.2):=by
 unfold stF stA
 dsimp only
 by_cases h:sumS g r x∈(sms q.1).getD (atN g r.Left) []
 ·rw[ifP h,ifP h]
 ·rw[ifN h,ifN h]
  dsimp only
  rw[k6G]
  unfold sms
  rw[List.map_set,List.map_append];rfl
theorem k6H {g:Gm_}(h0:Sz.szd g≤1048576)(hS:Shape g){r:Rule}(hr:r∈g.Rules){F:List (List found)}{b:Bool}(hi:InvS g (sms F)){c:List Int}(hc:c.length≤1048576)(x:Rl_) :
  z2i c x g F b r (atI g r.Left)=some (true,(stF g r x c (F,b)).1,(stF g r x c (F,b)).2):=by
 obtain⟨h1,h2,h3,h4,h5⟩:=hi.at_ (hS.left hr)
 have hle:=hi.le hS (hS.left hr)
 have hw:atN g r.Left<F.length:=by unfold sms at h2;rwa[lnM] at h2
 obtain⟨fs,hf⟩:∃ fs,F[atN g r.Left]?=some fs:=⟨_,List.getElem?_eq_getElem hw⟩
 have hm:lsA g (sms F) r.Left=fs.map found.summary:=by
  rw[z7m,hf] at h3
  exact (Option.some.inj h3).symm
 have hgd:(sms F).getD (atN g r.Left) []=fs.map found.summary:=hm
 have hgf:F.getD (atN g r.Left) []=fs:=by rw[List.getD_eq_getElem?_getD,hf];rfl
 rw[hm,lnM] at hle
 unfold z2i stF
 dsimp only
 rw[hgd,hgf,(k4B (z4C h0) (by have:=z2z hS hr;show r.Right.length≤1048576;omega) x).2,bsS,h1,q3N (by omega),tnC,hf,bsS,k8P,bsS]
 by_cases hs:sumS g r x∈fs.map found.summary
 ·rw[ifP (decide_eq_true hs),ifP hs]
 ·rw[decide_eq_false hs,ifN Bool.false_ne_true,ifN hs,k1h c hc,bsS,q3N (by constructor<;>omega)]
noncomputable def stC (g:Gm_) (r:Rule) (A:List (List Rl_)) (q:List (List found)×Bool) (c:List Nat):List (List found)×Bool:=stF g r (z7P g r (z1G g r A c)) (iL c) q
theorem k4N (g:Gm_)(r:Rule)(A:List (List Rl_))(q:List (List found)×Bool)(c:List Nat):(sms (stC g r A q c).1,(stC g r A q c).2)=stA (atN g r.Left) (ownR g r A c) (sms q.1,q.2):=k8R g r _ _ q
theorem j9U {g:Gm_}(h0:Sz.szd g≤1048576)(hS:Shape g){r:Rule}(hr:r∈g.Rules){A:List (List Rl_)}(hA:InvS g A){F:List (List found)}{b:Bool}(hi:InvS g (sms F))(he:Ext A (sms F)){c:List Nat}(h:Ch g r A c) :
  q5m (iL c) g F b r (atI g r.Left) g r F (iL (r.Right.map (atN g)))=some (true,(stC g r A (F,b) c).1,(stC g r A (F,b) c).2,(stC g r A (F,b) c).1):=by
 have h3:=z2z hS hr
 obtain⟨_,e2,_⟩:=j6s h0 (Nat.le_trans (z3N hr) h0) (z9R hS hr hA h)
 unfold q5m
 rw[k1i hS hr hA he h,bsS,e2,bsS,k6H h0 hS hr (b:=b) hi (c:=iL c) (by rw[z5r,h.1];omega) (z7P g r (z1G g r A c))];rfl
theorem j9V {g:Gm_}(h0:Sz.szd g≤1048576)(hS:Shape g){r:Rule}(hr:r∈g.Rules){A:List (List Rl_)}{q:List (List found)×Bool}(hi:InvS g (sms q.1))(he:Ext A (sms q.1))(c:List Nat):InvS g (sms (stC g r A q c).1)∧Ext A (sms (stC g r A q c).1):=by
 have mv:=k9Q (A:=A) hS hr (q:=(sms q.1,q.2)) hi he (k7A h0 hS r (z7P g r (z1G g r A c)))
 have e:=congrArg Prod.fst (k4N g r A q c)
 dsimp only at e
 rw[e]
 exact⟨mv.inv,mv.ext⟩
theorem j8i {g:Gm_}(h0:Sz.szd g≤1048576)(hS:Shape g){r:Rule}(hr:r∈g.Rules){A:List (List Rl_)}(hA:InvS g A) :
  ∀ (d n:Nat) (q:List (List found)×Bool),n<q6U (q4R g r A)→q6U (q4R g r A)-n=d→InvS g (sms q.1)→Ext A (sms q.1) →
   q5g (q3Y (iL (q4R g r A)) g r (atI g r.Left) g r (iL (r.Right.map (atN g)))) (iL (digL (q4R g r A) n),q.1,q.2)=some (.inr ((((chL (q4R g r A)).drop n).foldl (stC g r A) q).1,(((chL (q4R g r A)).drop n).foldl (stC g r A) q).2,(((chL (q4R g r A)).drop n).foldl (stC g r A) q).1))
 | 0,n,q,hn,hd,hi,he=>by omega
 | d+1,n,q,hn,hd,hi,he=>by
  obtain⟨F,b⟩:=q
  dsimp only at hi he ⊢
  have hch:=k7C hn
  have e1:=j9U h0 hS hr hA (b:=b) hi he hch
  obtain⟨hi1,he1⟩:=j9V h0 hS hr (q:=(F,b)) hi he (digL (q4R g r A) n)
  have h3:=z2z hS hr
  have hcl:=z7n g r A
  obtain⟨q,e2,hq⟩:=j4S (cs:=q4R g r A) (ds:=digL (q4R g r A) n) rfl (j3C _ _) (fun i d c h1 h2=>⟨k1e hn i d c h1 h2,by have:=k4J hS hr hA c (List.mem_of_getElem? h2);omega⟩) (by omega)
  obtain⟨q1,q2⟩:=q
  have hdrop:(chL (q4R g r A)).drop n=digL (q4R g r A) n::(chL (q4R g r A)).drop (n+1):=by
   have hl:n<(chL (q4R g r A)).length:=by unfold chL;rw[lnM,List.length_range];exact hn
   have hg:(chL (q4R g r A))[n]?=some (digL (q4R g r A) n):=by
    unfold chL
    rw[List.getElem?_map,List.getElem?_range hn];rfl
   rw[List.getElem?_eq_getElem hl] at hg
   rw[List.drop_eq_getElem_cons hl,Option.some.inj hg]
  rw[hdrop,List.foldl_cons]
  generalize hQ:stC g r A (F,b) (digL (q4R g r A) n)=Q at e1 hi1 he1
  unfold k2H at hq
  rw[j6w _ _ hn] at hq
  by_cases hlast:n+1<q6U (q4R g r A)
  ·rw[ifP hlast] at hq
   obtain⟨k0,x,hx,hxl,hset⟩:=hq
   dsimp only at k0 hx hset
   have hs:q3Y (iL (q4R g r A)) g r (atI g r.Left) g r (iL (r.Right.map (atN g))) (iL (digL (q4R g r A) n),F,b)=some (.inl (iL (digL (q4R g r A) (n+1)),Q.1,Q.2)):=by
    unfold q3Y
    dsimp only
    rw[e1,bsS]
    dsimp only
    rw[ifP rfl,e2,bsS]
    dsimp only
    rw[ifN (by omega),q3N k0,hx,bsS,q3N ⟨by omega,by omega⟩,← hset]
    rfl
   rw[q4Q hs]
   exact j8i h0 hS hr hA d (n+1) Q hlast (by omega) hi1 he1
  ·rw[ifN hlast] at hq
   dsimp only at hq
   have:(chL (q4R g r A)).drop (n+1)=[]:=List.drop_eq_nil_of_le (by unfold chL;rw[lnM,List.length_range];omega)
   rw[this]
   exact q3U (by
    unfold q3Y
    dsimp only
    rw[e1,bsS]
    dsimp only
    rw[ifP rfl,e2,bsS]
    dsimp only
    rw[ifP hq];rfl)
noncomputable def runF (g:Gm_) (A:List (List Rl_)) (q:List (List found)×Bool) (r:Rule):List (List found)×Bool:=(chL (q4R g r A)).foldl (stC g r A) q
theorem j8j (g:Gm_)(r:Rule)(A:List (List Rl_)):∀ (cs:List (List Nat)) (q:List (List found)×Bool),(sms (cs.foldl (stC g r A) q).1,(cs.foldl (stC g r A) q).2)=cs.foldl (fun q c=>stA (atN g r.Left) (ownR g r A c) q) (sms q.1,q.2)
 | [],q=>rfl
 | c::cs,q=>by rw[List.foldl_cons,List.foldl_cons,j8j g r A cs,k4N]
theorem k1j (g:Gm_)(A:List (List Rl_))(q:List (List found)×Bool)(r:Rule):(sms (runF g A q r).1,(runF g A q r).2)=runR g A (sms q.1,q.2) r:=j8j g r A _ q
theorem k6I {g:Gm_}(h0:Sz.szd g≤1048576)(hS:Shape g){r:Rule}(hr:r∈g.Rules){A:List (List Rl_)}(hA:InvS g A){q:List (List found)×Bool}(hi:InvS g (sms q.1))(he:Ext A (sms q.1)) :
  q4b (iL (q4R g r A)) g q.1 q.2 r (atI g r.Left) g r q.1 (iL (r.Right.map (atN g)))=some ((runF g A q r).1,(runF g A q r).2,(runF g A q r).1):=by
 unfold q4b runF
 rw[j1a,bsS]
 have h3:=z2z hS hr
 have hcl:=z7n g r A
 by_cases hz:0∈q4R g r A
 ·rw[ifP (decide_eq_true hz),k4K hz]
  rfl
 ·rw[decide_eq_false hz,ifN Bool.false_ne_true,z5r,q3N (by refine⟨?_,?_,?_⟩<;>omega)]
  have hp:0<q6U (q4R g r A):=j6x fun c hc=>Nat.pos_of_ne_zero fun e=>hz (e▸hc)
  have e:=j8i h0 hS hr hA _ 0 q hp rfl hi he
  rw[j1P,show iL (List.replicate (q4R g r A).length 0)=List.replicate (q4R g r A).length (0:Int) by unfold iL;rw[List.map_replicate];rfl,List.drop_zero] at e
  rw[e]
  rfl
theorem k2J {g:Gm_}(h0:Sz.szd g≤1048576)(hS:Shape g){r:Rule}(hr:r∈g.Rules){A:List (List Rl_)}(hA:InvS g A){q:List (List found)×Bool}(hi:InvS g (sms q.1))(he:Ext A (sms q.1)) :
  q5u g r q.1 (iL (A.map (·.length))) g q.1 q.2 r (atI g r.Left)=some (runF g A q r):=by
 have h3:=z2z hS hr
 have e:=k6I h0 hS hr hA hi he
 unfold q5u
 obtain⟨s',e2,hp⟩:=z2L (P:=fun k (s:List Int×List Int)=>s=((iL (q4R g r A)).take k,(iL (r.Right.map (atN g))).take k)) (f:=q6a g (iL (A.map (·.length)))) (xs:=r.Right) (i:=0) (s:=([],[])) (by rw[List.take_zero,List.take_zero]) fun k n s hn hs=>by
  rw[Nat.zero_add] at hs ⊢
  rw[hs]
  exact⟨_,j3E hS hr hA hn,rfl⟩
 rw[Nat.zero_add] at hp
 rw[e2,hp,List.take_of_length_le (by rw[z5r,z7n];omega),List.take_of_length_le (by rw[z5r,lnM];omega),bsS]
 dsimp only
 rw[e];rfl
theorem j6B {g:Gm_}(h0:Sz.szd g≤1048576)(hS:Shape g){r:Rule}(hr:r∈g.Rules){A:List (List Rl_)}{q:List (List found)×Bool}(hi:InvS g (sms q.1))(he:Ext A (sms q.1)):InvS g (sms (runF g A q r).1)∧Ext A (sms (runF g A q r).1):=by
 have mv:=k7B h0 hS hr (q:=(sms q.1,q.2)) hi he
 have e:=congrArg Prod.fst (k1j g A q r)
 dsimp only at e
 rw[e]
 exact⟨mv.inv,mv.ext⟩
theorem j8k {g:Gm_}(h0:Sz.szd g≤1048576)(hS:Shape g){A:List (List Rl_)}(hA:InvS g A):∀ (rs:List Rule) (i:Nat) (q:List (List found)×Bool),(∀ r∈rs,r∈g.Rules)→InvS g (sms q.1)→Ext A (sms q.1) →
  eachL (z5F g (iL (A.map (·.length)))) i rs (q.1,q.2)=some (rs.foldl (runF g A) q)
 | [],i,q,_,hi,he=>rfl
 | r::rs,i,q,hrs,hi,he=>by
  have hr:=hrs r (by simp)
  have e1:=k2J h0 hS hr hA (q:=q) hi he
  obtain⟨hi1,he1⟩:=j6B h0 hS hr hi he
  have e2:=j8k h0 hS hA rs (i+1) (runF g A q r) (fun x hx=>hrs x (by simp[hx])) hi1 he1
  rw[eachL,show z5F g (iL (A.map (·.length))) i r (q.1,q.2)=some ((runF g A q r).1,(runF g A q r).2) by
   unfold z5F
   dsimp only
   rw[j1O,bsS,e1];rfl,bsS,List.foldl_cons]
  exact e2
noncomputable def q8k (g:Gm_) (F:List (List found)):List (List found)×Bool:=g.Rules.foldl (runF g (sms F)) (F,false)
theorem j8l (g:Gm_)(A:List (List Rl_)):∀ (rs:List Rule) (q:List (List found)×Bool),(sms (rs.foldl (runF g A) q).1,(rs.foldl (runF g A) q).2)=rs.foldl (runR g A) (sms q.1,q.2)
 | [],q=>rfl
 | r::rs,q=>by rw[List.foldl_cons,List.foldl_cons,j8l g A rs,k1j]
theorem j0D (g:Gm_)(F:List (List found)):(sms (q8k g F).1,(q8k g F).2)=k4L g (sms F):=j8l g _ _ _
theorem j4V {g:Gm_}(h0:Sz.szd g≤1048576)(hS:Shape g){F:List (List found)}(hi:InvS g (sms F)) :
  z5G g F=some (if (q8k g F).2=true then .inl (q8k g F).1 else .inr (q8k g F).1):=by
 have e:=j8k h0 hS hi g.Rules 0 (F,false) (fun _ h=>h) hi (.rfl' _)
 have hl:F.length≤1048576:=by
  have h1:=hi.1
  have h2:=hS.syms.2
  unfold sms at h1
  rw[lnM] at h1
  omega
 unfold z5G
 rw[j4T hl,bsS,e,bsS]
 show (if (q8k g F).2=true then some (Sum.inl (q8k g F).1) else some (Sum.inr (q8k g F).1))=_
 cases (q8k g F).2<;>rfl
def rcs (F:List (List found)):List l25Found:=F.map fun l=>⟨l.map fun f=>f.rule.Name,l.map found.children⟩
theorem j9W (F:List (List found))(k:Nat):(rcs F)[k]?=(F[k]?).map fun l=>(⟨l.map fun f=>f.rule.Name,l.map found.children⟩:l25Found):=by unfold rcs;rw[List.getElem?_map]
theorem x0w {g:Gm_}(h0:Sz.szd g≤1048576)(hS:Shape g){r:Rule}(hr:r∈g.Rules){A:List (List Rl_)}(hA:InvS g A){q:List (List found)×Bool}(hi:InvS g (sms q.1)){c:List Nat}(h:Ch g r A c)(k:Nat) :
  z7E g A r (atI g r.Left) k (iL c) (sms q.1,rcs q.1,q.2)=some (sms (stC g r A q c).1,rcs (stC g r A q c).1,(stC g r A q c).2):=by
 obtain⟨F,b⟩:=q
 dsimp only at hi ⊢
 obtain⟨h1,h2,h3,h4,h5⟩:=hi.at_ (hS.left hr)
 have hle:=hi.le hS (hS.left hr)
 have hw:atN g r.Left<F.length:=by unfold sms at h2;rwa[lnM] at h2
 obtain⟨fs,hf⟩:∃ fs,F[atN g r.Left]?=some fs:=⟨_,List.getElem?_eq_getElem hw⟩
 have hm:lsA g (sms F) r.Left=fs.map found.summary:=by
  rw[z7m,hf] at h3
  exact (Option.some.inj h3).symm
 have hgd:(sms F).getD (atN g r.Left) []=fs.map found.summary:=hm
 have hgf:F.getD (atN g r.Left) []=fs:=by rw[List.getD_eq_getElem?_getD,hf];rfl
 rw[hm,lnM] at hle
 have hsm:(sms F)[atN g r.Left]?=some (fs.map found.summary):=by rw[z7m,hf];rfl
 have hrc:(rcs F)[atN g r.Left]?=some ⟨fs.map fun f=>f.rule.Name,fs.map found.children⟩:=by rw[j9W,hf];rfl
 obtain⟨e1,_,_⟩:=j6s h0 (Nat.le_trans (z3N hr) h0) (z9R hS hr hA h)
 unfold z7E
 dsimp only
 rw[j6A hS hr hA h,bsS,e1,bsS,(k4B (z4C h0) (by have:=z2z hS hr;show r.Right.length≤1048576;omega) _).1,bsS,h1,q3N (by omega),tnC,hsm,bsS,k8Q,bsS]
 unfold stC stF
 dsimp only
 rw[hgd,hgf]
 by_cases hs:sumS g r (z7P g r (z1G g r A c))∈fs.map found.summary
 ·rw[ifP (decide_eq_true hs),ifP hs];rfl
 ·rw[decide_eq_false hs,ifN Bool.false_ne_true,ifN hs,q3N (by rw[lnM];constructor<;>omega),q3N (by omega),hrc,bsS]
  dsimp only
  rw[q3N (by rw[lnM];constructor<;>omega),q3N (by rw[lnM];constructor<;>omega),bsS]
  dsimp only
  unfold sms rcs
  rw[List.map_set,List.map_set,List.map_append,List.map_append,List.map_append];rfl
theorem k9T {g:Gm_}(h0:Sz.szd g≤1048576)(hS:Shape g){r:Rule}(hr:r∈g.Rules){A:List (List Rl_)}(hA:InvS g A):∀ (cs:List (List Nat)) (k:Nat) (q:List (List found)×Bool),(∀ c∈cs,Ch g r A c)→InvS g (sms q.1)→Ext A (sms q.1) →
  eachL (z7E g A r (atI g r.Left)) k (cs.map iL) (sms q.1,rcs q.1,q.2)=some (sms (cs.foldl (stC g r A) q).1,rcs (cs.foldl (stC g r A) q).1,(cs.foldl (stC g r A) q).2)
 | [],k,q,_,_,_=>rfl
 | c::cs,k,q,hc,hi,he=>by
  rw[List.map_cons,eachL,x0w h0 hS hr hA hi (hc c (by simp)) k,bsS,List.foldl_cons]
  obtain⟨hi1,he1⟩:=j9V h0 hS hr hi he c
  exact k9T h0 hS hr hA cs (k+1) (stC g r A q c) (fun x hx=>hc x (by simp[hx])) hi1 he1
theorem k9U {g:Gm_}(h0:Sz.szd g≤1048576)(hS:Shape g){A:List (List Rl_)}(hA:InvS g A):∀ (rs:List Rule) (i:Nat) (q:List (List found)×Bool),(∀ r∈rs,r∈g.Rules)→InvS g (sms q.1)→Ext A (sms q.1) →
  eachL (z7F g A) i rs (sms q.1,rcs q.1,q.2)=some (sms (rs.foldl (runF g A) q).1,rcs (rs.foldl (runF g A) q).1,(rs.foldl (runF g A) q).2)
 | [],i,q,_,hi,he=>rfl
 | r::rs,i,q,hrs,hi,he=>by
  have hr:=hrs r (by simp)
  have hl:A.length≤1048576:=by have h1:=hA.1;have h2:=hS.syms.2;omega
  obtain⟨hi1,he1⟩:=j6B h0 hS hr hi he
  have e:z7F g A i r (sms q.1,rcs q.1,q.2)=some (sms (runF g A q r).1,rcs (runF g A q r).1,(runF g A q r).2):=by
   unfold z7F
   dsimp only
   rw[j4U hl,bsS,j3F hS hr hA,bsS,j9N,bsS,k9T h0 hS hr hA _ 0 q (fun c hc=>k4I hc) hi he]
   rfl
  rw[eachL,e,bsS,List.foldl_cons]
  exact k9U h0 hS hA rs (i+1) (runF g A q r) (fun x hx=>hrs x (by simp[hx])) hi1 he1
theorem k6J {g:Gm_}(hS:Shape g){A:List (List Rl_)}(hA:InvS g A):eachL j0c 0 A ([]:List (List Rl_))=some A:=by
 have hl:A.length≤4:=by have h1:=hA.1;have h2:=hS.syms.2;omega
 rw[z9O (g:=fun x:List Rl_=>x) (B:=1048576) A 0 [] (fun k x s hx hs=>by
  obtain⟨j,hj⟩:=List.getElem?_of_mem hx
  have hlt:=(List.getElem?_eq_some_iff.1 hj).1
  obtain⟨y,hy⟩:∃ y,g.Symbols[j]?=some y:=⟨_,List.getElem?_eq_getElem (by rw[← hA.1];exact hlt)⟩
  have hx16:x.length≤16:=z8L (hS.plain y.Name) (hA.2 j y x hy hj).1 (hA.2 j y x hy hj).2
  unfold j0c
  rw[q3N (by rw[List.length_nil];constructor<;>omega),q3N (by constructor<;>omega)]) (by rw[List.length_nil];omega),List.nil_append,List.map_id']
theorem k9V {g:Gm_}(h0:Sz.szd g≤1048576)(hS:Shape g){F:List (List found)}(hi:InvS g (sms F)) :
  z7G g (sms F,rcs F)=some (if (q8k g F).2=true then .inl (sms (q8k g F).1,rcs (q8k g F).1) else .inr (sms (q8k g F).1,rcs (q8k g F).1)):=by
 unfold z7G
 dsimp only
 rw[k6J hS hi,bsS,k9U h0 hS hi g.Rules 0 (F,false) (fun _ h=>h) hi (.rfl' _),bsS]
 show (if (q8k g F).2=true then some (Sum.inl (sms (q8k g F).1,rcs (q8k g F).1)) else some (Sum.inr (sms (q8k g F).1,rcs (q8k g F).1)))=_
 cases (q8k g F).2<;>rfl
inductive Tr:Type
 | node (rule:ByteArray) (ks:List Tr)
mutual
def Tr.sz:Tr→Nat
 | .node _ ks=>1+Tr.szs ks
def Tr.szs:List Tr→Nat
 | []=>0
 | t::ts=>Tr.sz t+Tr.szs ts
end
theorem Tr.pos:∀ t:Tr,0<t.sz
 | .node _ ks=>by rw[Tr.sz];omega
def kidF (g:Gm_)(F:List (List found))(n:ByteArray)(d:Int):Option found:=(F.getD (atN g n) [])[d.toNat]?
def z7Q (rec:found→Option Tr)(g:Gm_)(F:List (List found)):List ByteArray→List Int→Option (List Tr)
 | [],[]=>some []
 | n::ns,d::ds=>(kidF g F n d).bind fun f=>(rec f).bind fun t=>(z7Q rec g F ns ds).bind fun ts=>some (t::ts)
 | [],_::_=>none
 | _::_,[]=>none
def trF (g:Gm_)(F:List (List found)):Nat→found→Option Tr
 | 0,_=>none
 | n+1,f=>(z7Q (trF g F n) g F f.rule.Right f.children).bind fun ks=>some (.node f.rule.Name ks)
theorem j0E {rec rec' : found→Option Tr}{g:Gm_}{F F' : List (List found)}(h1:∀ f t,rec f=some t→rec' f=some t)(h2:∀ n d f,kidF g F n d=some f→kidF g F' n d=some f):∀ (ns:List ByteArray) (ds:List Int) (ts:List Tr),z7Q rec g F ns ds=some ts→z7Q rec' g F' ns ds=some ts
 | [],[],ts,h=>h
 | n::ns,d::ds,ts,h=>by
  rw[z7Q] at h ⊢
  obtain⟨f,e1,h⟩:=Option.bind_eq_some_iff.1 h
  obtain⟨t,e2,h⟩:=Option.bind_eq_some_iff.1 h
  obtain⟨us,e3,h⟩:=Option.bind_eq_some_iff.1 h
  rw[h2 n d f e1,bsS,h1 f t e2,bsS,j0E h1 h2 ns ds us e3]
  exact h
 | [],_::_,ts,h=>by cases h
 | _::_,[],ts,h=>by cases h
theorem j6C {g:Gm_}{F F' : List (List found)}(h2:∀ n d f,kidF g F n d=some f→kidF g F' n d=some f):∀ (n m:Nat) (f:found) (t:Tr),n≤m→trF g F n f=some t→trF g F' m f=some t
 | 0,m,f,t,_,h=>by cases h
 | n+1,0,f,t,hm,h=>by omega
 | n+1,m+1,f,t,hm,h=>by
  rw[trF] at h ⊢
  obtain⟨ks,e1,h⟩:=Option.bind_eq_some_iff.1 h
  rw[j0E (fun f t ht=>j6C h2 n m f t (by omega) ht) h2 _ _ _ e1]
  exact h
def okF (g:Gm_)(F:List (List found))(n:Nat)(f:found):Prop:=f.rule∈g.Rules∧(∀ d∈f.children,0≤d)∧∃ t,trF g F n f=some t
def Der (g:Gm_)(F:List (List found)):Prop:=∀ l∈F,∀ f∈l,okF g F (tot (sms F)) f
theorem k9W (c:List Nat):∀ d∈iL c,(0:Int)≤d:=fun d hd=>by
 unfold iL at hd
 obtain⟨n,_,rfl⟩:=List.mem_map.1 hd
 omega
theorem j8m {rec:found→Option Tr}{g:Gm_}{F:List (List found)}:∀ (ns:List ByteArray) (c:List Nat),c.length=ns.length→(∀ (i:Nat) (n:ByteArray) (d:Nat),ns[i]?=some n→c[i]?=some d→∃ f t,kidF g F n (d:Int)=some f∧rec f=some t)→∃ ts,z7Q rec g F ns (iL c)=some ts
 | [],[],_,_=>⟨[],rfl⟩
 | [],_::_,h,_=>by simp at h
 | _::_,[],h,_=>by simp at h
 | n::ns,d::c,h,hk=>by
  obtain⟨f,t,e1,e2⟩:=hk 0 n d rfl rfl
  obtain⟨ts,e3⟩:=j8m ns c (by simpa using h) fun i n d h1 h2=>hk (i+1) n d h1 h2
  refine⟨t::ts,?_⟩
  show z7Q rec g F (n::ns) ((d:Int)::iL c)=_
  rw[z7Q,e1,bsS,e2,bsS,e3];rfl
theorem k4O {g:Gm_}(hS:Shape g){r:Rule}(hr:r∈g.Rules){A:List (List Rl_)}(hA:InvS g A){F:List (List found)}(he:Ext A (sms F))(hD:Der g F){c:List Nat}(h:Ch g r A c):∃ ts,z7Q (trF g F (tot (sms F))) g F r.Right (iL c)=some ts:=by
 refine j8m r.Right c h.1 fun i n d h1 h2=>?_
 have hd:=h.2 i n d h1 h2
 obtain⟨_,_,h3,_⟩:=hA.at_ (hS.right hr (List.mem_of_getElem? h1))
 obtain⟨t,ht⟩:=he.2 _ _ h3
 rw[z7m] at ht
 cases hF:F[atN g n]? with
 | none=>rw[hF] at ht;cases ht
 | some l=>
  rw[hF] at ht
  have ht:l.map found.summary=lsA g A n++t:=Option.some.inj ht
  have hl:d<l.length:=by
   have:=congrArg List.length ht
   rw[lnM,List.length_append] at this
   omega
  obtain⟨tr,htr⟩:=(hD l (List.mem_of_getElem? hF) l[d] (List.getElem_mem hl)).2.2
  refine⟨l[d],tr,?_,htr⟩
  unfold kidF
  rw[List.getD_eq_getElem?_getD,hF,Option.getD_some,tnC,List.getElem?_eq_getElem hl]
theorem k8S {g:Gm_}(h0:Sz.szd g≤1048576)(hS:Shape g){r:Rule}(hr:r∈g.Rules){A:List (List Rl_)}(hA:InvS g A){q:List (List found)×Bool}(hi:InvS g (sms q.1))(he:Ext A (sms q.1))(hD:Der g q.1){c:List Nat}(h:Ch g r A c):Der g (stC g r A q c).1:=by
 obtain⟨ts,hts⟩:=k4O hS hr hA he hD h
 obtain⟨h1,h2,h3,_,_⟩:=hi.at_ (hS.left hr)
 have hw:atN g r.Left<q.1.length:=by unfold sms at h2;rwa[lnM] at h2
 unfold stC stF
 by_cases hs:sumS g r (z7P g r (z1G g r A c))∈(sms q.1).getD (atN g r.Left) []
 ·rw[ifP hs];exact hD
 ·rw[ifN hs]
  dsimp only
  generalize hfs:q.1.getD (atN g r.Left) []=fs
  have hf:q.1[atN g r.Left]?=some fs:=by
   rw[List.getD_eq_getElem?_getD,List.getElem?_eq_getElem hw] at hfs
   rw[List.getElem?_eq_getElem hw]
   exact congrArg some hfs
  generalize hx:(⟨sumS g r (z7P g r (z1G g r A c)),r,iL c⟩:found)=x
  have hxr:x.rule=r:=by rw[← hx]
  have hxc:x.children=iL c:=by rw[← hx]
  have ht:tot (sms (q.1.set (atN g r.Left) (fs++[x])))=tot (sms q.1)+1:=by
   have:=j9R (sms q.1) (atN g r.Left) ((fs++[x]).map found.summary) (fs.map found.summary) (by rw[z7m,hf];rfl)
   rw[show sms (q.1.set (atN g r.Left) (fs++[x]))=(sms q.1).set (atN g r.Left) ((fs++[x]).map found.summary) by unfold sms;rw[List.map_set]]
   have l1:((fs++[x]).map found.summary).length=fs.length+1:=by simp
   have l2:(fs.map found.summary).length=fs.length:=by simp
   rw[l1,l2] at this
   omega
  have hmono:∀ n d f,kidF g q.1 n d=some f→kidF g (q.1.set (atN g r.Left) (fs++[x])) n d=some f:=fun n d f h=>by
   unfold kidF at h ⊢
   rw[List.getD_eq_getElem?_getD] at h ⊢
   rw[List.getElem?_set]
   by_cases e:atN g r.Left=atN g n
   ·rw[ifP e,ifP hw,Option.getD_some]
    rw[← e,hf,Option.getD_some] at h
    have hlt:=(List.getElem?_eq_some_iff.1 h).1
    rw[List.getElem?_append_left hlt];exact h
   ·rw[ifN e];exact h
  intro l hl f hfl
  rw[ht]
  have old:okF g q.1 (tot (sms q.1)) f→okF g (q.1.set (atN g r.Left) (fs++[x])) (tot (sms q.1)+1) f:=fun ⟨a,b,t,d⟩=>⟨a,b,t,j6C hmono _ _ f t (by omega) d⟩
  rcases List.mem_or_eq_of_mem_set hl with hl|hl
  ·exact old (hD l hl f hfl)
  ·rw[hl] at hfl
   rcases List.mem_append.1 hfl with hfl|hfl
   ·exact old (hD fs (List.mem_of_getElem? hf) f hfl)
   ·rw[List.mem_singleton] at hfl
    subst hfl
    refine⟨by rw[hxr];exact hr,by rw[hxc];exact k9W c,.node f.rule.Name ts,?_⟩
    rw[trF,hxr,hxc,j0E (fun f t h=>j6C hmono _ _ f t (Nat.le_refl _) h) hmono _ _ _ hts];rfl
theorem j8n {g:Gm_}(h0:Sz.szd g≤1048576)(hS:Shape g){r:Rule}(hr:r∈g.Rules){A:List (List Rl_)}(hA:InvS g A):∀ (cs:List (List Nat)) (q:List (List found)×Bool),(∀ c∈cs,Ch g r A c)→InvS g (sms q.1)→Ext A (sms q.1)→Der g q.1→Der g (cs.foldl (stC g r A) q).1
 | [],q,_,_,_,hD=>hD
 | c::cs,q,hc,hi,he,hD=>by
  rw[List.foldl_cons]
  obtain⟨hi1,he1⟩:=j9V h0 hS hr hi he c
  exact j8n h0 hS hr hA cs _ (fun x hx=>hc x (by simp[hx])) hi1 he1 (k8S h0 hS hr hA hi he hD (hc c (by simp)))
theorem j8o {g:Gm_}(h0:Sz.szd g≤1048576)(hS:Shape g){A:List (List Rl_)}(hA:InvS g A):∀ (rs:List Rule) (q:List (List found)×Bool),(∀ r∈rs,r∈g.Rules)→InvS g (sms q.1)→Ext A (sms q.1)→Der g q.1→Der g (rs.foldl (runF g A) q).1
 | [],q,_,_,_,hD=>hD
 | r::rs,q,hr,hi,he,hD=>by
  rw[List.foldl_cons]
  have hr1:=hr r (by simp)
  obtain⟨hi1,he1⟩:=j6B h0 hS hr1 hi he
  exact j8o h0 hS hA rs _ (fun x hx=>hr x (by simp[hx])) hi1 he1 (j8n h0 hS hr1 hA _ q (fun c hc=>k4I hc) hi he hD)
theorem j4W {g:Gm_}(h0:Sz.szd g≤1048576)(hS:Shape g){F:List (List found)}(hi:InvS g (sms F))(hD:Der g F):InvS g (sms (q8k g F).1)∧Der g (q8k g F).1:=by
 have e:=congrArg Prod.fst (j0D g F)
 dsimp only at e
 refine⟨by rw[e];exact (j6z h0 hS hi).inv,?_⟩
 exact j8o h0 hS hi g.Rules (F,false) (fun _ h=>h) hi (.rfl' _) hD
theorem x0x {g:Gm_}(h0:Sz.szd g≤1048576)(hS:Shape g):∀ (d:Nat) (F:List (List found)),InvS g (sms F)→Der g F→g.Symbols.length*16-tot (sms F)≤d →
  ∃ F',q5g (z5G g) F=some F'∧q5g (z7G g) (sms F,rcs F)=some (sms F',rcs F')∧InvS g (sms F')∧Der g F':=by
 intro d
 induction d with
 | zero=>
  intro F hi hD hd
  have e1:=j4V h0 hS hi
  have e2:=k9V h0 hS hi
  have mv:=j6z h0 hS hi
  have hb:=mv.inv.bound hS
  obtain⟨i1,i2⟩:=j4W h0 hS hi hD
  have hc:(q8k g F).2=false:=by
   have e:=congrArg Prod.snd (j0D g F)
   dsimp only at e
   rw[e]
   cases hq:(k4L g (sms F)).2 with
   | false=>rfl
   | true=>
    rcases mv.up hq with h|h
    ·cases h
    ·dsimp only at h;omega
  rw[hc,ifN Bool.false_ne_true] at e1 e2
  exact⟨_,q3U e1,q3U e2,i1,i2⟩
 | succ d ih=>
  intro F hi hD hd
  have e1:=j4V h0 hS hi
  have e2:=k9V h0 hS hi
  have mv:=j6z h0 hS hi
  have hb:=mv.inv.bound hS
  obtain⟨i1,i2⟩:=j4W h0 hS hi hD
  have es:=j0D g F
  cases hq:(q8k g F).2 with
  | false=>
   rw[hq,ifN Bool.false_ne_true] at e1 e2
   exact⟨_,q3U e1,q3U e2,i1,i2⟩
  | true=>
   rw[hq,ifP rfl] at e1 e2
   have hlt:tot (sms F)<tot (sms (q8k g F).1):=by
    have ea:=congrArg Prod.fst es
    have eb:=congrArg Prod.snd es
    dsimp only at ea eb
    rw[ea]
    rcases mv.up (by rw[← eb];exact hq) with h|h
    ·cases h
    ·exact h
   obtain⟨F',f1,f2,f3,f4⟩:=ih _ i1 i2 (by omega)
   exact⟨F',by rw[q4Q e1];exact f1,by rw[q4Q e2];exact f2,f3,f4⟩
theorem j4X {g:Gm_}(h0:Sz.szd g≤1048576)(hS:Shape g):∃ F,z2Y g=some F∧z4Q g=some (sms F,rcs F)∧InvS g (sms F)∧Der g F:=by
 have e:sms (List.replicate g.Symbols.length [])=List.replicate g.Symbols.length []:=by unfold sms;rw[List.map_replicate];rfl
 have er:rcs (List.replicate g.Symbols.length [])=List.replicate g.Symbols.length ⟨[],[]⟩:=by unfold rcs;rw[List.map_replicate];rfl
 obtain⟨F,h1,h2,h3,h4⟩:=x0x h0 hS _ (List.replicate g.Symbols.length []) (by
  rw[e]
  refine⟨by rw[List.length_replicate],fun k y L _ hL=>?_⟩
  rw[List.getElem?_replicate] at hL
  split at hL
  ·cases hL;exact⟨List.nodup_nil,fun a ha=>by simp at ha⟩
  ·cases hL) (fun l hl f hf=>by
  rw[List.eq_of_mem_replicate hl] at hf
  exact nomatch hf) (Nat.le_refl _)
 rw[e,er] at h2
 have hs:=hS.syms.2
 refine⟨F,?_,?_,h3,h4⟩
 ·unfold z2Y
  rw[q3N (by refine⟨?_,?_,?_⟩<;>omega),h1];rfl
 ·unfold z4Q
  rw[q3N (by refine⟨?_,?_,?_⟩<;>omega),q3N (by refine⟨?_,?_,?_⟩<;>omega),h2];rfl
end Go.Proofs.YtipikecbeganoaaGreat
