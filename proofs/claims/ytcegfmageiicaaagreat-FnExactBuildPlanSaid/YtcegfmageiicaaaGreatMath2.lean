/- What those partial functions come to: plain lemmas on data; each bears its conditions in its statement. -/
import Derived.Test.YtcegfmageiicaaaGreatMath1
set_option linter.unusedVariables false
set_option linter.unusedSimpArgs false
set_option linter.ambiguousOpen false
set_option linter.unusedSectionVars false
set_option linter.unnecessarySimpa false
namespace Go.Proofs.YtcegfmageiicaaaGreat
open Go Go.E
def x0m:At_:=⟨⟨#[]⟩,0,0,false⟩
def j4H (r:Rl_)(d:List Bool)(n k:Nat):Bool:=(List.range n).all fun i=>!decide (hasP r (i:Int) (k:Int))||d.getD i false
def okK (a:List At_)(r:Rl_)(d:List Bool)(m:Int)(k:Nat):Bool:=decide ((a.getD k x0m).Mode=m) && !d.getD k false&&j4H r d a.length k
def j2E (a:List At_)(r:Rl_)(d:List Bool)(m:Int):Option Nat:=(List.range a.length).find? (okK a r d m)
def q7k (a:List At_)(r:Rl_)(m:Int):Nat→List Bool→List Nat×List Bool
 | 0,d=>([],d)
 | f+1,d=>match j2E a r d m with
  | none=>([],d)
  | some k=>(k::(q7k a r m f (d.set k true)).1,(q7k a r m f (d.set k true)).2)
def nm (a:List At_)(k:Nat):ByteArray:=(a.getD k x0m).Name
theorem z6B {k:Nat}:∀ {d:List Bool},d[k]?=some false→(d.set k true).count false+1=d.count false
 | [],h=>by simp at h
 | x::d,h=>by
  cases k with
  | zero=>simp at h;subst h;simp
  | succ k=>
   have ih:=z6B (k:=k) (d:=d) (by simpa using h)
   simp only[List.set_cons_succ,List.count_cons]
   omega
theorem z0r {α:Type}{l:List α}{k:Nat}{x z:α}(h:l[k]?=some x):l.getD k z=x:=by rw[List.getD_eq_getElem?_getD,h];rfl
theorem k9t {a:List At_}{r:Rl_}{d:List Bool}(hd:d.length=a.length)(k:Nat):z0k (k:Int) a r d=some (j4H r d a.length k):=by
 unfold z0k
 have hany:=z8r (c:=false) (xs:=a) (i:=0) (p:=fun i _=>hasP r (i:Int) (k:Int)∧d.getD i false=false) (f:=z5J (k:Int) r d) fun i x hx=>by
  rw[Nat.zero_add]
  have hi:=(List.getElem?_eq_some_iff.1 hx).1
  obtain⟨b,hb⟩:∃ b,d[i]?=some b:=⟨_,List.getElem?_eq_getElem (by omega)⟩
  rw[z0r hb]
  unfold z5J
  rw[z7a,bsS]
  by_cases hp:hasP r (i:Int) (k:Int)
  ·rw[ifP (by simpa using hp),hb,bsS]
   cases b<;>simp[hp]
  ·rw[ifN (by simpa using hp)];simp[hp]
 cases hr:j4H r d a.length k with
 | true=>
  rw[hany.2 fun i x hx hp=>?_]
  ·rfl
  ·rw[Nat.zero_add] at hp
   have hi:=(List.getElem?_eq_some_iff.1 hx).1
   have:=List.all_eq_true.1 hr i (List.mem_range.2 hi)
   rw[decide_eq_true hp.1,hp.2] at this
   cases this
 | false=>
  have:∃ i,i<a.length∧hasP r (i:Int) (k:Int)∧d.getD i false=false:=by
   apply Classical.byContradiction
   intro hn
   have:j4H r d a.length k=true:=List.all_eq_true.2 fun i hi=>by
    have hi':=List.mem_range.1 hi
    by_cases hp:hasP r (i:Int) (k:Int)
    ·cases hb:d.getD i false with
     | true=>simp
     | false=>exact absurd ⟨i,hi',hp,hb⟩ hn
    ·simp[hp]
   rw[this] at hr;cases hr
  obtain⟨i,hi,hp⟩:=this
  rw[hany.1 ⟨i,_,List.getElem?_eq_getElem hi,by rw[Nat.zero_add];exact hp⟩];rfl
theorem k9u {a:List At_}{r:Rl_}{d:List Bool}(hd:d.length=a.length)(hN:r.N=a.length)(k:Nat):z2o r d (k:Int)=some (j4H r d a.length k):=by
 unfold z2o
 rw[hN,tnC]
 have hany:=j0J (c:=false) (n:=a.length) (i:=0) (p:=fun i=>hasP r (i:Int) (k:Int)∧d.getD i false=false) (f:=z8g r d (k:Int)) fun i hi=>by
  rw[Nat.zero_add]
  obtain⟨b,hb⟩:∃ b,d[i]?=some b:=⟨_,List.getElem?_eq_getElem (by omega)⟩
  rw[z0r hb]
  unfold z8g
  rw[q9a,bsS]
  by_cases hp:hasP r (i:Int) (k:Int)
  ·rw[ifP (by simpa using hp),hb,bsS]
   cases b<;>simp[hp]
  ·rw[ifN (by simpa using hp)];simp[hp]
 cases hr:j4H r d a.length k with
 | true=>
  rw[hany.2 fun i hi hp=>?_]
  ·rfl
  ·rw[Nat.zero_add] at hp
   have:=List.all_eq_true.1 hr i (List.mem_range.2 hi)
   rw[decide_eq_true hp.1,hp.2] at this
   cases this
 | false=>
  have:∃ i,i<a.length∧hasP r (i:Int) (k:Int)∧d.getD i false=false:=by
   apply Classical.byContradiction
   intro hn
   have:j4H r d a.length k=true:=List.all_eq_true.2 fun i hi=>by
    have hi':=List.mem_range.1 hi
    by_cases hp:hasP r (i:Int) (k:Int)
    ·cases hb:d.getD i false with
     | true=>simp
     | false=>exact absurd ⟨i,hi',hp,hb⟩ hn
    ·simp[hp]
   rw[this] at hr;cases hr
  obtain⟨i,hi,hp⟩:=this
  rw[hany.1 ⟨i,hi,by rw[Nat.zero_add];exact hp⟩];rfl
theorem j2F {p:Nat→Bool}{n k:Nat}(hk:k<n)(hp:p k=true)(hn:∀ i,i<k→p i=false):(List.range n).find? p=some k:=by
 have e:List.range n=List.range k++(k::(List.range' (k+1) (n-k-1))):=by
  rw[List.range_eq_range',List.range_eq_range',show k::List.range' (k+1) (n-k-1)=List.range' k (n-k) from by
   rw[show n-k=(n-k-1)+1 by omega,List.range'_succ];rfl]
  have:=List.range'_append (s:=0) (m:=k) (n:=n-k) (step:=1)
  simp only[Nat.one_mul,Nat.zero_add] at this
  rw[this];congr 1;omega
 rw[e,List.find?_append]
 have:(List.range k).find? p=none:=List.find?_eq_none.2 fun i hi=>by
  rw[hn i (List.mem_range.1 hi)];simp
 rw[this]
 simp[hp]
theorem j4I {p:Nat→Bool}{n:Nat}(hn:∀ i,i<n→p i=false):(List.range n).find? p=none:=
 List.find?_eq_none.2 fun i hi=>by rw[hn i (List.mem_range.1 hi)];simp
theorem z8y {a:List At_}{r:Rl_}{d:List Bool}{m:Int}{k:Nat}(h:j2E a r d m=some k):k<a.length∧okK a r d m k=true∧d.getD k false=false:=by
 have h1:=List.mem_of_find?_eq_some h
 have h2:=List.find?_some h
 refine⟨List.mem_range.1 h1,h2,?_⟩
 unfold okK at h2
 simp only[Bool.and_eq_true,Bool.not_eq_true'] at h2
 exact h2.1.2
theorem z6C {d:List Bool}{k:Nat}(hk:k<d.length)(h:d.getD k false=false):d[k]?=some false:=by
 obtain⟨b,hb⟩:∃ b,d[k]?=some b:=⟨_,List.getElem?_eq_getElem hk⟩
 rw[z0r hb] at h;rw[hb,h]
theorem j8P {a:List At_}{r:Rl_}{m:Int}{d:List Bool}(hd:d.length=a.length)(hn:a.length≤16)(acc:List ByteArray)(hacc:acc.length≤1000):∀ (j k:Nat),k+j=a.length→(∀ i,i<k→okK a r d m i=false) →
  q4l (q3I m a r) (acc,(k:Int),d)=match j2E a r d m with
   | none=>some (acc,d)
   | some q=>q4l (q3I m a r) (acc++[nm a q],0,d.set q true):=by
 intro j
 induction j with
 | zero=>
  intro k hk hno
  have hc:j2E a r d m=none:=j4I fun i hi=>hno i (by omega)
  rw[hc]
  exact q3F (by unfold q3I;dsimp only;rw[ifN (by omega)])
 | succ j ih=>
  intro k hk hno
  obtain⟨x,hx⟩:∃ x,a[k]?=some x:=⟨_,List.getElem?_eq_getElem (by omega)⟩
  obtain⟨b,hb⟩:∃ b,d[k]?=some b:=⟨_,List.getElem?_eq_getElem (by omega)⟩
  have hin:((if x.Mode=m then grd (0≤(k:Int)) <| (d[(k:Int).toNat]?).bind fun x2=>some (!x2) else some false).bind fun s9=>(if s9=true then (z0k (k:Int) a r d).bind fun y1=>some y1 else some false))=some (okK a r d m k):=by
   unfold okK
   rw[z0r hx,z0r hb,k9t hd]
   by_cases hm:x.Mode=m
   ·rw[ifP hm,q3C (by omega),tnC,hb]
    cases b<;>simp[hm]
   ·rw[ifN hm];simp[hm]
  cases hok:okK a r d m k with
  | true=>
   have hc:j2E a r d m=some k:=j2F (by omega) hok hno
   rw[hc]
   have e:q3I m a r (acc,(k:Int),d)=some (.inl (acc++[nm a k],0,d.set k true)):=by
    unfold q3I
    dsimp only
    rw[ifP (by omega),q3C (by omega),tnC,hx,bsS]
    rw[tnC] at hin
    have hin2:=hin
    rw[hok] at hin2
    obtain⟨s9,h1,h2⟩:=bd hin2
    rw[h1,bsS,h2,bsS,ifP rfl,q3C (by constructor<;>omega),q3C (by omega),hb,bsS,bsS]
    dsimp only
    rw[q3C (by constructor<;>omega)]
    unfold nm
    rw[z0r hx];rfl
   rw[q3S e]
  | false=>
   have e:q3I m a r (acc,(k:Int),d)=some (.inl (acc,((k+1:Nat):Int),d)):=by
    unfold q3I
    dsimp only
    rw[ifP (by omega),q3C (by omega),tnC,hx,bsS]
    rw[tnC] at hin
    have hin2:=hin
    rw[hok] at hin2
    obtain⟨s9,h1,h2⟩:=bd hin2
    rw[h1,bsS,h2,bsS,ifN (by simp),bsS]
    dsimp only
    rw[q3C (by constructor<;>omega)];rfl
   rw[q3S e]
   exact ih (k+1) (by omega) fun i hi=>by
    by_cases h:i=k
    ·rw[h];exact hok
    ·exact hno i (by omega)
theorem k1J {a:List At_}{r:Rl_}{m:Int}(hn:a.length≤16):∀ (f:Nat) (d:List Bool) (acc:List ByteArray),d.length=a.length→d.count false≤f→acc.length+f≤1000 →
  q4l (q3I m a r) (acc,0,d)=some (acc++(q7k a r m f d).1.map (nm a),(q7k a r m f d).2):=by
 intro f
 induction f with
 | zero=>
  intro d acc hd hc hb
  have hs:=j8P (m:=m) (r:=r) hd hn acc (by omega) a.length 0 (by omega) (fun i hi=>absurd hi (Nat.not_lt_zero _))
  have hcand:j2E a r d m=none:=by
   cases h:j2E a r d m with
   | none=>rfl
   | some k=>
    obtain⟨h1,_,h3⟩:=z8y h
    have:=z6B (z6C (by omega) h3)
    omega
  rw[hcand] at hs
  have hs' : q4l (q3I m a r) (acc,0,d)=some (acc,d):=hs
  rw[hs'];simp[q7k]
 | succ f ih=>
  intro d acc hd hc hb
  have hs:=j8P (m:=m) (r:=r) hd hn acc (by omega) a.length 0 (by omega) (fun i hi=>absurd hi (Nat.not_lt_zero _))
  cases h:j2E a r d m with
  | none=>
   rw[h] at hs
   have hs' : q4l (q3I m a r) (acc,0,d)=some (acc,d):=hs
   rw[hs'];simp[q7k,h]
  | some k=>
   rw[h] at hs
   have hs' : q4l (q3I m a r) (acc,0,d)=q4l (q3I m a r) (acc++[nm a k],0,d.set k true):=hs
   obtain⟨h1,_,h3⟩:=z8y h
   have hcs:=z6B (z6C (by omega) h3)
   rw[hs',ih _ _ (by simp[hd]) (by omega) (by simp;omega)]
   simp[q7k,h]
theorem j4J {a:List At_}{r:Rl_}{m:Int}{d:List Bool}(hd:d.length=a.length)(hN:r.N=a.length)(hn:a.length≤16):∀ (j:Nat) (at_:Int),j≤a.length →
  q4l (z0X a r m d) (at_,(j:Int)-1)=some (match (List.range j).find? (okK a r d m) with
   | none=>at_
   | some k=>(k:Int)):=by
 intro j
 induction j with
 | zero=>
  intro at_ _
  exact q3F (by unfold z0X;dsimp only;rw[ifN (by omega)];rfl)
 | succ j ih=>
  intro at_ hj
  have ej:((j+1:Nat):Int)-1=(j:Int):=by omega
  rw[ej]
  obtain⟨x,hx⟩:∃ x,a[j]?=some x:=⟨_,List.getElem?_eq_getElem (by omega)⟩
  obtain⟨b,hb⟩:∃ b,d[j]?=some b:=⟨_,List.getElem?_eq_getElem (by omega)⟩
  have hin:((if x.Mode=m then grd (0≤(j:Int)) <| (d[(j:Int).toNat]?).bind fun x2=>some (!x2) else some false).bind fun s7=>(if s7=true then (z2o r d (j:Int)).bind fun y1=>some y1 else some false))=some (okK a r d m j):=by
   unfold okK
   rw[z0r hx,z0r hb,k9u hd hN]
   by_cases hm:x.Mode=m
   ·rw[ifP hm,q3C (by omega),tnC,hb]
    cases b<;>simp[hm]
   ·rw[ifN hm];simp[hm]
  have e:z0X a r m d (at_,(j:Int))=some (.inl ((if okK a r d m j=true then (j:Int) else at_),(j:Int)-1)):=by
   unfold z0X
   dsimp only
   rw[ifP (by omega),q3C (by omega),tnC,hx,bsS]
   rw[tnC] at hin
   obtain⟨s9,h1,h2⟩:=bd hin
   rw[h1,bsS,h2,bsS]
   cases okK a r d m j with
   | true=>rw[ifP rfl,ifP rfl,bsS,q3C (by constructor<;>omega)]
   | false=>rw[ifN (by simp),ifN (by simp),bsS,q3C (by constructor<;>omega)]
  rw[q3S e,ih _ (by omega),List.range_succ,List.find?_append]
  cases hf:(List.range j).find? (okK a r d m) with
  | some k=>rfl
  | none=>
   cases hok:okK a r d m j<;>simp[hok]
theorem k1K {a:List At_}{r:Rl_}{m:Int}(hN:r.N=a.length)(hn:a.length≤16):∀ (f:Nat) (d:List Bool) (acc:List ByteArray),d.length=a.length→d.count false≤f→acc.length+f≤1000 →
  q4l (z2p a r m) (acc,d)=some (acc++(q7k a r m f d).1.map (nm a),(q7k a r m f d).2):=by
 intro f
 induction f with
 | zero=>
  intro d acc hd hc hb
  have hcand:j2E a r d m=none:=by
   cases h:j2E a r d m with
   | none=>rfl
   | some k=>
    obtain⟨h1,_,h3⟩:=z8y h
    have:=z6B (z6C (by omega) h3)
    omega
  have hs:=j4J (m:=m) hd hN hn a.length (-1) (Nat.le_refl _)
  have hcand' : (List.range a.length).find? (okK a r d m)=none:=hcand
  rw[hcand'] at hs
  have hs' : q4l (z0X a r m d) (-1,(a.length:Int)-1)=some (-1):=hs
  rw[q3F (r:=(acc,d)) (by unfold z2p;dsimp only;rw[hs',bsS,ifP (by omega)])]
  simp[q7k]
 | succ f ih=>
  intro d acc hd hc hb
  have hs:=j4J (m:=m) hd hN hn a.length (-1) (Nat.le_refl _)
  cases h:j2E a r d m with
  | none=>
   have hcand' : (List.range a.length).find? (okK a r d m)=none:=h
   rw[hcand'] at hs
   have hs' : q4l (z0X a r m d) (-1,(a.length:Int)-1)=some (-1):=hs
   rw[q3F (r:=(acc,d)) (by unfold z2p;dsimp only;rw[hs',bsS,ifP (by omega)])]
   simp[q7k,h]
  | some k=>
   obtain⟨h1,_,h3⟩:=z8y h
   have hcand' : (List.range a.length).find? (okK a r d m)=some k:=h
   rw[hcand'] at hs
   obtain⟨x,hx⟩:∃ x,a[k]?=some x:=⟨_,List.getElem?_eq_getElem h1⟩
   have hdk:=z6C (by omega) h3
   have hcs:=z6B hdk
   have e:z2p a r m (acc,d)=some (.inl (acc++[nm a k],d.set k true)):=by
    unfold z2p
    dsimp only
    rw[hs,bsS]
    dsimp only
    rw[ifN (by omega),q3C (by omega),tnC,hdk,bsS,q3C (by omega),hx,bsS,q3C (by constructor<;>omega)]
    unfold nm
    rw[z0r hx]
   rw[q3S e,ih _ _ (by simp[hd]) (by omega) (by simp;omega)]
   simp[q7k,h]
theorem k1L {a:List At_}{r:Rl_}{m:Int}:∀ (f:Nat) (d:List Bool),d.length=a.length→(q7k a r m f d).2.length=a.length∧(q7k a r m f d).2.count false+(q7k a r m f d).1.length=d.count false:=by
 intro f
 induction f with
 | zero=>intro d hd;simp[q7k,hd]
 | succ f ih=>
  intro d hd
  cases h:j2E a r d m with
  | none=>simp[q7k,h,hd]
  | some k=>
   obtain⟨h1,_,h3⟩:=z8y h
   have hcs:=z6B (z6C (by omega) h3)
   have:=ih (d.set k true) (by simp[hd])
   simp only[q7k,h,lnC]
   refine⟨this.1,by omega⟩
def runP (a:List At_)(r:Rl_):Nat→List (List Nat×List Nat)→List Bool→Option (List (List Nat×List Nat))
 | 0,out,_=>some out
 | f+1,out,d=>
  if out=[]∨0<d.count false then
   if 0<a.length∧(q7k a r 1 a.length d).1=[]∧(q7k a r 2 a.length (q7k a r 1 a.length d).2).1=[] then none
   else runP a r f (out++[((q7k a r 1 a.length d).1,(q7k a r 2 a.length (q7k a r 1 a.length d).2).1)]) (q7k a r 2 a.length (q7k a r 1 a.length d).2).2
  else some out
def toPh (a:List At_)(q:List Nat×List Nat):Phase:=⟨q.1.map (nm a),q.2.map (nm a)⟩
theorem j0R {d:List Bool}:d.count false≤d.length:=List.count_le_length
theorem z5O (d:List Bool):q5P d false=some (decide (0<d.count false)):=by
 have h:q7J d false=some (ixF d false):=by
  unfold q7J
  refine j4m fun k x=>⟨fun e=>?_,fun e=>?_⟩
  ·unfold z0w;rw[ifP e.symm]
  ·unfold z0w;rw[ifN (fun h=>e h.symm)]
 unfold q5P
 rw[h,bsS]
 congr 1
 unfold ixF
 by_cases hm:false∈d
 ·rw[ifP hm]
  have:=List.count_pos_iff.2 hm
  simp[this]
 ·rw[ifN hm]
  have:¬ 0<d.count false:=fun h=>hm (List.count_pos_iff.1 h)
  simp[this]
theorem k7d {a:List At_}{r:Rl_}(hN:r.N=a.length)(hn:a.length≤16):∀ (f:Nat) (out:List (List Nat×List Nat)) (d:List Bool),d.length=a.length→(out=[]→d.count false=a.length)→d.count false+(if out=[] then 1 else 0)≤f→out.length+f≤1000 →
  (∃ d',q4l (z1j a r) (out.map (toPh a),d)=some (match runP a r f out d with|none=>.inr ([],false)|some l=>.inl (l.map (toPh a),d'))) ∧
  ∃ d',q4l (z1i a r) (out.map (toPh a),d,((d.count false:Nat):Int))=some (match runP a r f out d with|none=>.inr ([],false)|some l=>.inl (l.map (toPh a),d')):=by
 intro f
 induction f with
 | zero=>
  intro out d hd hnil hc hb
  have ho:out≠[]:=fun e=>by rw[ifP e] at hc;omega
  rw[ifN ho] at hc
  have h0:d.count false=0:=by omega
  have hol:¬ ((out.map (toPh a)).length:Int)=0:=by
   have:=List.length_pos_iff.2 ho
   simp;exact fun e=>ho e
  refine⟨⟨d,q3F ?_⟩,⟨d,q3F ?_⟩⟩
  ·unfold z1j;dsimp only
   rw[ifN hol,z5O,bsS,bsS,ifN (by simp[h0])];rfl
  ·unfold z1i;dsimp only
   rw[h0,ifN (by omega),bsS,ifN (by simpa using hol)];rfl
 | succ f ih=>
  intro out d hd hnil hc hb
  by_cases hgo:out=[]∨0<d.count false
  ·have hi1:q4z 1 a r d=some ((q7k a r 1 a.length d).1.map (nm a),(q7k a r 1 a.length d).2):=by
    unfold q4z
    rw[k1J hn a.length d [] hd (by have:=j0R (d:=d);omega) (by simp;omega)];rfl
   have hl1:=k1L (a:=a) (r:=r) (m:=1) a.length d hd
   have hi2:q4z 2 a r (q7k a r 1 a.length d).2=some ((q7k a r 2 a.length (q7k a r 1 a.length d).2).1.map (nm a),(q7k a r 2 a.length (q7k a r 1 a.length d).2).2):=by
    unfold q4z
    rw[k1J hn a.length _ [] hl1.1 (by have:=j0R (d:=(q7k a r 1 a.length d).2);omega) (by simp;omega)];rfl
   have hl2:=k1L (a:=a) (r:=r) (m:=2) a.length _ hl1.1
   have hs1:z1h a r d 1=some ((q7k a r 1 a.length d).1.map (nm a),(q7k a r 1 a.length d).2):=by
    unfold z1h
    rw[k1K hN hn a.length d [] hd (by have:=j0R (d:=d);omega) (by simp;omega)];rfl
   have hs2:z1h a r (q7k a r 1 a.length d).2 2=some ((q7k a r 2 a.length (q7k a r 1 a.length d).2).1.map (nm a),(q7k a r 2 a.length (q7k a r 1 a.length d).2).2):=by
    unfold z1h
    rw[k1K hN hn a.length _ [] hl1.1 (by have:=j0R (d:=(q7k a r 1 a.length d).2);omega) (by simp;omega)];rfl
   have hdl:=j0R (d:=d)
   generalize hq1:(q7k a r 1 a.length d).1=q1 at *
   generalize hd1:(q7k a r 1 a.length d).2=d1 at *
   generalize hq2:(q7k a r 2 a.length d1).1=q2 at *
   generalize hd2:(q7k a r 2 a.length d1).2=d2 at *
   have hrun:runP a r (f+1) out d=if 0<a.length∧q1=[]∧q2=[] then none else runP a r f (out++[(q1,q2)]) d2:=by
    simp only[runP,hq1,hd1,hq2,hd2]
    rw[ifP hgo]
   have hci:(if ((out.map (toPh a)).length:Int)=0 then some true else (q5P d false).bind fun y3=>some y3)=some true:=by
    rcases hgo with h|h
    ·rw[h,ifP (by simp)]
    ·by_cases h2:((out.map (toPh a)).length:Int)=0
     ·rw[ifP h2]
     ·rw[ifN h2,z5O,bsS,decide_eq_true h]
   have hcs:(if 0<((d.count false:Nat):Int) then some true else some (decide (((out.map (toPh a)).length:Int)=0)))=some true:=by
    by_cases h:0<d.count false
    ·rw[ifP (by omega)]
    ·rw[ifN (by omega)]
     have:out=[]:=hgo.resolve_right h
     rw[this];simp
   have hlen:((q1.map (nm a)).length+(q2.map (nm a)).length:Nat)=q1.length+q2.length:=by simp
   by_cases hstop:0<a.length∧q1=[]∧q2=[]
   ·rw[hrun,ifP hstop]
    obtain⟨hp,e1,e2⟩:=hstop
    have hcd:0<d.count false∨out=[]:=hgo.symm
    refine⟨⟨d,q3F ?_⟩,⟨d,q3F ?_⟩⟩
    ·unfold z1j;dsimp only
     rw[hci,bsS,ifP rfl,hi1,bsS]
     dsimp only
     rw[hi2,bsS]
     dsimp only
     rw[hlen,ifP (by omega),q3C (by constructor<;>omega),bsS,ifP (by simp[e1,e2])]
    ·unfold z1i;dsimp only
     rw[hcs,bsS,ifP rfl,hs1,bsS]
     dsimp only
     rw[hs2,bsS]
     dsimp only
     rw[hlen,q3C (by constructor<;>omega)]
     have hcp:0<d.count false:=by
      rcases hgo with h|h
      ·rw[hnil h];exact hp
      ·exact h
     have hz:((q1.length+q2.length:Nat):Int)=0:=by simp[e1,e2]
     rw[ifP hz,bsS,ifP (decide_eq_true (by omega))]
   ·rw[hrun,ifN hstop]
    have hne:0<a.length→¬ ((q1.length+q2.length:Nat):Int)=0:=fun hp h=>hstop ⟨hp,List.length_eq_zero_iff.1 (by omega),List.length_eq_zero_iff.1 (by omega)⟩
    have hex:a.length=0→q1.length+q2.length=0∧d.count false=0:=fun h=>by omega
    have hol:(out++[(q1,q2)]).map (toPh a)=out.map (toPh a)++[toPh a (q1,q2)]:=by simp
    have hle:(if out=[] then 1 else 0)≤1:=by split<;>omega
    have hcount:d2.count false+(if out++[(q1,q2)]=[] then 1 else 0)≤f:=by
     rw[ifN (by simp)]
     by_cases ha:0<a.length
     ·have:=hne ha
      omega
     ·have:out=[]∨¬ out=[]:=Classical.em _
      rcases this with h|h
      ·have:=hnil h;rw[ifP h] at hc;omega
      ·have:=hgo.resolve_left h;omega
    have hih:=ih (out++[(q1,q2)]) d2 hl2.1 (fun h=>absurd h (by simp)) hcount (by rw[List.length_append];simp;omega)
    obtain⟨⟨di,hi⟩,⟨ds,hs⟩⟩:=hih
    refine⟨⟨di,?_⟩,⟨ds,?_⟩⟩
    ·rw[← hi,hol]
     refine q3S ?_
     unfold z1j;dsimp only
     rw[hci,bsS,ifP rfl,hi1,bsS]
     dsimp only
     rw[hi2,bsS]
     dsimp only
     rw[hlen]
     have hc8:(if 0<(a.length:Int) then grd (I64 ((q1.length+q2.length:Nat):Int)) <| some (decide (((q1.length+q2.length:Nat):Int)=0)) else some false)=some false:=by
      by_cases ha:0<a.length
      ·rw[ifP (by omega),q3C (by constructor<;>omega),decide_eq_false (hne ha)]
      ·rw[ifN (by omega)]
     rw[hc8,bsS,ifN (by simp),lnM,q3C (by constructor<;>omega)]
     rfl
    ·have hcz:((d2.count false:Nat):Int)=((d.count false:Nat):Int)-((q1.length+q2.length:Nat):Int):=by omega
     rw[← hs,hol,hcz]
     refine q3S ?_
     unfold z1i;dsimp only
     rw[hcs,bsS,ifP rfl,hs1,bsS]
     dsimp only
     rw[hs2,bsS]
     dsimp only
     rw[hlen,q3C (by constructor<;>omega)]
     have hc9:(if ((q1.length+q2.length:Nat):Int)=0 then some (decide (0<((d.count false:Nat):Int))) else some false)=some false:=by
      by_cases ha:0<a.length
      ·rw[ifN (hne ha)]
      ·rw[ifP (by omega),decide_eq_false (by omega)]
     rw[hc9,bsS,ifN (by simp),q3C (by constructor<;>omega),lnM,q3C (by constructor<;>omega)]
     rfl
  ·have ho:out≠[]:=fun e=>hgo (.inl e)
   have h0:¬ 0<d.count false:=fun h=>hgo (.inr h)
   have hol:¬ ((out.map (toPh a)).length:Int)=0:=by
    simp;exact ho
   have hrun:runP a r (f+1) out d=some out:=by simp only[runP];rw[ifN hgo]
   rw[hrun]
   refine⟨⟨d,q3F ?_⟩,⟨d,q3F ?_⟩⟩
   ·unfold z1j;dsimp only
    rw[ifN hol,z5O,bsS,bsS,ifN (by simpa using h0)]
   ·unfold z1i;dsimp only
    rw[ifN (by omega),bsS,ifN (fun h=>hol (of_decide_eq_true h))]
end Go.Proofs.YtcegfmageiicaaaGreat
namespace Go.Proofs.YtcegfmageiicaaaGreat
open Go Go.E
theorem k0y {r:Rl_}(h:Valid r):z1f r=some (decide (∃ k:Nat,k<r.Rows.length∧hasP (q6l r) (k:Int) (k:Int))):=by
 have hl:r.Rows.length≤1048576:=by have:=h.2.1;have:=h.2.2.1;omega
 have hN:r.N.toNat=r.Rows.length:=by have:=h.1;have:=h.2.2.1;omega
 unfold z1f
 rw[q6A,bsS,ifP (by simpa using h),j4q hl,bsS,hN]
 have hf:∀ (k:Nat),(hasP (q6l r) (k:Int) (k:Int)→z2g (q6l r) k ()=some (.inr true))∧(¬ hasP (q6l r) (k:Int) (k:Int)→z2g (q6l r) k ()=some (.inl ())):=fun k=>by
  unfold z2g
  rw[q9a,bsS]
  exact⟨fun hp=>ifP (by simpa using hp),fun hp=>ifN (by simpa using hp)⟩
 have hany:=j0J (c:=true) (n:=r.Rows.length) (i:=0) (p:=fun k=>hasP (q6l r) (k:Int) (k:Int)) (f:=z2g (q6l r)) fun k _=>by
  rw[Nat.zero_add];exact hf k
 by_cases hp:∃ k:Nat,k<r.Rows.length∧hasP (q6l r) (k:Int) (k:Int)
 ·rw[decide_eq_true hp]
  obtain⟨k,hk,hpk⟩:=hp
  rw[hany.1 ⟨k,hk,by rw[Nat.zero_add];exact hpk⟩];rfl
 ·rw[decide_eq_false hp]
  rw[hany.2 fun k hx hpk=>hp ⟨k,hx,by rw[Nat.zero_add] at hpk;exact hpk⟩];rfl
def phR (a:List At_)(r:Rl_):Option (List (List Nat×List Nat)):=
 if Valid r∧r.N=a.length∧¬ (∃ k:Nat,k<r.Rows.length∧hasP (q6l r) (k:Int) (k:Int)) then runP a r (a.length+1) [] (List.replicate a.length false) else none
def phO (a:List At_)(r:Rl_):List Phase×Bool:=match phR a r with
 | none=>([],false)
 | some l=>(l.map (toPh a),true)
theorem k5b (n:Nat):(List.replicate n false).count false=n:=by simp
theorem j7p {a:List At_}{r:Rl_}(h:phR a r=none):phO a r=([],false):=by unfold phO;rw[h]
theorem k0z {a:List At_}{r:Rl_}(hn:a.length≤16)(hr:r.Rows.length≤1048576):z4L a r=some (phO a r)∧z4K a r=some (phO a r):=by
 have hb:=fun h=>k7d (a:=a) (r:=r) h hn (a.length+1) [] (List.replicate a.length false) (by simp) (fun _=>by simp) (by simp) (by simp;omega)
 unfold z4L z4K
 rw[z1d,q6A,bsS,bsS]
 by_cases hv:Valid r
 ·rw[decide_eq_true hv,ifP rfl]
  rw[bsS,bsS]
  by_cases hN:r.N=a.length
  ·have e:(!decide (r.N=(a.length:Int)))=false:=by simp[hN]
   rw[e,ifN (by simp),ifN (by simp),j4s hr,k0y hv]
   by_cases hlp:∃ k:Nat,k<r.Rows.length∧hasP (q6l r) (k:Int) (k:Int)
   ·rw[j7p (ifN (fun h=>h.2.2 hlp)),decide_eq_true hlp,bsS,bsS,bsS,ifP rfl,ifP rfl]
    exact⟨rfl,rfl⟩
   ·have ep:phR a r=runP a r (a.length+1) [] (List.replicate a.length false):=ifP ⟨hv,hN,hlp⟩
    unfold phO
    rw[ep,decide_eq_false hlp,bsS,bsS,bsS,ifN (by simp),ifN (by simp),q3C (by constructor<;>omega),q3C (by constructor<;>omega)]
    obtain⟨⟨d1,h1⟩,⟨d2,h2⟩⟩:=hb hN
    rw[k5b] at h2
    simp only[List.map_nil] at h1 h2
    rw[h1,h2]
    cases runP a r (a.length+1) [] (List.replicate a.length false) with
    | none=>exact⟨rfl,rfl⟩
    | some l=>exact⟨rfl,rfl⟩
  ·have e:(!decide (r.N=(a.length:Int)))=true:=by simp[hN]
   rw[j7p (ifN (fun h=>hN h.2.1)),e,ifP rfl,ifP rfl,bsS,ifP rfl]
   exact⟨rfl,rfl⟩
 ·rw[j7p (ifN (fun h=>hv h.1)),decide_eq_false hv]
  exact⟨rfl,rfl⟩
end Go.Proofs.YtcegfmageiicaaaGreat
namespace Go.Proofs.YtcegfmageiicaaaGreat
open Go Go.E
def uSzF {α:Type}(g:α→Int→Option Int)(n:Nat)(x:α):Prop:=∀ s:Int,0≤s→s≤1048576→g x s=some (if (n:Int)≤s then s-n else -1)
theorem j8Q {α:Type}[Sz α]{f:Nat→α→Int→Option (Int ⊕ Int)}:∀ (xs:List α) (i:Nat) (s:Int),(∀ k x s,x∈xs→0≤s→s≤1048576→f k x s=some (if (Sz.szd x:Int)≤s then .inl (s-Sz.szd x) else .inr (-1)))→0≤s→s≤1048576 →
  findL f i xs s=some (if ((szL xs-xs.length:Nat):Int)≤s then .inl (s-(szL xs-xs.length:Nat)) else .inr (-1))
 | [],i,s,_,h0,_=>by simp[findL,szL,h0]
 | x::xs,i,s,hf,h0,h1=>by
  have hl:=q5r xs
  have e:szL (x::xs)-(x::xs).length=Sz.szd x+(szL xs-xs.length):=by simp only[szL,lnC];omega
  rw[e]
  show (f i x s).bind _=_
  rw[hf i x s (by simp) h0 h1]
  by_cases hx:(Sz.szd x:Int)≤s
  ·rw[ifP hx]
   show findL f (i+1) xs (s-Sz.szd x)=_
   rw[j8Q xs (i+1) _ (fun k y t hy=>hf k y t (by simp[hy])) (by omega) (by omega)]
   by_cases h2:((Sz.szd x+(szL xs-xs.length):Nat):Int)≤s
   ·rw[ifP h2,ifP (by omega)];congr 2;omega
   ·rw[ifN h2,ifN (by omega)]
  ·rw[ifN hx,ifN (by omega)];rfl
theorem j4K {α:Type}[Sz α]{xs:List α}{f:Nat→α→Int→Option (Int ⊕ Int)}(hf:∀ k x s,x∈xs→0≤s→s≤1048576→f k x s=some (if (Sz.szd x:Int)≤s then .inl (s-Sz.szd x) else .inr (-1)))(s:Int)(h0:0≤s)(h1:s≤1048576)(hl:xs.length≤9223372036854775807) :
  (grd (I64 (s-(xs.length:Int))) <| if (s-(xs.length:Int))<0 then some (-1) else (findL f 0 xs (s-(xs.length:Int))).bind <| onr (fun r1=>some r1) fun s1=>some s1)=some (if (szL xs:Int)≤s then s-(szL xs:Nat) else -1):=by
 have hl':=q5r xs
 rw[q3C (by constructor<;>omega)]
 by_cases h2:s-(xs.length:Int)<0
 ·rw[ifP h2,ifN (by omega)]
 ·rw[ifN h2,j8Q xs 0 _ hf (by omega) (by omega),bsS]
  by_cases h3:(szL xs:Int)≤s
  ·rw[ifP h3,ifP (by omega),z4l];congr 1;omega
  ·rw[ifN h3,ifN (by omega),j0V]
theorem j5V {α:Type}[Sz α]{g:α→Int→Option Int}{xs:List α}(hg:∀ x∈xs,uSzF g (Sz.szd x) x)(k:Nat)(x:α)(s:Int)(hx:x∈xs)(h0:0≤s)(h1:s≤1048576) :
  ((g x s).bind fun y1=>if y1<0 then some (.inr (-1)) else some (.inl y1):Option (Int ⊕ Int))=some (if (Sz.szd x:Int)≤s then .inl (s-Sz.szd x) else .inr (-1)):=by
 rw[hg x hx s h0 h1,bsS]
 by_cases h2:(Sz.szd x:Int)≤s
 ·rw[ifP h2,ifN (by omega),ifP h2]
 ·rw[ifN h2,ifP (by omega),ifN h2]
theorem z3X (n m:Nat){k:Int→Option Int}{s:Int}(h0:0≤s)(h1:s≤1048576)(hn:n≤9223372036854775807)(hk:∀ t,0≤t→t≤1048576→k t=some (if (m:Int)≤t then t-m else -1)) :
  (grd (I64 (s-(n:Int))) <| if (s-(n:Int))<0 then some (-1) else k (s-(n:Int)))=some (if ((n+m:Nat):Int)≤s then s-(n+m:Nat) else -1):=by
 rw[q3C (by constructor<;>omega)]
 by_cases h2:s-(n:Int)<0
 ·rw[ifP h2,ifN (by omega)]
 ·rw[ifN h2,hk _ (by omega) (by omega)]
  by_cases h3:((n+m:Nat):Int)≤s
  ·rw[ifP h3,ifP (by omega)];congr 1;omega
  ·rw[ifN h3,ifN (by omega)]
theorem z1Y (n m:Nat){o:Option Int}{k:Int→Option Int}{s:Int}(h0:0≤s)(h1:s≤1048576)(ho:o=some (if (n:Int)≤s then s-n else -1))(hk:∀ t,0≤t→t≤1048576→k t=some (if (m:Int)≤t then t-m else -1)) :
  (o.bind fun y1=>if y1<0 then some (-1) else k y1)=some (if ((n+m:Nat):Int)≤s then s-(n+m:Nat) else -1):=by
 rw[ho,bsS]
 by_cases h2:(n:Int)≤s
 ·rw[ifP h2,ifN (by omega),hk _ (by omega) (by omega)]
  by_cases h3:((n+m:Nat):Int)≤s
  ·rw[ifP h3,ifP (by omega)];congr 1;omega
  ·rw[ifN h3,ifN (by omega)]
 ·rw[ifN h2,ifP (by omega),ifN (by omega)]
theorem z5B {t:Int}(h0:0≤t)(_:t≤1048576):some t=some (if ((0:Nat):Int)≤t then t-(0:Nat) else -1):=by rw[ifP (by omega)];congr 1;omega
section
open Go.A
theorem k7e {xs:List ByteArray}(h:boD (.sl 1 (xs.map A.D.s))):uSzF z5i (szL xs) xs:=fun s h0 h1=>
 j4K (f:=z6K) (fun k x s hx h0 h1=>by
  unfold z6K
  have hb:x.size≤9223372036854775807:=j6t.1 (q9O.1 (z9l h hx)).1
  rw[q3C (by constructor<;>omega)]
  show (_:Option (Int ⊕ Int))=some (if (x.size:Int)≤s then Sum.inl (s-x.size) else Sum.inr (-1))
  by_cases h2:(x.size:Int)≤s
  ·rw[ifN (by omega),ifP h2]
  ·rw[ifP (by omega),ifN h2]) s h0 h1 (z9m h)
theorem k7f {x:At_}(h:boCs (At_.l x)):uSzF z2F (Sz.szd x) x:=fun s h0 h1=>by
 simp only[At_.l,q9O,j6t] at h
 exact z3X x.Name.size 0 h0 h1 h.1 (k:=some) (fun t=>z5B)
theorem k5c {k:Nat}{xs:List At_}(h:boD (.sl k (xs.map At_.D))):uSzF z1q (szL xs) xs:=fun s h0 h1=>
 j4K (f:=z7j) (j5V fun x hx=>k7f (z9l h hx)) s h0 h1 (z9m h)
theorem k9v {x:Symbol}(h:boCs (Symbol.l x)):uSzF z6J (Sz.szd x) x:=fun s h0 h1=>by
 simp only[Symbol.l,q9O,j6t] at h
 exact z3X x.Name.size _ h0 h1 h.1 fun t h0 h1=>z1Y (szL x.Attributes) 0 h0 h1 (k5c h.2.1 t h0 h1) fun t=>z5B
theorem k7g {k:Nat}{xs:List Symbol}(h:boD (.sl k (xs.map Symbol.D))):uSzF z5h (szL xs) xs:=fun s h0 h1=>
 j4K (f:=j0b) (j5V fun x hx=>k9v (z9l h hx)) s h0 h1 (z9m h)
theorem k9w {x:Oc}(h:x.Name.size≤9223372036854775807):uSzF z1r (Sz.szd x) x:=fun s h0 h1=>
 z3X x.Name.size 0 h0 h1 h (k:=some) (fun t=>z5B)
theorem k5d:∀ (m:Nat) (e:Expr),fuE e≤m→boCs (Expr.l e)→uSzF (z5T m) (Sz.szd e) e:=by
 intro m
 induction m with
 | zero=>intro e h;rw[z3I] at h;omega
 | succ m ih=>
  intro e h hr s h0 h1
  rw[z3I] at h
  simp only[Expr.l,q9O,j6t] at hr
  obtain⟨_,_,_,_,h2,h3,h4,_⟩:=hr
  rw[q8Z,Nat.add_assoc]
  show z7E (z5T m) e s=_
  unfold z7E
  exact z3X e.Symbol.size _ h0 h1 h2 fun t h0 h1=>z3X e.Name.size _ h0 h1 h3 fun t h0 h1=>
   z1Y (szL e.Args) 0 h0 h1 (j4K (f:=j3s (z5T m)) (j5V fun x hx=>ih x (by have:=z5A hx;omega) (by rw[← Expr.D_cells];exact z9l h4 hx)) t h0 h1 (z9m h4)) fun t=>z5B
theorem k0A {e:Expr}(h:boCs (Expr.l e)):uSzF z7F (Sz.szd e) e:=fun s h0 h1=>
 q9u (fuE e) fun n hn=>k5d n e hn h s h0 h1
theorem k9x {x:Eqn}(h:boCs (Eqn.l x)):uSzF z3L (Sz.szd x) x:=fun s h0 h1=>by
 have e:Sz.szd x=Sz.szd x.At+(Sz.szd x.Expr+0):=by rw[z5y,q8Z,j5r];omega
 simp only[Eqn.l,q9O] at h
 rw[e]
 exact z1Y _ _ h0 h1 (k9w (j6t.1 h.2.1) s h0 h1) fun t h0 h1=>z1Y _ 0 h0 h1 (k0A (by simp only[Expr.l,q9O];exact h.2.2) t h0 h1) fun t=>z5B
theorem k7h {k:Nat}{xs:List Eqn}(h:boD (.sl k (xs.map Eqn.D))):uSzF z2G (szL xs) xs:=fun s h0 h1=>
 j4K (f:=z7G) (j5V fun x hx=>k9x (z9l h hx)) s h0 h1 (z9m h)
theorem k9y {x:Cn}(h:boCs (Cn.l x)):uSzF z0a (Sz.szd x) x:=fun s h0 h1=>by
 have e:Sz.szd x=x.Symbol.size+(x.Name.size+(Sz.szd x.Target+(Sz.szd x.Value+0))):=by rw[z0Q,q8Z,q8Z];omega
 simp only[Cn.l,q9O] at h
 obtain⟨h1',h2,a1,a2,a3,a4,a5,a6,a7,hb⟩:=h
 rw[e]
 exact z3X _ _ h0 h1 (j6t.1 h1') fun t h0 h1=>z3X _ _ h0 h1 (j6t.1 h2) fun t h0 h1=>z1Y _ _ h0 h1 (k0A (by simp only[Expr.l,q9O];exact⟨a1,a2,a3,a4,a5,a6,a7,by rw[boCs];trivial⟩) t h0 h1) fun t h0 h1=>
  z1Y _ 0 h0 h1 (k0A (by simp only[Expr.l,q9O];exact hb) t h0 h1) fun t=>z5B
theorem k7i {k:Nat}{xs:List Cn}(h:boD (.sl k (xs.map Cn.D))):uSzF q9D (szL xs) xs:=fun s h0 h1=>
 j4K (f:=z4o) (j5V fun x hx=>k9y (z9l h hx)) s h0 h1 (z9m h)
theorem k7j {x:Rule}(h:boCs (Rule.l x)):uSzF j0c (Sz.szd x) x:=fun s h0 h1=>by
 have e:Sz.szd x=x.Name.size+(x.Left.size+(szL x.Right+(szL x.Equations+(szL x.Contributions+0)))):=by rw[z6Z];omega
 simp only[Rule.l,q9O] at h
 obtain⟨h2,h3,h4,_,h5,h6,_⟩:=h
 rw[e]
 exact z3X _ _ h0 h1 (j6t.1 h2) fun t h0 h1=>z3X _ _ h0 h1 (j6t.1 h3) fun t h0 h1=>z1Y _ _ h0 h1 (k7e h4 t h0 h1) fun t h0 h1=>z1Y _ _ h0 h1 (k7h h5 t h0 h1) fun t h0 h1=>
  z1Y _ 0 h0 h1 (k7i h6 t h0 h1) fun t=>z5B
theorem k5e {k:Nat}{xs:List Rule}(h:boD (.sl k (xs.map Rule.D))):uSzF z8F (szL xs) xs:=fun s h0 h1=>
 j4K (f:=j3t) (j5V fun x hx=>k7j (z9l h hx)) s h0 h1 (z9m h)
theorem k7k {x:Grammar}(h:boCs (Grammar.l x)):uSzF z5j (Sz.szd x) x:=fun s h0 h1=>by
 have e:Sz.szd x=szL x.Symbols+(szL x.Rules+0):=by rw[z2D];omega
 simp only[Grammar.l,q9O] at h
 rw[e]
 exact z1Y _ _ h0 h1 (k7g h.1 s h0 h1) fun t h0 h1=>z1Y _ 0 h0 h1 (k5e h.2.1 t h0 h1) fun t=>z5B
end
theorem k7l {α:Type}{z y:α}(pre:List α)(n:Nat):List.set (pre++List.replicate (n+1) z) pre.length y=(pre++[y])++List.replicate n z:=by
 rw[List.set_append_right _ _ (Nat.le_refl _),Nat.sub_self,List.replicate_succ,List.set_cons_zero];simp
theorem k5f {α:Type}{z:α}{f:Nat→α→List α→Option (List α)}:∀ (xs pre:List α),(∀ k x s,x∈xs→k<s.length→f k x s=some (List.set s k x))→eachL f pre.length xs (pre++List.replicate xs.length z)=some (pre++xs)
 | [],pre,_=>by simp[eachL]
 | x::xs,pre,hf=>by
  show (f pre.length x _).bind _=_
  rw[hf _ _ _ (by simp) (by simp),lnC,k7l,bsS]
  have:=k5f (z:=z) xs (pre++[x]) fun k y s hy=>hf k y s (by simp[hy])
  rw[List.length_append] at this
  rw[show pre.length+1=pre.length+[x].length from rfl,this];simp
theorem z9N {α:Type}{z:α}{g:α→Option α}{b:Int}{xs:List α}{f:Nat→α→List α→Option (List α)}(hb:(xs.length:Int)*b≤281474976710656)(hl:xs.length≤1048576)(hf:∀ k x s,x∈xs→k<s.length→f k x s=some (List.set s k x)) :
  (grd (0≤(xs.length:Int)∧(xs.length:Int)*b≤281474976710656∧(xs.length:Int)≤9223372036854775807) <| (eachL f 0 xs (List.replicate xs.length z)).bind fun s1=>some s1)=some xs:=by
 rw[q3C ⟨by omega,hb,by omega⟩]
 have:=k5f (z:=z) xs [] hf
 rw[List.length_nil,List.nil_append,List.nil_append] at this
 rw[this];rfl
theorem j5W {α:Type}{g:α→Option α}{xs:List α}(hg:∀ x∈xs,g x=some x)(k:Nat)(x:α)(s:List α)(hx:x∈xs)(hk:k<s.length):((g x).bind fun y1=>(s[k]?).bind fun x2=>some (List.set s k y1))=some (List.set s k x):=by
 rw[hg x hx,bsS,List.getElem?_eq_getElem hk];rfl
theorem k7m {xs:List ByteArray}(h:szL xs≤1048576):z5l xs=some xs:=by
 have hl:=q5r xs
 exact z9N (g:=some) (by omega) (by omega) fun k x s _ hk=>by unfold j0d;rw[List.getElem?_eq_getElem hk];rfl
theorem k5g {xs:List At_}(h:szL xs≤1048576):z1s xs=some xs:=by
 have hl:=q5r xs
 exact z9N (g:=some) (by omega) (by omega) (j5W (g:=z2H) fun x _=>rfl)
theorem k9z {x:Symbol}(h:Sz.szd x≤1048576):z2d x=some x:=by
 unfold z2d;rw[k5g (by rw[j1s] at h;omega)];rfl
theorem k7n {xs:List Symbol}(h:szL xs≤1048576):z5k xs=some xs:=by
 have hl:=q5r xs
 exact z9N (g:=some) (by omega) (by omega) (j5W (g:=z2d) fun x hx=>k9z (by have:=z3V hx;omega))
theorem k5h:∀ (m:Nat) (e:Expr),fuE e≤m→Sz.szd e≤1048576→z4p m e=some e:=by
 intro m
 induction m with
 | zero=>intro e h;rw[z3I] at h;omega
 | succ m ih=>
  intro e h hs
  rw[z3I] at h
  show z7H (z4p m) e=_
  unfold z7H
  have hz:=q8Z e
  have hl:=q5r e.Args
  have:z8G (z4p m) e.Args=some e.Args:=z9N (g:=some) (by omega) (by omega) (j5W (g:=z4p m) fun x hx=>ih x (by have:=z5A hx;omega) (by have:=k4b hx;omega))
  rw[this,bsS];cases e;rfl
theorem k0B {e:Expr}(h:Sz.szd e≤1048576):z7I e=some e:=q9u (fuE e) fun n hn=>k5h n e hn h
theorem k9A {x:Eqn}(h:Sz.szd x≤1048576):z0b x=some x:=by
 unfold z0b
 rw[show z1t x.At=some x.At from rfl,k0B (by rw[z5y] at h;rw[q8Z];omega)];rfl
theorem k7o {xs:List Eqn}(h:szL xs≤1048576):z2I xs=some xs:=by
 have hl:=q5r xs
 exact z9N (g:=some) (by omega) (by omega) (j5W (g:=z0b) fun x hx=>k9A (by have:=z3V hx;omega))
theorem k9B {x:Cn}(h:Sz.szd x≤1048576):q7o x=some x:=by
 unfold q7o
 rw[z0Q] at h
 rw[k0B (by rw[q8Z];omega),bsS,k0B (by rw[q8Z];omega)];rfl
theorem k7p {xs:List Cn}(h:szL xs≤1048576):q9E xs=some xs:=by
 have hl:=q5r xs
 exact z9N (g:=some) (by omega) (by omega) (j5W (g:=q7o) fun x hx=>k9B (by have:=z3V hx;omega))
theorem k7q {x:Rule}(h:Sz.szd x≤1048576):z5U x=some x:=by
 unfold z5U
 rw[z6Z] at h
 rw[k7m (by omega),bsS,k7o (by omega),bsS,k7p (by omega)];rfl
theorem k5i {xs:List Rule}(h:szL xs≤1048576):z8H xs=some xs:=by
 have hl:=q5r xs
 exact z9N (g:=some) (by omega) (by omega) (j5W (g:=z5U) fun x hx=>k7q (by have:=z3V hx;omega))
theorem k7r {x:Grammar}(h:Sz.szd x≤1048576):q8J x=some x:=by
 unfold q8J
 rw[z2D] at h
 rw[k7n (by omega),bsS,k5i (by omega)];rfl
theorem k8i {α:Type}{f:Nat→α→Unit→Option (Unit ⊕ Bool)}:∀ (xs:List α) (i:Nat),(∀ k x,xs[k]?=some x→f (i+k) x ()=some (.inl ()))→findL f i xs ()=some (.inl ())
 | [],i,_=>rfl
 | x::xs,i,hf=>by
  show (f i x ()).bind _=_
  have h0:=hf 0 x rfl
  rw[Nat.add_zero] at h0
  rw[h0]
  exact k8i xs (i+1) fun k y hy=>by have:=hf (k+1) y hy;rwa[show i+1+k=i+(k+1) by omega]
theorem z7f {α:Type}{xs:List α}{f:Nat→α→Unit→Option (Unit ⊕ Bool)}(hf:∀ k x,xs[k]?=some x→f k x ()=some (.inl ())) :
  (if (xs.length:Int)=(xs.length:Int) then (findL f 0 xs ()).bind <| onr (fun r1=>some r1) fun _=>some true else some false)=some true:=by
 rw[ifP rfl,k8i xs 0 fun k x h=>by rw[Nat.zero_add];exact hf k x h];rfl
theorem j2c {α:Type}{g:α→α→Option Bool}{xs:List α}(hg:∀ x∈xs,g x x=some true)(k:Nat)(x:α)(h:xs[k]?=some x):((xs[k]?).bind fun x2=>(g x x2).bind fun y1=>if y1=true then some (.inl ()) else some (.inr false):Option (Unit ⊕ Bool))=some (.inl ()):=by
 rw[h,bsS,hg x (List.mem_of_getElem? h)];rfl
theorem k7s (x:At_):q9q x x=some true:=by simp[q9q]
theorem k5j (xs:List At_):z1R xs xs=some true:=z7f (f:=z7n xs) (j2c (g:=q9q) fun x _=>k7s x)
theorem k9C (x:Symbol):z2m x x=some true:=by simp[z2m,k5j]
theorem k7t (xs:List Symbol):z5s xs xs=some true:=z7f (f:=j0u xs) (j2c (g:=z2m) fun x _=>k9C x)
theorem k7u (xs:List ByteArray):z5r xs xs=some true:=z7f (f:=z6P xs) fun k x h=>by unfold z6P;rw[h,bsS,ifP rfl]
theorem k7v (x:Oc):q9W x x=some true:=by simp[q9W]
theorem k5k:∀ (m:Nat) (e:Expr),fuE e≤m→z3i m e e=some true:=by
 intro m
 induction m with
 | zero=>intro e h;rw[z3I] at h;omega
 | succ m ih=>
  intro e h
  rw[z3I] at h
  show z8c (z3i m) e e=_
  have:z8M (z3i m) e.Args e.Args=some true:=z7f (f:=j3D (z3i m) e.Args) (j2c (g:=z3i m) fun x hx=>ih x (by have:=z5A hx;omega))
  simp[z8c,this]
theorem k1M (e:Expr):z8d e e=some true:=q9u (fuE e) fun n hn=>k5k n e hn
theorem k9D (x:Eqn):z0h x x=some true:=by simp[z0h,k7v,k1M]
theorem k7w (xs:List Eqn):z2U xs xs=some true:=z7f (f:=z8e xs) (j2c (g:=z0h) fun x _=>k9D x)
theorem k9E (x:Cn):q7s x x=some true:=by simp[q7s,k1M]
theorem k7x (xs:List Cn):q9H xs xs=some true:=z7f (f:=z4H xs) (j2c (g:=q7s) fun x _=>k9E x)
theorem k7y (x:Rule):z6h x x=some true:=by simp[z6h,k7u,k7w,k7x]
theorem k5l (xs:List Rule):z8N xs xs=some true:=z7f (f:=j3E xs) (j2c (g:=z6h) fun x _=>k7y x)
theorem k7z (x:Grammar):z3j x x=some true:=by simp[z3j,k7t,k5l]
end Go.Proofs.YtcegfmageiicaaaGreat
set_option maxRecDepth 100000
set_option maxHeartbeats 4000000
namespace Go.Proofs.YtcegfmageiicaaaGreat
open Go Go.E
theorem k7A:∀ (n:Nat),n≤1000000000000→∀ s:ByteArray,s.size+n≤2000000000000→∃ r,q4l z5t ((n:Int),s)=some r∧r.size≤s.size+n:=by
 intro n
 induction n using Nat.strongRecOn with
 | _ n ih=>
  intro hn s hs
  by_cases h0:n=0
  ·subst h0
   exact⟨s,q3F (by unfold z5t;exact ifN (by decide)),by omega⟩
  ·have hd:((n:Int).tdiv 10)=((n / 10:Nat):Int):=rfl
   have hm:((n:Int).tmod 10)=((n % 10:Nat):Int):=rfl
   obtain⟨r,h1,h2⟩:=ih (n / 10) (by omega) (by omega) ((⟨#[(UInt8.ofNat ((48+((n:Int).tmod 10)) % 256).toNat)]⟩:ByteArray)++s) (by
    rw[ByteArray.size_append];show 1+s.size+n / 10≤_;omega)
   refine⟨r,?_,?_⟩
   ·rw[← h1,← hd]
    refine q3S ?_
    unfold z5t
    dsimp only
    rw[ifP (by omega),q3C (by rw[hm];constructor<;>omega),q3C (by show 1+s.size≤_;omega),q3C (by rw[hd];constructor<;>omega)]
   ·rw[ByteArray.size_append] at h2
    have h2:r.size≤1+s.size+n / 10:=h2
    omega
theorem z7y {k:Int}(h0:0≤k)(h1:k≤1000000000000):∃ t,q4h k=some t:=by
 unfold q4h
 by_cases h2:k≤0
 ·rw[ifP h2];exact⟨_,rfl⟩
 ·rw[ifN h2]
  obtain⟨r,h3,h4⟩:=k7A k.toNat (by omega) ⟨#[]⟩ (by show 0+k.toNat≤_;omega)
  rw[Int.toNat_of_nonneg h0] at h3
  rw[h3,bsS]
  have h4:r.size≤0+k.toNat:=h4
  rw[q3C (by show 1+r.size≤_;omega)]
  exact⟨_,rfl⟩
def RL {α:Type}(R:Int→α→Int→Prop):Int→List α→Int→Prop
 | k,[],k'=>k=k'
 | k,y::ys,k'=>∃ m,R k y m∧RL R m ys k'
def sumC {α:Type}(c:α→Nat):List α→Nat
 | []=>0
 | x::xs=>c x+sumC c xs
theorem j7q {α:Type}[Sz α]:∀ xs:List α,sumC (fun x=>16*(1+Sz.szd x)) xs=16*szL xs
 | []=>rfl
 | x::xs=>by simp only[sumC,szL,j7q xs];omega
theorem k0C {α:Type}{c:α→Nat}{b:Nat}:∀ {xs:List α},(∀ x∈xs,c x≤b)→sumC c xs≤b*xs.length
 | [],_=>Nat.zero_le _
 | x::xs,h=>by
  have h1:=h x (by simp)
  have h2:=k0C (xs:=xs) fun y hy=>h y (by simp[hy])
  simp only[sumC,lnC,Nat.mul_add,Nat.mul_one];omega
theorem k1N {α ι:Type}{Q:ι→Prop}{R:Int→α→Int→Prop}{c:α→Nat}{P:α→Prop}{L:ι→Int×Int×List α→Option ((Int×Int×List α) ⊕ (Int×List α))}
  (hin:∀ (k:Int) (i:Nat) (a:List α) (x:α),P x→a[i]?=some x→0≤k→k+(c x:Nat)≤10000000000→i≤1000000000→∃ k' x',(∀ n,Q n→L n (k,(i:Int),a)=some (.inl (k',((i+1:Nat):Int),a.set i x')))∧k≤k'∧k'≤k+(c x:Nat)∧R k x' k')
  (hout:∀ (n:ι) (k i:Int) (a:List α),¬ i<(a.length:Int)→L n (k,i,a)=some (.inr (k,a))) :
  ∀ (xs pre:List α) (k:Int),(∀ x∈xs,P x)→0≤k→k+(sumC c xs:Nat)≤10000000000→pre.length+xs.length≤1000000000→∃ k' ys,(∀ n,Q n→q4l (L n) (k,(pre.length:Int),pre++xs)=some (k',pre++ys))∧k≤k'∧k'≤k+(sumC c xs:Nat)∧RL R k ys k'∧ys.length=xs.length
 | [],pre,k,_,h0,h1,_=>⟨k,[],fun n _=>by rw[List.append_nil];exact q3F (hout _ _ _ _ (by omega)),Int.le_refl _,by omega,rfl,rfl⟩
 | x::xs,pre,k,hP,h0,h1,h2=>by
  have e:sumC c (x::xs)=c x+sumC c xs:=rfl
  rw[e] at h1
  obtain⟨k',x',h3,h4,h5,h6⟩:=hin k pre.length (pre++x::xs) x (hP x (by simp)) (by simp) h0 (by omega) (by omega)
  obtain⟨k2,ys,h7,h8,h10,h11,h12⟩:=k1N hin hout xs (pre++[x']) k' (fun y hy=>hP y (by simp[hy])) (by omega) (by omega) (by simp only[List.length_append,lnC,List.length_nil] at *;omega)
  refine⟨k2,x'::ys,fun n hn=>?_,by omega,by rw[e];omega,⟨k',h6,h11⟩,by rw[lnC,lnC,h12]⟩
  rw[q3S (h3 n hn)]
  rw[List.set_append_right _ _ (Nat.le_refl _),Nat.sub_self,List.set_cons_zero]
  have h7:=h7 n hn
  rw[List.length_append,List.length_singleton,List.append_assoc,List.append_assoc] at h7
  exact h7
theorem k5m {α ι:Type}{Q:ι→Prop}{R:Int→α→Int→Prop}{c:α→Nat}{P:α→Prop}{L:ι→Int×Int×List α→Option ((Int×Int×List α) ⊕ (Int×List α))}
  (hin:∀ (k:Int) (i:Nat) (a:List α) (x:α),P x→a[i]?=some x→0≤k→k+(c x:Nat)≤10000000000→i≤1000000000→∃ k' x',(∀ n,Q n→L n (k,(i:Int),a)=some (.inl (k',((i+1:Nat):Int),a.set i x')))∧k≤k'∧k'≤k+(c x:Nat)∧R k x' k')
  (hout:∀ (n:ι) (k i:Int) (a:List α),¬ i<(a.length:Int)→L n (k,i,a)=some (.inr (k,a))) (xs:List α) {k:Int} (hP:∀ x∈xs,P x) (h0:0≤k) (h1:k+(sumC c xs:Nat)≤10000000000) (h2:xs.length≤1000000000) :
  ∃ k' ys,(∀ n,Q n→((q4l (L n) (k,0,xs)).bind fun (s1,s2)=>some (s1,s2))=some (k',ys))∧k≤k'∧k'≤k+(sumC c xs:Nat)∧RL R k ys k'∧ys.length=xs.length:=by
 obtain⟨k',ys,h3,h4⟩:=k1N hin hout xs [] k hP h0 h1 (by simp only[List.length_nil];omega)
 refine⟨k',ys,fun n hn=>?_,h4⟩
 have h3:=h3 n hn
 simp only[List.length_nil,List.nil_append] at h3
 rw[show ((0:Nat):Int)=0 from rfl] at h3
 rw[h3];rfl
theorem k1O {α:Type}{R:Int→α→Int→Prop}{c:α→Nat}{P:α→Prop}{L:Int×Int×List α→Option ((Int×Int×List α) ⊕ (Int×List α))}
  (hin:∀ (k:Int) (i:Nat) (a:List α) (x:α),P x→a[i]?=some x→0≤k→k+(c x:Nat)≤10000000000→i≤1000000000→∃ k' x',L (k,(i:Int),a)=some (.inl (k',((i+1:Nat):Int),a.set i x'))∧k≤k'∧k'≤k+(c x:Nat)∧R k x' k')
  (hout:∀ (k i:Int) (a:List α),¬ i<(a.length:Int)→L (k,i,a)=some (.inr (k,a))) (xs:List α) {k:Int} (hP:∀ x∈xs,P x) (h0:0≤k) (h1:k+(sumC c xs:Nat)≤10000000000) (h2:xs.length≤1000000000) :
  ∃ k' ys,((q4l L (k,0,xs)).bind fun (s1,s2)=>some (s1,s2))=some (k',ys)∧k≤k'∧k'≤k+(sumC c xs:Nat)∧RL R k ys k'∧ys.length=xs.length:=by
 obtain⟨k',ys,e1,e2⟩:=k5m (ι:=Unit) (Q:=fun _=>True) (L:=fun _=>L) (fun k i a x h1 h2 h3 h4 h5=>by
  obtain⟨k',x',e1,e2⟩:=hin k i a x h1 h2 h3 h4 h5
  exact⟨k',x',fun _ _=>e1,e2⟩) (fun _=>hout) xs hP h0 h1 h2
 exact⟨k',ys,e1 () trivial,e2⟩
theorem j8R {α:Type}[Sz α]{L:Int×Int×List α→Option ((Int×Int×List α) ⊕ (Int×List α))}
  (hin:∀ (k:Int) (i:Nat) (a:List α) (x:α),a[i]?=some x→0≤k→k+16*(1+Sz.szd x:Nat)≤10000000000→i≤1000000000→1+Sz.szd x≤1048576→∃ k' x',L (k,(i:Int),a)=some (.inl (k',((i+1:Nat):Int),a.set i x'))∧k≤k'∧k'≤k+16*(1+Sz.szd x:Nat))
  (hout:∀ (k i:Int) (a:List α),¬ i<(a.length:Int)→L (k,i,a)=some (.inr (k,a))) (xs:List α) {k:Int} (h0:0≤k) (h1:k+16*(szL xs:Nat)≤10000000000) (h2:szL xs≤1048576) :
  ∃ k' ys,((q4l L (k,0,xs)).bind fun (s1,s2)=>some (s1,s2))=some (k',ys)∧k≤k'∧k'≤k+16*(szL xs:Nat):=by
 have hs:=j7q xs
 have hl:=q5r xs
 have hP:∀ x∈xs,1+Sz.szd x≤1048576:=by
  clear h1 hs hl
  induction xs with
  | nil=>intro x hx;cases hx
  | cons y ys ih=>
   simp only[szL] at h2
   intro x hx
   rcases List.mem_cons.1 hx with rfl|hx
   ·omega
   ·exact ih (by omega) x hx
 obtain⟨k',ys,h3,h4,h5,_⟩:=k1O (R:=fun _ _ _=>True) (c:=fun x=>16*(1+Sz.szd x)) (P:=fun x=>1+Sz.szd x≤1048576) (L:=L) (fun k i a x hp hx h0 h1 hi=>by
  obtain⟨k',x',e1,e2,e3⟩:=hin k i a x hx h0 (by omega) hi hp
  exact⟨k',x',e1,e2,by omega,trivial⟩) hout xs hP h0 (by omega) (by omega)
 exact⟨k',ys,h3,h4,by omega⟩
def RS (k:Int)(t:ByteArray)(k' : Int):Prop:=q4h k=some t∧k'=k+1
theorem x0n (k:Int)(i:Nat)(a:List ByteArray)(x:ByteArray)(hx:a[i]?=some x)(h0:0≤k)(h1:k+1≤10000000000)(hi:i≤1000000000):∃ x',q8w (k,(i:Int),a)=some (.inl (k+1,((i+1:Nat):Int),a.set i x'))∧RS k x' (k+1):=by
 obtain⟨t,ht⟩:=z7y h0 (by omega)
 have hl:=(List.getElem?_eq_some_iff.1 hx).1
 refine⟨t,?_,ht,rfl⟩
 unfold q8w
 dsimp only
 rw[ifP (by omega),ht,bsS,q3C (by omega),tnC,hx,bsS,q3C (by constructor<;>omega),q3C (by constructor<;>omega)]
 rfl
theorem k9F (k i:Int)(a:List ByteArray)(h:¬ i<(a.length:Int)):q8w (k,i,a)=some (.inr (k,a)):=by unfold q8w;dsimp only;exact ifN h
theorem k1P {α:Type}:∀ xs:List α,sumC (fun _=>1) xs=xs.length
 | []=>rfl
 | x::xs=>by simp only[sumC,k1P xs,lnC];omega
theorem x0o (xs:List ByteArray){k:Int}(h0:0≤k)(h1:k+xs.length≤10000000000)(h2:xs.length≤1000000000):∃ k' ys,z0K xs k=some (k',ys)∧k≤k'∧k'≤k+xs.length∧RL RS k ys k'∧ys.length=xs.length:=by
 have hs:=k1P xs
 obtain⟨k',ys,e1,e2,e3,e4⟩:=k1O (R:=RS) (c:=fun _=>1) (P:=fun _=>True) (L:=q8w) (fun k i a x _ hx h0 h1 hi=>by
  obtain⟨x',e1,e2⟩:=x0n k i a x hx h0 (by omega) hi
  exact⟨k+1,x',e1,by omega,by omega,e2⟩) k9F xs (fun _ _=>trivial) h0 (by rw[hs];exact h1) h2
 rw[hs] at e3
 exact⟨k',ys,e1,e2,e3,e4⟩
theorem x0p (xs:List ByteArray){k:Int}(h0:0≤k)(h1:k+16*(szL xs:Nat)≤10000000000)(h2:szL xs≤1048576):∃ k' ys,z0K xs k=some (k',ys)∧k≤k'∧k'≤k+16*(szL xs:Nat):=by
 have hl:=q5r xs
 obtain⟨k',ys,e1,e2,e3,_⟩:=x0o xs h0 (by omega) (by omega)
 exact⟨k',ys,e1,e2,by omega⟩
theorem k9G (xs:List At_){k:Int}(h0:0≤k)(h1:k+16*(szL xs:Nat)≤10000000000)(h2:szL xs≤1048576):∃ k' ys,z0i xs k=some (k',ys)∧k≤k'∧k'≤k+16*(szL xs:Nat):=
 j8R (L:=q9I) (fun k i a x hx h0 h1 hi _=>by
  obtain⟨t,ht⟩:=z7y h0 (by omega)
  have hl:=(List.getElem?_eq_some_iff.1 hx).1
  have hI:∀ m:Int,k≤m→m≤k+16→I64 m:=fun m _ _=>by constructor<;>omega
  have hI2:I64 ((i:Int)+1):=by constructor<;>omega
  have hi0:(0:Int)≤(i:Int):=by omega
  refine⟨k+1+1+1+1,⟨t,k+1,k+1+1,decide (((k+1+1+1).tmod 3)=0)⟩,?_,by omega,by omega⟩
  unfold q9I
  dsimp only
  rw[ifP (by omega),ht,bsS,q3C hi0,tnC,hx,bsS,q3C (hI _ (by omega) (by omega)),q3C hi0,List.getElem?_set_self hl,bsS,q3C (hI _ (by omega) (by omega)),q3C hi0,List.getElem?_set_self (by rw[List.length_set];exact hl),bsS,q3C (hI _ (by omega) (by omega)),q3C hi0,List.getElem?_set_self (by rw[List.length_set,List.length_set];exact hl),bsS,q3C (hI _ (by omega) (by omega)),q3C hI2,List.set_set,List.set_set,List.set_set]
  rfl) (fun k i a h=>by unfold q9I;dsimp only;exact ifN h) xs h0 h1 h2
theorem x0q (xs:List Symbol){k:Int}(h0:0≤k)(h1:k+16*(szL xs:Nat)≤10000000000)(h2:szL xs≤1048576):∃ k' ys,z2V xs k=some (k',ys)∧k≤k'∧k'≤k+16*(szL xs:Nat):=
 j8R (L:=z1S) (fun k i a x hx h0 h1 hi h3=>by
  obtain⟨t,ht⟩:=z7y h0 (by omega)
  have hl:=(List.getElem?_eq_some_iff.1 hx).1
  have hI:∀ m:Int,k≤m→m≤k+16→I64 m:=fun m _ _=>by constructor<;>omega
  have hI2:I64 ((i:Int)+1):=by constructor<;>omega
  have hi0:(0:Int)≤(i:Int):=by omega
  rw[j1s] at h1 h3 ⊢
  obtain⟨k',z,e1,e2,e3⟩:=k9G x.Attributes (k:=k+1) (by omega) (by omega) (by omega)
  refine⟨k',⟨t,z⟩,?_,by omega,by omega⟩
  unfold z1S
  dsimp only
  rw[ifP (by omega),ht,bsS,q3C hi0,tnC,hx,bsS,q3C (hI _ (by omega) (by omega)),e1,bsS]
  dsimp only
  rw[q3C hI2]
  rfl) (fun k i a h=>by unfold z1S;dsimp only;exact ifN h) xs h0 h1 h2
theorem k7B:∀ (N:Nat) (xs:List Expr),fuEs xs≤N→∀ {k:Int},0≤k→k+16*(szL xs:Nat)≤10000000000→szL xs≤1048576→∃ k' ys,(∀ n,N≤n→z3l (n+1) xs k=some (k',ys))∧k≤k'∧k'≤k+16*(szL xs:Nat):=by
 intro N
 induction N with
 | zero=>
  intro xs hn k h0 h1 h2
  cases xs with
  | nil=>exact⟨k,[],fun n _=>by show z3k _ _ _=_;unfold z3k;rw[q3F (r:=(k,[])) (by unfold z1T;dsimp only;exact ifN (by simp))];rfl,by omega,by omega⟩
  | cons x xs=>have:=z5A (x:=x) (l:=x::xs) (by simp);rw[z3I] at this;omega
 | succ N ih=>
  intro xs hn k h0 h1 h2
  have hq:∀ x∈xs,1+Sz.szd x≤1048576:=by
   clear h1 hn
   induction xs with
   | nil=>intro x hx;cases hx
   | cons y ys ih=>
    simp only[szL] at h2
    intro x hx
    rcases List.mem_cons.1 hx with rfl|hx
    ·omega
    ·exact ih (by omega) x hx
  have hf:∀ x∈xs,fuEs x.Args≤N:=fun x hx=>by have:=z5A hx;rw[z3I] at this;omega
  obtain⟨k',ys,e1,e2,e3,_⟩:=k5m (ι:=Nat) (Q:=fun n=>N+1≤n) (R:=fun _ _ _=>True) (c:=fun x:Expr=>16*(1+Sz.szd x)) (P:=fun x=>fuEs x.Args≤N∧1+Sz.szd x≤1048576) (L:=fun n=>z1T (z3l n)) (fun k i a x hp hx h0 h1 hi=>by
    have hl:=(List.getElem?_eq_some_iff.1 hx).1
    have hI:∀ m:Int,k≤m→m≤k+16→I64 m:=fun m _ _=>by constructor<;>omega
    have hI2:I64 ((i:Int)+1):=by constructor<;>omega
    have hi0:(0:Int)≤(i:Int):=by omega
    obtain⟨hp,hq⟩:=hp
    rw[q8Z] at h1 hq ⊢
    obtain⟨t1,ht1⟩:=z7y (k:=k+1+1+1+1) (by omega) (by omega)
    obtain⟨t2,ht2⟩:=z7y (k:=k+1+1+1+1+1) (by omega) (by omega)
    obtain⟨k1,z,e1,e2,e3⟩:=ih x.Args hp (k:=k+1+1+1+1+1+1) (by omega) (by omega) (by omega)
    refine⟨k1,⟨k,k+1,k+1+1,k+1+1+1,t1,t2,z⟩,fun n hn=>?_,by omega,by omega,trivial⟩
    obtain⟨j,rfl⟩:∃ j,n=j+1:=⟨n-1,by omega⟩
    have e1:=e1 j (by omega)
    unfold z1T
    dsimp only
    rw[ifP (by omega),q3C hi0,tnC,hx,bsS,q3C (hI _ (by omega) (by omega)),q3C (hI _ (by omega) (by omega)),q3C (hI _ (by omega) (by omega)),q3C (hI _ (by omega) (by omega)),ht1,bsS,q3C (hI _ (by omega) (by omega)),ht2,bsS,q3C (hI _ (by omega) (by omega)),e1,bsS]
    dsimp only
    rw[q3C hI2]
    rfl) (fun n k i a h=>by unfold z1T;dsimp only;exact ifN h) xs (k:=k) (fun x hx=>⟨hf x hx,hq x hx⟩) h0 (by rw[j7q];omega) (by have:=q5r xs;omega)
  rw[j7q] at e3
  exact⟨k',ys,fun n hn=>e1 n hn,e2,by omega⟩
theorem k0D (xs:List Expr){k:Int}(h0:0≤k)(h1:k+16*(szL xs:Nat)≤10000000000)(h2:szL xs≤1048576):∃ k' ys,z3m xs k=some (k',ys)∧k≤k'∧k'≤k+16*(szL xs:Nat):=by
 obtain⟨k',ys,e1,e2,e3⟩:=k7B (fuEs xs) xs (Nat.le_refl _) h0 h1 h2
 refine⟨k',ys,q9u (fuEs xs+1) fun n hn=>?_,e2,e3⟩
 obtain⟨j,rfl⟩:∃ j,n=j+1:=⟨n-1,by omega⟩
 exact e1 j (by omega)
theorem x0r (xs:List Eqn){k:Int}(h0:0≤k)(h1:k+16*(szL xs:Nat)≤10000000000)(h2:szL xs≤1048576):∃ k' ys,z0O xs k=some (k',ys)∧k≤k'∧k'≤k+16*(szL xs:Nat):=
 j8R (L:=z0j) (fun k i a x hx h0 h1 hi h3=>by
  have hl:=(List.getElem?_eq_some_iff.1 hx).1
  have hI:∀ m:Int,k≤m→m≤k+16→I64 m:=fun m _ _=>by constructor<;>omega
  have hI2:I64 ((i:Int)+1):=by constructor<;>omega
  have hi0:(0:Int)≤(i:Int):=by omega
  rw[z5y] at h1 h3 ⊢
  obtain⟨t1,ht1⟩:=z7y (k:=k+1) (by omega) (by omega)
  obtain⟨t2,ht2⟩:=z7y (k:=k+1+1+1+1+1+1) (by omega) (by omega)
  obtain⟨t3,ht3⟩:=z7y (k:=k+1+1+1+1+1+1+1) (by omega) (by omega)
  obtain⟨k',z,e1,e2,e3⟩:=k0D x.Expr.Args (k:=k+1+1+1+1+1+1+1+1) (by omega) (by omega) (by omega)
  refine⟨k',⟨⟨k,t1⟩,⟨k+1+1,k+1+1+1,k+1+1+1+1,k+1+1+1+1+1,t2,t3,z⟩⟩,?_,by omega,by omega⟩
  unfold z0j
  dsimp only
  rw[ifP (by omega),q3C hi0,tnC,hx,bsS,q3C (hI _ (by omega) (by omega)),ht1,bsS,q3C (hI _ (by omega) (by omega)),q3C (hI _ (by omega) (by omega)),q3C (hI _ (by omega) (by omega)),q3C (hI _ (by omega) (by omega)),q3C (hI _ (by omega) (by omega)),ht2,bsS,q3C (hI _ (by omega) (by omega)),ht3,bsS,q3C (hI _ (by omega) (by omega)),e1,bsS]
  dsimp only
  rw[q3C hI2]
  rfl) (fun k i a h=>by unfold z0j;dsimp only;exact ifN h) xs h0 h1 h2
theorem x0s (xs:List Cn){k:Int}(h0:0≤k)(h1:k+16*(szL xs:Nat)≤10000000000)(h2:szL xs≤1048576):∃ k' ys,q8o xs k=some (k',ys)∧k≤k'∧k'≤k+16*(szL xs:Nat):=
 j8R (L:=q8c) (fun k i a x hx h0 h1 hi h3=>by
  have hl:=(List.getElem?_eq_some_iff.1 hx).1
  have hI:∀ m:Int,k≤m→m≤k+16→I64 m:=fun m _ _=>by constructor<;>omega
  have hI2:I64 ((i:Int)+1):=by constructor<;>omega
  have hi0:(0:Int)≤(i:Int):=by omega
  rw[z0Q] at h1 h3 ⊢
  obtain⟨t0,ht0⟩:=z7y (k:=k) (by omega) (by omega)
  obtain⟨t1,ht1⟩:=z7y (k:=k+1) (by omega) (by omega)
  obtain⟨t2,ht2⟩:=z7y (k:=k+1+1+1+1+1+1) (by omega) (by omega)
  obtain⟨t3,ht3⟩:=z7y (k:=k+1+1+1+1+1+1+1) (by omega) (by omega)
  obtain⟨k',z,e1,e2,e3⟩:=k0D x.Target.Args (k:=k+1+1+1+1+1+1+1+1) (by omega) (by omega) (by omega)
  obtain⟨t4,ht4⟩:=z7y (k:=k'+1+1+1+1) (by omega) (by omega)
  obtain⟨t5,ht5⟩:=z7y (k:=k'+1+1+1+1+1) (by omega) (by omega)
  obtain⟨k2,z2,f1,f2,f3⟩:=k0D x.Value.Args (k:=k'+1+1+1+1+1+1) (by omega) (by omega) (by omega)
  have hI' : ∀ m:Int,k'≤m→m≤k'+16→I64 m:=fun m _ _=>by constructor<;>omega
  refine⟨k2,⟨t0,t1,⟨k+1+1,k+1+1+1,k+1+1+1+1,k+1+1+1+1+1,t2,t3,z⟩,⟨k',k'+1,k'+1+1,k'+1+1+1,t4,t5,z2⟩⟩,?_,by omega,by omega⟩
  unfold q8c
  dsimp only
  rw[ifP (by omega),ht0,bsS,q3C hi0,tnC,hx,bsS,q3C (hI _ (by omega) (by omega)),ht1,bsS,q3C (hI _ (by omega) (by omega)),q3C (hI _ (by omega) (by omega)),q3C (hI _ (by omega) (by omega)),q3C (hI _ (by omega) (by omega)),q3C (hI _ (by omega) (by omega)),ht2,bsS,q3C (hI _ (by omega) (by omega)),ht3,bsS,q3C (hI _ (by omega) (by omega)),e1,bsS]
  dsimp only
  rw[q3C (hI' _ (by omega) (by omega)),q3C (hI' _ (by omega) (by omega)),q3C (hI' _ (by omega) (by omega)),q3C (hI' _ (by omega) (by omega)),ht4,bsS,q3C (hI' _ (by omega) (by omega)),ht5,bsS,q3C (hI' _ (by omega) (by omega)),f1,bsS]
  dsimp only
  rw[q3C hI2]
  rfl) (fun k i a h=>by unfold q8c;dsimp only;exact ifN h) xs h0 h1 h2
theorem k9H (xs:List Rule){k:Int}(h0:0≤k)(h1:k+16*(szL xs:Nat)≤10000000000)(h2:szL xs≤1048576):∃ k' ys,z5u xs k=some (k',ys)∧k≤k'∧k'≤k+16*(szL xs:Nat):=
 j8R (L:=z3O) (fun k i a x hx h0 h1 hi h3=>by
  have hl:=(List.getElem?_eq_some_iff.1 hx).1
  have hI2:I64 ((i:Int)+1):=by constructor<;>omega
  have hi0:(0:Int)≤(i:Int):=by omega
  rw[z6Z] at h1 h3 ⊢
  obtain⟨t0,ht0⟩:=z7y (k:=k) (by omega) (by omega)
  obtain⟨t1,ht1⟩:=z7y (k:=k+1) (by omega) (by omega)
  obtain⟨k1,z1,e1,e2,e3⟩:=x0p x.Right (k:=k+1+1) (by omega) (by omega) (by omega)
  obtain⟨k2,z2,f1,f2,f3⟩:=x0r x.Equations (k:=k1+1) (by omega) (by omega) (by omega)
  obtain⟨k3,z3,g1,g2,g3⟩:=x0s x.Contributions (k:=k2) (by omega) (by omega) (by omega)
  refine⟨k3,⟨t0,t1,z1,decide ((k1.tmod 3)=0),z2,z3⟩,?_,by omega,by omega⟩
  unfold z3O
  dsimp only
  rw[ifP (by omega),ht0,bsS,q3C hi0,tnC,hx,bsS,q3C (by constructor<;>omega),ht1,bsS,q3C (by constructor<;>omega),e1,bsS]
  dsimp only
  rw[q3C (by constructor<;>omega),f1,bsS]
  dsimp only
  rw[g1,bsS]
  dsimp only
  rw[q3C hI2]
  rfl) (fun k i a h=>by unfold z3O;dsimp only;exact ifN h) xs h0 h1 h2
theorem k9I {g:Grammar}(h:Sz.szd g≤1048576):∃ k' z1 z2,z0L g 1=some (k',z1,z2)∧0≤k':=by
 rw[z2D] at h
 obtain⟨k1,z1,e1,e2,e3⟩:=x0q g.Symbols (k:=1) (by omega) (by omega) (by omega)
 obtain⟨k2,z2,f1,f2,f3⟩:=k9H g.Rules (k:=k1) (by omega) (by omega) (by omega)
 refine⟨k2,z1,z2,?_,by omega⟩
 unfold z0L
 rw[e1,bsS]
 dsimp only
 rw[f1];rfl
end Go.Proofs.YtcegfmageiicaaaGreat
namespace Go.Proofs.YtcegfmageiicaaaGreat
open Go Go.E
def Ok {ρ:Type}(Q:ρ→Prop)(o:Option ρ):Prop:=∃ r,o=some r∧Q r
section
variable {ρ τ σ α:Type}{Q:ρ→Prop}{R:τ→Prop}
theorem Ok.bind {o:Option ρ}{f:ρ→Option τ}(h:Ok Q o)(hf:∀ r,Q r→Ok R (f r)):Ok R (o.bind f):=by
 obtain⟨r,rfl,hr⟩:=h;exact hf r hr
theorem Ok.grd {c:Prop}[Decidable c]{k:Option τ}(hc:c)(h:Ok R k):Ok R (Go.E.grd c k):=by rw[q3C hc];exact h
end
end Go.Proofs.YtcegfmageiicaaaGreat
namespace Go.Proofs.YtcegfmageiicaaaGreat
open Go Go.E
theorem j1E {r:Rl_}(h:Valid r)(i k:Int):Valid (addP r i k):=by
 unfold addP
 by_cases hc:Valid r∧inN r i∧inN r k
 ·rw[ifP hc]
  obtain⟨_,hi,hk⟩:=hc
  unfold j4n
  refine⟨h.1,h.2.1,by dsimp only;rw[List.length_set];exact h.2.2.1,fun x hx=>?_⟩
  rcases List.mem_or_eq_of_mem_set hx with hx|hx
  ·exact h.2.2.2 x hx
  ·rw[hx]
   have h1:=h.1
   have hk1:=hk.1
   have hk2:=hk.2
   refine k8g ?_ ?_
   ·unfold z7C
    rw[List.getD_eq_getElem?_getD]
    cases hq:r.Rows[i.toNat]? with
    | none=>show (0:Int)≤0∧(0:Int)≤((2 ^ r.N.toNat:Nat):Int)-1;have:=Nat.two_pow_pos r.N.toNat;omega
    | some y=>exact h.2.2.2 y (List.mem_of_getElem? hq)
   ·have h2:2 ^ k.toNat<2 ^ r.N.toNat:=Nat.pow_lt_pow_right (by decide) (by omega)
    constructor
    ·exact Int.natCast_nonneg _
    ·dsimp only;omega
 ·rw[ifN hc];exact h
theorem k5n {r:Rl_}(h:Valid r)(i k:Int)(a c:Nat):Rl (addP r i k).Rows a c↔Rl r.Rows a c∨(inN r i∧inN r k∧(a:Int)=i∧(c:Int)=k):=by
 unfold addP
 by_cases hc:Valid r∧inN r i∧inN r k
 ·rw[ifP hc]
  obtain⟨_,hi,hk⟩:=hc
  have hi1:=hi.1
  have hi2:=hi.2
  have hk1:=hk.1
  have hl:=h.2.2.1
  unfold j4n Rl
  dsimp only
  rw[List.getD_eq_getElem?_getD,List.getElem?_set]
  by_cases e:i.toNat=a
  ·rw[ifP e,ifP (by omega),Option.getD_some,j0M,Nat.testBit_or,tnC,Nat.testBit_two_pow]
   unfold z7C
   rw[e]
   simp only[Bool.or_eq_true,decide_eq_true_eq]
   constructor
   ·rintro (h1|h1)
    ·exact .inl h1
    ·exact .inr ⟨hi,hk,by omega,by omega⟩
   ·rintro (h1|⟨_,_,_,h1⟩)
    ·exact .inl h1
    ·exact .inr (by omega)
  ·rw[ifN e,← List.getD_eq_getElem?_getD]
   constructor
   ·exact fun h1=>.inl h1
   ·rintro (h1|⟨_,_,h1,_⟩)
    ·exact h1
    ·omega
 ·rw[ifN hc]
  constructor
  ·exact fun h1=>.inl h1
  ·rintro (h1|⟨h1,h2,_⟩)
   ·exact h1
   ·exact absurd ⟨h,h1,h2⟩ hc
def Sub (a b:Rl_):Prop:=Valid a∧Valid b∧a.N=b.N∧∀ i j:Nat,Rl a.Rows i j→Rl b.Rows i j
theorem Sub.refl {a:Rl_}(h:Valid a):Sub a a:=⟨h,h,rfl,fun _ _ h=>h⟩
theorem Sub.trans {a b c:Rl_}(h:Sub a b)(k:Sub b c):Sub a c:=⟨h.1,k.2.1,h.2.2.1.trans k.2.2.1,fun i j x=>k.2.2.2 i j (h.2.2.2 i j x)⟩
theorem Sub.add {a b:Rl_}(h:Sub a b)(i k:Int):Sub a (addP b i k):=
 h.trans ⟨h.2.1,j1E h.2.1 i k,(z8Q _ _ _).2.symm,fun x y hx=>(k5n h.2.1 i k x y).2 (.inl hx)⟩
theorem Sub.close {a:Rl_}(h:Valid a):Sub a (q6l a):=by
 refine⟨h,j8C h,(j5N _).2.symm,fun i j hx=>?_⟩
 unfold q6l
 rw[ifP h]
 exact k4i (z8R h).1 _ i j hx
theorem j1F (own:Rl_)(a:Nat)(x:Int):∀ (ys:List Int) (i:Nat) (o:Rl_),Valid o→Sub o (q9J own a x i ys o)
 | [],i,o,h=>Sub.refl h
 | y::ys,i,o,h=>by
  rw[q9J]
  by_cases hp:hasP own (a:Int) (i:Int)
  ·rw[ifP hp];exact ((Sub.refl h).add x y).trans (j1F own a x ys (i+1) _ (j1E h x y))
  ·rw[ifN hp];exact j1F own a x ys (i+1) _ h
theorem j4L (own:Rl_)(at' : List Int):∀ (xs:List Int) (a:Nat) (o:Rl_),Valid o→Sub o (z1e own at' a xs o)
 | [],a,o,h=>Sub.refl h
 | x::xs,a,o,h=>by
  rw[z1e]
  have h1:=j1F own a x at' 0 o h
  exact h1.trans (j4L own at' xs (a+1) _ h1.2.1)
theorem k0E {n:Int}(h0:0≤n)(h1:n≤16):Valid ⟨n,List.replicate n.toNat 0⟩:=by
 refine⟨h0,h1,by simp;omega,fun x hx=>?_⟩
 have:=(List.mem_replicate.1 hx).2
 have h2:=Nat.two_pow_pos n.toNat
 dsimp only
 omega
end Go.Proofs.YtcegfmageiicaaaGreat
namespace Go.Proofs.YtcegfmageiicaaaGreat
open Go Go.E
theorem k5o (g:Grammar)(r:Rule)(pos:Int)(own:Rl_){o:Rl_}(h:Valid o):Sub o (z7v g r o pos own):=j4L own _ _ 0 o h
noncomputable def indL (g:Grammar) (r:Rule) (all:ByteArray→Rl_):Nat→Nat→Rl_→Rl_
 | 0,_,o=>o
 | m+1,pos,o=>indL g r all m (pos+1) (z7v g r o (pos:Int) (all (q6G r (pos:Int))))
noncomputable def indR (g:Grammar) (r:Rule) (all:ByteArray→Rl_):Rl_:=q6l (indL g r all (r.Right.length+1) 0 (locR g r))
theorem k1Q (g:Grammar)(r:Rule)(all:ByteArray→Rl_):∀ (m pos:Nat) (o:Rl_),Valid o→Sub o (indL g r all m pos o)
 | 0,pos,o,h=>Sub.refl h
 | m+1,pos,o,h=>by
  rw[indL]
  have h1:=k5o g r (pos:Int) (all (q6G r (pos:Int))) h
  exact h1.trans (k1Q g r all m (pos+1) _ h1.2.1)
end Go.Proofs.YtcegfmageiicaaaGreat
namespace Go.Proofs.YtcegfmageiicaaaGreat
open Go Go.E
theorem j7r {α β:Type}{f:α→List β}{C:Nat}(h:∀ x,(f x).length≤C):∀ l:List α,(l.flatMap f).length≤l.length*C
 | []=>by simp
 | x::l=>by
  have h1:=j7r h l
  have h2:=h x
  simp only[List.flatMap_cons,List.length_append,lnC,Nat.add_mul];omega
theorem x0t (l:List Oc)(o:Oc):q5x l o=some (ixF l o):=by
 have h:q3P l o=some (ixF l o):=by
  unfold q3P
  refine j4m fun k x=>⟨fun e=>?_,fun e=>?_⟩
  ·unfold q3J;rw[ifP e.symm]
  ·unfold q3J;rw[ifN (fun h=>e h.symm)]
 unfold q5x
 rw[h];rfl
theorem x0u {l:List Oc}{u:Oc}{a:Nat}(h:(a:Int)=ixF l u):l[a]?=some u:=by
 unfold ixF at h
 by_cases hm:u∈l
 ·rw[ifP hm] at h
  obtain rfl:a=l.idxOf u:=by omega
  have hl:=List.idxOf_lt_length_of_mem hm
  rw[List.getElem?_eq_getElem hl,List.getElem_idxOf]
 ·rw[ifN hm] at h;omega
theorem x0v {l:List Oc}{u:Oc}{a:Nat}(h:(a:Int)=ixF l u):a<l.length:=(List.getElem?_eq_some_iff.1 (x0u h)).1
theorem k8j (l:List Oc)(k:Nat)(hk:k<l.length):∀ (us:List Oc) (i:Nat) (o:Rl_),Valid o→o.N=(l.length:Int) →
  ∃ o',eachL (q6x l k) i us (o.Rows,o.N)=some (o'.Rows,o'.N)∧Valid o'∧o'.N=o.N∧∀ a c:Nat,Rl o'.Rows a c↔Rl o.Rows a c∨(c=k∧∃ u∈us,(a:Int)=ixF l u)
 | [],i,o,hv,hN=>⟨o,rfl,hv,rfl,fun a c=>by simp⟩
 | u::us,i,o,hv,hN=>by
  have hlen:o.Rows.length≤1048576:=by have:=hv.2.1;have:=hv.2.2.1;omega
  have e:q6x l k i u (o.Rows,o.N)=some ((addP o (ixF l u) (k:Int)).Rows,(addP o (ixF l u) (k:Int)).N):=by
   unfold q6x
   dsimp only
   rw[x0t,bsS,j7d,k1p hlen,bsS]
  obtain⟨o',h1,h2,h3,h4⟩:=k8j l k hk us (i+1) (addP o (ixF l u) (k:Int)) (j1E hv _ _) ((z8Q _ _ _).2.trans hN)
  refine⟨o',by rw[eachL,e,bsS];exact h1,h2,h3.trans (z8Q _ _ _).2,fun a c=>?_⟩
  rw[h4,k5n hv]
  have hin:(a:Int)=ixF l u→inN o (ixF l u):=fun h=>⟨by omega,by have:=x0v h;omega⟩
  constructor
  ·rintro ((h|⟨_,_,h1,h2⟩)|⟨h1,u',hu,h2⟩)
   ·exact .inl h
   ·exact .inr ⟨by omega,u,by simp,h1⟩
   ·exact .inr ⟨h1,u',by simp[hu],h2⟩
  ·rintro (h|⟨h1,u',hu,h2⟩)
   ·exact .inl (.inl h)
   ·rcases List.mem_cons.1 hu with rfl|hu
    ·exact .inl (.inr ⟨hin h2,⟨by omega,by omega⟩,h2,by omega⟩)
    ·exact .inr ⟨h1,u',hu,h2⟩
theorem k5p {r:Rule}(hr:Sz.szd r≤1048576)(l:List Oc):∀ (m k:Nat) (o:Rl_),k+m=l.length→Valid o→o.N=(l.length:Int) →
  ∃ o',eachL (q6y r l) k (l.drop k) (o.Rows,o.N)=some (o'.Rows,o'.N)∧Valid o'∧o'.N=o.N∧∀ a c:Nat,Rl o'.Rows a c↔Rl o.Rows a c∨(k≤c∧∃ x,l[c]?=some x∧∃ u∈attrs (eqAt r x).1,(a:Int)=ixF l u)
 | 0,k,o,hk,hv,hN=>by
  refine⟨o,by rw[List.drop_eq_nil_of_le (by omega)];rfl,hv,rfl,fun a c=>⟨.inl,?_⟩⟩
  rintro (h|⟨h1,x,h2,_⟩)
  ·exact h
  ·have:=(List.getElem?_eq_some_iff.1 h2).1;omega
 | m+1,k,o,hk,hv,hN=>by
  have hk' : k<l.length:=by omega
  have hsz:=j7f hr l[k]
  have hf:=k0j hr l[k]
  obtain⟨o1,h1,h2,h3,h4⟩:=k8j l k hk' (attrs (eqAt r l[k]).1) 0 o hv hN
  obtain⟨o',k1,k2,k3,k4⟩:=k5p hr l m (k+1) o1 (by omega) h2 (h3.trans hN)
  have e1:q6y r l k l[k] (o.Rows,o.N)=some (o1.Rows,o1.N):=by
   unfold q6y
   dsimp only
   generalize eqAt r l[k]=z at hsz hf h1
   obtain⟨E,B⟩:=z
   rw[hf.2,bsS]
   dsimp only
   rw[j2P hsz,bsS,h1];rfl
  refine⟨o',by rw[List.drop_eq_getElem_cons hk',eachL,e1,bsS];exact k1,k2,k3.trans h3,fun a c=>?_⟩
  rw[k4,h4]
  constructor
  ·rintro ((h|⟨rfl,u,hu,h⟩)|⟨hc,h⟩)
   ·exact .inl h
   ·exact .inr ⟨Nat.le_refl _,l[c],List.getElem?_eq_getElem hk',u,hu,h⟩
   ·exact .inr ⟨by omega,h⟩
  ·rintro (h|⟨hc,x,hx,u,hu,h⟩)
   ·exact .inl (.inl h)
   ·by_cases hck:c=k
    ·subst hck
     rw[List.getElem?_eq_getElem hk'] at hx
     cases hx
     exact .inl (.inr ⟨rfl,u,hu,h⟩)
    ·exact .inr ⟨by omega,x,hx,u,hu,h⟩
theorem k5q (n i j:Nat):¬ Rl (List.replicate n 0) i j:=by
 unfold Rl
 rw[List.getD_eq_getElem?_getD,List.getElem?_replicate]
 split<;>simp
theorem k5r {g:Grammar}{r:Rule}(hg:Sz.szd g≤1048576)(hr:Sz.szd r≤1048576)(hl:(occL g r).length≤16):Valid (locR g r)∧(locR g r).N=((occL g r).length:Int) ∧
  ∀ a c:Nat,Rl (locR g r).Rows a c↔∃ x,(occL g r)[c]?=some x∧∃ u∈attrs (eqAt r x).1,(a:Int)=ixF (occL g r) u:=by
 have h:=(k8h hg hr).2.1
 unfold q6W at h
 rw[k0w (q9B hg) (q5i hr),bsS,z8P,j2R (by omega) (by omega),bsS,ifN (by omega)] at h
 obtain⟨o',h1,h2,h3,h4⟩:=k5p hr (occL g r) (occL g r).length 0 ⟨((occL g r).length:Int),List.replicate (((occL g r).length:Int)).toNat 0⟩ (by omega) (k0E (by omega) (by omega)) rfl
 rw[List.drop_zero] at h1
 rw[h1,bsS] at h
 have e:locR g r=o':=(Option.some.inj h).symm
 rw[e]
 refine⟨h2,h3,fun a c=>?_⟩
 rw[h4]
 constructor
 ·rintro (h|⟨_,h⟩)
  ·exact absurd h (k5q _ _ _)
  ·exact h
 ·exact fun h=>.inr ⟨Nat.zero_le _,h⟩
end Go.Proofs.YtcegfmageiicaaaGreat
namespace Go.Proofs.YtcegfmageiicaaaGreat
open Go Go.E
theorem k3a {n:Int}{s:List Int}(h0:0≤n)(h1:n≤16)(h:z4W n.toNat s):Valid ⟨n,s⟩:=by
 have hl:=h.1
 refine⟨h0,h1,by show (s.length:Int)=n;omega,fun x hx=>?_⟩
 have:=h.2 x hx
 have:=j7c n
 exact⟨(h.2 x hx).1,by show x≤((2 ^ n.toNat:Nat):Int)-1;omega⟩
theorem k3b {p:Rl_}{l:List Int}(hl:l.length≤16)(k1:Nat)(x1:Int){f:Nat→Int→List Int→Option (List Int)}(hf:∀ k2 x2 s2,f k2 x2 s2=((q7V p x1 x2).bind fun y3=>if y3=true then ((s2[k1]?).bind fun x3=>grd (0≤(k2:Int)∧(k2:Int)<63) <| grd (0≤x3∧0≤((2 ^ (k2:Int).toNat:Nat):Int)) <| some (List.set s2 k1 ((x3.toNat ||| ((2 ^ (k2:Int).toNat:Nat):Int).toNat:Nat):Int))) else some s2).bind fun s3=>some s3)
  {s:List Int} {v:Int} (hs:s[k1]?=some v) (hv:0≤v) :
  ∃ y:Int,eachL f 0 l s=some (s.set k1 y)∧0≤y∧∀ n,y.toNat.testBit n=true↔v.toNat.testBit n=true∨∃ x2,l[n]?=some x2∧hasP p x1 x2:=by
 have hk1:=(List.getElem?_eq_some_iff.1 hs).1
 have key:∀ (m k:Nat) (v:Int),k+m=l.length→0≤v→∃ y:Int,eachL f k (l.drop k) (s.set k1 v)=some (s.set k1 y)∧0≤y∧∀ n,y.toNat.testBit n=true↔v.toNat.testBit n=true∨(k≤n∧∃ x2,l[n]?=some x2∧hasP p x1 x2):=by
  intro m
  induction m with
  | zero=>
   intro k v hk hv
   refine⟨v,by rw[List.drop_eq_nil_of_le (by omega)];rfl,hv,fun n=>⟨.inl,fun h=>h.elim id fun ⟨h1,x2,h2,_⟩=>?_⟩⟩
   rw[List.getElem?_eq_none (by omega)] at h2;cases h2
  | succ m ih=>
   intro k v hk hv
   obtain⟨x2,hx2⟩:∃ x2,l[k]?=some x2:=⟨_,List.getElem?_eq_getElem (by omega)⟩
   have hd:l.drop k=x2::l.drop (k+1):=by
    rw[List.drop_eq_getElem_cons (by omega)]
    have:l[k]=x2:=by rw[List.getElem?_eq_getElem (by omega)] at hx2;exact Option.some.inj hx2
    rw[this]
   have hsv:(s.set k1 v)[k1]?=some v:=by rw[List.getElem?_set];simp[hk1]
   by_cases hp:hasP p x1 x2
   ·have e:f k x2 (s.set k1 v)=some (s.set k1 (orI v ((2 ^ k:Nat):Int))):=by
     rw[hf,q9a,bsS,ifP (by simpa using hp),hsv,bsS,q3C (by constructor<;>omega),q3C ⟨hv,Int.natCast_nonneg _⟩,bsS,List.set_set]
     rfl
    obtain⟨y,h1,h2,h3⟩:=ih (k+1) (orI v ((2 ^ k:Nat):Int)) (by omega) (j5M _ _)
    refine⟨y,by rw[hd];simp only[eachL,e,bsS];exact h1,h2,fun n=>?_⟩
    rw[h3,j0M,Nat.testBit_or,tnC,Nat.testBit_two_pow,Bool.or_eq_true,decide_eq_true_iff]
    constructor
    ·rintro ((h|h)|⟨h,h'⟩)
     ·exact .inl h
     ·subst h;exact .inr ⟨Nat.le_refl _,x2,hx2,hp⟩
     ·exact .inr ⟨by omega,h'⟩
    ·rintro (h|⟨h,h'⟩)
     ·exact .inl (.inl h)
     ·by_cases hn:k=n
      ·exact .inl (.inr hn)
      ·exact .inr ⟨by omega,h'⟩
   ·have e:f k x2 (s.set k1 v)=some (s.set k1 v):=by
     rw[hf,q9a,bsS,ifN (by simpa using hp),bsS]
    obtain⟨y,h1,h2,h3⟩:=ih (k+1) v (by omega) hv
    refine⟨y,by rw[hd];simp only[eachL,e,bsS];exact h1,h2,fun n=>?_⟩
    rw[h3]
    constructor
    ·rintro (h|⟨h,h'⟩)
     ·exact .inl h
     ·exact .inr ⟨by omega,h'⟩
    ·rintro (h|⟨h,x3,h4,h5⟩)
     ·exact .inl h
     ·by_cases hn:k=n
      ·subst hn;rw[hx2] at h4;cases h4;exact absurd h5 hp
      ·exact .inr ⟨by omega,x3,h4,h5⟩
 obtain⟨y,h1,h2,h3⟩:=key l.length 0 v (by omega) hv
 have e0:s.set k1 v=s:=by
  apply List.ext_getElem?
  intro q
  rw[List.getElem?_set]
  by_cases hq:k1=q
  ·subst hq;rw[ifP rfl,ifP hk1,hs]
  ·rw[ifN hq]
 rw[List.drop_zero,e0] at h1
 exact⟨y,h1,h2,fun n=>by rw[h3];simp⟩
theorem j8S:q8d=q5y:=by
 funext p l
 unfold q8d q5y
 rw[z1d,q6A,z8P]
 have e:z0W p l=q6z p l:=by
  funext k x s
  unfold z0W q6z
  have e2:z0V p k x=q8R p k x:=by
   funext k2 x2 s2
   unfold z0V q8R
   rw[k6m]
  rw[e2]
 rw[e]
theorem j8T {p:Rl_}(hp:Valid p){l:List Int}(hl:l.length≤16):∃ q,q5y p l=some q∧Valid q∧q.N=l.length∧∀ (m n:Nat) (x y:Int),l[m]?=some x→l[n]?=some y→(hasP q (m:Int) (n:Int)↔hasP p x y):=by
 have key:∀ (m k:Nat) (s:List Int),k+m=l.length→z4W l.length s→(∀ i,k≤i→i<l.length→s[i]?=some 0)→(∀ i x,i<k→l[i]?=some x→∀ n,Rl s i n↔∃ y,l[n]?=some y∧hasP p x y) →
   ∃ s',eachL (q6z p l) k (l.drop k) s=some s'∧z4W l.length s'∧∀ i x,l[i]?=some x→∀ n,Rl s' i n↔∃ y,l[n]?=some y∧hasP p x y:=by
  intro m
  induction m with
  | zero=>
   intro k s hk hok _ h
   exact⟨s,by rw[List.drop_eq_nil_of_le (by omega)];rfl,hok,fun i x hx=>h i x (by have:=(List.getElem?_eq_some_iff.1 hx).1;omega) hx⟩
  | succ m ih=>
   intro k s hk hok h0 h
   obtain⟨x,hx⟩:∃ x,l[k]?=some x:=⟨_,List.getElem?_eq_getElem (by omega)⟩
   have hd:l.drop k=x::l.drop (k+1):=by
    rw[List.drop_eq_getElem_cons (by omega)]
    have:l[k]=x:=by rw[List.getElem?_eq_getElem (by omega)] at hx;exact Option.some.inj hx
    rw[this]
   obtain⟨y,h1,h2,h3⟩:=k3b (p:=p) hl k x (f:=q8R p k x) (fun _ _ _=>rfl) (h0 k (Nat.le_refl _) (by omega)) (Int.le_refl _)
   have e:q6z p l k x s=some (s.set k y):=by
    unfold q6z;rw[h1];rfl
   have hks:k<s.length:=by rw[hok.1];omega
   have hget:∀ i,(s.set k y)[i]?=if k=i then some y else s[i]?:=fun i=>by
    rw[List.getElem?_set]
    by_cases hi:k=i
    ·subst hi;simp[hks]
    ·simp[hi]
   have hylt:y.toNat<2 ^ l.length:=by
    apply Nat.lt_pow_two_of_testBit
    intro n hn
    cases hb:y.toNat.testBit n with
    | false=>rfl
    | true=>
     rcases (h3 n).1 hb with h4|⟨x2,h4,_⟩
     ·simp at h4
     ·rw[List.getElem?_eq_none (by omega)] at h4;cases h4
   have hok' : z4W l.length (s.set k y):=by
    refine⟨by rw[List.length_set];exact hok.1,fun z hz=>?_⟩
    rcases List.mem_or_eq_of_mem_set hz with h4|h4
    ·exact hok.2 z h4
    ·subst h4;exact⟨h2,hylt⟩
   obtain⟨s',k1,k2,k3⟩:=ih (k+1) (s.set k y) (by omega) hok' (fun i hi hil=>by rw[hget,ifN (by omega)];exact h0 i (by omega) hil) (fun i x' hi hx' n=>by
    by_cases hik:k=i
    ·subst hik
     rw[hx] at hx';cases hx'
     have:(s.set k y).getD k 0=y:=by rw[List.getD_eq_getElem?_getD,hget,ifP rfl];rfl
     unfold Rl
     rw[this,h3];simp
    ·have:(s.set k y).getD i 0=s.getD i 0:=by rw[List.getD_eq_getElem?_getD,hget,ifN hik,List.getD_eq_getElem?_getD]
     have h5:=h i x' (by omega) hx' n
     unfold Rl at h5 ⊢
     rw[this];exact h5)
   exact⟨s',by rw[hd];simp only[eachL,e,bsS];exact k1,k2,k3⟩
 obtain⟨s',h1,h2,h3⟩:=key l.length 0 (List.replicate l.length 0) (by omega) ⟨by simp,fun x hx=>by
  rw[List.mem_replicate] at hx;rw[hx.2];exact⟨Int.le_refl _,Nat.two_pow_pos _⟩⟩ (fun i _ hi=>by rw[List.getElem?_replicate,ifP hi]) (fun i x hi=>absurd hi (Nat.not_lt_zero _))
 have hv:Valid ⟨(l.length:Int),s'⟩:=k3a (Int.natCast_nonneg _) (by omega) (by rw[tnC];exact h2)
 refine⟨⟨(l.length:Int),s'⟩,?_,hv,rfl,fun m n x y hx hy=>?_⟩
 ·unfold q5y
  rw[q6A,bsS,ifP (by simpa using hp),ifN (by omega),j2R (Int.natCast_nonneg _) (by omega),bsS]
  dsimp only
  rw[tnC]
  rw[List.drop_zero] at h1
  rw[h1];rfl
 ·rw[k8S hv,h3 m x hx n]
  constructor
  ·rintro⟨y',h4,h5⟩
   rw[hy] at h4;cases h4;exact h5
  ·intro h;exact⟨y,hy,h⟩
end Go.Proofs.YtcegfmageiicaaaGreat
namespace Go.Proofs.YtcegfmageiicaaaGreat
open Go Go.E
noncomputable def j7s (x:Rl_) (l:List Int):Rl_:=(q5y x l).getD ⟨0,[]⟩
theorem k7C {x:Rl_}(hx:Valid x){l:List Int}(hl:l.length≤16):q5y x l=some (j7s x l)∧Valid (j7s x l)∧(j7s x l).N=(l.length:Int)∧∀ (m n:Nat) (a b:Int),l[m]?=some a→l[n]?=some b→(hasP (j7s x l) (m:Int) (n:Int)↔hasP x a b):=by
 obtain⟨q,h1,h2,h3,h4⟩:=j8T hx hl
 unfold j7s
 rw[h1]
 exact⟨rfl,h2,h3,h4⟩
theorem Shape.occ16 {g:Grammar}(h:Shape g){r:Rule}(hr:r∈g.Rules):(occL g r).length≤16:=by
 have h3:=j8O h hr
 have:=j7r (C:=4) (f:=occK g r) (fun k=>by unfold occK;rw[lnM];exact h.plain _) (List.range' 0 (r.Right.length+1))
 rw[List.length_range'] at this
 unfold occL
 omega
theorem k7D (g:Grammar)(r:Rule)(o:Rl_)(pos:Int)(own:Rl_):(z7v g r o pos own).N=o.N:=(z9M own _ _ 0 o).2
theorem k5s (g:Grammar)(r:Rule)(all:ByteArray→Rl_):∀ (m pos:Nat) (o:Rl_),(indL g r all m pos o).N=o.N∧(indL g r all m pos o).Rows.length=o.Rows.length
 | 0,pos,o=>⟨rfl,rfl⟩
 | m+1,pos,o=>by
  rw[indL]
  have h1:=k5s g r all m (pos+1) (z7v g r o (pos:Int) (all (q6G r (pos:Int))))
  exact⟨h1.1.trans (k7D _ _ _ _ _),h1.2.trans (j5U _ _ _ _ _)⟩
theorem k5t {g:Grammar}(h0:Sz.szd g≤1048576)(h:Shape g){r:Rule}(hr:r∈g.Rules)(all:ByteArray→Rl_):Valid (locR g r)∧Valid (indR g r all)∧(indR g r all).N=((occL g r).length:Int):=by
 obtain⟨v1,v2,_⟩:=k5r h0 (Nat.le_trans (z3G hr) h0) (h.occ16 hr)
 have hs:=k1Q g r all (r.Right.length+1) 0 (locR g r) v1
 have hc:=Sub.close hs.2.1
 unfold indR
 exact⟨v1,hc.2.1,by rw[← hc.2.2.1,(k5s g r all _ 0 _).1,v2]⟩
theorem k5u {g:Grammar}(h:Shape g)(r:Rule){k:Nat}(hk:k≤r.Right.length):(posL g r (k:Int)).length≤16:=by
 rw[k9s g hk]
 have:=h.plain (q6G r (k:Int))
 omega
def k5v (g:Grammar)(all:List Rl_)(r:Rule):Prop:=k4V (indR g r (q7j g all))=false∧∀ pos:Nat,pos≤r.Right.length→uniR (q7j g all (q6G r (pos:Int))) (j7s (indR g r (q7j g all)) (posL g r (pos:Int)))=q7j g all (q6G r (pos:Int))
end Go.Proofs.YtcegfmageiicaaaGreat
namespace Go.Proofs.YtcegfmageiicaaaGreat
open Go Go.E
def cirG (g:Grammar):Bool:=g.Symbols.any fun y=>y.Attributes.any fun a=>a.Circular
theorem k9J (g:Grammar):q5D g=some (cirG g):=by
 unfold q5D q3O q3U
 rw[q5a (q:=fun y:Symbol=>y.Attributes.any fun a=>a.Circular) fun k y hy=>by
  unfold q5u q5V q4y q4O
  rw[q5a (q:=fun a:At_=>a.Circular) fun k a ha=>by
   unfold q6v z3P
   rw[bsS]
   cases a.Circular<;>rfl]
  rw[bsS,bsS,← apply_ite some]]
 rfl
noncomputable def k3c (g:Grammar):Bool:=z9L g&&(!(colG g||cirG g) && !g.Rules.any farR)
theorem k7E {g:Grammar}(hg:z9L g=true)(hc:colG g=false):(g.Rules.any fun r=>(z6z r).any farB)=g.Rules.any farR:=by
 have:∀ r∈g.Rules,(z6z r).any farB=farR r:=fun r hr=>by
  unfold z6z farR
  rw[k7b hg hc hr,List.flatMap_nil,List.append_nil,List.any_map];rfl
 rw[Bool.eq_iff_iff,List.any_eq_true,List.any_eq_true]
 exact⟨fun ⟨r,hr,hx⟩=>⟨r,hr,(this r hr)▸hx⟩,fun ⟨r,hr,hx⟩=>⟨r,hr,(this r hr).symm▸hx⟩⟩
theorem k7F {g:Grammar}(h:Sz.szd g≤1048576):z4J g=some (k3c g):=by
 unfold z4J k3c
 rw[k6V h,bsS]
 cases hg:z9L g with
 | false=>rfl
 | true=>
  rw[ifP rfl,k7a h]
  simp only[bsS]
  cases hc:colG g with
  | true=>cases g.Rules.any fun r=>(z6z r).any farB<;>simp[k4P,hc]
  | false=>
   rw[k7E hg hc]
   cases g.Rules.any farR<;>simp[k4P,hc,k9J]
theorem k7G {g:Grammar}(h:Sz.szd g≤1048576):z4I g=some (k3c g):=by
 unfold z4I k3c
 rw[q4J (c:=false) (q:=fun y:Symbol=>!y.Attributes.any fun a=>a.Circular||decide (a.Mode=3)) fun k y hy=>by
  unfold j1R
  rw[q4J (c:=false) (q:=fun a:At_=>!(a.Circular||decide (a.Mode=3))) fun k a ha=>by
   unfold j1Q
   by_cases hm:a.Mode=3<;>cases hc:a.Circular<;>simp[hm]]
  have e:(y.Attributes.all fun a=>!(a.Circular||decide (a.Mode=3)))=!(y.Attributes.any fun a=>a.Circular||decide (a.Mode=3)):=by rw[List.not_any_eq_all_not]
  rw[e]
  cases y.Attributes.any fun a=>a.Circular||decide (a.Mode=3)<;>rfl]
 have e:(g.Symbols.all fun y=>!y.Attributes.any fun a=>a.Circular||decide (a.Mode=3))=!(colG g||cirG g):=by
  have e1:(g.Symbols.any fun y=>y.Attributes.any fun a=>a.Circular||decide (a.Mode=3))=(colG g||cirG g):=by
   unfold colG cirG
   rw[Bool.eq_iff_iff]
   simp only[List.any_eq_true,Bool.or_eq_true]
   constructor
   ·rintro⟨y,hy,a,ha,h|h⟩
    ·exact .inr ⟨y,hy,a,ha,h⟩
    ·exact .inl ⟨y,hy,a,ha,h⟩
   ·rintro (⟨y,hy,a,ha,h⟩|⟨y,hy,a,ha,h⟩)
    ·exact⟨y,hy,a,ha,.inr h⟩
    ·exact⟨y,hy,a,ha,.inl h⟩
  rw[← e1,List.not_any_eq_all_not]
 rw[e]
 cases colG g||cirG g with
 | true=>cases z9L g<;>rfl
 | false=>
  rw[Bool.not_false,ifP rfl,bsS,z4l]
  rw[q4J (c:=false) (q:=fun r=>!farR r) fun k r hr=>by
   unfold j1S
   rw[k6Z,bsS]
   cases farR r<;>rfl]
  have e:(g.Rules.all fun r=>!farR r)=!g.Rules.any farR:=by rw[List.not_any_eq_all_not]
  rw[e]
  cases g.Rules.any farR with
  | true=>cases z9L g<;>rfl
  | false=>rw[Bool.not_false,ifP rfl,bsS,z4l,k6W h];cases z9L g<;>rfl
end Go.Proofs.YtcegfmageiicaaaGreat
namespace Go.Proofs.YtcegfmageiicaaaGreat
open Go Go.E
theorem Inv.setU {g:Grammar}{all:List Rl_}(h:Inv g all){n:ByteArray}{j:Nat}(hj:atS g n=some j)(h2:j<g.Symbols.length)(h4:all[j]?=some (q7j g all n))(h5:Valid (q7j g all n))(b:Rl_) :
  Inv g (all.set j (uniR (q7j g all n) b))∧sumA all≤sumA (all.set j (uniR (q7j g all n) b))∧(uniR (q7j g all n) b≠q7j g all n→sumA all<sumA (all.set j (uniR (q7j g all n) b))):=by
 generalize q7j g all n=old at h4 h5
 have hv:=k4R (a:=old) (b:=b) h5
 have hm:=k9p (a:=old) (b:=b) h5
 generalize uniR old b=new at hv hm
 have hset:=k1I all j new old h4
 refine⟨⟨by simpa using h.1,fun k y a hk ha=>?_⟩,by omega,fun hne=>?_⟩
 ·rw[List.getElem?_set] at ha
  by_cases hjk:j=k
  ·subst hjk
   rw[ifP rfl,ifP (by rw[h.1];exact h2)] at ha
   cases ha
   have:=(h.2 j y old hk h4).2
   exact⟨hv.1,hv.2.trans this⟩
  ·rw[ifN hjk] at ha;exact h.2 k y a hk ha
 ·have h7:sumR old≠sumR new:=fun he=>hne (hm.2 he)
  have:=hm.1
  omega
theorem k5w {α:Type}{l:List α}{j:Nat}{x:α}(h:l[j]?=some x):l.set j x=l:=by
 apply List.ext_getElem?
 intro i
 rw[List.getElem?_set]
 by_cases hi:j=i
 ·subst hi
  have:=(List.getElem?_eq_some_iff.1 h).1
  rw[ifP rfl,ifP this,h]
 ·rw[ifN hi]
theorem k1R {g:Grammar}(h0:Sz.szd g≤1048576)(hS:Shape g){r:Rule}(hr:r∈g.Rules){x:Rl_}(hx:Valid x):∀ (m k:Nat) (c:Bool) (all:List Rl_),k+m=r.Right.length+1→Inv g all →
  ∃ c' all',eachN (q8q g r x) k m (all,c)=some (all',c')∧q4l (q6m g r x) (all,c,(k:Int))=some (all',c')∧Inv g all'∧sumA all≤sumA all'∧(c'=true→c=true∨sumA all<sumA all') ∧
   (c'=false→c=false∧all'=all∧∀ pos:Nat,k≤pos→pos≤r.Right.length→uniR (q7j g all (q6G r (pos:Int))) (j7s x (posL g r (pos:Int)))=q7j g all (q6G r (pos:Int)))
 | 0,k,c,all,hk,h=>by
  refine⟨c,all,rfl,q3F ?_,h,Nat.le_refl _,fun hc=>.inl hc,fun hc=>⟨hc,rfl,fun pos h1 h2=>by omega⟩⟩
  unfold q6m
  dsimp only
  rw[ifN (by omega)]
 | m+1,k,c,all,hk,h=>by
  have hs:=Nat.le_trans (z3G hr) h0
  have h3:=j8O hS hr
  have hkn:k≤r.Right.length:=by omega
  obtain⟨j,h1,h2,h4,h5,h6⟩:=h.at_ (hS.known hr hkn)
  have hA:atI g (q6G r (k:Int))=(j:Int):=by unfold atI;rw[h1]
  have hp:=k7C hx (k5u hS r hkn)
  obtain⟨i1,i2,i3⟩:=h.setU h1 h2 h4 h5 (j7s x (posL g r (k:Int)))
  have hlen:=h5.len
  generalize hnew:uniR (q7j g all (q6G r (k:Int))) (j7s x (posL g r (k:Int)))=new at i1 i2 i3
  have e1:q8q g r x k (all,c)=some (all.set j new,c || !decide (new=q7j g all (q6G r (k:Int)))):=by
   unfold q8q
   dsimp only
   rw[z9K (q5i hs),bsS,k1H,bsS,hA,q3C (by omega),tnC,h4,bsS,k4X (q9B h0) (q5i hs),bsS,j8S,hp.1,bsS,k9o (by omega),bsS,hnew]
   cases c with
   | true=>rfl
   | false=>rw[ifN (by simp),k9q];rfl
  have e2:q6m g r x (all,c,(k:Int))=some (.inl (all.set j new,c || !decide (new=q7j g all (q6G r (k:Int))),((k+1:Nat):Int))):=by
   unfold q6m
   dsimp only
   rw[ifP (by omega),z7d (q5i hs),bsS,k6S,bsS,hA,q3C (by omega),tnC,h4,bsS,k4W (q9B h0) (q5i hs),bsS,hp.1,bsS,k9n (by omega),bsS,hnew]
   cases c with
   | true=>rw[ifP rfl,bsS,q3C (by constructor<;>omega)];rfl
   | false=>rw[ifN (by simp),k4U,bsS,bsS,q3C (by constructor<;>omega)];rfl
  obtain⟨c',all',f1,f2,f3,f4,f5,f6⟩:=k1R h0 hS hr hx m (k+1) (c || !decide (new=q7j g all (q6G r (k:Int)))) (all.set j new) (by omega) i1
  refine⟨c',all',by rw[eachN,e1,bsS];exact f1,by rw[q3S e2];exact f2,f3,by omega,fun hc=>?_,fun hc=>?_⟩
  ·rcases f5 hc with q|q
   ·rw[Bool.or_eq_true] at q
    rcases q with q|q
    ·exact .inl q
    ·exact .inr (by have:=i3 (by simpa using q);omega)
   ·exact .inr (by omega)
  ·obtain⟨q1,q2,q3⟩:=f6 hc
   rw[Bool.or_eq_false_iff] at q1
   have hsame:new=q7j g all (q6G r (k:Int)):=by simpa using q1.2
   have hset:all.set j new=all:=by rw[hsame];exact k5w h4
   rw[hset] at q2 q3
   refine⟨q1.1,q2,fun pos p1 p2=>?_⟩
   by_cases hpk:pos=k
   ·subst hpk;rw[hnew,hsame]
   ·exact q3 pos (by omega) p2
theorem j8U (own:Rl_)(a:Nat)(x:Int):∀ (ys:List Int) (i:Nat) (o:Rl_),o.Rows.length≤1048576→eachL (z6Q own a x) i ys (o.Rows,o.N)=some ((q9J own a x i ys o).Rows,(q9J own a x i ys o).N)
 | [],i,o,_=>rfl
 | y::ys,i,o,h=>by
  have e1:z6Q own a x i y (o.Rows,o.N)=some ((if hasP own (a:Int) (i:Int) then addP o x y else o).Rows,(if hasP own (a:Int) (i:Int) then addP o x y else o).N):=by
   unfold z6Q
   dsimp only
   rw[q9a,bsS]
   by_cases hp:hasP own (a:Int) (i:Int)
   ·rw[decide_eq_true hp,ifP rfl,ifP hp,k1p h];rfl
   ·rw[decide_eq_false hp,ifN (by simp),ifN hp];rfl
  have hl:(if hasP own (a:Int) (i:Int) then addP o x y else o).Rows.length≤1048576:=by
   split
   ·rw[(z8Q o x y).1];exact h
   ·exact h
  rw[eachL,e1,bsS,q9J]
  exact j8U own a x ys (i+1) _ hl
theorem j5X (own:Rl_)(at' : List Int):∀ (xs:List Int) (a:Nat) (o:Rl_),o.Rows.length≤1048576→eachL (z6R at' own) a xs (o.Rows,o.N)=some ((z1e own at' a xs o).Rows,(z1e own at' a xs o).N)
 | [],a,o,_=>rfl
 | x::xs,a,o,h=>by
  have hl:(q9J own a x 0 at' o).Rows.length≤1048576:=by rw[(z8T own a x at' 0 o).1];exact h
  have e1:z6R at' own a x (o.Rows,o.N)=some ((q9J own a x 0 at' o).Rows,(q9J own a x 0 at' o).N):=by
   unfold z6R;dsimp only;rw[j8U own a x at' 0 o h];rfl
  rw[eachL,e1,bsS,z1e]
  exact j5X own at' xs (a+1) _ hl
theorem k5x {g:Grammar}(h0:Sz.szd g≤1048576)(hS:Shape g){r:Rule}(hr:r∈g.Rules){all:List Rl_}(h:Inv g all):∀ (m k:Nat) (o:Rl_),k+m=r.Right.length+1→o.Rows.length≤1048576 →
  eachN (q8p g all r) k m (o.Rows,o.N)=some ((indL g r (q7j g all) m k o).Rows,(indL g r (q7j g all) m k o).N)∧q4l (z2n g r all) ((k:Int),o.Rows,o.N)=some ((indL g r (q7j g all) m k o).Rows,(indL g r (q7j g all) m k o).N)
 | 0,k,o,hk,_=>by
  refine⟨rfl,q3F ?_⟩
  unfold z2n
  dsimp only
  rw[ifN (by omega)];rfl
 | m+1,k,o,hk,ho=>by
  have hs:=Nat.le_trans (z3G hr) h0
  have h3:=j8O hS hr
  have hkn:k≤r.Right.length:=by omega
  obtain⟨j,h1,h2,h4,h5,h6⟩:=h.at_ (hS.known hr hkn)
  have hA:atI g (q6G r (k:Int))=(j:Int):=by unfold atI;rw[h1]
  have hlen:=j5U g r o (k:Int) (q7j g all (q6G r (k:Int)))
  obtain⟨f1,f2⟩:=k5x h0 hS hr h m (k+1) (z7v g r o (k:Int) (q7j g all (q6G r (k:Int)))) (by omega) (by rw[hlen];exact ho)
  have e1:q8p g all r k (o.Rows,o.N)=some ((z7v g r o (k:Int) (q7j g all (q6G r (k:Int)))).Rows,(z7v g r o (k:Int) (q7j g all (q6G r (k:Int)))).N):=by
   unfold q8p
   dsimp only
   rw[z9K (q5i hs),bsS,k1H,bsS,hA,q3C (by omega),tnC,h4,bsS,k4Z (q9B h0) (q5i hs) (o:=⟨o.N,o.Rows⟩) ho,bsS]
  have e2:z2n g r all ((k:Int),o.Rows,o.N)=some (.inl (((k+1:Nat):Int),(z7v g r o (k:Int) (q7j g all (q6G r (k:Int)))).Rows,(z7v g r o (k:Int) (q7j g all (q6G r (k:Int)))).N)):=by
   unfold z2n z2K
   dsimp only
   rw[ifP (by omega),k4W (q9B h0) (q5i hs),bsS,z7d (q5i hs),bsS,k6S,bsS,hA,ifN (by omega),bsS,q3C (by omega),tnC,h4,bsS,j5X (q7j g all (q6G r (k:Int))) _ _ 0 o ho,bsS]
   dsimp only
   rw[q3C (by constructor<;>omega)]
   rfl
  rw[eachN,e1,bsS,q3S e2,indL]
  exact⟨f1,f2⟩
theorem j4M {g:Grammar}(h0:Sz.szd g≤1048576)(hS:Shape g):∀ (rs:List Rule) (i:Nat) (c:Bool) (all:List Rl_),(∀ r∈rs,r∈g.Rules)→Inv g all →
  (findL (q5L g) i rs (all,c)=some (.inr ([],false))∧findL (q6n g) i rs (all,c)=some (.inr ([],false))) ∨
  ∃ c' all',findL (q5L g) i rs (all,c)=some (.inl (all',c'))∧findL (q6n g) i rs (all,c)=some (.inl (all',c'))∧Inv g all'∧sumA all≤sumA all'∧(c'=true→c=true∨sumA all<sumA all')∧(c'=false→c=false∧all'=all∧∀ r∈rs,k5v g all r)
 | [],i,c,all,_,h=>.inr ⟨c,all,rfl,rfl,h,Nat.le_refl _,fun hc=>.inl hc,fun hc=>⟨hc,rfl,fun r hr=>by cases hr⟩⟩
 | r::rs,i,c,all,hrs,h=>by
  have hr:=hrs r (by simp)
  have hs:=Nat.le_trans (z3G hr) h0
  have h3:=j8O hS hr
  obtain⟨l1,l2,l3⟩:=k8h h0 hs
  obtain⟨p1,p2⟩:=k5x h0 hS hr h (r.Right.length+1) 0 (locR g r) (by omega) (by omega)
  obtain⟨v1,v2,v3⟩:=k5t h0 hS hr (q7j g all)
  have hl:(indL g r (q7j g all) (r.Right.length+1) 0 (locR g r)).Rows.length≤1048576:=by rw[(k5s g r _ _ 0 _).2];omega
  have hcl:q6l (⟨(indL g r (q7j g all) (r.Right.length+1) 0 (locR g r)).N,(indL g r (q7j g all) (r.Right.length+1) 0 (locR g r)).Rows⟩:Rl_)=indR g r (q7j g all):=rfl
  have hxl:=v2.len
  have es:z6i g r all=some (indR g r (q7j g all)):=by
   unfold z6i
   rw[l1,bsS,show q4l (z2n g r all) (0,(locR g r).Rows,(locR g r).N)=_ from p2,bsS]
   dsimp only
   rw[j4q (r:=⟨(indL g r (q7j g all) (r.Right.length+1) 0 (locR g r)).N,(indL g r (q7j g all) (r.Right.length+1) 0 (locR g r)).Rows⟩) hl,bsS,hcl]
  cases hlp:k4V (indR g r (q7j g all)) with
  | true=>
   left
   constructor
   ·rw[findL]
    unfold q5L
    dsimp only
    rw[l2,bsS,q3C (by constructor<;>omega),p1,bsS]
    dsimp only
    rw[j4r (r:=⟨(indL g r (q7j g all) (r.Right.length+1) 0 (locR g r)).N,(indL g r (q7j g all) (r.Right.length+1) 0 (locR g r)).Rows⟩) hl,bsS,hcl,k1A (by omega),hlp,bsS]
    rfl
   ·rw[findL]
    unfold q6n
    dsimp only
    rw[es,bsS,k1B (by omega),hlp,bsS]
    rfl
  | false=>
   obtain⟨c1,a1,e1,e2,e3,e4,e5,e6⟩:=k1R h0 hS hr v2 (r.Right.length+1) 0 c all (by omega) h
   have g1:q5L g i r (all,c)=some (.inl (a1,c1)):=by
    unfold q5L
    dsimp only
    rw[l2,bsS,q3C (by constructor<;>omega),p1,bsS]
    dsimp only
    rw[j4r (r:=⟨(indL g r (q7j g all) (r.Right.length+1) 0 (locR g r)).N,(indL g r (q7j g all) (r.Right.length+1) 0 (locR g r)).Rows⟩) hl,bsS,hcl,k1A (by omega),hlp,bsS,ifN (by simp),q3C (by constructor<;>omega),e1]
    rfl
   have g2:q6n g i r (all,c)=some (.inl (a1,c1)):=by
    unfold q6n
    dsimp only
    rw[es,bsS,k1B (by omega),hlp,bsS,ifN (by simp),show q4l (q6m g r (indR g r (q7j g all))) (all,c,0)=_ from e2]
    rfl
   rcases j4M h0 hS rs (i+1) c1 a1 (fun x hx=>hrs x (by simp[hx])) e3 with ⟨f1,f2⟩|⟨c2,a2,f1,f2,f3,f4,f5,f6⟩
   ·left
    exact⟨by rw[findL,g1,bsS];exact f1,by rw[findL,g2,bsS];exact f2⟩
   ·right
    refine⟨c2,a2,by rw[findL,g1,bsS];exact f1,by rw[findL,g2,bsS];exact f2,f3,by omega,fun hc=>?_,fun hc=>?_⟩
    ·rcases f5 hc with q|q
     ·rcases e5 q with q2|q2
      ·exact .inl q2
      ·exact .inr (by omega)
     ·exact .inr (by omega)
    ·obtain⟨q1,q2,q3⟩:=f6 hc
     obtain⟨w1,w2,w3⟩:=e6 q1
     subst w2
     refine⟨w1,q2,fun y hy=>?_⟩
     rcases List.mem_cons.1 hy with rfl|hy
     ·exact⟨hlp,fun pos hp=>w3 pos (Nat.zero_le _) hp⟩
     ·exact q3 y hy
theorem k7H {g:Grammar}(h0:Sz.szd g≤1048576)(hS:Shape g):∀ (d:Nat) (all:List Rl_),Inv g all→g.Symbols.length*(16*65535)-sumA all≤d →
  (q4l (q3K g) (all,true)=some (.inr ([],false))∧q4l (q5d g) all=some ([],false)) ∨
  ∃ q,q4l (q3K g) (all,true)=some (.inl q)∧q4l (q5d g) all=some (q,true)∧Inv g q∧∀ r∈g.Rules,k5v g q r:=by
 intro d
 induction d with
 | zero=>
  intro all h hd
  rcases j4M h0 hS g.Rules 0 false all (fun _ h=>h) h with ⟨f1,f2⟩|⟨c,a,f1,f2,f3,f4,f5,f6⟩
  ·left
   exact⟨q3F (by unfold q3K;dsimp only;rw[ifP rfl,f1];rfl),q3F (by unfold q5d;rw[f2];rfl)⟩
  ·right
   have hb:=f3.bound
   rw[f3.1] at hb
   have hc:c=false:=by
    cases c with
    | false=>rfl
    | true=>
     rcases f5 rfl with h|h
     ·cases h
     ·omega
   subst hc
   obtain⟨_,q2,q3⟩:=f6 rfl
   subst q2
   refine⟨a,?_,?_,f3,q3⟩
   ·have s1:q3K g (a,true)=some (.inl (a,false)):=by unfold q3K;dsimp only;rw[ifP rfl,f1];rfl
    have s2:q3K g (a,false)=some (.inr (.inl a)):=by unfold q3K;dsimp only;rw[ifN (by simp)]
    rw[q3S s1,q3F s2]
   ·exact q3F (by unfold q5d;rw[f2];rfl)
 | succ d ih=>
  intro all h hd
  rcases j4M h0 hS g.Rules 0 false all (fun _ h=>h) h with ⟨f1,f2⟩|⟨c,a,f1,f2,f3,f4,f5,f6⟩
  ·left
   exact⟨q3F (by unfold q3K;dsimp only;rw[ifP rfl,f1];rfl),q3F (by unfold q5d;rw[f2];rfl)⟩
  ·cases c with
   | false=>
    right
    obtain⟨_,q2,q3⟩:=f6 rfl
    subst q2
    refine⟨a,?_,?_,f3,q3⟩
    ·have s1:q3K g (a,true)=some (.inl (a,false)):=by unfold q3K;dsimp only;rw[ifP rfl,f1];rfl
     have s2:q3K g (a,false)=some (.inr (.inl a)):=by unfold q3K;dsimp only;rw[ifN (by simp)]
     rw[q3S s1,q3F s2]
    ·exact q3F (by unfold q5d;rw[f2];rfl)
   | true=>
    have hlt:sumA all<sumA a:=by
     rcases f5 rfl with h|h
     ·cases h
     ·exact h
    have hb:=f3.bound
    rw[f3.1] at hb
    have s1:q3K g (all,true)=some (.inl (a,true)):=by unfold q3K;dsimp only;rw[ifP rfl,f1];rfl
    have s2:q5d g all=some (.inl a):=by unfold q5d;rw[f2];rfl
    rw[q3S s1,q3S s2]
    exact ih a f3 (by omega)
theorem j5Y {g:Grammar}(h0:Sz.szd g≤1048576)(hS:Shape g):eachL (z0v g) 0 g.Symbols []=some (j2b g):=by
 have hl:=hS.syms
 unfold j2b
 rw[k1G (g:=fun y:Symbol=>(⟨((q7M g y.Name).length:Int),List.replicate (q7M g y.Name).length 0⟩:Rl_)) (B:=1048576) g.Symbols 0 [] (fun k y s hy hs=>by
  unfold z0v
  have:=hS.plain y.Name
  rw[j4E (q9B h0),bsS,j2R (by omega) (by omega),bsS,q3C (by constructor<;>omega),tnC]) (by simp;omega)]
 simp
theorem j2d {g:Grammar}(h0:Sz.szd g≤1048576):∃ q b,q7I g=some (q,b)∧q7G g=some (q,b)∧(b=false→q=[])∧(b=true→z9L g=true∧Inv g q∧∀ r∈g.Rules,k5v g q r):=by
 unfold q7I q7G
 rw[k7F h0,k7G h0]
 cases hst:k3c g with
 | false=>exact⟨[],false,rfl,rfl,fun _=>rfl,fun h=>by cases h⟩
 | true=>
  have hg:z9L g=true:=by
   unfold k3c at hst
   simp only[Bool.and_eq_true] at hst
   exact hst.1
  have hS:=j1C hg
  rcases k7H h0 hS _ (j2b g) (k5a hS) (Nat.le_refl _) with ⟨f1,f2⟩|⟨q,f1,f2,f3,f4⟩
  ·refine⟨[],false,?_,?_,fun _=>rfl,fun h=>by cases h⟩
   ·rw[bsS,ifP rfl,j4G h0 hS,bsS,f1];rfl
   ·rw[bsS,ifP rfl,j5Y h0 hS,bsS,f2];rfl
  ·refine⟨q,true,?_,?_,fun h=>(by cases h),fun _=>⟨hg,f3,f4⟩⟩
   ·rw[bsS,ifP rfl,j4G h0 hS,bsS,f1];rfl
   ·rw[bsS,ifP rfl,j5Y h0 hS,bsS,f2];rfl
end Go.Proofs.YtcegfmageiicaaaGreat
set_option maxRecDepth 100000
set_option maxHeartbeats 4000000
namespace Go.Proofs.YtcegfmageiicaaaGreat
open Go Go.E
theorem k7I {α:Type}{R:Int→α→Int→Prop}(hR:∀ k x m,R k x m→k≤m):∀ (xs:List α) (k k' : Int),RL R k xs k'→k≤k'
 | [],k,k',h=>by rw[show k=k' from h];exact Int.le_refl _
 | x::xs,k,k',⟨m,h1,h2⟩=>Int.le_trans (hR _ _ _ h1) (k7I hR xs m k' h2)
theorem k0F {α:Type}{R:Int→α→Int→Prop}{L:Nat→α→Int→Option (Int ⊕ Int)}(hR:∀ k x m,R k x m→k≤m)(hL:∀ (i:Nat) (x:α) (k m:Int),R k x m→0≤k→m≤10000000000→L i x k=some (.inl m)):∀ (xs:List α) (k k' : Int) (i:Nat),RL R k xs k'→0≤k→k'≤10000000000→findL L i xs k=some (.inl k')
 | [],k,k',i,h,_,_=>by rw[show k=k' from h];rfl
 | x::xs,k,k',i,⟨m,h1,h2⟩,h3,h4=>by
  have h5:=k7I hR xs m k' h2
  have h6:=hR _ _ _ h1
  show (L i x k).bind _=_
  rw[hL i x k m h1 h3 (by omega),bsS]
  exact k0F hR hL xs m k' (i+1) h2 (by omega) h4
end Go.Proofs.YtcegfmageiicaaaGreat
set_option maxRecDepth 100000
set_option maxHeartbeats 4000000
namespace Go.Proofs.YtcegfmageiicaaaGreat
open Go Go.E
def PB (x:Phase):Prop:=x.Inherited.length≤16∧x.Synthesized.length≤16
def PS (x:List Phase):Prop:=x.length≤17∧∀ y∈x,PB y
theorem j7t {a:List At_}{r:Rl_}{m:Int}:∀ (f:Nat) (d:List Bool),(q7k a r m f d).1.length≤f
 | 0,d=>by simp[q7k]
 | f+1,d=>by
  rw[q7k]
  split
  ·simp
  ·rename_i k _
   simp only[lnC];have:=j7t (a:=a) (r:=r) (m:=m) f (d.set k true);omega
theorem k5y {a:List At_}{r:Rl_}(ha:a.length≤16):∀ (f:Nat) (out:List (List Nat×List Nat)) (d:List Bool) (l:List (List Nat×List Nat)),runP a r f out d=some l→(∀ p∈out,p.1.length≤16∧p.2.length≤16)→l.length≤out.length+f∧∀ p∈l,p.1.length≤16∧p.2.length≤16
 | 0,out,d,l,h,ho=>by rw[runP] at h;cases h;exact⟨by omega,ho⟩
 | f+1,out,d,l,h,ho=>by
  rw[runP] at h
  split at h
  ·split at h
   ·cases h
   ·have h1:=k5y ha f _ _ l h fun p hp=>by
     rcases List.mem_append.1 hp with hp|hp
     ·exact ho p hp
     ·rw[List.mem_singleton] at hp
      subst hp
      exact⟨Nat.le_trans (j7t _ _) ha,Nat.le_trans (j7t _ _) ha⟩
    exact⟨by have:=h1.1;simp only[List.length_append,List.length_singleton] at this;omega,h1.2⟩
  ·cases h;exact⟨by omega,ho⟩
theorem x0w {a:List At_}{r:Rl_}(ha:a.length≤16):PS (phO a r).1:=by
 unfold phO
 cases hp:phR a r with
 | none=>exact⟨Nat.zero_le _,fun y hy=>nomatch hy⟩
 | some l=>
  have h:=hp
  unfold phR at h
  split at h
  ·obtain⟨h1,h2⟩:=k5y ha _ _ _ _ h (fun p hp=>nomatch hp)
   refine⟨by simp only[lnM];simp only[List.length_nil] at h1;omega,fun y hy=>?_⟩
   obtain⟨p,hp,rfl⟩:=List.mem_map.1 hy
   obtain⟨h3,h4⟩:=h2 p hp
   exact⟨by simpa[toPh] using h3,by simpa[toPh] using h4⟩
  ·cases h
theorem k3d {g:Grammar}(h0:Sz.szd g≤1048576):∃ ps c,q6H g=some (ps,c)∧q9X g=some (ps,c)∧ps.length≤4∧(∀ p∈ps,PS p):=by
 obtain⟨q,b,e1,e2,hn,hi⟩:=j2d h0
 unfold q6H q9X
 rw[e1,e2,bsS,bsS]
 dsimp only
 cases b with
 | false=>
  refine⟨[],false,rfl,?_,by simp,fun p hp=>(nomatch hp)⟩
  rw[q3F (r:=(.inl [])) (by
   unfold q6X
   dsimp only
   split
   ·rfl
   ·rfl)]
  rfl
 | true=>
  obtain⟨hg,hI,_⟩:=hi rfl
  have hS:=j1C hg
  have hl:=hS.syms
  rw[ifP rfl]
  have key:∀ (xs:List Symbol) (i:Nat) (s:List (List Phase)),g.Symbols.drop i=xs→s.length=i→i≤g.Symbols.length→(∀ p∈s,PS p)→(∃ s',findL (q9j g q) i xs s=some (.inl s')∧q4l (q6X g q true) (s,(i:Int))=some (.inl s')∧s'.length=g.Symbols.length∧∀ p∈s',PS p)∨(findL (q9j g q) i xs s=some (.inr ([],false))∧q4l (q6X g q true) (s,(i:Int))=some (.inr ([],false))):=by
   intro xs
   induction xs with
   | nil=>
    intro i s hx hs hi hp
    left
    have:g.Symbols.length-i=0:=by rw[← List.length_drop,hx];rfl
    exact⟨s,rfl,q3F (by unfold q6X;dsimp only;exact ifN (by omega)),by omega,hp⟩
   | cons x xs ih=>
    intro i s hx hs hi hps
    have hlt:i<g.Symbols.length:=by
     have:g.Symbols.length-i=xs.length+1:=by rw[← List.length_drop,hx];rfl
     omega
    have hd:=List.drop_eq_getElem_cons hlt
    rw[hx] at hd
    injection hd with d1 d2
    have hgi:g.Symbols[i]?=some x:=by rw[d1];exact List.getElem?_eq_getElem hlt
    have hIl:q.length=g.Symbols.length:=hI.1
    obtain⟨y,hq⟩:∃ y,q[i]?=some y:=⟨_,List.getElem?_eq_getElem (by omega)⟩
    obtain⟨v1,v2⟩:=hI.2 i x _ hgi hq
    have h4:=hS.plain x.Name
    have hv:=v1.len
    obtain⟨hp,hp'⟩:=(k0z (a:=q7M g x.Name) (r:=y) (by omega) (by omega))
    have hb2:=x0w (a:=q7M g x.Name) (r:=y) (by omega)
    have hsl:s.length≤4:=by omega
    have e:q9j g q i x s=if (phO (q7M g x.Name) y).2=true then some (.inl (s++[(phO (q7M g x.Name) y).1])) else some (.inr ([],false)):=by
     unfold q9j
     rw[j4F (q9B h0),bsS,hq,bsS,hp,bsS]
     generalize phO (q7M g x.Name) y=z
     obtain⟨ps,c⟩:=z
     cases c with
     | false=>exact (ifN Bool.false_ne_true).trans (ifN Bool.false_ne_true).symm
     | true=>exact (ifP rfl).trans ((q3C (by constructor<;>omega)).trans (ifP rfl).symm)
    have e' : q6X g q true (s,(i:Int))=if (phO (q7M g x.Name) y).2=true then some (.inl (s++[(phO (q7M g x.Name) y).1],((i+1:Nat):Int))) else some (.inr (.inr ([],false))):=by
     unfold q6X
     dsimp only
     rw[ifP (by omega),ifP rfl,q3C (by omega),tnC,hgi,bsS,j4E (q9B h0),bsS,q3C (by omega),hq,bsS,hp',bsS]
     generalize phO (q7M g x.Name) y=z
     obtain⟨ps,c⟩:=z
     cases c with
     | false=>exact (ifN Bool.false_ne_true).trans (ifN Bool.false_ne_true).symm
     | true=>exact (ifP rfl).trans ((q3C (by constructor<;>omega)).trans ((q3C (by constructor<;>omega)).trans (ifP rfl).symm))
    rw[findL,e]
    by_cases hb:(phO (q7M g x.Name) y).2=true
    ·rw[ifP hb] at e' ⊢
     rw[bsS,q3S e']
     exact ih (i+1) _ d2.symm (by simp[hs]) (by omega) fun p hp=>by
      rcases List.mem_append.1 hp with hp|hp
      ·exact hps p hp
      ·rw[List.mem_singleton] at hp;subst hp;exact hb2
    ·rw[ifN hb] at e' ⊢
     exact .inr ⟨rfl,q3F e'⟩
  rcases key g.Symbols 0 [] rfl rfl (Nat.zero_le _) (fun p hp=>nomatch hp) with ⟨s',e,e',h1,h2⟩|⟨e,e'⟩
  ·rw[show ((0:Nat):Int)=0 from rfl] at e'
   rw[e,e'];exact⟨s',true,rfl,rfl,by omega,h2⟩
  ·rw[show ((0:Nat):Int)=0 from rfl] at e'
   rw[e,e'];exact⟨[],false,rfl,rfl,by simp,fun p hp=>(nomatch hp)⟩
end Go.Proofs.YtcegfmageiicaaaGreat
namespace Go.Proofs.YtcegfmageiicaaaGreat
open Go Go.E
theorem j0S {α ρ:Type}{c:ρ}{q:α→Bool}:∀ {xs:List α} {i:Nat} {f:Nat→α→Unit→Option (Unit ⊕ ρ)},(∀ k x,x∈xs→f k x ()=some (if q x=true then .inl () else .inr c))→findL f i xs ()=some (if xs.all q=true then .inl () else .inr c)
 | [],i,f,_=>rfl
 | x::xs,i,f,h=>by
  rw[findL,h i x List.mem_cons_self,bsS]
  cases hq:q x with
  | true=>
   show findL f (i+1) xs ()=_
   rw[j0S fun k y hy=>h k y (List.mem_cons_of_mem _ hy)]
   simp[hq]
  | false=>simp[hq]
theorem z8z {α:Type}{q:α→Bool}:∀ {xs:List α} {i:Nat} {f:Nat→α→Unit→Option (Unit ⊕ Int)},(∀ k x,x∈xs→f k x ()=some (if q x=true then .inr (k:Int) else .inl ())) →
  ∃ z:Int,(findL f i xs ()).bind (onr (fun r1=>some r1) fun _=>some (-1))=some z∧decide (0≤z)=xs.any q
 | [],i,f,_=>⟨-1,rfl,rfl⟩
 | x::xs,i,f,h=>by
  rw[findL,h i x List.mem_cons_self,bsS]
  cases hq:q x with
  | true=>exact⟨(i:Int),rfl,by simp[hq]⟩
  | false=>
   obtain⟨z,h1,h2⟩:=z8z (xs:=xs) (i:=i+1) fun k y hy=>h k y (List.mem_cons_of_mem _ hy)
   exact⟨z,h1,by simp[hq,h2]⟩
theorem j8V {α ρ:Type}:∀ {xs:List α} {i:Nat} {f:Nat→α→Unit→Option (Unit ⊕ ρ)},(∀ k x,∃ z,f k x ()=some z)→∃ z,findL f i xs ()=some z
 | [],i,f,_=>⟨_,rfl⟩
 | x::xs,i,f,h=>by
  obtain⟨z,hz⟩:=h i x
  rw[findL,hz,bsS]
  cases z with
  | inl u=>exact j8V (xs:=xs) (i:=i+1) h
  | inr r=>exact⟨_,rfl⟩
theorem j1G {α β:Type}{g:α→β}{B:Nat}{f:Nat→α→List β→Option (List β)}(hf:∀ k x s,s.length<B→f k x s=some (s++[g x])):∀ (xs:List α) (i:Nat) (s:List β),s.length+xs.length≤B→eachL f i xs s=some (s++xs.map g)
 | [],i,s,_=>by simp[eachL]
 | x::xs,i,s,h=>by
  simp only[lnC] at h
  rw[eachL,hf i x s (by omega),bsS,j1G hf xs (i+1) _ (by simp;omega)]
  simp
theorem k3e (g:Grammar)(n:ByteArray):q6E g n=z0e g n:=by
 have e:q4E n=z5X n:=by
  funext k x u
  unfold q4E z5X q9h
  rw[bsS]
  by_cases h:x.Name=n<;>simp[h]
 unfold q6E q4i z0e
 rw[e]
 exact Option.bind_fun_some _
theorem j5Z (g:Grammar)(n:ByteArray):∃ k,z0e g n=some k:=by
 obtain⟨z,hz⟩:=j8V (xs:=g.Symbols) (i:=0) (f:=z5X n) fun k x=>by
  unfold z5X;by_cases h:x.Name=n
  ·exact⟨_,ifP h⟩
  ·exact⟨_,ifN h⟩
 unfold z0e
 rw[hz]
 cases z with
 | inl u=>exact⟨_,rfl⟩
 | inr r=>exact⟨_,rfl⟩
noncomputable def phS (g:Grammar) (ph:List (List Phase)) (n:ByteArray):List Phase:=(q7n g ph n).getD []
theorem j8W (g:Grammar)(ph:List (List Phase))(n:ByteArray):q7n g ph n=some (phS g ph n)∧(phS g ph n=[]∨phS g ph n∈ph):=by
 have:∃ p,q7n g ph n=some p∧(p=[]∨p∈ph):=by
  obtain⟨k,hk⟩:=j5Z g n
  unfold q7n
  rw[hk,bsS,z4V,bsS]
  by_cases h:0≤k∧k≤(ph.length:Int)-1
  ·rw[ifP (by simpa using h),q3C h.1]
   obtain⟨x,hx⟩:∃ x,ph[k.toNat]?=some x:=⟨_,List.getElem?_eq_getElem (by omega)⟩
   rw[hx]
   exact⟨x,rfl,.inr (List.mem_of_getElem? hx)⟩
  ·rw[ifN (by simpa using h)]
   exact⟨[],rfl,.inl rfl⟩
 obtain⟨p,h1,h2⟩:=this
 unfold phS
 rw[h1]
 exact⟨rfl,h2⟩
noncomputable def symS (r:Rule) (k:Int):ByteArray:=(q4P r k).getD ⟨#[]⟩
theorem k9K {r:Rule}(hl:r.Right.length≤1048576)(k:Int):q4P r k=some (symS r k):=by
 have:∃ x,q4P r k=some x:=by
  unfold q4P
  by_cases h0:k=0
  ·exact⟨_,ifP h0⟩
  ·rw[ifN h0,z4V,bsS]
   by_cases h:1≤k∧k≤(r.Right.length:Int)
   ·rw[ifP (by simpa using h),q3C (by constructor<;>omega),q3C (by omega)]
    obtain⟨x,hx⟩:∃ x,r.Right[(k-1).toNat]?=some x:=⟨_,List.getElem?_eq_getElem (by omega)⟩
    exact⟨x,by rw[hx];rfl⟩
   ·exact⟨_,ifN (by simpa using h)⟩
 obtain⟨x,hx⟩:=this
 unfold symS
 rw[hx];rfl
theorem k5z (r:Rule):symS r 0=r.Left:=by unfold symS q4P;rw[ifP rfl];rfl
theorem j6a {r:Rule}(hl:r.Right.length≤1048576){k:Int}(h1:1≤k)(h2:k≤(r.Right.length:Int)):r.Right[(k-1).toNat]?=some (symS r k):=by
 obtain⟨x,hx⟩:∃ x,r.Right[(k-1).toNat]?=some x:=⟨_,List.getElem?_eq_getElem (by omega)⟩
 unfold symS q4P
 rw[ifN (by omega),z4V,bsS,ifP (by simp;omega),q3C (by constructor<;>omega),q3C (by omega),hx];rfl
noncomputable def phP (g:Grammar) (ph:List (List Phase)) (r:Rule) (k:Int):List Phase:=phS g ph (symS r k)
theorem z4Z {g:Grammar}{ph:List (List Phase)}{r:Rule}(hl:r.Right.length≤1048576)(due K:List Oc)(V:List Int)(k:Int):q5N k ⟨g,ph,r,due,K,V⟩=some (phP g ph r k):=by
 unfold q5N
 dsimp only
 rw[j1t,k9K hl,bsS,k3e]
 have h:=(j8W g ph (symS r k)).1
 unfold q7n at h
 obtain⟨j,hj⟩:=j5Z g (symS r k)
 rw[hj,bsS,z4V] at h
 rw[hj,bsS,z9h]
 exact h
theorem j2T (K:List Oc)(o:Oc):q6O K o=some (decide (o∈K)):=by
 unfold q6O
 have hany:=z8r (c:=true) (xs:=K) (i:=0) (p:=fun _ x=>x=o) (f:=z5m o) fun k x _=>by
  unfold z5m
  exact⟨fun h=>ifP h,fun h=>ifN h⟩
 by_cases h:o∈K
 ·obtain⟨j,hj,e⟩:=List.getElem_of_mem h
  rw[hany.1 ⟨j,o,by rw[List.getElem?_eq_getElem hj,e],rfl⟩,decide_eq_true h];rfl
 ·rw[hany.2 fun k x hx e=>h (e▸List.mem_of_getElem? hx),decide_eq_false h];rfl
theorem j0T (K:List Oc)(o:Oc):q3H K o=some (decide (o∈K)):=by
 unfold q3H q3P
 obtain⟨z,h1,h2⟩:=z8z (q:=fun x=>decide (x=o)) (xs:=K) (i:=0) (f:=q3J o) fun k x _=>by
  unfold q3J
  by_cases h:x=o
  ·rw[ifP h.symm,decide_eq_true h,ifP rfl]
  ·rw[ifN (fun e=>h e.symm),decide_eq_false h,ifN (by simp)]
 rw[h1,bsS,h2]
 congr 1
 by_cases h:o∈K
 ·rw[decide_eq_true h,List.any_eq_true];exact⟨o,h,by simp⟩
 ·rw[decide_eq_false h]
  rw[List.any_eq_false]
  intro x hx e
  exact h (of_decide_eq_true e▸hx)
def z5C (K:List Oc)(pos:Int)(names:List ByteArray):Bool:=names.all fun n=>decide ((⟨pos,n⟩:Oc)∈K)
theorem k0G {α:Type}(q:α→Bool)(xs:List α):(!xs.any fun x=>!q x)=xs.all q:=by
 induction xs with
 | nil=>rfl
 | cons x xs ih=>simp only[List.any_cons,List.all_cons,← ih];cases q x<;>simp
theorem j8X (z:l28Work)(pos:Int)(names:List ByteArray):z2r z pos names=some (z5C z.known pos names):=by
 unfold z2r z5C
 rw[j0S (c:=false) (q:=fun n=>decide ((⟨pos,n⟩:Oc)∈z.known)) fun k x _=>by
  unfold j1U
  rw[j2T,bsS]
  by_cases h:(⟨pos,x⟩:Oc)∈z.known<;>simp[h]]
 cases names.all fun n=>decide ((⟨pos,n⟩:Oc)∈z.known)<;>rfl
theorem j8Y (v:visits)(pos:Int)(names:List ByteArray):q8z v pos names=some (z5C v.known pos names):=by
 unfold q8z q4t q4H
 obtain⟨z,h1,h2⟩:=z8z (q:=fun n=>!decide ((⟨pos,n⟩:Oc)∈v.known)) (xs:=names) (i:=0) (f:=q5n v pos) fun k x _=>by
  unfold q5n z0l
  rw[j0T,bsS,bsS]
  split<;>rfl
 rw[h1,bsS,h2,bsS,k0G]
 rfl
theorem j8Z {z:l28Work}(pos:Int)(names:List ByteArray)(h:z.known.length+names.length≤4398046511104):z2q pos names z=some ⟨z.g,z.r,z.phases,z.known++names.map (fun n=>(⟨pos,n⟩:Oc)),z.visits,z.steps⟩:=by
 unfold z2q
 rw[j1G (g:=fun n=>(⟨pos,n⟩:Oc)) (B:=4398046511104) (fun k x s hs=>by
  unfold j1T;rw[q3C (by constructor<;>omega)];try rfl) names 0 z.known h];rfl
theorem j9a {v:visits}(pos:Int)(names:List ByteArray)(h:v.known.length+names.length≤4398046511104):q8x pos names v=some ⟨v.g,v.phases,v.r,v.due,v.known++names.map (fun n=>(⟨pos,n⟩:Oc)),v.next⟩:=by
 unfold q8x
 rw[j1G (g:=fun n=>(⟨pos,n⟩:Oc)) (B:=4398046511104) (fun k x s hs=>by
  unfold z7o;rw[q3C (by constructor<;>omega)]) names 0 v.known h];rfl
noncomputable def z5a (r:Rule) (K:List Oc) (o:Oc):Bool:=(eqAt r o).2&&(attrs (eqAt r o).1).all fun u=>decide (u∈K)
theorem k3f {z:l28Work}(h:Sz.szd z.r≤1048576)(o:Oc):z3s z o=some (z5a z.r z.known o):=by
 unfold z3s z5a
 rw[j2Q h o,bsS]
 dsimp only
 rw[j7e (j7f h o),bsS,j0S (c:=false) (q:=fun u=>decide (u∈z.known)) fun k x _=>by
  unfold j0x
  rw[j2T,bsS]
  by_cases h:x∈z.known<;>simp[h]]
 cases (attrs (eqAt z.r o).1).all fun u=>decide (u∈z.known) with
 | true=>simp
 | false=>simp
theorem k3g {v:visits}(h:Sz.szd v.r≤1048576)(o:Oc):q8y v o=some (decide (o∈v.due)&&(!decide (o∈v.known)&&z5a v.r v.known o)):=by
 unfold q8y z5a
 rw[j0T,bsS]
 by_cases h1:o∈v.due
 ·rw[ifP (by simpa using h1),j0T,bsS]
  by_cases h2:o∈v.known
  ·rw[ifP (by simpa using h2)];simp[h2]
  ·rw[ifN (by simpa using h2),(k0j h o).2,bsS]
   dsimp only
   cases h3:(eqAt v.r o).2 with
   | false=>simp
   | true=>
    rw[ifP rfl,j2P (j7f h o),bsS]
    unfold q3Y q4k
    obtain⟨z,e1,e2⟩:=z8z (q:=fun u=>!decide (u∈v.known)) (xs:=attrs (eqAt v.r o).1) (i:=0) (f:=q4X v) fun k x _=>by
     unfold q4X q8T
     rw[j0T,bsS,bsS]
     split<;>rfl
    rw[e1,bsS,e2,bsS,k0G]
    simp[h1,h2]
 ·rw[ifN (by simpa using h1)];simp[h1]
end Go.Proofs.YtcegfmageiicaaaGreat
namespace Go.Proofs.YtcegfmageiicaaaGreat
open Go Go.E
def at0 (V:List Int)(k:Int):Int:=V.getD k.toNat 0
def zP:Phase:=⟨[],[]⟩
def addN (K:List Oc)(pos:Int)(names:List ByteArray):List Oc:=K++names.map fun n=>(⟨pos,n⟩:Oc)
noncomputable def phAt (g:Grammar) (ph:List (List Phase)) (r:Rule) (k v:Int):Phase:=(phP g ph r k).getD v.toNat zP
structure Iv (g:Grammar) (ph:List (List Phase)) (r:Rule) (K:List Oc) (V:List Int) (B:Nat):Prop where
 len:V.length=r.Right.length+1
 rng:∀ k:Nat,k≤r.Right.length→0≤V.getD k 0∧V.getD k 0≤((phP g ph r (k:Int)).length:Int)
 kn:K.length≤B
theorem k9L (g:Grammar)(ph:List (List Phase))(r:Rule)(k:Int):phP g ph r k=[]∨phP g ph r k∈ph:=(j8W g ph (symS r k)).2
theorem z8A {g:Grammar}{ph:List (List Phase)}{r:Rule}{k v:Int}(h0:0≤v)(h1:v<((phP g ph r k).length:Int)):(phP g ph r k)[v.toNat]?=some (phAt g ph r k v):=by
 unfold phAt
 obtain⟨x,hx⟩:∃ x,(phP g ph r k)[v.toNat]?=some x:=⟨_,List.getElem?_eq_getElem (by omega)⟩
 rw[List.getD_eq_getElem?_getD,hx];rfl
section
variable {g:Grammar}{ph:List (List Phase)}{r:Rule}{R K K' : List Oc}{V V' : List Int}{B:Nat}{x:Step}
theorem Iv.at' (H:Iv g ph r K V B){k:Int}(h0:0≤k)(h1:k≤(r.Right.length:Int)):0≤at0 V k∧at0 V k≤((phP g ph r k).length:Int)∧V[k.toNat]?=some (at0 V k):=by
 have h:=H.rng k.toNat (by omega)
 have e:((k.toNat:Nat):Int)=k:=by omega
 rw[e] at h
 refine⟨h.1,h.2,?_⟩
 unfold at0
 obtain⟨y,hy⟩:∃ y,V[k.toNat]?=some y:=⟨_,List.getElem?_eq_getElem (by rw[H.len];omega)⟩
 rw[List.getD_eq_getElem?_getD,hy];rfl
theorem k8k {k:Int}{y:Int}(hk:k.toNat<V.length)(j:Int):at0 (V.set k.toNat y) j=if k.toNat=j.toNat then y else at0 V j:=by
 unfold at0
 rw[List.getD_eq_getElem?_getD,List.getElem?_set,List.getD_eq_getElem?_getD]
 by_cases h:k.toNat=j.toNat
 ·rw[ifP h,ifP h,ifP (by omega)];rfl
 ·rw[ifN h,ifN h]
theorem Iv.set (H:Iv g ph r K V B){k:Int}{y:Int}(h0:0≤k)(h1:k≤(r.Right.length:Int))(y0:0≤y)(y1:y≤((phP g ph r k).length:Int)){K' : List Oc}{B' : Nat}(hK:K'.length≤B'):Iv g ph r K' (V.set k.toNat y) B':=by
 refine⟨by simp[H.len],fun j hj=>?_,hK⟩
 have hkl:k.toNat<V.length:=by rw[H.len];omega
 have:=k8k (y:=y) hkl (j:Int)
 have hj' : at0 (V.set k.toNat y) (j:Int)=(V.set k.toNat y).getD j 0:=by unfold at0;rw[tnC]
 rw[← hj',this]
 by_cases h:k.toNat=((j:Nat):Int).toNat
 ·rw[ifP h]
  have e:((j:Nat):Int)=k:=by omega
  rw[e];exact⟨y0,y1⟩
 ·rw[ifN h]
  have:=H.rng j hj
  unfold at0;rw[tnC];exact this
theorem k5A (H:Iv g ph r K V B){k:Int}(h0:1≤k)(h1:k≤(r.Right.length:Int)):(V.drop 1)[(k-1).toNat]?=some (at0 V k):=by
 rw[List.getElem?_drop,show 1+(k-1).toNat=k.toNat by omega]
 exact (H.at' (by omega) h1).2.2
end
end Go.Proofs.YtcegfmageiicaaaGreat
namespace Go.Proofs.YtcegfmageiicaaaGreat
open Go Go.E
section
variable {g:Grammar}{ph:List (List Phase)}{r:Rule}{R K K' : List Oc}{V V' : List Int}{B:Nat}{x:Step}
theorem j4N (hr:Sz.szd r≤1048576)(H:Iv g ph r K V B)(k:Int):q8e ⟨g,ph,r,R,K,V⟩ k=some (decide (1≤k∧k≤(r.Right.length:Int))&&(decide (at0 V k<((phP g ph r k).length:Int))&&z5C K k (phAt g ph r k (at0 V k)).Inherited)):=by
 have hl:=q5i hr
 unfold q8e
 rw[z4Z hl,bsS,z9h,bsS]
 dsimp only
 by_cases hp:1≤k∧k≤(r.Right.length:Int)
 ·obtain⟨a1,a2,a3⟩:=H.at' (k:=k) (by omega) hp.2
  rw[ifP (by simpa using hp),q3C (by omega),a3,bsS,bsS]
  by_cases hc:at0 V k<((phP g ph r k).length:Int)
  ·rw[ifP (by simpa using hc),q3C (by omega),bsS,q3C a1,z8A a1 hc,bsS,j8Y,bsS,bsS]
   simp[hp,hc]
  ·rw[ifN (by simpa using hc)];simp[hc]
 ·rw[ifN (by simpa using hp)];simp[hp]
end
section
variable {g:Grammar}{ph:List (List Phase)}{r:Rule}{R K K' : List Oc}{V V' : List Int}{B:Nat}
noncomputable def j4O (g:Grammar) (ph:List (List Phase)) (r:Rule) (R K:List Oc) (V:List Int):Bool:=
 R.all (fun o=>decide (o∈K))&&(List.range r.Right.length).all fun j=>decide (V.getD (j+1) 0=((phP g ph r ((j+1:Nat):Int)).length:Int))
theorem k5B (hr:Sz.szd r≤1048576)(hR:q3M g r=some R)(H:Iv g ph r K V B):z0Y ⟨g,r,ph,K,V.drop 1,[]⟩=some (j4O g ph r R K V):=by
 have hl:=q5i hr
 unfold z0Y j4O
 dsimp only
 rw[hR,bsS,j0S (c:=false) (q:=fun o=>decide (o∈K)) fun k x _=>by
  unfold j1W
  rw[j2T,bsS]
  by_cases h:x∈K<;>simp[h]]
 cases R.all (fun o=>decide (o∈K)) with
 | false=>rfl
 | true=>
  rw[ifP rfl,bsS]
  show ((findL (z5v ⟨g,r,ph,K,V.drop 1,[]⟩) 0 r.Right ()).bind _:Option Bool)=_
  have hany:=z8r (c:=false) (xs:=r.Right) (i:=0) (p:=fun j _=>V.getD (j+1) 0≠((phP g ph r ((j+1:Nat):Int)).length:Int)) (f:=z5v ⟨g,r,ph,K,V.drop 1,[]⟩) fun j y hy=>by
   rw[Nat.zero_add]
   have hj:=(List.getElem?_eq_some_iff.1 hy).1
   have h1:=k5A H (k:=((j+1:Nat):Int)) (by omega) (by omega)
   have h2:=j6a hl (k:=((j+1:Nat):Int)) (by omega) (by omega)
   have e:(((j+1:Nat):Int)-1).toNat=j:=by omega
   rw[e] at h1 h2
   rw[hy] at h2
   cases h2
   have h3:at0 V ((j+1:Nat):Int)=V.getD (j+1) 0:=by unfold at0;rw[tnC]
   unfold z5v
   dsimp only
   rw[h1,bsS,(j8W g ph _).1,bsS,h3]
   exact⟨fun h=>ifN h,fun h=>ifP (Classical.not_not.1 h)⟩
  cases hb:(List.range r.Right.length).all fun j=>decide (V.getD (j+1) 0=((phP g ph r ((j+1:Nat):Int)).length:Int)) with
  | true=>
   rw[hany.2 fun j y hy hp=>?_]
   ·rfl
   ·rw[Nat.zero_add] at hp
    have hj:=(List.getElem?_eq_some_iff.1 hy).1
    have:=List.all_eq_true.1 hb j (List.mem_range.2 hj)
    exact hp (of_decide_eq_true this)
  | false=>
   have:∃ j,j<r.Right.length∧V.getD (j+1) 0≠((phP g ph r ((j+1:Nat):Int)).length:Int):=by
    apply Classical.byContradiction
    intro hn
    have:((List.range r.Right.length).all fun j=>decide (V.getD (j+1) 0=((phP g ph r ((j+1:Nat):Int)).length:Int)))=true:=List.all_eq_true.2 fun j hj=>decide_eq_true (Classical.not_not.1 fun h=>hn ⟨j,List.mem_range.1 hj,h⟩)
    rw[this] at hb;cases hb
   obtain⟨j,hj,hp⟩:=this
   rw[hany.1 ⟨j,_,List.getElem?_eq_getElem hj,by rw[Nat.zero_add];exact hp⟩];rfl
theorem k0H (hr:Sz.szd r≤1048576)(H:Iv g ph r K V B):q6k ⟨g,ph,r,R,K,V⟩=some (j4O g ph r R K V):=by
 have hl:=q5i hr
 have hR:q3G R ⟨g,ph,r,R,K,V⟩=some (!R.all fun o=>decide (o∈K)):=by
  unfold q3G q4g
  obtain⟨z,h1,h2⟩:=z8z (q:=fun u=>!decide (u∈K)) (xs:=R) (i:=0) (f:=q4Q ⟨g,ph,r,R,K,V⟩) fun k x _=>by
   unfold q4Q q8r
   rw[j0T,bsS,bsS]
   split<;>rfl
  rw[h1,bsS,h2,← k0G,Bool.not_not]
 have hloop:∀ m j:Nat,j+m=r.Right.length→(∀ q,q<j→V.getD (q+1) 0=((phP g ph r ((q+1:Nat):Int)).length:Int))→q4l (q7K ⟨g,ph,r,R,K,V⟩) ((j+1:Nat):Int)=some (if ((List.range r.Right.length).all fun j=>decide (V.getD (j+1) 0=((phP g ph r ((j+1:Nat):Int)).length:Int)))=true then .inl () else .inr false):=by
  intro m
  induction m with
  | zero=>
   intro j hj hq
   have hb:((List.range r.Right.length).all fun j=>decide (V.getD (j+1) 0=((phP g ph r ((j+1:Nat):Int)).length:Int)))=true:=List.all_eq_true.2 fun q h=>decide_eq_true (hq q (by have:=List.mem_range.1 h;omega))
   rw[hb,ifP rfl]
   exact q3F (by unfold q7K;dsimp only;rw[ifN (by omega)])
  | succ m ih=>
   intro j hj hq
   have h3:at0 V ((j+1:Nat):Int)=V.getD (j+1) 0:=by unfold at0;rw[tnC]
   obtain⟨a1,a2,a3⟩:=H.at' (k:=((j+1:Nat):Int)) (by omega) (by omega)
   rw[h3] at a1 a2 a3
   by_cases hc:V.getD (j+1) 0<((phP g ph r ((j+1:Nat):Int)).length:Int)
   ·have hb:((List.range r.Right.length).all fun j=>decide (V.getD (j+1) 0=((phP g ph r ((j+1:Nat):Int)).length:Int)))=false:=by
     rw[List.all_eq_false]
     exact⟨j,List.mem_range.2 (by omega),by rw[decide_eq_false (by omega)];exact Bool.false_ne_true⟩
    rw[hb,ifN (by simp)]
    refine q3F ?_
    unfold q7K
    dsimp only
    rw[ifP (by omega),q3C (by omega),a3,bsS,z4Z hl,bsS,ifP hc]
   ·rw[q3S (s':=((j+1+1:Nat):Int)) (by
     unfold q7K
     dsimp only
     rw[ifP (by omega),q3C (by omega),a3,bsS,z4Z hl,bsS,ifN hc,q3C (by constructor<;>omega)];rfl)]
    refine ih (j+1) (by omega) fun q hq'=>?_
    by_cases e:q=j
    ·rw[e];exact Int.le_antisymm a2 (Int.not_lt.1 hc)
    ·exact hq q (by omega)
 have h0:=hloop r.Right.length 0 (by omega) (fun q hq=>by omega)
 have e1:((0+1:Nat):Int)=1:=rfl
 rw[e1] at h0
 unfold q6k j4O
 rw[h0,bsS]
 cases (List.range r.Right.length).all fun j=>decide (V.getD (j+1) 0=((phP g ph r ((j+1:Nat):Int)).length:Int)) with
 | false=>simp
 | true=>
  show (q3G R ⟨g,ph,r,R,K,V⟩).bind _=_
  rw[hR,bsS,Bool.not_not,Bool.and_true]
end
end Go.Proofs.YtcegfmageiicaaaGreat
namespace Go.Proofs.YtcegfmageiicaaaGreat
open Go Go.E
theorem j4P {α ρ:Type}{q:α→Bool}{h:α→ρ}:∀ {xs:List α} {i:Nat} {f:Nat→α→Unit→Option (Unit ⊕ ρ)},(∀ k x,x∈xs→f k x ()=some (if q x=true then .inr (h x) else .inl ()))→findL f i xs ()=some (match xs.find? q with|some x=>.inr (h x)|none=>.inl ())
 | [],i,f,_=>rfl
 | x::xs,i,f,hf=>by
  rw[findL,hf i x List.mem_cons_self,bsS,List.find?_cons]
  cases hq:q x with
  | true=>rfl
  | false=>exact j4P (xs:=xs) (i:=i+1) fun k y hy=>hf k y (List.mem_cons_of_mem _ hy)
def fndN (q:Nat→Bool):Nat→Nat→Option Nat
 | _,0=>none
 | i,n+1=>if q i=true then some i else fndN q (i+1) n
theorem j9b {q:Nat→Bool}{k:Nat}:∀ {n i:Nat},fndN q i n=some k→i≤k∧k<i+n∧q k=true
 | 0,i,h=>by cases h
 | n+1,i,h=>by
  rw[fndN] at h
  by_cases hq:q i=true
  ·rw[ifP hq] at h;cases h;exact⟨Nat.le_refl _,by omega,hq⟩
  ·rw[ifN hq] at h
   obtain⟨a,b,c⟩:=j9b (n:=n) h
   exact⟨by omega,by omega,c⟩
theorem j6b {α ρ:Type}{q:Nat→Bool}{h:Nat→ρ}:∀ {xs:List α} {i:Nat} {f:Nat→α→Unit→Option (Unit ⊕ ρ)},(∀ k x,xs[k]?=some x→f (i+k) x ()=some (if q (i+k)=true then .inr (h (i+k)) else .inl ()))→findL f i xs ()=some (match fndN q i xs.length with|some k=>.inr (h k)|none=>.inl ())
 | [],i,f,_=>rfl
 | x::xs,i,f,hf=>by
  rw[findL,show f i x ()=some (if q i=true then .inr (h i) else .inl ()) from hf 0 x rfl,bsS,lnC,fndN]
  by_cases hq:q i=true
  ·rw[ifP hq,ifP hq]
  ·rw[ifN hq,ifN hq]
   refine j6b (xs:=xs) (i:=i+1) fun k y hy=>?_
   have:=hf (k+1) y hy
   rw[show i+1+k=i+(k+1) by omega];exact this
theorem j9c {ph:List (List Phase)}(h:∀ p∈ph,PS p)(g:Grammar)(r:Rule)(k:Int):PS (phP g ph r k):=by
 rcases k9L g ph r k with e|e
 ·rw[e];exact⟨by simp,fun x hx=>nomatch hx⟩
 ·exact h _ e
theorem k5C {ph:List (List Phase)}(h:∀ p∈ph,PS p)(g:Grammar)(r:Rule){k v:Int}(h0:0≤v)(h1:v<((phP g ph r k).length:Int)):PB (phAt g ph r k v):=
 (j9c h g r k).2 _ (List.mem_of_getElem? (z8A h0 h1))
section
variable {g:Grammar}{ph:List (List Phase)}{r:Rule}{R K K' : List Oc}{V V' : List Int}{B:Nat}{x:Step}
noncomputable def nxE (r:Rule) (R K:List Oc):Option Oc:=R.find? fun o=>!decide (o∈K)&&z5a r K o
noncomputable def vsB (g:Grammar) (ph:List (List Phase)) (r:Rule) (K:List Oc) (V:List Int) (j:Nat):Bool:=decide (at0 V ((j+1:Nat):Int)<((phP g ph r ((j+1:Nat):Int)).length:Int))&&z5C K ((j+1:Nat):Int) (phAt g ph r ((j+1:Nat):Int) (at0 V ((j+1:Nat):Int))).Inherited
noncomputable def nxV (g:Grammar) (ph:List (List Phase)) (r:Rule) (K:List Oc) (V:List Int):Option Nat:=fndN (vsB g ph r K V) 0 r.Right.length
noncomputable def vsK (g:Grammar) (ph:List (List Phase)) (r:Rule) (K:List Oc) (V:List Int) (j:Nat):List Oc:=addN K ((j+1:Nat):Int) (phAt g ph r ((j+1:Nat):Int) (at0 V ((j+1:Nat):Int))).Synthesized
def vsV (V:List Int)(j:Nat):List Int:=V.set (j+1) (at0 V ((j+1:Nat):Int)+1)
def vsS (V:List Int)(j:Nat):Step:=⟨2,((j+1:Nat):Int),at0 V ((j+1:Nat):Int)+1,(⟨#[]⟩:ByteArray)⟩
def evS (o:Oc):Step:=⟨1,o.Pos,0,o.Name⟩
theorem j7u (hr:Sz.szd r≤1048576)(hR:q3M g r=some R)(hK:K.length<3000000000000)(vs:List Int)(st:List Step)(hs:st.length<3000000000000):z6j ⟨g,r,ph,K,vs,st⟩=some (match nxE r R K with|some o=>(true,⟨g,r,ph,K++[o],vs,st++[evS o]⟩)|none=>(false,⟨g,r,ph,K,vs,st⟩)):=by
 unfold z6j nxE
 dsimp only
 rw[hR,bsS,j4P (q:=fun o=>!decide (o∈K)&&z5a r K o) (h:=fun o=>((true,⟨g,r,ph,K++[o],vs,st++[evS o]⟩):Bool×l28Work)) fun k x _=>by
  unfold j3F
  dsimp only
  rw[j2T,bsS]
  by_cases h:x∈K
  ·rw[ifP (by simpa using h)];simp[h]
  ·rw[ifN (by simpa using h),k3f hr,bsS]
   dsimp only
   cases hi:z5a r K x with
   | true=>rw[ifP rfl,q3C (by constructor<;>omega),q3C (by constructor<;>omega)];simp[h,evS]
   | false=>simp]
 cases R.find? (fun o=>!decide (o∈K)&&z5a r K o)<;>rfl
theorem j4Q (hph:∀ p∈ph,PS p)(hr:Sz.szd r≤1048576)(H:Iv g ph r K V B)(hB:B≤3000000000000)(st:List Step)(hs:st.length<3000000000000):z4M ⟨g,r,ph,K,V.drop 1,st⟩=some (match nxV g ph r K V with|some j=>(true,⟨g,r,ph,vsK g ph r K V j,(vsV V j).drop 1,st++[vsS V j]⟩)|none=>(false,⟨g,r,ph,K,V.drop 1,st⟩)):=by
 have hl:=q5i hr
 have hkn:=H.kn
 unfold z4M nxV
 dsimp only
 rw[j6b (q:=vsB g ph r K V) (h:=fun j=>((true,⟨g,r,ph,vsK g ph r K V j,(vsV V j).drop 1,st++[vsS V j]⟩):Bool×l28Work)) fun j y hy=>by
  rw[Nat.zero_add]
  have hj:=(List.getElem?_eq_some_iff.1 hy).1
  have h1:=k5A H (k:=((j+1:Nat):Int)) (by omega) (by omega)
  have h2:=j6a hl (k:=((j+1:Nat):Int)) (by omega) (by omega)
  have e:(((j+1:Nat):Int)-1).toNat=j:=by omega
  rw[e] at h1 h2
  rw[hy] at h2
  obtain⟨a1,a2,a3⟩:=H.at' (k:=((j+1:Nat):Int)) (by omega) (by omega)
  have hlen:=(j9c hph g r ((j+1:Nat):Int)).1
  have hy2:y=symS r ((j+1:Nat):Int):=Option.some.inj h2
  unfold j1V
  dsimp only
  rw[hy2,(j8W g ph _).1,bsS,h1,bsS]
  show (if at0 V ((j+1:Nat):Int)<((phP g ph r ((j+1:Nat):Int)).length:Int) then _ else _)=_
  by_cases hc:at0 V ((j+1:Nat):Int)<((phP g ph r ((j+1:Nat):Int)).length:Int)
  ·have hx:(phS g ph (symS r ((j+1:Nat):Int)))[(at0 V ((j+1:Nat):Int)).toNat]?=some (phAt g ph r ((j+1:Nat):Int) (at0 V ((j+1:Nat):Int))):=z8A a1 hc
   have hpb:=k5C hph g r a1 hc
   rw[ifP hc,q3C a1,hx,bsS,j8X,bsS]
   dsimp only
   unfold vsB
   cases hk:z5C K ((j+1:Nat):Int) (phAt g ph r ((j+1:Nat):Int) (at0 V ((j+1:Nat):Int))).Inherited with
   | true=>
    rw[ifP rfl,q3C (by constructor<;>omega),q3C (by constructor<;>omega),q3C (by constructor<;>omega),j8Z _ _ (by dsimp only;have:=hpb.2;omega),bsS]
    dsimp only
    rw[ifP (by rw[decide_eq_true hc];rfl),List.set_drop,show 1+j=j+1 by omega];rfl
   | false=>rw[ifN (by simp),ifN (by simp)]
  ·rw[ifN hc,ifN (by unfold vsB;rw[decide_eq_false hc];simp)]]
 cases fndN (vsB g ph r K V) 0 r.Right.length<;>rfl
theorem k5D (hph:∀ p∈ph,PS p)(hr:Sz.szd r≤1048576)(H:Iv g ph r K V B)(hB:B≤3000000000000){k:Int}(hp:1≤k∧k≤(r.Right.length:Int))(hc:at0 V k<((phP g ph r k).length:Int)) :
  q9Y k ⟨g,ph,r,R,K,V⟩=some ⟨g,ph,r,R,addN K k (phAt g ph r k (at0 V k)).Synthesized,V.set k.toNat (at0 V k+1)⟩:=by
 have hl:=q5i hr
 have hkn:=H.kn
 obtain⟨a1,a2,a3⟩:=H.at' (k:=k) (by omega) hp.2
 have hpl:=(j9c hph g r k).1
 have hlen:=(k5C hph g r a1 hc).2
 unfold q9Y
 rw[z4Z hl,bsS]
 dsimp only
 rw[q3C (by omega),a3,bsS,q3C a1,z8A a1 hc,bsS,j9a _ _ (by dsimp only;omega),bsS]
 dsimp only
 rw[q3C (by omega),a3,bsS,q3C (by constructor<;>omega)];rfl
noncomputable def nxS (g:Grammar) (ph:List (List Phase)) (r:Rule) (R K:List Oc) (V:List Int):Option (Step×List Oc×List Int):=
 match nxE r R K with
 | some o=>some (evS o,K++[o],V)
 | none=>match nxV g ph r K V with
  | some j=>some (vsS V j,vsK g ph r K V j,vsV V j)
  | none=>none
theorem k1S (hph:∀ p∈ph,PS p)(hr:Sz.szd r≤1048576)(H:Iv g ph r K V B)(hB:B<3000000000000):q8j ⟨g,ph,r,R,K,V⟩=some (match nxS g ph r R K V with|some (x,K',V')=>(x,true,⟨g,ph,r,R,K',V'⟩)|none=>(⟨0,0,0,(⟨#[]⟩:ByteArray)⟩,false,⟨g,ph,r,R,K,V⟩)):=by
 have hl:=q5i hr
 have hkn:=H.kn
 unfold q8j nxS nxE
 dsimp only
 rw[j4P (q:=fun o=>!decide (o∈K)&&z5a r K o) (h:=fun o=>((evS o,true,⟨g,ph,r,R,K++[o],V⟩):Step×Bool×visits)) fun k x hx=>by
  unfold z8h
  rw[k3g hr,bsS]
  dsimp only
  rw[decide_eq_true hx,Bool.true_and]
  cases (!decide (x∈K)&&z5a r K x) with
  | true=>rw[ifP rfl,q3C (by constructor<;>omega)];rfl
  | false=>rfl]
 cases R.find? (fun o=>!decide (o∈K)&&z5a r K o) with
 | some o=>rfl
 | none=>
  have hloop:∀ m j:Nat,j+m=r.Right.length→q4l (q8A ⟨g,ph,r,R,K,V⟩) ((j+1:Nat):Int)=some (match fndN (vsB g ph r K V) j m with|some j=>.inr (vsS V j,true,⟨g,ph,r,R,vsK g ph r K V j,vsV V j⟩)|none=>.inl ()):=by
   intro m
   induction m with
   | zero=>
    intro j hj
    exact q3F (by unfold q8A;dsimp only;rw[ifN (by omega)];rfl)
   | succ m ih=>
    intro j hj
    rw[fndN]
    obtain⟨a1,a2,a3⟩:=H.at' (k:=((j+1:Nat):Int)) (by omega) (by omega)
    have hin:decide (1≤((j+1:Nat):Int)∧((j+1:Nat):Int)≤(r.Right.length:Int))=true:=decide_eq_true (by omega)
    by_cases hv:vsB g ph r K V j=true
    ·rw[ifP hv]
     refine q3F ?_
     have hc:at0 V ((j+1:Nat):Int)<((phP g ph r ((j+1:Nat):Int)).length:Int):=by
      unfold vsB at hv;simp only[Bool.and_eq_true,decide_eq_true_eq] at hv;exact hv.1
     unfold q8A
     dsimp only
     rw[ifP (by omega),j4N hr H,hin,Bool.true_and,bsS,show (decide (at0 V ((j+1:Nat):Int)<((phP g ph r ((j+1:Nat):Int)).length:Int))&&z5C K ((j+1:Nat):Int) (phAt g ph r ((j+1:Nat):Int) (at0 V ((j+1:Nat):Int))).Inherited)=true from hv,ifP rfl,k5D hph hr H (by omega) (by omega) hc,bsS,q3C (by omega)]
     dsimp only
     rw[List.getElem?_set_self (by rw[H.len];omega),bsS]
     rfl
    ·rw[ifN hv]
     rw[q3S (s':=((j+1+1:Nat):Int)) (by
      unfold q8A
      dsimp only
      rw[ifP (by omega),j4N hr H,hin,Bool.true_and,bsS,show (decide (at0 V ((j+1:Nat):Int)<((phP g ph r ((j+1:Nat):Int)).length:Int))&&z5C K ((j+1:Nat):Int) (phAt g ph r ((j+1:Nat):Int) (at0 V ((j+1:Nat):Int))).Inherited)=false from Bool.eq_false_iff.2 hv,ifN (by simp),q3C (by constructor<;>omega)];rfl)]
     exact ih (j+1) (by omega)
  have h0:=hloop r.Right.length 0 (by omega)
  have e1:((0+1:Nat):Int)=1:=rfl
  rw[e1] at h0
  dsimp only
  rw[bsS]
  show (q4l (q8A ⟨g,ph,r,R,K,V⟩) 1).bind _=_
  rw[h0,bsS]
  unfold nxV
  cases fndN (vsB g ph r K V) 0 r.Right.length<;>rfl
end
end Go.Proofs.YtcegfmageiicaaaGreat
namespace Go.Proofs.YtcegfmageiicaaaGreat
open Go Go.E
def nK (R K:List Oc):Nat:=R.countP fun o=>!decide (o∈K)
theorem k0I {R K K' : List Oc}(h:∀ o∈K,o∈K'):nK R K'≤nK R K:=by
 unfold nK
 refine List.countP_mono_left fun o _ ho=>?_
 by_cases h1:o∈K
 ·simp[h o h1] at ho
 ·simp[h1]
theorem k5E {K:List Oc}{o:Oc}(hk:o∉K):∀ {R:List Oc},o∈R→nK R (K++[o])+1≤nK R K
 | x::R,ho=>by
  have hm:nK R (K++[o])≤nK R K:=k0I fun y hy=>List.mem_append_left _ hy
  unfold nK at hm ⊢
  rw[List.countP_cons,List.countP_cons]
  by_cases he:o=x
  ·subst he
   have ho' : o∈K++[o]:=by simp
   rw[ifN (by rw[decide_eq_true ho'];simp),ifP (by rw[decide_eq_false hk];rfl)]
   omega
  ·have ih:=k5E hk (R:=R) ((List.mem_cons.1 ho).resolve_left he)
   unfold nK at ih
   by_cases hx:x∈K
   ·have hx' : x∈K++[o]:=List.mem_append_left _ hx
    simp only[hx,hx',decide_true,Bool.not_true,Bool.false_eq_true,if_false]
    omega
   ·have hx' : x∉K++[o]:=fun h=>by
     rcases List.mem_append.1 h with h|h
     ·exact hx h
     ·exact he (List.mem_singleton.1 h).symm
    simp only[hx,hx',decide_false,Bool.not_false,if_true]
    omega
def sumN (f:Nat→Nat):Nat→Nat
 | 0=>0
 | n+1=>sumN f n+f n
theorem k5F {f:Nat→Nat}{C:Nat}:∀ {n:Nat},(∀ i,i<n→f i≤C)→sumN f n≤n*C
 | 0,_=>Nat.zero_le _
 | n+1,h=>by
  have h1:=k5F (n:=n) fun i hi=>h i (by omega)
  have h2:=h n (by omega)
  rw[sumN,Nat.succ_mul];omega
theorem k5G {f f' : Nat→Nat}:∀ {n:Nat},(∀ i,i<n→f' i=f i)→sumN f' n=sumN f n
 | 0,_=>rfl
 | n+1,h=>by rw[sumN,sumN,k5G (n:=n) fun i hi=>h i (by omega),h n (by omega)]
theorem k1T {f f' : Nat→Nat}{j c:Nat}:∀ {n:Nat},j<n→(∀ i,i<n→i≠j→f' i=f i)→f' j+c≤f j→sumN f' n+c≤sumN f n
 | n+1,hj,h,hc=>by
  rw[sumN,sumN]
  by_cases e:j=n
  ·subst e
   rw[k5G (n:=j) fun i hi=>h i (by omega) (by omega)];omega
  ·have h1:=k1T (n:=n) (by omega) (fun i hi hn=>h i (by omega) hn) hc
   rw[h n (by omega) (fun h=>e h.symm)];omega
def wP:List Phase→Nat
 | []=>0
 | p::l=>p.Synthesized.length+1+wP l
theorem x0x:∀ {l:List Phase},(∀ x∈l,PB x)→wP l≤17*l.length
 | [],_=>Nat.zero_le _
 | p::l,h=>by
  have h1:=x0x (l:=l) fun x hx=>h x (List.mem_cons_of_mem _ hx)
  have h2:=(h p List.mem_cons_self).2
  rw[wP,lnC];omega
theorem k9M {l:List Phase}{v:Nat}{p:Phase}(h:l[v]?=some p):wP (l.drop (v+1))+(p.Synthesized.length+1)≤wP (l.drop v):=by
 obtain⟨h1,h2⟩:=List.getElem?_eq_some_iff.1 h
 rw[List.drop_eq_getElem_cons h1,h2,wP];omega
def wI:List Phase→Nat
 | []=>0
 | p::l=>p.Inherited.length+1+wI l
theorem x0y:∀ {l:List Phase},(∀ x∈l,PB x)→wI l≤17*l.length
 | [],_=>Nat.zero_le _
 | p::l,h=>by
  have h1:=x0y (l:=l) fun x hx=>h x (List.mem_cons_of_mem _ hx)
  have h2:=(h p List.mem_cons_self).1
  rw[wI,lnC];omega
section
variable {g:Grammar}{ph:List (List Phase)}{r:Rule}{R K K' : List Oc}{V V' : List Int}{B:Nat}{x:Step}
noncomputable def muV (g:Grammar) (ph:List (List Phase)) (r:Rule) (V:List Int):Nat:=sumN (fun j=>wP ((phP g ph r ((j+1:Nat):Int)).drop (at0 V ((j+1:Nat):Int)).toNat)) r.Right.length
noncomputable def Phi (g:Grammar) (ph:List (List Phase)) (r:Rule) (R K:List Oc) (V:List Int):Nat:=K.length+2*nK R K+muV g ph r V
theorem k9N (pos:Int)(ns:List ByteArray):Phi g ph r R (addN K pos ns) V≤Phi g ph r R K V+ns.length:=by
 have h1:nK R (addN K pos ns)≤nK R K:=k0I fun o ho=>List.mem_append_left _ ho
 have h2:(addN K pos ns).length=K.length+ns.length:=by simp[addN]
 unfold Phi;omega
theorem k5H (hph:∀ p∈ph,PS p)(H:Iv g ph r K V B)(h:nxS g ph r R K V=some (x,K',V')):Iv g ph r K' V' K'.length∧Phi g ph r R K' V'+1≤Phi g ph r R K V:=by
 unfold nxS at h
 cases he:nxE r R K with
 | some o=>
  rw[he] at h
  cases h
  refine⟨⟨H.len,H.rng,Nat.le_refl _⟩,?_⟩
  have h1:=List.find?_some he
  have h2:=List.mem_of_find?_eq_some he
  have h3:o∉K:=by
   simp only[Bool.and_eq_true,Bool.not_eq_true',decide_eq_false_iff_not] at h1
   exact h1.1
  have:=k5E h3 h2
  have e:(K++[o]).length=K.length+1:=by simp
  unfold Phi
  omega
 | none=>
  rw[he] at h
  cases hv:nxV g ph r K V with
  | none=>rw[hv] at h;cases h
  | some j=>
   rw[hv] at h
   cases h
   obtain⟨_,h1,h2⟩:=j9b hv
   have hc:at0 V ((j+1:Nat):Int)<((phP g ph r ((j+1:Nat):Int)).length:Int):=by
    unfold vsB at h2;simp only[Bool.and_eq_true,decide_eq_true_eq] at h2;exact h2.1
   obtain⟨a1,a2,a3⟩:=H.at' (k:=((j+1:Nat):Int)) (by omega) (by omega)
   have hkl:((j+1:Nat):Int).toNat<V.length:=by rw[H.len];omega
   refine⟨H.set (k:=((j+1:Nat):Int)) (by omega) (by omega) (by omega) (by omega) (Nat.le_refl _),?_⟩
   have hx:=z8A (g:=g) (ph:=ph) (r:=r) a1 hc
   have hw:=k9M hx
   have hs:∀ i:Int,at0 (vsV V j) i=if ((j+1:Nat):Int).toNat=i.toNat then at0 V ((j+1:Nat):Int)+1 else at0 V i:=fun i=>k8k hkl i
   have hmu:muV g ph r (vsV V j)+((phAt g ph r ((j+1:Nat):Int) (at0 V ((j+1:Nat):Int))).Synthesized.length+1)≤muV g ph r V:=by
    unfold muV
    refine k1T (j:=j) (by omega) (fun i hi hn=>?_) ?_
    ·rw[hs,ifN (by omega)]
    ·rw[hs,ifP rfl,show (at0 V ((j+1:Nat):Int)+1).toNat=(at0 V ((j+1:Nat):Int)).toNat+1 by omega]
     exact hw
   have h3:nK R (vsK g ph r K V j)≤nK R K:=k0I fun o ho=>List.mem_append_left _ ho
   have h4:(vsK g ph r K V j).length=K.length+(phAt g ph r ((j+1:Nat):Int) (at0 V ((j+1:Nat):Int))).Synthesized.length:=by simp[vsK,addN]
   unfold Phi
   omega
inductive Blt (g:Grammar) (ph:List (List Phase)) (r:Rule) (R:List Oc):List Oc→List Int→List Step→List Oc→List Int→Prop
 | nil (K:List Oc) (V:List Int):Blt g ph r R K V [] K V
 | cons {K:List Oc} {V:List Int} {x:Step} {K1:List Oc} {V1:List Int} {xs:List Step} {K2:List Oc} {V2:List Int}:nxS g ph r R K V=some (x,K1,V1)→Blt g ph r R K1 V1 xs K2 V2→Blt g ph r R K V (x::xs) K2 V2
abbrev tupI (q:Step×Bool×visits)(st:List Step):Step×Bool×ByteArray×ByteArray×Bool×(List Oc)×(List Oc)×(List Int)×(List Step):=(q.1,q.2.1,q.2.2.r.Name,q.2.2.r.Left,q.2.2.r.Literal,q.2.2.due,q.2.2.known,q.2.2.next,st)
noncomputable def stp (g:Grammar) (ph:List (List Phase)) (r:Rule) (R K:List Oc) (V:List Int):Step×Bool×visits:=match nxS g ph r R K V with|some (x,K',V')=>(x,true,⟨g,ph,r,R,K',V'⟩)|none=>(⟨0,0,0,(⟨#[]⟩:ByteArray)⟩,false,⟨g,ph,r,R,K,V⟩)
theorem k5I (hph:∀ p∈ph,PS p)(hr:Sz.szd r≤1048576)(hR:q3M g r=some R)(K0:List Oc)(V0:List Int):∀ (n:Nat) {K:List Oc} {V:List Int} {st:List Step},Phi g ph r R K V≤n→Iv g ph r K V K.length→st.length+Phi g ph r R K V≤10000000 →
  ∃ K' V' st',(∃ xs,st'=st++xs∧Blt g ph r R K V xs K' V')∧Iv g ph r K' V' K'.length∧st'.length+Phi g ph r R K' V'≤st.length+Phi g ph r R K V ∧
   q4l (z2s g ph r) (V.drop 1,r.Name,r.Left,r.Literal,K,st)=some (V'.drop 1,r.Name,r.Left,r.Literal,K',st',false) ∧
   q4l (z6k ⟨g,ph,r,R,K0,V0⟩) (tupI (stp g ph r R K V) st)=some (r.Name,r.Left,r.Literal,R,K',V',st',0,0,0,(⟨#[]⟩:ByteArray)):=by
 intro n
 induction n with
 | zero=>
  intro K V st hn H hN
  cases hx:nxS g ph r R K V with
  | some q=>
   obtain⟨x,K1,V1⟩:=q
   have:=(k5H hph H hx).2
   omega
  | none=>
   have hk:K.length≤Phi g ph r R K V:=by unfold Phi;omega
   refine⟨K,V,st,⟨[],(List.append_nil _).symm,.nil _ _⟩,H,Nat.le_refl _,q3F ?_,q3F ?_⟩
   ·unfold z2s
    unfold nxS at hx
    cases he:nxE r R K with
    | some o=>rw[he] at hx;cases hx
    | none=>
     rw[he] at hx
     cases hv:nxV g ph r K V with
     | some j=>rw[hv] at hx;cases hx
     | none=>
      have e1:=j7u (ph:=ph) hr hR (K:=K) (by omega) (V.drop 1) st (by omega)
      have e2:=j4Q hph hr H (by omega) st (by omega)
      rw[he] at e1
      rw[hv] at e2
      dsimp only
      rw[show (⟨g,(⟨r.Name,r.Left,r.Right,r.Literal,r.Equations,r.Contributions⟩:Rule),ph,K,V.drop 1,st⟩:l28Work)=⟨g,r,ph,K,V.drop 1,st⟩ from rfl,e1,bsS]
      dsimp only
      rw[ifN (by simp),show (⟨g,(⟨r.Name,r.Left,r.Right,r.Literal,r.Equations,r.Contributions⟩:Rule),ph,K,V.drop 1,st⟩:l28Work)=⟨g,r,ph,K,V.drop 1,st⟩ from rfl,e2,bsS]
      rfl
   ·unfold stp z6k
    rw[hx]
    rfl
 | succ n ih=>
  intro K V st hn H hN
  have hk:K.length≤Phi g ph r R K V:=by unfold Phi;omega
  cases hx:nxS g ph r R K V with
  | none=>
   refine⟨K,V,st,⟨[],(List.append_nil _).symm,.nil _ _⟩,H,Nat.le_refl _,q3F ?_,q3F ?_⟩
   ·unfold z2s
    unfold nxS at hx
    cases he:nxE r R K with
    | some o=>rw[he] at hx;cases hx
    | none=>
     rw[he] at hx
     cases hv:nxV g ph r K V with
     | some j=>rw[hv] at hx;cases hx
     | none=>
      have e1:=j7u (ph:=ph) hr hR (K:=K) (by omega) (V.drop 1) st (by omega)
      have e2:=j4Q hph hr H (by omega) st (by omega)
      rw[he] at e1
      rw[hv] at e2
      dsimp only
      rw[show (⟨g,(⟨r.Name,r.Left,r.Right,r.Literal,r.Equations,r.Contributions⟩:Rule),ph,K,V.drop 1,st⟩:l28Work)=⟨g,r,ph,K,V.drop 1,st⟩ from rfl,e1,bsS]
      dsimp only
      rw[ifN (by simp),show (⟨g,(⟨r.Name,r.Left,r.Right,r.Literal,r.Equations,r.Contributions⟩:Rule),ph,K,V.drop 1,st⟩:l28Work)=⟨g,r,ph,K,V.drop 1,st⟩ from rfl,e2,bsS]
      rfl
   ·unfold stp z6k
    rw[hx]
    rfl
  | some q=>
   obtain⟨x,K1,V1⟩:=q
   obtain⟨H1,hd⟩:=k5H hph H hx
   have hk1:K1.length≤Phi g ph r R K1 V1:=by unfold Phi;omega
   have hst:(st++[x]).length=st.length+1:=by simp
   obtain⟨K',V',st',⟨ys,hys,hbl⟩,i1,i2,i3,i4⟩:=ih (K:=K1) (V:=V1) (st:=st++[x]) (by omega) H1 (by omega)
   refine⟨K',V',st',⟨x::ys,by rw[hys];simp,.cons hx hbl⟩,i1,by omega,?_,?_⟩
   ·rw[q3S (s':=(V1.drop 1,r.Name,r.Left,r.Literal,K1,st++[x])) ?_]
    ·exact i3
    ·unfold z2s
     have e1:=j7u (ph:=ph) hr hR (K:=K) (by omega) (V.drop 1) st (by omega)
     have e2:=j4Q hph hr H (by omega) st (by omega)
     unfold nxS at hx
     dsimp only
     rw[show (⟨g,(⟨r.Name,r.Left,r.Right,r.Literal,r.Equations,r.Contributions⟩:Rule),ph,K,V.drop 1,st⟩:l28Work)=⟨g,r,ph,K,V.drop 1,st⟩ from rfl,e1,bsS]
     cases he:nxE r R K with
     | some o=>
      rw[he] at hx
      cases hx
      rfl
     | none=>
      rw[he] at hx
      dsimp only
      rw[ifN (by simp),show (⟨g,(⟨r.Name,r.Left,r.Right,r.Literal,r.Equations,r.Contributions⟩:Rule),ph,K,V.drop 1,st⟩:l28Work)=⟨g,r,ph,K,V.drop 1,st⟩ from rfl,e2,bsS]
      cases hv:nxV g ph r K V with
      | none=>rw[hv] at hx;cases hx
      | some j=>
       rw[hv] at hx
       cases hx
       rfl
   ·rw[q3S (s':=tupI (stp g ph r R K1 V1) (st++[x])) ?_]
    ·exact i4
    ·have e:=k1S (R:=R) hph hr H1 (by omega)
     unfold stp z6k
     rw[hx]
     dsimp only
     rw[ifP rfl,q3C (by constructor<;>omega),show (⟨g,ph,(⟨r.Name,r.Left,r.Right,r.Literal,r.Equations,r.Contributions⟩:Rule),R,K1,V1⟩:visits)=⟨g,ph,r,R,K1,V1⟩ from rfl,e]
     cases nxS g ph r R K1 V1<;>rfl
end
end Go.Proofs.YtcegfmageiicaaaGreat
namespace Go.Proofs.YtcegfmageiicaaaGreat
open Go Go.E
section
variable {g:Grammar}{ph:List (List Phase)}{r:Rule}{R K K' : List Oc}{V V' : List Int}{B:Nat}{x:Step}
def fin (i:Nat):Step:=⟨3,0,((i+1:Nat):Int),(⟨#[]⟩:ByteArray)⟩
inductive Pst (g:Grammar) (ph:List (List Phase)) (r:Rule) (R:List Oc):Nat→List Phase→List Oc→List Int→List Step→List Oc→List Int→Prop
 | nil (i:Nat) (K:List Oc) (V:List Int):Pst g ph r R i [] K V [] K V
 | cons {i:Nat} {p:Phase} {ps:List Phase} {K:List Oc} {V:List Int} {ys zs:List Step} {K1:List Oc} {V1:List Int} {K2:List Oc} {V2:List Int}:Blt g ph r R (addN K 0 p.Inherited) V ys K1 V1→Iv g ph r (addN K 0 p.Inherited) V (addN K 0 p.Inherited).length→z5C K1 0 p.Synthesized=true→Pst g ph r R (i+1) ps K1 V1 zs K2 V2→Pst g ph r R i (p::ps) K V (ys++fin i::zs) K2 V2
theorem k1U (hph:∀ p∈ph,PS p)(hr:Sz.szd r≤1048576)(hR:q3M g r=some R)(K0:List Oc)(V0:List Int):∀ (xs:List Phase) (i:Nat) {K:List Oc} {V:List Int} {st:List Step},i+xs.length≤1048576→Iv g ph r K V K.length→st.length+Phi g ph r R K V+wI xs≤10000000 →
  (∃ K' V' st',(∃ zs,st'=st++zs∧Pst g ph r R i xs K V zs K' V')∧Iv g ph r K' V' K'.length∧st'.length≤10000000∧findL (z2t g ph r) i xs (V.drop 1,r.Name,r.Left,r.Literal,K,st)=some (.inl (V'.drop 1,r.Name,r.Left,r.Literal,K',st')) ∧
   findL (z4g ⟨g,ph,r,R,K0,V0⟩) i xs (r.Name,r.Left,r.Literal,R,K,V,st)=some (.inl (r.Name,r.Left,r.Literal,R,K',V',st'))) ∨
  (findL (z2t g ph r) i xs (V.drop 1,r.Name,r.Left,r.Literal,K,st)=some (.inr ([],false))∧findL (z4g ⟨g,ph,r,R,K0,V0⟩) i xs (r.Name,r.Left,r.Literal,R,K,V,st)=some (.inr ((⟨(⟨#[]⟩:ByteArray),[]⟩:RPl_),false)))
 | [],i,K,V,st,hi,H,hN=>.inl ⟨K,V,st,⟨[],(List.append_nil _).symm,.nil _ _ _⟩,H,by omega,rfl,rfl⟩
 | x::xs,i,K,V,st,hi,H,hN=>by
  rw[wI] at hN
  rw[lnC] at hi
  have hk:K.length≤Phi g ph r R K V:=by unfold Phi;omega
  have hadd:=k9N (g:=g) (ph:=ph) (r:=r) (R:=R) (K:=K) (V:=V) 0 x.Inherited
  have H1:Iv g ph r (addN K 0 x.Inherited) V (addN K 0 x.Inherited).length:=⟨H.len,H.rng,Nat.le_refl _⟩
  obtain⟨K1,V1,st1,⟨ys,hys,hbl⟩,i1,i2,i3,i4⟩:=k5I hph hr hR K0 V0 _ (K:=addN K 0 x.Inherited) (V:=V) (st:=st) (Nat.le_refl _) H1 (by omega)
  have hk1:(addN K 0 x.Inherited).length≤Phi g ph r R (addN K 0 x.Inherited) V:=by unfold Phi;omega
  have es:z2t g ph r i x (V.drop 1,r.Name,r.Left,r.Literal,K,st)=some (if z5C K1 0 x.Synthesized=true then .inl (V1.drop 1,r.Name,r.Left,r.Literal,K1,st1++[(⟨3,0,((i+1:Nat):Int),(⟨#[]⟩:ByteArray)⟩:Step)]) else .inr ([],false)):=by
   unfold z2t
   dsimp only
   rw[j8Z _ _ (by dsimp only;omega),bsS]
   dsimp only
   have i3' : q4l (z2s g ph r) (V.drop 1,r.Name,r.Left,r.Literal,K++x.Inherited.map (fun n=>(⟨0,n⟩:Oc)),st)=some (V1.drop 1,r.Name,r.Left,r.Literal,K1,st1,false):=i3
   rw[i3',bsS]
   dsimp only
   rw[j8X,bsS]
   dsimp only
   by_cases hb:z5C K1 0 x.Synthesized=true
   ·rw[ifP hb,ifP hb,q3C (by constructor<;>omega)]
   ·rw[ifN hb,ifN hb]
  have ei:z4g ⟨g,ph,r,R,K0,V0⟩ i x (r.Name,r.Left,r.Literal,R,K,V,st)=some (if z5C K1 0 x.Synthesized=true then .inl (r.Name,r.Left,r.Literal,R,K1,V1,st1++[(⟨3,0,((i+1:Nat):Int),(⟨#[]⟩:ByteArray)⟩:Step)]) else .inr ((⟨(⟨#[]⟩:ByteArray),[]⟩:RPl_),false)):=by
   unfold z4g
   dsimp only
   rw[j9a _ _ (by dsimp only;omega),bsS]
   dsimp only
   have e:q8j ⟨g,ph,r,R,K++x.Inherited.map (fun n=>(⟨0,n⟩:Oc)),V⟩=some (stp g ph r R (addN K 0 x.Inherited) V):=k1S (R:=R) hph hr H1 (by omega)
   rw[show (⟨g,ph,(⟨r.Name,r.Left,r.Right,r.Literal,r.Equations,r.Contributions⟩:Rule),R,K++x.Inherited.map (fun n=>(⟨0,n⟩:Oc)),V⟩:visits)=⟨g,ph,r,R,K++x.Inherited.map (fun n=>(⟨0,n⟩:Oc)),V⟩ from rfl,e,bsS]
   generalize stp g ph r R (addN K 0 x.Inherited) V=q at i4
   obtain⟨q1,q2,q3⟩:=q
   dsimp only at i4 ⊢
   rw[i4,bsS]
   dsimp only
   rw[j8Y,bsS]
   dsimp only
   by_cases hb:z5C K1 0 x.Synthesized=true
   ·rw[ifP hb,ifP hb,q3C (by constructor<;>omega)]
   ·rw[ifN hb,ifN hb]
  rw[findL,findL,es,ei]
  by_cases hb:z5C K1 0 x.Synthesized=true
  ·rw[ifP hb,ifP hb,bsS,bsS]
   have hl:(st1++[(⟨3,0,((i+1:Nat):Int),(⟨#[]⟩:ByteArray)⟩:Step)]).length=st1.length+1:=by simp
   rcases k1U hph hr hR K0 V0 xs (i+1) (st:=st1++[(⟨3,0,((i+1:Nat):Int),(⟨#[]⟩:ByteArray)⟩:Step)]) (by omega) i1 (by omega) with ⟨K2,V2,st2,⟨zs,hzs,hp⟩,j1,j2,j3,j4⟩|h
   ·exact .inl ⟨K2,V2,st2,⟨ys++fin i::zs,by rw[hzs,hys];simp[fin],.cons hbl H1 hb hp⟩,j1,j2,j3,j4⟩
   ·exact .inr h
  ·rw[ifN hb,ifN hb]
   exact .inr ⟨rfl,rfl⟩
theorem k5J (hph:∀ p∈ph,PS p)(hr:Sz.szd r≤1048576)(hR:q3M g r=some R)(hR' : q9T g r=some R)(h3:r.Right.length≤3)(hRl:R.length≤4194304) :
  ∃ st b pl,st.length≤10000000∧z4f g ph r=some (st,b)∧z6l g ph r=some (pl,b)∧(b=true→pl=⟨r.Name,st⟩∧∃ K' V',Pst g ph r R 0 (phP g ph r 0) [] (List.replicate (r.Right.length+1) 0) st K' V'∧j4O g ph r R K' V'=true):=by
 have hl:=q5i hr
 have hp0:phS g ph r.Left=phP g ph r 0:=by unfold phP;rw[k5z]
 have hdrop:(List.replicate (r.Right.length+1) (0:Int)).drop 1=List.replicate r.Right.length 0:=by rw[List.drop_replicate];rfl
 have hps:=j9c hph g r 0
 have hI:Iv g ph r [] (List.replicate (r.Right.length+1) 0) ([]:List Oc).length:=by
  refine⟨by simp,fun k hk=>?_,Nat.le_refl _⟩
  rw[List.getD_eq_getElem?_getD,List.getElem?_replicate,ifP (by omega)]
  exact⟨Int.le_refl _,by show (0:Int)≤_;omega⟩
 have hmu:muV g ph r (List.replicate (r.Right.length+1) 0)≤r.Right.length*289:=by
  unfold muV
  refine k5F fun j hj=>?_
  have h1:at0 (List.replicate (r.Right.length+1) (0:Int)) ((j+1:Nat):Int)=0:=by
   unfold at0
   rw[tnC,List.getD_eq_getElem?_getD,List.getElem?_replicate,ifP (by omega)];rfl
  have h2:=j9c hph g r ((j+1:Nat):Int)
  rw[h1]
  have:=x0x h2.2
  have:=h2.1
  show wP (phP g ph r ((j+1:Nat):Int))≤289
  omega
 have hnk:nK R []≤R.length:=List.countP_le_length
 have hPhi:Phi g ph r R [] (List.replicate (r.Right.length+1) 0)≤9000000:=by
  unfold Phi
  simp only[List.length_nil]
  omega
 have hw:=x0y hps.2
 have hpl:=hps.1
 have hrun:=k1U hph hr hR [] (List.replicate (r.Right.length+1) 0) (phP g ph r 0) 0 (K:=[]) (V:=List.replicate (r.Right.length+1) 0) (st:=[]) (by omega) hI (by simp only[List.length_nil];omega)
 have eS:z4f g ph r=(findL (z2t g ph r) 0 (phP g ph r 0) ((List.replicate (r.Right.length+1) (0:Int)).drop 1,r.Name,r.Left,r.Literal,[],[])).bind (onr (fun r1=>some r1) fun (s3,s4,s5,s6,s1,s2)=>(z0Y (⟨g,(⟨s4,s5,r.Right,s6,r.Equations,r.Contributions⟩:Rule),ph,s1,s3,s2⟩:l28Work)).bind fun y5=>some (s2,y5)):=by
  unfold z4f
  rw[q3C (by constructor<;>omega),(j8W g ph r.Left).1,bsS,hp0,hdrop]
 have eI:z6l g ph r=(findL (z4g ⟨g,ph,r,R,[],List.replicate (r.Right.length+1) 0⟩) 0 (phP g ph r 0) (r.Name,r.Left,r.Literal,R,[],List.replicate (r.Right.length+1) 0,[])).bind (onr (fun r1=>some r1) fun (s3,s4,s5,s6,s1,s7,s2)=>(q6k (⟨g,ph,(⟨s3,s4,r.Right,s5,r.Equations,r.Contributions⟩:Rule),s6,s1,s7⟩:visits)).bind fun y8=>some ((⟨r.Name,s2⟩:RPl_),y8)):=by
  unfold z6l z6S
  rw[hR',bsS,q3C (by constructor<;>omega),q3C (by constructor<;>omega),bsS,z4Z hl,bsS]
 rcases hrun with ⟨K',V',st',⟨zs,hzs,hp⟩,i1,i2,e1,e2⟩|⟨e1,e2⟩
 ·refine⟨st',j4O g ph r R K' V',⟨r.Name,st'⟩,i2,?_,?_,fun hb=>⟨rfl,K',V',by rw[hzs];exact hp,hb⟩⟩
  ·rw[eS,e1,bsS]
   have:=k5B hr hR i1
   show ((z0Y ⟨g,r,ph,K',V'.drop 1,[]⟩).bind fun y5=>some (st',y5))=_
   rw[this,bsS]
  ·rw[eI,e2,bsS]
   show ((q6k ⟨g,ph,r,R,K',V'⟩).bind fun y8=>some ((⟨r.Name,st'⟩:RPl_),y8))=_
   rw[k0H hr i1,bsS]
 ·refine⟨[],false,⟨(⟨#[]⟩:ByteArray),[]⟩,by simp,?_,?_,fun h=>nomatch h⟩
  ·rw[eS,e1];rfl
  ·rw[eI,e2];rfl
end
theorem k0J {g:Grammar}(h0:Sz.szd g≤1048576){ps:List (List Phase)}(e:q6H g=some (ps,true)):Shape g:=by
 obtain⟨q,b,e1,e2,hn,hi⟩:=j2d h0
 cases b with
 | false=>
  unfold q6H at e
  rw[e1,bsS] at e
  dsimp only at e
  rw[ifN (by simp)] at e
  cases e
 | true=>
  obtain⟨hg,hI,_⟩:=hi rfl
  exact j1C hg
def PL (p:RPl_):Prop:=p.Steps.length≤10000000
def GP (g:Grammar)(ps:List (List Phase))(r:Rule)(p:RPl_):Prop:=p.Rule=r.Name∧∃ K V,Pst g ps r (reqL g r) 0 (phP g ps r 0) [] (List.replicate (r.Right.length+1) 0) p.Steps K V∧j4O g ps r (reqL g r) K V=true
theorem k3h {g:Grammar}(h0:Sz.szd g≤1048576):∃ pl c,z1k g=some (pl,c)∧z3t g=some (pl,c)∧pl.length≤8∧(∀ p∈pl,PL p)∧(c=false→pl=[])∧(c=true→∃ ps,q6H g=some (ps,true)∧(∀ p∈ps,PS p)∧pl.length=g.Rules.length∧∀ (j:Nat) p,pl[j]?=some p→∃ r,g.Rules[j]?=some r∧GP g ps r p):=by
 obtain⟨ps,c,e1,e2,hn,hps⟩:=k3d h0
 unfold z1k z3t
 rw[e1,e2,bsS,bsS]
 dsimp only
 cases c with
 | false=>
  refine⟨[],false,rfl,?_,by simp,fun p hp=>(nomatch hp),fun _=>rfl,fun h=>nomatch h⟩
  rw[q3F (r:=(.inl [])) (by
   unfold q8S
   dsimp only
   split
   ·rfl
   ·rfl)]
  rfl
 | true=>
  have hS:=k0J h0 e1
  have hl:=hS.rules
  rw[ifP rfl]
  have key:∀ (xs:List Rule) (i:Nat) (s:List RPl_),g.Rules.drop i=xs→s.length=i→i≤g.Rules.length→(∀ p∈s,PL p)→(∀ (j:Nat) p,s[j]?=some p→∃ r,g.Rules[j]?=some r∧GP g ps r p)→(∃ s',findL (z1U g ps) i xs s=some (.inl s')∧q4l (q8S g ps true) (s,(i:Int))=some (.inl s')∧s'.length=g.Rules.length∧(∀ p∈s',PL p)∧∀ (j:Nat) p,s'[j]?=some p→∃ r,g.Rules[j]?=some r∧GP g ps r p)∨(findL (z1U g ps) i xs s=some (.inr ([],false))∧q4l (q8S g ps true) (s,(i:Int))=some (.inr ([],false))):=by
   intro xs
   induction xs with
   | nil=>
    intro i s hx hs hi hp hgp
    left
    have:g.Rules.length-i=0:=by rw[← List.length_drop,hx];rfl
    exact⟨s,rfl,q3F (by unfold q8S;dsimp only;exact ifN (by omega)),by omega,hp,hgp⟩
   | cons x xs ih=>
    intro i s hx hs hi hpp hgp
    have hlt:i<g.Rules.length:=by
     have:g.Rules.length-i=xs.length+1:=by rw[← List.length_drop,hx];rfl
     omega
    have hd:=List.drop_eq_getElem_cons hlt
    rw[hx] at hd
    injection hd with d1 d2
    have hgi:g.Rules[i]?=some x:=by rw[d1];exact List.getElem?_eq_getElem hlt
    have hxm:x∈g.Rules:=List.mem_of_getElem? hgi
    have hxs:Sz.szd x≤1048576:=Nat.le_trans (z3G hxm) h0
    have h3:=j8O hS hxm
    have hRl:(reqL g x).length≤4194304:=by
     have:=j7r (C:=1048576) (f:=reqK g x) (j7h (q9B h0) x) (List.range' 0 (x.Right.length+1))
     rw[List.length_range'] at this
     unfold reqL
     omega
    obtain⟨st,b,pl,r1,r2,r3,r4⟩:=k5J (ph:=ps) hps hxs (k0l (q9B h0) (q5i hxs)) (k0k (q9B h0) (q5i hxs)) h3 hRl
    have hsl:s.length≤8:=by omega
    have e:z1U g ps i x s=if b=true then some (.inl (s++[(⟨x.Name,st⟩:RPl_)])) else some (.inr ([],false)):=by
     unfold z1U
     rw[r3,bsS]
     cases b with
     | false=>
      dsimp only
      rw[ifN (by simp),ifN (by simp)]
     | true=>
      dsimp only
      rw[(r4 rfl).1,ifP rfl,ifP rfl,q3C (by constructor<;>omega)]
    have e' : q8S g ps true (s,(i:Int))=if b=true then some (.inl (s++[(⟨x.Name,st⟩:RPl_)],((i+1:Nat):Int))) else some (.inr (.inr ([],false))):=by
     unfold q8S
     dsimp only
     rw[ifP (by omega),ifP rfl,q3C (by omega),tnC,hgi,bsS,r2,bsS]
     cases b with
     | false=>
      dsimp only
      rw[ifN (by simp),ifN (by simp)]
     | true=>
      dsimp only
      rw[ifP rfl,ifP rfl,q3C (by constructor<;>omega),q3C (by constructor<;>omega)]
      rfl
    rw[findL,e]
    by_cases hb:b=true
    ·rw[ifP hb] at e' ⊢
     rw[bsS,q3S e']
     refine ih (i+1) _ d2.symm (by simp[hs]) (by omega) (fun p hp=>?_) fun j p hj=>?_
     ·rcases List.mem_append.1 hp with hp|hp
      ·exact hpp p hp
      ·rw[List.mem_singleton] at hp;subst hp;exact r1
     ·rcases Nat.lt_or_ge j s.length with h|h
      ·rw[List.getElem?_append_left h] at hj;exact hgp j p hj
      ·have h':=(List.getElem?_eq_some_iff.1 hj).1
       rw[List.length_append,List.length_singleton] at h'
       rw[List.getElem?_append_right h,show j-s.length=0 by omega] at hj
       cases hj
       exact⟨x,by rw[show j=i by omega];exact hgi,rfl,(r4 hb).2⟩
    ·rw[ifN hb] at e' ⊢
     exact .inr ⟨rfl,q3F e'⟩
  rcases key g.Rules 0 [] rfl rfl (Nat.zero_le _) (fun p hp=>nomatch hp) (fun j p hj=>nomatch hj) with ⟨s',e,e',h1,h2,h3⟩|⟨e,e'⟩
  ·rw[show ((0:Nat):Int)=0 from rfl] at e'
   rw[e,e'];exact⟨s',true,rfl,rfl,by omega,h2,(fun h=>nomatch h),fun _=>⟨ps,rfl,hps,h1,h3⟩⟩
  ·rw[show ((0:Nat):Int)=0 from rfl] at e'
   rw[e,e'];exact⟨[],false,rfl,rfl,by simp,fun p hp=>(nomatch hp),fun _=>rfl,fun h=>nomatch h⟩
end Go.Proofs.YtcegfmageiicaaaGreat
namespace Go.Proofs.YtcegfmageiicaaaGreat
open Go Go.E
def RSt (k:Int)(x:Step)(m:Int):Prop:=x.Kind=k∧x.Pos=k+1∧x.Visit=k+1+1∧q4h (k+1+1+1)=some x.Name∧m=k+1+1+1+1
theorem k5K (k:Int)(x:Step)(m:Int)(h:RSt k x m):k≤m:=by have:=h.2.2.2.2;omega
theorem k7J (xs:List Step){k:Int}(h0:0≤k)(h1:k+4*xs.length≤10000000000)(h2:xs.length≤1000000000):∃ k' ys,z5w xs k=some (k',ys)∧k≤k'∧k'≤k+4*xs.length∧RL RSt k ys k':=by
 have hs:=k0C (c:=fun x:Step=>4) (b:=4) (xs:=xs) fun x hx=>Nat.le_refl _
 obtain⟨k',ys,e1,e2,e3,e4,_⟩:=k1O (R:=RSt) (c:=fun x:Step=>4) (P:=fun _=>True) (L:=z3Q) (fun k i a x hp hx h0 h1 hi=>by
  have hl:=(List.getElem?_eq_some_iff.1 hx).1
  obtain⟨t,ht⟩:=z7y (k:=k+1+1+1) (by omega) (by omega)
  refine⟨k+1+1+1+1,⟨k,k+1,k+1+1,t⟩,?_,by omega,by omega,rfl,rfl,rfl,ht,rfl⟩
  unfold z3Q
  dsimp only
  rw[ifP (by omega),q3C (by omega),tnC,hx,bsS,q3C (by constructor<;>omega),q3C (by omega)]
  simp only[List.set_set,List.getElem?_set_self hl,bsS]
  rw[q3C (by constructor<;>omega),q3C (by omega),q3C (by constructor<;>omega),ht,bsS,q3C (by omega),q3C (by constructor<;>omega),q3C (by constructor<;>omega)]
  rfl) (fun k i a h=>by unfold z3Q;dsimp only;exact ifN h) xs (fun _ _=>trivial) h0 (by omega) (by omega)
 exact⟨k',ys,e1,e2,by omega,e4⟩
theorem k7K {xs:List Step}{k k' : Int}(h:RL RSt k xs k')(h0:0≤k)(h1:k'≤10000000000):z3u xs k=some k':=by
 unfold z3u
 rw[k0F k5K (fun i x k m h h0 h1=>by
  unfold j0y
  obtain⟨a1,a2,a3,a4,a5⟩:=h
  rw[ifP a1,q3C (by constructor<;>omega),ifP a2,q3C (by constructor<;>omega),ifP a3,q3C (by constructor<;>omega),a4,bsS,ifP rfl,q3C (by constructor<;>omega),a5]) xs k k' 0 h h0 h1];rfl
def RPl (k:Int)(x:RPl_)(m:Int):Prop:=q4h k=some x.Rule∧RL RSt (k+1) x.Steps m
theorem x0z (k:Int)(x:RPl_)(m:Int)(h:RPl k x m):k≤m:=by have:=k7I k5K _ _ _ h.2;omega
theorem k7L (xs:List RPl_){k:Int}(hP:∀ x∈xs,PL x)(h0:0≤k)(h1:k+40000001*xs.length≤10000000000)(h2:xs.length≤1000):∃ k' ys,z0P xs k=some (k',ys)∧k≤k'∧k'≤k+40000001*xs.length∧RL RPl k ys k':=by
 have hs:=k0C (c:=fun x:RPl_=>1+4*x.Steps.length) (b:=40000001) (xs:=xs) fun x hx=>by have:=hP x hx;unfold PL at this;omega
 obtain⟨k',ys,e1,e2,e3,e4,_⟩:=k1O (R:=RPl) (c:=fun x:RPl_=>1+4*x.Steps.length) (P:=PL) (L:=z0n) (fun k i a x hp hx h0 h1 hi=>by
  have hl:=(List.getElem?_eq_some_iff.1 hx).1
  unfold PL at hp
  obtain⟨t,ht⟩:=z7y (k:=k) (by omega) (by omega)
  obtain⟨k1,z,e1,e2,e3,e4⟩:=k7J x.Steps (k:=k+1) (by omega) (by omega) (by omega)
  refine⟨k1,⟨t,z⟩,?_,by omega,by omega,ht,e4⟩
  unfold z0n
  dsimp only
  rw[ifP (by omega),ht,bsS,q3C (by omega),tnC,hx,bsS,q3C (by constructor<;>omega),e1,bsS]
  dsimp only
  rw[q3C (by constructor<;>omega)]
  rfl) (fun k i a h=>by unfold z0n;dsimp only;exact ifN h) xs hP h0 (by omega) (by omega)
 exact⟨k',ys,e1,e2,by omega,e4⟩
theorem k7M {xs:List RPl_}{k k' : Int}(h:RL RPl k xs k')(h0:0≤k)(h1:k'≤10000000000):q7Y xs k=some k':=by
 unfold q7Y
 rw[k0F x0z (fun i x k m h h0 h1=>by
  unfold z6n
  obtain⟨h2,h3⟩:=h
  have h4:=k7I k5K _ _ _ h3
  rw[h2,bsS,ifP rfl,q3C (by constructor<;>omega),k7K h3 (by omega) h1,bsS,ifN (by omega)]) xs k k' 0 h h0 h1];rfl
theorem k7N (x:Step):z6m x x=some true:=by simp[z6m]
theorem k5L (xs:List Step):z8O xs xs=some true:=z7f (f:=j3G xs) (j2c (g:=z6m) fun x _=>k7N x)
theorem k7O (x:RPl_):z0m x x=some true:=by simp[z0m,k5L]
theorem k5M (xs:List RPl_):q9r xs xs=some true:=z7f (f:=z8i xs) (j2c (g:=z0m) fun x _=>k7O x)
theorem k7P {g:Grammar}(h:A.boCs (Grammar.l g)):q8U g=some true:=by
 unfold q8U
 rw[k7k h 1048576 (by omega) (by omega),bsS]
 by_cases h1:(Sz.szd g:Int)≤1048576
 ·have h2:Sz.szd g≤1048576:=by omega
  obtain⟨q,b,e1,e2,hl,hi,_⟩:=k3h h2
  obtain⟨k',z1,z2,e3,e4⟩:=k9I h2
  obtain⟨k2,z3,f1,f2,f3,f4⟩:=k7L q (k:=1) hi (by omega) (by omega) (by omega)
  have f6:=k7M f4 (by omega) (by omega)
  rw[ifP h1,ifN (by omega)]
  simp only[k7r h2,e1,e2,k5M,k7z,e3,f1,f6,bsS,reduceIte,ifN (show ¬ k'<0 by omega),ifN (show ¬ k2<0 by omega),decide_true,Bool.not_true,Bool.false_eq_true]
 ·rw[ifN h1,ifP (by omega)]
end Go.Proofs.YtcegfmageiicaaaGreat
