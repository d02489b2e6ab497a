/- Abstract states of a walk: plain lemmas on the model, without conditions of their own. -/
import Derived.Test.YtnhofaohogianaaGreatAb5
set_option linter.unusedVariables false
set_option linter.unusedSimpArgs false
set_option linter.ambiguousOpen false
set_option linter.unusedSectionVars false
set_option linter.unnecessarySimpa false
open Nat renaming lt_of_lt_of_le→Bcz,beq→Aaz,zero_le→Aez,eq_of_beq_eq_true→Abz
open List renaming length_append→Awz,nodup_append→Cez,singleton_append→Clz,getElem?_eq_getElem→Ckz,drop_eq_getElem_cons→Cpz,drop_of_length_le→Cqz
open Bool renaming and_eq_true→Afz
open Array renaming eq_empty_of_size_eq_zero→Crz
namespace Go.A
open Go Go.E
section
variable {P:Program}{S:Start}{n:Nat}{ρ:AE}{σ:St}{o:Oper}
theorem k4G {r' : Nat}{x:Root}{qs:List Nat}{σ:Nat→Root}:owr σ ((qs.map fun q=>(q,.dead))++[(r',x)])=fun i=>if i=r' then x else if i∈qs then .dead else σ i:=by
 induction qs generalizing σ with
 | nil=>funext i;simp[owr]
 | cons q qs ih=>
  rw[List.map_cons,List.cons_append,owr,ih]
  funext i
  by_cases h1:i=r'
  ·simp[h1]
  ·by_cases h2:i∈qs
   ·simp[h1,h2]
   ·by_cases h3:i=q<;>simp[h1,h2,h3]
theorem Sim.regrowL {F:Nat→Prop}{g:Nat→G}{w w' : World}{σ1:Nat→Root}(hs:Sim S F g σ1 w){r' : Nat}{qs:List Nat}(hr' : σ1 r'=.none)(hq:∀ q∈qs,g q≠.none){M:Nat→Prop}(hc:Chg M w w')(hM:∀ b,M b→b<w.heap.size→∃ q∈qs,b∈bl (g q)){v' : Value}{k:Nat}{L' : List Nat}{gs' : List (List GC)}{x:Root}
  (hx:(∀ m b o cs,SM F S.B m b→b<w.heap.size→At w b o cs→SM F S.B m b∧b<w'.heap.size∧At w' b o cs)→∀ g',(∀ i,Adv (g i) (g' i))→z0r (SM F S.B) w' g' x (.row v' k L' gs')) (hnd:(bl (.row v' k L' gs')).Nodup) (hbl:∀ b∈bl (.row v' k L' gs'),b<w'.heap.size∧((∃ q∈qs,b∈bl (g q))∨w.heap.size≤b)) :
  ∃ g',Sim S F g' (owr σ1 ((qs.map fun q=>(q,.dead))++[(r',x)])) w'∧Pres S.B F g w F g' w'∧vr (SM F S.B) w' g' (.ref r' none) v':=by
 have hg2:=j3b hs hr'
 have hrq:r'∉qs:=fun h=>hq r' h hg2
 let g' : Nat→G:=fun i=>if i=r' then .row v' k L' gs' else if i∈qs then .dead else g i
 have gr:g' r'=.row v' k L' gs':=by simp[g']
 have gq:∀ q∈qs,g' q=.dead:=fun q hq=>by
  have:q≠r':=fun e=>hrq (e▸hq)
  simp[g',this,hq]
 have go:∀ i,¬ (i∈qs∨i=r')→g' i=g i:=fun i hi=>by
  have h1:i≠r':=fun e=>hi (.inr e)
  have h2:i∉qs:=fun e=>hi (.inl e)
  simp[g',h1,h2]
 have hadv:∀ i,Adv (g i) (g' i):=fun i=>by
  by_cases h1:i=r'
  ·subst h1;rw[hg2];trivial
  ·by_cases h2:i∈qs
   ·rw[gq i h2];exact Adv.dead (hq i h2)
   ·rw[go i (fun h=>h.elim h2 h1)];exact Adv.refl _
 rw[k4G]
 obtain⟨h1,h2⟩:=hs.step (g':=g') (σ':=fun i=>if i=r' then x else if i∈qs then .dead else σ1 i) (F':=F) (w':=w') (fun i=>i∈qs∨i=r') hc (fun b hb hl=>let ⟨q,h1,h2⟩:=hM b hb hl;⟨q,.inl h1,h2⟩)
  (fun i hi=>⟨go i hi,by simp only[ifN (fun e=>hi (.inr e)),ifN (fun e=>hi (.inl e))]⟩)
  (fun i _=>hadv i) (fun _ h=>h) (fun b hb=>⟨Bcz (hs.flt b hb) hc.size,.inl hb⟩)
  (fun hk hp i hi=>by
   by_cases h1:i=r'
   ·subst h1;simp only[if_true,gr];exact hx hk g' hadv
   ·have h2:i∈qs:=hi.resolve_right h1
    simp only[ifN h1,ifP h2,gq i h2];trivial)
  (fun i hi=>by
   by_cases h1:i=r'
   ·subst h1;rw[gr];exact hnd
   ·rw[gq i (hi.resolve_right h1)];exact List.nodup_nil)
  (fun i j hi hj hij b hb=>by
   by_cases h1:i=r'
   ·by_cases h2:j=r'
    ·exact absurd (h1.trans h2.symm) hij
    ·rw[gq j (hj.resolve_right h2)];exact List.not_mem_nil
   ·rw[gq i (hi.resolve_right h1)] at hb;cases hb)
  (fun i b hi hb=>by
   by_cases h1:i=r'
   ·subst h1
    rw[gr] at hb
    obtain⟨h3,h4⟩:=hbl b hb
    refine⟨h3,fun hf=>?_,?_⟩
    ·rcases h4 with ⟨q,_,h4⟩|h4
     ·exact (hs.own q b h4).2.1 hf
     ·have:=hs.flt b hf;omega
    ·rcases h4 with ⟨q,h5,h4⟩|h4
     ·exact .inr ⟨q,.inl h5,h4⟩
     ·exact .inl h4
   ·rw[gq i (hi.resolve_right h1)] at hb;cases hb)
 refine⟨g',h1,h2,?_⟩
 rw[vr,gr]
 intro u q hu
 simp only[G.at] at hu
 cases hu
 rfl
theorem j9X {F:Nat→Prop}{g:Nat→G}{w:World}{σ1:Nat→Root}(hs:Sim S F g σ1 w){r k:Nat}{m:Md}{es:List (List Cell)}{hh:List (Nat×Nat×Nat)}(hr:σ1 r=.deep m k es hh):∃ v L gs,g r=.row v k L gs∧rowOk (SM F S.B) w es v k L gs∧holesOk g hh gs∧(m=.fz→fzE es):=by
 have h:=hs.roots r
 rw[hr] at h
 cases hg:g r<;>rw[hg] at h<;>try exact h.elim
 obtain⟨⟨rfl,h1⟩,h2,h3⟩:=h
 exact⟨_,_,_,rfl,h1,h2,h3⟩
theorem j8B {a b:List (List Cell)}(h1:fzE a)(h2:fzE b):fzE (a++b):=fun e he=>by
 rcases List.mem_append.1 he with h|h
 ·exact h1 e h
 ·exact h2 e h
theorem j4J {S1:Md→Nat→Prop}{w:World}{k:Nat}:∀ {es:List (List Cell)} {gs:List (List GC)},all2 (elOk S1 w k) es gs→∀ u∈q5k gs,u.oneCell'=true
 | [],_,h,u,hu=>by rw[show _=[] from h] at hu;simp[q5k] at hu
 | e::es,_,⟨ge,r,h1,h2,h3⟩,u,hu=>by
  subst h1
  rw[q6D] at hu
  rcases List.mem_append.1 hu with hu|hu
  ·obtain⟨gc,hgc,rfl⟩:=List.mem_map.1 hu
   obtain⟨i,hi⟩:=List.getElem?_of_mem hgc
   obtain⟨c,_,hc⟩:=h2.2.get' hi
   cases c with
   | d m x=>exact hc.2.2.one
   | o m k xs=>obtain⟨_,_,cs,h,_⟩:=hc;obtain⟨A,c,e,_⟩:=h.form;rw[e];rfl
   | w k xs=>have h:=hc.2.2;simp only[owC] at h;obtain⟨L0,cs,L1,h,_⟩:=h;obtain⟨A,c,e,_⟩:=h.form;rw[e];rfl
   | nl k=>rw[hc.2.2];rfl
   | u=>exact hc.2.2
  ·exact j4J h3 u hu
theorem j0s {k:Nat}:∀ {gs:List (List GC)},(∀ ge∈gs,ge.length=k)→(q5k gs).length=gs.length*k
 | [],_=>by simp[q5k]
 | ge::gs,h=>by
  rw[q6D,Awz,lnM,h ge (by simp),j0s fun g hg=>h g (by simp[hg]),lnC,Nat.add_mul]
  omega
theorem q2R {T e k b r r2 r' : Nat}{z:List Value}{s x:Operand}{m:Md}{es es2:List (List Cell)}(ho:o.op=.call { callee:=.builtin .append,args:=#[s,x],argTypes:=#[T,T] })(hT:q7i P T=some e)(hk:szT P e=some k)(hb:byT P e=some b)(hz:z2M P e=some z)(hzk:z.length=k)(hk0:Nat.blt 0 k=true)
  (hs:evX ρ s=.ref r none) (hσ:fnOf σ r=.deep m k es []) (hx:evX ρ x=.ref r2 none) (hσ2:fnOf σ r2=.deep m k es2 []) (hmax:(es.length+es2.length)*b≤140737488355328) (hlen:es.length+es2.length≤maxLen) (hr' : fnOf σ r'=.none) (hne:Aaz r r2=false) :
  LT P S o ρ σ [] (.ref r' none) [(r,.dead),(r2,.dead),(r',.deep m k (es++es2) [])]:=by
 intro σ1 F g w ρc hsim hrd hwr hv
 have hne:r≠r2:=fun e=>by subst e;simp at hne
 have hr1:σ1 r=.deep m k es []:=(hwr (r,.dead) (by simp)).trans hσ
 have hr2:σ1 r2=.deep m k es2 []:=(hwr (r2,.dead) (by simp)).trans hσ2
 have hr3:σ1 r'=.none:=(hwr (r',.deep m k (es++es2) []) (by simp)).trans hr'
 have e1:=hv s (by simp[ho,Op.operands,Call.operands])
 have e2:=hv x (by simp[ho,Op.operands,Call.operands])
 obtain⟨v,L,gs,hg,hrow,_,hfz⟩:=j9X hsim hr1
 obtain⟨v2,L2,gs2,hg2,hrow2,_,hfz2⟩:=j9X hsim hr2
 rw[hs,vr,hg] at e1
 rw[hx,vr,hg2] at e2
 have e3:=e1 _ _ rfl
 have e4:=e2 _ _ rfl
 obtain⟨A,c2,hv2,_,_⟩:=hrow2.1.form
 have hl2:(q5k gs2).length=es2.length*k:=by rw[j0s (z1G hrow2.2),hrow2.2.len]
 obtain⟨v',w',L',hrun,hown',hchg,hL'⟩:=j0k (P:=P) (ty:=o.type) (w:=w) (A:=A) (c2:=c2) (m2:=es2.length) (news:=q5k gs2) hT hk hb hz hzk (by simpa using hk0) hrow.1 hl2
  (by
   rcases hrow2.1.at with h|⟨b,c',T',cur,h1,h2,_⟩
   ·exact .inl h
   ·rw[hv2] at h1;cases h1;exact .inr ⟨b,0,rfl,h2⟩) (j4J hrow2.2) hmax hlen
 rw[j7A (P:=P) (w:=w) ho e3 (e4.trans hv2) hrun]
 have hL1:∀ b∈L,b∈bl (g r):=fun b hb=>by rw[hg];simp[bl,hb]
 have n1:=hsim.nodup r
 have n2:=hsim.nodup r2
 rw[hg] at n1
 rw[hg2] at n2
 have b1:∀ b∈gbl gs,b∈bl (g r):=fun b hb=>by rw[hg];simp[bl,hb]
 have b2:∀ b∈gbl gs2,b∈bl (g r2):=fun b hb=>by rw[hg2];simp[bl,hb]
 have n1' : ∀ b∈L,b∉gbl gs:=fun b hb hb2=>(List.nodup_append.1 n1).2.2 b hb b hb2 rfl
 obtain⟨g',h1,h2,h3⟩:=hsim.regrowL (r':=r') (qs:=[r,r2]) (x:=.deep m k (es++es2) []) (v':=v') (k:=k) (L':=L') (gs':=gs++gs2) hr3
  (fun q hq=>by
   simp only[List.mem_cons,List.not_mem_nil,or_false] at hq
   rcases hq with rfl|rfl
   ·rw[hg];intro h;cases h
   ·rw[hg2];intro h;cases h) hchg (fun b hb _=>⟨r,by simp,hL1 b hb⟩)
  (fun hkeep g' _=>⟨⟨rfl,by rw[j4G,Awz];exact hown',
   (hrow.2.imp_mem fun e' ge' hm' he'=>⟨he'.1,cellOk.keepL hkeep he'.2 fun b hb=>by
    have hb' : b∈gbl gs:=List.mem_flatMap.2 ⟨ge',hm',hb⟩
    exact hchg.block b (hsim.own r b (b1 b hb')).1 fun h=>n1' b h hb'⟩).append
   (hrow2.2.imp_mem fun e' ge' hm' he'=>⟨he'.1,cellOk.keepL hkeep he'.2 fun b hb=>by
    have hb' : b∈gbl gs2:=List.mem_flatMap.2 ⟨ge',hm',hb⟩
    exact hchg.block b (hsim.own r2 b (b2 b hb')).1 fun h=>hsim.disj r r2 hne b (hL1 b h) (b2 b hb')⟩)⟩,holesOk.nil,fun hm=>j8B (hfz hm) (hfz2 hm)⟩)
  (by
   simp only[bl,j2y]
   rw[Cez,Cez]
   refine⟨hown'.nodup,⟨(List.nodup_append.1 n1).2.1,(List.nodup_append.1 n2).2.1,fun a ha b hb e=>hsim.disj r r2 hne a (b1 a ha) (e▸b2 b hb)⟩,fun a ha b hb e=>?_⟩
   subst e
   rcases hL' a ha with h|h
   ·rcases List.mem_append.1 hb with hb|hb
    ·exact n1' a h hb
    ·exact hsim.disj r r2 hne a (hL1 a h) (b2 a hb)
   ·rcases List.mem_append.1 hb with hb|hb
    ·have:=(hsim.own r a (b1 a hb)).1;omega
    ·have:=(hsim.own r2 a (b2 a hb)).1;omega)
  (fun b hb=>by
   simp only[bl,j2y,List.mem_append] at hb
   rcases hb with hb|hb|hb
   ·exact⟨hown'.lst b hb,(hL' b hb).imp (fun h=>⟨r,by simp,hL1 b h⟩) id⟩
   ·exact⟨Bcz (hsim.own r b (b1 b hb)).1 hchg.size,.inl ⟨r,by simp,b1 b hb⟩⟩
   ·exact⟨Bcz (hsim.own r2 b (b2 b hb)).1 hchg.size,.inl ⟨r2,by simp,b2 b hb⟩⟩)
 exact⟨F,g',h1,h2,h3⟩
end
inductive NCs (σ:Nat→Root) (m:Md) (k:Nat):List X→List (List Cell)→List Nat→Prop
 | nil:NCs σ m k [] [] []
 | cons {x:X} {xs:List X} {e:List Cell} {es:List (List Cell)} {q1 qs:List Nat} (h:NC σ m x.cells e q1) (hk:e.length=k) (hs:z3r σ x=true) (h2:NCs σ m k xs es qs):NCs σ m k (x::xs) (e::es) (q1++qs)
theorem NCs.alive {σ:Nat→Root}{m:Md}{k:Nat}:∀ {xs:List X} {es:List (List Cell)} {qs:List Nat},NCs σ m k xs es qs→∀ q∈qs,∃ c,MC (σ q) c
 | _,_,_,.nil,q,hq=>by cases hq
 | _,_,_,.cons h _ _ h2,q,hq=>by
  rcases List.mem_append.1 hq with hq|hq
  ·exact h.alive q hq
  ·exact h2.alive q hq
theorem NCs.congr {σ1 σ2:Nat→Root}{m:Md}{k:Nat}:∀ {xs:List X} {es:List (List Cell)} {qs:List Nat},NCs σ2 m k xs es qs→(∀ q∈qs,σ1 q=σ2 q)→NCs σ1 m k xs es qs
 | _,_,_,.nil,_=>.nil
 | _,_,_,.cons (x:=x) h hk hs h2,hc=>.cons (h.congr fun q hq=>hc q (by simp[hq])) hk (by
   cases x with
   | ag cs=>rfl
   | _=>rw[z2f fun i hi=>hc i (List.mem_append.2 (.inl (h.roots _ (by simp[X.cells]) i hi)))];exact hs) (h2.congr fun q hq=>hc q (by simp[hq]))
theorem j9Y {S:Start}{F:Nat→Prop}{g:Nat→G}{w:World}{σ1:Nat→Root}(hs:Sim S F g σ1 w){ρ:AE}{ρc:Env}{m:Md}{k:Nat}:∀ (l:List (Nat×Operand)) (i:Nat) (xs:List X) (es:List (List Cell)) (qs:List Nat),l.map (fun p=>(p.1,evX ρ p.2))=idxX i xs→(∀ p∈l,vr (SM F S.B) w g (evX ρ p.2) (E.ev ρc p.2))→NCs σ1 m k xs es qs →
  ∃ vs css gs,l.map (fun p=>(p.1,E.ev ρc p.2))=idxL i vs∧catL k vs css∧vs.length=es.length∧all2 (elOk (SM F S.B) w k) es gs∧q5k gs=css.flatten∧gbl gs=(qs.flatMap fun q=>bl (g q))∧(m=.fz→fzE es)
 | [],i,xs,es,qs,h,_,hn=>by
  cases hn with
  | nil=>exact⟨[],[],[],rfl,trivial,rfl,rfl,rfl,rfl,fun _ e he=>by cases he⟩
  | cons=>simp[idxX] at h
 | p::l,i,xs,es,qs,h,hv,hn=>by
  cases hn with
  | nil=>simp[idxX] at h
  | cons h0 hk hsu h2=>
   simp only[List.map_cons,idxX,List.cons.injEq] at h
   obtain⟨h1,h3⟩:=h
   obtain⟨vs,css,gs,h4,h5,h6,h7,h8,h9,h10⟩:=j9Y hs l (i+1) _ _ _ h3 (fun q hq=>hv q (by simp[hq])) h2
   have h11:=hv p (by simp)
   cases h1
   have hys:=z4s hs hsu h11
   obtain⟨news,k1,k2,k3,k4,k5⟩:=h0.ok hs hys
   have hl:(E.ev ρc p.2).cells.toList.length=k:=by rw[← k2,lnM,k1.len];exact hk
   refine⟨E.ev ρc p.2::vs,(E.ev ρc p.2).cells.toList::css,news::gs,by simp[idxL,h4],⟨by simp,hl,h5⟩,by simp[h6],⟨_,_,rfl,⟨hk,k1⟩,h7⟩,?_,?_,fun hm e he c hc=>?_⟩
   ·rw[q6D,k2,h8,List.flatten_cons]
   ·rw[z0P,k3,h9,List.flatMap_append]
   ·rcases List.mem_cons.1 he with rfl|he
    ·exact k5 hm c hc
    ·exact h10 hm e he c hc
section
variable {P:Program}{S:Start}{n:Nat}{ρ:AE}{σ:St}{o:Oper}
theorem q1t {T e k mm r' : Nat}{m:Md}{z:List Value}{parts:Array (Nat×Operand)}{xs:List X}{es:List (List Cell)}{qs:List Nat}(ho:o.op=.buildSlice T mm parts)(hT:q7i P T=some e)(hk:szT P e=some k)(hz:z2M P e=some z)(hzk:z.length=k)(hp:parts.toList.map (fun p=>(p.1,evX ρ p.2))=idxX 0 xs)(hn:NCs (fnOf σ) m k xs es qs)(hnd:z3J qs=true)
  (hl:es.length=mm) (hk0:Nat.blt 0 k=true) (hm:Nat.blt 0 mm=true) (hm2:Nat.ble (mm*k) 100000=true) (hr:fnOf σ r'=.none):LT P S o ρ σ [] (.ref r' none) ((qs.map fun q=>(q,.dead))++[(r',.deep m k es [])]):=by
 intro σ1 F g w ρc hs _ hwr hv
 have hr1:σ1 r'=.none:=(hwr (r',.deep m k es []) (by simp)).trans hr
 have hq1:∀ q∈qs,σ1 q=fnOf σ q:=fun q hq=>hwr (q,.dead) (List.mem_append.2 (.inl (List.mem_map.2 ⟨q,hq,rfl⟩)))
 have hn1:=hn.congr hq1
 obtain⟨vs,css,gs,h1,h2,h3,h4,h5,h6,h7⟩:=j9Y hs (ρc:=ρc) parts.toList 0 xs es qs hp (fun p hp=>hv p.2 (by simp only[ho,Op.operands];simpa using ⟨p.1,by simpa using hp⟩)) hn1
 have hp' : parts.map (fun p=>(p.1,E.ev ρc p.2))=(idxL 0 vs).toArray:=by
  apply Array.ext';simpa using h1
 have hrun:=j7x (P:=P) (w:=w) hT hk hz hzk h2 (h3.trans hl) hk0 hm hm2
 have he:(execOp (E.ev ρc) o).run P w=.ok (.value (.slice (some ⟨w.heap.size,0,none⟩) mm mm)) (w.alloc (.cells css.flatten.toArray e)):=by
  simp only[execOp,ho,hp',Sem.run_bind,hrun,Result.andThen_ok,Sem.run_pure]
 rw[he]
 have hx:=Ext.alloc w (.cells css.flatten.toArray e)
 have hb:=q9y w e css.flatten
 have hlen:css.flatten.length=mm*k:=by rw[← h5,j0s (z1G h4),h4.len,hl]
 have hm2' : mm*k≤100000:=by simpa using hm2
 have hk' : 0<k:=by simpa using hk0
 have hmm:mm≤mm*k:=Nat.le_mul_of_pos_right mm hk'
 have bq:∀ b∈gbl gs,∃ q∈qs,b∈bl (g q):=fun b hb=>by rw[h6] at hb;exact List.mem_flatMap.1 hb
 have hq0:∀ q∈qs,g q≠.none:=fun q hq=>by
  obtain⟨c,hc⟩:=hn1.alive q hq
  obtain⟨v,k,L,gs,e⟩:=hc.isrow (hs.roots q)
  rw[e];intro h;cases h
 obtain⟨g',k1,k2,k3⟩:=hs.regrowL (r':=r') (qs:=qs) (x:=.deep m k es []) (v':=.slice (some ⟨w.heap.size,0,none⟩) mm mm) (k:=k) (L':=[w.heap.size]) (gs':=gs) hr1 hq0 hx (fun _ h _=>h.elim)
  (fun hkeep g' _=>⟨⟨rfl,⟨e,⟨by rw[h5,hlen,hl],.inr ⟨w.heap.size,mm,css.flatten.toArray,by rw[hl],Aez _,hb,by rw[hl];exact Nat.le_refl _,by show _≤9223372036854775807;omega,by simpa using hlen,by simp only[h5];rw[hl,← hlen,List.take_length]⟩⟩,by simp[Value.ownBlock]⟩,
   h4.imp_mem fun e' ge' hm' he'=>⟨he'.1,cellOk.keepL hkeep he'.2 fun b hb=>by
    obtain⟨q,_,h8⟩:=bq b (List.mem_flatMap.2 ⟨ge',hm',hb⟩)
    exact hx.block b (hs.own q b h8).1 (fun h=>h)⟩⟩,holesOk.nil,h7⟩)
  (by
   simp only[bl,Clz,List.nodup_cons]
   refine⟨fun h=>?_,by rw[h6];exact z6I hs (q8f hnd)⟩
   obtain⟨q,_,h8⟩:=bq _ h
   exact Nat.lt_irrefl _ (hs.own q _ h8).1)
  (fun b hb'=>by
   simp only[bl,Clz,List.mem_cons] at hb'
   rcases hb' with rfl|hb'
   ·exact⟨hb.lt,.inr (Nat.le_refl _)⟩
   ·obtain⟨q,h7,h8⟩:=bq b hb'
    exact⟨Bcz (hs.own q b h8).1 hx.size,.inl ⟨q,h7,h8⟩⟩)
 exact⟨F,g',k1,k2,k3⟩
theorem j9Z {k:Nat}:∀ {gs:List (List GC)} (n:Nat),(∀ g∈gs,g.length=k)→q5k (gs.take n)=(q5k gs).take (n*k)∧(gbl (gs.take n)).Sublist (gbl gs)
 | [],n,_=>by simp[q5k,gbl]
 | g0::gs,0,_=>by simp[q5k,gbl]
 | g0::gs,n+1,h=>by
  obtain⟨h1,h2⟩:=j9Z (gs:=gs) n fun g hg=>h g (by simp[hg])
  have h0:=h g0 (by simp)
  rw[List.take_succ_cons,q6D,q6D,z0P,z0P]
  refine⟨?_,h2.append_left _⟩
  rw[h1,show (n+1)*k=(g0.map (·.val)).length+n*k by rw[lnM,h0,Nat.add_mul];omega,List.take_length_add_append]
theorem OwnR.cut {w:World}{k:Nat}{A:Option Addr}{n c b:Nat}{L:List Nat}{cs:List Value}(h:OwnR w k (.slice A n c) n L cs)(hb:b≤n):OwnR w k (.slice A b c) b L (cs.take (b*k)):=by
 obtain⟨e,⟨hl,h⟩,hL⟩:=h
 have hbk:b*k≤n*k:=Nat.mul_le_mul_right k hb
 refine⟨e,⟨by rw[List.length_take];omega,?_⟩,?_⟩
 ·rcases h with ⟨h,h0⟩|⟨g,cap,cur,h,h0,h1,h2,h3,h4,h5⟩
  ·cases h;left;exact⟨by rw[show b=0 by omega],by omega⟩
  ·cases h
   refine .inr ⟨g,c,cur,rfl,h0,h1,by omega,h3,h4,?_⟩
   have:(cur.toList.take (n*k)).take (b*k)=cs.take (b*k):=by rw[h5]
   rwa[List.take_take,Nat.min_eq_left hbk] at this
 ·rw[hL];cases A<;>rfl
theorem q2S {T e k r r' : Nat}{x y:Operand}{lo:Option Operand}{m mq:Md}{q:IntKind}{b:Int}{xs:List D}(ho:o.op=.slice T x none (some y) none)(hT:q7i P T=some e)(hk:szT P e=some k)(hx:evX ρ x=.ref r none)(hσ:fnOf σ r=.row m k xs)(hh:evX ρ y=.d mq (.i q b))(h1:0≤b)(h3:b.toNat≤xs.length)(hr' : fnOf σ r'=.none) :
  LT P S o ρ σ [] (.ref r' none) [(r,.dead),(r',.row m k (xs.take b.toNat))]:=by
 intro σ1 F g w ρc hs hrd hwr hv
 have hr1:σ1 r=.row m k xs:=(hwr (r,.dead) (by simp)).trans hσ
 have hr3:σ1 r'=.none:=(hwr (r',.row m k (xs.take b.toNat)) (by simp)).trans hr'
 obtain⟨v,L,gs,hg,hrow⟩:=z7t hs (.inr ⟨m,xs,hr1,rfl⟩)
 have hl:=z1G hrow.2
 obtain⟨A,c,e0,h5,h6⟩:=hrow.1.form
 rw[lnM] at e0
 subst e0
 have e1:=hv x (by simp[ho,Op.operands])
 rw[hx,vr,hg] at e1
 have e2:=e1 _ _ rfl
 rw[lnM] at h5
 have e3:=hv y (by simp[ho,Op.operands])
 rw[hh,vr,rdC] at e3
 replace e3:=e3.1
 rw[← j5U h1] at e3
 have hev:=q1g (P:=P) (w:=w) ho hT hk e2 e3 (by omega)
 have hcut:cutS A 0 b.toNat c k=.slice A b.toNat c:=by
  unfold cutS
  simp only[Nat.zero_mul,Nat.sub_zero]
  by_cases hc:c=0
  ·rw[ifP hc]
  ·rw[ifN hc]
   cases A with
   | none=>rfl
   | some a=>cases a;simp[Addr.add]
 rw[hcut] at hev
 rw[show (execOp (E.ev ρc) o).run P w=.ok (.value (.slice A b.toNat c)) w from hev]
 have hown:=hrow.1
 rw[lnM] at hown
 have hown':=hown.cut h3
 obtain⟨t1,t2⟩:=j9Z b.toNat hl
 have n1:=hs.nodup r
 rw[hg] at n1
 obtain⟨g',k1,k2,k3⟩:=hs.regrowL (r':=r') (qs:=[r]) (x:=.row m k (xs.take b.toNat)) (v':=.slice A b.toNat c) (k:=k) (L':=L) (gs':=gs.take b.toNat) hr3
  (fun q hq=>by
   rw[List.mem_singleton] at hq;subst hq
   rw[hg];intro h;cases h) (Ext.refl w) (fun _ h _=>h.elim)
  (fun hkeep g' _=>⟨rfl,by rw[t1,lnM,List.length_take,Nat.min_eq_left h3];exact hown',by rw[List.map_take];exact hrow.2.take _⟩)
  (List.Sublist.nodup (by simp only[bl];exact t2.append_left _) n1)
  (fun b hb=>by
   have:b∈bl (g r):=by
    rw[hg]
    simp only[bl,List.mem_append] at hb ⊢
    exact hb.imp id fun h=>t2.subset h
   exact⟨(hs.own r b this).1,.inl ⟨r,by simp,this⟩⟩)
 exact⟨F,g',k1,k2,k3⟩
end
structure TI where
 sz:Nat:=1
 by_:Nat:=0
 agg:Bool:=false
 el:Option Nat:=none
 str:Bool:=false
 fo:List (Option Nat):=[]
 ft:List (Option (Nat×Nat)):=[]
 pl:List (Nat×Nat):=[]
 z:Option (List X):=none
 ik:Option IntKind:=none
 fk:Option (List FK):=none
abbrev Tab:=List (Nat×TI)
def Tab.get:Tab→Nat→Option TI
 | [],_=>none
 | (i,t)::l,T=>bif Aaz i T then some t else Tab.get l T
def eqZ1:X→Value→Bool
 | .d _ (.i k n),.int k' m=>rngB k n&&(decide (k=k')&&decide (n=m))
 | .d _ (.b b),.bool c=>b == c
 | .d _ (.s t),.string s=>Aaz t.size 0&&Aaz s.size 0
 | .nl _,.slice none 0 0=>true
 | .u,_=>true
 | _,_=>false
def eqZ:List X→List Value→Bool
 | [],[]=>true
 | x::xs,v::vs=>eqZ1 x v&&eqZ xs vs
 | _,_=>false
def eqK:List FK→List FK→Bool
 | [],[]=>true
 | .int::xs,.int::ys=>eqK xs ys
 | .str::xs,.str::ys=>eqK xs ys
 | .bool::xs,.bool::ys=>eqK xs ys
 | _,_=>false
def j8C {α:Type}(p:Nat→α→Bool):Nat→List α→Bool
 | _,[]=>true
 | i,x::l=>p i x&&j8C p (i+1) l
def TI.chk (P:Program)(T:Nat)(t:TI):Bool:=
 (szT P T == some t.sz)&&(t.by_ == 0||byT P T == some t.by_)&&(aggT P T == some t.agg)&&(match t.el with|some e=>q7i P T == some e|none=>true)&&(!t.str||strT P T) &&
 j8C (fun i o=>match o with|some k=>z7p P T i == some k|none=>true) 0 t.fo&&j8C (fun i o=>match o with|some (ft,off)=>z5b P T i == some (ft,off)|none=>true) 0 t.ft&&(t.pl.isEmpty||j0f P T == some t.pl) &&
 (match t.z with|some zs=>(match z2M P T with|some z=>eqZ zs z|none=>false)|none=>true)&&(match t.ik with|some k=>(match intT P T with|some k'=>decide (k=k')|none=>false)|none=>true)&&(match t.fk with|some ks=>(match j8v P T with|some ks'=>eqK ks ks'|none=>false)|none=>true)
def Tab.ok (P:Program)(tab:Tab):Bool:=tab.all fun p=>p.2.chk P p.1
theorem k4H {x:X}{v:Value}(h:eqZ1 x v=true)(S1:Md→Nat→Prop)(w:World)(g:Nat→G):vr S1 w g x v:=by
 unfold eqZ1 at h
 split at h
 ·simp only[Afz,decide_eq_true_eq] at h
  obtain⟨h0,rfl,rfl⟩:=h
  rw[vr,rdC]
  exact⟨rfl,j7q h0⟩
 ·rename_i b c
  have:b=c:=by simpa using h
  subst this
  rw[vr,rdC]
 ·rename_i t s
  simp only[Afz] at h
  have h1:t=s:=by
   have e1:=Abz h.1
   have e2:=Abz h.2
   cases t with|mk a=>cases s with|mk b=>
    congr 1
    have e1:a.size=0:=e1
    have e2:b.size=0:=e2
    rw[Crz e1,Crz e2]
  have hs:t.size≤9223372036854775807:=by rw[Abz h.1];exact Aez _
  subst h1
  rw[vr,rdC]
  exact⟨rfl,hs⟩
 ·rw[vr]
 ·rw[vr];trivial
 ·cases h
theorem k0a:∀ {xs:List X} {vs:List Value},eqZ xs vs=true→∀ (S1:Md→Nat→Prop) (w:World) (g:Nat→G),vrs S1 w g xs vs
 | [],[],_,_,_,_=>by rw[vrs]
 | x::xs,v::vs,h,S1,w,g=>by
  simp only[eqZ,Afz] at h
  rw[vrs]
  exact⟨v,vs,rfl,k4H h.1 S1 w g,k0a h.2 S1 w g⟩
 | [],_::_,h,_,_,_=>by cases h
 | _::_,[],h,_,_,_=>by cases h
theorem j7J:∀ {xs ys:List FK},eqK xs ys=true→xs=ys
 | [],[],_=>rfl
 | .int::xs,.int::ys,h=>by rw[j7J (xs:=xs) (ys:=ys) h]
 | .str::xs,.str::ys,h=>by rw[j7J (xs:=xs) (ys:=ys) h]
 | .bool::xs,.bool::ys,h=>by rw[j7J (xs:=xs) (ys:=ys) h]
 | [],_::_,h=>by cases h
 | .int::_,[],h=>by cases h
 | .str::_,[],h=>by cases h
 | .bool::_,[],h=>by cases h
 | .int::_,.str::_,h=>by cases h
 | .int::_,.bool::_,h=>by cases h
 | .str::_,.int::_,h=>by cases h
 | .str::_,.bool::_,h=>by cases h
 | .bool::_,.int::_,h=>by cases h
 | .bool::_,.str::_,h=>by cases h
theorem j0t {α:Type}{p:Nat→α→Bool}:∀ {l:List α} {k i:Nat} {x:α},j8C p k l=true→l[i]?=some x→p (k+i) x=true
 | [],_,_,_,_,h=>by simp at h
 | y::l,k,0,x,h,hx=>by simp at hx;subst hx;simp only[j8C,Afz] at h;exact h.1
 | y::l,k,i+1,x,h,hx=>by
  simp only[j8C,Afz] at h
  have:=j0t (i:=i) h.2 (by simpa using hx)
  rwa[show k+1+i=k+(i+1) by omega] at this
section
variable {P:Program}{tab:Tab}{T:Nat}{t:TI}
theorem Tab.chk (h:tab.ok P=true)(hT:tab.get T=some t):t.chk P T=true:=by
 induction tab with
 | nil=>cases hT
 | cons p l ih=>
  simp only[Tab.ok,List.all_cons,Afz] at h
  simp only[Tab.get] at hT
  cases hb:Aaz p.1 T with
  | true=>
   rw[hb] at hT
   simp only[cond_true,Option.some.injEq] at hT
   have:=Abz hb
   subst this;subst hT
   exact h.1
  | false=>rw[hb] at hT;exact ih h.2 hT
theorem TI.sz' (h:t.chk P T=true):szT P T=some t.sz:=by
 simp only[TI.chk,Afz] at h;simpa using h.1.1.1.1.1.1.1.1.1.1
theorem TI.by' (h:t.chk P T=true){b:Nat}(hb:t.by_=b+1):byT P T=some t.by_:=by
 simp only[TI.chk,Afz] at h
 have:=h.1.1.1.1.1.1.1.1.1.2
 rw[hb] at this ⊢
 simpa using this
theorem TI.agg' (h:t.chk P T=true):aggT P T=some t.agg:=by
 simp only[TI.chk,Afz] at h;simpa using h.1.1.1.1.1.1.1.1.2
theorem TI.el' (h:t.chk P T=true){e:Nat}(he:t.el=some e):q7i P T=some e:=by
 simp only[TI.chk,Afz] at h
 have:=h.1.1.1.1.1.1.1.2
 rw[he] at this
 simpa using this
theorem TI.str' (h:t.chk P T=true)(he:t.str=true):P.underlying T=some .string:=by
 simp only[TI.chk,Afz] at h
 have:=h.1.1.1.1.1.1.2
 rw[he] at this
 simp only[Bool.not_true,Bool.false_or] at this
 unfold strT at this
 split at this
 ·rename_i hu;exact hu
 ·cases this
theorem TI.fo' (h:t.chk P T=true){i k:Nat}(he:t.fo[i]?=some (some k)):z7p P T i=some k:=by
 simp only[TI.chk,Afz] at h
 have:=j0t h.1.1.1.1.1.2 he
 rw[Nat.zero_add] at this
 simpa using this
theorem TI.ft' (h:t.chk P T=true){i:Nat}{p:Nat×Nat}(he:t.ft[i]?=some (some p)):z5b P T i=some p:=by
 simp only[TI.chk,Afz] at h
 have:=j0t h.1.1.1.1.2 he
 rw[Nat.zero_add] at this
 simpa using this
theorem TI.pl' (h:t.chk P T=true){p:Nat×Nat}{l:List (Nat×Nat)}(he:t.pl=p::l):j0f P T=some t.pl:=by
 simp only[TI.chk,Afz] at h
 have:=h.1.1.1.2
 rw[he] at this ⊢
 simpa using this
theorem TI.z' (h:t.chk P T=true){zs:List X}(he:t.z=some zs):∃ z,z2M P T=some z∧∀ (S1:Md→Nat→Prop) (w:World) (g:Nat→G),vrs S1 w g zs z:=by
 simp only[TI.chk,Afz] at h
 have:=h.1.1.2
 rw[he] at this
 simp only at this
 split at this
 ·rename_i z hz;exact⟨z,hz,k0a this⟩
 ·cases this
theorem TI.ik' (h:t.chk P T=true){k:IntKind}(he:t.ik=some k):intT P T=some k:=by
 simp only[TI.chk,Afz] at h
 have:=h.1.2
 rw[he] at this
 simp only at this
 split at this
 ·rename_i k' hk
  simp only[decide_eq_true_eq] at this
  rw[hk,this]
 ·cases this
theorem TI.fk' (h:t.chk P T=true){ks:List FK}(he:t.fk=some ks):j8v P T=some ks:=by
 simp only[TI.chk,Afz] at h
 have:=h.2
 rw[he] at this
 simp only at this
 split at this
 ·rename_i k' hk;rw[hk,j7J this]
 ·cases this
end
def cmpI (op:BinOp)(a b:Int):Option Bool:=match op with
 | .lss=>some (decide (a<b))
 | .leq=>some (decide (a≤b))
 | .gtr=>some (decide (b<a))
 | .geq=>some (decide (b≤a))
 | .eql=>some (decide (a=b))
 | .neq=>some (!decide (a=b))
 | _=>none
def cmpS (op:BinOp)(a b:BA_):Option Bool:=match op with
 | .eql=>some (decide (a=b))
 | .neq=>some (!decide (a=b))
 | .lss=>some (Op.bytesLess a.toList b.toList)
 | .gtr=>some (!(Op.bytesLess a.toList b.toList||decide (a=b)))
 | .geq=>some (!Op.bytesLess a.toList b.toList)
 | .leq=>some (Op.bytesLess a.toList b.toList||decide (a=b))
 | _=>none
def opB (op:BinOp):X→X→Option Bool
 | .d _ (.i k a),.d _ (.i k' b)=>if k=k' then cmpI op a b else none
 | .d _ (.s a),.d _ (.s b)=>cmpS op a b
 | _,_=>none
theorem k4I {P:Program}{T:TypeId}{op:BinOp}{x y:X}{r:Bool}(h:opB op x y=some r):∃ u v,cvX x=some u∧cvX y=some v∧Bin P op T u v (.bool r):=by
 unfold opB at h
 split at h
 ·rename_i k a _ k' b
  split at h
  ·rename_i hk
   subst hk
   refine⟨_,_,rfl,rfl,?_⟩
   cases op<;>simp only[cmpI] at h<;>cases h
   ·exact q2w
   ·exact q2x
   ·exact q2s
   ·exact q2t
   ·exact q2u
   ·exact q2v
  ·cases h
 ·rename_i a _ b
  refine⟨_,_,rfl,rfl,?_⟩
  cases op<;>simp only[cmpS] at h<;>cases h
  ·exact q1H
  ·exact q1I
  ·exact q1U
  ·exact q1X
  ·exact q1V
  ·exact q1W
 ·cases h
def opV (tab:Tab)(ρ:AE)(σ:St):Op→Option (X×List Nat)
 | .move x=>some (evX ρ x,[])
 | .assign x=>some (evX ρ x,[])
 | .pick c x y=>match evX ρ c with|.d _ (.b b)=>some (if b then evX ρ x else evX ρ y,[])|_=>none
 | .fieldAddr T x i=>match tab.get T with
  | some t=>match t.fo[i]? with
   | some (some k)=>match evX ρ x with
    | .pb r c=>match fnOf σ r with|.box _=>some (.pb r (c+k),[r])|_=>none
    | .pf m ds=>some (.pf m (ds.drop k),[])
    | .pe r l j c=>match esAt (fnOf σ r) l with|some _=>some (.pe r l j (c+k),[r])|none=>none
    | _=>none
   | _=>none
  | none=>none
 | .load T x=>match tab.get T with
  | some t=>match t.agg with
   | false=>match evX ρ x with
    | .pb r c=>match fnOf σ r with
     | .box cs=>match cs[c]? with|some y=>some (y,[r])|none=>none
     | _=>none
    | .pf m (d::_)=>some (dX m d,[])
    | _=>none
   | true=>match evX ρ x with
    | .pb r c=>match fnOf σ r with
     | .box cs=>match Aaz ((cs.drop c).take t.sz).length t.sz with|true=>some (.ag ((cs.drop c).take t.sz),[r])|false=>none
     | _=>none
    | .pf m ds=>match Aaz (ds.take t.sz).length t.sz with|true=>some (.ag ((ds.take t.sz).map (dX m)),[])|false=>none
    | _=>none
  | none=>none
 | .nilCheck x=>match evX ρ x with
  | .pb r c=>match fnOf σ r with|.box _=>some (.pb r c,[r])|_=>none
  | _=>none
 | .extract x k=>match evX ρ x with
  | .tu xs=>match xs[k]? with|some y=>some (y,[])|none=>none
  | _=>none
 | .field T x i=>match tab.get T with
  | some t=>match t.ft[i]? with
   | some (some (ft,off))=>match tab.get ft with
    | some tf=>match evX ρ x with
     | .ag xs=>match tf.agg with
      | false=>match xs[off]? with|some y=>some (y,[])|none=>none
      | true=>some (.ag ((xs.drop off).take tf.sz),[])
     | _=>none
    | none=>none
   | _=>none
  | none=>none
 | .unOp .not _ x=>match evX ρ x with|.d _ (.b b)=>some (.d .fz (.b (!b)),[])|_=>none
 | .binOp op _ x y _=>match opB op (evX ρ x) (evX ρ y) with|some b=>some (.d .fz (.b b),[])|none=>none
 | .makeFunc fn first c=>match fn,first.toList with|.func f,[]=>some (.fn f (c.toList.map (evX ρ)),[])|_,_=>none
 | .build T parts=>match tab.get T with
  | some t=>match t.pl,t.z with
   | _::_,some zs=>
    match (parts.toList.all fun p=>z3r (fnOf σ) (evX ρ p.2))&&z3H t.pl zs.length (parts.toList.map fun p=>(p.1,(evX ρ p.2).cells.length)) with
    | true=>some (.ag (layP t.pl zs (parts.toList.map fun p=>(p.1,(evX ρ p.2).cells))),parts.toList.flatMap fun p=>q7C (evX ρ p.2))
    | false=>none
   | _,_=>none
  | none=>none
 | _=>none
section
variable {P:Program}{S:Start}{ρ:AE}{σ:St}{o:Oper}
theorem q1u {tab:Tab}(ht:tab.ok P=true){v:X}{rd:List Nat}(h:Go.A.opV tab ρ σ o.op=some (v,rd)):LT P S o ρ σ rd v []:=by
 unfold Go.A.opV at h
 split at h
 ·rename_i x ho;cases h;exact q2I ho
 ·rename_i x ho;cases h;exact LT.as ho
 ·rename_i c x y ho
  split at h
  ·rename_i hc;cases h;exact q2J ho hc
  ·cases h
 ·rename_i T x i ho
  split at h
  ·rename_i t hT
   split at h
   ·rename_i k hk
    have hf:=TI.fo' (Tab.chk ht hT) hk
    split at h
    ·rename_i r c hx
     split at h
     ·rename_i cs hσ;cases h;exact q3j ho hf hx hσ
     ·cases h
    ·rename_i m ds hx;cases h;exact q3k ho hf hx
    ·rename_i r l j c hx
     split at h
     ·rename_i p hσ;cases h;exact q3l ho hf hx hσ
     ·cases h
    ·cases h
   ·cases h
  ·cases h
 ·rename_i T x ho
  split at h
  ·rename_i t hT
   have hc:=Tab.chk ht hT
   have hag:=TI.agg' hc
   have hsz:=TI.sz' hc
   split at h
   ·rename_i ha
    rw[ha] at hag
    split at h
    ·rename_i r c hx
     split at h
     ·rename_i cs hσ
      split at h
      ·rename_i y hy;cases h;exact q3m ho hag hx hσ hy
      ·cases h
     ·cases h
    ·rename_i m d ds hx;cases h;exact q3n ho hag hx
    ·cases h
   ·rename_i ha
    rw[ha] at hag
    split at h
    ·rename_i r c hx
     split at h
     ·rename_i cs hσ
      split at h
      ·rename_i hl;cases h;exact q2K ho hag hsz hx hσ (Abz hl)
      ·cases h
     ·cases h
    ·rename_i m ds hx
     split at h
     ·rename_i hl;cases h;exact q0K ho hag hsz hx (Abz hl)
     ·cases h
    ·cases h
  ·cases h
 ·rename_i x ho
  split at h
  ·rename_i r c hx
   split at h
   ·rename_i cs hσ;cases h;exact q2O ho hx hσ
   ·cases h
  ·cases h
 ·rename_i x k ho
  split at h
  ·rename_i xs hx
   split at h
   ·rename_i y hy;cases h;exact LT.ext ho hx hy
   ·cases h
  ·cases h
 ·rename_i T x i ho
  split at h
  ·rename_i t hT
   split at h
   ·rename_i ft off hf
    have hfy:=TI.ft' (Tab.chk ht hT) hf
    split at h
    ·rename_i tf hft
     have hc:=Tab.chk ht hft
     split at h
     ·rename_i xs hx
      split at h
      ·rename_i ha
       split at h
       ·rename_i y hy;cases h;exact q3u ho hfy (by rw[TI.agg' hc,ha]) hx hy
       ·cases h
      ·rename_i ha
       cases h
       exact q2N ho hfy (by rw[TI.agg' hc,ha]) (TI.sz' hc) hx
     ·cases h
    ·cases h
   ·cases h
  ·cases h
 ·rename_i T x ho
  split at h
  ·rename_i hx;cases h;exact q3t ho hx
  ·cases h
 ·rename_i op T x y U ho
  split at h
  ·rename_i b hb
   cases h
   obtain⟨u,v,h1,h2,h3⟩:=k4I (P:=P) (T:=T) hb
   exact q0R ho rfl rfl h1 h2 (fun _ _=>⟨h3,trivial⟩) rfl
  ·cases h
 ·rename_i fn first c ho
  split at h
  ·rename_i f hf
   cases h
   refine q3v ?_
   rw[ho]
   congr 1
   exact Array.toList_eq_nil_iff.1 hf
  ·cases h
 ·rename_i T parts ho
  split at h
  ·rename_i t hT
   have hc:=Tab.chk ht hT
   split at h
   ·rename_i p l zs hp hz
    split at h
    ·rename_i hok
     cases h
     simp only[Afz] at hok
     obtain⟨z,hz1,hz2⟩:=TI.z' hc hz
     have:=LT.build (S:=S) (ρ:=ρ) (σ:=σ) ho (TI.pl' hc hp) hz1 hz2 rfl (by simpa[List.all_map] using hok.1) (by simpa[List.map_map,Function.comp_def] using hok.2) rfl
     simpa[List.map_map,Function.comp_def,List.flatMap_map] using this
    ·cases h
   ·cases h
  ·cases h
 ·cases h
end
section
variable {P:Program}{S:Start}{n0 nt:Nat}{Q:q3Z}{ρ:AE}{σ:St}{c:Code}
theorem q0c {α β:Type}{f:Nat→α→β→Option β}{xs:List α}{s0 s1:β}(hr:Go.E.eachL f 0 xs s0=some s1)(hl:(xs.length:Int)≤9223372036854775807)(n:Nat)(L:Nat→β→List (Nat×X))(R:Nat→β→List (Nat×Root))
  (h0:GH S ρ σ (ofX (L 0 s0)) (owrL (σ.take n) (R 0 s0)))
  (step:∀ k x s s',xs[k]?=some x→f k x s=some s'→(k:Int)<xs.length→AW P S nt c (z6E (fun ρ' σ'=>GH S ρ' σ' (ofX (L (k+1) s')) (owrL (σ.take n) (R (k+1) s'))) Q) (ofX (L k s)) (owrL (σ.take n) (R k s)))
  (fin:∀ k:Nat,¬ (k:Int)<xs.length→AW P S nt c (z6E (fun _ _=>False) Q) (ofX (L k s1)) (owrL (σ.take n) (R k s1))):AW P S nt (.loop c) Q ρ σ:=by
 refine q0t (α:={ p:Nat×β // p.1≤xs.length∧Go.E.eachL f p.1 (xs.drop p.1) p.2=some s1 }) (fun x=>ofX (L x.1.1 x.1.2)) (fun x=>owrL (σ.take n) (R x.1.1 x.1.2)) (fun x=>xs.length-x.1.1) ⟨(0,s0),Aez _,hr⟩ h0 ?_
 rintro⟨⟨k,s⟩,hk,he⟩
 simp only at hk he
 by_cases hlt:k<xs.length
 ·have hx:xs[k]?=some xs[k]:=Ckz hlt
  rw[Cpz hlt,Go.E.eachL] at he
  obtain⟨s',h1,h2⟩:=Option.bind_eq_some_iff.1 he
  refine (step k xs[k] s s' hx h1 (by omega)).mono fun e ρ' σ' h=>?_
  cases e with
  | normal=>exact⟨⟨(k+1,s'),hlt,h2⟩,h,by simp only;omega⟩
  | _=>exact h
 ·rw[Cqz (by omega),Go.E.eachL] at he
  cases he
  refine (fin k (by omega)).mono fun e ρ' σ' h=>?_
  cases e with
  | normal=>exact h.elim
  | _=>exact h
theorem q0b {α β γ:Type}{f:Nat→α→β→Option (β ⊕ γ)}{xs:List α}{s0:β}{out:β ⊕ γ}(hr:Go.E.findL f 0 xs s0=some out)(hl:(xs.length:Int)≤9223372036854775807)(n:Nat)(L:Nat→β→List (Nat×X))(R:Nat→β→List (Nat×Root))
  (h0:GH S ρ σ (ofX (L 0 s0)) (owrL (σ.take n) (R 0 s0)))
  (step:∀ k x s o,xs[k]?=some x→f k x s=some o→(k:Int)<xs.length→(∀ r1,o=.inr r1→out=.inr r1)→AW P S nt c (z6E (fun ρ' σ'=>∃ s',o=.inl s'∧GH S ρ' σ' (ofX (L (k+1) s')) (owrL (σ.take n) (R (k+1) s'))) Q) (ofX (L k s)) (owrL (σ.take n) (R k s)))
  (fin:∀ (k:Nat) s1,out=.inl s1→¬ (k:Int)<xs.length→AW P S nt c (z6E (fun _ _=>False) Q) (ofX (L k s1)) (owrL (σ.take n) (R k s1))):AW P S nt (.loop c) Q ρ σ:=by
 refine q0t (α:={ p:Nat×β // p.1≤xs.length∧Go.E.findL f p.1 (xs.drop p.1) p.2=some out }) (fun x=>ofX (L x.1.1 x.1.2)) (fun x=>owrL (σ.take n) (R x.1.1 x.1.2)) (fun x=>xs.length-x.1.1) ⟨(0,s0),Aez _,hr⟩ h0 ?_
 rintro⟨⟨k,s⟩,hk,he⟩
 simp only at hk he
 by_cases hlt:k<xs.length
 ·have hx:xs[k]?=some xs[k]:=Ckz hlt
  rw[Cpz hlt,Go.E.findL] at he
  obtain⟨o,h1,h2⟩:=Option.bind_eq_some_iff.1 he
  refine (step k xs[k] s o hx h1 (by omega) (fun r1 e=>by subst e;simpa using h2.symm)).mono fun e ρ' σ' h=>?_
  cases e with
  | normal=>
   obtain⟨s',rfl,h⟩:=h
   exact⟨⟨(k+1,s'),hlt,h2⟩,h,by simp only;omega⟩
  | _=>exact h
 ·rw[Cqz (by omega),Go.E.findL] at he
  cases he
  refine (fin k s rfl (by omega)).mono fun e ρ' σ' h=>?_
  cases e with
  | normal=>exact h.elim
  | _=>exact h
theorem q0n {β:Type}{f:Nat→β→Option β}{m:Nat}{s0 s1:β}(hr:Go.E.eachN f 0 m s0=some s1)(n:Nat)(L:Nat→β→List (Nat×X))(R:Nat→β→List (Nat×Root))
  (h0:GH S ρ σ (ofX (L 0 s0)) (owrL (σ.take n) (R 0 s0)))
  (step:∀ k s s',f k s=some s'→k<m→AW P S nt c (z6E (fun ρ' σ'=>GH S ρ' σ' (ofX (L (k+1) s')) (owrL (σ.take n) (R (k+1) s'))) Q) (ofX (L k s)) (owrL (σ.take n) (R k s)))
  (fin:AW P S nt c (z6E (fun _ _=>False) Q) (ofX (L m s1)) (owrL (σ.take n) (R m s1))):AW P S nt (.loop c) Q ρ σ:=by
 refine q0t (α:={ p:Nat×β // p.1≤m∧Go.E.eachN f p.1 (m-p.1) p.2=some s1 }) (fun x=>ofX (L x.1.1 x.1.2)) (fun x=>owrL (σ.take n) (R x.1.1 x.1.2)) (fun x=>m-x.1.1) ⟨(0,s0),Aez _,hr⟩ h0 ?_
 rintro⟨⟨k,s⟩,hk,he⟩
 simp only at hk he
 by_cases hlt:k<m
 ·rw[show m-k=(m-(k+1))+1 by omega,Go.E.eachN] at he
  obtain⟨s',h1,h2⟩:=Option.bind_eq_some_iff.1 he
  refine (step k s s' h1 hlt).mono fun e ρ' σ' h=>?_
  cases e with
  | normal=>exact⟨⟨(k+1,s'),hlt,h2⟩,h,by simp only;omega⟩
  | _=>exact h
 ·have hkm:k=m:=by omega
  subst hkm
  rw[Nat.sub_self,Go.E.eachN] at he
  cases he
  refine fin.mono fun e ρ' σ' h=>?_
  cases e with
  | normal=>exact h.elim
  | _=>exact h
theorem q0s {β γ:Type}{f:Nat→β→Option (β ⊕ γ)}{m:Nat}{s0:β}{out:β ⊕ γ}(hr:Go.E.findN f 0 m s0=some out)(n:Nat)(L:Nat→β→List (Nat×X))(R:Nat→β→List (Nat×Root))
  (h0:GH S ρ σ (ofX (L 0 s0)) (owrL (σ.take n) (R 0 s0)))
  (step:∀ k s o,f k s=some o→k<m→(∀ r1,o=.inr r1→out=.inr r1)→AW P S nt c (z6E (fun ρ' σ'=>∃ s',o=.inl s'∧GH S ρ' σ' (ofX (L (k+1) s')) (owrL (σ.take n) (R (k+1) s'))) Q) (ofX (L k s)) (owrL (σ.take n) (R k s)))
  (fin:∀ s1,out=.inl s1→AW P S nt c (z6E (fun _ _=>False) Q) (ofX (L m s1)) (owrL (σ.take n) (R m s1))):AW P S nt (.loop c) Q ρ σ:=by
 refine q0t (α:={ p:Nat×β // p.1≤m∧Go.E.findN f p.1 (m-p.1) p.2=some out }) (fun x=>ofX (L x.1.1 x.1.2)) (fun x=>owrL (σ.take n) (R x.1.1 x.1.2)) (fun x=>m-x.1.1) ⟨(0,s0),Aez _,hr⟩ h0 ?_
 rintro⟨⟨k,s⟩,hk,he⟩
 simp only at hk he
 by_cases hlt:k<m
 ·rw[show m-k=(m-(k+1))+1 by omega,Go.E.findN] at he
  obtain⟨o,h1,h2⟩:=Option.bind_eq_some_iff.1 he
  refine (step k s o h1 hlt (fun r1 e=>by subst e;simpa using h2.symm)).mono fun e ρ' σ' h=>?_
  cases e with
  | normal=>
   obtain⟨s',rfl,h⟩:=h
   exact⟨⟨(k+1,s'),hlt,h2⟩,h,by simp only;omega⟩
  | _=>exact h
 ·have hkm:k=m:=by omega
  subst hkm
  rw[Nat.sub_self,Go.E.findN] at he
  cases he
  refine (fin s rfl).mono fun e ρ' σ' h=>?_
  cases e with
  | normal=>exact h.elim
  | _=>exact h
theorem q0g {β γ:Type}{f:β→Option (β ⊕ γ)}{s0:β}{r:γ}(hr:q4Y f s0=some r)(n:Nat)(L:β→List (Nat×X))(R:β→List (Nat×Root))
  (h0:GH S ρ σ (ofX (L s0)) (owrL (σ.take n) (R s0)))
  (step:∀ s o,f s=some o→(∀ r1,o=.inr r1→r=r1)→AW P S nt c (z6E (fun ρ' σ'=>∃ s',o=.inl s'∧GH S ρ' σ' (ofX (L s')) (owrL (σ.take n) (R s'))) Q) (ofX (L s)) (owrL (σ.take n) (R s))):AW P S nt (.loop c) Q ρ σ:=by
 obtain⟨N,hN⟩:=z6a.1 hr
 refine q0t (α:={ p:Nat×β // z9A f p.1 p.2=some r }) (fun x=>ofX (L x.1.2)) (fun x=>owrL (σ.take n) (R x.1.2)) (fun x=>x.1.1) ⟨(N,s0),hN⟩ h0 ?_
 rintro⟨⟨k,s⟩,he⟩
 simp only at he
 cases k with
 | zero=>cases he
 | succ k=>
  rw[z9A] at he
  obtain⟨o,h1,h2⟩:=Option.bind_eq_some_iff.1 he
  refine (step s o h1 (fun r1 e=>by subst e;simpa using h2.symm)).mono fun e ρ' σ' h=>?_
  cases e with
  | normal=>
   obtain⟨s',rfl,h⟩:=h
   exact⟨⟨(k,s'),h2⟩,h,by simp⟩
  | _=>exact h
theorem AW.cut {β:Type}(n:Nat)(L:β→List (Nat×X))(R:β→List (Nat×Root)){M:β→Prop}
  (h1:AW P S nt c (z6E (fun ρ' σ'=>∃ s,M s∧GH S ρ' σ' (ofX (L s)) (owrL (σ.take n) (R s))) Q) ρ σ)
  (h2:∀ s,M s→Q .normal (ofX (L s)) (owrL (σ.take n) (R s))):AW P S nt c Q ρ σ:=by
 intro F g w ρc hs hv
 refine (h1 F g w ρc hs hv).mono fun e ρc' w' ⟨ρ',σ',F',g',k1,k2,k3⟩=>?_
 cases e with
 | normal=>
  obtain⟨s,hm,hg⟩:=k3
  obtain⟨F2,g2,m1,m2⟩:=hg F' g' w' ρc' k1 k2
  exact⟨_,_,F2,g2,m1,m2,h2 s hm⟩
 | _=>exact⟨ρ',σ',F',g',k1,k2,k3⟩
theorem bdE {α β:Type}{o:Option α}{f:α→Option β}{r:β}{G:Prop}(hr:o.bind f=some r)(h:∀ y,o=some y→f y=some r→G):G:=by
 obtain⟨y,h1,h2⟩:=Option.bind_eq_some_iff.1 hr
 exact h y h1 h2
theorem ggE {β:Type}{c:Prop}[Decidable c]{k:Option β}{r:β}{G:Prop}(hr:grd c k=some r)(h:c→k=some r→G):G:=h (z4r hr).1 (z4r hr).2
theorem ifE {β:Type}{c:Prop}[Decidable c]{a b:Option β}{r:β}{G:Prop}(hr:(if c then a else b)=some r)(h1:c→a=some r→G)(h2:¬ c→b=some r→G):G:=by
 by_cases hc:c
 ·exact h1 hc (by rwa[ifP hc] at hr)
 ·exact h2 hc (by rwa[ifN hc] at hr)
end
end Go.A
