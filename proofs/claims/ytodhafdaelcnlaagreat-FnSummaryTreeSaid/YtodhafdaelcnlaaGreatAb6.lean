/- Abstract states of a walk: plain lemmas on the model, without conditions of their own. -/
import Derived.Test.YtodhafdaelcnlaaGreatAb5
set_option linter.unusedVariables false
set_option linter.unusedSimpArgs false
set_option linter.ambiguousOpen false
set_option linter.unusedSectionVars false
set_option linter.unnecessarySimpa false
open Nat renaming lt_of_lt_of_le->Bfz,beq->Aaz,zero_le->Aez,min_eq_left->Crz,eq_of_beq_eq_true->Abz
open List renaming length_append->Axz,nodup_append->Chz,mem_append->Ciz,singleton_append->Cnz,length_take->Brz,mem_singleton->Bpz,getElem?_eq_getElem->Cmz,drop_eq_getElem_cons->Csz,drop_of_length_le->Ctz
open Bool renaming and_eq_true->Afz
open Array renaming eq_empty_of_size_eq_zero->Cuz
namespace Go.A
open Go Go.E
section
variable {P:Program}{S:Start}{n:Nat}{ρ:AE}{σ:St}{o:Oper}
theorem Ub {r' : Nat}{x:aA}{qs:List Nat}{σ:Nat->aA}:cq σ ((qs.map λq=>(q,.dead))++[(r',x)])=λi=>if i=r' then x else if i∈qs then .dead else σ i:=by
 induction qs generalizing σ with
 | nil=>funext i;simp[cq]
 | cons q qs ih=>
  rw[List.map_cons,List.cons_append,cq,ih];funext i;by_cases U:i=r';simp[U];by_cases K:i∈qs;simp[U,K];by_cases h3:i=q<;>simp[U,K,h3]
theorem bu.regrowL {F:Nat->Prop}{g:Nat->G}{w w' : World}{σ1:Nat->aA}(hs:bu S F g σ1 w){r' : Nat}{qs:List Nat}(hr' : σ1 r'=.none)(hq:∀ q∈qs,g q≠.none){M:Nat->Prop}(hc:cJ M w w')(hM:∀ b,M b->b<w.heap.size->∃ q∈qs,b∈bl (g q)){v' : Value}{k:Nat}{L' : List Nat}{gs' : List (List GC)}{x:aA}
  (hx:(∀ m b o cs,SM F S.B m b->b<w.heap.size->At w b o cs->SM F S.B m b/\b<w'.heap.size/\At w' b o cs)->∀ g',(∀ i,dh (g i) (g' i))->gZ (SM F S.B) w' g' x (.row v' k L' gs')) (hnd:(bl (.row v' k L' gs')).Nodup) (hbl:∀ b∈bl (.row v' k L' gs'),b<w'.heap.size/\((∃ q∈qs,b∈bl (g q))∨w.heap.size<=b)) :
  ∃ g',bu S F g' (cq σ1 ((qs.map λq=>(q,.dead))++[(r',x)])) w'/\cr S.B F g w F g' w'/\vr (SM F S.B) w' g' (.ref r' none) v':=by
 have hg2:=EK hs hr';have hrq:r'∉qs:=λh=>hq r' h hg2;let g' : Nat->G:=λi=>if i=r' then .row v' k L' gs' else if i∈qs then .dead else g i
 have gr:g' r'=.row v' k L' gs':=by simp[g']
 have gq:∀ q∈qs,g' q=.dead:=λq hq=>by
  have:q≠r':=λe=>hrq (e▸hq);simp[g',this,hq]
 have go:∀ i,¬ (i∈qs∨i=r')->g' i=g i:=λi hi=>by
  have U:i≠r':=λe=>hi (.inr e);have K:i∉qs:=λe=>hi (.inl e);simp[g',U,K]
 have hadv:∀ i,dh (g i) (g' i):=λi=>by
  by_cases U:i=r';subst U;rw[hg2];trivial;by_cases K:i∈qs;rw[gq i K];exact dh.dead (hq i K);rw[go i (λh=>h.elim K U)];exact dh.refl _
 rw[Ub];obtain⟨U,K⟩:=hs.step (g':=g') (σ':=λi=>if i=r' then x else if i∈qs then .dead else σ1 i) (F':=F) (w':=w') (λi=>i∈qs∨i=r') hc (λb Y hl=>let ⟨q,U,K⟩:=hM b Y hl;⟨q,.inl U,K⟩)
  (λi hi=>⟨go i hi,by simp only[an (λe=>hi (.inr e)),an (λe=>hi (.inl e))]⟩)
  (λi _=>hadv i) (λ_ h=>h) (λb Y=>⟨Bfz (hs.flt b Y) hc.size,.inl Y⟩)
  (λhk hp i hi=>by
   by_cases U:i=r';subst U;simp only[if_true,gr];exact hx hk g' hadv;have K:i∈qs:=hi.resolve_right U;simp only[an U,ao K,gq i K];trivial)
  (λi hi=>by
   by_cases U:i=r';subst U;rw[gr];exact hnd;rw[gq i (hi.resolve_right U)];exact List.nodup_nil)
  (λi j hi hj hij b Y=>by
   by_cases U:i=r';by_cases K:j=r';exact absurd (U.trans K.symm) hij;rw[gq j (hj.resolve_right K)];exact List.not_mem_nil;rw[gq i (hi.resolve_right U)] at Y;cases Y)
  (λi b hi Y=>by
   by_cases U:i=r';subst U;rw[gr] at Y;obtain⟨h3,h4⟩:=hbl b Y;refine⟨h3,λhf=>?_,?_⟩;rcases h4 with ⟨q,_,h4⟩|h4;exact (hs.own q b h4).2.1 hf;have:=hs.flt b hf;omega;rcases h4 with ⟨q,h5,h4⟩|h4;exact .inr ⟨q,.inl h5,h4⟩;exact .inl h4;rw[gq i (hi.resolve_right U)] at Y;cases Y)
 refine⟨g',U,K,?_⟩;rw[vr,gr];intro u q hu;simp only[G.at] at hu;cases hu;rfl
theorem EG {F:Nat->Prop}{g:Nat->G}{w:World}{σ1:Nat->aA}(hs:bu S F g σ1 w){r k:Nat}{m:Md}{es:List (List Cell)}{hh:List (Nat×Nat×Nat)}(Z:σ1 r=.deep m k es hh):∃ v L gs,g r=.row v k L gs/\rowOk (SM F S.B) w es v k L gs/\bp g hh gs/\(m=.fz->mD es):=by
 have h:=hs.roots r;rw[Z] at h;cases hg:g r<;>rw[hg] at h<;>try exact h.elim
 obtain⟨⟨rfl,U⟩,K,h3⟩:=h;exact⟨_,_,_,rfl,U,K,h3⟩
theorem X9 {a b:List (List Cell)}(U:mD a)(K:mD b):mD (a++b):=λe he=>by
 rcases List.mem_append.1 he with h|h;exact U e h;exact K e h
theorem Mp {S1:Md->Nat->Prop}{w:World}{k:Nat}:∀ {es:List (List Cell)} {gs:List (List GC)},aS (fq S1 w k) es gs->∀ u∈b0 gs,u.oneCell'=true
 | [],_,h,u,hu=>by rw[show _=[] from h] at hu;simp[b0] at hu
 | e::es,_,⟨ge,r,U,K,h3⟩,u,hu=>by
  subst U;rw[kA] at hu;rcases List.mem_append.1 hu with hu|hu;obtain⟨gc,hgc,rfl⟩:=List.mem_map.1 hu;obtain⟨i,hi⟩:=List.getElem?_of_mem hgc;obtain⟨c,_,hc⟩:=K.2.get' hi;cases c with
  | d m x=>exact hc.2.2.one
  | o m k xs=>obtain⟨_,_,cs,h,_⟩:=hc;obtain⟨A,c,e,_⟩:=h.form;rw[e];rfl
  | w k xs=>have h:=hc.2.2;simp only[fx] at h;obtain⟨L0,cs,L1,h,_⟩:=h;obtain⟨A,c,e,_⟩:=h.form;rw[e];rfl
  | nl k=>rw[hc.2.2];rfl
  | u=>exact hc.2.2
  exact Mp h3 u hu
theorem FS {k:Nat}:∀ {gs:List (List GC)},(∀ ge∈gs,ge.length=k)->(b0 gs).length=gs.length*k
 | [],_=>by simp[b0]
 | ge::gs,h=>by
  rw[kA,Axz,bh,h ge (by simp),FS λg hg=>h g (by simp[hg]),bE,Nat.add_mul];omega
theorem Rq {T e k b r r2 r' : Nat}{z:List Value}{s x:Operand}{m:Md}{es es2:List (List Cell)}(ho:o.op=.call { callee:=.builtin .append,args:=#[s,x],argTypes:=#[T,T] })(hT:db P T=some e)(hk:cu P e=some k)(Y:mG P e=some b)(hz:gk P e=some z)(hzk:z.length=k)(hk0:Nat.blt 0 k=true)
  (hs:aH ρ s=.ref r none) (hσ:ak σ r=.deep m k es []) (hx:aH ρ x=.ref r2 none) (hσ2:ak σ r2=.deep m k es2 []) (hmax:(es.length+es2.length)*b<=140737488355328) (hlen:es.length+es2.length<=maxLen) (hr' : ak σ r'=.none) (hne:Aaz r r2=false) :
  LT P S o ρ σ [] (.ref r' none) [(r,.dead),(r2,.dead),(r',.deep m k (es++es2) [])]:=by
 intro σ1 F g w ρc hsim hrd hwr hv;have hne:r≠r2:=λe=>by subst e;simp at hne
 have hr1:σ1 r=.deep m k es []:=(hwr (r,.dead) (by simp)).trans hσ;have hr2:σ1 r2=.deep m k es2 []:=(hwr (r2,.dead) (by simp)).trans hσ2;have hr3:σ1 r'=.none:=(hwr (r',.deep m k (es++es2) []) (by simp)).trans hr';have e1:=hv s (by simp[ho,Op.operands,Call.operands]);have e2:=hv x (by simp[ho,Op.operands,Call.operands]);obtain⟨v,L,gs,hg,hrow,_,hfz⟩:=EG hsim hr1;obtain⟨v2,L2,gs2,hg2,hrow2,_,hfz2⟩:=EG hsim hr2;rw[hs,vr,hg] at e1;rw[hx,vr,hg2] at e2;have e3:=e1 _ _ rfl;have e4:=e2 _ _ rfl;obtain⟨A,c2,hv2,_,_⟩:=hrow2.1.form;have hl2:(b0 gs2).length=es2.length*k:=by rw[FS (l4 hrow2.2),hrow2.2.len]
 obtain⟨v',w',L',hrun,hown',hchg,hL'⟩:=Of (P:=P) (ty:=o.type) (w:=w) (A:=A) (c2:=c2) (m2:=es2.length) (news:=b0 gs2) hT hk Y hz hzk (by simpa using hk0) hrow.1 hl2
  (by
   rcases hrow2.1.at with h|⟨b,c',T',cur,U,K,_⟩
   exact .inl h;rw[hv2] at U;cases U;exact .inr ⟨b,0,rfl,K⟩) (Mp hrow2.2) hmax hlen
 rw[KU (P:=P) (w:=w) ho e3 (e4.trans hv2) hrun];have hL1:∀ b∈L,b∈bl (g r):=λb Y=>by rw[hg];simp[bl,Y]
 have n1:=hsim.nodup r;have n2:=hsim.nodup r2;rw[hg] at n1;rw[hg2] at n2;have b1:∀ b∈cD gs,b∈bl (g r):=λb Y=>by rw[hg];simp[bl,Y]
 have b2:∀ b∈cD gs2,b∈bl (g r2):=λb Y=>by rw[hg2];simp[bl,Y]
 have n1' : ∀ b∈L,b∉cD gs:=λb Y hb2=>(List.nodup_append.1 n1).2.2 b Y b hb2 rfl;obtain⟨g',U,K,h3⟩:=hsim.regrowL (r':=r') (qs:=[r,r2]) (x:=.deep m k (es++es2) []) (v':=v') (k:=k) (L':=L') (gs':=gs++gs2) hr3
  (λq hq=>by
   simp only[List.mem_cons,List.not_mem_nil,or_false] at hq;rcases hq with rfl|rfl;rw[hg];intro h;cases h;rw[hg2];intro h;cases h) hchg (λb Y _=>⟨r,by simp,hL1 b Y⟩)
  (λhkeep g' _=>⟨⟨rfl,by rw[Zm,Axz];exact hown',
   (hrow.2.imp_mem λe' ge' hm' he'=>⟨he'.1,aT.keepL hkeep he'.2 λb Y=>by
    have hb' : b∈cD gs:=List.mem_flatMap.2 ⟨ge',hm',Y⟩;exact hchg.block b (hsim.own r b (b1 b hb')).1 λh=>n1' b h hb'⟩).append
   (hrow2.2.imp_mem λe' ge' hm' he'=>⟨he'.1,aT.keepL hkeep he'.2 λb Y=>by
    have hb' : b∈cD gs2:=List.mem_flatMap.2 ⟨ge',hm',Y⟩;exact hchg.block b (hsim.own r2 b (b2 b hb')).1 λh=>hsim.disj r r2 hne b (hL1 b h) (b2 b hb')⟩)⟩,bp.nil,λhm=>X9 (hfz hm) (hfz2 hm)⟩)
  (by
   simp only[bl,M7];rw[Chz,Chz];refine⟨hown'.nodup,⟨(List.nodup_append.1 n1).2.1,(List.nodup_append.1 n2).2.1,λa ha b Y e=>hsim.disj r r2 hne a (b1 a ha) (e▸b2 b Y)⟩,λa ha b Y e=>?_⟩;subst e;rcases hL' a ha with h|h;rcases List.mem_append.1 Y with Y|Y;exact n1' a h Y;exact hsim.disj r r2 hne a (hL1 a h) (b2 a Y);rcases List.mem_append.1 Y with Y|Y;have:=(hsim.own r a (b1 a Y)).1;omega;have:=(hsim.own r2 a (b2 a Y)).1;omega)
  (λb Y=>by
   simp only[bl,M7,Ciz] at Y;rcases Y with Y|Y|Y;exact⟨hown'.lst b Y,(hL' b Y).imp (λh=>⟨r,by simp,hL1 b h⟩) id⟩;exact⟨Bfz (hsim.own r b (b1 b Y)).1 hchg.size,.inl ⟨r,by simp,b1 b Y⟩⟩;exact⟨Bfz (hsim.own r2 b (b2 b Y)).1 hchg.size,.inl ⟨r2,by simp,b2 b Y⟩⟩)
 exact⟨F,g',U,K,h3⟩
end
inductive ki (σ:Nat->aA) (m:Md) (k:Nat):List X->List (List Cell)->List Nat->Prop
 | nil:ki σ m k [] [] []
 | cons {x:X} {xs:List X} {e:List Cell} {es:List (List Cell)} {q1 qs:List Nat} (h:NC σ m x.cells e q1) (hk:e.length=k) (hs:gH σ x=true) (K:ki σ m k xs es qs):ki σ m k (x::xs) (e::es) (q1++qs)
theorem ki.alive {σ:Nat->aA}{m:Md}{k:Nat}:∀ {xs:List X} {es:List (List Cell)} {qs:List Nat},ki σ m k xs es qs->∀ q∈qs,∃ c,MC (σ q) c
 | _,_,_,.nil,q,hq=>by cases hq
 | _,_,_,.cons h _ _ K,q,hq=>by
  rcases List.mem_append.1 hq with hq|hq;exact h.alive q hq;exact K.alive q hq
theorem ki.congr {σ1 σ2:Nat->aA}{m:Md}{k:Nat}:∀ {xs:List X} {es:List (List Cell)} {qs:List Nat},ki σ2 m k xs es qs->(∀ q∈qs,σ1 q=σ2 q)->ki σ1 m k xs es qs
 | _,_,_,.nil,_=>.nil
 | _,_,_,.cons (x:=x) h hk hs K,hc=>.cons (h.congr λq hq=>hc q (by simp[hq])) hk (by
   cases x with
   | ag cs=>rfl
   | _=>rw[uw λi hi=>hc i (List.mem_append.2 (.inl (h.roots _ (by simp[X.cells]) i hi)))];exact hs) (K.congr λq hq=>hc q (by simp[hq]))
theorem Kb {S:Start}{F:Nat->Prop}{g:Nat->G}{w:World}{σ1:Nat->aA}(hs:bu S F g σ1 w){ρ:AE}{ρc:Env}{m:Md}{k:Nat}:∀ (l:List (Nat×Operand)) (i:Nat) (xs:List X) (es:List (List Cell)) (qs:List Nat),l.map (λp=>(p.1,aH ρ p.2))=eT i xs->(∀ p∈l,vr (SM F S.B) w g (aH ρ p.2) (E.ev ρc p.2))->ki σ1 m k xs es qs ->
  ∃ vs css gs,l.map (λp=>(p.1,E.ev ρc p.2))=dV i vs/\lM k vs css/\vs.length=es.length/\aS (fq (SM F S.B) w k) es gs/\b0 gs=css.flatten/\cD gs=(qs.flatMap λq=>bl (g q))/\(m=.fz->mD es)
 | [],i,xs,es,qs,h,_,hn=>by
  cases hn with
  | nil=>exact⟨[],[],[],rfl,trivial,rfl,rfl,rfl,rfl,λ_ e he=>by cases he⟩
  | cons=>simp[eT] at h
 | p::l,i,xs,es,qs,h,hv,hn=>by
  cases hn with
  | nil=>simp[eT] at h
  | cons h0 hk hsu K=>
   simp only[List.map_cons,eT,List.cons.injEq] at h;obtain⟨U,h3⟩:=h;obtain⟨vs,css,gs,h4,h5,h6,h7,h8,h9,h10⟩:=Kb hs l (i+1) _ _ _ h3 (λq hq=>hv q (by simp[hq])) K;have h11:=hv p (by simp);cases U;have hys:=pC hs hsu h11;obtain⟨news,k1,k2,k3,k4,k5⟩:=h0.ok hs hys;have hl:(E.ev ρc p.2).cells.toList.length=k:=by rw[← k2,bh,k1.len];exact hk
   refine⟨E.ev ρc p.2::vs,(E.ev ρc p.2).cells.toList::css,news::gs,by simp[dV,h4],⟨by simp,hl,h5⟩,by simp[h6],⟨_,_,rfl,⟨hk,k1⟩,h7⟩,?_,?_,λhm e he c hc=>?_⟩;rw[kA,k2,h8,List.flatten_cons];rw[l5,k3,h9,List.flatMap_append];rcases List.mem_cons.1 he with rfl|he;exact k5 hm c hc;exact h10 hm e he c hc
section
variable {P:Program}{S:Start}{n:Nat}{ρ:AE}{σ:St}{o:Oper}
theorem Rp {T e k mm r' : Nat}{m:Md}{z:List Value}{parts:Array (Nat×Operand)}{xs:List X}{es:List (List Cell)}{qs:List Nat}(ho:o.op=.buildSlice T mm parts)(hT:db P T=some e)(hk:cu P e=some k)(hz:gk P e=some z)(hzk:z.length=k)(hp:parts.toList.map (λp=>(p.1,aH ρ p.2))=eT 0 xs)(hn:ki (ak σ) m k xs es qs)(hnd:kp qs=true)
  (hl:es.length=mm) (hk0:Nat.blt 0 k=true) (hm:Nat.blt 0 mm=true) (hm2:Nat.ble (mm*k) 100000=true) (Z:ak σ r'=.none):LT P S o ρ σ [] (.ref r' none) ((qs.map λq=>(q,.dead))++[(r',.deep m k es [])]):=by
 intro σ1 F g w ρc hs _ hwr hv;have hr1:σ1 r'=.none:=(hwr (r',.deep m k es []) (by simp)).trans Z;have hq1:∀ q∈qs,σ1 q=ak σ q:=λq hq=>hwr (q,.dead) (List.mem_append.2 (.inl (List.mem_map.2 ⟨q,hq,rfl⟩)));have hn1:=hn.congr hq1;obtain⟨vs,css,gs,U,K,h3,h4,h5,h6,h7⟩:=Kb hs (ρc:=ρc) parts.toList 0 xs es qs hp (λp hp=>hv p.2 (by simp only[ho,Op.operands];simpa using ⟨p.1,by simpa using hp⟩)) hn1;have hp' : parts.map (λp=>(p.1,E.ev ρc p.2))=(dV 0 vs).toArray:=by
  apply Array.ext';simpa using U
 have hrun:=KW (P:=P) (w:=w) hT hk hz hzk K (h3.trans hl) hk0 hm hm2;have he:(execOp (E.ev ρc) o).run P w=.ok (.value (.slice (some ⟨w.heap.size,0,none⟩) mm mm)) (w.alloc (.cells css.flatten.toArray e)):=by
  simp only[execOp,ho,hp',Sem.run_bind,hrun,Result.andThen_ok,Sem.run_pure]
 rw[he];have hx:=bO.alloc w (.cells css.flatten.toArray e);have Y:=mY w e css.flatten;have hlen:css.flatten.length=mm*k:=by rw[← h5,FS (l4 h4),h4.len,hl]
 have hm2' : mm*k<=100000:=by simpa using hm2
 have hk' : 0<k:=by simpa using hk0
 have hmm:mm<=mm*k:=Nat.le_mul_of_pos_right mm hk';have bq:∀ b∈cD gs,∃ q∈qs,b∈bl (g q):=λb Y=>by rw[h6] at Y;exact List.mem_flatMap.1 Y
 have hq0:∀ q∈qs,g q≠.none:=λq hq=>by
  obtain⟨c,hc⟩:=hn1.alive q hq;obtain⟨v,k,L,gs,e⟩:=hc.isrow (hs.roots q);rw[e];intro h;cases h
 obtain⟨g',k1,k2,k3⟩:=hs.regrowL (r':=r') (qs:=qs) (x:=.deep m k es []) (v':=.slice (some ⟨w.heap.size,0,none⟩) mm mm) (k:=k) (L':=[w.heap.size]) (gs':=gs) hr1 hq0 hx (λ_ h _=>h.elim)
  (λhkeep g' _=>⟨⟨rfl,⟨e,⟨by rw[h5,hlen,hl],.inr ⟨w.heap.size,mm,css.flatten.toArray,by rw[hl],Aez _,Y,by rw[hl];exact Nat.le_refl _,by show _<=9223372036854775807;omega,by simpa using hlen,by simp only[h5];rw[hl,← hlen,List.take_length]⟩⟩,by simp[Value.ownBlock]⟩,
   h4.imp_mem λe' ge' hm' he'=>⟨he'.1,aT.keepL hkeep he'.2 λb Y=>by
    obtain⟨q,_,h8⟩:=bq b (List.mem_flatMap.2 ⟨ge',hm',Y⟩);exact hx.block b (hs.own q b h8).1 (λh=>h)⟩⟩,bp.nil,h7⟩)
  (by
   simp only[bl,Cnz,List.nodup_cons];refine⟨λh=>?_,by rw[h6];exact Ca hs (qc hnd)⟩;obtain⟨q,_,h8⟩:=bq _ h;exact Nat.lt_irrefl _ (hs.own q _ h8).1)
  (λb hb'=>by
   simp only[bl,Cnz,List.mem_cons] at hb';rcases hb' with rfl|hb';exact⟨Y.lt,.inr (Nat.le_refl _)⟩;obtain⟨q,h7,h8⟩:=bq b hb';exact⟨Bfz (hs.own q b h8).1 hx.size,.inl ⟨q,h7,h8⟩⟩)
 exact⟨F,g',k1,k2,k3⟩
theorem EF {k:Nat}:∀ {gs:List (List GC)} (n:Nat),(∀ g∈gs,g.length=k)->b0 (gs.take n)=(b0 gs).take (n*k)/\(cD (gs.take n)).Sublist (cD gs)
 | [],n,_=>by simp[b0,cD]
 | g0::gs,0,_=>by simp[b0,cD]
 | g0::gs,n+1,h=>by
  obtain⟨U,K⟩:=EF (gs:=gs) n λg hg=>h g (by simp[hg]);have h0:=h g0 (by simp);rw[List.take_succ_cons,kA,kA,l5,l5];refine⟨?_,K.append_left _⟩;rw[U,show (n+1)*k=(g0.map (·.val)).length+n*k by rw[bh,h0,Nat.add_mul];omega,List.take_length_add_append]
theorem bR.cut {w:World}{k:Nat}{A:Option Addr}{n c b:Nat}{L:List Nat}{cs:List Value}(h:bR w k (.slice A n c) n L cs)(Y:b<=n):bR w k (.slice A b c) b L (cs.take (b*k)):=by
 obtain⟨e,⟨hl,h⟩,hL⟩:=h;have hbk:b*k<=n*k:=Nat.mul_le_mul_right k Y;refine⟨e,⟨by rw[Brz];omega,?_⟩,?_⟩;rcases h with ⟨h,h0⟩|⟨g,cap,cur,h,h0,U,K,h3,h4,h5⟩
 cases h;left;exact⟨by rw[show b=0 by omega],by omega⟩;cases h;refine .inr ⟨g,c,cur,rfl,h0,U,by omega,h3,h4,?_⟩;have:(cur.toList.take (n*k)).take (b*k)=cs.take (b*k):=by rw[h5]
 rwa[List.take_take,Crz hbk] at this;rw[hL];cases A<;>rfl
theorem Ro {T e k r r' : Nat}{x y:Operand}{lo:Option Operand}{m mq:Md}{q:IntKind}{b:Int}{xs:List D}(ho:o.op=.slice T x none (some y) none)(hT:db P T=some e)(hk:cu P e=some k)(hx:aH ρ x=.ref r none)(hσ:ak σ r=.row m k xs)(hh:aH ρ y=.d mq (.i q b))(U:0<=b)(h3:b.toNat<=xs.length)(hr' : ak σ r'=.none) :
  LT P S o ρ σ [] (.ref r' none) [(r,.dead),(r',.row m k (xs.take b.toNat))]:=by
 intro σ1 F g w ρc hs hrd hwr hv;have hr1:σ1 r=.row m k xs:=(hwr (r,.dead) (by simp)).trans hσ;have hr3:σ1 r'=.none:=(hwr (r',.row m k (xs.take b.toNat)) (by simp)).trans hr';obtain⟨v,L,gs,hg,hrow⟩:=mM hs (.inr ⟨m,xs,hr1,rfl⟩);have hl:=l4 hrow.2;obtain⟨A,c,e0,h5,h6⟩:=hrow.1.form;rw[bh] at e0;subst e0;have e1:=hv x (by simp[ho,Op.operands]);rw[hx,vr,hg] at e1;have e2:=e1 _ _ rfl;rw[bh] at h5;have e3:=hv y (by simp[ho,Op.operands]);rw[hh,vr,rdC] at e3;replace e3:=e3.1;rw[← oY U] at e3;have hev:=Al (P:=P) (w:=w) ho hT hk e2 e3 (by omega);have hcut:eU A 0 b.toNat c k=.slice A b.toNat c:=by
  unfold eU;simp only[Nat.zero_mul,Nat.sub_zero];by_cases hc:c=0;rw[ao hc];rw[an hc];cases A with
  | none=>rfl
  | some a=>cases a;simp[Addr.add]
 rw[hcut] at hev;rw[show (execOp (E.ev ρc) o).run P w=.ok (.value (.slice A b.toNat c)) w from hev];have hown:=hrow.1;rw[bh] at hown;have hown':=hown.cut h3;obtain⟨t1,t2⟩:=EF b.toNat hl;have n1:=hs.nodup r;rw[hg] at n1;obtain⟨g',k1,k2,k3⟩:=hs.regrowL (r':=r') (qs:=[r]) (x:=.row m k (xs.take b.toNat)) (v':=.slice A b.toNat c) (k:=k) (L':=L) (gs':=gs.take b.toNat) hr3
  (λq hq=>by
   rw[Bpz] at hq;subst hq;rw[hg];intro h;cases h) (bO.refl w) (λ_ h _=>h.elim)
  (λhkeep g' _=>⟨rfl,by rw[t1,bh,Brz,Crz h3];exact hown',by rw[List.map_take];exact hrow.2.take _⟩)
  (List.Sublist.nodup (by simp only[bl];exact t2.append_left _) n1)
  (λb Y=>by
   have:b∈bl (g r):=by
    rw[hg];simp only[bl,Ciz] at Y ⊢;exact Y.imp id λh=>t2.subset h
   exact⟨(hs.own r b this).1,.inl ⟨r,by simp,this⟩⟩)
 exact⟨F,g',k1,k2,k3⟩
theorem Rn {T e k r r' : Nat}{x y:Operand}{lo:Option Operand}{m mq:Md}{q:IntKind}{b:Int}{es:List (List Cell)}(ho:o.op=.slice T x none (some y) none)(hT:db P T=some e)(hk:cu P e=some k)(hx:aH ρ x=.ref r none)(hσ:ak σ r=.deep m k es [])(hh:aH ρ y=.d mq (.i q b))(U:0<=b)(h3:b.toNat<=es.length)(hr' : ak σ r'=.none) :
  LT P S o ρ σ [] (.ref r' none) [(r,.dead),(r',.deep m k (es.take b.toNat) [])]:=by
 intro σ1 F g w ρc hs hrd hwr hv;have hr1:σ1 r=.deep m k es []:=(hwr (r,.dead) (by simp)).trans hσ;have hr3:σ1 r'=.none:=(hwr (r',.deep m k (es.take b.toNat) []) (by simp)).trans hr';obtain⟨v,L,gs,hg,hrow,_,hfz⟩:=EG hs hr1;have hl:=l4 hrow.2;obtain⟨A,c,e0,h5,h6⟩:=hrow.1.form;subst e0;have e1:=hv x (by simp[ho,Op.operands]);rw[hx,vr,hg] at e1;have e2:=e1 _ _ rfl;have e3:=hv y (by simp[ho,Op.operands]);rw[hh,vr,rdC] at e3;replace e3:=e3.1;rw[← oY U] at e3;have hev:=Al (P:=P) (w:=w) ho hT hk e2 e3 (by omega);have hcut:eU A 0 b.toNat c k=.slice A b.toNat c:=by
  unfold eU;simp only[Nat.zero_mul,Nat.sub_zero];by_cases hc:c=0;rw[ao hc];rw[an hc];cases A with
  | none=>rfl
  | some a=>cases a;simp[Addr.add]
 rw[hcut] at hev;rw[show (execOp (E.ev ρc) o).run P w=.ok (.value (.slice A b.toNat c)) w from hev];have hown':=hrow.1.cut h3;obtain⟨t1,t2⟩:=EF b.toNat hl;have n1:=hs.nodup r;rw[hg] at n1;obtain⟨g',k1,k2,k3⟩:=hs.regrowL (r':=r') (qs:=[r]) (x:=.deep m k (es.take b.toNat) []) (v':=.slice A b.toNat c) (k:=k) (L':=L) (gs':=gs.take b.toNat) hr3
  (λq hq=>by
   rw[Bpz] at hq;subst hq;rw[hg];intro h;cases h) (bO.refl w) (λ_ h _=>h.elim)
  (λhkeep g' _=>⟨⟨rfl,by rw[t1,Brz,Crz h3];exact hown',hrow.2.take _⟩,bp.nil,λhm e he=>hfz hm e (List.mem_of_mem_take he)⟩)
  (List.Sublist.nodup (by simp only[bl];exact t2.append_left _) n1)
  (λb Y=>by
   have:b∈bl (g r):=by
    rw[hg];simp only[bl,Ciz] at Y ⊢;exact Y.imp id λh=>t2.subset h
   exact⟨(hs.own r b this).1,.inl ⟨r,by simp,this⟩⟩)
 exact⟨F,g',k1,k2,k3⟩
end
structure TI where
 sz:Nat:=1
 by_:Nat:=0
 agg:Bool:=false
 el:Option Nat:=none
 str:Bool:=false
 fo:List (Option Nat):=[]
 ft:List (Option (Nat×Nat)):=[]
 pl:List (Nat×Nat):=[]
 z:Option (List X):=none
 ik:Option IntKind:=none
 fk:Option (List FK):=none
abbrev bS:=List (Nat×TI)
def bS.get:bS->Nat->Option TI
 | [],_=>none
 | (i,t)::l,T=>bif Aaz i T then some t else bS.get l T
def ra:X->Value->Bool
 | .d _ (.i k n),.int k' m=>nh k n&&(decide (k=k')&&decide (n=m))
 | .d _ (.b b),.bool c=>b == c
 | .d _ (.s t),.string s=>Aaz t.size 0&&Aaz s.size 0
 | .nl _,.slice none 0 0=>true
 | .u,_=>true
 | _,_=>false
def Br:List X->List Value->Bool
 | [],[]=>true
 | x::xs,v::vs=>ra x v&&Br xs vs
 | _,_=>false
def w8:List FK->List FK->Bool
 | [],[]=>true
 | .int::xs,.int::ys=>w8 xs ys
 | .str::xs,.str::ys=>w8 xs ys
 | .bool::xs,.bool::ys=>w8 xs ys
 | _,_=>false
def sI {α:Type}(p:Nat->α->Bool):Nat->List α->Bool
 | _,[]=>true
 | i,x::l=>p i x&&sI p (i+1) l
def TI.chk (P:Program)(T:Nat)(t:TI):Bool:=
 (cu P T == some t.sz)&&(t.by_ == 0||mG P T == some t.by_)&&(cY P T == some t.agg)&&(match t.el with|some e=>db P T == some e|none=>true)&&(!t.str||vh P T) &&
 sI (λi o=>match o with|some k=>mN P T i == some k|none=>true) 0 t.fo&&sI (λi o=>match o with|some (ft,off)=>og P T i == some (ft,off)|none=>true) 0 t.ft&&(t.pl.isEmpty||wY P T == some t.pl) &&
 (match t.z with|some zs=>(match gk P T with|some z=>Br zs z|none=>false)|none=>true)&&(match t.ik with|some k=>(match ga P T with|some k'=>decide (k=k')|none=>false)|none=>true)&&(match t.fk with|some ks=>(match sJ P T with|some ks'=>w8 ks ks'|none=>false)|none=>true)
def bS.ok (P:Program)(tab:bS):Bool:=tab.all λp=>p.2.chk P p.1
theorem Ua {x:X}{v:Value}(h:ra x v=true)(S1:Md->Nat->Prop)(w:World)(g:Nat->G):vr S1 w g x v:=by
 unfold ra at h;split at h;simp only[Afz,decide_eq_true_eq] at h;obtain⟨h0,rfl,rfl⟩:=h;rw[vr,rdC];exact⟨rfl,K4 h0⟩;rename_i b c;have:b=c:=by simpa using h
 subst this;rw[vr,rdC];rename_i t s;simp only[Afz] at h;have U:t=s:=by
  have e1:=Abz h.1;have e2:=Abz h.2;cases t with|mk a=>cases s with|mk b=>
   congr 1;have e1:a.size=0:=e1;have e2:b.size=0:=e2;rw[Cuz e1,Cuz e2]
 have hs:t.size<=9223372036854775807:=by rw[Abz h.1];exact Aez _
 subst U;rw[vr,rdC];exact⟨rfl,hs⟩;rw[vr];rw[vr];trivial;cases h
theorem Ka:∀ {xs:List X} {vs:List Value},Br xs vs=true->∀ (S1:Md->Nat->Prop) (w:World) (g:Nat->G),aU S1 w g xs vs
 | [],[],_,_,_,_=>by rw[aU]
 | x::xs,v::vs,h,S1,w,g=>by
  simp only[Br,Afz] at h;rw[aU];exact⟨v,vs,rfl,Ua h.1 S1 w g,Ka h.2 S1 w g⟩
 | [],_::_,h,_,_,_=>by cases h
 | _::_,[],h,_,_,_=>by cases h
theorem AK:∀ {xs ys:List FK},w8 xs ys=true->xs=ys
 | [],[],_=>rfl
 | .int::xs,.int::ys,h=>by rw[AK (xs:=xs) (ys:=ys) h]
 | .str::xs,.str::ys,h=>by rw[AK (xs:=xs) (ys:=ys) h]
 | .bool::xs,.bool::ys,h=>by rw[AK (xs:=xs) (ys:=ys) h]
 | [],_::_,h=>by cases h
 | .int::_,[],h=>by cases h
 | .str::_,[],h=>by cases h
 | .bool::_,[],h=>by cases h
 | .int::_,.str::_,h=>by cases h
 | .int::_,.bool::_,h=>by cases h
 | .str::_,.int::_,h=>by cases h
 | .str::_,.bool::_,h=>by cases h
 | .bool::_,.int::_,h=>by cases h
 | .bool::_,.str::_,h=>by cases h
theorem FQ {α:Type}{p:Nat->α->Bool}:∀ {l:List α} {k i:Nat} {x:α},sI p k l=true->l[i]?=some x->p (k+i) x=true
 | [],_,_,_,_,h=>by simp at h
 | y::l,k,0,x,h,hx=>by simp at hx;subst hx;simp only[sI,Afz] at h;exact h.1
 | y::l,k,i+1,x,h,hx=>by
  simp only[sI,Afz] at h;have:=FQ (i:=i) h.2 (by simpa using hx);rwa[show k+1+i=k+(i+1) by omega] at this
section
variable {P:Program}{tab:bS}{T:Nat}{t:TI}
theorem bS.chk (h:tab.ok P=true)(hT:tab.get T=some t):t.chk P T=true:=by
 induction tab with
 | nil=>cases hT
 | cons p l ih=>
  simp only[bS.ok,List.all_cons,Afz] at h;simp only[bS.get] at hT;cases Y:Aaz p.1 T with
  | true=>
   rw[Y] at hT;simp only[cond_true,Option.some.injEq] at hT;have:=Abz Y;subst this;subst hT;exact h.1
  | false=>rw[Y] at hT;exact ih h.2 hT
theorem TI.sz' (h:t.chk P T=true):cu P T=some t.sz:=by
 simp only[TI.chk,Afz] at h;simpa using h.1.1.1.1.1.1.1.1.1.1
theorem TI.by' (h:t.chk P T=true){b:Nat}(Y:t.by_=b+1):mG P T=some t.by_:=by
 simp only[TI.chk,Afz] at h;have:=h.1.1.1.1.1.1.1.1.1.2;rw[Y] at this ⊢;simpa using this
theorem TI.agg' (h:t.chk P T=true):cY P T=some t.agg:=by
 simp only[TI.chk,Afz] at h;simpa using h.1.1.1.1.1.1.1.1.2
theorem TI.el' (h:t.chk P T=true){e:Nat}(he:t.el=some e):db P T=some e:=by
 simp only[TI.chk,Afz] at h;have:=h.1.1.1.1.1.1.1.2;rw[he] at this;simpa using this
theorem TI.str' (h:t.chk P T=true)(he:t.str=true):P.underlying T=some .string:=by
 simp only[TI.chk,Afz] at h;have:=h.1.1.1.1.1.1.2;rw[he] at this;simp only[Bool.not_true,Bool.false_or] at this;unfold vh at this;split at this;rename_i hu;exact hu;cases this
theorem TI.fo' (h:t.chk P T=true){i k:Nat}(he:t.fo[i]?=some (some k)):mN P T i=some k:=by
 simp only[TI.chk,Afz] at h;have:=FQ h.1.1.1.1.1.2 he;rw[Nat.zero_add] at this;simpa using this
theorem TI.ft' (h:t.chk P T=true){i:Nat}{p:Nat×Nat}(he:t.ft[i]?=some (some p)):og P T i=some p:=by
 simp only[TI.chk,Afz] at h;have:=FQ h.1.1.1.1.2 he;rw[Nat.zero_add] at this;simpa using this
theorem TI.pl' (h:t.chk P T=true){p:Nat×Nat}{l:List (Nat×Nat)}(he:t.pl=p::l):wY P T=some t.pl:=by
 simp only[TI.chk,Afz] at h;have:=h.1.1.1.2;rw[he] at this ⊢;simpa using this
theorem TI.z' (h:t.chk P T=true){zs:List X}(he:t.z=some zs):∃ z,gk P T=some z/\∀ (S1:Md->Nat->Prop) (w:World) (g:Nat->G),aU S1 w g zs z:=by
 simp only[TI.chk,Afz] at h;have:=h.1.1.2;rw[he] at this;simp only at this;split at this;rename_i z hz;exact⟨z,hz,Ka this⟩;cases this
theorem TI.ik' (h:t.chk P T=true){k:IntKind}(he:t.ik=some k):ga P T=some k:=by
 simp only[TI.chk,Afz] at h;have:=h.1.2;rw[he] at this;simp only at this;split at this;rename_i k' hk;simp only[decide_eq_true_eq] at this;rw[hk,this];cases this
theorem TI.fk' (h:t.chk P T=true){ks:List FK}(he:t.fk=some ks):sJ P T=some ks:=by
 simp only[TI.chk,Afz] at h;have:=h.2;rw[he] at this;simp only at this;split at this;rename_i k' hk;rw[hk,AK this];cases this
end
def gd (op:BinOp)(a b:Int):Option Bool:=match op with
 | .lss=>some (decide (a<b))
 | .leq=>some (decide (a<=b))
 | .gtr=>some (decide (b<a))
 | .geq=>some (decide (b<=a))
 | .eql=>some (decide (a=b))
 | .neq=>some (!decide (a=b))
 | _=>none
def gD (op:BinOp)(a b:ar):Option Bool:=match op with
 | .eql=>some (decide (a=b))
 | .neq=>some (!decide (a=b))
 | .lss=>some (Op.bytesLess a.toList b.toList)
 | .gtr=>some (!(Op.bytesLess a.toList b.toList||decide (a=b)))
 | .geq=>some (!Op.bytesLess a.toList b.toList)
 | .leq=>some (Op.bytesLess a.toList b.toList||decide (a=b))
 | _=>none
def DU (op:BinOp):X->X->Option Bool
 | .d _ (.i k a),.d _ (.i k' b)=>if k=k' then gd op a b else none
 | .d _ (.s a),.d _ (.s b)=>gD op a b
 | _,_=>none
theorem T9 {P:Program}{T:TypeId}{op:BinOp}{x y:X}{r:Bool}(h:DU op x y=some r):∃ u v,iT x=some u/\iT y=some v/\cK P op T u v (.bool r):=by
 unfold DU at h;split at h;rename_i k a _ k' b;split at h;rename_i hk;subst hk;refine⟨_,_,rfl,rfl,?_⟩;cases op<;>simp only[gd] at h<;>cases h;exact SI;exact SH;exact SN;exact SL;exact SK;exact SJ;cases h;rename_i a _ b;refine⟨_,_,rfl,rfl,?_⟩;cases op<;>simp only[gD] at h<;>cases h;exact S6;exact S5;exact Sa;exact R7;exact R9;exact R8;cases h
def opV (tab:bS)(ρ:AE)(σ:St):Op->Option (X×List Nat)
 | .move x=>some (aH ρ x,[])
 | .assign x=>some (aH ρ x,[])
 | .pick c x y=>match aH ρ c with|.d _ (.b b)=>some (if b then aH ρ x else aH ρ y,[])|_=>none
 | .fieldAddr T x i=>match tab.get T with
  | some t=>match t.fo[i]? with
   | some (some k)=>match aH ρ x with
    | .pb r c=>match ak σ r with|.box _=>some (.pb r (c+k),[r])|_=>none
    | .pf m ds=>some (.pf m (ds.drop k),[])
    | .pe r l j c=>match dW (ak σ r) l with|some _=>some (.pe r l j (c+k),[r])|none=>none
    | _=>none
   | _=>none
  | none=>none
 | .load T x=>match tab.get T with
  | some t=>match t.agg with
   | false=>match aH ρ x with
    | .pb r c=>match ak σ r with
     | .box cs=>match cs[c]? with|some y=>some (y,[r])|none=>none
     | _=>none
    | .pf m (d::_)=>some (dX m d,[])
    | _=>none
   | true=>match aH ρ x with
    | .pb r c=>match ak σ r with
     | .box cs=>match Aaz ((cs.drop c).take t.sz).length t.sz with|true=>some (.ag ((cs.drop c).take t.sz),[r])|false=>none
     | _=>none
    | .pf m ds=>match Aaz (ds.take t.sz).length t.sz with|true=>some (.ag ((ds.take t.sz).map (dX m)),[])|false=>none
    | _=>none
  | none=>none
 | .nilCheck x=>match aH ρ x with
  | .pb r c=>match ak σ r with|.box _=>some (.pb r c,[r])|_=>none
  | _=>none
 | .extract x k=>match aH ρ x with
  | .tu xs=>match xs[k]? with|some y=>some (y,[])|none=>none
  | _=>none
 | .field T x i=>match tab.get T with
  | some t=>match t.ft[i]? with
   | some (some (ft,off))=>match tab.get ft with
    | some tf=>match aH ρ x with
     | .ag xs=>match tf.agg with
      | false=>match xs[off]? with|some y=>some (y,[])|none=>none
      | true=>some (.ag ((xs.drop off).take tf.sz),[])
     | _=>none
    | none=>none
   | _=>none
  | none=>none
 | .unOp .not _ x=>match aH ρ x with|.d _ (.b b)=>some (.d .fz (.b (!b)),[])|_=>none
 | .binOp op _ x y _=>match DU op (aH ρ x) (aH ρ y) with|some b=>some (.d .fz (.b b),[])|none=>none
 | .makeFunc fn first c=>match fn,first.toList with|.func f,[]=>some (.fn f (c.toList.map (aH ρ)),[])|_,_=>none
 | .build T parts=>match tab.get T with
  | some t=>match t.pl,t.z with
   | _::_,some zs=>
    match (parts.toList.all λp=>gH (ak σ) (aH ρ p.2))&&gI t.pl zs.length (parts.toList.map λp=>(p.1,(aH ρ p.2).cells.length)) with
    | true=>some (.ag (gV t.pl zs (parts.toList.map λp=>(p.1,(aH ρ p.2).cells))),parts.toList.flatMap λp=>dr (aH ρ p.2))
    | false=>none
   | _,_=>none
  | none=>none
 | _=>none
section
variable {P:Program}{S:Start}{ρ:AE}{σ:St}{o:Oper}
theorem Do {tab:bS}(ht:tab.ok P=true){v:X}{rd:List Nat}(h:Go.A.opV tab ρ σ o.op=some (v,rd)):LT P S o ρ σ rd v []:=by
 unfold Go.A.opV at h;split at h;rename_i x ho;cases h;exact LT.mv ho;rename_i x ho;cases h;exact LT.as ho;rename_i c x y ho;split at h;rename_i hc;cases h;exact Ss ho hc;cases h;rename_i T x i ho;split at h;rename_i t hT;split at h;rename_i k hk;have hf:=TI.fo' (bS.chk ht hT) hk;split at h;rename_i r c hx;split at h;rename_i cs hσ;cases h;exact Q2 ho hf hx hσ;cases h;rename_i m ds hx;cases h;exact Q1 ho hf hx;rename_i r l j c hx;split at h;rename_i p hσ;cases h;exact Q0 ho hf hx hσ;cases h;cases h;cases h;cases h;rename_i T x ho;split at h;rename_i t hT;have hc:=bS.chk ht hT;have hag:=TI.agg' hc;have hsz:=TI.sz' hc;split at h;rename_i ha;rw[ha] at hag;split at h;rename_i r c hx;split at h;rename_i cs hσ;split at h;rename_i y hy;cases h;exact RV ho hag hx hσ hy;cases h;cases h;rename_i m d ds hx;cases h;exact RU ho hag hx;cases h;rename_i ha;rw[ha] at hag;split at h;rename_i r c hx;split at h;rename_i cs hσ;split at h;rename_i hl;cases h;exact Sr ho hag hsz hx hσ (Abz hl);cases h;cases h;rename_i m ds hx;split at h;rename_i hl;cases h;exact Sq ho hag hsz hx (Abz hl);cases h;cases h;cases h;rename_i x ho;split at h;rename_i r c hx;split at h;rename_i cs hσ;cases h;exact Sk ho hx hσ;cases h;cases h;rename_i x k ho;split at h;rename_i xs hx;split at h;rename_i y hy;cases h;exact LT.ext ho hx hy;cases h;cases h;rename_i T x i ho;split at h;rename_i t hT;split at h;rename_i ft off hf;have hfy:=TI.ft' (bS.chk ht hT) hf;split at h;rename_i tf hft;have hc:=bS.chk ht hft;split at h;rename_i xs hx;split at h;rename_i ha;split at h;rename_i y hy;cases h;exact RL ho hfy (by rw[TI.agg' hc,ha]) hx hy;cases h;rename_i ha;cases h;exact Sl ho hfy (by rw[TI.agg' hc,ha]) (TI.sz' hc) hx;cases h;cases h;cases h;cases h;rename_i T x ho;split at h;rename_i hx;cases h;exact RN ho hx;cases h;rename_i op T x y Z7 ho;split at h;rename_i b Y;cases h;obtain⟨u,v,U,K,h3⟩:=T9 (P:=P) (T:=T) Y;exact Ai ho rfl rfl U K (λ_ _=>⟨h3,trivial⟩) rfl;cases h;rename_i fn first c ho
 split at h;rename_i f hf;cases h;refine RJ ?_;rw[ho];congr 1;exact Array.toList_eq_nil_iff.1 hf;cases h;rename_i T parts ho;split at h;rename_i t hT;have hc:=bS.chk ht hT;split at h;rename_i p l zs hp hz;split at h;rename_i hok;cases h;simp only[Afz] at hok;obtain⟨z,hz1,hz2⟩:=TI.z' hc hz;have:=LT.build (S:=S) (ρ:=ρ) (σ:=σ) ho (TI.pl' hc hp) hz1 hz2 rfl (by simpa[List.all_map] using hok.1) (by simpa[List.map_map,Function.comp_def] using hok.2) rfl;simpa[List.map_map,Function.comp_def,List.flatMap_map] using this;cases h;cases h;cases h;cases h
end
section
variable {P:Program}{S:Start}{n0 nt:Nat}{Q:cW}{ρ:AE}{σ:St}{c:Code}
theorem bY {α β:Type}{f:Nat->α->β->Option β}{xs:List α}{s0 s1:β}(Z:Go.E.eachL f 0 xs s0=some s1)(hl:(xs.length:Int)<=9223372036854775807)(n:Nat)(L:Nat->β->List (Nat×X))(R:Nat->β->List (Nat×aA))
  (h0:GH S ρ σ (ofX (L 0 s0)) (bj (σ.take n) (R 0 s0)))
  (step:∀ k x s s',xs[k]?=some x->f k x s=some s'->(k:Int)<xs.length->AW P S nt c (iW (λρ' σ'=>GH S ρ' σ' (ofX (L (k+1) s')) (bj (σ.take n) (R (k+1) s'))) Q) (ofX (L k s)) (bj (σ.take n) (R k s)))
  (fin:∀ k:Nat,¬ (k:Int)<xs.length->AW P S nt c (iW (λ_ _=>False) Q) (ofX (L k s1)) (bj (σ.take n) (R k s1))):AW P S nt (.loop c) Q ρ σ:=by
 refine we (α:={ p:Nat×β // p.1<=xs.length/\Go.E.eachL f p.1 (xs.drop p.1) p.2=some s1 }) (λx=>ofX (L x.1.1 x.1.2)) (λx=>bj (σ.take n) (R x.1.1 x.1.2)) (λx=>xs.length-x.1.1) ⟨(0,s0),Aez _,Z⟩ h0 ?_;rintro⟨⟨k,s⟩,hk,he⟩;simp only at hk he;by_cases hlt:k<xs.length;have hx:xs[k]?=some xs[k]:=Cmz hlt;rw[Csz hlt,Go.E.eachL] at he;obtain⟨s',U,K⟩:=Option.bind_eq_some_iff.1 he;refine (step k xs[k] s s' hx U (by omega)).mono λe ρ' σ' h=>?_;cases e with
 | normal=>exact⟨⟨(k+1,s'),hlt,K⟩,h,by simp only;omega⟩
 | _=>exact h
 rw[Ctz (by omega),Go.E.eachL] at he;cases he;refine (fin k (by omega)).mono λe ρ' σ' h=>?_;cases e with
 | normal=>exact h.elim
 | _=>exact h
theorem bL {α β γ:Type}{f:Nat->α->β->Option (β ⊕ γ)}{xs:List α}{s0:β}{out:β ⊕ γ}(Z:Go.E.findL f 0 xs s0=some out)(hl:(xs.length:Int)<=9223372036854775807)(n:Nat)(L:Nat->β->List (Nat×X))(R:Nat->β->List (Nat×aA))
  (h0:GH S ρ σ (ofX (L 0 s0)) (bj (σ.take n) (R 0 s0)))
  (step:∀ k x s o,xs[k]?=some x->f k x s=some o->(k:Int)<xs.length->(∀ r1,o=.inr r1->out=.inr r1)->AW P S nt c (iW (λρ' σ'=>∃ s',o=.inl s'/\GH S ρ' σ' (ofX (L (k+1) s')) (bj (σ.take n) (R (k+1) s'))) Q) (ofX (L k s)) (bj (σ.take n) (R k s)))
  (fin:∀ (k:Nat) s1,out=.inl s1->¬ (k:Int)<xs.length->AW P S nt c (iW (λ_ _=>False) Q) (ofX (L k s1)) (bj (σ.take n) (R k s1))):AW P S nt (.loop c) Q ρ σ:=by
 refine we (α:={ p:Nat×β // p.1<=xs.length/\Go.E.findL f p.1 (xs.drop p.1) p.2=some out }) (λx=>ofX (L x.1.1 x.1.2)) (λx=>bj (σ.take n) (R x.1.1 x.1.2)) (λx=>xs.length-x.1.1) ⟨(0,s0),Aez _,Z⟩ h0 ?_;rintro⟨⟨k,s⟩,hk,he⟩;simp only at hk he;by_cases hlt:k<xs.length;have hx:xs[k]?=some xs[k]:=Cmz hlt;rw[Csz hlt,Go.E.findL] at he;obtain⟨o,U,K⟩:=Option.bind_eq_some_iff.1 he;refine (step k xs[k] s o hx U (by omega) (λr1 e=>by subst e;simpa using K.symm)).mono λe ρ' σ' h=>?_;cases e with
 | normal=>
  obtain⟨s',rfl,h⟩:=h;exact⟨⟨(k+1,s'),hlt,K⟩,h,by simp only;omega⟩
 | _=>exact h
 rw[Ctz (by omega),Go.E.findL] at he;cases he;refine (fin k s rfl (by omega)).mono λe ρ' σ' h=>?_;cases e with
 | normal=>exact h.elim
 | _=>exact h
theorem iQ {β:Type}{f:Nat->β->Option β}{m:Nat}{s0 s1:β}(Z:Go.E.eachN f 0 m s0=some s1)(n:Nat)(L:Nat->β->List (Nat×X))(R:Nat->β->List (Nat×aA))
  (h0:GH S ρ σ (ofX (L 0 s0)) (bj (σ.take n) (R 0 s0)))
  (step:∀ k s s',f k s=some s'->k<m->AW P S nt c (iW (λρ' σ'=>GH S ρ' σ' (ofX (L (k+1) s')) (bj (σ.take n) (R (k+1) s'))) Q) (ofX (L k s)) (bj (σ.take n) (R k s)))
  (fin:AW P S nt c (iW (λ_ _=>False) Q) (ofX (L m s1)) (bj (σ.take n) (R m s1))):AW P S nt (.loop c) Q ρ σ:=by
 refine we (α:={ p:Nat×β // p.1<=m/\Go.E.eachN f p.1 (m-p.1) p.2=some s1 }) (λx=>ofX (L x.1.1 x.1.2)) (λx=>bj (σ.take n) (R x.1.1 x.1.2)) (λx=>m-x.1.1) ⟨(0,s0),Aez _,Z⟩ h0 ?_;rintro⟨⟨k,s⟩,hk,he⟩;simp only at hk he;by_cases hlt:k<m;rw[show m-k=(m-(k+1))+1 by omega,Go.E.eachN] at he;obtain⟨s',U,K⟩:=Option.bind_eq_some_iff.1 he;refine (step k s s' U hlt).mono λe ρ' σ' h=>?_;cases e with
 | normal=>exact⟨⟨(k+1,s'),hlt,K⟩,h,by simp only;omega⟩
 | _=>exact h
 have hkm:k=m:=by omega
 subst hkm;rw[Nat.sub_self,Go.E.eachN] at he;cases he;refine fin.mono λe ρ' σ' h=>?_;cases e with
 | normal=>exact h.elim
 | _=>exact h
theorem Ao {β γ:Type}{f:Nat->β->Option (β ⊕ γ)}{m:Nat}{s0:β}{out:β ⊕ γ}(Z:Go.E.findN f 0 m s0=some out)(n:Nat)(L:Nat->β->List (Nat×X))(R:Nat->β->List (Nat×aA))
  (h0:GH S ρ σ (ofX (L 0 s0)) (bj (σ.take n) (R 0 s0)))
  (step:∀ k s o,f k s=some o->k<m->(∀ r1,o=.inr r1->out=.inr r1)->AW P S nt c (iW (λρ' σ'=>∃ s',o=.inl s'/\GH S ρ' σ' (ofX (L (k+1) s')) (bj (σ.take n) (R (k+1) s'))) Q) (ofX (L k s)) (bj (σ.take n) (R k s)))
  (fin:∀ s1,out=.inl s1->AW P S nt c (iW (λ_ _=>False) Q) (ofX (L m s1)) (bj (σ.take n) (R m s1))):AW P S nt (.loop c) Q ρ σ:=by
 refine we (α:={ p:Nat×β // p.1<=m/\Go.E.findN f p.1 (m-p.1) p.2=some out }) (λx=>ofX (L x.1.1 x.1.2)) (λx=>bj (σ.take n) (R x.1.1 x.1.2)) (λx=>m-x.1.1) ⟨(0,s0),Aez _,Z⟩ h0 ?_;rintro⟨⟨k,s⟩,hk,he⟩;simp only at hk he;by_cases hlt:k<m;rw[show m-k=(m-(k+1))+1 by omega,Go.E.findN] at he;obtain⟨o,U,K⟩:=Option.bind_eq_some_iff.1 he;refine (step k s o U hlt (λr1 e=>by subst e;simpa using K.symm)).mono λe ρ' σ' h=>?_;cases e with
 | normal=>
  obtain⟨s',rfl,h⟩:=h;exact⟨⟨(k+1,s'),hlt,K⟩,h,by simp only;omega⟩
 | _=>exact h
 have hkm:k=m:=by omega
 subst hkm;rw[Nat.sub_self,Go.E.findN] at he;cases he;refine (fin s rfl).mono λe ρ' σ' h=>?_;cases e with
 | normal=>exact h.elim
 | _=>exact h
theorem fJ {β γ:Type}{f:β->Option (β ⊕ γ)}{s0:β}{r:γ}(Z:bK f s0=some r)(n:Nat)(L:β->List (Nat×X))(R:β->List (Nat×aA))
  (h0:GH S ρ σ (ofX (L s0)) (bj (σ.take n) (R s0)))
  (step:∀ s o,f s=some o->(∀ r1,o=.inr r1->r=r1)->AW P S nt c (iW (λρ' σ'=>∃ s',o=.inl s'/\GH S ρ' σ' (ofX (L s')) (bj (σ.take n) (R s'))) Q) (ofX (L s)) (bj (σ.take n) (R s))):AW P S nt (.loop c) Q ρ σ:=by
 obtain⟨N,hN⟩:=uv.1 Z;refine we (α:={ p:Nat×β // jz f p.1 p.2=some r }) (λx=>ofX (L x.1.2)) (λx=>bj (σ.take n) (R x.1.2)) (λx=>x.1.1) ⟨(N,s0),hN⟩ h0 ?_;rintro⟨⟨k,s⟩,he⟩;simp only at he;cases k with
 | zero=>cases he
 | succ k=>
  rw[jz] at he;obtain⟨o,U,K⟩:=Option.bind_eq_some_iff.1 he;refine (step s o U (λr1 e=>by subst e;simpa using K.symm)).mono λe ρ' σ' h=>?_;cases e with
  | normal=>
   obtain⟨s',rfl,h⟩:=h;exact⟨⟨(k,s'),K⟩,h,by simp⟩
  | _=>exact h
theorem AW.cut {β:Type}(n:Nat)(L:β->List (Nat×X))(R:β->List (Nat×aA)){M:β->Prop}
  (U:AW P S nt c (iW (λρ' σ'=>∃ s,M s/\GH S ρ' σ' (ofX (L s)) (bj (σ.take n) (R s))) Q) ρ σ)
  (K:∀ s,M s->Q .normal (ofX (L s)) (bj (σ.take n) (R s))):AW P S nt c Q ρ σ:=by
 intro F g w ρc hs hv;refine (U F g w ρc hs hv).mono λe ρc' w' ⟨ρ',σ',F',g',k1,k2,k3⟩=>?_;cases e with
 | normal=>
  obtain⟨s,hm,hg⟩:=k3;obtain⟨F2,g2,m1,m2⟩:=hg F' g' w' ρc' k1 k2;exact⟨_,_,F2,g2,m1,m2,K s hm⟩
 | _=>exact⟨ρ',σ',F',g',k1,k2,k3⟩
theorem ai {α β:Type}{o:Option α}{f:α->Option β}{r:β}{G:Prop}(Z:o.bind f=some r)(h:∀ y,o=some y->f y=some r->G):G:=by
 obtain⟨y,U,K⟩:=Option.bind_eq_some_iff.1 Z;exact h y U K
theorem aC {β:Type}{c:Prop}[Decidable c]{k:Option β}{r:β}{G:Prop}(Z:grd c k=some r)(h:c->k=some r->G):G:=h (pw Z).1 (pw Z).2
theorem aP {β:Type}{c:Prop}[Decidable c]{a b:Option β}{r:β}{G:Prop}(Z:(if c then a else b)=some r)(U:c->a=some r->G)(K:¬ c->b=some r->G):G:=by
 by_cases hc:c;exact U hc (by rwa[ao hc] at Z);exact K hc (by rwa[an hc] at Z)
end
end Go.A
