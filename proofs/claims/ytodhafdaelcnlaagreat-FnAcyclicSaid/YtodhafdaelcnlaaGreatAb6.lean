/- Abstract states of a walk: plain lemmas on the model, without conditions of their own. -/
import Derived.Test.YtodhafdaelcnlaaGreatAb5
set_option linter.unusedVariables false
set_option linter.unusedSimpArgs false
set_option linter.ambiguousOpen false
set_option linter.unusedSectionVars false
set_option linter.unnecessarySimpa false
open Nat renaming lt_of_lt_of_le->Bfz,beq->Aaz,zero_le->Aez,min_eq_left->Crz,eq_of_beq_eq_true->Abz
open List renaming length_append->Axz,nodup_append->Chz,mem_append->Ciz,singleton_append->Cnz,length_take->Brz,mem_singleton->Bpz,getElem?_eq_getElem->Cmz,drop_eq_getElem_cons->Csz,drop_of_length_le->Ctz
open Bool renaming and_eq_true->Afz
open Array renaming eq_empty_of_size_eq_zero->Cuz
namespace Go.A
open Go Go.E
section
variable {P:Program}{S:Start}{n:Nat}{ρ:AE}{σ:St}{o:Oper}
theorem Tw {r' : Nat}{x:aw}{qs:List Nat}{σ:Nat->aw}:cg σ ((qs.map λq=>(q,.dead))++[(r',x)])=λi=>if i=r' then x else if i∈qs then .dead else σ i:=by
 induction qs generalizing σ with
 | nil=>funext i;simp[cg]
 | cons q qs ih=>
  rw[List.map_cons,List.cons_append,cg,ih];funext i;by_cases U:i=r';simp[U];by_cases W:i∈qs;simp[U,W];by_cases h3:i=q<;>simp[U,W,h3]
theorem bp.regrowL {F:Nat->Prop}{g:Nat->G}{w w' : World}{σ1:Nat->aw}(hs:bp S F g σ1 w){r' : Nat}{qs:List Nat}(hr' : σ1 r'=.none)(hq:∀ q∈qs,g q≠.none){M:Nat->Prop}(hc:cF M w w')(hM:∀ b,M b->b<w.heap.size->∃ q∈qs,b∈bl (g q)){v' : Value}{k:Nat}{L' : List Nat}{gs' : List (List GC)}{x:aw}
  (hx:(∀ m b o cs,SM F S.B m b->b<w.heap.size->At w b o cs->SM F S.B m b/\b<w'.heap.size/\At w' b o cs)->∀ g',(∀ i,da (g i) (g' i))->gQ (SM F S.B) w' g' x (.row v' k L' gs')) (hnd:(bl (.row v' k L' gs')).Nodup) (hbl:∀ b∈bl (.row v' k L' gs'),b<w'.heap.size/\((∃ q∈qs,b∈bl (g q))∨w.heap.size<=b)) :
  ∃ g',bp S F g' (cg σ1 ((qs.map λq=>(q,.dead))++[(r',x)])) w'/\cj S.B F g w F g' w'/\vr (SM F S.B) w' g' (.ref r' none) v':=by
 have hg2:=El hs hr';have hrq:r'∉qs:=λh=>hq r' h hg2;let g' : Nat->G:=λi=>if i=r' then .row v' k L' gs' else if i∈qs then .dead else g i
 have gr:g' r'=.row v' k L' gs':=by simp[g']
 have gq:∀ q∈qs,g' q=.dead:=λq hq=>by
  have:q≠r':=λe=>hrq (e▸hq);simp[g',this,hq]
 have go:∀ i,¬ (i∈qs∨i=r')->g' i=g i:=λi hi=>by
  have U:i≠r':=λe=>hi (.inr e);have W:i∉qs:=λe=>hi (.inl e);simp[g',U,W]
 have hadv:∀ i,da (g i) (g' i):=λi=>by
  by_cases U:i=r';subst U;rw[hg2];trivial;by_cases W:i∈qs;rw[gq i W];exact da.dead (hq i W);rw[go i (λh=>h.elim W U)];exact da.refl _
 rw[Tw];obtain⟨U,W⟩:=hs.step (g':=g') (σ':=λi=>if i=r' then x else if i∈qs then .dead else σ1 i) (F':=F) (w':=w') (λi=>i∈qs∨i=r') hc (λb Y hl=>let ⟨q,U,W⟩:=hM b Y hl;⟨q,.inl U,W⟩)
  (λi hi=>⟨go i hi,by simp only[al (λe=>hi (.inr e)),al (λe=>hi (.inl e))]⟩)
  (λi _=>hadv i) (λ_ h=>h) (λb Y=>⟨Bfz (hs.flt b Y) hc.size,.inl Y⟩)
  (λhk hp i hi=>by
   by_cases U:i=r';subst U;simp only[if_true,gr];exact hx hk g' hadv;have W:i∈qs:=hi.resolve_right U;simp only[al U,ao W,gq i W];trivial)
  (λi hi=>by
   by_cases U:i=r';subst U;rw[gr];exact hnd;rw[gq i (hi.resolve_right U)];exact List.nodup_nil)
  (λi j hi hj hij b Y=>by
   by_cases U:i=r';by_cases W:j=r';exact absurd (U.trans W.symm) hij;rw[gq j (hj.resolve_right W)];exact List.not_mem_nil;rw[gq i (hi.resolve_right U)] at Y;cases Y)
  (λi b hi Y=>by
   by_cases U:i=r';subst U;rw[gr] at Y;obtain⟨h3,h4⟩:=hbl b Y;refine⟨h3,λhf=>?_,?_⟩;rcases h4 with ⟨q,_,h4⟩|h4;exact (hs.own q b h4).2.1 hf;have:=hs.flt b hf;omega;rcases h4 with ⟨q,h5,h4⟩|h4;exact .inr ⟨q,.inl h5,h4⟩;exact .inl h4;rw[gq i (hi.resolve_right U)] at Y;cases Y)
 refine⟨g',U,W,?_⟩;rw[vr,gr];intro u q hu;simp only[G.at] at hu;cases hu;rfl
theorem Ei {F:Nat->Prop}{g:Nat->G}{w:World}{σ1:Nat->aw}(hs:bp S F g σ1 w){r k:Nat}{m:Md}{es:List (List Cell)}{hh:List (Nat×Nat×Nat)}(Z:σ1 r=.deep m k es hh):∃ v L gs,g r=.row v k L gs/\rowOk (SM F S.B) w es v k L gs/\bj g hh gs/\(m=.fz->me es):=by
 have h:=hs.roots r;rw[Z] at h;cases hg:g r<;>rw[hg] at h<;>try exact h.elim
 obtain⟨⟨rfl,U⟩,W,h3⟩:=h;exact⟨_,_,_,rfl,U,W,h3⟩
theorem WZ {a b:List (List Cell)}(U:me a)(W:me b):me (a++b):=λe he=>by
 rcases List.mem_append.1 he with h|h;exact U e h;exact W e h
theorem LY {S1:Md->Nat->Prop}{w:World}{k:Nat}:∀ {es:List (List Cell)} {gs:List (List GC)},aL (eY S1 w k) es gs->∀ u∈bW gs,u.oneCell'=true
 | [],_,h,u,hu=>by rw[show _=[] from h] at hu;simp[bW] at hu
 | e::es,_,⟨ge,r,U,W,h3⟩,u,hu=>by
  subst U;rw[kh] at hu;rcases List.mem_append.1 hu with hu|hu;obtain⟨gc,hgc,rfl⟩:=List.mem_map.1 hu;obtain⟨i,hi⟩:=List.getElem?_of_mem hgc;obtain⟨c,_,hc⟩:=W.2.get' hi;cases c with
  | d m x=>exact hc.2.2.one
  | o m k xs=>obtain⟨_,_,cs,h,_⟩:=hc;obtain⟨A,c,e,_⟩:=h.form;rw[e];rfl
  | w k xs=>have h:=hc.2.2;simp only[fl] at h;obtain⟨L0,cs,L1,h,_⟩:=h;obtain⟨A,c,e,_⟩:=h.form;rw[e];rfl
  | nl k=>rw[hc.2.2];rfl
  | u=>exact hc.2.2
  exact LY h3 u hu
theorem Fu {k:Nat}:∀ {gs:List (List GC)},(∀ ge∈gs,ge.length=k)->(bW gs).length=gs.length*k
 | [],_=>by simp[bW]
 | ge::gs,h=>by
  rw[kh,Axz,bn,h ge (by simp),Fu λg hg=>h g (by simp[hg]),bH,Nat.add_mul];omega
theorem HY {T e k b r r2 r' : Nat}{z:List Value}{s x:Operand}{m:Md}{es es2:List (List Cell)}(ho:o.op=.call { callee:=.builtin .append,args:=#[s,x],argTypes:=#[T,T] })(hT:cY P T=some e)(hk:cn P e=some k)(Y:mg P e=some b)(hz:fO P e=some z)(hzk:z.length=k)(hk0:Nat.blt 0 k=true)
  (hs:aE ρ s=.ref r none) (hσ:ai σ r=.deep m k es []) (hx:aE ρ x=.ref r2 none) (hσ2:ai σ r2=.deep m k es2 []) (hmax:(es.length+es2.length)*b<=140737488355328) (hlen:es.length+es2.length<=maxLen) (hr' : ai σ r'=.none) (hne:Aaz r r2=false) :
  LT P S o ρ σ [] (.ref r' none) [(r,.dead),(r2,.dead),(r',.deep m k (es++es2) [])]:=by
 intro σ1 F g w ρc hsim hrd hwr hv;have hne:r≠r2:=λe=>by subst e;simp at hne
 have hr1:σ1 r=.deep m k es []:=(hwr (r,.dead) (by simp)).trans hσ;have hr2:σ1 r2=.deep m k es2 []:=(hwr (r2,.dead) (by simp)).trans hσ2;have hr3:σ1 r'=.none:=(hwr (r',.deep m k (es++es2) []) (by simp)).trans hr';have e1:=hv s (by simp[ho,Op.operands,Call.operands]);have e2:=hv x (by simp[ho,Op.operands,Call.operands]);obtain⟨v,L,gs,hg,hrow,_,hfz⟩:=Ei hsim hr1;obtain⟨v2,L2,gs2,hg2,hrow2,_,hfz2⟩:=Ei hsim hr2;rw[hs,vr,hg] at e1;rw[hx,vr,hg2] at e2;have e3:=e1 _ _ rfl;have e4:=e2 _ _ rfl;obtain⟨A,c2,hv2,_,_⟩:=hrow2.1.form;have hl2:(bW gs2).length=es2.length*k:=by rw[Fu (lO hrow2.2),hrow2.2.len]
 obtain⟨v',w',L',hrun,hown',hchg,hL'⟩:=Np (P:=P) (ty:=o.type) (w:=w) (A:=A) (c2:=c2) (m2:=es2.length) (news:=bW gs2) hT hk Y hz hzk (by simpa using hk0) hrow.1 hl2
  (by
   rcases hrow2.1.at with h|⟨b,c',T',cur,U,W,_⟩
   exact .inl h;rw[hv2] at U;cases U;exact .inr ⟨b,0,rfl,W⟩) (LY hrow2.2) hmax hlen
 rw[KJ (P:=P) (w:=w) ho e3 (e4.trans hv2) hrun];have hL1:∀ b∈L,b∈bl (g r):=λb Y=>by rw[hg];simp[bl,Y]
 have n1:=hsim.nodup r;have n2:=hsim.nodup r2;rw[hg] at n1;rw[hg2] at n2;have b1:∀ b∈cw gs,b∈bl (g r):=λb Y=>by rw[hg];simp[bl,Y]
 have b2:∀ b∈cw gs2,b∈bl (g r2):=λb Y=>by rw[hg2];simp[bl,Y]
 have n1' : ∀ b∈L,b∉cw gs:=λb Y hb2=>(List.nodup_append.1 n1).2.2 b Y b hb2 rfl;obtain⟨g',U,W,h3⟩:=hsim.regrowL (r':=r') (qs:=[r,r2]) (x:=.deep m k (es++es2) []) (v':=v') (k:=k) (L':=L') (gs':=gs++gs2) hr3
  (λq hq=>by
   simp only[List.mem_cons,List.not_mem_nil,or_false] at hq;rcases hq with rfl|rfl;rw[hg];intro h;cases h;rw[hg2];intro h;cases h) hchg (λb Y _=>⟨r,by simp,hL1 b Y⟩)
  (λhkeep g' _=>⟨⟨rfl,by rw[YR,Axz];exact hown',
   (hrow.2.imp_mem λe' ge' hm' he'=>⟨he'.1,aP.keepL hkeep he'.2 λb Y=>by
    have hb' : b∈cw gs:=List.mem_flatMap.2 ⟨ge',hm',Y⟩;exact hchg.block b (hsim.own r b (b1 b hb')).1 λh=>n1' b h hb'⟩).append
   (hrow2.2.imp_mem λe' ge' hm' he'=>⟨he'.1,aP.keepL hkeep he'.2 λb Y=>by
    have hb' : b∈cw gs2:=List.mem_flatMap.2 ⟨ge',hm',Y⟩;exact hchg.block b (hsim.own r2 b (b2 b hb')).1 λh=>hsim.disj r r2 hne b (hL1 b h) (b2 b hb')⟩)⟩,bj.nil,λhm=>WZ (hfz hm) (hfz2 hm)⟩)
  (by
   simp only[bl,MN];rw[Chz,Chz];refine⟨hown'.nodup,⟨(List.nodup_append.1 n1).2.1,(List.nodup_append.1 n2).2.1,λa ha b Y e=>hsim.disj r r2 hne a (b1 a ha) (e▸b2 b Y)⟩,λa ha b Y e=>?_⟩;subst e;rcases hL' a ha with h|h;rcases List.mem_append.1 Y with Y|Y;exact n1' a h Y;exact hsim.disj r r2 hne a (hL1 a h) (b2 a Y);rcases List.mem_append.1 Y with Y|Y;have:=(hsim.own r a (b1 a Y)).1;omega;have:=(hsim.own r2 a (b2 a Y)).1;omega)
  (λb Y=>by
   simp only[bl,MN,Ciz] at Y;rcases Y with Y|Y|Y;exact⟨hown'.lst b Y,(hL' b Y).imp (λh=>⟨r,by simp,hL1 b h⟩) id⟩;exact⟨Bfz (hsim.own r b (b1 b Y)).1 hchg.size,.inl ⟨r,by simp,b1 b Y⟩⟩;exact⟨Bfz (hsim.own r2 b (b2 b Y)).1 hchg.size,.inl ⟨r2,by simp,b2 b Y⟩⟩)
 exact⟨F,g',U,W,h3⟩
end
inductive jZ (σ:Nat->aw) (m:Md) (k:Nat):List X->List (List Cell)->List Nat->Prop
 | nil:jZ σ m k [] [] []
 | cons {x:X} {xs:List X} {e:List Cell} {es:List (List Cell)} {q1 qs:List Nat} (h:NC σ m x.cells e q1) (hk:e.length=k) (hs:gm σ x=true) (W:jZ σ m k xs es qs):jZ σ m k (x::xs) (e::es) (q1++qs)
theorem jZ.alive {σ:Nat->aw}{m:Md}{k:Nat}:∀ {xs:List X} {es:List (List Cell)} {qs:List Nat},jZ σ m k xs es qs->∀ q∈qs,∃ c,MC (σ q) c
 | _,_,_,.nil,q,hq=>by cases hq
 | _,_,_,.cons h _ _ W,q,hq=>by
  rcases List.mem_append.1 hq with hq|hq;exact h.alive q hq;exact W.alive q hq
theorem jZ.congr {σ1 σ2:Nat->aw}{m:Md}{k:Nat}:∀ {xs:List X} {es:List (List Cell)} {qs:List Nat},jZ σ2 m k xs es qs->(∀ q∈qs,σ1 q=σ2 q)->jZ σ1 m k xs es qs
 | _,_,_,.nil,_=>.nil
 | _,_,_,.cons (x:=x) h hk hs W,hc=>.cons (h.congr λq hq=>hc q (by simp[hq])) hk (by
   cases x with
   | ag cs=>rfl
   | _=>rw[tN λi hi=>hc i (List.mem_append.2 (.inl (h.roots _ (by simp[X.cells]) i hi)))];exact hs) (W.congr λq hq=>hc q (by simp[hq]))
theorem JS {S:Start}{F:Nat->Prop}{g:Nat->G}{w:World}{σ1:Nat->aw}(hs:bp S F g σ1 w){ρ:AE}{ρc:Env}{m:Md}{k:Nat}:∀ (l:List (Nat×Operand)) (i:Nat) (xs:List X) (es:List (List Cell)) (qs:List Nat),l.map (λp=>(p.1,aE ρ p.2))=eI i xs->(∀ p∈l,vr (SM F S.B) w g (aE ρ p.2) (E.ev ρc p.2))->jZ σ1 m k xs es qs ->
  ∃ vs css gs,l.map (λp=>(p.1,E.ev ρc p.2))=dJ i vs/\ly k vs css/\vs.length=es.length/\aL (eY (SM F S.B) w k) es gs/\bW gs=css.flatten/\cw gs=(qs.flatMap λq=>bl (g q))/\(m=.fz->me es)
 | [],i,xs,es,qs,h,_,hn=>by
  cases hn with
  | nil=>exact⟨[],[],[],rfl,trivial,rfl,rfl,rfl,rfl,λ_ e he=>by cases he⟩
  | cons=>simp[eI] at h
 | p::l,i,xs,es,qs,h,hv,hn=>by
  cases hn with
  | nil=>simp[eI] at h
  | cons h0 hk hsu W=>
   simp only[List.map_cons,eI,List.cons.injEq] at h;obtain⟨U,h3⟩:=h;obtain⟨vs,css,gs,h4,h5,h6,h7,h8,h9,h10⟩:=JS hs l (i+1) _ _ _ h3 (λq hq=>hv q (by simp[hq])) W;have h11:=hv p (by simp);cases U;have hys:=oN hs hsu h11;obtain⟨news,k1,k2,k3,k4,k5⟩:=h0.ok hs hys;have hl:(E.ev ρc p.2).cells.toList.length=k:=by rw[← k2,bn,k1.len];exact hk
   refine⟨E.ev ρc p.2::vs,(E.ev ρc p.2).cells.toList::css,news::gs,by simp[dJ,h4],⟨by simp,hl,h5⟩,by simp[h6],⟨_,_,rfl,⟨hk,k1⟩,h7⟩,?_,?_,λhm e he c hc=>?_⟩;rw[kh,k2,h8,List.flatten_cons];rw[lP,k3,h9,List.flatMap_append];rcases List.mem_cons.1 he with rfl|he;exact k5 hm c hc;exact h10 hm e he c hc
section
variable {P:Program}{S:Start}{n:Nat}{ρ:AE}{σ:St}{o:Oper}
theorem QW {T e k mm r' : Nat}{m:Md}{z:List Value}{parts:Array (Nat×Operand)}{xs:List X}{es:List (List Cell)}{qs:List Nat}(ho:o.op=.buildSlice T mm parts)(hT:cY P T=some e)(hk:cn P e=some k)(hz:fO P e=some z)(hzk:z.length=k)(hp:parts.toList.map (λp=>(p.1,aE ρ p.2))=eI 0 xs)(hn:jZ (ai σ) m k xs es qs)(hnd:j8 qs=true)
  (hl:es.length=mm) (hk0:Nat.blt 0 k=true) (hm:Nat.blt 0 mm=true) (hm2:Nat.ble (mm*k) 100000=true) (Z:ai σ r'=.none):LT P S o ρ σ [] (.ref r' none) ((qs.map λq=>(q,.dead))++[(r',.deep m k es [])]):=by
 intro σ1 F g w ρc hs _ hwr hv;have hr1:σ1 r'=.none:=(hwr (r',.deep m k es []) (by simp)).trans Z;have hq1:∀ q∈qs,σ1 q=ai σ q:=λq hq=>hwr (q,.dead) (List.mem_append.2 (.inl (List.mem_map.2 ⟨q,hq,rfl⟩)));have hn1:=hn.congr hq1;obtain⟨vs,css,gs,U,W,h3,h4,h5,h6,h7⟩:=JS hs (ρc:=ρc) parts.toList 0 xs es qs hp (λp hp=>hv p.2 (by simp only[ho,Op.operands];simpa using ⟨p.1,by simpa using hp⟩)) hn1;have hp' : parts.map (λp=>(p.1,E.ev ρc p.2))=(dJ 0 vs).toArray:=by
  apply Array.ext';simpa using U
 have hrun:=KM (P:=P) (w:=w) hT hk hz hzk W (h3.trans hl) hk0 hm hm2;have he:(execOp (E.ev ρc) o).run P w=.ok (.value (.slice (some ⟨w.heap.size,0,none⟩) mm mm)) (w.alloc (.cells css.flatten.toArray e)):=by
  simp only[execOp,ho,hp',Sem.run_bind,hrun,Result.andThen_ok,Sem.run_pure]
 rw[he];have hx:=cd.alloc w (.cells css.flatten.toArray e);have Y:=mF w e css.flatten;have hlen:css.flatten.length=mm*k:=by rw[← h5,Fu (lO h4),h4.len,hl]
 have hm2' : mm*k<=100000:=by simpa using hm2
 have hk' : 0<k:=by simpa using hk0
 have hmm:mm<=mm*k:=Nat.le_mul_of_pos_right mm hk';have bq:∀ b∈cw gs,∃ q∈qs,b∈bl (g q):=λb Y=>by rw[h6] at Y;exact List.mem_flatMap.1 Y
 have hq0:∀ q∈qs,g q≠.none:=λq hq=>by
  obtain⟨c,hc⟩:=hn1.alive q hq;obtain⟨v,k,L,gs,e⟩:=hc.isrow (hs.roots q);rw[e];intro h;cases h
 obtain⟨g',k1,k2,k3⟩:=hs.regrowL (r':=r') (qs:=qs) (x:=.deep m k es []) (v':=.slice (some ⟨w.heap.size,0,none⟩) mm mm) (k:=k) (L':=[w.heap.size]) (gs':=gs) hr1 hq0 hx (λ_ h _=>h.elim)
  (λhkeep g' _=>⟨⟨rfl,⟨e,⟨by rw[h5,hlen,hl],.inr ⟨w.heap.size,mm,css.flatten.toArray,by rw[hl],Aez _,Y,by rw[hl];exact Nat.le_refl _,by show _<=9223372036854775807;omega,by simpa using hlen,by simp only[h5];rw[hl,← hlen,List.take_length]⟩⟩,by simp[Value.ownBlock]⟩,
   h4.imp_mem λe' ge' hm' he'=>⟨he'.1,aP.keepL hkeep he'.2 λb Y=>by
    obtain⟨q,_,h8⟩:=bq b (List.mem_flatMap.2 ⟨ge',hm',Y⟩);exact hx.block b (hs.own q b h8).1 (λh=>h)⟩⟩,bj.nil,h7⟩)
  (by
   simp only[bl,Cnz,List.nodup_cons];refine⟨λh=>?_,by rw[h6];exact BI hs (py hnd)⟩;obtain⟨q,_,h8⟩:=bq _ h;exact Nat.lt_irrefl _ (hs.own q _ h8).1)
  (λb hb'=>by
   simp only[bl,Cnz,List.mem_cons] at hb';rcases hb' with rfl|hb';exact⟨Y.lt,.inr (Nat.le_refl _)⟩;obtain⟨q,h7,h8⟩:=bq b hb';exact⟨Bfz (hs.own q b h8).1 hx.size,.inl ⟨q,h7,h8⟩⟩)
 exact⟨F,g',k1,k2,k3⟩
theorem Eh {k:Nat}:∀ {gs:List (List GC)} (n:Nat),(∀ g∈gs,g.length=k)->bW (gs.take n)=(bW gs).take (n*k)/\(cw (gs.take n)).Sublist (cw gs)
 | [],n,_=>by simp[bW,cw]
 | g0::gs,0,_=>by simp[bW,cw]
 | g0::gs,n+1,h=>by
  obtain⟨U,W⟩:=Eh (gs:=gs) n λg hg=>h g (by simp[hg]);have h0:=h g0 (by simp);rw[List.take_succ_cons,kh,kh,lP,lP];refine⟨?_,W.append_left _⟩;rw[U,show (n+1)*k=(g0.map (·.val)).length+n*k by rw[bn,h0,Nat.add_mul];omega,List.take_length_add_append]
theorem bL.cut {w:World}{k:Nat}{A:Option Addr}{n c b:Nat}{L:List Nat}{cs:List Value}(h:bL w k (.slice A n c) n L cs)(Y:b<=n):bL w k (.slice A b c) b L (cs.take (b*k)):=by
 obtain⟨e,⟨hl,h⟩,hL⟩:=h;have hbk:b*k<=n*k:=Nat.mul_le_mul_right k Y;refine⟨e,⟨by rw[Brz];omega,?_⟩,?_⟩;rcases h with ⟨h,h0⟩|⟨g,cap,cur,h,h0,U,W,h3,h4,h5⟩
 cases h;left;exact⟨by rw[show b=0 by omega],by omega⟩;cases h;refine .inr ⟨g,c,cur,rfl,h0,U,by omega,h3,h4,?_⟩;have:(cur.toList.take (n*k)).take (b*k)=cs.take (b*k):=by rw[h5]
 rwa[List.take_take,Crz hbk] at this;rw[hL];cases A<;>rfl
theorem Qi {T e k r r' : Nat}{x y:Operand}{lo:Option Operand}{m mq:Md}{q:IntKind}{b:Int}{xs:List D}(ho:o.op=.slice T x none (some y) none)(hT:cY P T=some e)(hk:cn P e=some k)(hx:aE ρ x=.ref r none)(hσ:ai σ r=.row m k xs)(hh:aE ρ y=.d mq (.i q b))(U:0<=b)(h3:b.toNat<=xs.length)(hr' : ai σ r'=.none) :
  LT P S o ρ σ [] (.ref r' none) [(r,.dead),(r',.row m k (xs.take b.toNat))]:=by
 intro σ1 F g w ρc hs hrd hwr hv;have hr1:σ1 r=.row m k xs:=(hwr (r,.dead) (by simp)).trans hσ;have hr3:σ1 r'=.none:=(hwr (r',.row m k (xs.take b.toNat)) (by simp)).trans hr';obtain⟨v,L,gs,hg,hrow⟩:=oB hs (.inr ⟨m,xs,hr1,rfl⟩);have hl:=lO hrow.2;obtain⟨A,c,e0,h5,h6⟩:=hrow.1.form;rw[bn] at e0;subst e0;have e1:=hv x (by simp[ho,Op.operands]);rw[hx,vr,hg] at e1;have e2:=e1 _ _ rfl;rw[bn] at h5;have e3:=hv y (by simp[ho,Op.operands]);rw[hh,vr,rdC] at e3;replace e3:=e3.1;rw[← oq U] at e3;have hev:=zL (P:=P) (w:=w) ho hT hk e2 e3 (by omega);have hcut:eJ A 0 b.toNat c k=.slice A b.toNat c:=by
  unfold eJ;simp only[Nat.zero_mul,Nat.sub_zero];by_cases hc:c=0;rw[ao hc];rw[al hc];cases A with
  | none=>rfl
  | some a=>cases a;simp[Addr.add]
 rw[hcut] at hev;rw[show (execOp (E.ev ρc) o).run P w=.ok (.value (.slice A b.toNat c)) w from hev];have hown:=hrow.1;rw[bn] at hown;have hown':=hown.cut h3;obtain⟨t1,t2⟩:=Eh b.toNat hl;have n1:=hs.nodup r;rw[hg] at n1;obtain⟨g',k1,k2,k3⟩:=hs.regrowL (r':=r') (qs:=[r]) (x:=.row m k (xs.take b.toNat)) (v':=.slice A b.toNat c) (k:=k) (L':=L) (gs':=gs.take b.toNat) hr3
  (λq hq=>by
   rw[Bpz] at hq;subst hq;rw[hg];intro h;cases h) (cd.refl w) (λ_ h _=>h.elim)
  (λhkeep g' _=>⟨rfl,by rw[t1,bn,Brz,Crz h3];exact hown',by rw[List.map_take];exact hrow.2.take _⟩)
  (List.Sublist.nodup (by simp only[bl];exact t2.append_left _) n1)
  (λb Y=>by
   have:b∈bl (g r):=by
    rw[hg];simp only[bl,Ciz] at Y ⊢;exact Y.imp id λh=>t2.subset h
   exact⟨(hs.own r b this).1,.inl ⟨r,by simp,this⟩⟩)
 exact⟨F,g',k1,k2,k3⟩
theorem Qh {T e k r r' : Nat}{x y:Operand}{lo:Option Operand}{m mq:Md}{q:IntKind}{b:Int}{es:List (List Cell)}(ho:o.op=.slice T x none (some y) none)(hT:cY P T=some e)(hk:cn P e=some k)(hx:aE ρ x=.ref r none)(hσ:ai σ r=.deep m k es [])(hh:aE ρ y=.d mq (.i q b))(U:0<=b)(h3:b.toNat<=es.length)(hr' : ai σ r'=.none) :
  LT P S o ρ σ [] (.ref r' none) [(r,.dead),(r',.deep m k (es.take b.toNat) [])]:=by
 intro σ1 F g w ρc hs hrd hwr hv;have hr1:σ1 r=.deep m k es []:=(hwr (r,.dead) (by simp)).trans hσ;have hr3:σ1 r'=.none:=(hwr (r',.deep m k (es.take b.toNat) []) (by simp)).trans hr';obtain⟨v,L,gs,hg,hrow,_,hfz⟩:=Ei hs hr1;have hl:=lO hrow.2;obtain⟨A,c,e0,h5,h6⟩:=hrow.1.form;subst e0;have e1:=hv x (by simp[ho,Op.operands]);rw[hx,vr,hg] at e1;have e2:=e1 _ _ rfl;have e3:=hv y (by simp[ho,Op.operands]);rw[hh,vr,rdC] at e3;replace e3:=e3.1;rw[← oq U] at e3;have hev:=zL (P:=P) (w:=w) ho hT hk e2 e3 (by omega);have hcut:eJ A 0 b.toNat c k=.slice A b.toNat c:=by
  unfold eJ;simp only[Nat.zero_mul,Nat.sub_zero];by_cases hc:c=0;rw[ao hc];rw[al hc];cases A with
  | none=>rfl
  | some a=>cases a;simp[Addr.add]
 rw[hcut] at hev;rw[show (execOp (E.ev ρc) o).run P w=.ok (.value (.slice A b.toNat c)) w from hev];have hown':=hrow.1.cut h3;obtain⟨t1,t2⟩:=Eh b.toNat hl;have n1:=hs.nodup r;rw[hg] at n1;obtain⟨g',k1,k2,k3⟩:=hs.regrowL (r':=r') (qs:=[r]) (x:=.deep m k (es.take b.toNat) []) (v':=.slice A b.toNat c) (k:=k) (L':=L) (gs':=gs.take b.toNat) hr3
  (λq hq=>by
   rw[Bpz] at hq;subst hq;rw[hg];intro h;cases h) (cd.refl w) (λ_ h _=>h.elim)
  (λhkeep g' _=>⟨⟨rfl,by rw[t1,Brz,Crz h3];exact hown',hrow.2.take _⟩,bj.nil,λhm e he=>hfz hm e (List.mem_of_mem_take he)⟩)
  (List.Sublist.nodup (by simp only[bl];exact t2.append_left _) n1)
  (λb Y=>by
   have:b∈bl (g r):=by
    rw[hg];simp only[bl,Ciz] at Y ⊢;exact Y.imp id λh=>t2.subset h
   exact⟨(hs.own r b this).1,.inl ⟨r,by simp,this⟩⟩)
 exact⟨F,g',k1,k2,k3⟩
end
structure TI where
 sz:Nat:=1
 by_:Nat:=0
 agg:Bool:=false
 el:Option Nat:=none
 str:Bool:=false
 fo:List (Option Nat):=[]
 ft:List (Option (Nat×Nat)):=[]
 pl:List (Nat×Nat):=[]
 z:Option (List X):=none
 ik:Option IntKind:=none
 fk:Option (List FK):=none
abbrev bK:=List (Nat×TI)
def bK.get:bK->Nat->Option TI
 | [],_=>none
 | (i,t)::l,T=>bif Aaz i T then some t else bK.get l T
def qh:X->Value->Bool
 | .d _ (.i k n),.int k' m=>mM k n&&(decide (k=k')&&decide (n=m))
 | .d _ (.b b),.bool c=>b == c
 | .d _ (.s t),.string s=>Aaz t.size 0&&Aaz s.size 0
 | .nl _,.slice none 0 0=>true
 | .u,_=>true
 | _,_=>false
def AR:List X->List Value->Bool
 | [],[]=>true
 | x::xs,v::vs=>qh x v&&AR xs vs
 | _,_=>false
def wJ:List FK->List FK->Bool
 | [],[]=>true
 | .int::xs,.int::ys=>wJ xs ys
 | .str::xs,.str::ys=>wJ xs ys
 | .bool::xs,.bool::ys=>wJ xs ys
 | _,_=>false
def sa {α:Type}(p:Nat->α->Bool):Nat->List α->Bool
 | _,[]=>true
 | i,x::l=>p i x&&sa p (i+1) l
def TI.chk (P:Program)(T:Nat)(t:TI):Bool:=
 (cn P T == some t.sz)&&(t.by_ == 0||mg P T == some t.by_)&&(cT P T == some t.agg)&&(match t.el with|some e=>cY P T == some e|none=>true)&&(!t.str||uJ P T) &&
 sa (λi o=>match o with|some k=>mo P T i == some k|none=>true) 0 t.fo&&sa (λi o=>match o with|some (ft,off)=>nB P T i == some (ft,off)|none=>true) 0 t.ft&&(t.pl.isEmpty||wB P T == some t.pl) &&
 (match t.z with|some zs=>(match fO P T with|some z=>AR zs z|none=>false)|none=>true)&&(match t.ik with|some k=>(match fJ P T with|some k'=>decide (k=k')|none=>false)|none=>true)&&(match t.fk with|some ks=>(match sb P T with|some ks'=>wJ ks ks'|none=>false)|none=>true)
def bK.ok (P:Program)(tab:bK):Bool:=tab.all λp=>p.2.chk P p.1
theorem T8 {x:X}{v:Value}(h:qh x v=true)(S1:Md->Nat->Prop)(w:World)(g:Nat->G):vr S1 w g x v:=by
 unfold qh at h;split at h;simp only[Afz,decide_eq_true_eq] at h;obtain⟨h0,rfl,rfl⟩:=h;rw[vr,rdC];exact⟨rfl,KS h0⟩;rename_i b c;have:b=c:=by simpa using h
 subst this;rw[vr,rdC];rename_i t s;simp only[Afz] at h;have U:t=s:=by
  have e1:=Abz h.1;have e2:=Abz h.2;cases t with|mk a=>cases s with|mk b=>
   congr 1;have e1:a.size=0:=e1;have e2:b.size=0:=e2;rw[Cuz e1,Cuz e2]
 have hs:t.size<=9223372036854775807:=by rw[Abz h.1];exact Aez _
 subst U;rw[vr,rdC];exact⟨rfl,hs⟩;rw[vr];rw[vr];trivial;cases h
theorem JR:∀ {xs:List X} {vs:List Value},AR xs vs=true->∀ (S1:Md->Nat->Prop) (w:World) (g:Nat->G),aQ S1 w g xs vs
 | [],[],_,_,_,_=>by rw[aQ]
 | x::xs,v::vs,h,S1,w,g=>by
  simp only[AR,Afz] at h;rw[aQ];exact⟨v,vs,rfl,T8 h.1 S1 w g,JR h.2 S1 w g⟩
 | [],_::_,h,_,_,_=>by cases h
 | _::_,[],h,_,_,_=>by cases h
theorem Ah:∀ {xs ys:List FK},wJ xs ys=true->xs=ys
 | [],[],_=>rfl
 | .int::xs,.int::ys,h=>by rw[Ah (xs:=xs) (ys:=ys) h]
 | .str::xs,.str::ys,h=>by rw[Ah (xs:=xs) (ys:=ys) h]
 | .bool::xs,.bool::ys,h=>by rw[Ah (xs:=xs) (ys:=ys) h]
 | [],_::_,h=>by cases h
 | .int::_,[],h=>by cases h
 | .str::_,[],h=>by cases h
 | .bool::_,[],h=>by cases h
 | .int::_,.str::_,h=>by cases h
 | .int::_,.bool::_,h=>by cases h
 | .str::_,.int::_,h=>by cases h
 | .str::_,.bool::_,h=>by cases h
 | .bool::_,.int::_,h=>by cases h
 | .bool::_,.str::_,h=>by cases h
theorem Ft {α:Type}{p:Nat->α->Bool}:∀ {l:List α} {k i:Nat} {x:α},sa p k l=true->l[i]?=some x->p (k+i) x=true
 | [],_,_,_,_,h=>by simp at h
 | y::l,k,0,x,h,hx=>by simp at hx;subst hx;simp only[sa,Afz] at h;exact h.1
 | y::l,k,i+1,x,h,hx=>by
  simp only[sa,Afz] at h;have:=Ft (i:=i) h.2 (by simpa using hx);rwa[show k+1+i=k+(i+1) by omega] at this
section
variable {P:Program}{tab:bK}{T:Nat}{t:TI}
theorem bK.chk (h:tab.ok P=true)(hT:tab.get T=some t):t.chk P T=true:=by
 induction tab with
 | nil=>cases hT
 | cons p l ih=>
  simp only[bK.ok,List.all_cons,Afz] at h;simp only[bK.get] at hT;cases Y:Aaz p.1 T with
  | true=>
   rw[Y] at hT;simp only[cond_true,Option.some.injEq] at hT;have:=Abz Y;subst this;subst hT;exact h.1
  | false=>rw[Y] at hT;exact ih h.2 hT
theorem TI.sz' (h:t.chk P T=true):cn P T=some t.sz:=by
 simp only[TI.chk,Afz] at h;simpa using h.1.1.1.1.1.1.1.1.1.1
theorem TI.by' (h:t.chk P T=true){b:Nat}(Y:t.by_=b+1):mg P T=some t.by_:=by
 simp only[TI.chk,Afz] at h;have:=h.1.1.1.1.1.1.1.1.1.2;rw[Y] at this ⊢;simpa using this
theorem TI.agg' (h:t.chk P T=true):cT P T=some t.agg:=by
 simp only[TI.chk,Afz] at h;simpa using h.1.1.1.1.1.1.1.1.2
theorem TI.el' (h:t.chk P T=true){e:Nat}(he:t.el=some e):cY P T=some e:=by
 simp only[TI.chk,Afz] at h;have:=h.1.1.1.1.1.1.1.2;rw[he] at this;simpa using this
theorem TI.str' (h:t.chk P T=true)(he:t.str=true):P.underlying T=some .string:=by
 simp only[TI.chk,Afz] at h;have:=h.1.1.1.1.1.1.2;rw[he] at this;simp only[Bool.not_true,Bool.false_or] at this;unfold uJ at this;split at this;rename_i hu;exact hu;cases this
theorem TI.fo' (h:t.chk P T=true){i k:Nat}(he:t.fo[i]?=some (some k)):mo P T i=some k:=by
 simp only[TI.chk,Afz] at h;have:=Ft h.1.1.1.1.1.2 he;rw[Nat.zero_add] at this;simpa using this
theorem TI.ft' (h:t.chk P T=true){i:Nat}{p:Nat×Nat}(he:t.ft[i]?=some (some p)):nB P T i=some p:=by
 simp only[TI.chk,Afz] at h;have:=Ft h.1.1.1.1.2 he;rw[Nat.zero_add] at this;simpa using this
theorem TI.pl' (h:t.chk P T=true){p:Nat×Nat}{l:List (Nat×Nat)}(he:t.pl=p::l):wB P T=some t.pl:=by
 simp only[TI.chk,Afz] at h;have:=h.1.1.1.2;rw[he] at this ⊢;simpa using this
theorem TI.z' (h:t.chk P T=true){zs:List X}(he:t.z=some zs):∃ z,fO P T=some z/\∀ (S1:Md->Nat->Prop) (w:World) (g:Nat->G),aQ S1 w g zs z:=by
 simp only[TI.chk,Afz] at h;have:=h.1.1.2;rw[he] at this;simp only at this;split at this;rename_i z hz;exact⟨z,hz,JR this⟩;cases this
theorem TI.ik' (h:t.chk P T=true){k:IntKind}(he:t.ik=some k):fJ P T=some k:=by
 simp only[TI.chk,Afz] at h;have:=h.1.2;rw[he] at this;simp only at this;split at this;rename_i k' hk;simp only[decide_eq_true_eq] at this;rw[hk,this];cases this
theorem TI.fk' (h:t.chk P T=true){ks:List FK}(he:t.fk=some ks):sb P T=some ks:=by
 simp only[TI.chk,Afz] at h;have:=h.2;rw[he] at this;simp only at this;split at this;rename_i k' hk;rw[hk,Ah this];cases this
end
def fK (op:BinOp)(a b:Int):Option Bool:=match op with
 | .lss=>some (decide (a<b))
 | .leq=>some (decide (a<=b))
 | .gtr=>some (decide (b<a))
 | .geq=>some (decide (b<=a))
 | .eql=>some (decide (a=b))
 | .neq=>some (!decide (a=b))
 | _=>none
def gf (op:BinOp)(a b:an):Option Bool:=match op with
 | .eql=>some (decide (a=b))
 | .neq=>some (!decide (a=b))
 | .lss=>some (Op.bytesLess a.toList b.toList)
 | .gtr=>some (!(Op.bytesLess a.toList b.toList||decide (a=b)))
 | .geq=>some (!Op.bytesLess a.toList b.toList)
 | .leq=>some (Op.bytesLess a.toList b.toList||decide (a=b))
 | _=>none
def Dh (op:BinOp):X->X->Option Bool
 | .d _ (.i k a),.d _ (.i k' b)=>if k=k' then fK op a b else none
 | .d _ (.s a),.d _ (.s b)=>gf op a b
 | _,_=>none
theorem T7 {P:Program}{T:TypeId}{op:BinOp}{x y:X}{r:Bool}(h:Dh op x y=some r):∃ u v,iN x=some u/\iN y=some v/\cG P op T u v (.bool r):=by
 unfold Dh at h;split at h;rename_i k a _ k' b;split at h;rename_i hk;subst hk;refine⟨_,_,rfl,rfl,?_⟩;cases op<;>simp only[fK] at h<;>cases h;exact Rj;exact Ri;exact Ro;exact Rn;exact Rm;exact Rk;cases h;rename_i a _ b;refine⟨_,_,rfl,rfl,?_⟩;cases op<;>simp only[gf] at h<;>cases h;exact RG;exact RF;exact QR;exact QN;exact QQ;exact QO;cases h
def opV (tab:bK)(ρ:AE)(σ:St):Op->Option (X×List Nat)
 | .move x=>some (aE ρ x,[])
 | .assign x=>some (aE ρ x,[])
 | .pick c x y=>match aE ρ c with|.d _ (.b b)=>some (if b then aE ρ x else aE ρ y,[])|_=>none
 | .fieldAddr T x i=>match tab.get T with
  | some t=>match t.fo[i]? with
   | some (some k)=>match aE ρ x with
    | .pb r c=>match ai σ r with|.box _=>some (.pb r (c+k),[r])|_=>none
    | .pf m ds=>some (.pf m (ds.drop k),[])
    | .pe r l j c=>match dK (ai σ r) l with|some _=>some (.pe r l j (c+k),[r])|none=>none
    | _=>none
   | _=>none
  | none=>none
 | .load T x=>match tab.get T with
  | some t=>match t.agg with
   | false=>match aE ρ x with
    | .pb r c=>match ai σ r with
     | .box cs=>match cs[c]? with|some y=>some (y,[r])|none=>none
     | _=>none
    | .pf m (d::_)=>some (dX m d,[])
    | _=>none
   | true=>match aE ρ x with
    | .pb r c=>match ai σ r with
     | .box cs=>match Aaz ((cs.drop c).take t.sz).length t.sz with|true=>some (.ag ((cs.drop c).take t.sz),[r])|false=>none
     | _=>none
    | .pf m ds=>match Aaz (ds.take t.sz).length t.sz with|true=>some (.ag ((ds.take t.sz).map (dX m)),[])|false=>none
    | _=>none
  | none=>none
 | .nilCheck x=>match aE ρ x with
  | .pb r c=>match ai σ r with|.box _=>some (.pb r c,[r])|_=>none
  | _=>none
 | .extract x k=>match aE ρ x with
  | .tu xs=>match xs[k]? with|some y=>some (y,[])|none=>none
  | _=>none
 | .field T x i=>match tab.get T with
  | some t=>match t.ft[i]? with
   | some (some (ft,off))=>match tab.get ft with
    | some tf=>match aE ρ x with
     | .ag xs=>match tf.agg with
      | false=>match xs[off]? with|some y=>some (y,[])|none=>none
      | true=>some (.ag ((xs.drop off).take tf.sz),[])
     | _=>none
    | none=>none
   | _=>none
  | none=>none
 | .unOp .not _ x=>match aE ρ x with|.d _ (.b b)=>some (.d .fz (.b (!b)),[])|_=>none
 | .binOp op _ x y _=>match Dh op (aE ρ x) (aE ρ y) with|some b=>some (.d .fz (.b b),[])|none=>none
 | .makeFunc fn first c=>match fn,first.toList with|.func f,[]=>some (.fn f (c.toList.map (aE ρ)),[])|_,_=>none
 | .build T parts=>match tab.get T with
  | some t=>match t.pl,t.z with
   | _::_,some zs=>
    match (parts.toList.all λp=>gm (ai σ) (aE ρ p.2))&&gp t.pl zs.length (parts.toList.map λp=>(p.1,(aE ρ p.2).cells.length)) with
    | true=>some (.ag (gJ t.pl zs (parts.toList.map λp=>(p.1,(aE ρ p.2).cells))),parts.toList.flatMap λp=>dq (aE ρ p.2))
    | false=>none
   | _,_=>none
  | none=>none
 | _=>none
section
variable {P:Program}{S:Start}{ρ:AE}{σ:St}{o:Oper}
theorem CY {tab:bK}(ht:tab.ok P=true){v:X}{rd:List Nat}(h:Go.A.opV tab ρ σ o.op=some (v,rd)):LT P S o ρ σ rd v []:=by
 unfold Go.A.opV at h;split at h;rename_i x ho;cases h;exact LT.mv ho;rename_i x ho;cases h;exact LT.as ho;rename_i c x y ho;split at h;rename_i hc;cases h;exact Q5 ho hc;cases h;rename_i T x i ho;split at h;rename_i t hT;split at h;rename_i k hk;have hf:=TI.fo' (bK.chk ht hT) hk;split at h;rename_i r c hx;split at h;rename_i cs hσ;cases h;exact PX ho hf hx hσ;cases h;rename_i m ds hx;cases h;exact PW ho hf hx;rename_i r l j c hx;split at h;rename_i p hσ;cases h;exact PV ho hf hx hσ;cases h;cases h;cases h;cases h;rename_i T x ho;split at h;rename_i t hT;have hc:=bK.chk ht hT;have hag:=TI.agg' hc;have hsz:=TI.sz' hc;split at h;rename_i ha;rw[ha] at hag;split at h;rename_i r c hx;split at h;rename_i cs hσ;split at h;rename_i y hy;cases h;exact PU ho hag hx hσ hy;cases h;cases h;rename_i m d ds hx;cases h;exact PT ho hag hx;cases h;rename_i ha;rw[ha] at hag;split at h;rename_i r c hx;split at h;rename_i cs hσ;split at h;rename_i hl;cases h;exact Q4 ho hag hsz hx hσ (Abz hl);cases h;cases h;rename_i m ds hx;split at h;rename_i hl;cases h;exact Q3 ho hag hsz hx (Abz hl);cases h;cases h;cases h;rename_i x ho;split at h;rename_i r c hx;split at h;rename_i cs hσ;cases h;exact QZ ho hx hσ;cases h;cases h;rename_i x k ho;split at h;rename_i xs hx;split at h;rename_i y hy;cases h;exact LT.ext ho hx hy;cases h;cases h;rename_i T x i ho;split at h;rename_i t hT;split at h;rename_i ft off hf;have hfy:=TI.ft' (bK.chk ht hT) hf;split at h;rename_i tf hft;have hc:=bK.chk ht hft;split at h;rename_i xs hx;split at h;rename_i ha;split at h;rename_i y hy;cases h;exact Qy ho hfy (by rw[TI.agg' hc,ha]) hx hy;cases h;rename_i ha;cases h;exact Q0 ho hfy (by rw[TI.agg' hc,ha]) (TI.sz' hc) hx;cases h;cases h;cases h;cases h;rename_i T x ho;split at h;rename_i hx;cases h;exact Qz ho hx;cases h;rename_i op T x y Z7 ho;split at h;rename_i b Y;cases h;obtain⟨u,v,U,W,h3⟩:=T7 (P:=P) (T:=T) Y;exact zI ho rfl rfl U W (λ_ _=>⟨h3,trivial⟩) rfl;cases h;rename_i fn first c ho
 split at h;rename_i f hf;cases h;refine Qx ?_;rw[ho];congr 1;exact Array.toList_eq_nil_iff.1 hf;cases h;rename_i T parts ho;split at h;rename_i t hT;have hc:=bK.chk ht hT;split at h;rename_i p l zs hp hz;split at h;rename_i hok;cases h;simp only[Afz] at hok;obtain⟨z,hz1,hz2⟩:=TI.z' hc hz;have:=LT.build (S:=S) (ρ:=ρ) (σ:=σ) ho (TI.pl' hc hp) hz1 hz2 rfl (by simpa[List.all_map] using hok.1) (by simpa[List.map_map,Function.comp_def] using hok.2) rfl;simpa[List.map_map,Function.comp_def,List.flatMap_map] using this;cases h;cases h;cases h;cases h
end
section
variable {P:Program}{S:Start}{n0 nt:Nat}{Q:cQ}{ρ:AE}{σ:St}{c:Code}
theorem bQ {α β:Type}{f:Nat->α->β->Option β}{xs:List α}{s0 s1:β}(Z:Go.E.eachL f 0 xs s0=some s1)(hl:(xs.length:Int)<=9223372036854775807)(n:Nat)(L:Nat->β->List (Nat×X))(R:Nat->β->List (Nat×aw))
  (h0:GH S ρ σ (ofX (L 0 s0)) (bc (σ.take n) (R 0 s0)))
  (step:∀ k x s s',xs[k]?=some x->f k x s=some s'->(k:Int)<xs.length->AW P S nt c (iO (λρ' σ'=>GH S ρ' σ' (ofX (L (k+1) s')) (bc (σ.take n) (R (k+1) s'))) Q) (ofX (L k s)) (bc (σ.take n) (R k s)))
  (fin:∀ k:Nat,¬ (k:Int)<xs.length->AW P S nt c (iO (λ_ _=>False) Q) (ofX (L k s1)) (bc (σ.take n) (R k s1))):AW P S nt (.loop c) Q ρ σ:=by
 refine vJ (α:={ p:Nat×β // p.1<=xs.length/\Go.E.eachL f p.1 (xs.drop p.1) p.2=some s1 }) (λx=>ofX (L x.1.1 x.1.2)) (λx=>bc (σ.take n) (R x.1.1 x.1.2)) (λx=>xs.length-x.1.1) ⟨(0,s0),Aez _,Z⟩ h0 ?_;rintro⟨⟨k,s⟩,hk,he⟩;simp only at hk he;by_cases hlt:k<xs.length;have hx:xs[k]?=some xs[k]:=Cmz hlt;rw[Csz hlt,Go.E.eachL] at he;obtain⟨s',U,W⟩:=Option.bind_eq_some_iff.1 he;refine (step k xs[k] s s' hx U (by omega)).mono λe ρ' σ' h=>?_;cases e with
 | normal=>exact⟨⟨(k+1,s'),hlt,W⟩,h,by simp only;omega⟩
 | _=>exact h
 rw[Ctz (by omega),Go.E.eachL] at he;cases he;refine (fin k (by omega)).mono λe ρ' σ' h=>?_;cases e with
 | normal=>exact h.elim
 | _=>exact h
theorem bJ {α β γ:Type}{f:Nat->α->β->Option (β ⊕ γ)}{xs:List α}{s0:β}{out:β ⊕ γ}(Z:Go.E.findL f 0 xs s0=some out)(hl:(xs.length:Int)<=9223372036854775807)(n:Nat)(L:Nat->β->List (Nat×X))(R:Nat->β->List (Nat×aw))
  (h0:GH S ρ σ (ofX (L 0 s0)) (bc (σ.take n) (R 0 s0)))
  (step:∀ k x s o,xs[k]?=some x->f k x s=some o->(k:Int)<xs.length->(∀ r1,o=.inr r1->out=.inr r1)->AW P S nt c (iO (λρ' σ'=>∃ s',o=.inl s'/\GH S ρ' σ' (ofX (L (k+1) s')) (bc (σ.take n) (R (k+1) s'))) Q) (ofX (L k s)) (bc (σ.take n) (R k s)))
  (fin:∀ (k:Nat) s1,out=.inl s1->¬ (k:Int)<xs.length->AW P S nt c (iO (λ_ _=>False) Q) (ofX (L k s1)) (bc (σ.take n) (R k s1))):AW P S nt (.loop c) Q ρ σ:=by
 refine vJ (α:={ p:Nat×β // p.1<=xs.length/\Go.E.findL f p.1 (xs.drop p.1) p.2=some out }) (λx=>ofX (L x.1.1 x.1.2)) (λx=>bc (σ.take n) (R x.1.1 x.1.2)) (λx=>xs.length-x.1.1) ⟨(0,s0),Aez _,Z⟩ h0 ?_;rintro⟨⟨k,s⟩,hk,he⟩;simp only at hk he;by_cases hlt:k<xs.length;have hx:xs[k]?=some xs[k]:=Cmz hlt;rw[Csz hlt,Go.E.findL] at he;obtain⟨o,U,W⟩:=Option.bind_eq_some_iff.1 he;refine (step k xs[k] s o hx U (by omega) (λr1 e=>by subst e;simpa using W.symm)).mono λe ρ' σ' h=>?_;cases e with
 | normal=>
  obtain⟨s',rfl,h⟩:=h;exact⟨⟨(k+1,s'),hlt,W⟩,h,by simp only;omega⟩
 | _=>exact h
 rw[Ctz (by omega),Go.E.findL] at he;cases he;refine (fin k s rfl (by omega)).mono λe ρ' σ' h=>?_;cases e with
 | normal=>exact h.elim
 | _=>exact h
theorem jf {β:Type}{f:Nat->β->Option β}{m:Nat}{s0 s1:β}(Z:Go.E.eachN f 0 m s0=some s1)(n:Nat)(L:Nat->β->List (Nat×X))(R:Nat->β->List (Nat×aw))
  (h0:GH S ρ σ (ofX (L 0 s0)) (bc (σ.take n) (R 0 s0)))
  (step:∀ k s s',f k s=some s'->k<m->AW P S nt c (iO (λρ' σ'=>GH S ρ' σ' (ofX (L (k+1) s')) (bc (σ.take n) (R (k+1) s'))) Q) (ofX (L k s)) (bc (σ.take n) (R k s)))
  (fin:AW P S nt c (iO (λ_ _=>False) Q) (ofX (L m s1)) (bc (σ.take n) (R m s1))):AW P S nt (.loop c) Q ρ σ:=by
 refine vJ (α:={ p:Nat×β // p.1<=m/\Go.E.eachN f p.1 (m-p.1) p.2=some s1 }) (λx=>ofX (L x.1.1 x.1.2)) (λx=>bc (σ.take n) (R x.1.1 x.1.2)) (λx=>m-x.1.1) ⟨(0,s0),Aez _,Z⟩ h0 ?_;rintro⟨⟨k,s⟩,hk,he⟩;simp only at hk he;by_cases hlt:k<m;rw[show m-k=(m-(k+1))+1 by omega,Go.E.eachN] at he;obtain⟨s',U,W⟩:=Option.bind_eq_some_iff.1 he;refine (step k s s' U hlt).mono λe ρ' σ' h=>?_;cases e with
 | normal=>exact⟨⟨(k+1,s'),hlt,W⟩,h,by simp only;omega⟩
 | _=>exact h
 have hkm:k=m:=by omega
 subst hkm;rw[Nat.sub_self,Go.E.eachN] at he;cases he;refine fin.mono λe ρ' σ' h=>?_;cases e with
 | normal=>exact h.elim
 | _=>exact h
theorem vK {β γ:Type}{f:Nat->β->Option (β ⊕ γ)}{m:Nat}{s0:β}{out:β ⊕ γ}(Z:Go.E.findN f 0 m s0=some out)(n:Nat)(L:Nat->β->List (Nat×X))(R:Nat->β->List (Nat×aw))
  (h0:GH S ρ σ (ofX (L 0 s0)) (bc (σ.take n) (R 0 s0)))
  (step:∀ k s o,f k s=some o->k<m->(∀ r1,o=.inr r1->out=.inr r1)->AW P S nt c (iO (λρ' σ'=>∃ s',o=.inl s'/\GH S ρ' σ' (ofX (L (k+1) s')) (bc (σ.take n) (R (k+1) s'))) Q) (ofX (L k s)) (bc (σ.take n) (R k s)))
  (fin:∀ s1,out=.inl s1->AW P S nt c (iO (λ_ _=>False) Q) (ofX (L m s1)) (bc (σ.take n) (R m s1))):AW P S nt (.loop c) Q ρ σ:=by
 refine vJ (α:={ p:Nat×β // p.1<=m/\Go.E.findN f p.1 (m-p.1) p.2=some out }) (λx=>ofX (L x.1.1 x.1.2)) (λx=>bc (σ.take n) (R x.1.1 x.1.2)) (λx=>m-x.1.1) ⟨(0,s0),Aez _,Z⟩ h0 ?_;rintro⟨⟨k,s⟩,hk,he⟩;simp only at hk he;by_cases hlt:k<m;rw[show m-k=(m-(k+1))+1 by omega,Go.E.findN] at he;obtain⟨o,U,W⟩:=Option.bind_eq_some_iff.1 he;refine (step k s o U hlt (λr1 e=>by subst e;simpa using W.symm)).mono λe ρ' σ' h=>?_;cases e with
 | normal=>
  obtain⟨s',rfl,h⟩:=h;exact⟨⟨(k+1,s'),hlt,W⟩,h,by simp only;omega⟩
 | _=>exact h
 have hkm:k=m:=by omega
 subst hkm;rw[Nat.sub_self,Go.E.findN] at he;cases he;refine (fin s rfl).mono λe ρ' σ' h=>?_;cases e with
 | normal=>exact h.elim
 | _=>exact h
theorem eS {β γ:Type}{f:β->Option (β ⊕ γ)}{s0:β}{r:γ}(Z:bE f s0=some r)(n:Nat)(L:β->List (Nat×X))(R:β->List (Nat×aw))
  (h0:GH S ρ σ (ofX (L s0)) (bc (σ.take n) (R s0)))
  (step:∀ s o,f s=some o->(∀ r1,o=.inr r1->r=r1)->AW P S nt c (iO (λρ' σ'=>∃ s',o=.inl s'/\GH S ρ' σ' (ofX (L s')) (bc (σ.take n) (R s'))) Q) (ofX (L s)) (bc (σ.take n) (R s))):AW P S nt (.loop c) Q ρ σ:=by
 obtain⟨N,hN⟩:=tM.1 Z;refine vJ (α:={ p:Nat×β // js f p.1 p.2=some r }) (λx=>ofX (L x.1.2)) (λx=>bc (σ.take n) (R x.1.2)) (λx=>x.1.1) ⟨(N,s0),hN⟩ h0 ?_;rintro⟨⟨k,s⟩,he⟩;simp only at he;cases k with
 | zero=>cases he
 | succ k=>
  rw[js] at he;obtain⟨o,U,W⟩:=Option.bind_eq_some_iff.1 he;refine (step s o U (λr1 e=>by subst e;simpa using W.symm)).mono λe ρ' σ' h=>?_;cases e with
  | normal=>
   obtain⟨s',rfl,h⟩:=h;exact⟨⟨(k,s'),W⟩,h,by simp⟩
  | _=>exact h
theorem AW.cut {β:Type}(n:Nat)(L:β->List (Nat×X))(R:β->List (Nat×aw)){M:β->Prop}
  (U:AW P S nt c (iO (λρ' σ'=>∃ s,M s/\GH S ρ' σ' (ofX (L s)) (bc (σ.take n) (R s))) Q) ρ σ)
  (W:∀ s,M s->Q .normal (ofX (L s)) (bc (σ.take n) (R s))):AW P S nt c Q ρ σ:=by
 intro F g w ρc hs hv;refine (U F g w ρc hs hv).mono λe ρc' w' ⟨ρ',σ',F',g',k1,k2,k3⟩=>?_;cases e with
 | normal=>
  obtain⟨s,hm,hg⟩:=k3;obtain⟨F2,g2,m1,m2⟩:=hg F' g' w' ρc' k1 k2;exact⟨_,_,F2,g2,m1,m2,W s hm⟩
 | _=>exact⟨ρ',σ',F',g',k1,k2,k3⟩
theorem ah {α β:Type}{o:Option α}{f:α->Option β}{r:β}{G:Prop}(Z:o.bind f=some r)(h:∀ y,o=some y->f y=some r->G):G:=by
 obtain⟨y,U,W⟩:=Option.bind_eq_some_iff.1 Z;exact h y U W
theorem az {β:Type}{c:Prop}[Decidable c]{k:Option β}{r:β}{G:Prop}(Z:grd c k=some r)(h:c->k=some r->G):G:=h (oO Z).1 (oO Z).2
theorem aM {β:Type}{c:Prop}[Decidable c]{a b:Option β}{r:β}{G:Prop}(Z:(if c then a else b)=some r)(U:c->a=some r->G)(W:¬ c->b=some r->G):G:=by
 by_cases hc:c;exact U hc (by rwa[ao hc] at Z);exact W hc (by rwa[al hc] at Z)
end
end Go.A
