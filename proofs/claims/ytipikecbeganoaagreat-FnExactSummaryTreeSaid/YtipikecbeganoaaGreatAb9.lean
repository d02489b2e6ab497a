/- Abstract states of a walk: plain lemmas on the model, without conditions of their own. -/
import Derived.Test.YtipikecbeganoaaGreatAb8
import Derived.KernelRfl
set_option linter.unusedVariables false
set_option linter.unusedSimpArgs false
set_option linter.ambiguousOpen false
set_option linter.unusedSectionVars false
set_option linter.unnecessarySimpa false
namespace Go.A
open Go Go.E
section
variable {S:Start}{F:Nat→Prop}{g:Nat→G}{w w' : World}{σ1:Nat→Root}
theorem Sim.refill (hs:Sim S F g σ1 w){r k:Nat}{m:Md}{es:List D}{v:Value}{L:List Nat}{gs:List (List GC)}{cs:List Value}(hg:g r=.row v k L gs)(hgb:gbl gs=[])(hc:Chg (fun b=>b∈L) w w')(hown:OwnR w' k v es.length L cs)
  (hrd:(∀ m b o cs,SM F S.B m b→b<w.heap.size→At w b o cs→SM F S.B m b∧b<w'.heap.size∧At w' b o cs)→rdE (SM F S.B m) w' k es cs):∃ g',Sim S F g' (owr σ1 [(r,.row m k es)]) w'∧Pres S.B F g w F g' w':=by
 have hbl0:bl (g r)=L:=by rw[hg];simp[bl,hgb]
 have hkp:=hs.keeps (F':=F) hc (fun c hcL _=>⟨r,by rw[hbl0];exact hcL⟩) fun _ h=>h
 obtain⟨gs',q1,q2,q3⟩:=j8E (S1:=SM F S.B) (hrd hkp)
 let g' : Nat→G:=fun i=>if i=r then .row v k L gs' else g i
 have hg0:g' r=.row v k L gs':=by simp[g']
 have hbl' : bl (g' r)=L:=by rw[hg0];simp[bl,q3]
 refine⟨g',hs.step (M:=fun b=>b∈L) (F':=F) (g':=g') (σ':=owr σ1 [(r,.row m k es)]) (· = r) hc (fun c hc _=>⟨r,rfl,by rw[hbl0];exact hc⟩)
   (fun i hi=>⟨by simp[g',hi],by rw[owr1];simp[hi]⟩) (fun i hi=>by subst hi;rw[hg,hg0];exact .inr ⟨L,gs',rfl⟩) (fun _ h=>h)
   (fun c hc'=>⟨Nat.lt_of_lt_of_le (hs.flt c hc') hc.size,.inl hc'⟩)
   (fun _ _ i hi=>by
    subst hi
    rw[hg0,owr1]
    simp only[if_true]
    exact⟨rfl,by rw[lnM,q2];exact hown,q1⟩)
   (fun i hi=>by subst hi;rw[hbl',← hbl0];exact hs.nodup i) (fun i j hi hj hij=>absurd (hi.trans hj.symm) hij)
   (fun i c hi hc'=>by
    subst hi
    rw[hbl'] at hc'
    have hc0:c∈bl (g i):=by rw[hbl0];exact hc'
    obtain⟨a1,a2,_⟩:=hs.own i c hc0
    exact⟨Nat.lt_of_lt_of_le a1 hc.size,a2,.inr ⟨i,rfl,hc0⟩⟩)⟩
end
section
variable {P:Program}{S:Start}{o:Oper}{ρ:AE}{σ:St}
theorem q3E {T e k r lo nn:Nat}{m:Md}{ds:List D}{d:D}{z:List Value}{x:Operand}(ho:o.op=.call { callee:=.builtin .clear,args:=#[x],argTypes:=#[T] })(hT:q7O P T=some e)(hk:szT P e=some k)(hz:z3P P e=some z)(hzd:∀ S1 w,rd1 S1 w d z)(hzl:z.length=k)
  (hx:evX ρ x=.vs r none lo nn) (hσ:fnOf σ r=.row m k ds) (hlo:lo≤ds.length) (hnn:nn=ds.length-lo):LT P S o ρ σ [] .u [(r,.row m k (ds.take lo++List.replicate (ds.length-lo) d))]:=by
 intro σ1 F g w ρc hs hrd hwr hv
 have hr1:σ1 r=.row m k ds:=(hwr (r,_) List.mem_cons_self).trans hσ
 have hroot:=hs.roots r
 rw[hr1] at hroot
 cases hg:g r<;>rw[hg] at hroot<;>try exact hroot.elim
 rename_i v k0 L gs
 obtain⟨hk0,hrow⟩:=hroot
 subst hk0
 have e1:=hv x (by simp[ho,Op.operands,Call.operands])
 rw[hx,vr,hg] at e1
 obtain⟨A,n,cp,A',cp',h1,h2,h3,h4,h5,h6⟩:=e1 _ _ rfl
 obtain⟨hown,hrdE,hgb,hno⟩:=q6K hrow
 have hz1:∀ u∈z,u.oneCell'=true:=rdCs.one (hzd (fun _=>True) w)
 obtain⟨v',hzv,hvc⟩:=z0k (P:=P) (w:=w) hz
 obtain⟨A2,c2,hv2,h7,h8⟩:=hown.form
 rw[h1] at hv2
 have hn:n=ds.length:=by injection hv2
 have hru:∀ r:Result Next,r=.ok (.value (.tuple #[])) w→True:=fun _ _=>trivial
 by_cases hlm:lo=ds.length
 ·have hnn0:nn=0:=by omega
  rw[hnn0] at h3
  have hrun:(Builtin.clear_ #[T] o.type #[E.ev ρc x]).run P w=.ok (.tuple #[]) w:=by
   rw[h3]
   cases A'<;>simp[Builtin.clear_,run_underlying (q6i hT)]
  have he:(execOp (E.ev ρc) o).run P w=.ok (.value (.tuple #[])) w:=by
   simp only[execOp,ho,resolve,invoke,builtin,Sem.run_bind,Sem.run_pure,Result.andThen_ok,List.map_toArray,List.map_cons,List.map_nil,hrun]
  rw[he]
  have hxs:ds.take lo++List.replicate (ds.length-lo) d=ds:=by subst hlm;simp
  rw[hxs]
  refine⟨F,g,?_,Pres.refl,by rw[vr];trivial⟩
  have:owr σ1 [(r,.row m k0 ds)]=σ1:=by
   funext i;rw[owr1];by_cases hi:i=r
   ·subst hi;simp only[if_true,hr1]
   ·simp only[ifN hi]
  rw[this];exact hs
 ·have hlt:lo<ds.length:=by omega
  obtain⟨eb,hO,hLv⟩:=hown
  rcases hO.2 with ⟨_,h00⟩|⟨b,cap,cur,hvb,hb0,hgbk,hnc,hcm,hsz,htk⟩
  ·omega
  have hLb:L=[b]:=by rw[hLv,hvb];simp[Value.ownBlock]
  rw[h1] at hvb
  injection hvb with f1 f2 f3
  subst f1;subst f3
  rcases h6 with h6|⟨b2,f4,f5⟩
  ·omega
  injection f4 with f4
  injection f4 with f4
  subst f4
  have hlen2:(reps z (ds.length-lo)).length=(ds.length-lo)*k0:=by rw[z3f,hzl]
  have hcells:(Builtin.zeroCells v'.cells (ds.length-lo)).toList=reps z (ds.length-lo):=by
   rw[j3K,hvc]
   have:=z4p z.toArray (ds.length-lo)
   rw[this]
  have hfit:lo*k0+(ds.length-lo)*k0≤cur.size:=by
   rw[← Nat.add_mul,hsz,show lo+(ds.length-lo)=ds.length by omega];exact Nat.mul_le_mul_right _ hnc
  have hst:=run_storeCells_at P b (lo*k0) eb (reps z (ds.length-lo)) 0 cur w hgbk (by rw[hlen2];simpa using hfit) (k0m hz1 _)
  have hrun:(Builtin.clear_ #[T] o.type #[E.ev ρc x]).run P w=.ok (.tuple #[]) (w.setRow b (q5o cur.toList (lo*k0) (reps z (ds.length-lo))).toArray):=by
   rw[h3,f5]
   simp only[Nat.add_zero] at hst
   have hsp:q5o cur.toList (lo*k0) (reps z (ds.length-lo))=List.take (lo*k0) cur.toList++reps z (ds.length-lo)++List.drop (lo*k0+(reps z (ds.length-lo)).length) cur.toList:=rfl
   rw[hsp]
   obtain⟨q,hq⟩:∃ q,ds.length-lo=q+1:=⟨ds.length-lo-1,by omega⟩
   rw[hnn,hq]
   rw[hq] at hcells hst
   simp[Builtin.clear_,run_underlying (q6i hT),hzv,hcells,hst]
  have he:(execOp (E.ev ρc) o).run P w=.ok (.value (.tuple #[])) (w.setRow b (q5o cur.toList (lo*k0) (reps z (ds.length-lo))).toArray):=by
   simp only[execOp,ho,resolve,invoke,builtin,Sem.run_bind,Sem.run_pure,Result.andThen_ok,List.map_toArray,List.map_cons,List.map_nil,hrun]
  rw[he]
  have hB:Blk w b eb cur.toList:=by simpa[Blk] using hgbk
  have hc:=z9T w b (q5o cur.toList (lo*k0) (reps z (ds.length-lo))).toArray
  have hb' : Blk (w.setRow b (q5o cur.toList (lo*k0) (reps z (ds.length-lo))).toArray) b eb (q5o cur.toList (lo*k0) (reps z (ds.length-lo))):=setRow_heap w b _ _ eb _ hgbk
  have hcl:(q5A gs).length=ds.length*k0:=hO.1
  have hspl:q5o (q5A gs) (lo*k0) (reps z (ds.length-lo))=(q5A gs).take (lo*k0)++reps z (ds.length-lo):=by
   unfold q5o
   rw[List.drop_eq_nil_of_le (by rw[hlen2,hcl,← Nat.add_mul,show lo+(ds.length-lo)=ds.length by omega];exact Nat.le_refl _),List.append_nil]
  have hst2:=hO.st (w':=w.setRow b (q5o cur.toList (lo*k0) (reps z (ds.length-lo))).toArray) (by rw[h1];rfl) hB (off:=lo*k0) (l:=reps z (ds.length-lo)) (by rw[hlen2,← Nat.add_mul,show lo+(ds.length-lo)=ds.length by omega];exact Nat.le_refl _) hb'
  obtain⟨g',k1,k2⟩:=hs.refill (es:=ds.take lo++List.replicate (ds.length-lo) d) (m:=m) hg hgb (hc.mono fun q _ e=>by rw[hLb];simp[e]) (cs:=q5o (q5A gs) (lo*k0) (reps z (ds.length-lo)))
   ⟨eb,by rw[List.length_append,List.length_take,List.length_replicate,Nat.min_eq_left hlo,show lo+(ds.length-lo)=ds.length by omega];exact hst2,hLv⟩
   (fun hkp=>by rw[hspl];exact ((hrdE.imp (hkp m)).take lo).append (by have:=j5j (hzd (SM F S.B m) (w.setRow b (q5o cur.toList (lo*k0) (reps z (ds.length-lo))).toArray)) (ds.length-lo);rw[hzl] at this;exact this))
  exact⟨F,g',k1,k2,by rw[vr];trivial⟩
end
section
variable {P:Program}[HasTab P]{S:Start}{ops:Array Oper}{Q:AE→St→Prop}{o:Oper}{rest:List Oper}{ρ:AE}{σ:St}{d:Nat}{md:Md2}{T e:Nat}{t te:TI}
theorem z9X {α:Type}{xs:List α}{lo j:Nat}{y:α}(h:xs[lo+j]?=some y):j<xs.length-lo:=by
 have:=(List.getElem?_eq_some_iff.1 h).1
 omega
end
theorem q3O {α:Type}{l:List α}{j:Nat}{x y:α}(h:l[j]?=some x):(l.set j y)[j]?=some y:=by
 have:=(List.getElem?_eq_some_iff.1 h).1
 simp[this]
theorem k5I {α β:Type}{f:α→β}{xs:List α}{j:Nat}{x:α}{l:List β}(h:xs[j]?=some x)(e:l=(xs.map f).set j (f x)):l=xs.map f:=by
 rw[e];exact k5G (q3P h)
theorem eset {α β:Type}{f:α→β}{xs:List α}{j:Nat}{x' : α}{l:List β}(e:l=(xs.map f).set j (f x')):l=(xs.set j x').map f:=by
 rw[e,List.map_set]
theorem fzoM (m:Md)(k:Nat)(xs:List D):fzC (.o m k xs)=true∨m=.bo:=by
 cases m
 ·exact .inl rfl
 ·exact .inr rfl
def upC (m:Md):Cell→Cell
 | .o .fz k xs=>.o m k xs
 | c=>c
theorem k3i {F:Nat→Prop}{B:Nat→Prop}{w:World}{m:Md}{c:Cell}{gc:GC}(h:cellOk (SM F B) w c gc):cellOk (SM F B) w (upC m c) gc:=by
 cases c with
 | o m' k xs=>
  cases m' with
  | fz=>
   obtain⟨h1,h2,cs,h3,h4⟩:=h
   exact⟨h1,h2,cs,h3,h4.mono fun b hb=>by cases m with|fz=>exact hb|bo=>exact .inl hb⟩
  | bo=>exact h
 | _=>exact h
theorem j2p {α β γ:Type}{R:γ→β→Prop}{R' : α→β→Prop}{f:α→γ}(h:∀ a b,R' a b→R (f a) b):∀ {as:List α} {bs:List β},all2 R' as bs→all2 R (as.map f) bs
 | [],_,h'=>h'
 | a::as,_,⟨b,r,h1,h2,h3⟩=>⟨b,r,h1,h a b h2,j2p h h3⟩
theorem k9F {c:Cell}(h:fzC c=true):fzC (upC .fz c)=true:=by
 cases c with
 | o m' k xs=>cases m'<;>first|rfl|exact h
 | _=>exact h
theorem q3F {S:Start}{ρ:AE}{σ:St}{r k:Nat}{es:List (List Cell)}{hh:List (Nat×Nat×Nat)}(m:Md)(hr:fnOf σ r=.deep .fz k es hh):GH S ρ σ ρ (setL σ r (.deep m k (es.map fun e=>e.map (upC m)) hh)):=by
 intro F g w ρc hs hv
 refine⟨F,g,⟨hs.chg,hs.bB,hs.fmono,hs.fnew,hs.flt,fun i=>?_,hs.low,hs.hdr,hs.nodup,hs.disj,hs.own⟩,hv⟩
 rw[q7k]
 by_cases hi:i=r
 ·subst hi
  rw[ifP rfl]
  have h:=hs.roots i
  rw[hr] at h
  revert h
  cases g i<;>intro h<;>try exact h.elim
  obtain⟨⟨h1,h2⟩,h3,h4⟩:=h
  refine⟨⟨h1,?_,?_⟩,h3,fun hm=>?_⟩
  ·have:=h2.1
   rw[lnM];exact this
  ·exact j2p (fun e ge he=>⟨by rw[lnM];exact he.1,j2p (fun c gc hc=>k3i hc) he.2⟩) h2.2
  ·subst hm
   intro e he c hc
   obtain⟨e0,he0,rfl⟩:=List.mem_map.1 he
   obtain⟨c0,hc0,rfl⟩:=List.mem_map.1 hc
   exact k9F (h4 rfl e0 he0 c0 hc0)
 ·rw[ifN hi];exact hs.roots i
theorem q3c {α:Type}{S:Start}{ρ:AE}{σ:St}{k:Nat}{hh:List (Nat×Nat×Nat)}(r:Nat)(m:Md)(f f' : α→List Cell){xs:List α}(hf:∀ x,(f x).map (upC m)=f' x)(hr:fnOf σ r=.deep .fz k (xs.map f) hh:=by rfl):GH S ρ σ ρ (setL σ r (.deep m k (xs.map f') hh)):=by
 have h:=q3F (S:=S) (ρ:=ρ) m hr
 have e:((xs.map f).map fun e=>e.map (upC m))=xs.map f':=by
  rw[List.map_map];exact List.map_congr_left fun x _=>hf x
 rw[e] at h
 exact h
theorem q3G {P:Program}[HasTab P]{S:Start}{ops:Array Oper}{Q:AE→St→Prop}{rest:List Oper}{ρ:AE}{σ:St}{md:Md2}{α:Type}{k:Nat}{hh:List (Nat×Nat×Nat)}(r:Nat)(m:Md)(f f' : α→List Cell){xs:List α}(hf:∀ x,(f x).map (upC m)=f' x)(h:AL P S ops Q (ghM md) rest ρ (setL σ r (.deep m k (xs.map f') hh)))(hr:fnOf σ r=.deep .fz k (xs.map f) hh:=by rfl):AL P S ops Q md rest ρ σ:=AL.gh (q3c r m f f' hf hr) h
section
variable {P:Program}[HasTab P]{S:Start}{n:Nat}{ops:Array Oper}{Q:AE→St→Prop}{QP:q4k}{o:Oper}{rest:List Oper}{ρ:AE}{σ:St}{d:Nat}{md:Md2}{T e:Nat}{t te:TI}{k:Nat}{m:Md}{es:List (List Cell)}{hh:List (Nat×Nat×Nat)}
theorem IEd {x i:Operand}{r:Nat}{m' : Md}{q:IntKind}{j:Int}{y:List Cell}(h0:0≤j)(hj:es[j.toNat]?=some y)(h:AL P S ops Q (q4j md [r] []) rest (updX ρ d (.pe r none j.toNat 0)) σ)(ho:o.op=.indexAddr T x i:=by rfl)(hT:(HasTab.tab P).get T=some t:=by rfl)(he:t.el=some e:=by rfl)(hE:(HasTab.tab P).get e=some te:=by rfl)(hx:evX ρ x=.ref r none:=by rfl)(hσ:fnOf σ r=.deep m te.sz es hh:=by rfl)(hi:evX ρ i=.d m' (.i q j):=by rfl)(hd:o.dst=some d:=by rfl)(hg:q3Z ops ρ o=some true:=by rfl):AL P S ops Q md (o::rest) ρ σ:=
 q0g (q0X ho (q4a hT he hE).1 (q4a hT he hE).2 hx (by rw[hσ];rfl) hi h0 hj) h hd hg
theorem AL.out (r j c q:Nat){el:List Cell}{cell:Cell}{x:Root}(hj:es[j]?=some el)(h:AL P S ops Q (ghM md) rest ρ (setL (setL σ r (.deep m k (es.set j (spl el c [.u])) ((j,c,q)::hh))) q x))(hσ:fnOf σ r=.deep m k es hh:=by rfl)(hc:el[c]?=some cell:=by rfl)(hx:OC cell x:=by first|exact .row|exact .flatM (fun _=>rfl)|exact .ownM)(hq:fnOf σ q=.none:=by rfl):AL P S ops Q md rest ρ σ:=AL.gh (GH.out hσ hj hc hx hq) h
theorem q0r (r:Nat){es' : List (List Cell)}(hσ:fnOf σ r=.deep m k es hh:=by rfl)(he:es=es')(h:AL P S ops Q (ghM md) rest ρ (setL σ r (.deep m k es' hh))):AL P S ops Q md rest ρ σ:=AL.gh (q0Q hσ he) h
theorem q3H {α:Type}(r:Nat)(f:α→List Cell)(h:AL P S ops Q (ghM md) rest ρ (setL σ r (.deep m k (([]:List α).map f) [])))(hσ:fnOf σ r=.row m k []:=by rfl):AL P S ops Q md rest ρ σ:=AL.gh (q0F hσ rfl) h
theorem q3I {c0:Code}(r:Nat){es' : List (List Cell)}(hσ:fnOf σ r=.deep m k es hh:=by rfl)(he:es=es')(h:AW P S n c0 QP ρ (setL σ r (.deep m k es' hh))):AW P S n c0 QP ρ σ:=AW.gh (q0Q hσ he) h
theorem q0m {S:Start}{ρ:AE}{σ:St}(r j c q:Nat){el:List Cell}{cell:Cell}(hj:es[j]?=some el)(hσ:fnOf σ r=.deep m k es hh:=by rfl)(hc:Nat.blt c el.length=true:=by rfl)(hm:(j,c,q)∈hh:=by first|exact List.mem_cons_self|simp)(hx:MC (fnOf σ q) cell:=by first|exact .row|exact .flatM (fun _=>rfl)|exact .ownM)(hf:fzC cell=true∨m=.bo:=by first|exact .inl rfl|exact fzoM _ _ _)(hqr:Nat.beq q r=false:=by rfl) :
  GH S ρ σ ρ (setL (setL σ r (.deep m k (es.set j (spl el c [cell])) (hsK hh c 1))) q .dead):=q3C hσ hj hc hm hx hf hqr
theorem q0k {S:Start}{ρ:AE}{σ:St}(r:Nat){es' : List (List Cell)}(hσ:fnOf σ r=.deep m k es hh:=by rfl)(he:es=es'):GH S ρ σ ρ (setL σ r (.deep m k es' hh)):=q0Q hσ he
theorem q0x {α:Type}{S:Start}{ρ:AE}{σ:St}(r:Nat)(f:α→List Cell)(hσ:fnOf σ r=.row m k []:=by rfl):GH S ρ σ ρ (setL σ r (.deep m k (([]:List α).map f) [])):=q0F hσ rfl
theorem LPd {x:Operand}{r j c:Nat}{el:List Cell}{cell:Cell}{y:X}(hx' : List (Nat×Nat))(hj:es[j]?=some el)(h:AL P S ops Q (q4j md [r] []) rest (updX ρ d y) σ)(ho:o.op=.load T x:=by rfl)(hT:(HasTab.tab P).get T=some t:=by rfl)(ha:t.agg=false:=by rfl)(hx:evX ρ x=.pe r none j c:=by rfl)(hσ:fnOf σ r=.deep m k es hh:=by rfl)(hhx:hh=hx'.map (fun p=>(j,p.1,p.2)):=by rfl)(hc:el[c]?=some cell:=by rfl)(hy:j3L hx' c cell=some y:=by rfl)(hd:o.dst=some d:=by rfl)(hg:q3Z ops ρ o=some true:=by rfl):AL P S ops Q md (o::rest) ρ σ:=
 q0g (q0W (hx':=hx') (p:=(k,es)) ho (by rw[TI.agg' (Tab.chk HasTab.ok hT),ha]) hx (by rw[hσ];rfl) hj hc (.inr ⟨m,k,es,by rw[hσ,hhx]⟩) hy) h hd hg
theorem SD {x y:Operand}{Y:X}{r j c:Nat}{el:List Cell}(cells:List Cell)(qs:List Nat)(hj:es[j]?=some el)(h:AL P S ops Q (q4j md [] (r::qs)) rest ρ (owrL σ ((r,.deep m k (es.set j (spl el c cells)) (hsK hh c t.sz))::qs.map fun q=>(q,.dead))))(ho:o.op=.store T x y:=by rfl)(hT:(HasTab.tab P).get T=some t:=by rfl)(hx:evX ρ x=.pe r none j c:=by rfl)(hσ:fnOf σ r=.deep m k es hh:=by rfl)(hy:evX ρ y=Y:=by rfl)
  (hn:NC (fnOf σ) m Y.cells cells qs:=by repeat (first|exact .nil|refine .d (.inl rfl) ?_|refine .nlo (m':=.fz) ?_|refine .ref .row (.inl rfl) ?_|refine .ref .row (fzoM _ _ _) ?_|refine .nlw (m':=.fz) ?_|refine .ref (MC.flatM (fun _=>rfl)) (.inl rfl) ?_|refine .ref MC.ownM (.inl rfl) ?_)) (hl:Y.cells.length=t.sz:=by rfl) (hf:Nat.ble (c+t.sz) k=true:=by rfl) (hnd:z5S (r::qs)=true:=by rfl) (hs:z4J (fnOf σ) Y=true:=by rfl) (hd:o.dst=none:=by rfl) (hg:q3Z ops ρ o=some true:=by rfl):AL P S ops Q md (o::rest) ρ σ:=by
 refine q0D (q2p ho (TI.sz' (Tab.chk HasTab.ok hT)) hx hσ hj hy hn hl hf hnd hs) ?_ hd hg
 have e:((r,Root.deep m k (es.set j (spl el c cells)) (hsK hh c t.sz))::qs.map fun q=>(q,Root.dead)).map (·.1)=r::qs:=by
  rw[List.map_cons,List.map_map];exact congrArg _ (List.map_id _)
 rw[e];exact h
theorem APD {α:Type}{f:α→List Cell}{s x:Operand}{xs ys:List α}{zs:List X}{r r2 b1:Nat}(r' : Nat)(B:Nat)(hmax:((xs.length:Int)+(ys.length:Int))*(B:Int)≤140737488355328∧(xs.length:Int)+(ys.length:Int)≤9223372036854775807)(h:AL P S ops Q (q4j md [] [r,r2,r']) rest (updX ρ d (.ref r' none)) (owrL σ [(r,.dead),(r2,.dead),(r',.deep m te.sz ((xs++ys).map f) [])]))
  (ho:o.op=.call { callee:=.builtin .append,args:=#[s,x],argTypes:=#[T,T] }:=by rfl) (hT:(HasTab.tab P).get T=some t:=by rfl) (he:t.el=some e:=by rfl) (hE:(HasTab.tab P).get e=some te:=by rfl) (hs:evX ρ s=.ref r none:=by rfl) (hx:evX ρ x=.ref r2 none:=by rfl) (hσ:fnOf σ r=.deep m te.sz (xs.map f) []:=by rfl) (hσ2:fnOf σ r2=.deep m te.sz (ys.map f) []:=by rfl) (hz:te.z=some zs:=by rfl) (hb:te.by_=b1+1:=by rfl) (hzl:zs.length=te.sz:=by rfl) (hk0:Nat.blt 0 te.sz=true:=by rfl) (hr:fnOf σ r'=.none:=by rfl) (hne:Nat.beq r r2=false:=by rfl) (hB:te.by_=B:=by rfl) (hd:o.dst=some d:=by rfl) (hg:q3Z ops ρ o=some true:=by rfl):AL P S ops Q md (o::rest) ρ σ:=by
 obtain⟨z,h1,h2⟩:=TI.z' (Tab.chk HasTab.ok hE) hz
 refine q0g (q2U (r':=r') ho (q4a hT he hE).1 (q4a hT he hE).2 (TI.by' (Tab.chk HasTab.ok hE) hb) h1 (by rw[← hzl,← (h2 (fun _ _=>True) default (fun _=>.none)).len]) hk0 hs hσ hx hσ2 ?_ ?_ hr hne) (by rw[← List.map_append];exact h) hd hg
 ·simp only[lnM]
  have:=hmax.1
  rw[hB,← Int.natCast_add,← Int.natCast_mul] at *
  omega
 ·simp only[lnM]
  show _≤9223372036854775807
  have:=hmax.2
  omega
end
theorem q2q {α:Type}{S:Start}{ρ:AE}{σ:St}{k:Nat}{m:Md}{f:α→List Cell}{xs:List α}(r:Nat)(D0:α→D)(hf:∀ x,DR (f x) (D0 x))(h:fnOf σ r=.deep m k (xs.map f) []):GH S ρ σ (fun t=>frX r m k (xs.map D0) (ρ t)) (frS r m k (xs.map D0) 0 σ):=q0C (DA hf h)
section
variable {P:Program}[HasTab P]{S:Start}{n:Nat}{ops:Array Oper}{Q:AE→St→Prop}{QP:q4k}{rest:List Oper}{ρ:AE}{σ:St}{md:Md2}{k:Nat}{m:Md}
theorem q3J {α:Type}{f:α→List Cell}{xs:List α}(r:Nat)(D0:α→D)(hf:∀ x,DR (f x) (D0 x))(hσ:fnOf σ r=.deep m k (xs.map f) [])(h:AL P S ops Q (ghM md) rest (fun t=>frX r m k (xs.map D0) (ρ t)) (frS r m k (xs.map D0) 0 σ)):AL P S ops Q md rest ρ σ:=AL.gh (q2q r D0 hf hσ) h
theorem q0I {α:Type}{f:α→List Cell}{xs:List α}{c:Code}(r:Nat)(D0:α→D)(hf:∀ x,DR (f x) (D0 x))(hσ:fnOf σ r=.deep m k (xs.map f) [])(h:AW P S n c QP (fun t=>frX r m k (xs.map D0) (ρ t)) (frS r m k (xs.map D0) 0 σ)):AW P S n c QP ρ σ:=AW.gh (q2q r D0 hf hσ) h
theorem q3d {α:Type}{c:Code}{f:α→List Cell}{xs:List α}{hh:List (Nat×Nat×Nat)}(r:Nat)(hr:fnOf σ r=.deep m k (xs.map f) hh)(h:(xs.length:Int)≤9223372036854775807→AW P S n c QP ρ σ):AW P S n c QP ρ σ:=q2i hr fun h1=>h (by simpa using h1)
end
theorem enr3 {β:Type}{l:List β}{j:Nat}{z a b c:β}(h:b=c):((l.set j z).set j a).set j b=l.set j c:=by rw[List.set_set,List.set_set,h]
theorem j7l {ge:List GC}:∀ n,q5A (List.replicate n ge)=reps (ge.map (·.val)) n
 | 0=>rfl
 | n+1=>by rw[List.replicate_succ,q7a,j7l n];rfl
theorem k3j {ge:List GC}(h:ge.flatMap (·.L)=[]):∀ n,gbl (List.replicate n ge)=[]
 | 0=>rfl
 | n+1=>by rw[List.replicate_succ,z1H,h,k3j h n];rfl
theorem all2.rep {α β:Type}{R:α→β→Prop}{a:α}{b:β}(h:R a b):∀ n,all2 R (List.replicate n a) (List.replicate n b)
 | 0=>rfl
 | n+1=>⟨b,_,rfl,h,all2.rep h n⟩
theorem q3K {P:Program}{S:Start}{ρ:AE}{σ:St}{o:Oper}{T e k b r:Nat}{z:List Value}{zs:List X}{cells:List Cell}{l c:Operand}{m1 m2:Md}{q q' : IntKind}{j:Int}(ho:o.op=.makeSlice T l c)(hT:q7O P T=some e)(hk:szT P e=some k)(hb:byT P e=some b)(hz:z3P P e=some z)(hzk:z.length=k)(hl:evX ρ l=.d m1 (.i q j))(hc:evX ρ c=.d m2 (.i q' j))
  (hzs:∀ S1 w g,vrs S1 w g zs z) (hn:NC (fnOf σ) .fz zs cells []) (h0:0≤j) (hm:j≤9223372036854775807) (hbm:(b:Int)*j≤281474976710656) (hr:fnOf σ r=.none):LT P S o ρ σ [] (.ref r none) [(r,.deep .fz k (List.replicate j.toNat cells) [])]:=by
 intro σ1 F g w ρc hs _ hwr hv
 have hr1:σ1 r=.none:=(hwr (r,_) (List.mem_singleton.2 rfl)).trans hr
 obtain⟨i,v,hi,hik,hib,hiv,hvc⟩:=j5f hk hb hz
 have hrun:=run_make (P:=P) (w:=w) T e i v (q6i hT) hi hiv q q' j j h0 (Int.le_refl _) (by rw[hib];exact hbm) hm
 have hcells:madeCells v.cells (j.toNat*i.size)=(reps z j.toNat).toArray:=by
  have:=z4p v.cells j.toNat
  rw[hvc] at this ⊢
  simp only[List.size_toArray,hzk] at this
  rw[hik]
  simpa using this
 have e1:=hv l (by simp[ho,Op.operands])
 have e2:=hv c (by simp[ho,Op.operands])
 rw[hl,vr,rdC] at e1
 rw[hc,vr,rdC] at e2
 have he:(execOp (E.ev ρc) o).run P w=.ok (.value (.slice (some ⟨w.heap.size,0,none⟩) j.toNat j.toNat)) (w.alloc (.cells (reps z j.toNat).toArray e)):=by
  rw[hcells] at hrun
  simp only[execOp,ho,e1,e2,Sem.run_bind,hrun,Result.andThen_ok,Sem.run_pure]
 rw[he]
 have hx:=Ext.alloc w (.cells (reps z j.toNat).toArray e)
 obtain⟨news,n1,n2,n3,n4,n5⟩:=(hn.congr (σ1:=σ1) fun q hq=>by cases hq).ok hs (hzs (SM F S.B) w g)
 have hlen:(reps z j.toNat).length=j.toNat*k:=by rw[z3f,hzk]
 have hbk:=z0j w e (reps z j.toNat)
 have hg1:q5A (List.replicate j.toNat news)=reps z j.toNat:=by rw[j7l,n2]
 have hg2:gbl (List.replicate j.toNat news)=[]:=k3j (by simpa using n3) _
 have hLn:∀ b,b∈news.flatMap (·.L)→False:=fun b hb=>by rw[n3] at hb;cases hb
 have hnl:news.length=k:=by rw[← hzk,← n2,lnM]
 have hkp:∀ m b o cs,SM F S.B m b→b<w.heap.size→At w b o cs→SM F S.B m b∧b<(w.alloc (.cells (reps z j.toNat).toArray e)).heap.size∧At (w.alloc (.cells (reps z j.toNat).toArray e)) b o cs:=fun m b o cs hb hlt hat=>⟨hb,Nat.lt_of_lt_of_le hlt hx.size,hat.frame' fun hl=>hx.block b hl fun h=>h⟩
 obtain⟨h4,h5⟩:=hs.new (r:=r) (x:=.deep .fz k (List.replicate j.toNat cells) []) (y:=.row (.slice (some ⟨w.heap.size,0,none⟩) j.toNat j.toNat) k [w.heap.size] (List.replicate j.toNat news)) hr1 hx (fun _ _=>by
   refine⟨⟨rfl,⟨e,⟨?_,.inr ⟨w.heap.size,j.toNat,(reps z j.toNat).toArray,by simp,Nat.zero_le _,hbk,by simp,by show _≤9223372036854775807;omega,by simpa using hlen,?_⟩⟩,by simp[Value.ownBlock]⟩,all2.rep ⟨by rw[← n1.len,hnl],cellOk.keepL hkp n1 fun b_ hb_=>(hLn b_ hb_).elim⟩ _⟩,holesOk.nil,fun _=>?_⟩
   ·rw[hg1,hlen];simp
   ·rw[hg1];simp only[List.length_replicate,List.toList_toArray,Nat.zero_mul,List.drop_zero];rw[← hlen,List.take_length]
   ·intro x hxe c hce
    rw[List.eq_of_mem_replicate hxe] at hce;exact n5 rfl _ hce)
  (by simp[bl,hg2]) (by simp only[bl,hg2,List.append_nil,List.mem_singleton];rintro b rfl;exact⟨Nat.le_refl _,hbk.lt⟩)
 refine⟨F,_,h4,h5,?_⟩
 rw[vr]
 simp only[if_true]
 intro u q hu
 simp only[G.at] at hu
 cases hu
 rfl
section
variable {P:Program}[HasTab P]{S:Start}{n:Nat}{ops:Array Oper}{Q:AE→St→Prop}{QP:q4k}{o:Oper}{rest:List Oper}{ρ:AE}{σ:St}{d:Nat}{md:Md2}{T e:Nat}{t te:TI}{k:Nat}{m:Md}
theorem MKW {α:Type}{f:α→List Cell}{l c:Operand}{m1 m2:Md}{q q' : IntKind}{j:Int}{zs:List X}{b1:Nat}(r:Nat)(z:α)(h0:0≤j)(hbm:j*(te.by_:Int)≤281474976710656)(hm:j≤9223372036854775807)(h:AL P S ops Q (q4j md [] [r]) rest (updX ρ d (.ref r none)) (setL σ r (.deep .fz te.sz ((List.replicate j.toNat z).map f) [])))(ho:o.op=.makeSlice T l c:=by rfl)(hT:(HasTab.tab P).get T=some t:=by rfl)(he:t.el=some e:=by rfl)(hE:(HasTab.tab P).get e=some te:=by rfl)(hz:te.z=some zs:=by rfl)(hb:te.by_=b1+1:=by rfl)(hzl:zs.length=te.sz:=by rfl)(hl:evX ρ l=.d m1 (.i q j):=by rfl)(hc:evX ρ c=.d m2 (.i q' j):=by rfl)(hn:NC (fnOf σ) .fz zs (f z) []:=by repeat (first|exact .nil|refine .d (.inl rfl) ?_|refine .nlw (m':=.fz) ?_|refine .nlo (m':=.fz) ?_))(hr:fnOf σ r=.none:=by rfl)(hd:o.dst=some d:=by rfl)(hg:q3Z ops ρ o=some true:=by rfl):AL P S ops Q md (o::rest) ρ σ:=by
 obtain⟨z0,h1,h2⟩:=TI.z' (Tab.chk HasTab.ok hE) hz
 exact q0g (q3K ho (q4a hT he hE).1 (q4a hT he hE).2 (TI.by' (Tab.chk HasTab.ok hE) hb) h1 (by rw[← hzl,← (h2 (fun _ _=>True) default (fun _=>.none)).len]) hl hc h2 hn h0 hm (by rw[Int.mul_comm];exact hbm) hr) (by rw[List.map_replicate] at h;exact h) hd hg
omit [HasTab P] in
end
section
variable {S:Start}{F:Nat→Prop}{g:Nat→G}{w:World}{σ1:Nat→Root}
theorem Sim.frz (hs:Sim S F g σ1 w){r:Nat}{m:Md}{k:Nat}{xs:List D}(hr1:σ1 r=.row m k xs):∃ F' g',Sim S F' g' (fun i=>if i=r then .dead else σ1 i) w∧Pres S.B F g w F' g' w∧∀ x v,vr (SM F S.B) w g x v→vr (SM F' S.B) w g' (frX r m k xs x) v:=by
 obtain⟨v,L,gs,cs,hg,hown,hrd,hLb⟩:=j5k hs (.row hr1 rfl)
 let F' : Nat→Prop:=fun b=>F b∨b∈bl (g r)
 have hF:∀ b,F b→F' b:=fun b hb=>.inl hb
 have up:∀ m b,SM F S.B m b→SM F' S.B m b:=fun m b hb=>by
  cases m with
  | fz=>exact .inl hb
  | bo=>exact hb.imp .inl id
 have hL' : ∀ b∈bl (g r),SM F' S.B m b:=fun b hb=>by
  cases m with
  | fz=>exact .inr hb
  | bo=>exact .inl (.inr hb)
 have hrd' : rdE (SM F' S.B m) w k xs cs:=hrd.mono fun b hb=>by
  rcases hb with hb|⟨q,hq,hb⟩
  ·exact up m b hb
  ·rw[List.mem_singleton] at hq;subst hq;exact hL' b hb
 have hd:rdC (SM F' S.B m) w (.sl k xs) v:=j5l hown hrd' fun b hb=>hL' b (hLb b hb)
 have hpart:∀ lo n v',j0G v k lo n v'→rdC (SM F' S.B m) w (.sl k ((xs.drop lo).take n)) v':=fun lo n v' hp=>j5m hown hrd' (fun b hb=>hL' b (hLb b hb)) hp
 have hlt:∀ b,F' b→b<w.heap.size:=fun b hb=>hb.elim (hs.flt b) fun hb=>(hs.own r b hb).1
 have ha:∀ q,Adv (g q) ((fun i=>if i=r then .dead else g i) q):=fun q=>by
  by_cases hq:q=r
  ·subst hq
   simp only[if_true]
   rw[hg];exact .inl rfl
  ·simp only[ifN hq];exact Adv.refl _
 have hp:∀ {x:X} {v:Value},vr (SM F S.B) w g x v→vr (SM F' S.B) w (fun i=>if i=r then .dead else g i) x v:=fun h=>h.adv (fun m b o cs h1 h2 h3=>⟨up m b h1,h2,h3⟩) ha
 have hps:∀ {x:List X} {v:List Value},vrs (SM F S.B) w g x v→vrs (SM F' S.B) w (fun i=>if i=r then .dead else g i) x v:=fun h=>h.adv (fun m b o cs h1 h2 h3=>⟨up m b h1,h2,h3⟩) ha
 refine⟨F',fun i=>if i=r then .dead else g i,⟨hs.chg,hs.bB,fun b hb=>.inl (hs.fmono b hb),fun b hb=>?_,hlt,fun i=>?_,hs.low,fun i=>?_,fun i=>?_,fun i j hij b hb=>?_,fun i b hb=>?_⟩,fun x v h=>hp h,fun x v h=>k0z hg hF hd hpart h⟩
 ·rcases hb with hb|hb
  ·exact hs.fnew b hb
  ·exact .inr (hs.own r b hb).2.2.2
 ·by_cases hi:i=r
  ·subst hi
   simp only[if_true];trivial
  ·simp only[ifN hi]
   have h1:=hs.roots i
   revert h1
   cases σ1 i<;>intro h1<;>cases hgi:g i<;>rw[hgi] at h1<;>try exact h1.elim
   ·trivial
   ·trivial
   ·obtain⟨vs,h2,h3⟩:=h1
    exact⟨vs,h2,hps h3⟩
   ·exact⟨h1.1,z2B h1.2 up⟩
   ·exact⟨⟨h1.1.1,z2B h1.1.2 up⟩,h1.2.1.adv ha,h1.2.2⟩
 ·by_cases hi:i=r
  ·subst hi
   simp only[if_true]
   have:=hs.hdr i
   rw[hg] at this
   revert this
   cases S.g0 i<;>intro h
   ·trivial
   ·cases h
   ·rcases h with h|h<;>cases h
   ·exact .inl rfl
  ·simp only[ifN hi];exact hs.hdr i
 ·by_cases hi:i=r
  ·simp only[ifP hi,bl];exact List.nodup_nil
  ·simp only[ifN hi];exact hs.nodup i
 ·by_cases hi:i=r
  ·simp only[ifP hi,bl] at hb;cases hb
  ·simp only[ifN hi] at hb
   by_cases hj:j=r
   ·simp only[ifP hj,bl];exact List.not_mem_nil
   ·simp only[ifN hj];exact hs.disj i j hij b hb
 ·by_cases hi:i=r
  ·simp only[ifP hi,bl] at hb;cases hb
  ·simp only[ifN hi] at hb
   obtain⟨h1,h2,h3,h4⟩:=hs.own i b hb
   refine⟨h1,fun hf=>?_,h3,h4⟩
   rcases hf with hf|hf
   ·exact h2 hf
   ·exact hs.disj i r hi b hb hf
end
section
variable {P:Program}[HasTab P]{S:Start}{ops:Array Oper}{Q:AE→St→Prop}{o:Oper}{rest:List Oper}{ρ:AE}{σ:St}{d:Nat}{md:Md2}
theorem j5u:∀ (wr:List (Nat×Root)) (σ:Nat→Root) (r:Nat) (x:Root),owr σ (wr++[(r,x)])=fun i=>if i=r then x else owr σ wr i
 | [],σ,r,x=>rfl
 | (i,y)::l,σ,r,x=>by rw[List.cons_append,owr,j5u l,owr]
theorem z9Y {P:Program}{R R' : Value→World→Prop}(hR:∀ v w,R v w→R' v w):∀ {x:Result Next},j1V P R x→j1V P R' x:=by
 intro x h
 cases x with
 | ok n w=>
  cases n with
  | value u=>exact hR _ _ h
  | skip=>exact hR _ _ h
  | enter f args=>exact Calls.mono h fun e w' ⟨v,h1,h2⟩=>⟨v,h1,hR _ _ h2⟩
  | _=>exact h.elim
 | _=>exact h.elim
theorem LT.frz {rd:List Nat}{v:X}{wr:List (Nat×Root)}{r:Nat}{m:Md}{k:Nat}{xs:List D}(h:LT P S o ρ σ rd v wr)(hr:∀ σ1,owr σ1 wr r=.row m k xs):LT P S o ρ σ rd (frX r m k xs v) (wr++[(r,.dead)]):=by
 intro σ1 F g w ρc h1 h2 h3 h4
 refine z9Y ?_ (h σ1 F g w ρc h1 h2 (fun p hp=>h3 p (by simp[hp])) h4)
 rintro vc w' ⟨F',g',h5,h6,h7⟩
 obtain⟨F2,g2,k1,k2,k3⟩:=h5.frz (hr σ1)
 exact⟨F2,g2,by rw[j5u];exact k1,fun x v hx=>k2 x v (h6 x v hx),k3 _ _ h7⟩
theorem CBz {m:Md}{k:Nat}{xs:List D}{f:Nat}{c:Call}{x:Operand}{caps axs args:List X}{pre post:St}{res:X}(r:Nat)(ren:List (Nat×Nat))(vw:List Nat)(ok:Ok P f args pre res post)(h:AL P S ops Q (q4j md vw (((ren.map fun (p:Nat×Nat)=>(p.2,z2q ren (fnOf post p.1)))++[(r,Root.dead)]).map (·.1))) rest (updX ρ d (frX r m k xs (renX ren res))) (owrL σ ((ren.map fun (p:Nat×Nat)=>(p.2,z2q ren (fnOf post p.1)))++[(r,Root.dead)])))
  (ho:o.op=.call c:=by rfl) (hc:c.callee=.value x:=by rfl) (hx:evX ρ x=.fn f caps:=by rfl) (hcb:q7B P f=true:=by kernel_rfl) (ha:c.args.toList.map (evX ρ)++caps=axs:=by rfl) (hp:PassL (fnOf σ) ren vw axs args:=by repeat (first|exact .nil|refine .cons ?_ ?_|exact .same|exact .ag (.cons .same (.cons .same .nil))|refine .ag ?_|exact .d rfl|exact .d z5T|exact .nld|exact .nl|exact .rd rfl rfl|exact .vd rfl rfl|exact .pb rfl|exact .ref rfl|refine .fn ?_|exact .pf rfl|exact .pf z5T|exact .dd (DA (by exact fun _=>rfl) rfl) rfl|exact .dd (DA OwD.rd rfl) rfl|(refine .dd (DAh (x:=?x) OwD.rd ?hx0 rfl rfl rfl ?he0) rfl;(case hx0=>assumption);(case he0=>rfl))|exact .u))
  (hpre:PreL (fnOf σ) (fnOf pre) ren ren:=by repeat (first|exact trivial|refine And.intro rfl ?_)) (hchk:z8V ren vw pre post res=true:=by rfl) (hz:∀ σ1,owr σ1 (ren.map fun p=>(p.2,z2q ren (fnOf post p.1))) r=.row m k xs:=by exact fun _=>rfl) (hd:o.dst=some d:=by rfl) (hg:q3Z ops ρ o=some true:=by rfl):AL P S ops Q md (o::rest) ρ σ:=
 q0g ((q0B ren vw ho hc hx hcb ha ok hp hpre hchk).frz hz) h hd hg
end
theorem q0j {S:Start}{ρ:AE}{σ:St}{n0:Nat}(hS:S.n0=n0)(l:List (Nat×Nat))(n:Nat){L:List (Nat×X)}{σt:St}(hL:WkR l ρ L:=by repeat (first|exact trivial|refine And.intro (.of (by kernel_rfl)) ?_))(hσ:renS l n σ=σt:=by kernel_rfl)(hc:j5t l n0 n σ=true:=by kernel_rfl):GH S ρ σ (ofX L) σt:=GH.ren hS l n hL hσ hc
theorem Sim.begin0 (w:World):Sim (j6X w (fun b=>b<w.heap.size) (fun _=>False) (fun _=>.none) 0) (fun b=>b<w.heap.size) (fun _=>.none) (fnOf []) w where
 chg:=Chg.refl w
 bB b h:=h.elim
 fmono b h:=h
 fnew b h:=.inl h
 flt b h:=h
 roots i:=trivial
 low i _:=rfl
 hdr i:=trivial
 nodup i:=List.nodup_nil
 disj i j _ b h:=by cases h
 own i b h:=by cases h
def OpD (P:Program)(T:TypeId)(k:Nat){α:Type}(l:α→List D)(N:Nat):Prop:=
 P.cellsOf T=k∧0<k∧∀ (H:Type) (enc:TypeId×Value→H) (w:World) (base:Nat) (spare:Nat→Bool) (held:Bool) (fuel:Nat) (cs:List Value) (x:DataW H×List MemPlace),
  fuel<N→DataW.trod enc P w base spare held fuel T cs=some x→∃ a:α,rdCs (fun b=>b<w.heap.size) w (l a) cs
section
variable {P:Program}{T e:TypeId}{α:Type}{N:Nat}
theorem z8Z {S:Nat→Prop}{w:World}{x:D}{v:Value}(h:rdC S w x v):rdCs S w [x] [v]:=z8P.2 ⟨v,rfl,h⟩
theorem OpD.int (hc:P.cellsOf T=1)(ht:P.underlying T=some (.int .i64)):OpD P T 1 (fun n:Int=>[.i .i64 n]) N:=by
 refine⟨hc,by decide,fun H enc w base spare held fuel cs x _ h=>?_⟩
 obtain⟨n,rfl,_,hw⟩:=DataW.trod_int ht h
 exact⟨n,z8Z (by rw[rdC];exact⟨rfl,bounds_i64 hw⟩)⟩
theorem OpD.str (hc:P.cellsOf T=1)(ht:P.underlying T=some .string):OpD P T 1 (fun n:ByteArray=>[.s n]) N:=by
 refine⟨hc,by decide,fun H enc w base spare held fuel cs x _ h=>?_⟩
 obtain⟨s,rfl,_,hw⟩:=DataW.trod_string ht h
 exact⟨s,z8Z (by rw[rdC];exact⟨rfl,hw⟩)⟩
theorem OpD.bool (hc:P.cellsOf T=1)(ht:P.underlying T=some .bool):OpD P T 1 (fun n:Bool=>[.b n]) N:=by
 refine⟨hc,by decide,fun H enc w base spare held fuel cs x _ h=>?_⟩
 obtain⟨s,rfl,_⟩:=DataW.trod_bool ht h
 exact⟨s,z8Z (by rw[rdC])⟩
theorem OpD.slice {k:Nat}{l:α→List D}{f:α→D}(he:OpD P e k l N)(hc:P.cellsOf T=1)(ht:P.underlying T=some (.slice e))(hf:∀ x,(f x).cells=l x):OpD P T 1 (fun xs:List α=>[.sl k (xs.map f)]) N:=by
 refine⟨hc,by decide,fun H enc w base spare held fuel cs x hN h=>?_⟩
 rcases DataW.trod_slice ht h with ⟨rfl,_⟩|⟨a,len,cap,elems,rest,n,rfl,rfl,_,_,hl,hm,hlen0,hel,_⟩
 ·exact⟨[],z8Z (by rw[List.map_nil,rdC];exact⟨none,0,[],rfl,Nat.le_refl _,Nat.zero_le _,by rw[rdE],.inl rfl⟩)⟩
 obtain⟨b,o,sp⟩:=a
 have key:∀ j,j≤len→∃ (xs:List α) (cells:List Value),xs.length=j∧rdE (fun b=>b<w.heap.size) w k (xs.map f) cells∧(j=0∨sp=none)∧∀ j v,cells[j]?=some v→w.cell? ⟨b,o+j,none⟩=some v:=by
  intro j
  induction j with
  | zero=>intro _;exact⟨[],[],rfl,by rw[List.map_nil,rdE],.inl rfl,by simp⟩
  | succ j ih=>
   intro hk
   obtain⟨xs,cells,h1,h2,h3,h4⟩:=ih (by omega)
   have hek:=hel j (by omega)
   rw[List.getElem?_eq_getElem (by omega)] at hek
   obtain⟨cs',hcs,htr⟩:=Option.bind_eq_some_iff.1 hek
   obtain⟨y,hy⟩:=he.2.2 H enc w base spare held n cs' _ (by omega) htr
   rw[he.1] at hcs
   obtain⟨_,hlen,hat0⟩:=World.cells?_some hcs
   have hp:=he.2.1
   have hsp:sp=none:=by
    rcases h3 with rfl|h3
    ·have h0:=hat0 0 hp
     rw[List.getElem?_eq_getElem (by omega)] at h0
     simp only[Nat.zero_mul,Addr.add,if_true] at h0
     cases sp with
     | none=>rfl
     | some f=>
      exfalso
      unfold World.cell? at h0
      split at h0
      ·simp at h0
      ·cases h0
    ·exact h3
   subst hsp
   have hadd:Addr.add ⟨b,o,none⟩ (j*k)=⟨b,o+j*k,none⟩:=by
    unfold Addr.add;split
    ·next h0=>rw[h0];rfl
    ·rfl
   rw[hadd] at hcs
   obtain⟨_,hat⟩:=At.ofCells hcs
   have hcl:=h2.len
   rw[lnM,h1] at hcl
   refine⟨xs++[y],cells++cs',by simp[h1],by rw[List.map_append];exact h2.append (rdE.single (by rw[rd1,hf];exact hy) hlen),.inr rfl,fun i v hj=>?_⟩
   by_cases hjc:i<cells.length
   ·rw[List.getElem?_append_left hjc] at hj;exact h4 i v hj
   ·rw[List.getElem?_append_right (by omega)] at hj
    have:=hat _ v hj
    rw[← this];congr 2
    omega
 obtain⟨xs,cells,h1,h2,h3,h4⟩:=key len (Nat.le_refl _)
 subst h1
 refine⟨xs,z8Z ?_⟩
 rw[rdC]
 refine⟨_,cap,cells,by rw[lnM],by rw[lnM];exact hl,hm,h2,?_⟩
 rcases h3 with h3|rfl
 ·exact .inl (by rw[List.eq_nil_of_length_eq_zero h3];rfl)
 ·cases xs with
  | nil=>exact .inl rfl
  | cons x xs=>
   have hcl:=h2.len
   have hk:=he.2.1
   have hpos:0<cells.length:=by
    rw[hcl,lnM,lnC,Nat.add_mul];omega
   have hlt:b<w.heap.size:=At.lt (b:=b) (o:=o) (cs:=cells) (j:=0) h4 (List.getElem?_eq_getElem hpos)
   exact .inr ⟨b,o,rfl,hlt,hlt,h4⟩
def OpFs (P:Program)(fs:Array Field)(N j off k:Nat){γ:Type}(L:γ→List D):Prop:=
 ∀ (H:Type) (enc:TypeId×Value→H) (w:World) (base:Nat) (spare:Nat→Bool) (held:Bool) (n:Nat) (cs:List Value) (xs:List (DataW H×List MemPlace)),n<N→xs.length=fs.size →
  (∀ (i:Nat) (f:Field),fs[i]?=some f→DataW.trod enc P w base spare held n f.type ((cs.drop f.offset).take (P.cellsOf f.type))=xs[i]?)→∃ c:γ,rdCs (fun b=>b<w.heap.size) w (L c) ((cs.drop off).take k)
theorem OpFs.nil {fs:Array Field}{j off:Nat}:OpFs P fs N j off 0 (fun _:Unit=>[]):=fun _ _ _ _ _ _ _ _ _ _ _ _=>⟨(),by rw[rdCs];rfl⟩
theorem OpFs.cons {fs:Array Field}{f:Field}{t j off kf k:Nat}{γ:Type}{l:α→List D}{L:γ→List D}(he:OpD P t kf l N)(h:OpFs P fs N (j+1) (off+kf) k L)(hi:fs[j]?=some f:=by rfl)(ht:f.type=t:=by rfl)(ho:f.offset=off:=by rfl):OpFs P fs N j off (kf+k) (fun p:α×γ=>l p.1++L p.2):=by
 intro H enc w base spare held n cs xs hN hlen hf
 obtain⟨c,hc⟩:=h H enc w base spare held n cs xs hN hlen hf
 have h:=hf j f hi
 have hix:j<xs.length:=by rw[hlen];exact (Array.getElem?_eq_some_iff.1 hi).1
 rw[List.getElem?_eq_getElem hix,ht,ho,he.1] at h
 obtain⟨a,ha⟩:=he.2.2 H enc w base spare held n _ _ hN h
 refine⟨(a,c),?_⟩
 rw[List.take_add,List.drop_drop]
 exact ha.append hc
theorem OpD.struct {fs:Array Field}{k k' : Nat}{γ:Type}{l:α→List D}{L:γ→List D}(h:OpFs P fs N 0 0 k' L)(ek:γ→α)(hc:P.cellsOf T=k)(h0:0<k)(ht:P.underlying T=some (.struct fs))(he:∀ c,L c=l (ek c))(hk:k'=k:=by rfl):OpD P T k l (N+1):=by
 subst hk
 refine⟨hc,h0,fun H enc w base spare held fuel cs x hN hx=>?_⟩
 obtain⟨xs,n,rfl,_,hl,hx,hf⟩:=DataW.trod_struct ht hx
 obtain⟨c,hr⟩:=h H enc w base spare held n cs xs (by omega) hx hf
 rw[List.drop_zero,List.take_of_length_le (by omega)] at hr
 exact⟨ek c,by rw[← he];exact hr⟩
theorem OpD.zero {k:Nat}{l:α→List D}(hc:P.cellsOf T=k)(h0:0<k):OpD P T k l 0:=⟨hc,h0,fun _ _ _ _ _ _ _ _ _ h=>absurd h (Nat.not_lt_zero _)⟩
theorem OpD.structN {fs:Array Field}{k k' : Nat}{γ:Type}{l:α→List D}{L:γ→List D}(h:∀ N,OpFs P fs N 0 0 k' L)(ek:γ→α)(hc:P.cellsOf T=k)(h0:0<k)(ht:P.underlying T=some (.struct fs))(he:∀ c,L c=l (ek c))(hk:k'=k:=by rfl):OpD P T k l N:=by
 cases N with
 | zero=>exact .zero hc h0
 | succ N=>exact .struct (h N) ek hc h0 ht he hk
theorem OpD.get {k:Nat}{l:α→List D}(h:∀ N,OpD P T k l N){H:Type}{enc:TypeId×Value→H}{w:World}{base:Nat}{spare:Nat→Bool}{held:Bool}{fuel:Nat}{cs:List Value}{x:DataW H×List MemPlace}(hx:DataW.trod enc P w base spare held fuel T cs=some x):∃ a:α,rdCs (fun b=>b<w.heap.size) w (l a) cs:=
 (h (fuel+1)).2.2 H enc w base spare held fuel cs x (Nat.lt_succ_self _) hx
end
mutual
def boD:D→Prop
 | .i k n=>rngI k n
 | .b _=>True
 | .s t=>t.size≤9223372036854775807
 | .a _=>False
 | .sl _ xs=>xs.length≤9223372036854775807∧boE xs
def boCs:List D→Prop
 | []=>True
 | x::xs=>boD x∧boCs xs
def boE:List D→Prop
 | []=>True
 | .a cs::xs=>boCs cs∧boE xs
 | y::xs=>boD y∧boE xs
end
section
variable {S:Nat→Prop}{w:World}
mutual
theorem rdC.bd:∀ {x:D} {v:Value},rdC S w x v→boD x
 | .i _ _,_,h=>by rw[boD];exact h.2
 | .b _,_,_=>by rw[boD];trivial
 | .s _,_,h=>by rw[boD];exact h.2
 | .a _,_,h=>h.elim
 | .sl k xs,v,h=>by
  rw[rdC] at h
  rw[boD]
  obtain⟨A,cap,cells,_,h2,h3,h4,_⟩:=h
  exact⟨Nat.le_trans h2 h3,h4.bd⟩
theorem rdCs.bd:∀ {xs:List D} {vs:List Value},rdCs S w xs vs→boCs xs
 | [],_,_=>by rw[boCs];trivial
 | x::xs,_,h=>by
  rw[rdCs] at h
  rw[boCs]
  obtain⟨v,r,_,h2,h3⟩:=h
  exact⟨h2.bd,h3.bd⟩
theorem rdE.bd {k:Nat}:∀ {xs:List D} {vs:List Value},rdE S w k xs vs→boE xs
 | [],_,_=>by rw[boE];trivial
 | .a cs::xs,_,h=>by
  rw[rdE] at h
  rw[boE]
  obtain⟨c,r,_,_,h3,h4⟩:=h
  exact⟨h3.bd,h4.bd⟩
 | .i _ _::xs,_,h=>by
  rw[rdE] at h
  rw[boE]
  ·obtain⟨c,r,_,_,⟨v,_,h3⟩,h4⟩:=h
   exact⟨h3.bd,h4.bd⟩
  ·intro _ e;cases e
 | .b _::xs,_,h=>by
  rw[rdE] at h
  rw[boE]
  ·obtain⟨c,r,_,_,⟨v,_,h3⟩,h4⟩:=h
   exact⟨h3.bd,h4.bd⟩
  ·intro _ e;cases e
 | .s _::xs,_,h=>by
  rw[rdE] at h
  rw[boE]
  ·obtain⟨c,r,_,_,⟨v,_,h3⟩,h4⟩:=h
   exact⟨h3.bd,h4.bd⟩
  ·intro _ e;cases e
 | .sl _ _::xs,_,h=>by
  rw[rdE] at h
  rw[boE]
  ·obtain⟨c,r,_,_,⟨v,_,h3⟩,h4⟩:=h
   exact⟨h3.bd,h4.bd⟩
  ·intro _ e;cases e
end
end
theorem k3k:∀ {xs:List D} {x:D},boE xs→x∈xs→boCs x.cells
 | y::xs,x,h,hx=>by
  rcases List.mem_cons.1 hx with rfl|hx
  ·cases x with
   | a cs=>rw[boE] at h;exact h.1
   | _=>
    rw[boE] at h
    ·rw[D.cells]
     ·rw[boCs,boCs];exact⟨h.1,trivial⟩
     ·intro _ e;cases e
    ·intro _ e;cases e
  ·refine k3k (xs:=xs) ?_ hx
   cases y with
   | a cs=>rw[boE] at h;exact h.2
   | _=>
    rw[boE] at h
    ·exact h.2
    ·intro _ e;cases e
theorem Ok.lawD {P:Program}{fid:Nat}{W:World}{axs:List X}{vs:List Value}(ha:vrs (SM (fun b=>b<W.heap.size) fun _=>False) W (fun _=>.none) axs vs){x:Bool}(hx:x=true)
  (h:Ok P fid axs [] (.d .fz (.b x)) []):Ret P fid vs.toArray W (fun _=>False) fun v w=>v=.bool true:=by
 have h:=h (fun b=>b<W.heap.size) (fun _=>False) (fun _=>.none) W vs (Sim.begin0 W) ha
 refine Calls.mono h fun e w' ⟨v,he,hc,F',g',_,hv⟩=>⟨v,he,⟨hc.os,hc.tape,hc.output,hc.size,fun k hk _=>hc.block k hk fun ⟨i,hi⟩=>by cases hi⟩,?_⟩
 subst hx
 exact hv
theorem j1K {S:Md→Nat→Prop}{w:World}{g:Nat→G}{x:X}{v:Value}{xs:List X}{vs:List Value}(h:vr S w g x v)(h2:vrs S w g xs vs):vrs S w g (x::xs) (v::vs):=⟨v,vs,rfl,h,h2⟩
theorem k7Y {S:Md→Nat→Prop}{w:World}{g:Nat→G}{m:Md}{xs:List D}{vs:List Value}(h:rdCs (S m) w xs vs):vr S w g (.ag (xs.map (dX m))) (.agg vs.toArray):=⟨vs,rfl,k2O h⟩
theorem vr_1 {S:Md→Nat→Prop}{w:World}{g:Nat→G}{m:Md}{x:D}{v:Value}(h:rdCs (S m) w [x] [v]):vr S w g (dX m x) v:=by
 obtain⟨u,e,h⟩:=z8P.1 h
 injection e with e
 subst e
 exact k5t h
theorem boCs_cons {x:D}{xs:List D}:boCs (x::xs)↔boD x∧boCs xs:=by rw[boCs]
theorem j5v {t:ByteArray}:boD (.s t)↔t.size≤9223372036854775807:=by rw[boD]
theorem z8e {α:Type}{f:α→D}{k:Nat}{xs:List α}(h:boD (.sl k (xs.map f))){x:α}(hx:x∈xs):boCs (f x).cells:=by
 rw[boD] at h;exact k3k h.2 (List.mem_map.2 ⟨x,hx,rfl⟩)
theorem z8f {α:Type}{f:α→D}{k:Nat}{xs:List α}(h:boD (.sl k (xs.map f))):xs.length≤9223372036854775807:=by
 rw[boD,lnM] at h;exact h.1
end Go.A
