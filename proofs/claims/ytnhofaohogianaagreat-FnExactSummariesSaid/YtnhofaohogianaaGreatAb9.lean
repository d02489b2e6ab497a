/- Abstract states of a walk: plain lemmas on the model, without conditions of their own. -/
import Derived.Test.YtnhofaohogianaaGreatAb8
import Derived.KernelRfl
set_option linter.unusedVariables false
set_option linter.unusedSimpArgs false
set_option linter.ambiguousOpen false
set_option linter.unusedSectionVars false
set_option linter.unnecessarySimpa false
open List renaming map_append→Dcz,replicate→Bmz,replicate_succ→Ddz,getElem?_eq_getElem→Ckz
open Nat renaming le_refl→Acz
namespace Go.A
open Go Go.E
theorem q3H {α:Type}{l:List α}{j:Nat}{x y:α}(h:l[j]?=some x):(l.set j y)[j]?=some y:=by
 have:=(List.getElem?_eq_some_iff.1 h).1
 simp[this]
theorem k6w {α β:Type}{f:α→β}{xs:List α}{j:Nat}{x:α}{l:List β}(h:xs[j]?=some x)(e:l=(xs.map f).set j (f x)):l=xs.map f:=by
 rw[e];exact k2x (q3I h)
theorem eset {α β:Type}{f:α→β}{xs:List α}{j:Nat}{x' : α}{l:List β}(e:l=(xs.map f).set j (f x')):l=(xs.set j x').map f:=by
 rw[e,List.map_set]
section
variable {P:Program}[HasTab P]{S:Start}{n:Nat}{ops:Array Oper}{Q:AE→St→Prop}{QP:q3Z}{o:Oper}{rest:List Oper}{ρ:AE}{σ:St}{d:Nat}{md:Md2}{T e:Nat}{t te:TI}{k:Nat}{m:Md}{es:List (List Cell)}{hh:List (Nat×Nat×Nat)}
theorem IEd {x i:Operand}{r:Nat}{m' : Md}{q:IntKind}{j:Int}{y:List Cell}(h0:0≤j)(hj:es[j.toNat]?=some y)(h:AL P S ops Q (q4a md [r] []) rest (updX ρ d (.pe r none j.toNat 0)) σ)(ho:o.op=.indexAddr T x i:=by rfl)(hT:(HasTab.tab P).get T=some t:=by rfl)(he:t.el=some e:=by rfl)(hE:(HasTab.tab P).get e=some te:=by rfl)(hx:evX ρ x=.ref r none:=by rfl)(hσ:fnOf σ r=.deep m te.sz es hh:=by rfl)(hi:evX ρ i=.d m' (.i q j):=by rfl)(hd:o.dst=some d:=by rfl)(hg:q3O ops ρ o=some true:=by rfl):AL P S ops Q md (o::rest) ρ σ:=
 q0f (q1m ho (q3P hT he hE).1 (q3P hT he hE).2 hx (by rw[hσ];rfl) hi h0 hj) h hd hg
theorem AL.out (r j c q:Nat){el:List Cell}{cell:Cell}{x:Root}(hj:es[j]?=some el)(h:AL P S ops Q (ghM md) rest ρ (setL (setL σ r (.deep m k (es.set j (spl el c [.u])) ((j,c,q)::hh))) q x))(hσ:fnOf σ r=.deep m k es hh:=by rfl)(hc:el[c]?=some cell:=by rfl)(hx:OC cell x:=by first|exact .row|exact .flatM (fun _=>rfl)|exact .ownM)(hq:fnOf σ q=.none:=by rfl):AL P S ops Q md rest ρ σ:=AL.gh (GH.out hσ hj hc hx hq) h
theorem q0q (r:Nat){es' : List (List Cell)}(hσ:fnOf σ r=.deep m k es hh:=by rfl)(he:es=es')(h:AL P S ops Q (ghM md) rest ρ (setL σ r (.deep m k es' hh))):AL P S ops Q md rest ρ σ:=AL.gh (q0N hσ he) h
theorem q2c {α:Type}(r:Nat)(f:α→List Cell)(h:AL P S ops Q (ghM md) rest ρ (setL σ r (.deep m k (([]:List α).map f) [])))(hσ:fnOf σ r=.row m k []:=by rfl):AL P S ops Q md rest ρ σ:=AL.gh (q0C hσ rfl) h
theorem q2j {c0:Code}(r:Nat){es' : List (List Cell)}(hσ:fnOf σ r=.deep m k es hh:=by rfl)(he:es=es')(h:AW P S n c0 QP ρ (setL σ r (.deep m k es' hh))):AW P S n c0 QP ρ σ:=AW.gh (q0N hσ he) h
theorem q0k {S:Start}{ρ:AE}{σ:St}(r j c q:Nat){el:List Cell}{cell:Cell}(hj:es[j]?=some el)(hσ:fnOf σ r=.deep m k es hh:=by rfl)(hc:Nat.blt c el.length=true:=by rfl)(hm:(j,c,q)∈hh:=by first|exact List.mem_cons_self|simp)(hx:MC (fnOf σ q) cell:=by first|exact .row|exact .flatM (fun _=>rfl)|exact .ownM)(hf:fzC cell=true∨m=.bo:=by first|exact .inl rfl|exact fzoM _ _ _)(hqr:Nat.beq q r=false:=by rfl) :
  GH S ρ σ ρ (setL (setL σ r (.deep m k (es.set j (spl el c [cell])) (hsK hh c 1))) q .dead):=q3y hσ hj hc hm hx hf hqr
theorem q0j {S:Start}{ρ:AE}{σ:St}(r:Nat){es' : List (List Cell)}(hσ:fnOf σ r=.deep m k es hh:=by rfl)(he:es=es'):GH S ρ σ ρ (setL σ r (.deep m k es' hh)):=q0N hσ he
theorem GH.dp {α:Type}{S:Start}{ρ:AE}{σ:St}(r:Nat)(f:α→List Cell)(hσ:fnOf σ r=.row m k []:=by rfl):GH S ρ σ ρ (setL σ r (.deep m k (([]:List α).map f) [])):=q0C hσ rfl
theorem LPd {x:Operand}{r j c:Nat}{el:List Cell}{cell:Cell}{y:X}(hx' : List (Nat×Nat))(hj:es[j]?=some el)(h:AL P S ops Q (q4a md [r] []) rest (updX ρ d y) σ)(ho:o.op=.load T x:=by rfl)(hT:(HasTab.tab P).get T=some t:=by rfl)(ha:t.agg=false:=by rfl)(hx:evX ρ x=.pe r none j c:=by rfl)(hσ:fnOf σ r=.deep m k es hh:=by rfl)(hhx:hh=hx'.map (fun p=>(j,p.1,p.2)):=by rfl)(hc:el[c]?=some cell:=by rfl)(hy:j1P hx' c cell=some y:=by rfl)(hd:o.dst=some d:=by rfl)(hg:q3O ops ρ o=some true:=by rfl):AL P S ops Q md (o::rest) ρ σ:=
 q0f (q1l (hx':=hx') (p:=(k,es)) ho (by rw[TI.agg' (Tab.chk HasTab.ok hT),ha]) hx (by rw[hσ];rfl) hj hc (.inr ⟨m,k,es,by rw[hσ,hhx]⟩) hy) h hd hg
theorem LPad {x:Operand}{r j c:Nat}{el:List Cell}{ys:List X}(hx' : List (Nat×Nat))(hj:es[j]?=some el)(h:AL P S ops Q (q4a md [r] []) rest (updX ρ d (.ag ys)) σ)(ho:o.op=.load T x:=by rfl)(hT:(HasTab.tab P).get T=some t:=by rfl)(ha:t.agg=true:=by rfl)(hx:evX ρ x=.pe r none j c:=by rfl)(hσ:fnOf σ r=.deep m k es hh:=by rfl)(hhx:hh=hx'.map (fun p=>(j,p.1,p.2)):=by rfl)(hl:((el.drop c).take t.sz).length=t.sz:=by rfl)(hy:z9j hx' c ((el.drop c).take t.sz)=some ys:=by rfl)(hd:o.dst=some d:=by rfl)(hg:q3O ops ρ o=some true:=by rfl):AL P S ops Q md (o::rest) ρ σ:=
 q0f (q0L (hx':=hx') (p:=(k,es)) ho (by rw[TI.agg' (Tab.chk HasTab.ok hT),ha]) (TI.sz' (Tab.chk HasTab.ok hT)) hx (by rw[hσ];rfl) hj hl (.inr ⟨m,k,es,by rw[hσ,hhx]⟩) hy) h hd hg
theorem SD {x y:Operand}{Y:X}{r j c:Nat}{el:List Cell}(cells:List Cell)(qs:List Nat)(hj:es[j]?=some el)(h:AL P S ops Q (q4a md [] (r::qs)) rest ρ (owrL σ ((r,.deep m k (es.set j (spl el c cells)) (hsK hh c t.sz))::qs.map fun q=>(q,.dead))))(ho:o.op=.store T x y:=by rfl)(hT:(HasTab.tab P).get T=some t:=by rfl)(hx:evX ρ x=.pe r none j c:=by rfl)(hσ:fnOf σ r=.deep m k es hh:=by rfl)(hy:evX ρ y=Y:=by rfl)
  (hn:NC (fnOf σ) m Y.cells cells qs:=by repeat (first|exact .nil|refine .d (.inl rfl) ?_|refine .nlo (m':=.fz) ?_|refine .ref .row (.inl rfl) ?_|refine .ref .row (fzoM _ _ _) ?_|refine .nlw (m':=.fz) ?_|refine .ref (MC.flatM (fun _=>rfl)) (.inl rfl) ?_|refine .ref MC.ownM (.inl rfl) ?_)) (hl:Y.cells.length=t.sz:=by rfl) (hf:Nat.ble (c+t.sz) k=true:=by rfl) (hnd:z3J (r::qs)=true:=by rfl) (hs:z3r (fnOf σ) Y=true:=by rfl) (hd:o.dst=none:=by rfl) (hg:q3O ops ρ o=some true:=by rfl):AL P S ops Q md (o::rest) ρ σ:=by
 refine q0w (q2i ho (TI.sz' (Tab.chk HasTab.ok hT)) hx hσ hj hy hn hl hf hnd hs) ?_ hd hg
 have e:((r,Root.deep m k (es.set j (spl el c cells)) (hsK hh c t.sz))::qs.map fun q=>(q,Root.dead)).map (·.1)=r::qs:=by
  rw[List.map_cons,List.map_map];exact congrArg _ (List.map_id _)
 rw[e];exact h
theorem LID {α:Type}{f:α→List Cell}{Y:X}{x:Operand}{zs:List X}(r:Nat)(x1:α)(qs:List Nat)(h:AL P S ops Q (q4a md [] (qs++[r])) rest (updX ρ d (.ref r none)) (owrL σ ((qs.map fun q=>(q,.dead))++[(r,.deep .fz te.sz ([x1].map f) [])])))(ho:o.op=.buildSlice T 1 #[(0,x)]:=by rfl)(hT:(HasTab.tab P).get T=some t:=by rfl)(he:t.el=some e:=by rfl)(hE:(HasTab.tab P).get e=some te:=by rfl)(hz:te.z=some zs:=by rfl)(hzl:zs.length=te.sz:=by rfl)(hy:evX ρ x=Y:=by rfl)
  (hn:NC (fnOf σ) .fz Y.cells (f x1) qs:=by repeat (first|exact .nil|refine .d (.inl rfl) ?_|refine .any ?_|refine .nlo (m':=.fz) ?_|refine .ref .row (.inl rfl) ?_|refine .ref .row (fzoM _ _ _) ?_|refine .nlw (m':=.fz) ?_|refine .ref (MC.flatM (fun _=>rfl)) (.inl rfl) ?_|refine .ref MC.ownM (.inl rfl) ?_)) (hw:(f x1).length=te.sz:=by rfl) (hs:z3r (fnOf σ) Y=true:=by rfl) (hnd:z3J qs=true:=by rfl) (hk0:Nat.blt 0 te.sz=true:=by rfl) (hm2:Nat.ble (1*te.sz) 100000=true:=by rfl) (hr:fnOf σ r=.none:=by rfl) (hd:o.dst=some d:=by rfl) (hg:q3O ops ρ o=some true:=by rfl):AL P S ops Q md (o::rest) ρ σ:=by
 obtain⟨z,h1,h2⟩:=TI.z' (Tab.chk HasTab.ok hE) hz
 have hn' : NCs (fnOf σ) .fz te.sz [Y] ([x1].map f) qs:=by
  have:=NCs.cons hn hw hs (NCs.nil (σ:=fnOf σ) (m:=.fz) (k:=te.sz))
  rwa[List.append_nil] at this
 refine q0f (q1t (xs:=[Y]) ho (q3P hT he hE).1 (q3P hT he hE).2 h1 (by rw[← hzl,← (h2 (fun _ _=>True) default (fun _=>.none)).len]) (by simp[idxX,hy]) hn' hnd rfl hk0 rfl hm2 hr) ?_ hd hg
 have e:((qs.map fun q=>(q,Root.dead))++[(r,Root.deep .fz te.sz ([x1].map f) [])]).map (·.1)=qs++[r]:=by
  rw[Dcz,List.map_map];exact congrArg (· ++ [r]) (List.map_id _)
 rw[e];exact h
theorem APD {α:Type}{f:α→List Cell}{s x:Operand}{xs ys:List α}{zs:List X}{r r2 b1:Nat}(r' : Nat)(B:Nat)(hmax:((xs.length:Int)+(ys.length:Int))*(B:Int)≤140737488355328∧(xs.length:Int)+(ys.length:Int)≤9223372036854775807)(h:AL P S ops Q (q4a md [] [r,r2,r']) rest (updX ρ d (.ref r' none)) (owrL σ [(r,.dead),(r2,.dead),(r',.deep m te.sz ((xs++ys).map f) [])]))
  (ho:o.op=.call { callee:=.builtin .append,args:=#[s,x],argTypes:=#[T,T] }:=by rfl) (hT:(HasTab.tab P).get T=some t:=by rfl) (he:t.el=some e:=by rfl) (hE:(HasTab.tab P).get e=some te:=by rfl) (hs:evX ρ s=.ref r none:=by rfl) (hx:evX ρ x=.ref r2 none:=by rfl) (hσ:fnOf σ r=.deep m te.sz (xs.map f) []:=by rfl) (hσ2:fnOf σ r2=.deep m te.sz (ys.map f) []:=by rfl) (hz:te.z=some zs:=by rfl) (hb:te.by_=b1+1:=by rfl) (hzl:zs.length=te.sz:=by rfl) (hk0:Nat.blt 0 te.sz=true:=by rfl) (hr:fnOf σ r'=.none:=by rfl) (hne:Nat.beq r r2=false:=by rfl) (hB:te.by_=B:=by rfl) (hd:o.dst=some d:=by rfl) (hg:q3O ops ρ o=some true:=by rfl):AL P S ops Q md (o::rest) ρ σ:=by
 obtain⟨z,h1,h2⟩:=TI.z' (Tab.chk HasTab.ok hE) hz
 refine q0f (q2R (r':=r') ho (q3P hT he hE).1 (q3P hT he hE).2 (TI.by' (Tab.chk HasTab.ok hE) hb) h1 (by rw[← hzl,← (h2 (fun _ _=>True) default (fun _=>.none)).len]) hk0 hs hσ hx hσ2 ?_ ?_ hr hne) (by rw[← Dcz];exact h) hd hg
 ·simp only[lnM]
  have:=hmax.1
  rw[hB,← Int.natCast_add,← Int.natCast_mul] at *
  omega
 ·simp only[lnM]
  show _≤9223372036854775807
  have:=hmax.2
  omega
theorem APD1 {α:Type}{f:α→List Cell}{s x:Operand}{xs:List α}{y:α}{zs:List X}{r r2 b1:Nat}(r' : Nat)(B:Nat)(hmax:((xs.length:Int)+1)*(B:Int)≤140737488355328∧(xs.length:Int)+1≤9223372036854775807)(h:AL P S ops Q (q4a md [] [r,r2,r']) rest (updX ρ d (.ref r' none)) (owrL σ [(r,.dead),(r2,.dead),(r',.deep m te.sz ((xs++[y]).map f) [])]))
  (ho:o.op=.call { callee:=.builtin .append,args:=#[s,x],argTypes:=#[T,T] }:=by rfl) (hT:(HasTab.tab P).get T=some t:=by rfl) (he:t.el=some e:=by rfl) (hE:(HasTab.tab P).get e=some te:=by rfl) (hs:evX ρ s=.ref r none:=by rfl) (hx:evX ρ x=.ref r2 none:=by rfl) (hσ:fnOf σ r=.deep m te.sz (xs.map f) []:=by rfl) (hσ2:fnOf σ r2=.deep m te.sz ([y].map f) []:=by rfl) (hz:te.z=some zs:=by rfl) (hb:te.by_=b1+1:=by rfl) (hzl:zs.length=te.sz:=by rfl) (hk0:Nat.blt 0 te.sz=true:=by rfl) (hr:fnOf σ r'=.none:=by rfl) (hne:Nat.beq r r2=false:=by rfl) (hB:te.by_=B:=by rfl) (hd:o.dst=some d:=by rfl) (hg:q3O ops ρ o=some true:=by rfl):AL P S ops Q md (o::rest) ρ σ:=
 APD r' B hmax h ho hT he hE hs hx hσ hσ2 hz hb hzl hk0 hr hne hB hd hg
theorem LEd {x:Operand}{r:Nat}(L:Nat)(h:AL P S ops Q (q4a md [r] []) rest (updX ρ d (.d .fz (.i .i64 L))) σ)(ho:o.op=.call { callee:=.builtin .len,args:=#[x],argTypes:=#[T] }:=by rfl)(hT:(HasTab.tab P).get T=some t:=by rfl)(he:t.el=some e:=by rfl)(hx:evX ρ x=.ref r none:=by rfl)(hσ:fnOf σ r=.deep m k es hh:=by rfl)(hL:es.length=L:=by simp only[List.length_set,lnM])(hd:o.dst=some d:=by rfl)(hg:q3O ops ρ o=some true:=by rfl):AL P S ops Q md (o::rest) ρ σ:=
 q0f (q0M (k:=L) ho (TI.el' (Tab.chk HasTab.ok hT) he) hx (by rw[hσ];rfl) hL) h hd hg
end
theorem q2k {α:Type}{S:Start}{ρ:AE}{σ:St}{k:Nat}{m:Md}{f:α→List Cell}{xs:List α}(r:Nat)(D0:α→D)(hf:∀ x,DR (f x) (D0 x))(h:fnOf σ r=.deep m k (xs.map f) []):GH S ρ σ (fun t=>frX r m k (xs.map D0) (ρ t)) (frS r m k (xs.map D0) 0 σ):=q0v (DA hf h)
section
variable {P:Program}[HasTab P]{S:Start}{n:Nat}{ops:Array Oper}{Q:AE→St→Prop}{QP:q3Z}{rest:List Oper}{ρ:AE}{σ:St}{md:Md2}{k:Nat}{m:Md}
theorem q3B {α:Type}{f:α→List Cell}{xs:List α}(r:Nat)(D0:α→D)(hf:∀ x,DR (f x) (D0 x))(hσ:fnOf σ r=.deep m k (xs.map f) [])(h:AL P S ops Q (ghM md) rest (fun t=>frX r m k (xs.map D0) (ρ t)) (frS r m k (xs.map D0) 0 σ)):AL P S ops Q md rest ρ σ:=AL.gh (q2k r D0 hf hσ) h
theorem q1A {α:Type}{c:Code}{f:α→List Cell}{xs:List α}{hh:List (Nat×Nat×Nat)}(r:Nat)(hr:fnOf σ r=.deep m k (xs.map f) hh)(h:(xs.length:Int)≤9223372036854775807→AW P S n c QP ρ σ):AW P S n c QP ρ σ:=q2a hr fun h1=>h (by simpa using h1)
end
theorem enr3 {β:Type}{l:List β}{j:Nat}{z a b c:β}(h:b=c):((l.set j z).set j a).set j b=l.set j c:=by rw[List.set_set,List.set_set,h]
theorem j4O {ge:List GC}:∀ n,q5k (Bmz n ge)=reps (ge.map (·.val)) n
 | 0=>rfl
 | n+1=>by rw[Ddz,q6D,j4O n];rfl
theorem k0f {ge:List GC}(h:ge.flatMap (·.L)=[]):∀ n,gbl (Bmz n ge)=[]
 | 0=>rfl
 | n+1=>by rw[Ddz,z0P,h,k0f h n];rfl
theorem all2.rep {α β:Type}{R:α→β→Prop}{a:α}{b:β}(h:R a b):∀ n,all2 R (Bmz n a) (Bmz n b)
 | 0=>rfl
 | n+1=>⟨b,_,rfl,h,all2.rep h n⟩
theorem q3C {P:Program}{S:Start}{ρ:AE}{σ:St}{o:Oper}{T e k b r:Nat}{z:List Value}{zs:List X}{cells:List Cell}{l c:Operand}{m1 m2:Md}{q q' : IntKind}{j:Int}(ho:o.op=.makeSlice T l c)(hT:q7i P T=some e)(hk:szT P e=some k)(hb:byT P e=some b)(hz:z2M P e=some z)(hzk:z.length=k)(hl:evX ρ l=.d m1 (.i q j))(hc:evX ρ c=.d m2 (.i q' j))
  (hzs:∀ S1 w g,vrs S1 w g zs z) (hn:NC (fnOf σ) .fz zs cells []) (h0:0≤j) (hm:j≤9223372036854775807) (hbm:(b:Int)*j≤281474976710656) (hr:fnOf σ r=.none):LT P S o ρ σ [] (.ref r none) [(r,.deep .fz k (Bmz j.toNat cells) [])]:=by
 intro σ1 F g w ρc hs _ hwr hv
 have hr1:σ1 r=.none:=(hwr (r,_) (List.mem_singleton.2 rfl)).trans hr
 obtain⟨i,v,hi,hik,hib,hiv,hvc⟩:=j2V hk hb hz
 have hrun:=run_make (P:=P) (w:=w) T e i v (q5T hT) hi hiv q q' j j h0 (Int.le_refl _) (by rw[hib];exact hbm) hm
 have hcells:madeCells v.cells (j.toNat*i.size)=(reps z j.toNat).toArray:=by
  have:=z3p v.cells j.toNat
  rw[hvc] at this ⊢
  simp only[List.size_toArray,hzk] at this
  rw[hik]
  simpa using this
 have e1:=hv l (by simp[ho,Op.operands])
 have e2:=hv c (by simp[ho,Op.operands])
 rw[hl,vr,rdC] at e1
 rw[hc,vr,rdC] at e2
 have he:(execOp (E.ev ρc) o).run P w=.ok (.value (.slice (some ⟨w.heap.size,0,none⟩) j.toNat j.toNat)) (w.alloc (.cells (reps z j.toNat).toArray e)):=by
  rw[hcells] at hrun
  simp only[execOp,ho,e1,e2,Sem.run_bind,hrun,Result.andThen_ok,Sem.run_pure]
 rw[he]
 have hx:=Ext.alloc w (.cells (reps z j.toNat).toArray e)
 obtain⟨news,n1,n2,n3,n4,n5⟩:=(hn.congr (σ1:=σ1) fun q hq=>by cases hq).ok hs (hzs (SM F S.B) w g)
 have hlen:(reps z j.toNat).length=j.toNat*k:=by rw[z2e,hzk]
 have hbk:=q9y w e (reps z j.toNat)
 have hg1:q5k (Bmz j.toNat news)=reps z j.toNat:=by rw[j4O,n2]
 have hg2:gbl (Bmz j.toNat news)=[]:=k0f (by simpa using n3) _
 have hLn:∀ b,b∈news.flatMap (·.L)→False:=fun b hb=>by rw[n3] at hb;cases hb
 have hnl:news.length=k:=by rw[← hzk,← n2,lnM]
 have hkp:∀ m b o cs,SM F S.B m b→b<w.heap.size→At w b o cs→SM F S.B m b∧b<(w.alloc (.cells (reps z j.toNat).toArray e)).heap.size∧At (w.alloc (.cells (reps z j.toNat).toArray e)) b o cs:=fun m b o cs hb hlt hat=>⟨hb,Nat.lt_of_lt_of_le hlt hx.size,hat.frame' fun hl=>hx.block b hl fun h=>h⟩
 obtain⟨h4,h5⟩:=hs.new (r:=r) (x:=.deep .fz k (Bmz j.toNat cells) []) (y:=.row (.slice (some ⟨w.heap.size,0,none⟩) j.toNat j.toNat) k [w.heap.size] (Bmz j.toNat news)) hr1 hx (fun _ _=>by
   refine⟨⟨rfl,⟨e,⟨?_,.inr ⟨w.heap.size,j.toNat,(reps z j.toNat).toArray,by simp,Nat.zero_le _,hbk,by simp,by show _≤9223372036854775807;omega,by simpa using hlen,?_⟩⟩,by simp[Value.ownBlock]⟩,all2.rep ⟨by rw[← n1.len,hnl],cellOk.keepL hkp n1 fun b_ hb_=>(hLn b_ hb_).elim⟩ _⟩,holesOk.nil,fun _=>?_⟩
   ·rw[hg1,hlen];simp
   ·rw[hg1];simp only[List.length_replicate,List.toList_toArray,Nat.zero_mul,List.drop_zero];rw[← hlen,List.take_length]
   ·intro x hxe c hce
    rw[List.eq_of_mem_replicate hxe] at hce;exact n5 rfl _ hce)
  (by simp[bl,hg2]) (by simp only[bl,hg2,List.append_nil,List.mem_singleton];rintro b rfl;exact⟨Acz _,hbk.lt⟩)
 refine⟨F,_,h4,h5,?_⟩
 rw[vr]
 simp only[if_true]
 intro u q hu
 simp only[G.at] at hu
 cases hu
 rfl
section
variable {P:Program}[HasTab P]{S:Start}{n:Nat}{ops:Array Oper}{Q:AE→St→Prop}{QP:q3Z}{o:Oper}{rest:List Oper}{ρ:AE}{σ:St}{d:Nat}{md:Md2}{T e:Nat}{t te:TI}{k:Nat}{m:Md}
theorem MKW {α:Type}{f:α→List Cell}{l c:Operand}{m1 m2:Md}{q q' : IntKind}{j:Int}{zs:List X}{b1:Nat}(r:Nat)(z:α)(h0:0≤j)(hbm:j*(te.by_:Int)≤281474976710656)(hm:j≤9223372036854775807)(h:AL P S ops Q (q4a md [] [r]) rest (updX ρ d (.ref r none)) (setL σ r (.deep .fz te.sz ((Bmz j.toNat z).map f) [])))(ho:o.op=.makeSlice T l c:=by rfl)(hT:(HasTab.tab P).get T=some t:=by rfl)(he:t.el=some e:=by rfl)(hE:(HasTab.tab P).get e=some te:=by rfl)(hz:te.z=some zs:=by rfl)(hb:te.by_=b1+1:=by rfl)(hzl:zs.length=te.sz:=by rfl)(hl:evX ρ l=.d m1 (.i q j):=by rfl)(hc:evX ρ c=.d m2 (.i q' j):=by rfl)(hn:NC (fnOf σ) .fz zs (f z) []:=by repeat (first|exact .nil|refine .d (.inl rfl) ?_|refine .nlw (m':=.fz) ?_|refine .nlo (m':=.fz) ?_))(hr:fnOf σ r=.none:=by rfl)(hd:o.dst=some d:=by rfl)(hg:q3O ops ρ o=some true:=by rfl):AL P S ops Q md (o::rest) ρ σ:=by
 obtain⟨z0,h1,h2⟩:=TI.z' (Tab.chk HasTab.ok hE) hz
 exact q0f (q3C ho (q3P hT he hE).1 (q3P hT he hE).2 (TI.by' (Tab.chk HasTab.ok hE) hb) h1 (by rw[← hzl,← (h2 (fun _ _=>True) default (fun _=>.none)).len]) hl hc h2 hn h0 hm (by rw[Int.mul_comm];exact hbm) hr) (by rw[List.map_replicate] at h;exact h) hd hg
omit [HasTab P] in
end
theorem q0A {S:Start}{ρ:AE}{σ:St}{n0:Nat}(hS:S.n0=n0)(l:List (Nat×Nat))(n:Nat){L:List (Nat×X)}{σt:St}(hL:WkR l ρ L:=by repeat (first|exact trivial|refine And.intro (.of (by kernel_rfl)) ?_))(hσ:renS l n σ=σt:=by kernel_rfl)(hc:j3i l n0 n σ=true:=by kernel_rfl):GH S ρ σ (ofX L) σt:=GH.ren hS l n hL hσ hc
theorem Sim.begin0 (w:World):Sim (j4B w (fun b=>b<w.heap.size) (fun _=>False) (fun _=>.none) 0) (fun b=>b<w.heap.size) (fun _=>.none) (fnOf []) w where
 chg:=Chg.refl w
 bB b h:=h.elim
 fmono b h:=h
 fnew b h:=.inl h
 flt b h:=h
 roots i:=trivial
 low i _:=rfl
 hdr i:=trivial
 nodup i:=List.nodup_nil
 disj i j _ b h:=by cases h
 own i b h:=by cases h
def OpD (P:Program)(T:TypeId)(k:Nat){α:Type}(l:α→List D)(N:Nat):Prop:=
 P.cellsOf T=k∧0<k∧∀ (H:Type) (enc:TypeId×Value→H) (w:World) (base:Nat) (spare:Nat→Bool) (held:Bool) (fuel:Nat) (cs:List Value) (x:DataW H×List MemPlace),
  fuel<N→DataW.trod enc P w base spare held fuel T cs=some x→∃ a:α,rdCs (fun b=>b<w.heap.size) w (l a) cs
section
variable {P:Program}{T e:TypeId}{α:Type}{N:Nat}
theorem z7B {S:Nat→Prop}{w:World}{x:D}{v:Value}(h:rdC S w x v):rdCs S w [x] [v]:=z9Y.2 ⟨v,rfl,h⟩
theorem OpD.int (hc:P.cellsOf T=1)(ht:P.underlying T=some (.int .i64)):OpD P T 1 (fun n:Int=>[.i .i64 n]) N:=by
 refine⟨hc,by decide,fun H enc w base spare held fuel cs x _ h=>?_⟩
 obtain⟨n,rfl,_,hw⟩:=DataW.trod_int ht h
 exact⟨n,z7B (by rw[rdC];exact⟨rfl,bounds_i64 hw⟩)⟩
theorem OpD.str (hc:P.cellsOf T=1)(ht:P.underlying T=some .string):OpD P T 1 (fun n:BA_=>[.s n]) N:=by
 refine⟨hc,by decide,fun H enc w base spare held fuel cs x _ h=>?_⟩
 obtain⟨s,rfl,_,hw⟩:=DataW.trod_string ht h
 exact⟨s,z7B (by rw[rdC];exact⟨rfl,hw⟩)⟩
theorem OpD.bool (hc:P.cellsOf T=1)(ht:P.underlying T=some .bool):OpD P T 1 (fun n:Bool=>[.b n]) N:=by
 refine⟨hc,by decide,fun H enc w base spare held fuel cs x _ h=>?_⟩
 obtain⟨s,rfl,_⟩:=DataW.trod_bool ht h
 exact⟨s,z7B (by rw[rdC])⟩
theorem OpD.slice {k:Nat}{l:α→List D}{f:α→D}(he:OpD P e k l N)(hc:P.cellsOf T=1)(ht:P.underlying T=some (.slice e))(hf:∀ x,(f x).cells=l x):OpD P T 1 (fun xs:List α=>[.sl k (xs.map f)]) N:=by
 refine⟨hc,by decide,fun H enc w base spare held fuel cs x hN h=>?_⟩
 rcases DataW.trod_slice ht h with ⟨rfl,_⟩|⟨a,len,cap,elems,rest,n,rfl,rfl,_,_,hl,hm,hlen0,hel,_⟩
 ·exact⟨[],z7B (by rw[List.map_nil,rdC];exact⟨none,0,[],rfl,Acz _,Nat.zero_le _,by rw[rdE],.inl rfl⟩)⟩
 obtain⟨b,o,sp⟩:=a
 have key:∀ j,j≤len→∃ (xs:List α) (cells:List Value),xs.length=j∧rdE (fun b=>b<w.heap.size) w k (xs.map f) cells∧(j=0∨sp=none)∧∀ j v,cells[j]?=some v→w.cell? ⟨b,o+j,none⟩=some v:=by
  intro j
  induction j with
  | zero=>intro _;exact⟨[],[],rfl,by rw[List.map_nil,rdE],.inl rfl,by simp⟩
  | succ j ih=>
   intro hk
   obtain⟨xs,cells,h1,h2,h3,h4⟩:=ih (by omega)
   have hek:=hel j (by omega)
   rw[Ckz (by omega)] at hek
   obtain⟨cs',hcs,htr⟩:=Option.bind_eq_some_iff.1 hek
   obtain⟨y,hy⟩:=he.2.2 H enc w base spare held n cs' _ (by omega) htr
   rw[he.1] at hcs
   obtain⟨_,hlen,hat0⟩:=World.cells?_some hcs
   have hp:=he.2.1
   have hsp:sp=none:=by
    rcases h3 with rfl|h3
    ·have h0:=hat0 0 hp
     rw[Ckz (by omega)] at h0
     simp only[Nat.zero_mul,Addr.add,if_true] at h0
     cases sp with
     | none=>rfl
     | some f=>
      exfalso
      unfold World.cell? at h0
      split at h0
      ·simp at h0
      ·cases h0
    ·exact h3
   subst hsp
   have hadd:Addr.add ⟨b,o,none⟩ (j*k)=⟨b,o+j*k,none⟩:=by
    unfold Addr.add;split
    ·next h0=>rw[h0];rfl
    ·rfl
   rw[hadd] at hcs
   obtain⟨_,hat⟩:=At.ofCells hcs
   have hcl:=h2.len
   rw[lnM,h1] at hcl
   refine⟨xs++[y],cells++cs',by simp[h1],by rw[Dcz];exact h2.append (rdE.single (by rw[rd1,hf];exact hy) hlen),.inr rfl,fun i v hj=>?_⟩
   by_cases hjc:i<cells.length
   ·rw[List.getElem?_append_left hjc] at hj;exact h4 i v hj
   ·rw[List.getElem?_append_right (by omega)] at hj
    have:=hat _ v hj
    rw[← this];congr 2
    omega
 obtain⟨xs,cells,h1,h2,h3,h4⟩:=key len (Acz _)
 subst h1
 refine⟨xs,z7B ?_⟩
 rw[rdC]
 refine⟨_,cap,cells,by rw[lnM],by rw[lnM];exact hl,hm,h2,?_⟩
 rcases h3 with h3|rfl
 ·exact .inl (by rw[List.eq_nil_of_length_eq_zero h3];rfl)
 ·cases xs with
  | nil=>exact .inl rfl
  | cons x xs=>
   have hcl:=h2.len
   have hk:=he.2.1
   have hpos:0<cells.length:=by
    rw[hcl,lnM,lnC,Nat.add_mul];omega
   have hlt:b<w.heap.size:=At.lt (b:=b) (o:=o) (cs:=cells) (j:=0) h4 (Ckz hpos)
   exact .inr ⟨b,o,rfl,hlt,hlt,h4⟩
def OpFs (P:Program)(fs:Array Field)(N j off k:Nat){γ:Type}(L:γ→List D):Prop:=
 ∀ (H:Type) (enc:TypeId×Value→H) (w:World) (base:Nat) (spare:Nat→Bool) (held:Bool) (n:Nat) (cs:List Value) (xs:List (DataW H×List MemPlace)),n<N→xs.length=fs.size →
  (∀ (i:Nat) (f:Field),fs[i]?=some f→DataW.trod enc P w base spare held n f.type ((cs.drop f.offset).take (P.cellsOf f.type))=xs[i]?)→∃ c:γ,rdCs (fun b=>b<w.heap.size) w (L c) ((cs.drop off).take k)
theorem OpFs.nil {fs:Array Field}{j off:Nat}:OpFs P fs N j off 0 (fun _:Unit=>[]):=fun _ _ _ _ _ _ _ _ _ _ _ _=>⟨(),by rw[rdCs];rfl⟩
theorem OpFs.cons {fs:Array Field}{f:Field}{t j off kf k:Nat}{γ:Type}{l:α→List D}{L:γ→List D}(he:OpD P t kf l N)(h:OpFs P fs N (j+1) (off+kf) k L)(hi:fs[j]?=some f:=by rfl)(ht:f.type=t:=by rfl)(ho:f.offset=off:=by rfl):OpFs P fs N j off (kf+k) (fun p:α×γ=>l p.1++L p.2):=by
 intro H enc w base spare held n cs xs hN hlen hf
 obtain⟨c,hc⟩:=h H enc w base spare held n cs xs hN hlen hf
 have h:=hf j f hi
 have hix:j<xs.length:=by rw[hlen];exact (Array.getElem?_eq_some_iff.1 hi).1
 rw[Ckz hix,ht,ho,he.1] at h
 obtain⟨a,ha⟩:=he.2.2 H enc w base spare held n _ _ hN h
 refine⟨(a,c),?_⟩
 rw[List.take_add,List.drop_drop]
 exact ha.append hc
theorem OpD.struct {fs:Array Field}{k k' : Nat}{γ:Type}{l:α→List D}{L:γ→List D}(h:OpFs P fs N 0 0 k' L)(ek:γ→α)(hc:P.cellsOf T=k)(h0:0<k)(ht:P.underlying T=some (.struct fs))(he:∀ c,L c=l (ek c))(hk:k'=k:=by rfl):OpD P T k l (N+1):=by
 subst hk
 refine⟨hc,h0,fun H enc w base spare held fuel cs x hN hx=>?_⟩
 obtain⟨xs,n,rfl,_,hl,hx,hf⟩:=DataW.trod_struct ht hx
 obtain⟨c,hr⟩:=h H enc w base spare held n cs xs (by omega) hx hf
 rw[List.drop_zero,List.take_of_length_le (by omega)] at hr
 exact⟨ek c,by rw[← he];exact hr⟩
theorem OpD.zero {k:Nat}{l:α→List D}(hc:P.cellsOf T=k)(h0:0<k):OpD P T k l 0:=⟨hc,h0,fun _ _ _ _ _ _ _ _ _ h=>absurd h (Nat.not_lt_zero _)⟩
theorem OpD.structN {fs:Array Field}{k k' : Nat}{γ:Type}{l:α→List D}{L:γ→List D}(h:∀ N,OpFs P fs N 0 0 k' L)(ek:γ→α)(hc:P.cellsOf T=k)(h0:0<k)(ht:P.underlying T=some (.struct fs))(he:∀ c,L c=l (ek c))(hk:k'=k:=by rfl):OpD P T k l N:=by
 cases N with
 | zero=>exact .zero hc h0
 | succ N=>exact .struct (h N) ek hc h0 ht he hk
theorem OpD.get {k:Nat}{l:α→List D}(h:∀ N,OpD P T k l N){H:Type}{enc:TypeId×Value→H}{w:World}{base:Nat}{spare:Nat→Bool}{held:Bool}{fuel:Nat}{cs:List Value}{x:DataW H×List MemPlace}(hx:DataW.trod enc P w base spare held fuel T cs=some x):∃ a:α,rdCs (fun b=>b<w.heap.size) w (l a) cs:=
 (h (fuel+1)).2.2 H enc w base spare held fuel cs x (Nat.lt_succ_self _) hx
end
mutual
def boD:D→Prop
 | .i k n=>rngI k n
 | .b _=>True
 | .s t=>t.size≤9223372036854775807
 | .a _=>True
 | .sl _ xs=>xs.length≤9223372036854775807∧boE xs
def boCs:List D→Prop
 | []=>True
 | x::xs=>boD x∧boCs xs
def boE:List D→Prop
 | []=>True
 | .a cs::xs=>boCs cs∧boE xs
 | y::xs=>boD y∧boE xs
end
section
variable {S:Nat→Prop}{w:World}
mutual
theorem rdC.bd:∀ {x:D} {v:Value},rdC S w x v→boD x
 | .i _ _,_,h=>by rw[boD];exact h.2
 | .b _,_,_=>by rw[boD];trivial
 | .s _,_,h=>by rw[boD];exact h.2
 | .a _,_,_=>by rw[boD];trivial
 | .sl k xs,v,h=>by
  rw[rdC] at h
  rw[boD]
  obtain⟨A,cap,cells,_,h2,h3,h4,_⟩:=h
  exact⟨Nat.le_trans h2 h3,h4.bd⟩
theorem rdCs.bd:∀ {xs:List D} {vs:List Value},rdCs S w xs vs→boCs xs
 | [],_,_=>by rw[boCs];trivial
 | x::xs,_,h=>by
  rw[rdCs] at h
  rw[boCs]
  obtain⟨v,r,_,h2,h3⟩:=h
  exact⟨h2.bd,h3.bd⟩
theorem rdE.bd {k:Nat}:∀ {xs:List D} {vs:List Value},rdE S w k xs vs→boE xs
 | [],_,_=>by rw[boE];trivial
 | .a cs::xs,_,h=>by
  rw[rdE] at h
  rw[boE]
  obtain⟨c,r,_,_,h3,h4⟩:=h
  exact⟨h3.bd,h4.bd⟩
 | .i _ _::xs,_,h=>by
  rw[rdE] at h
  rw[boE]
  ·obtain⟨c,r,_,_,⟨v,_,h3⟩,h4⟩:=h
   exact⟨h3.bd,h4.bd⟩
  ·intro _ e;cases e
 | .b _::xs,_,h=>by
  rw[rdE] at h
  rw[boE]
  ·obtain⟨c,r,_,_,⟨v,_,h3⟩,h4⟩:=h
   exact⟨h3.bd,h4.bd⟩
  ·intro _ e;cases e
 | .s _::xs,_,h=>by
  rw[rdE] at h
  rw[boE]
  ·obtain⟨c,r,_,_,⟨v,_,h3⟩,h4⟩:=h
   exact⟨h3.bd,h4.bd⟩
  ·intro _ e;cases e
 | .sl _ _::xs,_,h=>by
  rw[rdE] at h
  rw[boE]
  ·obtain⟨c,r,_,_,⟨v,_,h3⟩,h4⟩:=h
   exact⟨h3.bd,h4.bd⟩
  ·intro _ e;cases e
end
end
theorem k0g:∀ {xs:List D} {x:D},boE xs→x∈xs→boCs x.cells
 | y::xs,x,h,hx=>by
  rcases List.mem_cons.1 hx with rfl|hx
  ·cases x with
   | a cs=>rw[boE] at h;exact h.1
   | _=>
    rw[boE] at h
    ·rw[D.cells]
     ·rw[boCs,boCs];exact⟨h.1,trivial⟩
     ·intro _ e;cases e
    ·intro _ e;cases e
  ·refine k0g (xs:=xs) ?_ hx
   cases y with
   | a cs=>rw[boE] at h;exact h.2
   | _=>
    rw[boE] at h
    ·exact h.2
    ·intro _ e;cases e
theorem Ok.lawD {P:Program}{fid:Nat}{W:World}{axs:List X}{vs:List Value}(ha:vrs (SM (fun b=>b<W.heap.size) fun _=>False) W (fun _=>.none) axs vs){x:Bool}(hx:x=true)
  (h:Ok P fid axs [] (.d .fz (.b x)) []):Ret P fid vs.toArray W (fun _=>False) fun v w=>v=.bool true:=by
 have h:=h (fun b=>b<W.heap.size) (fun _=>False) (fun _=>.none) W vs (Sim.begin0 W) ha
 refine Calls.mono h fun e w' ⟨v,he,hc,F',g',_,hv⟩=>⟨v,he,⟨hc.os,hc.tape,hc.output,hc.size,fun k hk _=>hc.block k hk fun ⟨i,hi⟩=>by cases hi⟩,?_⟩
 subst hx
 exact hv
theorem k2z {S:Md→Nat→Prop}{w:World}{g:Nat→G}{x:X}{v:Value}{xs:List X}{vs:List Value}(h:vr S w g x v)(h2:vrs S w g xs vs):vrs S w g (x::xs) (v::vs):=⟨v,vs,rfl,h,h2⟩
theorem k6Y {S:Md→Nat→Prop}{w:World}{g:Nat→G}{m:Md}{xs:List D}{vs:List Value}(h:rdCs (S m) w xs vs):vr S w g (.ag (xs.map (dX m))) (.agg vs.toArray):=⟨vs,rfl,j9J h⟩
theorem q8g {x:D}{xs:List D}:boCs (x::xs)↔boD x∧boCs xs:=by rw[boCs]
theorem j3k {t:BA_}:boD (.s t)↔t.size≤9223372036854775807:=by rw[boD]
theorem z6J {α:Type}{f:α→D}{k:Nat}{xs:List α}(h:boD (.sl k (xs.map f))){x:α}(hx:x∈xs):boCs (f x).cells:=by
 rw[boD] at h;exact k0g h.2 (List.mem_map.2 ⟨x,hx,rfl⟩)
theorem z6K {α:Type}{f:α→D}{k:Nat}{xs:List α}(h:boD (.sl k (xs.map f))):xs.length≤9223372036854775807:=by
 rw[boD,lnM] at h;exact h.1
end Go.A
