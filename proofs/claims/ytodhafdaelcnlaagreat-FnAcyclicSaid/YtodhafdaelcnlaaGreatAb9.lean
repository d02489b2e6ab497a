/- Abstract states of a walk: plain lemmas on the model, without conditions of their own. -/
import Derived.Test.YtodhafdaelcnlaaGreatAb8
import Derived.KernelRfl
set_option linter.unusedVariables false
set_option linter.unusedSimpArgs false
set_option linter.ambiguousOpen false
set_option linter.unusedSectionVars false
set_option linter.unnecessarySimpa false
open Nat renaming lt_of_lt_of_le->Bfz,add_mul->Arz,le_refl->Acz
open List renaming replicate->Bqz,mem_cons_self->Ckz,map_cons->Blz,length_replicate->Ddz,replicate_succ->Dez,mem_singleton->Bpz
namespace Go.A
open Go Go.E
section
variable {S:Start}{F:Nat->Prop}{g:Nat->G}{w w' : World}{σ1:Nat->aw}
theorem bp.refill (hs:bp S F g σ1 w){r k:Nat}{m:Md}{es:List D}{v:Value}{L:List Nat}{gs:List (List GC)}{cs:List Value}(hg:g r=.row v k L gs)(hgb:cw gs=[])(hc:cF (λb=>b∈L) w w')(hown:bL w' k v es.length L cs)
  (hrd:(∀ m b o cs,SM F S.B m b->b<w.heap.size->At w b o cs->SM F S.B m b/\b<w'.heap.size/\At w' b o cs)->bg (SM F S.B m) w' k es cs):∃ g',bp S F g' (cg σ1 [(r,.row m k es)]) w'/\cj S.B F g w F g' w':=by
 have hbl0:bl (g r)=L:=by rw[hg];simp[bl,hgb]
 have hkp:=hs.keeps (F':=F) hc (λc hcL _=>⟨r,by rw[hbl0];exact hcL⟩) λ_ h=>h;obtain⟨gs',q1,q2,q3⟩:=p9 (S1:=SM F S.B) (hrd hkp);let g' : Nat->G:=λi=>if i=r then .row v k L gs' else g i
 have hg0:g' r=.row v k L gs':=by simp[g']
 have hbl' : bl (g' r)=L:=by rw[hg0];simp[bl,q3]
 refine⟨g',hs.step (M:=λb=>b∈L) (F':=F) (g':=g') (σ':=cg σ1 [(r,.row m k es)]) (· = r) hc (λc hc _=>⟨r,rfl,by rw[hbl0];exact hc⟩)
   (λi hi=>⟨by simp[g',hi],by rw[gH];simp[hi]⟩) (λi hi=>by subst hi;rw[hg,hg0];exact .inr ⟨L,gs',rfl⟩) (λ_ h=>h)
   (λc hc'=>⟨Bfz (hs.flt c hc') hc.size,.inl hc'⟩)
   (λ_ _ i hi=>by
    subst hi;rw[hg0,gH];simp only[if_true];exact⟨rfl,by rw[bn,q2];exact hown,q1⟩)
   (λi hi=>by subst hi;rw[hbl',← hbl0];exact hs.nodup i) (λi j hi hj hij=>absurd (hi.trans hj.symm) hij)
   (λi c hi hc'=>by
    subst hi;rw[hbl'] at hc';have hc0:c∈bl (g i):=by rw[hbl0];exact hc'
    obtain⟨K,a2,_⟩:=hs.own i c hc0;exact⟨Bfz K hc.size,a2,.inr ⟨i,rfl,hc0⟩⟩)⟩
end
section
variable {P:Program}{S:Start}{o:Oper}{ρ:AE}{σ:St}
theorem Qr {T e k r lo nn:Nat}{m:Md}{ds:List D}{d:D}{z:List Value}{x:Operand}(ho:o.op=.call { callee:=.builtin .clear,args:=#[x],argTypes:=#[T] })(hT:cY P T=some e)(hk:cn P e=some k)(hz:fO P e=some z)(hzd:∀ S1 w,rd1 S1 w d z)(hzl:z.length=k)
  (hx:aE ρ x=.vs r none lo nn) (hσ:ai σ r=.row m k ds) (hlo:lo<=ds.length) (hnn:nn=ds.length-lo):LT P S o ρ σ [] .u [(r,.row m k (ds.take lo++Bqz (ds.length-lo) d))]:=by
 intro σ1 F g w ρc hs hrd hwr hv;have hr1:σ1 r=.row m k ds:=(hwr (r,_) Ckz).trans hσ;have hroot:=hs.roots r;rw[hr1] at hroot;cases hg:g r<;>rw[hg] at hroot<;>try exact hroot.elim
 rename_i v k0 L gs;obtain⟨hk0,hrow⟩:=hroot;subst hk0;have e1:=hv x (by simp[ho,Op.operands,Call.operands]);rw[hx,vr,hg] at e1;obtain⟨A,n,cp,A',cp',U,W,h3,h4,h5,h6⟩:=e1 _ _ rfl;obtain⟨hown,hrdE,hgb,hno⟩:=kS hrow;have hz1:∀ u∈z,u.oneCell'=true:=rdCs.one (hzd (λ_=>True) w);obtain⟨v',hzv,hvc⟩:=uG (P:=P) (w:=w) hz;obtain⟨A2,c2,hv2,h7,h8⟩:=hown.form;rw[U] at hv2;have hn:n=ds.length:=by injection hv2
 have hru:∀ r:Result Next,r=.ok (.value (.tuple #[])) w->True:=λ_ _=>trivial;by_cases hlm:lo=ds.length;have hnn0:nn=0:=by omega
 rw[hnn0] at h3;have hrun:(Builtin.clear_ #[T] o.type #[E.ev ρc x]).run P w=.ok (.tuple #[]) w:=by
  rw[h3];cases A'<;>simp[Builtin.clear_,run_underlying (ga hT)]
 have he:(execOp (E.ev ρc) o).run P w=.ok (.value (.tuple #[])) w:=by
  simp only[execOp,ho,resolve,invoke,builtin,Sem.run_bind,Sem.run_pure,Result.andThen_ok,List.map_toArray,Blz,List.map_nil,hrun]
 rw[he];have hxs:ds.take lo++Bqz (ds.length-lo) d=ds:=by subst hlm;simp
 rw[hxs];refine⟨F,g,?_,cj.refl,by rw[vr];trivial⟩;have:cg σ1 [(r,.row m k0 ds)]=σ1:=by
  funext i;rw[gH];by_cases hi:i=r;subst hi;simp only[if_true,hr1];simp only[al hi]
 rw[this];exact hs;have hlt:lo<ds.length:=by omega
 obtain⟨eb,hO,hLv⟩:=hown;rcases hO.2 with ⟨_,h00⟩|⟨b,cap,cur,hvb,hb0,hgbk,hnc,hcm,hsz,htk⟩
 omega;have hLb:L=[b]:=by rw[hLv,hvb];simp[Value.ownBlock]
 rw[U] at hvb;injection hvb with f1 f2 f3;subst f1;subst f3;rcases h6 with h6|⟨b2,f4,f5⟩
 omega;injection f4 with f4;injection f4 with f4;subst f4;have hlen2:(bh z (ds.length-lo)).length=(ds.length-lo)*k0:=by rw[tO,hzl]
 have hcells:(Builtin.zeroCells v'.cells (ds.length-lo)).toList=bh z (ds.length-lo):=by
  rw[Zo,hvc];have:=B0 z.toArray (ds.length-lo);rw[this]
 have hfit:lo*k0+(ds.length-lo)*k0<=cur.size:=by
  rw[← Arz,hsz,show lo+(ds.length-lo)=ds.length by omega];exact Nat.mul_le_mul_right _ hnc
 have hst:=run_storeCells_at P b (lo*k0) eb (bh z (ds.length-lo)) 0 cur w hgbk (by rw[hlen2];simpa using hfit) (KQ hz1 _);have hrun:(Builtin.clear_ #[T] o.type #[E.ev ρc x]).run P w=.ok (.tuple #[]) (w.setRow b (cH cur.toList (lo*k0) (bh z (ds.length-lo))).toArray):=by
  rw[h3,f5];simp only[Nat.add_zero] at hst;have hsp:cH cur.toList (lo*k0) (bh z (ds.length-lo))=List.take (lo*k0) cur.toList++bh z (ds.length-lo)++List.drop (lo*k0+(bh z (ds.length-lo)).length) cur.toList:=rfl;rw[hsp];obtain⟨q,hq⟩:∃ q,ds.length-lo=q+1:=⟨ds.length-lo-1,by omega⟩
  rw[hnn,hq];rw[hq] at hcells hst;simp[Builtin.clear_,run_underlying (ga hT),hzv,hcells,hst]
 have he:(execOp (E.ev ρc) o).run P w=.ok (.value (.tuple #[])) (w.setRow b (cH cur.toList (lo*k0) (bh z (ds.length-lo))).toArray):=by
  simp only[execOp,ho,resolve,invoke,builtin,Sem.run_bind,Sem.run_pure,Result.andThen_ok,List.map_toArray,Blz,List.map_nil,hrun]
 rw[he];have hB:dE w b eb cur.toList:=by simpa[dE] using hgbk
 have hc:=AY w b (cH cur.toList (lo*k0) (bh z (ds.length-lo))).toArray;have hb' : dE (w.setRow b (cH cur.toList (lo*k0) (bh z (ds.length-lo))).toArray) b eb (cH cur.toList (lo*k0) (bh z (ds.length-lo))):=setRow_heap w b _ _ eb _ hgbk;have hcl:(bW gs).length=ds.length*k0:=hO.1;have hspl:cH (bW gs) (lo*k0) (bh z (ds.length-lo))=(bW gs).take (lo*k0)++bh z (ds.length-lo):=by
  unfold cH;rw[List.drop_eq_nil_of_le (by rw[hlen2,hcl,← Arz,show lo+(ds.length-lo)=ds.length by omega];exact Acz _),List.append_nil]
 have hst2:=hO.st (w':=w.setRow b (cH cur.toList (lo*k0) (bh z (ds.length-lo))).toArray) (by rw[U];rfl) hB (off:=lo*k0) (l:=bh z (ds.length-lo)) (by rw[hlen2,← Arz,show lo+(ds.length-lo)=ds.length by omega];exact Acz _) hb';obtain⟨g',k1,k2⟩:=hs.refill (es:=ds.take lo++Bqz (ds.length-lo) d) (m:=m) hg hgb (hc.mono λq _ e=>by rw[hLb];simp[e]) (cs:=cH (bW gs) (lo*k0) (bh z (ds.length-lo)))
  ⟨eb,by rw[List.length_append,List.length_take,Ddz,Nat.min_eq_left hlo,show lo+(ds.length-lo)=ds.length by omega];exact hst2,hLv⟩
  (λhkp=>by rw[hspl];exact ((hrdE.imp (hkp m)).take lo).append (by have:=E0 (hzd (SM F S.B m) (w.setRow b (cH cur.toList (lo*k0) (bh z (ds.length-lo))).toArray)) (ds.length-lo);rw[hzl] at this;exact this))
 exact⟨F,g',k1,k2,by rw[vr];trivial⟩
end
section
variable {P:Program}[ae P]{S:Start}{ops:Array Oper}{Q:AE->St->Prop}{o:Oper}{rest:List Oper}{ρ:AE}{σ:St}{d:Nat}{md:cU}{T e:Nat}{t te:TI}
theorem Bd {α:Type}{xs:List α}{lo j:Nat}{y:α}(h:xs[lo+j]?=some y):j<xs.length-lo:=by
 have:=(List.getElem?_eq_some_iff.1 h).1;omega
end
theorem a8 {α:Type}{l:List α}{j:Nat}{x y:α}(h:l[j]?=some x):(l.set j y)[j]?=some y:=by
 have:=(List.getElem?_eq_some_iff.1 h).1;simp[this]
theorem r7 {α β:Type}{f:α->β}{xs:List α}{j:Nat}{x:α}{l:List β}(h:xs[j]?=some x)(e:l=(xs.map f).set j (f x)):l=xs.map f:=by
 rw[e];exact UR (aW h)
theorem dm {α β:Type}{f:α->β}{xs:List α}{j:Nat}{x' : α}{l:List β}(e:l=(xs.map f).set j (f x')):l=(xs.set j x').map f:=by
 rw[e,List.map_set]
theorem wH (m:Md)(k:Nat)(xs:List D):jS (.o m k xs)=true∨m=.bo:=by
 cases m;exact .inl rfl;exact .inr rfl
def ry (m:Md):Cell->Cell
 | .o .fz k xs=>.o m k xs
 | c=>c
theorem WC {F:Nat->Prop}{B:Nat->Prop}{w:World}{m:Md}{c:Cell}{gc:GC}(h:aP (SM F B) w c gc):aP (SM F B) w (ry m c) gc:=by
 cases c with
 | o m' k xs=>
  cases m' with
  | fz=>
   obtain⟨U,W,cs,h3,h4⟩:=h;exact⟨U,W,cs,h3,h4.mono λb Y=>by cases m with|fz=>exact Y|bo=>exact .inl Y⟩
  | bo=>exact h
 | _=>exact h
theorem Fs {α β γ:Type}{R:γ->β->Prop}{R' : α->β->Prop}{f:α->γ}(h:∀ a b,R' a b->R (f a) b):∀ {as:List α} {bs:List β},aL R' as bs->aL R (as.map f) bs
 | [],_,h'=>h'
 | a::as,_,⟨b,r,U,W,h3⟩=>⟨b,r,U,h a b W,Fs h h3⟩
theorem Se {c:Cell}(h:jS c=true):jS (ry .fz c)=true:=by
 cases c with
 | o m' k xs=>cases m'<;>first|rfl|exact h
 | _=>exact h
theorem Qq {S:Start}{ρ:AE}{σ:St}{r k:Nat}{es:List (List Cell)}{hh:List (Nat×Nat×Nat)}(m:Md)(Z:ai σ r=.deep .fz k es hh):GH S ρ σ ρ (aK σ r (.deep m k (es.map λe=>e.map (ry m)) hh)):=by
 intro F g w ρc hs hv;refine⟨F,g,⟨hs.chg,hs.bB,hs.fmono,hs.fnew,hs.flt,λi=>?_,hs.low,hs.hdr,hs.nodup,hs.disj,hs.own⟩,hv⟩;rw[iY];by_cases hi:i=r;subst hi;rw[ao rfl];have h:=hs.roots i;rw[Z] at h;revert h;cases g i<;>intro h<;>try exact h.elim
 obtain⟨⟨U,W⟩,h3,h4⟩:=h;refine⟨⟨U,?_,?_⟩,h3,λhm=>?_⟩;have:=W.1;rw[bn];exact this;exact Fs (λe ge he=>⟨by rw[bn];exact he.1,Fs (λc gc hc=>WC hc) he.2⟩) W.2;subst hm;intro e he c hc;obtain⟨e0,he0,rfl⟩:=List.mem_map.1 he;obtain⟨c0,hc0,rfl⟩:=List.mem_map.1 hc;exact Se (h4 rfl e0 he0 c0 hc0);rw[al hi];exact hs.roots i
theorem Qb {α:Type}{S:Start}{ρ:AE}{σ:St}{k:Nat}{hh:List (Nat×Nat×Nat)}(r:Nat)(m:Md)(f f' : α->List Cell){xs:List α}(hf:∀ x,(f x).map (ry m)=f' x)(Z:ai σ r=.deep .fz k (xs.map f) hh:=by rfl):GH S ρ σ ρ (aK σ r (.deep m k (xs.map f') hh)):=by
 have h:=Qq (S:=S) (ρ:=ρ) m Z;have e:((xs.map f).map λe=>e.map (ry m))=xs.map f':=by
  rw[List.map_map];exact List.map_congr_left λx _=>hf x
 rw[e] at h;exact h
theorem Qo {P:Program}[ae P]{S:Start}{ops:Array Oper}{Q:AE->St->Prop}{rest:List Oper}{ρ:AE}{σ:St}{md:cU}{α:Type}{k:Nat}{hh:List (Nat×Nat×Nat)}(r:Nat)(m:Md)(f f' : α->List Cell){xs:List α}(hf:∀ x,(f x).map (ry m)=f' x)(h:AL P S ops Q (kC md) rest ρ (aK σ r (.deep m k (xs.map f') hh)))(Z:ai σ r=.deep .fz k (xs.map f) hh:=by rfl):AL P S ops Q md rest ρ σ:=AL.gh (Qb r m f f' hf Z) h
section
variable {P:Program}[ae P]{S:Start}{n:Nat}{ops:Array Oper}{Q:AE->St->Prop}{QP:cQ}{o:Oper}{rest:List Oper}{ρ:AE}{σ:St}{d:Nat}{md:cU}{T e:Nat}{t te:TI}{k:Nat}{m:Md}{es:List (List Cell)}{hh:List (Nat×Nat×Nat)}
theorem Gd {x i:Operand}{r:Nat}{m' : Md}{q:IntKind}{j:Int}{y:List Cell}(h0:0<=j)(hj:es[j.toNat]?=some y)(h:AL P S ops Q (aZ md [r] []) rest (av ρ d (.pe r none j.toNat 0)) σ)(ho:o.op=.indexAddr T x i:=by rfl)(hT:(ae.tab P).get T=some t:=by rfl)(he:t.el=some e:=by rfl)(hE:(ae.tab P).get e=some te:=by rfl)(hx:aE ρ x=.ref r none:=by rfl)(hσ:ai σ r=.deep m te.sz es hh:=by rfl)(hi:aE ρ i=.d m' (.i q j):=by rfl)(hd:o.dst=some d:=by rfl)(hg:aV ops ρ o=some true:=by rfl):AL P S ops Q md (o::rest) ρ σ:=
 bX (zJ ho (cD hT he hE).1 (cD hT he hE).2 hx (by rw[hσ];rfl) hi h0 hj) h hd hg
theorem AL.out (r j c q:Nat){el:List Cell}{cell:Cell}{x:aw}(hj:es[j]?=some el)(h:AL P S ops Q (kC md) rest ρ (aK (aK σ r (.deep m k (es.set j (spl el c [.u])) ((j,c,q)::hh))) q x))(hσ:ai σ r=.deep m k es hh:=by rfl)(hc:el[c]?=some cell:=by rfl)(hx:OC cell x:=by first|exact .row|exact .flatM (λ_=>rfl)|exact .ownM)(hq:ai σ q=.none:=by rfl):AL P S ops Q md rest ρ σ:=AL.gh (GH.out hσ hj hc hx hq) h
theorem HE {α:Type}(r:Nat)(f:α->List Cell)(h:AL P S ops Q (kC md) rest ρ (aK σ r (.deep m k (([]:List α).map f) [])))(hσ:ai σ r=.row m k []:=by rfl):AL P S ops Q md rest ρ σ:=AL.gh (H2 hσ rfl) h
theorem Qn {c0:Code}(r:Nat){es' : List (List Cell)}(hσ:ai σ r=.deep m k es hh:=by rfl)(he:es=es')(h:AW P S n c0 QP ρ (aK σ r (.deep m k es' hh))):AW P S n c0 QP ρ σ:=AW.gh (HZ hσ he) h
theorem pT {S:Start}{ρ:AE}{σ:St}(r j c q:Nat){el:List Cell}{cell:Cell}(hj:es[j]?=some el)(hσ:ai σ r=.deep m k es hh:=by rfl)(hc:Nat.blt c el.length=true:=by rfl)(hm:(j,c,q)∈hh:=by first|exact Ckz|simp)(hx:MC (ai σ q) cell:=by first|exact .row|exact .flatM (λ_=>rfl)|exact .ownM)(hf:jS cell=true∨m=.bo:=by first|exact .inl rfl|exact wH _ _ _)(hqr:Nat.beq q r=false:=by rfl) :
  GH S ρ σ ρ (aK (aK σ r (.deep m k (es.set j (spl el c [cell])) (kB hh c 1))) q .dead):=Qu hσ hj hc hm hx hf hqr
theorem fC {S:Start}{ρ:AE}{σ:St}(r:Nat){es' : List (List Cell)}(hσ:ai σ r=.deep m k es hh:=by rfl)(he:es=es'):GH S ρ σ ρ (aK σ r (.deep m k es' hh)):=HZ hσ he
theorem NP {x:Operand}{r j c:Nat}{el:List Cell}{cell:Cell}{y:X}(hx' : List (Nat×Nat))(hj:es[j]?=some el)(h:AL P S ops Q (aZ md [r] []) rest (av ρ d y) σ)(ho:o.op=.load T x:=by rfl)(hT:(ae.tab P).get T=some t:=by rfl)(ha:t.agg=false:=by rfl)(hx:aE ρ x=.pe r none j c:=by rfl)(hσ:ai σ r=.deep m k es hh:=by rfl)(hhx:hh=hx'.map (λp=>(j,p.1,p.2)):=by rfl)(hc:el[c]?=some cell:=by rfl)(hy:ma hx' c cell=some y:=by rfl)(hd:o.dst=some d:=by rfl)(hg:aV ops ρ o=some true:=by rfl):AL P S ops Q md (o::rest) ρ σ:=
 bX (zK (hx':=hx') (p:=(k,es)) ho (by rw[TI.agg' (bK.chk ae.ok hT),ha]) hx (by rw[hσ];rfl) hj hc (.inr ⟨m,k,es,by rw[hσ,hhx]⟩) hy) h hd hg
theorem SD {x y:Operand}{Z4:X}{r j c:Nat}{el:List Cell}(cells:List Cell)(qs:List Nat)(hj:es[j]?=some el)(h:AL P S ops Q (aZ md [] (r::qs)) rest ρ (bc σ ((r,.deep m k (es.set j (spl el c cells)) (kB hh c t.sz))::qs.map λq=>(q,.dead))))(ho:o.op=.store T x y:=by rfl)(hT:(ae.tab P).get T=some t:=by rfl)(hx:aE ρ x=.pe r none j c:=by rfl)(hσ:ai σ r=.deep m k es hh:=by rfl)(hy:aE ρ y=Z4:=by rfl)
  (hn:NC (ai σ) m Z4.cells cells qs:=by repeat (first|exact .nil|refine .d (.inl rfl) ?_|refine .nlo (m':=.fz) ?_|refine .ref .row (.inl rfl) ?_|refine .ref .row (wH _ _ _) ?_|refine .nlw (m':=.fz) ?_|refine .ref (MC.flatM (λ_=>rfl)) (.inl rfl) ?_|refine .ref MC.ownM (.inl rfl) ?_)) (hl:Z4.cells.length=t.sz:=by rfl) (hf:Nat.ble (c+t.sz) k=true:=by rfl) (hnd:j8 (r::qs)=true:=by rfl) (hs:gm (ai σ) Z4=true:=by rfl) (hd:o.dst=none:=by rfl) (hg:aV ops ρ o=some true:=by rfl):AL P S ops Q md (o::rest) ρ σ:=by
 refine rW (HJ ho (TI.sz' (bK.chk ae.ok hT)) hx hσ hj hy hn hl hf hnd hs) ?_ hd hg;have e:((r,aw.deep m k (es.set j (spl el c cells)) (kB hh c t.sz))::qs.map λq=>(q,aw.dead)).map (·.1)=r::qs:=by
  rw[Blz,List.map_map];exact congrArg _ (List.map_id _)
 rw[e];exact h
theorem APD {α:Type}{f:α->List Cell}{s x:Operand}{xs ys:List α}{zs:List X}{r r2 b1:Nat}(r' : Nat)(B:Nat)(hmax:((xs.length:Int)+(ys.length:Int))*(B:Int)<=140737488355328/\(xs.length:Int)+(ys.length:Int)<=9223372036854775807)(h:AL P S ops Q (aZ md [] [r,r2,r']) rest (av ρ d (.ref r' none)) (bc σ [(r,.dead),(r2,.dead),(r',.deep m te.sz ((xs++ys).map f) [])]))
  (ho:o.op=.call { callee:=.builtin .append,args:=#[s,x],argTypes:=#[T,T] }:=by rfl) (hT:(ae.tab P).get T=some t:=by rfl) (he:t.el=some e:=by rfl) (hE:(ae.tab P).get e=some te:=by rfl) (hs:aE ρ s=.ref r none:=by rfl) (hx:aE ρ x=.ref r2 none:=by rfl) (hσ:ai σ r=.deep m te.sz (xs.map f) []:=by rfl) (hσ2:ai σ r2=.deep m te.sz (ys.map f) []:=by rfl) (hz:te.z=some zs:=by rfl) (Y:te.by_=b1+1:=by rfl) (hzl:zs.length=te.sz:=by rfl) (hk0:Nat.blt 0 te.sz=true:=by rfl) (Z:ai σ r'=.none:=by rfl) (hne:Nat.beq r r2=false:=by rfl) (hB:te.by_=B:=by rfl) (hd:o.dst=some d:=by rfl) (hg:aV ops ρ o=some true:=by rfl):AL P S ops Q md (o::rest) ρ σ:=by
 obtain⟨z,U,W⟩:=TI.z' (bK.chk ae.ok hE) hz;refine bX (HY (r':=r') ho (cD hT he hE).1 (cD hT he hE).2 (TI.by' (bK.chk ae.ok hE) Y) U (by rw[← hzl,← (W (λ_ _=>True) default (λ_=>.none)).len]) hk0 hs hσ hx hσ2 ?_ ?_ Z hne) (by rw[← List.map_append];exact h) hd hg;simp only[bn];have:=hmax.1;rw[hB,← Int.natCast_add,← Int.natCast_mul] at *;omega;simp only[bn];show _<=9223372036854775807;have:=hmax.2;omega
end
theorem T4 {α β:Type}{f:α->β}{xs:List α}{lo:Nat}:((xs.map f).drop lo).take (xs.length-lo)=(xs.drop lo).map f:=by
 rw[← List.map_drop];exact List.take_of_length_le (by simp)
theorem Qm {S:Start}{ρ:AE}{σ:St}(t:Nat)(x:X)(h:ρ t=x):GH S ρ σ (av ρ t x) σ:=λF g w ρc hs hv=>⟨F,g,hs,λu=>by
 simp only[av];rcases bq (r:=u) (i:=t) with ⟨Y,e⟩|⟨Y,e⟩
 rw[Y,cond_true,← h,e];exact hv t;rw[Y,cond_false];exact hv u⟩
theorem DAs {α:Type}{σ:Nat->aw}{r k j:Nat}{m:Md}{f:α->List Cell}{D0:α->D}{xs:List α}{x x' : α}{e:List Cell}{es:List (List Cell)}(hf:∀ x,DR (f x) (D0 x))(hx:xs[j]?=some x)(he:DR e (D0 x'))(hes:es=(xs.map f).set j e)(h:σ r=.deep m k es []):b9 σ r m k ((xs.set j x').map D0) [r]:=by
 subst hes;refine .deep h ?_ rfl rfl;rw[List.map_set];exact (aL.map hf xs).set he
theorem Qa {α:Type}{S:Start}{ρ:AE}{σ:St}{k j:Nat}{m:Md}{f:α->List Cell}{xs:List α}{x:α}{e:List Cell}{es:List (List Cell)}(r:Nat)(D0:α->D)(x' : α)(hf:∀ x,DR (f x) (D0 x))(hx:xs[j]?=some x)(hes:es=(xs.map f).set j e)(h:ai σ r=.deep m k es [])(he:DR e (D0 x')):GH S ρ σ (λt=>dP r m k ((xs.set j x').map D0) (ρ t)) (gO r m k ((xs.set j x').map D0) 0 σ):=zM (DAs hf hx he hes h)
theorem fG {α:Type}{S:Start}{ρ:AE}{σ:St}{k:Nat}{m:Md}{f:α->List Cell}{xs:List α}(r:Nat)(D0:α->D)(hf:∀ x,DR (f x) (D0 x))(h:ai σ r=.deep m k (xs.map f) []):GH S ρ σ (λt=>dP r m k (xs.map D0) (ρ t)) (gO r m k (xs.map D0) 0 σ):=zM (DA hf h)
section
variable {P:Program}[ae P]{S:Start}{n:Nat}{ops:Array Oper}{Q:AE->St->Prop}{QP:cQ}{rest:List Oper}{ρ:AE}{σ:St}{md:cU}{k:Nat}{m:Md}
theorem HH {α:Type}{f:α->List Cell}{xs:List α}(r:Nat)(D0:α->D)(hf:∀ x,DR (f x) (D0 x))(hσ:ai σ r=.deep m k (xs.map f) [])(h:AL P S ops Q (kC md) rest (λt=>dP r m k (xs.map D0) (ρ t)) (gO r m k (xs.map D0) 0 σ)):AL P S ops Q md rest ρ σ:=AL.gh (fG r D0 hf hσ) h
end
theorem LR {ge:List GC}:∀ n,bW (Bqz n ge)=bh (ge.map (·.val)) n
 | 0=>rfl
 | n+1=>by rw[Dez,kh,LR n];rfl
theorem JP {ge:List GC}(h:ge.flatMap (·.L)=[]):∀ n,cw (Bqz n ge)=[]
 | 0=>rfl
 | n+1=>by rw[Dez,lP,h,JP h n];rfl
theorem aL.rep {α β:Type}{R:α->β->Prop}{a:α}{b:β}(h:R a b):∀ n,aL R (Bqz n a) (Bqz n b)
 | 0=>rfl
 | n+1=>⟨b,_,rfl,h,aL.rep h n⟩
theorem Ql {P:Program}{S:Start}{ρ:AE}{σ:St}{o:Oper}{T e k b r:Nat}{z:List Value}{zs:List X}{cells:List Cell}{l c:Operand}{m1 m2:Md}{q q' : IntKind}{j:Int}(ho:o.op=.makeSlice T l c)(hT:cY P T=some e)(hk:cn P e=some k)(Y:mg P e=some b)(hz:fO P e=some z)(hzk:z.length=k)(hl:aE ρ l=.d m1 (.i q j))(hc:aE ρ c=.d m2 (.i q' j))
  (hzs:∀ S1 w g,aQ S1 w g zs z) (hn:NC (ai σ) .fz zs cells []) (h0:0<=j) (hm:j<=9223372036854775807) (hbm:(b:Int)*j<=281474976710656) (Z:ai σ r=.none):LT P S o ρ σ [] (.ref r none) [(r,.deep .fz k (Bqz j.toNat cells) [])]:=by
 intro σ1 F g w ρc hs _ hwr hv;have hr1:σ1 r=.none:=(hwr (r,_) (List.mem_singleton.2 rfl)).trans Z;obtain⟨i,v,hi,hik,hib,hiv,hvc⟩:=Av hk Y hz;have hrun:=run_make (P:=P) (w:=w) T e i v (ga hT) hi hiv q q' j j h0 (Int.le_refl _) (by rw[hib];exact hbm) hm;have hcells:madeCells v.cells (j.toNat*i.size)=(bh z j.toNat).toArray:=by
  have:=B0 v.cells j.toNat
  rw[hvc] at this ⊢;simp only[List.size_toArray,hzk] at this;rw[hik];simpa using this
 have e1:=hv l (by simp[ho,Op.operands]);have e2:=hv c (by simp[ho,Op.operands]);rw[hl,vr,rdC] at e1;rw[hc,vr,rdC] at e2;have he:(execOp (E.ev ρc) o).run P w=.ok (.value (.slice (some ⟨w.heap.size,0,none⟩) j.toNat j.toNat)) (w.alloc (.cells (bh z j.toNat).toArray e)):=by
  rw[hcells] at hrun;simp only[execOp,ho,e1,e2,Sem.run_bind,hrun,Result.andThen_ok,Sem.run_pure]
 rw[he];have hx:=cd.alloc w (.cells (bh z j.toNat).toArray e);obtain⟨news,n1,n2,n3,n4,n5⟩:=(hn.congr (σ1:=σ1) λq hq=>by cases hq).ok hs (hzs (SM F S.B) w g);have hlen:(bh z j.toNat).length=j.toNat*k:=by rw[tO,hzk]
 have hbk:=mF w e (bh z j.toNat);have hg1:bW (Bqz j.toNat news)=bh z j.toNat:=by rw[LR,n2]
 have hg2:cw (Bqz j.toNat news)=[]:=JP (by simpa using n3) _;have hLn:∀ b,b∈news.flatMap (·.L)->False:=λb Y=>by rw[n3] at Y;cases Y
 have hnl:news.length=k:=by rw[← hzk,← n2,bn]
 have hkp:∀ m b o cs,SM F S.B m b->b<w.heap.size->At w b o cs->SM F S.B m b/\b<(w.alloc (.cells (bh z j.toNat).toArray e)).heap.size/\At (w.alloc (.cells (bh z j.toNat).toArray e)) b o cs:=λm b o cs Y hlt hat=>⟨Y,Bfz hlt hx.size,hat.frame' λhl=>hx.block b hl λh=>h⟩
 obtain⟨h4,h5⟩:=hs.new (r:=r) (x:=.deep .fz k (Bqz j.toNat cells) []) (y:=.row (.slice (some ⟨w.heap.size,0,none⟩) j.toNat j.toNat) k [w.heap.size] (Bqz j.toNat news)) hr1 hx (λ_ _=>by
   refine⟨⟨rfl,⟨e,⟨?_,.inr ⟨w.heap.size,j.toNat,(bh z j.toNat).toArray,by simp,Nat.zero_le _,hbk,by simp,by show _<=9223372036854775807;omega,by simpa using hlen,?_⟩⟩,by simp[Value.ownBlock]⟩,aL.rep ⟨by rw[← n1.len,hnl],aP.keepL hkp n1 λb_ hb_=>(hLn b_ hb_).elim⟩ _⟩,bj.nil,λ_=>?_⟩;rw[hg1,hlen];simp;rw[hg1];simp only[Ddz,List.toList_toArray,Nat.zero_mul,List.drop_zero];rw[← hlen,List.take_length];intro x hxe c hce;rw[List.eq_of_mem_replicate hxe] at hce;exact n5 rfl _ hce)
  (by simp[bl,hg2]) (by simp only[bl,hg2,List.append_nil,Bpz];rintro b rfl;exact⟨Acz _,hbk.lt⟩)
 refine⟨F,_,h4,h5,?_⟩;rw[vr];simp only[if_true];intro u q hu;simp only[G.at] at hu;cases hu;rfl
section
variable {P:Program}[ae P]{S:Start}{n:Nat}{ops:Array Oper}{Q:AE->St->Prop}{QP:cQ}{o:Oper}{rest:List Oper}{ρ:AE}{σ:St}{d:Nat}{md:cU}{T e:Nat}{t te:TI}{k:Nat}{m:Md}
theorem NO {α:Type}{f:α->List Cell}{l c:Operand}{m1 m2:Md}{q q' : IntKind}{j:Int}{zs:List X}{b1:Nat}(r:Nat)(z:α)(h0:0<=j)(hbm:j*(te.by_:Int)<=281474976710656)(hm:j<=9223372036854775807)(h:AL P S ops Q (aZ md [] [r]) rest (av ρ d (.ref r none)) (aK σ r (.deep .fz te.sz ((Bqz j.toNat z).map f) [])))(ho:o.op=.makeSlice T l c:=by rfl)(hT:(ae.tab P).get T=some t:=by rfl)(he:t.el=some e:=by rfl)(hE:(ae.tab P).get e=some te:=by rfl)(hz:te.z=some zs:=by rfl)(Y:te.by_=b1+1:=by rfl)(hzl:zs.length=te.sz:=by rfl)(hl:aE ρ l=.d m1 (.i q j):=by rfl)(hc:aE ρ c=.d m2 (.i q' j):=by rfl)(hn:NC (ai σ) .fz zs (f z) []:=by repeat (first|exact .nil|refine .d (.inl rfl) ?_|refine .nlw (m':=.fz) ?_|refine .nlo (m':=.fz) ?_))(Z:ai σ r=.none:=by rfl)(hd:o.dst=some d:=by rfl)(hg:aV ops ρ o=some true:=by rfl):AL P S ops Q md (o::rest) ρ σ:=by
 obtain⟨z0,U,W⟩:=TI.z' (bK.chk ae.ok hE) hz;exact bX (Ql ho (cD hT he hE).1 (cD hT he hE).2 (TI.by' (bK.chk ae.ok hE) Y) U (by rw[← hzl,← (W (λ_ _=>True) default (λ_=>.none)).len]) hl hc W hn h0 hm (by rw[Int.mul_comm];exact hbm) Z) (by rw[List.map_replicate] at h;exact h) hd hg
omit [ae P] in
end
section
variable {S:Start}{F:Nat->Prop}{g:Nat->G}{w:World}{σ1:Nat->aw}
theorem bp.frz (hs:bp S F g σ1 w){r:Nat}{m:Md}{k:Nat}{xs:List D}(hr1:σ1 r=.row m k xs):∃ F' g',bp S F' g' (λi=>if i=r then .dead else σ1 i) w/\cj S.B F g w F' g' w/\∀ x v,vr (SM F S.B) w g x v->vr (SM F' S.B) w g' (dP r m k xs x) v:=by
 obtain⟨v,L,gs,cs,hg,hown,hrd,hLb⟩:=wF hs (.row hr1 rfl);let F' : Nat->Prop:=λb=>F b∨b∈bl (g r);have hF:∀ b,F b->F' b:=λb Y=>.inl Y;have up:∀ m b,SM F S.B m b->SM F' S.B m b:=λm b Y=>by
  cases m with
  | fz=>exact .inl Y
  | bo=>exact Y.imp .inl id
 have hL' : ∀ b∈bl (g r),SM F' S.B m b:=λb Y=>by
  cases m with
  | fz=>exact .inr Y
  | bo=>exact .inl (.inr Y)
 have hrd' : bg (SM F' S.B m) w k xs cs:=hrd.mono λb Y=>by
  rcases Y with Y|⟨q,hq,Y⟩
  exact up m b Y;rw[Bpz] at hq;subst hq;exact hL' b Y
 have hd:rdC (SM F' S.B m) w (.sl k xs) v:=wE hown hrd' λb Y=>hL' b (hLb b Y);have hpart:∀ lo n v',ml v k lo n v'->rdC (SM F' S.B m) w (.sl k ((xs.drop lo).take n)) v':=λlo n v' hp=>AO hown hrd' (λb Y=>hL' b (hLb b Y)) hp;have hlt:∀ b,F' b->b<w.heap.size:=λb Y=>Y.elim (hs.flt b) λY=>(hs.own r b Y).1;have ha:∀ q,da (g q) ((λi=>if i=r then .dead else g i) q):=λq=>by
  by_cases hq:q=r;subst hq;simp only[if_true];rw[hg];exact .inl rfl;simp only[al hq];exact da.refl _
 have hp:∀ {x:X} {v:Value},vr (SM F S.B) w g x v->vr (SM F' S.B) w (λi=>if i=r then .dead else g i) x v:=λh=>h.adv (λm b o cs U W h3=>⟨up m b U,W,h3⟩) ha;have hps:∀ {x:List X} {v:List Value},aQ (SM F S.B) w g x v->aQ (SM F' S.B) w (λi=>if i=r then .dead else g i) x v:=λh=>h.adv (λm b o cs U W h3=>⟨up m b U,W,h3⟩) ha;refine⟨F',λi=>if i=r then .dead else g i,⟨hs.chg,hs.bB,λb Y=>.inl (hs.fmono b Y),λb Y=>?_,hlt,λi=>?_,hs.low,λi=>?_,λi=>?_,λi j hij b Y=>?_,λi b Y=>?_⟩,λx v h=>hp h,λx v h=>wg hg hF hd hpart h⟩;rcases Y with Y|Y;exact hs.fnew b Y;exact .inr (hs.own r b Y).2.2.2;by_cases hi:i=r;subst hi;simp only[if_true];trivial;simp only[al hi];have U:=hs.roots i;revert U;cases σ1 i<;>intro U<;>cases hgi:g i<;>rw[hgi] at U<;>try exact U.elim
 trivial;trivial;obtain⟨vs,W,h3⟩:=U;exact⟨vs,W,hps h3⟩;exact⟨U.1,kb U.2 up⟩;exact⟨⟨U.1.1,kb U.1.2 up⟩,U.2.1.adv ha,U.2.2⟩;by_cases hi:i=r;subst hi;simp only[if_true];have:=hs.hdr i;rw[hg] at this;revert this;cases S.g0 i<;>intro h;trivial;cases h;rcases h with h|h<;>cases h;exact .inl rfl;simp only[al hi];exact hs.hdr i;by_cases hi:i=r;simp only[ao hi,bl];exact List.nodup_nil;simp only[al hi];exact hs.nodup i;by_cases hi:i=r;simp only[ao hi,bl] at Y;cases Y;simp only[al hi] at Y;by_cases hj:j=r;simp only[ao hj,bl];exact List.not_mem_nil;simp only[al hj];exact hs.disj i j hij b Y;by_cases hi:i=r;simp only[ao hi,bl] at Y;cases Y;simp only[al hi] at Y;obtain⟨U,W,h3,h4⟩:=hs.own i b Y;refine⟨U,λhf=>?_,h3,h4⟩;rcases hf with hf|hf;exact W hf;exact hs.disj i r hi b Y hf
end
section
variable {P:Program}[ae P]{S:Start}{ops:Array Oper}{Q:AE->St->Prop}{o:Oper}{rest:List Oper}{ρ:AE}{σ:St}{d:Nat}{md:cU}
theorem EU:∀ (wr:List (Nat×aw)) (σ:Nat->aw) (r:Nat) (x:aw),cg σ (wr++[(r,x)])=λi=>if i=r then x else cg σ wr i
 | [],σ,r,x=>rfl
 | (i,y)::l,σ,r,x=>by rw[List.cons_append,cg,EU l,cg]
theorem Bb {P:Program}{R R' : Value->World->Prop}(hR:∀ v w,R v w->R' v w):∀ {x:Result Next},lj P R x->lj P R' x:=by
 intro x h;cases x with
 | ok n w=>
  cases n with
  | value u=>exact hR _ _ h
  | skip=>exact hR _ _ h
  | enter f args=>exact Calls.mono h λe w' ⟨v,U,W⟩=>⟨v,U,hR _ _ W⟩
  | _=>exact h.elim
 | _=>exact h.elim
theorem LT.frz {rd:List Nat}{v:X}{wr:List (Nat×aw)}{r:Nat}{m:Md}{k:Nat}{xs:List D}(h:LT P S o ρ σ rd v wr)(Z:∀ σ1,cg σ1 wr r=.row m k xs):LT P S o ρ σ rd (dP r m k xs v) (wr++[(r,.dead)]):=by
 intro σ1 F g w ρc U W h3 h4;refine Bb ?_ (h σ1 F g w ρc U W (λp hp=>h3 p (by simp[hp])) h4);rintro vc w' ⟨F',g',h5,h6,h7⟩;obtain⟨F2,g2,k1,k2,k3⟩:=h5.frz (Z σ1);exact⟨F2,g2,by rw[EU];exact k1,λx v hx=>k2 x v (h6 x v hx),k3 _ _ h7⟩
theorem CBz {m:Md}{k:Nat}{xs:List D}{f:Nat}{c:Call}{x:Operand}{caps axs args:List X}{pre post:St}{res:X}(r:Nat)(ren:List (Nat×Nat))(vw:List Nat)(ok:Ok P f args pre res post)(h:AL P S ops Q (aZ md vw (((ren.map λ(p:Nat×Nat)=>(p.2,fu ren (ai post p.1)))++[(r,aw.dead)]).map (·.1))) rest (av ρ d (dP r m k xs (ba ren res))) (bc σ ((ren.map λ(p:Nat×Nat)=>(p.2,fu ren (ai post p.1)))++[(r,aw.dead)])))
  (ho:o.op=.call c:=by rfl) (hc:c.callee=.value x:=by rfl) (hx:aE ρ x=.fn f caps:=by rfl) (hcb:iC P f=true:=by kernel_rfl) (ha:c.args.toList.map (aE ρ)++caps=axs:=by rfl) (hp:cu (ai σ) ren vw axs args:=by repeat (first|exact .nil|refine .cons ?_ ?_|exact .same|exact .ag (.cons .same (.cons .same .nil))|refine .ag ?_|exact .d rfl|exact .d j7|exact .nld|exact .nl|exact .rd rfl rfl|exact .vd rfl rfl|exact .pb rfl|exact .ref rfl|refine .fn ?_|exact .pf rfl|exact .pf j7|exact .dd (DA (by exact λ_=>rfl) rfl) rfl|exact .dd (DA jm.rd rfl) rfl|(refine .dd (DAh (x:=?x) jm.rd ?hx0 rfl rfl rfl ?he0) rfl;(case hx0=>assumption);(case he0=>rfl))|exact .u))
  (hpre:dp (ai σ) (ai pre) ren ren:=by repeat (first|exact trivial|refine And.intro rfl ?_)) (hchk:mj ren vw pre post res=true:=by rfl) (hz:∀ σ1,cg σ1 (ren.map λp=>(p.2,fu ren (ai post p.1))) r=.row m k xs:=by exact λ_=>rfl) (hd:o.dst=some d:=by rfl) (hg:aV ops ρ o=some true:=by rfl):AL P S ops Q md (o::rest) ρ σ:=
 bX ((vI ren vw ho hc hx hcb ha ok hp hpre hchk).frz hz) h hd hg
end
theorem eR {S:Start}{ρ:AE}{σ:St}{n0:Nat}(hS:S.n0=n0)(l:List (Nat×Nat))(n:Nat){L:List (Nat×X)}{σt:St}(hL:sA l ρ L:=by repeat (first|exact trivial|refine And.intro (.of (by kernel_rfl)) ?_))(hσ:fv l n σ=σt:=by kernel_rfl)(hc:np l n0 n σ=true:=by kernel_rfl):GH S ρ σ (ofX L) σt:=GH.ren hS l n hL hσ hc
theorem Ke {f:UInt8->D}(hf:∀ b,f b=.i .u8 (b.toNat:Int)){S:Nat->Prop}{w:World}:∀ {a:List UInt8} {cs:List Value},eP S w a cs->bg S w 1 (a.map f) cs
 | [],_,h=>by rw[show _=[] from h];rfl
 | x::xs,cs,h=>by
  obtain⟨c,r,U,W,h3⟩:=h;have W:c=[.int .u8 (x.toNat:Int)]:=W;subst W;rw[Blz,gF];refine⟨_,r,U,rfl,?_,Ke hf h3⟩;rw[hf x];have hx:=x.toNat_lt;exact⟨_,_,rfl,⟨rfl,by omega,by omega⟩,rfl⟩
theorem UP {f:UInt8->D}(hf:∀ b,f b=.i .u8 (b.toNat:Int)){w:World}{a:List UInt8}{z:Value}(h:uL (λ_=>True) w a z):rdC (λb=>b<w.heap.size) w (.sl 1 (a.map f)) z:=by
 have h0:Rep.rd (λ_=>True) w a [z]:=⟨z,rfl,h⟩
 obtain⟨z',e,h⟩:=Rep.bound h0;injection e with e;subst e;obtain⟨A',cap,cells,U,W,h3,h4,h5⟩:=h;rw[rdC];refine⟨A',cap,cells,by rw[bn];exact U,by rw[bn];exact W,h3,Ke hf (h4.mono λb Y=>Y.2),?_⟩;rcases h5 with h5|⟨b,o,e,Y,ha⟩
 exact .inl (by rw[h5];rfl);exact .inr ⟨b,o,e,Y.2,Y.2,ha⟩
theorem bp.begin0 (w:World):bp (oo w (λb=>b<w.heap.size) (λ_=>False) (λ_=>.none) 0) (λb=>b<w.heap.size) (λ_=>.none) (ai []) w where
 chg:=cF.refl w
 bB b h:=h.elim
 fmono b h:=h
 fnew b h:=.inl h
 flt b h:=h
 roots i:=trivial
 low i _:=rfl
 hdr i:=trivial
 nodup i:=List.nodup_nil
 disj i j _ b h:=by cases h
 own i b h:=by cases h
theorem Ok.law {P:Program}{fid:Nat}{f:UInt8->D}(hf:∀ b,f b=.i .u8 (b.toNat:Int)){Z6:World}{a:List UInt8}{z:Value}(ha:uL (λ_=>True) Z6 a z){x:Bool}(hx:x=true)
  (h:Ok P fid [.d .fz (.sl 1 (a.map f))] [] (.d .fz (.b x)) []):nv P fid #[z] Z6 (λ_=>False) λv w=>v=.bool true:=by
 have h:=h (λb=>b<Z6.heap.size) (λ_=>False) (λ_=>.none) Z6 [z] (bp.begin0 Z6) ⟨z,[],rfl,UP hf ha,rfl⟩;refine Calls.mono h λe w' ⟨v,he,hc,F',g',_,hv⟩=>⟨v,he,⟨hc.os,hc.tape,hc.output,hc.size,λk hk _=>hc.block k hk λ⟨i,hi⟩=>by cases hi⟩,?_⟩
 subst hx;exact hv
end Go.A
