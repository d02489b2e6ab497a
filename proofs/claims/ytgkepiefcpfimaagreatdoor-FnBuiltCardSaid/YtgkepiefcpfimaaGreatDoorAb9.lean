/- Abstract states of a walk: plain lemmas on the model, without conditions of their own. -/
import Derived.Test.YtgkepiefcpfimaaGreatDoorAb8
import Derived.KernelRfl
set_option linter.unusedVariables false
set_option linter.unusedSimpArgs false
set_option linter.ambiguousOpen false
set_option linter.unusedSectionVars false
set_option linter.unnecessarySimpa false
open Nat renaming lt_of_lt_of_le→Bfz,add_mul→Arz
open List renaming replicate→Bqz,mem_cons_self→Ckz,map_toArray→Dcz,map_cons→Blz,map_nil→Ddz,drop_eq_nil_of_le→Dez,range→Amz
namespace Go.A
open Go Go.E
section
variable {S:Start}{F:Nat→Prop}{g:Nat→G}{w w' : World}{σ1:Nat→Root}
theorem Sim.refill (hs:Sim S F g σ1 w){r k:Nat}{m:Md}{es:List D}{v:Value}{L:List Nat}{gs:List (List GC)}{cs:List Value}(hg:g r=.row v k L gs)(hgb:gbl gs=[])(hc:Chg (fun b=>b∈L) w w')(hown:OwnR w' k v es.length L cs)
  (hrd:(∀ m b o cs,SM F S.B m b→b<w.heap.size→At w b o cs→SM F S.B m b∧b<w'.heap.size∧At w' b o cs)→rdE (SM F S.B m) w' k es cs):∃ g',Sim S F g' (owr σ1 [(r,.row m k es)]) w'∧Pres S.B F g w F g' w':=by
 have hbl0:bl (g r)=L:=by rw[hg];simp[bl,hgb]
 have hkp:=hs.keeps (F':=F) hc (fun c hcL _=>⟨r,by rw[hbl0];exact hcL⟩) fun _ h=>h
 obtain⟨gs',q1,q2,q3⟩:=j8H (S1:=SM F S.B) (hrd hkp)
 let g' : Nat→G:=fun i=>if i=r then .row v k L gs' else g i
 have hg0:g' r=.row v k L gs':=by simp[g']
 have hbl' : bl (g' r)=L:=by rw[hg0];simp[bl,q3]
 refine⟨g',hs.step (M:=fun b=>b∈L) (F':=F) (g':=g') (σ':=owr σ1 [(r,.row m k es)]) (· = r) hc (fun c hc _=>⟨r,rfl,by rw[hbl0];exact hc⟩)
   (fun i hi=>⟨by simp[g',hi],by rw[owr1];simp[hi]⟩) (fun i hi=>by subst hi;rw[hg,hg0];exact .inr ⟨L,gs',rfl⟩) (fun _ h=>h)
   (fun c hc'=>⟨Bfz (hs.flt c hc') hc.size,.inl hc'⟩)
   (fun _ _ i hi=>by
    subst hi
    rw[hg0,owr1]
    simp only[if_true]
    exact⟨rfl,by rw[lnM,q2];exact hown,q1⟩)
   (fun i hi=>by subst hi;rw[hbl',← hbl0];exact hs.nodup i) (fun i j hi hj hij=>absurd (hi.trans hj.symm) hij)
   (fun i c hi hc'=>by
    subst hi
    rw[hbl'] at hc'
    have hc0:c∈bl (g i):=by rw[hbl0];exact hc'
    obtain⟨a1,a2,_⟩:=hs.own i c hc0
    exact⟨Bfz a1 hc.size,a2,.inr ⟨i,rfl,hc0⟩⟩)⟩
end
section
variable {P:Program}{S:Start}{o:Oper}{ρ:AE}{σ:St}
theorem q3L {T e k r lo nn:Nat}{m:Md}{ds:List D}{d:D}{z:List Value}{x:Operand}(ho:o.op=.call { callee:=.builtin .clear,args:=#[x],argTypes:=#[T] })(hT:q9n P T=some e)(hk:szT P e=some k)(hz:z5t P e=some z)(hzd:∀ S1 w,rd1 S1 w d z)(hzl:z.length=k)
  (hx:evX ρ x=.vs r none lo nn) (hσ:fnOf σ r=.row m k ds) (hlo:lo≤ds.length) (hnn:nn=ds.length-lo):LT P S o ρ σ [] .u [(r,.row m k (ds.take lo++Bqz (ds.length-lo) d))]:=by
 intro σ1 F g w ρc hs hrd hwr hv
 have hr1:σ1 r=.row m k ds:=(hwr (r,_) Ckz).trans hσ
 have hroot:=hs.roots r
 rw[hr1] at hroot
 cases hg:g r<;>rw[hg] at hroot<;>try exact hroot.elim
 rename_i v k0 L gs
 obtain⟨hk0,hrow⟩:=hroot
 subst hk0
 have e1:=hv x (by simp[ho,Op.operands,Call.operands])
 rw[hx,vr,hg] at e1
 obtain⟨A,n,cp,A',cp',h1,h2,h3,h4,h5,h6⟩:=e1 _ _ rfl
 obtain⟨hown,hrdE,hgb,hno⟩:=q8a hrow
 have hz1:∀ u∈z,u.oneCell'=true:=rdCs.one (hzd (fun _=>True) w)
 obtain⟨v',hzv,hvc⟩:=z1G (P:=P) (w:=w) hz
 obtain⟨A2,c2,hv2,h7,h8⟩:=hown.form
 rw[h1] at hv2
 have hn:n=ds.length:=by injection hv2
 have hru:∀ r:Result Next,r=.ok (.value (.tuple #[])) w→True:=fun _ _=>trivial
 by_cases hlm:lo=ds.length
 ·have hnn0:nn=0:=by omega
  rw[hnn0] at h3
  have hrun:(Builtin.clear_ #[T] o.type #[E.ev ρc x]).run P w=.ok (.tuple #[]) w:=by
   rw[h3]
   cases A'<;>simp[Builtin.clear_,run_underlying (q7k hT)]
  have he:(execOp (E.ev ρc) o).run P w=.ok (.value (.tuple #[])) w:=by
   simp only[execOp,ho,resolve,invoke,builtin,Sem.run_bind,Sem.run_pure,Result.andThen_ok,Dcz,Blz,Ddz,hrun]
  rw[he]
  have hxs:ds.take lo++Bqz (ds.length-lo) d=ds:=by subst hlm;simp
  rw[hxs]
  refine⟨F,g,?_,Pres.refl,by rw[vr];trivial⟩
  have:owr σ1 [(r,.row m k0 ds)]=σ1:=by
   funext i;rw[owr1];by_cases hi:i=r
   ·subst hi;simp only[if_true,hr1]
   ·simp only[ifN hi]
  rw[this];exact hs
 ·have hlt:lo<ds.length:=by omega
  obtain⟨eb,hO,hLv⟩:=hown
  rcases hO.2 with ⟨_,h00⟩|⟨b,cap,cur,hvb,hb0,hgbk,hnc,hcm,hsz,htk⟩
  ·omega
  have hLb:L=[b]:=by rw[hLv,hvb];simp[Value.ownBlock]
  rw[h1] at hvb
  injection hvb with f1 f2 f3
  subst f1;subst f3
  rcases h6 with h6|⟨b2,f4,f5⟩
  ·omega
  injection f4 with f4
  injection f4 with f4
  subst f4
  have hlen2:(reps z (ds.length-lo)).length=(ds.length-lo)*k0:=by rw[z6u,hzl]
  have hcells:(Builtin.zeroCells v'.cells (ds.length-lo)).toList=reps z (ds.length-lo):=by
   rw[j4l,hvc]
   have:=z8K z.toArray (ds.length-lo)
   rw[this]
  have hfit:lo*k0+(ds.length-lo)*k0≤cur.size:=by
   rw[← Arz,hsz,show lo+(ds.length-lo)=ds.length by omega];exact Nat.mul_le_mul_right _ hnc
  have hst:=run_storeCells_at P b (lo*k0) eb (reps z (ds.length-lo)) 0 cur w hgbk (by rw[hlen2];simpa using hfit) (k0d hz1 _)
  have hrun:(Builtin.clear_ #[T] o.type #[E.ev ρc x]).run P w=.ok (.tuple #[]) (w.setRow b (q5R cur.toList (lo*k0) (reps z (ds.length-lo))).toArray):=by
   rw[h3,f5]
   simp only[Nat.add_zero] at hst
   have hsp:q5R cur.toList (lo*k0) (reps z (ds.length-lo))=List.take (lo*k0) cur.toList++reps z (ds.length-lo)++List.drop (lo*k0+(reps z (ds.length-lo)).length) cur.toList:=rfl
   rw[hsp]
   obtain⟨q,hq⟩:∃ q,ds.length-lo=q+1:=⟨ds.length-lo-1,by omega⟩
   rw[hnn,hq]
   rw[hq] at hcells hst
   simp[Builtin.clear_,run_underlying (q7k hT),hzv,hcells,hst]
  have he:(execOp (E.ev ρc) o).run P w=.ok (.value (.tuple #[])) (w.setRow b (q5R cur.toList (lo*k0) (reps z (ds.length-lo))).toArray):=by
   simp only[execOp,ho,resolve,invoke,builtin,Sem.run_bind,Sem.run_pure,Result.andThen_ok,Dcz,Blz,Ddz,hrun]
  rw[he]
  have hB:Blk w b eb cur.toList:=by simpa[Blk] using hgbk
  have hc:=j0y w b (q5R cur.toList (lo*k0) (reps z (ds.length-lo))).toArray
  have hb' : Blk (w.setRow b (q5R cur.toList (lo*k0) (reps z (ds.length-lo))).toArray) b eb (q5R cur.toList (lo*k0) (reps z (ds.length-lo))):=setRow_heap w b _ _ eb _ hgbk
  have hcl:(q6v gs).length=ds.length*k0:=hO.1
  have hspl:q5R (q6v gs) (lo*k0) (reps z (ds.length-lo))=(q6v gs).take (lo*k0)++reps z (ds.length-lo):=by
   unfold q5R
   rw[Dez (by rw[hlen2,hcl,← Arz,show lo+(ds.length-lo)=ds.length by omega];exact Nat.le_refl _),List.append_nil]
  have hst2:=hO.st (w':=w.setRow b (q5R cur.toList (lo*k0) (reps z (ds.length-lo))).toArray) (by rw[h1];rfl) hB (off:=lo*k0) (l:=reps z (ds.length-lo)) (by rw[hlen2,← Arz,show lo+(ds.length-lo)=ds.length by omega];exact Nat.le_refl _) hb'
  obtain⟨g',k1,k2⟩:=hs.refill (es:=ds.take lo++Bqz (ds.length-lo) d) (m:=m) hg hgb (hc.mono fun q _ e=>by rw[hLb];simp[e]) (cs:=q5R (q6v gs) (lo*k0) (reps z (ds.length-lo)))
   ⟨eb,by rw[List.length_append,List.length_take,List.length_replicate,Nat.min_eq_left hlo,show lo+(ds.length-lo)=ds.length by omega];exact hst2,hLv⟩
   (fun hkp=>by rw[hspl];exact ((hrdE.imp (hkp m)).take lo).append (by have:=j5H (hzd (SM F S.B m) (w.setRow b (q5R cur.toList (lo*k0) (reps z (ds.length-lo))).toArray)) (ds.length-lo);rw[hzl] at this;exact this))
  exact⟨F,g',k1,k2,by rw[vr];trivial⟩
end
section
variable {P:Program}[HasTab P]{S:Start}{ops:Array Oper}{Q:AE→St→Prop}{o:Oper}{rest:List Oper}{ρ:AE}{σ:St}{d:Nat}{md:Md2}{T e:Nat}{t te:TI}
theorem j0E {α:Type}{xs:List α}{lo j:Nat}{y:α}(h:xs[lo+j]?=some y):j<xs.length-lo:=by
 have:=(List.getElem?_eq_some_iff.1 h).1
 omega
end
theorem q4m {α:Type}{l:List α}{j:Nat}{x y:α}(h:l[j]?=some x):(l.set j y)[j]?=some y:=by
 have:=(List.getElem?_eq_some_iff.1 h).1
 simp[this]
theorem k7D {α β:Type}{f:α→β}{xs:List α}{j:Nat}{x:α}{l:List β}(h:xs[j]?=some x)(e:l=(xs.map f).set j (f x)):l=xs.map f:=by
 rw[e];exact k5p (q4z h)
theorem eset {α β:Type}{f:α→β}{xs:List α}{j:Nat}{x' : α}{l:List β}(e:l=(xs.map f).set j (f x')):l=(xs.set j x').map f:=by
 rw[e,List.map_set]
section
variable {P:Program}[HasTab P]{S:Start}{n:Nat}{ops:Array Oper}{Q:AE→St→Prop}{QP:q4y}{o:Oper}{rest:List Oper}{ρ:AE}{σ:St}{d:Nat}{md:Md2}{T e:Nat}{t te:TI}{k:Nat}{m:Md}{es:List (List Cell)}{hh:List (Nat×Nat×Nat)}
theorem q0J {S:Start}{ρ:AE}{σ:St}(r j c q:Nat){el:List Cell}{cell:Cell}(hj:es[j]?=some el)(hσ:fnOf σ r=.deep m k es hh:=by rfl)(hc:Nat.blt c el.length=true:=by rfl)(hm:(j,c,q)∈hh:=by first|exact Ckz|simp)(hx:MC (fnOf σ q) cell:=by first|exact .row|exact .flatM (fun _=>rfl)|exact .ownM)(hf:fzC cell=true∨m=.bo:=by first|exact .inl rfl|exact fzoM _ _ _)(hqr:Nat.beq q r=false:=by rfl) :
  GH S ρ σ ρ (setL (setL σ r (.deep m k (es.set j (spl el c [cell])) (hsK hh c 1))) q .dead):=q3I hσ hj hc hm hx hf hqr
theorem q0w {S:Start}{ρ:AE}{σ:St}(r:Nat){es' : List (List Cell)}(hσ:fnOf σ r=.deep m k es hh:=by rfl)(he:es=es'):GH S ρ σ ρ (setL σ r (.deep m k es' hh)):=q2Y hσ he
theorem APD {α:Type}{f:α→List Cell}{s x:Operand}{xs ys:List α}{zs:List X}{r r2 b1:Nat}(r' : Nat)(B:Nat)(hmax:((xs.length:Int)+(ys.length:Int))*(B:Int)≤140737488355328∧(xs.length:Int)+(ys.length:Int)≤9223372036854775807)(h:AL P S ops Q (q4j md [] [r,r2,r']) rest (updX ρ d (.ref r' none)) (owrL σ [(r,.dead),(r2,.dead),(r',.deep m te.sz ((xs++ys).map f) [])]))
  (ho:o.op=.call { callee:=.builtin .append,args:=#[s,x],argTypes:=#[T,T] }:=by rfl) (hT:(HasTab.tab P).get T=some t:=by rfl) (he:t.el=some e:=by rfl) (hE:(HasTab.tab P).get e=some te:=by rfl) (hs:evX ρ s=.ref r none:=by rfl) (hx:evX ρ x=.ref r2 none:=by rfl) (hσ:fnOf σ r=.deep m te.sz (xs.map f) []:=by rfl) (hσ2:fnOf σ r2=.deep m te.sz (ys.map f) []:=by rfl) (hz:te.z=some zs:=by rfl) (hb:te.by_=b1+1:=by rfl) (hzl:zs.length=te.sz:=by rfl) (hk0:Nat.blt 0 te.sz=true:=by rfl) (hr:fnOf σ r'=.none:=by rfl) (hne:Nat.beq r r2=false:=by rfl) (hB:te.by_=B:=by rfl) (hd:o.dst=some d:=by rfl) (hg:q4e ops ρ o=some true:=by rfl):AL P S ops Q md (o::rest) ρ σ:=by
 obtain⟨z,h1,h2⟩:=TI.z' (Tab.chk HasTab.ok hE) hz
 refine q0f (q2Z (r':=r') ho (q4p hT he hE).1 (q4p hT he hE).2 (TI.by' (Tab.chk HasTab.ok hE) hb) h1 (by rw[← hzl,← (h2 (fun _ _=>True) default (fun _=>.none)).len]) hk0 hs hσ hx hσ2 ?_ ?_ hr hne) (by rw[← List.map_append];exact h) hd hg
 ·simp only[lnM]
  have:=hmax.1
  rw[hB,← Int.natCast_add,← Int.natCast_mul] at *
  omega
 ·simp only[lnM]
  show _≤9223372036854775807
  have:=hmax.2
  omega
end
theorem k7E {α β:Type}{f:α→β}{xs:List α}{lo:Nat}:((xs.map f).drop lo).take (xs.length-lo)=(xs.drop lo).map f:=by
 rw[← List.map_drop];exact List.take_of_length_le (by simp)
theorem q3M {S:Start}{ρ:AE}{σ:St}(t:Nat)(x:X)(h:ρ t=x):GH S ρ σ (updX ρ t x) σ:=fun F g w ρc hs hv=>⟨F,g,hs,fun u=>by
 simp only[updX]
 rcases bq (r:=u) (i:=t) with ⟨hb,e⟩|⟨hb,e⟩
 ·rw[hb,cond_true,← h,e];exact hv t
 ·rw[hb,cond_false];exact hv u⟩
theorem DAs {α:Type}{σ:Nat→Root}{r k j:Nat}{m:Md}{f:α→List Cell}{D0:α→D}{xs:List α}{x x' : α}{e:List Cell}{es:List (List Cell)}(hf:∀ x,DR (f x) (D0 x))(hx:xs[j]?=some x)(he:DR e (D0 x'))(hes:es=(xs.map f).set j e)(h:σ r=.deep m k es []):DataAt σ r m k ((xs.set j x').map D0) [r]:=by
 subst hes
 refine .deep h ?_ rfl rfl
 rw[List.map_set]
 exact (all2.map hf xs).set he
theorem q3g {α:Type}{S:Start}{ρ:AE}{σ:St}{k j:Nat}{m:Md}{f:α→List Cell}{xs:List α}{x:α}{e:List Cell}{es:List (List Cell)}(r:Nat)(D0:α→D)(x' : α)(hf:∀ x,DR (f x) (D0 x))(hx:xs[j]?=some x)(hes:es=(xs.map f).set j e)(h:fnOf σ r=.deep m k es [])(he:DR e (D0 x')):GH S ρ σ (fun t=>frX r m k ((xs.set j x').map D0) (ρ t)) (frS r m k ((xs.set j x').map D0) 0 σ):=q0z (DAs hf hx he hes h)
theorem q0x {α:Type}{S:Start}{ρ:AE}{σ:St}{k:Nat}{m:Md}{f:α→List Cell}{xs:List α}(r:Nat)(D0:α→D)(hf:∀ x,DR (f x) (D0 x))(h:fnOf σ r=.deep m k (xs.map f) []):GH S ρ σ (fun t=>frX r m k (xs.map D0) (ρ t)) (frS r m k (xs.map D0) 0 σ):=q0z (DA hf h)
section
variable {P:Program}[HasTab P]{S:Start}{n:Nat}{ops:Array Oper}{Q:AE→St→Prop}{QP:q4y}{rest:List Oper}{ρ:AE}{σ:St}{md:Md2}{k:Nat}{m:Md}
theorem q3h {α:Type}{c:Code}{f:α→List Cell}{xs:List α}{hh:List (Nat×Nat×Nat)}(r:Nat)(hr:fnOf σ r=.deep m k (xs.map f) hh)(h:(xs.length:Int)≤9223372036854775807→AW P S n c QP ρ σ):AW P S n c QP ρ σ:=q2l hr fun h1=>h (by simpa using h1)
end
section
variable {P:Program}[HasTab P]{S:Start}{n:Nat}{ops:Array Oper}{Q:AE→St→Prop}{QP:q4y}{o:Oper}{rest:List Oper}{ρ:AE}{σ:St}{d:Nat}{md:Md2}{T e:Nat}{t te:TI}{k:Nat}{m:Md}
theorem MKRb {α:Type}{f:α→D}{l c:Operand}{m1 m2:Md}{q q' : IntKind}{j:Int}{zs:List X}{b1:Nat}(r B:Nat)(z:α)(h0:0≤j)(hbm:j*(B:Int)≤281474976710656)(hm:j≤9223372036854775807)(h:AL P S ops Q (q4j md [] [r]) rest (updX ρ d (.ref r none)) (setL σ r (.row .fz te.sz ((Bqz j.toNat z).map f))))(ho:o.op=.makeSlice T l c:=by rfl)(hT:(HasTab.tab P).get T=some t:=by rfl)(he:t.el=some e:=by rfl)(hE:(HasTab.tab P).get e=some te:=by rfl)(hz:te.z=some zs:=by rfl)(hb:te.by_=b1+1:=by rfl)(hzl:zs.length=te.sz:=by rfl)(hl:evX ρ l=.d m1 (.i q j):=by rfl)(hc:evX ρ c=.d m2 (.i q' j):=by rfl)(hdz:asCs .fz zs=some (f z).cells:=by rfl)(hr:fnOf σ r=.none:=by rfl)(hB:te.by_=B:=by rfl)(hd:o.dst=some d:=by rfl)(hg:q4e ops ρ o=some true:=by rfl):AL P S ops Q md (o::rest) ρ σ:=
 MKR r z h0 (by rw[hB];exact hbm) hm h ho hT he hE hz hb hzl hl hc hdz hr hd hg
omit [HasTab P] in
end
section
variable {S:Start}{F:Nat→Prop}{g:Nat→G}{w:World}{σ1:Nat→Root}
theorem Sim.frz (hs:Sim S F g σ1 w){r:Nat}{m:Md}{k:Nat}{xs:List D}(hr1:σ1 r=.row m k xs):∃ F' g',Sim S F' g' (fun i=>if i=r then .dead else σ1 i) w∧Pres S.B F g w F' g' w∧∀ x v,vr (SM F S.B) w g x v→vr (SM F' S.B) w g' (frX r m k xs x) v:=by
 obtain⟨v,L,gs,cs,hg,hown,hrd,hLb⟩:=j8J hs (.row hr1 rfl)
 let F' : Nat→Prop:=fun b=>F b∨b∈bl (g r)
 have hF:∀ b,F b→F' b:=fun b hb=>.inl hb
 have up:∀ m b,SM F S.B m b→SM F' S.B m b:=fun m b hb=>by
  cases m with
  | fz=>exact .inl hb
  | bo=>exact hb.imp .inl id
 have hL' : ∀ b∈bl (g r),SM F' S.B m b:=fun b hb=>by
  cases m with
  | fz=>exact .inr hb
  | bo=>exact .inl (.inr hb)
 have hrd' : rdE (SM F' S.B m) w k xs cs:=hrd.mono fun b hb=>by
  rcases hb with hb|⟨q,hq,hb⟩
  ·exact up m b hb
  ·rw[List.mem_singleton] at hq;subst hq;exact hL' b hb
 have hd:rdC (SM F' S.B m) w (.sl k xs) v:=j8K hown hrd' fun b hb=>hL' b (hLb b hb)
 have hpart:∀ lo n v',j2t v k lo n v'→rdC (SM F' S.B m) w (.sl k ((xs.drop lo).take n)) v':=fun lo n v' hp=>k0o hown hrd' (fun b hb=>hL' b (hLb b hb)) hp
 have hlt:∀ b,F' b→b<w.heap.size:=fun b hb=>hb.elim (hs.flt b) fun hb=>(hs.own r b hb).1
 have ha:∀ q,Adv (g q) ((fun i=>if i=r then .dead else g i) q):=fun q=>by
  by_cases hq:q=r
  ·subst hq
   simp only[if_true]
   rw[hg];exact .inl rfl
  ·simp only[ifN hq];exact Adv.refl _
 have hp:∀ {x:X} {v:Value},vr (SM F S.B) w g x v→vr (SM F' S.B) w (fun i=>if i=r then .dead else g i) x v:=fun h=>h.adv (fun m b o cs h1 h2 h3=>⟨up m b h1,h2,h3⟩) ha
 have hps:∀ {x:List X} {v:List Value},vrs (SM F S.B) w g x v→vrs (SM F' S.B) w (fun i=>if i=r then .dead else g i) x v:=fun h=>h.adv (fun m b o cs h1 h2 h3=>⟨up m b h1,h2,h3⟩) ha
 refine⟨F',fun i=>if i=r then .dead else g i,⟨hs.chg,hs.bB,fun b hb=>.inl (hs.fmono b hb),fun b hb=>?_,hlt,fun i=>?_,hs.low,fun i=>?_,fun i=>?_,fun i j hij b hb=>?_,fun i b hb=>?_⟩,fun x v h=>hp h,fun x v h=>k2H hg hF hd hpart h⟩
 ·rcases hb with hb|hb
  ·exact hs.fnew b hb
  ·exact .inr (hs.own r b hb).2.2.2
 ·by_cases hi:i=r
  ·subst hi
   simp only[if_true];trivial
  ·simp only[ifN hi]
   have h1:=hs.roots i
   revert h1
   cases σ1 i<;>intro h1<;>cases hgi:g i<;>rw[hgi] at h1<;>try exact h1.elim
   ·trivial
   ·trivial
   ·obtain⟨vs,h2,h3⟩:=h1
    exact⟨vs,h2,hps h3⟩
   ·exact⟨h1.1,z2U h1.2 up⟩
   ·exact⟨⟨h1.1.1,z2U h1.1.2 up⟩,h1.2.1.adv ha,h1.2.2⟩
 ·by_cases hi:i=r
  ·subst hi
   simp only[if_true]
   have:=hs.hdr i
   rw[hg] at this
   revert this
   cases S.g0 i<;>intro h
   ·trivial
   ·cases h
   ·rcases h with h|h<;>cases h
   ·exact .inl rfl
  ·simp only[ifN hi];exact hs.hdr i
 ·by_cases hi:i=r
  ·simp only[ifP hi,bl];exact List.nodup_nil
  ·simp only[ifN hi];exact hs.nodup i
 ·by_cases hi:i=r
  ·simp only[ifP hi,bl] at hb;cases hb
  ·simp only[ifN hi] at hb
   by_cases hj:j=r
   ·simp only[ifP hj,bl];exact List.not_mem_nil
   ·simp only[ifN hj];exact hs.disj i j hij b hb
 ·by_cases hi:i=r
  ·simp only[ifP hi,bl] at hb;cases hb
  ·simp only[ifN hi] at hb
   obtain⟨h1,h2,h3,h4⟩:=hs.own i b hb
   refine⟨h1,fun hf=>?_,h3,h4⟩
   rcases hf with hf|hf
   ·exact h2 hf
   ·exact hs.disj i r hi b hb hf
end
section
variable {P:Program}[HasTab P]{S:Start}{ops:Array Oper}{Q:AE→St→Prop}{o:Oper}{rest:List Oper}{ρ:AE}{σ:St}{d:Nat}{md:Md2}
theorem k0z:∀ (wr:List (Nat×Root)) (σ:Nat→Root) (r:Nat) (x:Root),owr σ (wr++[(r,x)])=fun i=>if i=r then x else owr σ wr i
 | [],σ,r,x=>rfl
 | (i,y)::l,σ,r,x=>by rw[List.cons_append,owr,k0z l,owr]
theorem j4S {P:Program}{R R' : Value→World→Prop}(hR:∀ v w,R v w→R' v w):∀ {x:Result Next},j2r P R x→j2r P R' x:=by
 intro x h
 cases x with
 | ok n w=>
  cases n with
  | value u=>exact hR _ _ h
  | skip=>exact hR _ _ h
  | enter f args=>exact Calls.mono h fun e w' ⟨v,h1,h2⟩=>⟨v,h1,hR _ _ h2⟩
  | _=>exact h.elim
 | _=>exact h.elim
theorem LT.frz {rd:List Nat}{v:X}{wr:List (Nat×Root)}{r:Nat}{m:Md}{k:Nat}{xs:List D}(h:LT P S o ρ σ rd v wr)(hr:∀ σ1,owr σ1 wr r=.row m k xs):LT P S o ρ σ rd (frX r m k xs v) (wr++[(r,.dead)]):=by
 intro σ1 F g w ρc h1 h2 h3 h4
 refine j4S ?_ (h σ1 F g w ρc h1 h2 (fun p hp=>h3 p (by simp[hp])) h4)
 rintro vc w' ⟨F',g',h5,h6,h7⟩
 obtain⟨F2,g2,k1,k2,k3⟩:=h5.frz (hr σ1)
 exact⟨F2,g2,by rw[k0z];exact k1,fun x v hx=>k2 x v (h6 x v hx),k3 _ _ h7⟩
end
theorem q0j {S:Start}{ρ:AE}{σ:St}{n0:Nat}(hS:S.n0=n0)(l:List (Nat×Nat))(n:Nat){L:List (Nat×X)}{σt:St}(hL:WkR l ρ L:=by repeat (first|exact trivial|refine And.intro (.of (by kernel_rfl)) ?_))(hσ:renS l n σ=σt:=by kernel_rfl)(hc:j5P l n0 n σ=true:=by kernel_rfl):GH S ρ σ (ofX L) σt:=GH.ren hS l n hL hσ hc
theorem k0A {f:UInt8→D}(hf:∀ b,f b=.i .u8 (b.toNat:Int)){S:Nat→Prop}{w:World}:∀ {a:List UInt8} {cs:List Value},rdL S w a cs→rdE S w 1 (a.map f) cs
 | [],_,h=>by rw[show _=[] from h];rfl
 | x::xs,cs,h=>by
  obtain⟨c,r,h1,h2,h3⟩:=h
  have h2:c=[.int .u8 (x.toNat:Int)]:=h2
  subst h2
  rw[Blz,q7L]
  refine⟨_,r,h1,rfl,?_,k0A hf h3⟩
  rw[hf x]
  have hx:=x.toNat_lt
  exact⟨_,_,rfl,⟨rfl,by omega,by omega⟩,rfl⟩
theorem k5r {f:UInt8→D}(hf:∀ b,f b=.i .u8 (b.toNat:Int)){w:World}{a:List UInt8}{z:Value}(h:rdS (fun _=>True) w a z):rdC (fun b=>b<w.heap.size) w (.sl 1 (a.map f)) z:=by
 have h0:Rep.rd (fun _=>True) w a [z]:=⟨z,rfl,h⟩
 obtain⟨z',e,h⟩:=Rep.bound h0
 injection e with e
 subst e
 obtain⟨A',cap,cells,h1,h2,h3,h4,h5⟩:=h
 rw[rdC]
 refine⟨A',cap,cells,by rw[lnM];exact h1,by rw[lnM];exact h2,h3,k0A hf (h4.mono fun b hb=>hb.2),?_⟩
 rcases h5 with h5|⟨b,o,e,hb,ha⟩
 ·exact .inl (by rw[h5];rfl)
 ·exact .inr ⟨b,o,e,hb.2,hb.2,ha⟩
theorem Sim.begin0 (w:World):Sim (z9A w (fun b=>b<w.heap.size) (fun _=>False) (fun _=>.none) 0) (fun b=>b<w.heap.size) (fun _=>.none) (fnOf []) w where
 chg:=Chg.refl w
 bB b h:=h.elim
 fmono b h:=h
 fnew b h:=.inl h
 flt b h:=h
 roots i:=trivial
 low i _:=rfl
 hdr i:=trivial
 nodup i:=List.nodup_nil
 disj i j _ b h:=by cases h
 own i b h:=by cases h
theorem q0o {P:Program}{S:Start}{fn:Func}{ρ:AE}{σ:St}{e:Exit}{lr:List ResultVar}{res:X}{post:St}{n0:Nat}(l:List (Nat×Nat))(n:Nat)(hS:S.n0=n0)(he:e=.normal∨e=.ret:=by first|exact .inr rfl|exact .inl rfl)(hl:fn.results=lr.toArray:=by rfl)(ht:lr.all (j2D fn.ntmps)=true:=by rfl)
  (hx:(j5K P ρ σ lr).map (fun xs=>renX l (tupX xs))=some res:=by kernel_rfl) (hc:j5P l n0 n σ=true:=by kernel_rfl) (hp:renS l n σ=post:=by kernel_rfl):endA P S fn res post e ρ σ:=by
 cases hr:j5K P ρ σ lr with
 | none=>rw[hr] at hx;cases hx
 | some xs=>
  rw[hr] at hx
  have hx:renX l (tupX xs)=res:=Option.some.inj hx
  exact endA.ren l n he hS hl ht hr (by rw[hx];exact .rfl) hc hp
theorem j0F {ρ:AE}{σ σ' : St}{L:List (Nat×X)}(hL:WkL ρ L:=by repeat (first|exact trivial|refine And.intro (.of (by kernel_rfl)) ?_))(hσ:σ=σ':=by kernel_rfl):WkL ρ L∧σ=σ':=⟨hL,hσ⟩
section
variable {P:Program}{S:Start}{o:Oper}{ρ:AE}{σ:St}
theorem q3i {Y:X}{T T2 e r:Nat}{m m' : Md}{ds ys:List D}{x y:Operand}(ho:o.op=.call { callee:=.builtin .copy,args:=#[x,y],argTypes:=#[T,T2] })(hT:q9n P T=some e)(hk:szT P e=some 1)(hx:evX ρ x=.ref r none)(hσ:fnOf σ r=.row m 1 ds)(hy:evX ρ y=Y)(hsrc:srcD (fnOf σ) Y=some (m',1,ys))(hm:mle m' m=true)(hlen:ys.length=ds.length):LT P S o ρ σ (q9K Y) (.d .fz (.i .i64 ds.length)) [(r,.row m 1 ys)]:=by
 intro σ1 F g w ρc hs hrd hwr hv
 have hr1:σ1 r=.row m 1 ds:=(hwr (r,_) Ckz).trans hσ
 have hroot:=hs.roots r
 rw[hr1] at hroot
 cases hg:g r<;>rw[hg] at hroot<;>try exact hroot.elim
 rename_i v k0 L gs
 obtain⟨hk0,hrow⟩:=hroot
 subst hk0
 have e1:=hv x (by simp[ho,Op.operands,Call.operands])
 have e2:=hv y (by simp[ho,Op.operands,Call.operands])
 rw[hx,vr,hg] at e1
 have e1:=e1 _ _ rfl
 rw[hy] at e2
 have hsrc1:srcD σ1 Y=some (m',1,ys):=by rw[j4J (σ2:=fnOf σ) hrd];exact hsrc
 obtain⟨A,cap,cells,h1,h2,h3,h4,h5⟩:=k0k hs hsrc1 e2
 obtain⟨hown,hrdE,hgb,hno⟩:=q8a hrow
 have hsz:(P.info? e).map (·.size)=some 1:=hk
 have hcl:cells.length=ys.length:=by rw[h4.len,Nat.mul_one]
 by_cases hz:ys=[]
 ·subst hz
  have hds:ds=[]:=List.eq_nil_of_length_eq_zero hlen.symm
  subst hds
  obtain⟨A',c',rfl,_⟩:=hown.form
  have hrun:(Builtin.copy_ #[T,T2] o.type #[.slice A' 0 c',.slice A 0 cap]).run P w=.ok (goInt 0) w:=run_copy_none w T T2 o.type e A' A 0 c' 0 cap (q7k hT) hsz rfl
  have e1' : E.ev ρc x=.slice A' 0 c':=e1
  have h1' : E.ev ρc y=.slice A 0 cap:=h1
  have he:(execOp (E.ev ρc) o).run P w=.ok (.value (goInt 0)) w:=by
   simp only[execOp,ho,resolve,invoke,builtin,Sem.run_bind,Sem.run_pure,Result.andThen_ok,Dcz,Blz,Ddz,e1',h1',hrun]
  rw[he]
  refine⟨F,g,?_,Pres.refl,by rw[vr,rdC];exact⟨rfl,by decide,by decide⟩⟩
  have:owr σ1 [(r,.row m 1 [])]=σ1:=by
   funext i;rw[owr1];by_cases hi:i=r
   ·subst hi;simp only[if_true,hr1]
   ·simp only[ifN hi]
  rw[this];exact hs
 ·obtain⟨b2,off,rfl,hat,hb2,_⟩:=h5.resolve_left hz
  have hpos:0<ds.length:=by rw[← hlen];exact List.length_pos_iff.2 hz
  obtain⟨eb,hO,hLv⟩:=hown
  rcases hO.2 with ⟨_,h00⟩|⟨b,c',cur,rfl,hb0,hgbk,hn,hcm,hsz2,htk⟩
  ·omega
  have hLb:L=[b]:=by rw[hLv];simp[Value.ownBlock]
  rw[Nat.mul_one] at hsz2
  have hrun:=run_copy_row (P:=P) w T T2 o.type e b 0 ds.length c' ⟨b2,off,none⟩ ys.length cap cur eb cells (q7k hT) hsz hgbk (by rw[hcl,hlen];simp) (fun j v hv=>by
   have:=hat j v hv
   by_cases hj:j=0
   ·subst hj;simpa[Addr.add] using this
   ·simpa[Addr.add,hj] using this) (by rw[hcl,hlen];omega) h4.one
  have he:(execOp (E.ev ρc) o).run P w=.ok (.value (goInt cells.length)) (w.setRow b (q5R cur.toList 0 cells).toArray):=by
   simp only[execOp,ho,resolve,invoke,builtin,Sem.run_bind,Sem.run_pure,Result.andThen_ok,Dcz,Blz,Ddz,e1,h1,hrun]
   rfl
  rw[he]
  have hB:Blk w b eb cur.toList:=by simpa[Blk] using hgbk
  have hc:=j0y w b (q5R cur.toList 0 cells).toArray
  have hb' : Blk (w.setRow b (q5R cur.toList 0 cells).toArray) b eb (q5R cur.toList 0 cells):=setRow_heap w b _ _ eb _ hgbk
  have hst:=hO.st (w':=w.setRow b (q5R cur.toList 0 cells).toArray) rfl hB (off:=0) (l:=cells) (by rw[hcl,hlen];omega) hb'
  have hgl:(q6v gs).length=ds.length*1:=hO.1
  have hspl:q5R (q6v gs) 0 cells=cells:=by
   unfold q5R
   rw[Dez (by rw[hgl,hcl,hlen];omega)]
   simp
  rw[hspl] at hst
  obtain⟨g',k1,k2⟩:=hs.refill (es:=ys) (m:=m) hg hgb (hc.mono fun q _ e=>by rw[hLb];simp[e]) (cs:=cells) ⟨eb,by rw[hlen];exact hst,hLv⟩ (fun hkp=>(h4.mono (j1o hm)).imp (hkp m))
  refine⟨F,g',k1,k2,?_⟩
  rw[vr,rdC]
  have hlm:ds.length≤maxLen:=by
   obtain⟨A3,c3,q1,q2,q3⟩:=OwnR.form ⟨eb,hO,hLv⟩
   omega
  exact⟨by rw[hcl,hlen];rfl,by omega,by have:maxLen=9223372036854775807:=rfl;omega⟩
end
section
variable {P:Program}[HasTab P]{S:Start}{n:Nat}{ops ops2:Array Oper}{Q:AE→St→Prop}{QP:q4y}{rest:List Oper}{ρ:AE}{σ:St}{md:Md2}{x y:Code}{id:Nat}
theorem sr (h:AL P S ops (fun ρ σ=>AW P S n y QP ρ σ) none ops.toList ρ σ):AW P S n (.seq (.region id ops false) y) QP ρ σ:=q0m (q0h h)
theorem ssr (h:AL P S ops (fun ρ σ=>AW P S n y (z8T (fun ρ σ=>AW P S n x QP ρ σ) QP) ρ σ) none ops.toList ρ σ):AW P S n (.seq (.seq (.region id ops false) y) x) QP ρ σ:=q0m (q0m (q0h h))
theorem N0 (h:Q ρ σ)(hm:okM2 ops md=true:=by kernel_rfl):AL P S ops Q md [] ρ σ:=AL.nil h hm
theorem W1 {o1:Oper}{d1:Nat}{v1:X}{r1:List Nat}(h:AL P S ops Q (q4j md r1 []) rest (updX ρ d1 v1) σ)(v_1:opV (HasTab.tab P) ρ σ o1.op=some (v1,r1):=by exact rfl)(d_1:o1.dst=some d1:=by rfl)(g_1:q4e ops ρ o1=some true:=by rfl):AL P S ops Q md (o1::rest) ρ σ:=V v_1 (h) d_1 g_1
theorem N1 {o1:Oper}{d1:Nat}{v1:X}{r1:List Nat}(h:Q (updX ρ d1 v1) σ)(v_1:opV (HasTab.tab P) ρ σ o1.op=some (v1,r1):=by exact rfl)(d_1:o1.dst=some d1:=by rfl)(g_1:q4e ops ρ o1=some true:=by rfl)(hm:okM2 ops (q4j md r1 [])=true:=by kernel_rfl):AL P S ops Q md [o1] ρ σ:=V v_1 (AL.nil h hm) d_1 g_1
theorem W2 {o1:Oper}{d1:Nat}{v1:X}{r1:List Nat}{o2:Oper}{d2:Nat}{v2:X}{r2:List Nat}(h:AL P S ops Q (q4j (q4j md r1 []) r2 []) rest (updX (updX ρ d1 v1) d2 v2) σ)(v_1:opV (HasTab.tab P) ρ σ o1.op=some (v1,r1):=by exact rfl)(d_1:o1.dst=some d1:=by rfl)(g_1:q4e ops ρ o1=some true:=by rfl)(v_2:opV (HasTab.tab P) (updX ρ d1 v1) σ o2.op=some (v2,r2):=by exact rfl)(d_2:o2.dst=some d2:=by rfl)(g_2:q4e ops (updX ρ d1 v1) o2=some true:=by rfl):AL P S ops Q md (o1::o2::rest) ρ σ:=V v_1 (V v_2 (h) d_2 g_2) d_1 g_1
theorem N2 {o1:Oper}{d1:Nat}{v1:X}{r1:List Nat}{o2:Oper}{d2:Nat}{v2:X}{r2:List Nat}(h:Q (updX (updX ρ d1 v1) d2 v2) σ)(v_1:opV (HasTab.tab P) ρ σ o1.op=some (v1,r1):=by exact rfl)(d_1:o1.dst=some d1:=by rfl)(g_1:q4e ops ρ o1=some true:=by rfl)(v_2:opV (HasTab.tab P) (updX ρ d1 v1) σ o2.op=some (v2,r2):=by exact rfl)(d_2:o2.dst=some d2:=by rfl)(g_2:q4e ops (updX ρ d1 v1) o2=some true:=by rfl)(hm:okM2 ops (q4j (q4j md r1 []) r2 [])=true:=by kernel_rfl):AL P S ops Q md [o1,o2] ρ σ:=V v_1 (V v_2 (AL.nil h hm) d_2 g_2) d_1 g_1
theorem W3 {o1:Oper}{d1:Nat}{v1:X}{r1:List Nat}{o2:Oper}{d2:Nat}{v2:X}{r2:List Nat}{o3:Oper}{d3:Nat}{v3:X}{r3:List Nat}(h:AL P S ops Q (q4j (q4j (q4j md r1 []) r2 []) r3 []) rest (updX (updX (updX ρ d1 v1) d2 v2) d3 v3) σ)(v_1:opV (HasTab.tab P) ρ σ o1.op=some (v1,r1):=by exact rfl)(d_1:o1.dst=some d1:=by rfl)(g_1:q4e ops ρ o1=some true:=by rfl)(v_2:opV (HasTab.tab P) (updX ρ d1 v1) σ o2.op=some (v2,r2):=by exact rfl)(d_2:o2.dst=some d2:=by rfl)(g_2:q4e ops (updX ρ d1 v1) o2=some true:=by rfl)(v_3:opV (HasTab.tab P) (updX (updX ρ d1 v1) d2 v2) σ o3.op=some (v3,r3):=by exact rfl)(d_3:o3.dst=some d3:=by rfl)(g_3:q4e ops (updX (updX ρ d1 v1) d2 v2) o3=some true:=by rfl):AL P S ops Q md (o1::o2::o3::rest) ρ σ:=V v_1 (V v_2 (V v_3 (h) d_3 g_3) d_2 g_2) d_1 g_1
theorem N3 {o1:Oper}{d1:Nat}{v1:X}{r1:List Nat}{o2:Oper}{d2:Nat}{v2:X}{r2:List Nat}{o3:Oper}{d3:Nat}{v3:X}{r3:List Nat}(h:Q (updX (updX (updX ρ d1 v1) d2 v2) d3 v3) σ)(v_1:opV (HasTab.tab P) ρ σ o1.op=some (v1,r1):=by exact rfl)(d_1:o1.dst=some d1:=by rfl)(g_1:q4e ops ρ o1=some true:=by rfl)(v_2:opV (HasTab.tab P) (updX ρ d1 v1) σ o2.op=some (v2,r2):=by exact rfl)(d_2:o2.dst=some d2:=by rfl)(g_2:q4e ops (updX ρ d1 v1) o2=some true:=by rfl)(v_3:opV (HasTab.tab P) (updX (updX ρ d1 v1) d2 v2) σ o3.op=some (v3,r3):=by exact rfl)(d_3:o3.dst=some d3:=by rfl)(g_3:q4e ops (updX (updX ρ d1 v1) d2 v2) o3=some true:=by rfl)(hm:okM2 ops (q4j (q4j (q4j md r1 []) r2 []) r3 [])=true:=by kernel_rfl):AL P S ops Q md [o1,o2,o3] ρ σ:=V v_1 (V v_2 (V v_3 (AL.nil h hm) d_3 g_3) d_2 g_2) d_1 g_1
theorem W4 {o1:Oper}{d1:Nat}{v1:X}{r1:List Nat}{o2:Oper}{d2:Nat}{v2:X}{r2:List Nat}{o3:Oper}{d3:Nat}{v3:X}{r3:List Nat}{o4:Oper}{d4:Nat}{v4:X}{r4:List Nat}(h:AL P S ops Q (q4j (q4j (q4j (q4j md r1 []) r2 []) r3 []) r4 []) rest (updX (updX (updX (updX ρ d1 v1) d2 v2) d3 v3) d4 v4) σ)(v_1:opV (HasTab.tab P) ρ σ o1.op=some (v1,r1):=by exact rfl)(d_1:o1.dst=some d1:=by rfl)(g_1:q4e ops ρ o1=some true:=by rfl)(v_2:opV (HasTab.tab P) (updX ρ d1 v1) σ o2.op=some (v2,r2):=by exact rfl)(d_2:o2.dst=some d2:=by rfl)(g_2:q4e ops (updX ρ d1 v1) o2=some true:=by rfl)(v_3:opV (HasTab.tab P) (updX (updX ρ d1 v1) d2 v2) σ o3.op=some (v3,r3):=by exact rfl)(d_3:o3.dst=some d3:=by rfl)(g_3:q4e ops (updX (updX ρ d1 v1) d2 v2) o3=some true:=by rfl)(v_4:opV (HasTab.tab P) (updX (updX (updX ρ d1 v1) d2 v2) d3 v3) σ o4.op=some (v4,r4):=by exact rfl)(d_4:o4.dst=some d4:=by rfl)(g_4:q4e ops (updX (updX (updX ρ d1 v1) d2 v2) d3 v3) o4=some true:=by rfl):AL P S ops Q md (o1::o2::o3::o4::rest) ρ σ:=V v_1 (V v_2 (V v_3 (V v_4 (h) d_4 g_4) d_3 g_3) d_2 g_2) d_1 g_1
theorem N4 {o1:Oper}{d1:Nat}{v1:X}{r1:List Nat}{o2:Oper}{d2:Nat}{v2:X}{r2:List Nat}{o3:Oper}{d3:Nat}{v3:X}{r3:List Nat}{o4:Oper}{d4:Nat}{v4:X}{r4:List Nat}(h:Q (updX (updX (updX (updX ρ d1 v1) d2 v2) d3 v3) d4 v4) σ)(v_1:opV (HasTab.tab P) ρ σ o1.op=some (v1,r1):=by exact rfl)(d_1:o1.dst=some d1:=by rfl)(g_1:q4e ops ρ o1=some true:=by rfl)(v_2:opV (HasTab.tab P) (updX ρ d1 v1) σ o2.op=some (v2,r2):=by exact rfl)(d_2:o2.dst=some d2:=by rfl)(g_2:q4e ops (updX ρ d1 v1) o2=some true:=by rfl)(v_3:opV (HasTab.tab P) (updX (updX ρ d1 v1) d2 v2) σ o3.op=some (v3,r3):=by exact rfl)(d_3:o3.dst=some d3:=by rfl)(g_3:q4e ops (updX (updX ρ d1 v1) d2 v2) o3=some true:=by rfl)(v_4:opV (HasTab.tab P) (updX (updX (updX ρ d1 v1) d2 v2) d3 v3) σ o4.op=some (v4,r4):=by exact rfl)(d_4:o4.dst=some d4:=by rfl)(g_4:q4e ops (updX (updX (updX ρ d1 v1) d2 v2) d3 v3) o4=some true:=by rfl)(hm:okM2 ops (q4j (q4j (q4j (q4j md r1 []) r2 []) r3 []) r4 [])=true:=by kernel_rfl):AL P S ops Q md [o1,o2,o3,o4] ρ σ:=V v_1 (V v_2 (V v_3 (V v_4 (AL.nil h hm) d_4 g_4) d_3 g_3) d_2 g_2) d_1 g_1
theorem W5 {o1:Oper}{d1:Nat}{v1:X}{r1:List Nat}{o2:Oper}{d2:Nat}{v2:X}{r2:List Nat}{o3:Oper}{d3:Nat}{v3:X}{r3:List Nat}{o4:Oper}{d4:Nat}{v4:X}{r4:List Nat}{o5:Oper}{d5:Nat}{v5:X}{r5:List Nat}(h:AL P S ops Q (q4j (q4j (q4j (q4j (q4j md r1 []) r2 []) r3 []) r4 []) r5 []) rest (updX (updX (updX (updX (updX ρ d1 v1) d2 v2) d3 v3) d4 v4) d5 v5) σ)(v_1:opV (HasTab.tab P) ρ σ o1.op=some (v1,r1):=by exact rfl)(d_1:o1.dst=some d1:=by rfl)(g_1:q4e ops ρ o1=some true:=by rfl)(v_2:opV (HasTab.tab P) (updX ρ d1 v1) σ o2.op=some (v2,r2):=by exact rfl)(d_2:o2.dst=some d2:=by rfl)(g_2:q4e ops (updX ρ d1 v1) o2=some true:=by rfl)(v_3:opV (HasTab.tab P) (updX (updX ρ d1 v1) d2 v2) σ o3.op=some (v3,r3):=by exact rfl)(d_3:o3.dst=some d3:=by rfl)(g_3:q4e ops (updX (updX ρ d1 v1) d2 v2) o3=some true:=by rfl)(v_4:opV (HasTab.tab P) (updX (updX (updX ρ d1 v1) d2 v2) d3 v3) σ o4.op=some (v4,r4):=by exact rfl)(d_4:o4.dst=some d4:=by rfl)(g_4:q4e ops (updX (updX (updX ρ d1 v1) d2 v2) d3 v3) o4=some true:=by rfl)(v_5:opV (HasTab.tab P) (updX (updX (updX (updX ρ d1 v1) d2 v2) d3 v3) d4 v4) σ o5.op=some (v5,r5):=by exact rfl)(d_5:o5.dst=some d5:=by rfl)(g_5:q4e ops (updX (updX (updX (updX ρ d1 v1) d2 v2) d3 v3) d4 v4) o5=some true:=by rfl):AL P S ops Q md (o1::o2::o3::o4::o5::rest) ρ σ:=V v_1 (V v_2 (V v_3 (V v_4 (V v_5 (h) d_5 g_5) d_4 g_4) d_3 g_3) d_2 g_2) d_1 g_1
theorem N5 {o1:Oper}{d1:Nat}{v1:X}{r1:List Nat}{o2:Oper}{d2:Nat}{v2:X}{r2:List Nat}{o3:Oper}{d3:Nat}{v3:X}{r3:List Nat}{o4:Oper}{d4:Nat}{v4:X}{r4:List Nat}{o5:Oper}{d5:Nat}{v5:X}{r5:List Nat}(h:Q (updX (updX (updX (updX (updX ρ d1 v1) d2 v2) d3 v3) d4 v4) d5 v5) σ)(v_1:opV (HasTab.tab P) ρ σ o1.op=some (v1,r1):=by exact rfl)(d_1:o1.dst=some d1:=by rfl)(g_1:q4e ops ρ o1=some true:=by rfl)(v_2:opV (HasTab.tab P) (updX ρ d1 v1) σ o2.op=some (v2,r2):=by exact rfl)(d_2:o2.dst=some d2:=by rfl)(g_2:q4e ops (updX ρ d1 v1) o2=some true:=by rfl)(v_3:opV (HasTab.tab P) (updX (updX ρ d1 v1) d2 v2) σ o3.op=some (v3,r3):=by exact rfl)(d_3:o3.dst=some d3:=by rfl)(g_3:q4e ops (updX (updX ρ d1 v1) d2 v2) o3=some true:=by rfl)(v_4:opV (HasTab.tab P) (updX (updX (updX ρ d1 v1) d2 v2) d3 v3) σ o4.op=some (v4,r4):=by exact rfl)(d_4:o4.dst=some d4:=by rfl)(g_4:q4e ops (updX (updX (updX ρ d1 v1) d2 v2) d3 v3) o4=some true:=by rfl)(v_5:opV (HasTab.tab P) (updX (updX (updX (updX ρ d1 v1) d2 v2) d3 v3) d4 v4) σ o5.op=some (v5,r5):=by exact rfl)(d_5:o5.dst=some d5:=by rfl)(g_5:q4e ops (updX (updX (updX (updX ρ d1 v1) d2 v2) d3 v3) d4 v4) o5=some true:=by rfl)(hm:okM2 ops (q4j (q4j (q4j (q4j (q4j md r1 []) r2 []) r3 []) r4 []) r5 [])=true:=by kernel_rfl):AL P S ops Q md [o1,o2,o3,o4,o5] ρ σ:=V v_1 (V v_2 (V v_3 (V v_4 (V v_5 (AL.nil h hm) d_5 g_5) d_4 g_4) d_3 g_3) d_2 g_2) d_1 g_1
end
theorem q0g {S:Start}{ρ:AE}{σ:St}{n0:Nat}(hS:S.n0=n0)(n:Nat){L:List (Nat×X)}{σt:St}(hL:WkR ((Amz n).map fun i=>(i,i)) ρ L:=by repeat (first|exact trivial|refine And.intro (.of (by kernel_rfl)) ?_))(hσ:renS ((Amz n).map fun i=>(i,i)) n σ=σt:=by kernel_rfl)(hc:j5P ((Amz n).map fun i=>(i,i)) n0 n σ=true:=by kernel_rfl):GH S ρ σ (ofX L) σt:=GH.ren hS _ n hL hσ hc
end Go.A
set_option maxRecDepth 100000
set_option maxHeartbeats 4000000
namespace Go.A
open Go Go.E
section
variable {P:Program}[HasTab P]{S:Start}{ops:Array Oper}{Q:AE→St→Prop}{o:Oper}{rest:List Oper}{ρ:AE}{σ:St}{d:Nat}{md:Md2}
theorem LT.same {rd:List Nat}{v:X}{wr:List (Nat×Root)}{i:Nat}{R:Root}(h:LT P S o ρ σ rd v ((i,R)::wr))(hR:R=fnOf σ i):LT P S o ρ σ (i::rd) v wr:=by
 intro σ1 F g w ρc h1 h2 h3 h4
 have hi:σ1 i=fnOf σ i:=h2 i (by simp)
 refine j4S ?_ (h σ1 F g w ρc h1 (fun j hj=>h2 j (by simp[hj])) (fun p hp=>by
  rcases List.mem_cons.1 hp with rfl|hp
  ·exact hi
  ·exact h3 p hp) h4)
 rintro vc w' ⟨F',g',h5,h6,h7⟩
 have e:(fun j=>if j=i then R else σ1 j)=σ1:=by
  funext j
  by_cases hj:j=i
  ·rw[ifP hj,hj,hR,hi]
  ·rw[ifN hj]
 refine⟨F',g',?_,h6,h7⟩
 rw[owr,e] at h5
 exact h5
theorem q1h {v:X}{wr:List (Nat×Root)}{R:Nat×Nat→Root}:∀ {ks:List (Nat×Nat)} {rd:List Nat},LT P S o ρ σ rd v ((ks.map fun p=>(p.2,R p))++wr)→ks.map R=ks.map (fun p=>fnOf σ p.2)→LT P S o ρ σ ((ks.map (·.2)).reverse++rd) v wr
 | [],rd,h,_=>h
 | p::ks,rd,h,hR=>by
  simp only[Blz,List.cons.injEq] at hR
  have h2:=q1h (ks:=ks) (LT.same h hR.1) hR.2
  simpa using h2
theorem CBK2 {f:Nat}{c:Call}{x:Operand}{caps axs args:List X}{pre post:St}{res:X}(ks ren:List (Nat×Nat))(vw:List Nat)(ok:Ok P f args pre res post)(h:AL P S ops Q (q4j md ((ks.map (·.2)).reverse++vw) ((ren.map fun p=>(p.2,z3R (ks++ren) (fnOf post p.1))).map (·.1))) rest (updX ρ d (renX (ks++ren) res)) (owrL σ (ren.map fun p=>(p.2,z3R (ks++ren) (fnOf post p.1)))))
  (ho:o.op=.call c:=by rfl) (hc:c.callee=.value x:=by rfl) (hx:evX ρ x=.fn f caps:=by rfl) (hcb:q8C P f=true:=by kernel_rfl) (ha:c.args.toList.map (evX ρ)++caps=axs:=by rfl) (hp:PassL (fnOf σ) (ks++ren) vw axs args:=by repeat (first|exact .nil|refine .cons ?_ ?_|exact .same|exact .ag (.cons .same (.cons .same .nil))|refine .ag ?_|exact .d rfl|exact .d z6S|exact .nld|exact .nl|exact .rd rfl rfl|exact .vd rfl rfl|exact .pb rfl|exact .ref rfl|refine .fn ?_|exact .pf rfl|exact .pf z6S|exact .dd (DA (by exact fun _=>rfl) rfl) rfl|exact .dd (DA OwD.rd rfl) rfl|(refine .dd (DAh (x:=?x) OwD.rd ?hx0 rfl rfl rfl ?he0) rfl;(case hx0=>assumption);(case he0=>rfl))|exact .u))
  (hpre:PreL (fnOf σ) (fnOf pre) (ks++ren) (ks++ren):=by repeat (first|exact trivial|refine And.intro rfl ?_)) (hchk:z7l (ks++ren) vw pre post res=true:=by rfl) (hs:ks.map (fun p=>z3R (ks++ren) (fnOf post p.1))=ks.map (fun p=>fnOf σ p.2):=by rfl) (hd:o.dst=some d:=by rfl) (hg:q4e ops ρ o=some true:=by rfl):AL P S ops Q md (o::rest) ρ σ:=
 q0f (q1h (R:=fun p=>z3R (ks++ren) (fnOf post p.1)) (by have h0:LT P S o ρ σ vw (renX (ks++ren) res) ((ks++ren).map fun p=>(p.2,z3R (ks++ren) (fnOf post p.1))):=q0X (ks++ren) vw ho hc hx hcb ha ok hp hpre hchk;rw[List.map_append] at h0;exact h0) hs) h hd hg
end
end Go.A
