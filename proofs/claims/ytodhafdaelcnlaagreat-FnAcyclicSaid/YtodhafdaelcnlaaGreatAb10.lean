/- Abstract states of a walk: plain lemmas on the model, without conditions of their own. -/
import Derived.Test.YtodhafdaelcnlaaGreatDat
import Derived.KernelRfl
set_option linter.unusedVariables false
set_option linter.unusedSimpArgs false
set_option linter.ambiguousOpen false
set_option linter.unusedSectionVars false
set_option linter.unnecessarySimpa false
open List renaming map_cons->Blz,range->Amz
namespace Go.A
open Go Go.E
theorem l7 {P:Program}{S:Start}{fn:Func}{ρ:AE}{σ:St}{e:Exit}{lr:List ResultVar}{res:X}{post:St}{n0:Nat}(l:List (Nat×Nat))(n:Nat)(hS:S.n0=n0)(he:e=.normal∨e=.ret:=by first|exact .inr rfl|exact .inl rfl)(hl:fn.results=lr.toArray:=by rfl)(ht:lr.all (qd fn.ntmps)=true:=by rfl)
  (hx:(nr P ρ σ lr).map (λxs=>ba l (jD xs))=some res:=by kernel_rfl) (hc:np l n0 n σ=true:=by kernel_rfl) (hp:fv l n σ=post:=by kernel_rfl):cS P S fn res post e ρ σ:=by
 cases Z:nr P ρ σ lr with
 | none=>rw[Z] at hx;cases hx
 | some xs=>
  rw[Z] at hx;have hx:ba l (jD xs)=res:=Option.some.inj hx;exact cS.ren l n he hS hl ht Z (by rw[hx];exact .rfl) hc hp
theorem jz {ρ:AE}{σ σ' : St}{L:List (Nat×X)}(hL:qk ρ L:=by repeat (first|exact trivial|refine And.intro (.of (by kernel_rfl)) ?_))(hσ:σ=σ':=by kernel_rfl):qk ρ L/\σ=σ':=⟨hL,hσ⟩
section
variable {P:Program}{S:Start}{o:Oper}{ρ:AE}{σ:St}
theorem P9 {Z4:X}{T T2 e r:Nat}{m m' : Md}{ds ys:List D}{x y:Operand}(ho:o.op=.call { callee:=.builtin .copy,args:=#[x,y],argTypes:=#[T,T2] })(hT:cY P T=some e)(hk:cn P e=some 1)(hx:aE ρ x=.ref r none)(hσ:ai σ r=.row m 1 ds)(hy:aE ρ y=Z4)(hsrc:cO (ai σ) Z4=some (m',1,ys))(hm:fR m' m=true)(hlen:ys.length=ds.length):LT P S o ρ σ (dq Z4) (.d .fz (.i .i64 ds.length)) [(r,.row m 1 ys)]:=by
 intro σ1 F g w ρc hs hrd hwr hv;have hr1:σ1 r=.row m 1 ds:=(hwr (r,_) List.mem_cons_self).trans hσ;have hroot:=hs.roots r;rw[hr1] at hroot;cases hg:g r<;>rw[hg] at hroot<;>try exact hroot.elim
 rename_i v k0 L gs;obtain⟨hk0,hrow⟩:=hroot;subst hk0;have e1:=hv x (by simp[ho,Op.operands,Call.operands]);have e2:=hv y (by simp[ho,Op.operands,Call.operands]);rw[hx,vr,hg] at e1;have e1:=e1 _ _ rfl;rw[hy] at e2;have hsrc1:cO σ1 Z4=some (m',1,ys):=by rw[MR (σ2:=ai σ) hrd];exact hsrc
 obtain⟨A,cap,cells,U,W,h3,h4,h5⟩:=Am hs hsrc1 e2;obtain⟨hown,hrdE,hgb,hno⟩:=kS hrow;have hsz:(P.info? e).map (·.size)=some 1:=hk;have hcl:cells.length=ys.length:=by rw[h4.len,Nat.mul_one]
 by_cases hz:ys=[];subst hz;have hds:ds=[]:=List.eq_nil_of_length_eq_zero hlen.symm;subst hds;obtain⟨A',c',rfl,_⟩:=hown.form;have hrun:(Builtin.copy_ #[T,T2] o.type #[.slice A' 0 c',.slice A 0 cap]).run P w=.ok (goInt 0) w:=run_copy_none w T T2 o.type e A' A 0 c' 0 cap (ga hT) hsz rfl;have e1' : E.ev ρc x=.slice A' 0 c':=e1;have h1' : E.ev ρc y=.slice A 0 cap:=U;have he:(execOp (E.ev ρc) o).run P w=.ok (.value (goInt 0)) w:=by
  simp only[execOp,ho,resolve,invoke,builtin,Sem.run_bind,Sem.run_pure,Result.andThen_ok,List.map_toArray,Blz,List.map_nil,e1',h1',hrun]
 rw[he];refine⟨F,g,?_,cj.refl,by rw[vr,rdC];exact⟨rfl,by decide,by decide⟩⟩;have:cg σ1 [(r,.row m 1 [])]=σ1:=by
  funext i;rw[gH];by_cases hi:i=r;subst hi;simp only[if_true,hr1];simp only[al hi]
 rw[this];exact hs;obtain⟨b2,off,rfl,hat,hb2,_⟩:=h5.resolve_left hz;have hpos:0<ds.length:=by rw[← hlen];exact List.length_pos_iff.2 hz
 obtain⟨eb,hO,hLv⟩:=hown;rcases hO.2 with ⟨_,h00⟩|⟨b,c',cur,rfl,hb0,hgbk,hn,hcm,hsz2,htk⟩
 omega;have hLb:L=[b]:=by rw[hLv];simp[Value.ownBlock]
 rw[Nat.mul_one] at hsz2;have hrun:=run_copy_row (P:=P) w T T2 o.type e b 0 ds.length c' ⟨b2,off,none⟩ ys.length cap cur eb cells (ga hT) hsz hgbk (by rw[hcl,hlen];simp) (λj v hv=>by
  have:=hat j v hv;by_cases hj:j=0;subst hj;simpa[Addr.add] using this;simpa[Addr.add,hj] using this) (by rw[hcl,hlen];omega) h4.one
 have he:(execOp (E.ev ρc) o).run P w=.ok (.value (goInt cells.length)) (w.setRow b (cH cur.toList 0 cells).toArray):=by
  simp only[execOp,ho,resolve,invoke,builtin,Sem.run_bind,Sem.run_pure,Result.andThen_ok,List.map_toArray,Blz,List.map_nil,e1,U,hrun];rfl
 rw[he];have hB:dE w b eb cur.toList:=by simpa[dE] using hgbk
 have hc:=AY w b (cH cur.toList 0 cells).toArray;have hb' : dE (w.setRow b (cH cur.toList 0 cells).toArray) b eb (cH cur.toList 0 cells):=setRow_heap w b _ _ eb _ hgbk;have hst:=hO.st (w':=w.setRow b (cH cur.toList 0 cells).toArray) rfl hB (off:=0) (l:=cells) (by rw[hcl,hlen];omega) hb';have hgl:(bW gs).length=ds.length*1:=hO.1;have hspl:cH (bW gs) 0 cells=cells:=by
  unfold cH;rw[List.drop_eq_nil_of_le (by rw[hgl,hcl,hlen];omega)];simp
 rw[hspl] at hst;obtain⟨g',k1,k2⟩:=hs.refill (es:=ys) (m:=m) hg hgb (hc.mono λq _ e=>by rw[hLb];simp[e]) (cs:=cells) ⟨eb,by rw[hlen];exact hst,hLv⟩ (λhkp=>(h4.mono (ox hm)).imp (hkp m));refine⟨F,g',k1,k2,?_⟩;rw[vr,rdC];have hlm:ds.length<=maxLen:=by
  obtain⟨A3,c3,q1,q2,q3⟩:=bL.form ⟨eb,hO,hLv⟩;omega
 exact⟨by rw[hcl,hlen];rfl,by omega,by have:maxLen=9223372036854775807:=rfl;omega⟩
end
section
variable {P:Program}[ae P]{S:Start}{n:Nat}{ops ops2:Array Oper}{Q:AE->St->Prop}{QP:cQ}{rest:List Oper}{ρ:AE}{σ:St}{md:cU}{x y:Code}{id:Nat}
theorem sr (h:AL P S ops (λρ σ=>AW P S n y QP ρ σ) none ops.toList ρ σ):AW P S n (.seq (.region id ops false) y) QP ρ σ:=ib (fj h)
theorem gT (h:AL P S ops (λρ σ=>AW P S n y (iO (λρ σ=>AW P S n x QP ρ σ) QP) ρ σ) none ops.toList ρ σ):AW P S n (.seq (.seq (.region id ops false) y) x) QP ρ σ:=ib (ib (fj h))
theorem N0 (h:Q ρ σ)(hm:jg ops md=true:=by kernel_rfl):AL P S ops Q md [] ρ σ:=AL.nil h hm
theorem W1 {o1:Oper}{d1:Nat}{v1:X}{r1:List Nat}(h:AL P S ops Q (aZ md r1 []) rest (av ρ d1 v1) σ)(v_1:opV (ae.tab P) ρ σ o1.op=some (v1,r1):=by exact rfl)(d_1:o1.dst=some d1:=by rfl)(g_1:aV ops ρ o1=some true:=by rfl):AL P S ops Q md (o1::rest) ρ σ:=V v_1 (h) d_1 g_1
theorem N1 {o1:Oper}{d1:Nat}{v1:X}{r1:List Nat}(h:Q (av ρ d1 v1) σ)(v_1:opV (ae.tab P) ρ σ o1.op=some (v1,r1):=by exact rfl)(d_1:o1.dst=some d1:=by rfl)(g_1:aV ops ρ o1=some true:=by rfl)(hm:jg ops (aZ md r1 [])=true:=by kernel_rfl):AL P S ops Q md [o1] ρ σ:=V v_1 (AL.nil h hm) d_1 g_1
theorem W2 {o1:Oper}{d1:Nat}{v1:X}{r1:List Nat}{o2:Oper}{d2:Nat}{v2:X}{r2:List Nat}(h:AL P S ops Q (aZ (aZ md r1 []) r2 []) rest (av (av ρ d1 v1) d2 v2) σ)(v_1:opV (ae.tab P) ρ σ o1.op=some (v1,r1):=by exact rfl)(d_1:o1.dst=some d1:=by rfl)(g_1:aV ops ρ o1=some true:=by rfl)(v_2:opV (ae.tab P) (av ρ d1 v1) σ o2.op=some (v2,r2):=by exact rfl)(d_2:o2.dst=some d2:=by rfl)(g_2:aV ops (av ρ d1 v1) o2=some true:=by rfl):AL P S ops Q md (o1::o2::rest) ρ σ:=V v_1 (V v_2 (h) d_2 g_2) d_1 g_1
theorem N2 {o1:Oper}{d1:Nat}{v1:X}{r1:List Nat}{o2:Oper}{d2:Nat}{v2:X}{r2:List Nat}(h:Q (av (av ρ d1 v1) d2 v2) σ)(v_1:opV (ae.tab P) ρ σ o1.op=some (v1,r1):=by exact rfl)(d_1:o1.dst=some d1:=by rfl)(g_1:aV ops ρ o1=some true:=by rfl)(v_2:opV (ae.tab P) (av ρ d1 v1) σ o2.op=some (v2,r2):=by exact rfl)(d_2:o2.dst=some d2:=by rfl)(g_2:aV ops (av ρ d1 v1) o2=some true:=by rfl)(hm:jg ops (aZ (aZ md r1 []) r2 [])=true:=by kernel_rfl):AL P S ops Q md [o1,o2] ρ σ:=V v_1 (V v_2 (AL.nil h hm) d_2 g_2) d_1 g_1
theorem W3 {o1:Oper}{d1:Nat}{v1:X}{r1:List Nat}{o2:Oper}{d2:Nat}{v2:X}{r2:List Nat}{o3:Oper}{d3:Nat}{v3:X}{r3:List Nat}(h:AL P S ops Q (aZ (aZ (aZ md r1 []) r2 []) r3 []) rest (av (av (av ρ d1 v1) d2 v2) d3 v3) σ)(v_1:opV (ae.tab P) ρ σ o1.op=some (v1,r1):=by exact rfl)(d_1:o1.dst=some d1:=by rfl)(g_1:aV ops ρ o1=some true:=by rfl)(v_2:opV (ae.tab P) (av ρ d1 v1) σ o2.op=some (v2,r2):=by exact rfl)(d_2:o2.dst=some d2:=by rfl)(g_2:aV ops (av ρ d1 v1) o2=some true:=by rfl)(v_3:opV (ae.tab P) (av (av ρ d1 v1) d2 v2) σ o3.op=some (v3,r3):=by exact rfl)(d_3:o3.dst=some d3:=by rfl)(g_3:aV ops (av (av ρ d1 v1) d2 v2) o3=some true:=by rfl):AL P S ops Q md (o1::o2::o3::rest) ρ σ:=V v_1 (V v_2 (V v_3 (h) d_3 g_3) d_2 g_2) d_1 g_1
theorem N3 {o1:Oper}{d1:Nat}{v1:X}{r1:List Nat}{o2:Oper}{d2:Nat}{v2:X}{r2:List Nat}{o3:Oper}{d3:Nat}{v3:X}{r3:List Nat}(h:Q (av (av (av ρ d1 v1) d2 v2) d3 v3) σ)(v_1:opV (ae.tab P) ρ σ o1.op=some (v1,r1):=by exact rfl)(d_1:o1.dst=some d1:=by rfl)(g_1:aV ops ρ o1=some true:=by rfl)(v_2:opV (ae.tab P) (av ρ d1 v1) σ o2.op=some (v2,r2):=by exact rfl)(d_2:o2.dst=some d2:=by rfl)(g_2:aV ops (av ρ d1 v1) o2=some true:=by rfl)(v_3:opV (ae.tab P) (av (av ρ d1 v1) d2 v2) σ o3.op=some (v3,r3):=by exact rfl)(d_3:o3.dst=some d3:=by rfl)(g_3:aV ops (av (av ρ d1 v1) d2 v2) o3=some true:=by rfl)(hm:jg ops (aZ (aZ (aZ md r1 []) r2 []) r3 [])=true:=by kernel_rfl):AL P S ops Q md [o1,o2,o3] ρ σ:=V v_1 (V v_2 (V v_3 (AL.nil h hm) d_3 g_3) d_2 g_2) d_1 g_1
theorem W4 {o1:Oper}{d1:Nat}{v1:X}{r1:List Nat}{o2:Oper}{d2:Nat}{v2:X}{r2:List Nat}{o3:Oper}{d3:Nat}{v3:X}{r3:List Nat}{o4:Oper}{d4:Nat}{v4:X}{r4:List Nat}(h:AL P S ops Q (aZ (aZ (aZ (aZ md r1 []) r2 []) r3 []) r4 []) rest (av (av (av (av ρ d1 v1) d2 v2) d3 v3) d4 v4) σ)(v_1:opV (ae.tab P) ρ σ o1.op=some (v1,r1):=by exact rfl)(d_1:o1.dst=some d1:=by rfl)(g_1:aV ops ρ o1=some true:=by rfl)(v_2:opV (ae.tab P) (av ρ d1 v1) σ o2.op=some (v2,r2):=by exact rfl)(d_2:o2.dst=some d2:=by rfl)(g_2:aV ops (av ρ d1 v1) o2=some true:=by rfl)(v_3:opV (ae.tab P) (av (av ρ d1 v1) d2 v2) σ o3.op=some (v3,r3):=by exact rfl)(d_3:o3.dst=some d3:=by rfl)(g_3:aV ops (av (av ρ d1 v1) d2 v2) o3=some true:=by rfl)(v_4:opV (ae.tab P) (av (av (av ρ d1 v1) d2 v2) d3 v3) σ o4.op=some (v4,r4):=by exact rfl)(d_4:o4.dst=some d4:=by rfl)(g_4:aV ops (av (av (av ρ d1 v1) d2 v2) d3 v3) o4=some true:=by rfl):AL P S ops Q md (o1::o2::o3::o4::rest) ρ σ:=V v_1 (V v_2 (V v_3 (V v_4 (h) d_4 g_4) d_3 g_3) d_2 g_2) d_1 g_1
theorem N4 {o1:Oper}{d1:Nat}{v1:X}{r1:List Nat}{o2:Oper}{d2:Nat}{v2:X}{r2:List Nat}{o3:Oper}{d3:Nat}{v3:X}{r3:List Nat}{o4:Oper}{d4:Nat}{v4:X}{r4:List Nat}(h:Q (av (av (av (av ρ d1 v1) d2 v2) d3 v3) d4 v4) σ)(v_1:opV (ae.tab P) ρ σ o1.op=some (v1,r1):=by exact rfl)(d_1:o1.dst=some d1:=by rfl)(g_1:aV ops ρ o1=some true:=by rfl)(v_2:opV (ae.tab P) (av ρ d1 v1) σ o2.op=some (v2,r2):=by exact rfl)(d_2:o2.dst=some d2:=by rfl)(g_2:aV ops (av ρ d1 v1) o2=some true:=by rfl)(v_3:opV (ae.tab P) (av (av ρ d1 v1) d2 v2) σ o3.op=some (v3,r3):=by exact rfl)(d_3:o3.dst=some d3:=by rfl)(g_3:aV ops (av (av ρ d1 v1) d2 v2) o3=some true:=by rfl)(v_4:opV (ae.tab P) (av (av (av ρ d1 v1) d2 v2) d3 v3) σ o4.op=some (v4,r4):=by exact rfl)(d_4:o4.dst=some d4:=by rfl)(g_4:aV ops (av (av (av ρ d1 v1) d2 v2) d3 v3) o4=some true:=by rfl)(hm:jg ops (aZ (aZ (aZ (aZ md r1 []) r2 []) r3 []) r4 [])=true:=by kernel_rfl):AL P S ops Q md [o1,o2,o3,o4] ρ σ:=V v_1 (V v_2 (V v_3 (V v_4 (AL.nil h hm) d_4 g_4) d_3 g_3) d_2 g_2) d_1 g_1
theorem W5 {o1:Oper}{d1:Nat}{v1:X}{r1:List Nat}{o2:Oper}{d2:Nat}{v2:X}{r2:List Nat}{o3:Oper}{d3:Nat}{v3:X}{r3:List Nat}{o4:Oper}{d4:Nat}{v4:X}{r4:List Nat}{o5:Oper}{d5:Nat}{v5:X}{r5:List Nat}(h:AL P S ops Q (aZ (aZ (aZ (aZ (aZ md r1 []) r2 []) r3 []) r4 []) r5 []) rest (av (av (av (av (av ρ d1 v1) d2 v2) d3 v3) d4 v4) d5 v5) σ)(v_1:opV (ae.tab P) ρ σ o1.op=some (v1,r1):=by exact rfl)(d_1:o1.dst=some d1:=by rfl)(g_1:aV ops ρ o1=some true:=by rfl)(v_2:opV (ae.tab P) (av ρ d1 v1) σ o2.op=some (v2,r2):=by exact rfl)(d_2:o2.dst=some d2:=by rfl)(g_2:aV ops (av ρ d1 v1) o2=some true:=by rfl)(v_3:opV (ae.tab P) (av (av ρ d1 v1) d2 v2) σ o3.op=some (v3,r3):=by exact rfl)(d_3:o3.dst=some d3:=by rfl)(g_3:aV ops (av (av ρ d1 v1) d2 v2) o3=some true:=by rfl)(v_4:opV (ae.tab P) (av (av (av ρ d1 v1) d2 v2) d3 v3) σ o4.op=some (v4,r4):=by exact rfl)(d_4:o4.dst=some d4:=by rfl)(g_4:aV ops (av (av (av ρ d1 v1) d2 v2) d3 v3) o4=some true:=by rfl)(v_5:opV (ae.tab P) (av (av (av (av ρ d1 v1) d2 v2) d3 v3) d4 v4) σ o5.op=some (v5,r5):=by exact rfl)(d_5:o5.dst=some d5:=by rfl)(g_5:aV ops (av (av (av (av ρ d1 v1) d2 v2) d3 v3) d4 v4) o5=some true:=by rfl):AL P S ops Q md (o1::o2::o3::o4::o5::rest) ρ σ:=V v_1 (V v_2 (V v_3 (V v_4 (V v_5 (h) d_5 g_5) d_4 g_4) d_3 g_3) d_2 g_2) d_1 g_1
end
theorem cX {S:Start}{ρ:AE}{σ:St}{n0:Nat}(hS:S.n0=n0)(n:Nat){L:List (Nat×X)}{σt:St}(hL:sA ((Amz n).map λi=>(i,i)) ρ L:=by repeat (first|exact trivial|refine And.intro (.of (by kernel_rfl)) ?_))(hσ:fv ((Amz n).map λi=>(i,i)) n σ=σt:=by kernel_rfl)(hc:np ((Amz n).map λi=>(i,i)) n0 n σ=true:=by kernel_rfl):GH S ρ σ (ofX L) σt:=GH.ren hS _ n hL hσ hc
end Go.A
set_option maxRecDepth 100000
set_option maxHeartbeats 4000000
namespace Go.A
open Go Go.E
section
variable {P:Program}[ae P]{S:Start}{ops:Array Oper}{Q:AE->St->Prop}{o:Oper}{rest:List Oper}{ρ:AE}{σ:St}{d:Nat}{md:cU}
theorem LT.same {rd:List Nat}{v:X}{wr:List (Nat×aw)}{i:Nat}{R:aw}(h:LT P S o ρ σ rd v ((i,R)::wr))(hR:R=ai σ i):LT P S o ρ σ (i::rd) v wr:=by
 intro σ1 F g w ρc U W h3 h4;have hi:σ1 i=ai σ i:=W i (by simp);refine Bb ?_ (h σ1 F g w ρc U (λj hj=>W j (by simp[hj])) (λp hp=>by
  rcases List.mem_cons.1 hp with rfl|hp;exact hi;exact h3 p hp) h4)
 rintro vc w' ⟨F',g',h5,h6,h7⟩;have e:(λj=>if j=i then R else σ1 j)=σ1:=by
  funext j;by_cases hj:j=i;rw[ao hj,hj,hR,hi];rw[al hj]
 refine⟨F',g',?_,h6,h7⟩;rw[cg,e] at h5;exact h5
theorem HV {v:X}{wr:List (Nat×aw)}{R:Nat×Nat->aw}:∀ {ks:List (Nat×Nat)} {rd:List Nat},LT P S o ρ σ rd v ((ks.map λp=>(p.2,R p))++wr)->ks.map R=ks.map (λp=>ai σ p.2)->LT P S o ρ σ ((ks.map (·.2)).reverse++rd) v wr
 | [],rd,h,_=>h
 | p::ks,rd,h,hR=>by
  simp only[Blz,List.cons.injEq] at hR;have W:=HV (ks:=ks) (LT.same h hR.1) hR.2;simpa using W
theorem qu {f:Nat}{c:Call}{x:Operand}{caps axs args:List X}{pre post:St}{res:X}(ks ren:List (Nat×Nat))(vw:List Nat)(ok:Ok P f args pre res post)(h:AL P S ops Q (aZ md ((ks.map (·.2)).reverse++vw) ((ren.map λp=>(p.2,fu (ks++ren) (ai post p.1))).map (·.1))) rest (av ρ d (ba (ks++ren) res)) (bc σ (ren.map λp=>(p.2,fu (ks++ren) (ai post p.1)))))
  (ho:o.op=.call c:=by rfl) (hc:c.callee=.value x:=by rfl) (hx:aE ρ x=.fn f caps:=by rfl) (hcb:iC P f=true:=by kernel_rfl) (ha:c.args.toList.map (aE ρ)++caps=axs:=by rfl) (hp:cu (ai σ) (ks++ren) vw axs args:=by repeat (first|exact .nil|refine .cons ?_ ?_|exact .same|exact .ag (.cons .same (.cons .same .nil))|refine .ag ?_|exact .d rfl|exact .d j7|exact .nld|exact .nl|exact .rd rfl rfl|exact .vd rfl rfl|exact .pb rfl|exact .ref rfl|refine .fn ?_|exact .pf rfl|exact .pf j7|exact .dd (DA (by exact λ_=>rfl) rfl) rfl|exact .dd (DA jm.rd rfl) rfl|(refine .dd (DAh (x:=?x) jm.rd ?hx0 rfl rfl rfl ?he0) rfl;(case hx0=>assumption);(case he0=>rfl))|exact .u))
  (hpre:dp (ai σ) (ai pre) (ks++ren) (ks++ren):=by repeat (first|exact trivial|refine And.intro rfl ?_)) (hchk:mj (ks++ren) vw pre post res=true:=by rfl) (hs:ks.map (λp=>fu (ks++ren) (ai post p.1))=ks.map (λp=>ai σ p.2):=by rfl) (hd:o.dst=some d:=by rfl) (hg:aV ops ρ o=some true:=by rfl):AL P S ops Q md (o::rest) ρ σ:=
 bX (HV (R:=λp=>fu (ks++ren) (ai post p.1)) (by have h0:LT P S o ρ σ vw (ba (ks++ren) res) ((ks++ren).map λp=>(p.2,fu (ks++ren) (ai post p.1))):=vI (ks++ren) vw ho hc hx hcb ha ok hp hpre hchk;rw[List.map_append] at h0;exact h0) hs) h hd hg
end
end Go.A
