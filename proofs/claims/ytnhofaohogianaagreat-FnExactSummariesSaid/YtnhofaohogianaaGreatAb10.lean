/- Abstract states of a walk: plain lemmas on the model, without conditions of their own. -/
import Derived.Test.YtnhofaohogianaaGreatDat
import Derived.KernelRfl
set_option linter.unusedVariables false
set_option linter.unusedSimpArgs false
set_option linter.ambiguousOpen false
set_option linter.unusedSectionVars false
set_option linter.unnecessarySimpa false
open List renaming range→Amz
namespace Go.A
open Go Go.E
theorem q0l {P:Program}{S:Start}{fn:Func}{ρ:AE}{σ:St}{e:Exit}{lr:List ResultVar}{res:X}{post:St}{n0:Nat}(l:List (Nat×Nat))(n:Nat)(hS:S.n0=n0)(he:e=.normal∨e=.ret:=by first|exact .inr rfl|exact .inl rfl)(hl:fn.results=lr.toArray:=by rfl)(ht:lr.all (j0n fn.ntmps)=true:=by rfl)
  (hx:(j3d P ρ σ lr).map (fun xs=>renX l (tupX xs))=some res:=by kernel_rfl) (hc:j3i l n0 n σ=true:=by kernel_rfl) (hp:renS l n σ=post:=by kernel_rfl):endA P S fn res post e ρ σ:=by
 cases hr:j3d P ρ σ lr with
 | none=>rw[hr] at hx;cases hx
 | some xs=>
  rw[hr] at hx
  have hx:renX l (tupX xs)=res:=Option.some.inj hx
  exact endA.ren l n he hS hl ht hr (by rw[hx];exact .rfl) hc hp
theorem k6Z {ρ:AE}{σ σ' : St}{L:List (Nat×X)}(hL:WkL ρ L:=by repeat (first|exact trivial|refine And.intro (.of (by kernel_rfl)) ?_))(hσ:σ=σ':=by kernel_rfl):WkL ρ L∧σ=σ':=⟨hL,hσ⟩
section
variable {P:Program}{S:Start}{o:Oper}{ρ:AE}{σ:St}
theorem q2Y {Y:X}{T T2 e r:Nat}{m m' : Md}{ds ys:List D}{x y:Operand}(ho:o.op=.call { callee:=.builtin .copy,args:=#[x,y],argTypes:=#[T,T2] })(hT:q7i P T=some e)(hk:szT P e=some 1)(hx:evX ρ x=.ref r none)(hσ:fnOf σ r=.row m 1 ds)(hy:evX ρ y=Y)(hsrc:srcD (fnOf σ) Y=some (m',1,ys))(hm:mle m' m=true)(hlen:ys.length=ds.length):LT P S o ρ σ (q7C Y) (.d .fz (.i .i64 ds.length)) [(r,.row m 1 ys)]:=by
 intro σ1 F g w ρc hs hrd hwr hv
 have hr1:σ1 r=.row m 1 ds:=(hwr (r,_) List.mem_cons_self).trans hσ
 have hroot:=hs.roots r
 rw[hr1] at hroot
 cases hg:g r<;>rw[hg] at hroot<;>try exact hroot.elim
 rename_i v k0 L gs
 obtain⟨hk0,hrow⟩:=hroot
 subst hk0
 have e1:=hv x (by simp[ho,Op.operands,Call.operands])
 have e2:=hv y (by simp[ho,Op.operands,Call.operands])
 rw[hx,vr,hg] at e1
 have e1:=e1 _ _ rfl
 rw[hy] at e2
 have hsrc1:srcD σ1 Y=some (m',1,ys):=by rw[j2v (σ2:=fnOf σ) hrd];exact hsrc
 obtain⟨A,cap,cells,h1,h2,h3,h4,h5⟩:=j7z hs hsrc1 e2
 obtain⟨hown,hrdE,hgb,hno⟩:=q6t hrow
 have hsz:(P.info? e).map (·.size)=some 1:=hk
 have hcl:cells.length=ys.length:=by rw[h4.len,Nat.mul_one]
 by_cases hz:ys=[]
 ·subst hz
  have hds:ds=[]:=List.eq_nil_of_length_eq_zero hlen.symm
  subst hds
  obtain⟨A',c',rfl,_⟩:=hown.form
  have hrun:(Builtin.copy_ #[T,T2] o.type #[.slice A' 0 c',.slice A 0 cap]).run P w=.ok (goInt 0) w:=run_copy_none w T T2 o.type e A' A 0 c' 0 cap (q5T hT) hsz rfl
  have e1' : E.ev ρc x=.slice A' 0 c':=e1
  have h1' : E.ev ρc y=.slice A 0 cap:=h1
  have he:(execOp (E.ev ρc) o).run P w=.ok (.value (goInt 0)) w:=by
   simp only[execOp,ho,resolve,invoke,builtin,Sem.run_bind,Sem.run_pure,Result.andThen_ok,List.map_toArray,List.map_cons,List.map_nil,e1',h1',hrun]
  rw[he]
  refine⟨F,g,?_,Pres.refl,by rw[vr,rdC];exact⟨rfl,by decide,by decide⟩⟩
  have:owr σ1 [(r,.row m 1 [])]=σ1:=by
   funext i;rw[owr1];by_cases hi:i=r
   ·subst hi;simp only[if_true,hr1]
   ·simp only[ifN hi]
  rw[this];exact hs
 ·obtain⟨b2,off,rfl,hat,hb2,_⟩:=h5.resolve_left hz
  have hpos:0<ds.length:=by rw[← hlen];exact List.length_pos_iff.2 hz
  obtain⟨eb,hO,hLv⟩:=hown
  rcases hO.2 with ⟨_,h00⟩|⟨b,c',cur,rfl,hb0,hgbk,hn,hcm,hsz2,htk⟩
  ·omega
  have hLb:L=[b]:=by rw[hLv];simp[Value.ownBlock]
  rw[Nat.mul_one] at hsz2
  have hrun:=run_copy_row (P:=P) w T T2 o.type e b 0 ds.length c' ⟨b2,off,none⟩ ys.length cap cur eb cells (q5T hT) hsz hgbk (by rw[hcl,hlen];simp) (fun j v hv=>by
   have:=hat j v hv
   by_cases hj:j=0
   ·subst hj;simpa[Addr.add] using this
   ·simpa[Addr.add,hj] using this) (by rw[hcl,hlen];omega) h4.one
  have he:(execOp (E.ev ρc) o).run P w=.ok (.value (goInt cells.length)) (w.setRow b (q4X cur.toList 0 cells).toArray):=by
   simp only[execOp,ho,resolve,invoke,builtin,Sem.run_bind,Sem.run_pure,Result.andThen_ok,List.map_toArray,List.map_cons,List.map_nil,e1,h1,hrun]
   rfl
  rw[he]
  have hB:Blk w b eb cur.toList:=by simpa[Blk] using hgbk
  have hc:=z8t w b (q4X cur.toList 0 cells).toArray
  have hb' : Blk (w.setRow b (q4X cur.toList 0 cells).toArray) b eb (q4X cur.toList 0 cells):=setRow_heap w b _ _ eb _ hgbk
  have hst:=hO.st (w':=w.setRow b (q4X cur.toList 0 cells).toArray) rfl hB (off:=0) (l:=cells) (by rw[hcl,hlen];omega) hb'
  have hgl:(q5k gs).length=ds.length*1:=hO.1
  have hspl:q4X (q5k gs) 0 cells=cells:=by
   unfold q4X
   rw[List.drop_eq_nil_of_le (by rw[hgl,hcl,hlen];omega)]
   simp
  rw[hspl] at hst
  obtain⟨g',k1,k2⟩:=hs.refill (es:=ys) (m:=m) hg hgb (hc.mono fun q _ e=>by rw[hLb];simp[e]) (cs:=cells) ⟨eb,by rw[hlen];exact hst,hLv⟩ (fun hkp=>(h4.mono (z9k hm)).imp (hkp m))
  refine⟨F,g',k1,k2,?_⟩
  rw[vr,rdC]
  have hlm:ds.length≤maxLen:=by
   obtain⟨A3,c3,q1,q2,q3⟩:=OwnR.form ⟨eb,hO,hLv⟩
   omega
  exact⟨by rw[hcl,hlen];rfl,by omega,by have:maxLen=9223372036854775807:=rfl;omega⟩
end
section
variable {P:Program}[HasTab P]{S:Start}{n:Nat}{ops ops2:Array Oper}{Q:AE→St→Prop}{QP:q3Z}{rest:List Oper}{ρ:AE}{σ:St}{md:Md2}{x y:Code}{id:Nat}
theorem sr (h:AL P S ops (fun ρ σ=>AW P S n y QP ρ σ) none ops.toList ρ σ):AW P S n (.seq (.region id ops false) y) QP ρ σ:=AW.seq (q0i h)
theorem ssr (h:AL P S ops (fun ρ σ=>AW P S n y (z6E (fun ρ σ=>AW P S n x QP ρ σ) QP) ρ σ) none ops.toList ρ σ):AW P S n (.seq (.seq (.region id ops false) y) x) QP ρ σ:=AW.seq (AW.seq (q0i h))
theorem N0 (h:Q ρ σ)(hm:okM2 ops md=true:=by kernel_rfl):AL P S ops Q md [] ρ σ:=AL.nil h hm
theorem W1 {o1:Oper}{d1:Nat}{v1:X}{r1:List Nat}(h:AL P S ops Q (q4a md r1 []) rest (updX ρ d1 v1) σ)(v_1:opV (HasTab.tab P) ρ σ o1.op=some (v1,r1):=by exact rfl)(d_1:o1.dst=some d1:=by rfl)(g_1:q3O ops ρ o1=some true:=by rfl):AL P S ops Q md (o1::rest) ρ σ:=V v_1 (h) d_1 g_1
theorem N1 {o1:Oper}{d1:Nat}{v1:X}{r1:List Nat}(h:Q (updX ρ d1 v1) σ)(v_1:opV (HasTab.tab P) ρ σ o1.op=some (v1,r1):=by exact rfl)(d_1:o1.dst=some d1:=by rfl)(g_1:q3O ops ρ o1=some true:=by rfl)(hm:okM2 ops (q4a md r1 [])=true:=by kernel_rfl):AL P S ops Q md [o1] ρ σ:=V v_1 (AL.nil h hm) d_1 g_1
theorem W2 {o1:Oper}{d1:Nat}{v1:X}{r1:List Nat}{o2:Oper}{d2:Nat}{v2:X}{r2:List Nat}(h:AL P S ops Q (q4a (q4a md r1 []) r2 []) rest (updX (updX ρ d1 v1) d2 v2) σ)(v_1:opV (HasTab.tab P) ρ σ o1.op=some (v1,r1):=by exact rfl)(d_1:o1.dst=some d1:=by rfl)(g_1:q3O ops ρ o1=some true:=by rfl)(v_2:opV (HasTab.tab P) (updX ρ d1 v1) σ o2.op=some (v2,r2):=by exact rfl)(d_2:o2.dst=some d2:=by rfl)(g_2:q3O ops (updX ρ d1 v1) o2=some true:=by rfl):AL P S ops Q md (o1::o2::rest) ρ σ:=V v_1 (V v_2 (h) d_2 g_2) d_1 g_1
theorem N2 {o1:Oper}{d1:Nat}{v1:X}{r1:List Nat}{o2:Oper}{d2:Nat}{v2:X}{r2:List Nat}(h:Q (updX (updX ρ d1 v1) d2 v2) σ)(v_1:opV (HasTab.tab P) ρ σ o1.op=some (v1,r1):=by exact rfl)(d_1:o1.dst=some d1:=by rfl)(g_1:q3O ops ρ o1=some true:=by rfl)(v_2:opV (HasTab.tab P) (updX ρ d1 v1) σ o2.op=some (v2,r2):=by exact rfl)(d_2:o2.dst=some d2:=by rfl)(g_2:q3O ops (updX ρ d1 v1) o2=some true:=by rfl)(hm:okM2 ops (q4a (q4a md r1 []) r2 [])=true:=by kernel_rfl):AL P S ops Q md [o1,o2] ρ σ:=V v_1 (V v_2 (AL.nil h hm) d_2 g_2) d_1 g_1
theorem W3 {o1:Oper}{d1:Nat}{v1:X}{r1:List Nat}{o2:Oper}{d2:Nat}{v2:X}{r2:List Nat}{o3:Oper}{d3:Nat}{v3:X}{r3:List Nat}(h:AL P S ops Q (q4a (q4a (q4a md r1 []) r2 []) r3 []) rest (updX (updX (updX ρ d1 v1) d2 v2) d3 v3) σ)(v_1:opV (HasTab.tab P) ρ σ o1.op=some (v1,r1):=by exact rfl)(d_1:o1.dst=some d1:=by rfl)(g_1:q3O ops ρ o1=some true:=by rfl)(v_2:opV (HasTab.tab P) (updX ρ d1 v1) σ o2.op=some (v2,r2):=by exact rfl)(d_2:o2.dst=some d2:=by rfl)(g_2:q3O ops (updX ρ d1 v1) o2=some true:=by rfl)(v_3:opV (HasTab.tab P) (updX (updX ρ d1 v1) d2 v2) σ o3.op=some (v3,r3):=by exact rfl)(d_3:o3.dst=some d3:=by rfl)(g_3:q3O ops (updX (updX ρ d1 v1) d2 v2) o3=some true:=by rfl):AL P S ops Q md (o1::o2::o3::rest) ρ σ:=V v_1 (V v_2 (V v_3 (h) d_3 g_3) d_2 g_2) d_1 g_1
theorem N3 {o1:Oper}{d1:Nat}{v1:X}{r1:List Nat}{o2:Oper}{d2:Nat}{v2:X}{r2:List Nat}{o3:Oper}{d3:Nat}{v3:X}{r3:List Nat}(h:Q (updX (updX (updX ρ d1 v1) d2 v2) d3 v3) σ)(v_1:opV (HasTab.tab P) ρ σ o1.op=some (v1,r1):=by exact rfl)(d_1:o1.dst=some d1:=by rfl)(g_1:q3O ops ρ o1=some true:=by rfl)(v_2:opV (HasTab.tab P) (updX ρ d1 v1) σ o2.op=some (v2,r2):=by exact rfl)(d_2:o2.dst=some d2:=by rfl)(g_2:q3O ops (updX ρ d1 v1) o2=some true:=by rfl)(v_3:opV (HasTab.tab P) (updX (updX ρ d1 v1) d2 v2) σ o3.op=some (v3,r3):=by exact rfl)(d_3:o3.dst=some d3:=by rfl)(g_3:q3O ops (updX (updX ρ d1 v1) d2 v2) o3=some true:=by rfl)(hm:okM2 ops (q4a (q4a (q4a md r1 []) r2 []) r3 [])=true:=by kernel_rfl):AL P S ops Q md [o1,o2,o3] ρ σ:=V v_1 (V v_2 (V v_3 (AL.nil h hm) d_3 g_3) d_2 g_2) d_1 g_1
theorem W4 {o1:Oper}{d1:Nat}{v1:X}{r1:List Nat}{o2:Oper}{d2:Nat}{v2:X}{r2:List Nat}{o3:Oper}{d3:Nat}{v3:X}{r3:List Nat}{o4:Oper}{d4:Nat}{v4:X}{r4:List Nat}(h:AL P S ops Q (q4a (q4a (q4a (q4a md r1 []) r2 []) r3 []) r4 []) rest (updX (updX (updX (updX ρ d1 v1) d2 v2) d3 v3) d4 v4) σ)(v_1:opV (HasTab.tab P) ρ σ o1.op=some (v1,r1):=by exact rfl)(d_1:o1.dst=some d1:=by rfl)(g_1:q3O ops ρ o1=some true:=by rfl)(v_2:opV (HasTab.tab P) (updX ρ d1 v1) σ o2.op=some (v2,r2):=by exact rfl)(d_2:o2.dst=some d2:=by rfl)(g_2:q3O ops (updX ρ d1 v1) o2=some true:=by rfl)(v_3:opV (HasTab.tab P) (updX (updX ρ d1 v1) d2 v2) σ o3.op=some (v3,r3):=by exact rfl)(d_3:o3.dst=some d3:=by rfl)(g_3:q3O ops (updX (updX ρ d1 v1) d2 v2) o3=some true:=by rfl)(v_4:opV (HasTab.tab P) (updX (updX (updX ρ d1 v1) d2 v2) d3 v3) σ o4.op=some (v4,r4):=by exact rfl)(d_4:o4.dst=some d4:=by rfl)(g_4:q3O ops (updX (updX (updX ρ d1 v1) d2 v2) d3 v3) o4=some true:=by rfl):AL P S ops Q md (o1::o2::o3::o4::rest) ρ σ:=V v_1 (V v_2 (V v_3 (V v_4 (h) d_4 g_4) d_3 g_3) d_2 g_2) d_1 g_1
theorem W5 {o1:Oper}{d1:Nat}{v1:X}{r1:List Nat}{o2:Oper}{d2:Nat}{v2:X}{r2:List Nat}{o3:Oper}{d3:Nat}{v3:X}{r3:List Nat}{o4:Oper}{d4:Nat}{v4:X}{r4:List Nat}{o5:Oper}{d5:Nat}{v5:X}{r5:List Nat}(h:AL P S ops Q (q4a (q4a (q4a (q4a (q4a md r1 []) r2 []) r3 []) r4 []) r5 []) rest (updX (updX (updX (updX (updX ρ d1 v1) d2 v2) d3 v3) d4 v4) d5 v5) σ)(v_1:opV (HasTab.tab P) ρ σ o1.op=some (v1,r1):=by exact rfl)(d_1:o1.dst=some d1:=by rfl)(g_1:q3O ops ρ o1=some true:=by rfl)(v_2:opV (HasTab.tab P) (updX ρ d1 v1) σ o2.op=some (v2,r2):=by exact rfl)(d_2:o2.dst=some d2:=by rfl)(g_2:q3O ops (updX ρ d1 v1) o2=some true:=by rfl)(v_3:opV (HasTab.tab P) (updX (updX ρ d1 v1) d2 v2) σ o3.op=some (v3,r3):=by exact rfl)(d_3:o3.dst=some d3:=by rfl)(g_3:q3O ops (updX (updX ρ d1 v1) d2 v2) o3=some true:=by rfl)(v_4:opV (HasTab.tab P) (updX (updX (updX ρ d1 v1) d2 v2) d3 v3) σ o4.op=some (v4,r4):=by exact rfl)(d_4:o4.dst=some d4:=by rfl)(g_4:q3O ops (updX (updX (updX ρ d1 v1) d2 v2) d3 v3) o4=some true:=by rfl)(v_5:opV (HasTab.tab P) (updX (updX (updX (updX ρ d1 v1) d2 v2) d3 v3) d4 v4) σ o5.op=some (v5,r5):=by exact rfl)(d_5:o5.dst=some d5:=by rfl)(g_5:q3O ops (updX (updX (updX (updX ρ d1 v1) d2 v2) d3 v3) d4 v4) o5=some true:=by rfl):AL P S ops Q md (o1::o2::o3::o4::o5::rest) ρ σ:=V v_1 (V v_2 (V v_3 (V v_4 (V v_5 (h) d_5 g_5) d_4 g_4) d_3 g_3) d_2 g_2) d_1 g_1
end
theorem q0d {S:Start}{ρ:AE}{σ:St}{n0:Nat}(hS:S.n0=n0)(n:Nat){L:List (Nat×X)}{σt:St}(hL:WkR ((Amz n).map fun i=>(i,i)) ρ L:=by repeat (first|exact trivial|refine And.intro (.of (by kernel_rfl)) ?_))(hσ:renS ((Amz n).map fun i=>(i,i)) n σ=σt:=by kernel_rfl)(hc:j3i ((Amz n).map fun i=>(i,i)) n0 n σ=true:=by kernel_rfl):GH S ρ σ (ofX L) σt:=GH.ren hS _ n hL hσ hc
end Go.A
