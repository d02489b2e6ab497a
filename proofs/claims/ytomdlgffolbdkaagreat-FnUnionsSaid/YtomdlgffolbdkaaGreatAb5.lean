/- Abstract states of a walk: plain lemmas on the model, without conditions of their own. -/
import Derived.Test.YtomdlgffolbdkaaGreatDat
import Derived.KernelRfl
set_option linter.unusedVariables false
set_option linter.unusedSimpArgs false
set_option linter.ambiguousOpen false
set_option linter.unusedSectionVars false
set_option linter.unnecessarySimpa false
namespace Go.A
open Go Go.E
theorem q0C {P:Program}{S:Start}{fn:Func}{ρ:AE}{σ:St}{e:Exit}{lr:List ResultVar}{res:X}{post:St}{n0:Nat}(l:List (Nat×Nat))(n:Nat)(hS:S.n0=n0)(he:e=.normal∨e=.ret:=by first|exact .inr rfl|exact .inl rfl)(hl:fn.results=lr.toArray:=by rfl)(ht:lr.all (z9G fn.ntmps)=true:=by rfl)
  (hx:(j2D P ρ σ lr).map (fun xs=>renX l (tupX xs))=some res:=by kernel_rfl) (hc:j2I l n0 n σ=true:=by kernel_rfl) (hp:renS l n σ=post:=by kernel_rfl):endA P S fn res post e ρ σ:=by
 cases hr:j2D P ρ σ lr with
 | none=>rw[hr] at hx;cases hx
 | some xs=>
  rw[hr] at hx
  have hx:renX l (tupX xs)=res:=Option.some.inj hx
  exact endA.ren l n he hS hl ht hr (by rw[hx];exact .rfl) hc hp
theorem z7P {ρ:AE}{σ σ' : St}{L:List (Nat×X)}(hL:WkL ρ L:=by repeat (first|exact trivial|refine And.intro (.of (by kernel_rfl)) ?_))(hσ:σ=σ':=by kernel_rfl):WkL ρ L∧σ=σ':=⟨hL,hσ⟩
section
variable {P:Program}{S:Start}{o:Oper}{ρ:AE}{σ:St}
theorem q3f {Y:X}{T T2 e r:Nat}{m m' : Md}{ds ys:List D}{x y:Operand}(ho:o.op=.call { callee:=.builtin .copy,args:=#[x,y],argTypes:=#[T,T2] })(hT:q7D P T=some e)(hk:szT P e=some 1)(hx:evX ρ x=.ref r none)(hσ:fnOf σ r=.row m 1 ds)(hy:evX ρ y=Y)(hsrc:srcD (fnOf σ) Y=some (m',1,ys))(hm:mle m' m=true)(hlen:ys.length=ds.length):LT P S o ρ σ (q8g Y) (.d .fz (.i .i64 ds.length)) [(r,.row m 1 ys)]:=by
 intro σ1 F g w ρc hs hrd hwr hv
 have hr1:σ1 r=.row m 1 ds:=(hwr (r,_) List.mem_cons_self).trans hσ
 have hroot:=hs.roots r
 rw[hr1] at hroot
 cases hg:g r<;>rw[hg] at hroot<;>try exact hroot.elim
 rename_i v k0 L gs
 obtain⟨hk0,hrow⟩:=hroot
 subst hk0
 have e1:=hv x (by simp[ho,Op.operands,Call.operands])
 have e2:=hv y (by simp[ho,Op.operands,Call.operands])
 rw[hx,vr,hg] at e1
 have e1:=e1 _ _ rfl
 rw[hy] at e2
 have hsrc1:srcD σ1 Y=some (m',1,ys):=by rw[j1B (σ2:=fnOf σ) hrd];exact hsrc
 obtain⟨A,cap,cells,h1,h2,h3,h4,h5⟩:=j6P hs hsrc1 e2
 obtain⟨hown,hrdE,hgb,hno⟩:=q6P hrow
 have hsz:(P.info? e).map (·.size)=some 1:=hk
 have hcl:cells.length=ys.length:=by rw[h4.len,Nat.mul_one]
 by_cases hz:ys=[]
 ·subst hz
  have hds:ds=[]:=List.eq_nil_of_length_eq_zero hlen.symm
  subst hds
  obtain⟨A',c',rfl,_⟩:=hown.form
  have hrun:(Builtin.copy_ #[T,T2] o.type #[.slice A' 0 c',.slice A 0 cap]).run P w=.ok (goInt 0) w:=run_copy_none w T T2 o.type e A' A 0 c' 0 cap (q6h hT) hsz rfl
  have e1' : E.ev ρc x=.slice A' 0 c':=e1
  have h1' : E.ev ρc y=.slice A 0 cap:=h1
  have he:(execOp (E.ev ρc) o).run P w=.ok (.value (goInt 0)) w:=by
   simp only[execOp,ho,resolve,invoke,builtin,Sem.run_bind,Sem.run_pure,Result.andThen_ok,List.map_toArray,List.map_cons,List.map_nil,e1',h1',hrun]
  rw[he]
  refine⟨F,g,?_,Pres.refl,by rw[vr,rdC];exact⟨rfl,by decide,by decide⟩⟩
  have:owr σ1 [(r,.row m 1 [])]=σ1:=by
   funext i;rw[owr1];by_cases hi:i=r
   ·subst hi;simp only[if_true,hr1]
   ·simp only[ifN hi]
  rw[this];exact hs
 ·obtain⟨b2,off,rfl,hat,hb2,_⟩:=h5.resolve_left hz
  have hpos:0<ds.length:=by rw[← hlen];exact List.length_pos_iff.2 hz
  obtain⟨eb,hO,hLv⟩:=hown
  rcases hO.2 with ⟨_,h00⟩|⟨b,c',cur,rfl,hb0,hgbk,hn,hcm,hsz2,htk⟩
  ·omega
  have hLb:L=[b]:=by rw[hLv];simp[Value.ownBlock]
  rw[Nat.mul_one] at hsz2
  have hrun:=run_copy_row (P:=P) w T T2 o.type e b 0 ds.length c' ⟨b2,off,none⟩ ys.length cap cur eb cells (q6h hT) hsz hgbk (by rw[hcl,hlen];simp) (fun j v hv=>by
   have:=hat j v hv
   by_cases hj:j=0
   ·subst hj;simpa[Addr.add] using this
   ·simpa[Addr.add,hj] using this) (by rw[hcl,hlen];omega) h4.one
  have he:(execOp (E.ev ρc) o).run P w=.ok (.value (goInt cells.length)) (w.setRow b (q5l cur.toList 0 cells).toArray):=by
   simp only[execOp,ho,resolve,invoke,builtin,Sem.run_bind,Sem.run_pure,Result.andThen_ok,List.map_toArray,List.map_cons,List.map_nil,e1,h1,hrun]
   rfl
  rw[he]
  have hB:Blk w b eb cur.toList:=by simpa[Blk] using hgbk
  have hc:=z7J w b (q5l cur.toList 0 cells).toArray
  have hb' : Blk (w.setRow b (q5l cur.toList 0 cells).toArray) b eb (q5l cur.toList 0 cells):=setRow_heap w b _ _ eb _ hgbk
  have hst:=hO.st (w':=w.setRow b (q5l cur.toList 0 cells).toArray) rfl hB (off:=0) (l:=cells) (by rw[hcl,hlen];omega) hb'
  have hgl:(q5A gs).length=ds.length*1:=hO.1
  have hspl:q5l (q5A gs) 0 cells=cells:=by
   unfold q5l
   rw[List.drop_eq_nil_of_le (by rw[hgl,hcl,hlen];omega)]
   simp
  rw[hspl] at hst
  obtain⟨g',k1,k2⟩:=hs.refill (es:=ys) (m:=m) hg hgb (hc.mono fun q _ e=>by rw[hLb];simp[e]) (cs:=cells) ⟨eb,by rw[hlen];exact hst,hLv⟩ (fun hkp=>(h4.mono (z8x hm)).imp (hkp m))
  refine⟨F,g',k1,k2,?_⟩
  rw[vr,rdC]
  have hlm:ds.length≤maxLen:=by
   obtain⟨A3,c3,q1,q2,q3⟩:=OwnR.form ⟨eb,hO,hLv⟩
   omega
  exact⟨by rw[hcl,hlen];rfl,by omega,by have:maxLen=9223372036854775807:=rfl;omega⟩
end
section
variable {P:Program}[HasTab P]{S:Start}{n:Nat}{ops ops2:Array Oper}{Q:AE→St→Prop}{QP:q4h}{rest:List Oper}{ρ:AE}{σ:St}{md:Md2}{x y:Code}{id:Nat}
theorem sr (h:AL P S ops (fun ρ σ=>AW P S n y QP ρ σ) none ops.toList ρ σ):AW P S n (.seq (.region id ops false) y) QP ρ σ:=q0s (q0k h)
theorem ssr (h:AL P S ops (fun ρ σ=>AW P S n y (z6k (fun ρ σ=>AW P S n x QP ρ σ) QP) ρ σ) none ops.toList ρ σ):AW P S n (.seq (.seq (.region id ops false) y) x) QP ρ σ:=q0s (q0s (q0k h))
theorem N0 (h:Q ρ σ)(hm:okM2 ops md=true:=by kernel_rfl):AL P S ops Q md [] ρ σ:=AL.nil h hm
theorem W1 {o1:Oper}{d1:Nat}{v1:X}{r1:List Nat}(h:AL P S ops Q (q4f md r1 []) rest (updX ρ d1 v1) σ)(v_1:opV (HasTab.tab P) ρ σ o1.op=some (v1,r1):=by exact rfl)(d_1:o1.dst=some d1:=by rfl)(g_1:q3X ops ρ o1=some true:=by rfl):AL P S ops Q md (o1::rest) ρ σ:=V v_1 (h) d_1 g_1
theorem N1 {o1:Oper}{d1:Nat}{v1:X}{r1:List Nat}(h:Q (updX ρ d1 v1) σ)(v_1:opV (HasTab.tab P) ρ σ o1.op=some (v1,r1):=by exact rfl)(d_1:o1.dst=some d1:=by rfl)(g_1:q3X ops ρ o1=some true:=by rfl)(hm:okM2 ops (q4f md r1 [])=true:=by kernel_rfl):AL P S ops Q md [o1] ρ σ:=V v_1 (AL.nil h hm) d_1 g_1
theorem W2 {o1:Oper}{d1:Nat}{v1:X}{r1:List Nat}{o2:Oper}{d2:Nat}{v2:X}{r2:List Nat}(h:AL P S ops Q (q4f (q4f md r1 []) r2 []) rest (updX (updX ρ d1 v1) d2 v2) σ)(v_1:opV (HasTab.tab P) ρ σ o1.op=some (v1,r1):=by exact rfl)(d_1:o1.dst=some d1:=by rfl)(g_1:q3X ops ρ o1=some true:=by rfl)(v_2:opV (HasTab.tab P) (updX ρ d1 v1) σ o2.op=some (v2,r2):=by exact rfl)(d_2:o2.dst=some d2:=by rfl)(g_2:q3X ops (updX ρ d1 v1) o2=some true:=by rfl):AL P S ops Q md (o1::o2::rest) ρ σ:=V v_1 (V v_2 (h) d_2 g_2) d_1 g_1
theorem W3 {o1:Oper}{d1:Nat}{v1:X}{r1:List Nat}{o2:Oper}{d2:Nat}{v2:X}{r2:List Nat}{o3:Oper}{d3:Nat}{v3:X}{r3:List Nat}(h:AL P S ops Q (q4f (q4f (q4f md r1 []) r2 []) r3 []) rest (updX (updX (updX ρ d1 v1) d2 v2) d3 v3) σ)(v_1:opV (HasTab.tab P) ρ σ o1.op=some (v1,r1):=by exact rfl)(d_1:o1.dst=some d1:=by rfl)(g_1:q3X ops ρ o1=some true:=by rfl)(v_2:opV (HasTab.tab P) (updX ρ d1 v1) σ o2.op=some (v2,r2):=by exact rfl)(d_2:o2.dst=some d2:=by rfl)(g_2:q3X ops (updX ρ d1 v1) o2=some true:=by rfl)(v_3:opV (HasTab.tab P) (updX (updX ρ d1 v1) d2 v2) σ o3.op=some (v3,r3):=by exact rfl)(d_3:o3.dst=some d3:=by rfl)(g_3:q3X ops (updX (updX ρ d1 v1) d2 v2) o3=some true:=by rfl):AL P S ops Q md (o1::o2::o3::rest) ρ σ:=V v_1 (V v_2 (V v_3 (h) d_3 g_3) d_2 g_2) d_1 g_1
theorem N3 {o1:Oper}{d1:Nat}{v1:X}{r1:List Nat}{o2:Oper}{d2:Nat}{v2:X}{r2:List Nat}{o3:Oper}{d3:Nat}{v3:X}{r3:List Nat}(h:Q (updX (updX (updX ρ d1 v1) d2 v2) d3 v3) σ)(v_1:opV (HasTab.tab P) ρ σ o1.op=some (v1,r1):=by exact rfl)(d_1:o1.dst=some d1:=by rfl)(g_1:q3X ops ρ o1=some true:=by rfl)(v_2:opV (HasTab.tab P) (updX ρ d1 v1) σ o2.op=some (v2,r2):=by exact rfl)(d_2:o2.dst=some d2:=by rfl)(g_2:q3X ops (updX ρ d1 v1) o2=some true:=by rfl)(v_3:opV (HasTab.tab P) (updX (updX ρ d1 v1) d2 v2) σ o3.op=some (v3,r3):=by exact rfl)(d_3:o3.dst=some d3:=by rfl)(g_3:q3X ops (updX (updX ρ d1 v1) d2 v2) o3=some true:=by rfl)(hm:okM2 ops (q4f (q4f (q4f md r1 []) r2 []) r3 [])=true:=by kernel_rfl):AL P S ops Q md [o1,o2,o3] ρ σ:=V v_1 (V v_2 (V v_3 (AL.nil h hm) d_3 g_3) d_2 g_2) d_1 g_1
theorem W4 {o1:Oper}{d1:Nat}{v1:X}{r1:List Nat}{o2:Oper}{d2:Nat}{v2:X}{r2:List Nat}{o3:Oper}{d3:Nat}{v3:X}{r3:List Nat}{o4:Oper}{d4:Nat}{v4:X}{r4:List Nat}(h:AL P S ops Q (q4f (q4f (q4f (q4f md r1 []) r2 []) r3 []) r4 []) rest (updX (updX (updX (updX ρ d1 v1) d2 v2) d3 v3) d4 v4) σ)(v_1:opV (HasTab.tab P) ρ σ o1.op=some (v1,r1):=by exact rfl)(d_1:o1.dst=some d1:=by rfl)(g_1:q3X ops ρ o1=some true:=by rfl)(v_2:opV (HasTab.tab P) (updX ρ d1 v1) σ o2.op=some (v2,r2):=by exact rfl)(d_2:o2.dst=some d2:=by rfl)(g_2:q3X ops (updX ρ d1 v1) o2=some true:=by rfl)(v_3:opV (HasTab.tab P) (updX (updX ρ d1 v1) d2 v2) σ o3.op=some (v3,r3):=by exact rfl)(d_3:o3.dst=some d3:=by rfl)(g_3:q3X ops (updX (updX ρ d1 v1) d2 v2) o3=some true:=by rfl)(v_4:opV (HasTab.tab P) (updX (updX (updX ρ d1 v1) d2 v2) d3 v3) σ o4.op=some (v4,r4):=by exact rfl)(d_4:o4.dst=some d4:=by rfl)(g_4:q3X ops (updX (updX (updX ρ d1 v1) d2 v2) d3 v3) o4=some true:=by rfl):AL P S ops Q md (o1::o2::o3::o4::rest) ρ σ:=V v_1 (V v_2 (V v_3 (V v_4 (h) d_4 g_4) d_3 g_3) d_2 g_2) d_1 g_1
theorem N4 {o1:Oper}{d1:Nat}{v1:X}{r1:List Nat}{o2:Oper}{d2:Nat}{v2:X}{r2:List Nat}{o3:Oper}{d3:Nat}{v3:X}{r3:List Nat}{o4:Oper}{d4:Nat}{v4:X}{r4:List Nat}(h:Q (updX (updX (updX (updX ρ d1 v1) d2 v2) d3 v3) d4 v4) σ)(v_1:opV (HasTab.tab P) ρ σ o1.op=some (v1,r1):=by exact rfl)(d_1:o1.dst=some d1:=by rfl)(g_1:q3X ops ρ o1=some true:=by rfl)(v_2:opV (HasTab.tab P) (updX ρ d1 v1) σ o2.op=some (v2,r2):=by exact rfl)(d_2:o2.dst=some d2:=by rfl)(g_2:q3X ops (updX ρ d1 v1) o2=some true:=by rfl)(v_3:opV (HasTab.tab P) (updX (updX ρ d1 v1) d2 v2) σ o3.op=some (v3,r3):=by exact rfl)(d_3:o3.dst=some d3:=by rfl)(g_3:q3X ops (updX (updX ρ d1 v1) d2 v2) o3=some true:=by rfl)(v_4:opV (HasTab.tab P) (updX (updX (updX ρ d1 v1) d2 v2) d3 v3) σ o4.op=some (v4,r4):=by exact rfl)(d_4:o4.dst=some d4:=by rfl)(g_4:q3X ops (updX (updX (updX ρ d1 v1) d2 v2) d3 v3) o4=some true:=by rfl)(hm:okM2 ops (q4f (q4f (q4f (q4f md r1 []) r2 []) r3 []) r4 [])=true:=by kernel_rfl):AL P S ops Q md [o1,o2,o3,o4] ρ σ:=V v_1 (V v_2 (V v_3 (V v_4 (AL.nil h hm) d_4 g_4) d_3 g_3) d_2 g_2) d_1 g_1
theorem W5 {o1:Oper}{d1:Nat}{v1:X}{r1:List Nat}{o2:Oper}{d2:Nat}{v2:X}{r2:List Nat}{o3:Oper}{d3:Nat}{v3:X}{r3:List Nat}{o4:Oper}{d4:Nat}{v4:X}{r4:List Nat}{o5:Oper}{d5:Nat}{v5:X}{r5:List Nat}(h:AL P S ops Q (q4f (q4f (q4f (q4f (q4f md r1 []) r2 []) r3 []) r4 []) r5 []) rest (updX (updX (updX (updX (updX ρ d1 v1) d2 v2) d3 v3) d4 v4) d5 v5) σ)(v_1:opV (HasTab.tab P) ρ σ o1.op=some (v1,r1):=by exact rfl)(d_1:o1.dst=some d1:=by rfl)(g_1:q3X ops ρ o1=some true:=by rfl)(v_2:opV (HasTab.tab P) (updX ρ d1 v1) σ o2.op=some (v2,r2):=by exact rfl)(d_2:o2.dst=some d2:=by rfl)(g_2:q3X ops (updX ρ d1 v1) o2=some true:=by rfl)(v_3:opV (HasTab.tab P) (updX (updX ρ d1 v1) d2 v2) σ o3.op=some (v3,r3):=by exact rfl)(d_3:o3.dst=some d3:=by rfl)(g_3:q3X ops (updX (updX ρ d1 v1) d2 v2) o3=some true:=by rfl)(v_4:opV (HasTab.tab P) (updX (updX (updX ρ d1 v1) d2 v2) d3 v3) σ o4.op=some (v4,r4):=by exact rfl)(d_4:o4.dst=some d4:=by rfl)(g_4:q3X ops (updX (updX (updX ρ d1 v1) d2 v2) d3 v3) o4=some true:=by rfl)(v_5:opV (HasTab.tab P) (updX (updX (updX (updX ρ d1 v1) d2 v2) d3 v3) d4 v4) σ o5.op=some (v5,r5):=by exact rfl)(d_5:o5.dst=some d5:=by rfl)(g_5:q3X ops (updX (updX (updX (updX ρ d1 v1) d2 v2) d3 v3) d4 v4) o5=some true:=by rfl):AL P S ops Q md (o1::o2::o3::o4::o5::rest) ρ σ:=V v_1 (V v_2 (V v_3 (V v_4 (V v_5 (h) d_5 g_5) d_4 g_4) d_3 g_3) d_2 g_2) d_1 g_1
end
theorem q0g {S:Start}{ρ:AE}{σ:St}{n0:Nat}(hS:S.n0=n0)(n:Nat){L:List (Nat×X)}{σt:St}(hL:WkR ((List.range n).map fun i=>(i,i)) ρ L:=by repeat (first|exact trivial|refine And.intro (.of (by kernel_rfl)) ?_))(hσ:renS ((List.range n).map fun i=>(i,i)) n σ=σt:=by kernel_rfl)(hc:j2I ((List.range n).map fun i=>(i,i)) n0 n σ=true:=by kernel_rfl):GH S ρ σ (ofX L) σt:=GH.ren hS _ n hL hσ hc
end Go.A
set_option maxRecDepth 100000
set_option maxHeartbeats 4000000
namespace Go.A
open Go Go.E
section
variable {P:Program}[HasTab P]{S:Start}{ops:Array Oper}{Q:AE→St→Prop}{o:Oper}{rest:List Oper}{ρ:AE}{σ:St}{d:Nat}{md:Md2}
theorem LT.same {rd:List Nat}{v:X}{wr:List (Nat×Root)}{i:Nat}{R:Root}(h:LT P S o ρ σ rd v ((i,R)::wr))(hR:R=fnOf σ i):LT P S o ρ σ (i::rd) v wr:=by
 intro σ1 F g w ρc h1 h2 h3 h4
 have hi:σ1 i=fnOf σ i:=h2 i (by simp)
 refine j1J ?_ (h σ1 F g w ρc h1 (fun j hj=>h2 j (by simp[hj])) (fun p hp=>by
  rcases List.mem_cons.1 hp with rfl|hp
  ·exact hi
  ·exact h3 p hp) h4)
 rintro vc w' ⟨F',g',h5,h6,h7⟩
 have e:(fun j=>if j=i then R else σ1 j)=σ1:=by
  funext j
  by_cases hj:j=i
  ·rw[ifP hj,hj,hR,hi]
  ·rw[ifN hj]
 refine⟨F',g',?_,h6,h7⟩
 rw[owr,e] at h5
 exact h5
end
structure Imp (a b:Prop):Prop where
 h:a→b
theorem J {a b:Prop}(s:Imp a b)(h:a):b:=s.h h
section
variable {P:Program}{S:Start}{n:Nat}{Q:q4h}{ρ:AE}{σ:St}{ops:Array Oper}
theorem q1a  : Imp (Q .normal ρ σ) (AW P S n .skip Q ρ σ):=⟨fun h=>fun F g w ρc hs hv=>q1e ⟨ρ,σ,F,g,hs,hv,h⟩⟩
theorem q1E  : Imp (Q .ret ρ σ) (AW P S n .ret Q ρ σ):=⟨fun h=>fun F g w ρc hs hv=>CW.ret ⟨ρ,σ,F,g,hs,hv,h⟩⟩
theorem q1b {id:Nat}:Imp (Q (.exit id) ρ σ) (AW P S n (.exit id) Q ρ σ):=⟨fun h=>fun F g w ρc hs hv=>q1f ⟨ρ,σ,F,g,hs,hv,h⟩⟩
theorem q0K {id:Nat}{c:Code}:Imp (AW P S n c (j1z id Q) ρ σ) (AW P S n (.block id c) Q ρ σ):=⟨fun h=>by
 intro F g w ρc hs hv
 refine CW.block ((h F g w ρc hs hv).mono fun e ρc' w' ⟨ρ',σ',F',g',h1,h2,h3⟩=>?_)
 cases e with
 | exit id'=>
  by_cases hid:id'=id
  ·subst hid
   have:Q .normal ρ' σ':=by simpa[j1z] using h3
   simp only[z9s,if_true]
   exact⟨ρ',σ',F',g',h1,h2,this⟩
  ·have hb:Nat.beq id' id=false:=by
    cases hbb:Nat.beq id' id with
    | false=>rfl
    | true=>exact absurd (Nat.eq_of_beq_eq_true hbb) hid
   have:Q (.exit id') ρ' σ':=by simpa[j1z,hb] using h3
   simp only[z9s,ifN hid]
   exact⟨ρ',σ',F',g',h1,h2,this⟩
 | _=>exact⟨ρ',σ',F',g',h1,h2,h3⟩⟩
end
section
variable {P:Program}[HasTab P]{S:Start}{n:Nat}{ops:Array Oper}{Q:AE→St→Prop}{QP:q4h}{o:Oper}{rest:List Oper}{ρ:AE}{σ:St}{d:Nat}{v:X}{rd:List Nat}{md:Md2}
theorem q1F (hd:o.dst=some d:=by rfl)(hg:q3X ops ρ o=some false:=by rfl):Imp (AL P S ops Q (q4f md [] []) rest (updX ρ d (.tu [])) σ) (AL P S ops Q md (o::rest) ρ σ):=⟨fun h=>AL.off h hd hg⟩
theorem q0x {ρ' : AE}{σ' : St}(hl:GH S ρ σ ρ' σ'):Imp (AL P S ops Q (ghM md) rest ρ' σ') (AL P S ops Q md rest ρ σ):=⟨fun h=>by
 cases md with
 | none=>exact fun k lg hd'=>.gh hl (h _ _ _)
 | some p=>obtain⟨k,lg,hd'⟩:=p;exact .gh hl h⟩
theorem q1c {id:Nat}:Imp (AL P S ops (fun ρ σ=>QP .normal ρ σ) none ops.toList ρ σ) (AW P S n (.region id ops false) QP ρ σ):=⟨fun h=>q2l (h _ _ _)⟩
variable {T e:Nat}{t te:TI}{z:Nat}
theorem NV' {zs:List X}(r:Nat)(ho:o.op=.alloc T:=by rfl)(hT:(HasTab.tab P).get T=some t:=by rfl)(hz:t.z=some zs:=by rfl)(hr:fnOf σ r=.none:=by rfl)(hd:o.dst=some d:=by rfl)(hg:q3X ops ρ o=some true:=by rfl):Imp (AL P S ops Q (q4f md [] [r]) rest (updX ρ d (.pb r 0)) (setL σ r (.box zs))) (AL P S ops Q md (o::rest) ρ σ):=⟨fun h=>by
 obtain⟨z,h1,h2⟩:=TI.z' (Tab.chk HasTab.ok hT) hz
 exact q0f (LT.alloc ho h1 h2 hr) h hd hg⟩
end
section
variable {P:Program}[HasTab P]{S:Start}{n:Nat}{ops:Array Oper}{Q:AE→St→Prop}{QP:q4h}{o:Oper}{rest:List Oper}{ρ:AE}{σ:St}{d:Nat}{v:X}{rd:List Nat}{md:Md2}
variable {T e:Nat}{t te:TI}{z:Nat}
theorem BX' {x:Operand}{X1:X}(r:Nat)(ho:o.op=.box T x:=by rfl)(hx:evX ρ x=X1:=by rfl)(hs:z3Y (fnOf σ) X1=true:=by rfl)(hr:fnOf σ r=.none:=by rfl)(hd:o.dst=some d:=by rfl)(hg:q3X ops ρ o=some true:=by rfl):Imp (AL P S ops Q (q4f md (q8g X1) [r]) rest (updX ρ d (.pb r 0)) (setL σ r (.box X1.cells))) (AL P S ops Q md (o::rest) ρ σ):=⟨fun h=>q0f (LT.box ho hx hs hr) h hd hg⟩
end
section
variable {P:Program}[HasTab P]{S:Start}{n:Nat}{ops:Array Oper}{Q:AE→St→Prop}{QP:q4h}{o:Oper}{rest:List Oper}{ρ:AE}{σ:St}{d:Nat}{v:X}{rd:List Nat}{md:Md2}
variable {T e:Nat}{t te:TI}{z:Nat}
theorem SB' {x y:Operand}{Y:X}{r c:Nat}{cs:List X}(ho:o.op=.store T x y:=by rfl)(hT:(HasTab.tab P).get T=some t:=by rfl)(hx:evX ρ x=.pb r c:=by rfl)(hσ:fnOf σ r=.box cs:=by rfl)(hy:evX ρ y=Y:=by rfl)(hl:Y.cells.length=t.sz:=by rfl)(hf:Nat.ble (c+t.sz) cs.length=true:=by rfl)(hs:Y.cells.all (z8Q (fnOf σ))=true:=by rfl)(hd:o.dst=none:=by rfl)(hg:q3X ops ρ o=some true:=by rfl):Imp (AL P S ops Q (q4f md (Y.cells.flatMap q8g) [r]) rest ρ (setL σ r (.box (spl cs c Y.cells)))) (AL P S ops Q md (o::rest) ρ σ):=⟨fun h=>q0I (q2m ho (TI.sz' (Tab.chk HasTab.ok hT)) hx hσ hy hl hf hs) h hd hg⟩
end
section
variable {P:Program}[HasTab P]{S:Start}{n:Nat}{ops:Array Oper}{Q:AE→St→Prop}{QP:q4h}{o:Oper}{rest:List Oper}{ρ:AE}{σ:St}{d:Nat}{v:X}{rd:List Nat}{md:Md2}
variable {T e:Nat}{t te:TI}{z:Nat}
theorem LF' {α:Type}{x:Operand}{m:Md}{f:α→D}{xs:List α}{k:Nat}(ho:o.op=.call { callee:=.builtin .len,args:=#[x],argTypes:=#[T] }:=by rfl)(hT:(HasTab.tab P).get T=some t:=by rfl)(he:t.el=some e:=by rfl)(hx:evX ρ x=.d m (.sl k (xs.map f)):=by rfl)(hd:o.dst=some d:=by rfl)(hg:q3X ops ρ o=some true:=by rfl):Imp (AL P S ops Q (q4f md [] []) rest (updX ρ d (.d .fz (.i .i64 xs.length))) σ) (AL P S ops Q md (o::rest) ρ σ):=⟨fun h=>q0f (q2O ho (TI.el' (Tab.chk HasTab.ok hT) he) hx (by simp)) h hd hg⟩
end
section
variable {P:Program}[HasTab P]{S:Start}{n:Nat}{ops:Array Oper}{Q:AE→St→Prop}{QP:q4h}{o:Oper}{rest:List Oper}{ρ:AE}{σ:St}{d:Nat}{v:X}{rd:List Nat}{md:Md2}
variable {T e:Nat}{t te:TI}{z:Nat}
theorem LE' {α:Type}{x:Operand}{m:Md}{r:Nat}{f:α→D}{xs:List α}{k:Nat}(ho:o.op=.call { callee:=.builtin .len,args:=#[x],argTypes:=#[T] }:=by rfl)(hT:(HasTab.tab P).get T=some t:=by rfl)(he:t.el=some e:=by rfl)(hx:evX ρ x=.ref r none:=by rfl)(hσ:fnOf σ r=.row m k (xs.map f):=by rfl)(hd:o.dst=some d:=by rfl)(hg:q3X ops ρ o=some true:=by rfl):Imp (AL P S ops Q (q4f md [r] []) rest (updX ρ d (.d .fz (.i .i64 xs.length))) σ) (AL P S ops Q md (o::rest) ρ σ):=⟨fun h=>q0f (q0R (k:=xs.length) ho (TI.el' (Tab.chk HasTab.ok hT) he) hx (by rw[hσ];rfl) (by simp)) h hd hg⟩
end
section
variable {P:Program}[HasTab P]{S:Start}{n:Nat}{ops:Array Oper}{Q:AE→St→Prop}{QP:q4h}{o:Oper}{rest:List Oper}{ρ:AE}{σ:St}{d:Nat}{v:X}{rd:List Nat}{md:Md2}
variable {T e:Nat}{t te:TI}{z:Nat}
theorem L0' {α:Type}(r:Nat)(f:α→D)(ho:o.op=.buildSlice T 0 #[]:=by rfl)(hT:(HasTab.tab P).get T=some t:=by rfl)(he:t.el=some e:=by rfl)(hE:(HasTab.tab P).get e=some te:=by rfl)(hr:fnOf σ r=.none:=by rfl)(hd:o.dst=some d:=by rfl)(hg:q3X ops ρ o=some true:=by rfl):Imp (AL P S ops Q (q4f md [] [r]) rest (updX ρ d (.ref r none)) (setL σ r (.row .fz te.sz (([]:List α).map f)))) (AL P S ops Q md (o::rest) ρ σ):=⟨fun h=>q0f (q1x ho (q3Y hT he hE).1 (q3Y hT he hE).2 hr) h hd hg⟩
end
section
variable {P:Program}[HasTab P]{S:Start}{n:Nat}{ops:Array Oper}{Q:AE→St→Prop}{QP:q4h}{o:Oper}{rest:List Oper}{ρ:AE}{σ:St}{d:Nat}{v:X}{rd:List Nat}{md:Md2}
variable {T e:Nat}{t te:TI}{z:Nat}
theorem OB' {op:BinOp}{U:Nat}{x y:Operand}{X1 Y1:X}{u1 v1 r1:Value}(z:D)(hB:rngX X1→rngX Y1→Bin P op T u1 v1 r1∧rngD z)(ho:o.op=.binOp op T x y U:=by rfl)(hx:evX ρ x=X1:=by rfl)(hy:evX ρ y=Y1:=by rfl)(hu:cvX X1=some u1:=by rfl)(hv:cvX Y1=some v1:=by rfl)(hz:cv z=some r1:=by rfl)(hd:o.dst=some d:=by rfl)(hg:q3X ops ρ o=some true:=by rfl):Imp (AL P S ops Q (q4f md [] []) rest (updX ρ d (.d .fz z)) σ) (AL P S ops Q md (o::rest) ρ σ):=⟨fun h=>q0f (q0G ho hx hy hu hv hB hz) h hd hg⟩
end
section
variable {P:Program}[HasTab P]{S:Start}{n:Nat}{ops:Array Oper}{Q:AE→St→Prop}{QP:q4h}{o:Oper}{rest:List Oper}{ρ:AE}{σ:St}{d:Nat}{v:X}{rd:List Nat}{md:Md2}{T e:Nat}{t te:TI}{α:Type}{f:α→D}{xs:List α}{k:Nat}{m m' : Md}
theorem IE' {x i:Operand}{r:Nat}{q:IntKind}{j:Int}{y:α}(hj:xs[j.toNat]?=some y)(h0:0≤j)(ho:o.op=.indexAddr T x i:=by rfl)(hT:(HasTab.tab P).get T=some t:=by rfl)(he:t.el=some e:=by rfl)(hE:(HasTab.tab P).get e=some te:=by rfl)(hx:evX ρ x=.ref r none:=by rfl)(hσ:fnOf σ r=.row m te.sz (xs.map f):=by rfl)(hi:evX ρ i=.d m' (.i q j):=by rfl)(hd:o.dst=some d:=by rfl)(hg:q3X ops ρ o=some true:=by rfl):Imp (AL P S ops Q (q4f md [r] []) rest (updX ρ d (.pe r none j.toNat 0)) σ) (AL P S ops Q md (o::rest) ρ σ):=⟨fun h=>q0f (q1u ho (q3Y hT he hE).1 (q3Y hT he hE).2 hx (by rw[hσ];rfl) hi h0 (q3Z (q3Z hj))) h hd hg⟩
theorem IV' {x i:Operand}{r lo nn:Nat}{q:IntKind}{j:Int}{y:α}(hj:xs[lo+j.toNat]?=some y)(h0:0≤j)(hn:j.toNat<nn)(ho:o.op=.indexAddr T x i:=by rfl)(hT:(HasTab.tab P).get T=some t:=by rfl)(he:t.el=some e:=by rfl)(hE:(HasTab.tab P).get e=some te:=by rfl)(hx:evX ρ x=.vs r none lo nn:=by rfl)(hσ:fnOf σ r=.row m te.sz (xs.map f):=by rfl)(hi:evX ρ i=.d m' (.i q j):=by rfl)(hd:o.dst=some d:=by rfl)(hg:q3X ops ρ o=some true:=by rfl):Imp (AL P S ops Q (q4f md [r] []) rest (updX ρ d (.pe r none (lo+j.toNat) 0)) σ) (AL P S ops Q md (o::rest) ρ σ):=⟨fun h=>q0f (q3w ho (q3Y hT he hE).1 (q3Y hT he hE).2 hx (by rw[hσ];rfl) hi h0 hn (q3Z (q3Z hj))) h hd hg⟩
theorem LP' {x:Operand}{r j c:Nat}{y:α}{z:D}(hj:xs[j]?=some y)(ho:o.op=.load T x:=by rfl)(hT:(HasTab.tab P).get T=some t:=by rfl)(ha:t.agg=false:=by rfl)(hx:evX ρ x=.pe r none j c:=by rfl)(hσ:fnOf σ r=.row m k (xs.map f):=by rfl)(hz:(f y).cells[c]?=some z:=by rfl)(hd:o.dst=some d:=by rfl)(hg:q3X ops ρ o=some true:=by rfl):Imp (AL P S ops Q (q4f md [r] []) rest (updX ρ d (dX m z)) σ) (AL P S ops Q md (o::rest) ρ σ):=⟨fun h=>q0f (q1t (hx':=[]) ho (by rw[TI.agg' (Tab.chk HasTab.ok hT),ha]) hx (by rw[hσ];rfl) (q3Z (q3Z hj)) (by rw[elOf,List.getElem?_map,hz];rfl) (.inl rfl) rfl) h hd hg⟩
theorem LPa' {x:Operand}{r j c:Nat}{y:α}(hj:xs[j]?=some y)(ho:o.op=.load T x:=by rfl)(hT:(HasTab.tab P).get T=some t:=by rfl)(ha:t.agg=true:=by rfl)(hx:evX ρ x=.pe r none j c:=by rfl)(hσ:fnOf σ r=.row m k (xs.map f):=by rfl)(hl:Nat.beq (((f y).cells.drop c).take t.sz).length t.sz=true:=by rfl)(hd:o.dst=some d:=by rfl)(hg:q3X ops ρ o=some true:=by rfl):Imp (AL P S ops Q (q4f md [r] []) rest (updX ρ d (.ag ((((f y).cells.drop c).take t.sz).map (dX m)))) σ) (AL P S ops Q md (o::rest) ρ σ):=⟨fun h=>q0f (q0Q (hx':=[]) (p:=(k,(xs.map f).map (elOf m))) ho (by rw[TI.agg' (Tab.chk HasTab.ok hT),ha]) (TI.sz' (Tab.chk HasTab.ok hT)) hx (by rw[hσ];rfl) (q3Z (q3Z hj)) (by have:=Nat.eq_of_beq_eq_true hl;simpa[elOf] using this) (.inl rfl) (by rw[elOf,← List.map_drop,← List.map_take];exact z4Q)) h hd hg⟩
theorem SE' {x y:Operand}{Y:X}{r c j:Nat}{x0:α}{ys:List D}(x1:α)(hj:xs[j]?=some x0)(ho:o.op=.store T x y:=by rfl)(hT:(HasTab.tab P).get T=some t:=by rfl)(hx:evX ρ x=.pe r none j c:=by rfl)(hσ:fnOf σ r=.row m k (xs.map f):=by rfl)(hy:evX ρ y=Y:=by rfl)(hY:asCs m Y.cells=some ys:=by rfl)(hd' : (f x1).cells=spl (f x0).cells c ys:=by rfl)(hl:Y.cells.length=t.sz:=by rfl)(hf:Nat.ble (c+t.sz) k=true:=by rfl)(hs:z3Y (fnOf σ) Y=true:=by rfl)(hd:o.dst=none:=by rfl)(hg:q3X ops ρ o=some true:=by rfl):Imp (AL P S ops Q (q4f md [] [r]) rest ρ (setL σ r (.row m k ((xs.set j x1).map f)))) (AL P S ops Q md (o::rest) ρ σ):=⟨fun h=>by
 refine q0I (q3F ho (TI.sz' (Tab.chk HasTab.ok hT)) hx hσ (q3Z hj) hy hY hd' hl hf hs) ?_ hd hg
 show AL P S ops Q _ rest ρ (setL σ r (.row m k ((xs.map f).set j (f x1))))
 rw[← List.map_set];exact h⟩
theorem SLH' {x hi:Operand}{m2:Md}{q:IntKind}{b:Int}(h1:0≤b)(h3:b.toNat≤xs.length)(ho:o.op=.slice T x none (some hi) none:=by rfl)(hT:(HasTab.tab P).get T=some t:=by rfl)(he:t.el=some e:=by rfl)(hE:(HasTab.tab P).get e=some te:=by rfl)(hx:evX ρ x=.d m (.sl te.sz (xs.map f)):=by rfl)(hh:evX ρ hi=.d m2 (.i q b):=by rfl)(hd:o.dst=some d:=by rfl)(hg:q3X ops ρ o=some true:=by rfl):Imp (AL P S ops Q (q4f md [] []) rest (updX ρ d (.d m (.sl te.sz ((xs.take b.toNat).map f)))) σ) (AL P S ops Q md (o::rest) ρ σ):=⟨fun h=>q0f (q3x ho (q3Y hT he hE).1 (q3Y hT he hE).2 hx hh h1 (by simpa using h3)) (by rw[← List.map_take];exact h) hd hg⟩
theorem SLL' {x lo:Operand}{m2:Md}{q:IntKind}{b:Int}(h1:0≤b)(h3:b.toNat≤xs.length)(ho:o.op=.slice T x (some lo) none none:=by rfl)(hT:(HasTab.tab P).get T=some t:=by rfl)(he:t.el=some e:=by rfl)(hE:(HasTab.tab P).get e=some te:=by rfl)(hx:evX ρ x=.d m (.sl te.sz (xs.map f)):=by rfl)(hh:evX ρ lo=.d m2 (.i q b):=by rfl)(hd:o.dst=some d:=by rfl)(hg:q3X ops ρ o=some true:=by rfl):Imp (AL P S ops Q (q4f md [] []) rest (updX ρ d (.d m (.sl te.sz ((xs.drop b.toNat).map f)))) σ) (AL P S ops Q md (o::rest) ρ σ):=⟨fun h=>q0f (q3y ho (q3Y hT he hE).1 (q3Y hT he hE).2 hx hh h1 (by simpa using h3)) (by rw[← List.map_drop];exact h) hd hg⟩
theorem SVL' {x lo:Operand}{r:Nat}{m2:Md}{q:IntKind}{a:Int}(h0:0≤a)(h3:a.toNat≤xs.length)(ho:o.op=.slice T x (some lo) none none:=by rfl)(hT:(HasTab.tab P).get T=some t:=by rfl)(he:t.el=some e:=by rfl)(hE:(HasTab.tab P).get e=some te:=by rfl)(hx:evX ρ x=.ref r none:=by rfl)(hσ:fnOf σ r=.row m te.sz (xs.map f):=by rfl)(hl:evX ρ lo=.d m2 (.i q a):=by rfl)(hd:o.dst=some d:=by rfl)(hg:q3X ops ρ o=some true:=by rfl):Imp (AL P S ops Q (q4f md [r] []) rest (updX ρ d (.vs r none a.toNat (xs.length-a.toNat))) σ) (AL P S ops Q md (o::rest) ρ σ):=⟨fun h=>q0f (v:=.vs r none a.toNat (xs.length-a.toNat)) (by
  have:=q3z (P:=P) (S:=S) (lo:=some lo) (hi:=none) (a:=a) (b:=(xs.length:Int)) ho (q3Y hT he hE).1 (q3Y hT he hE).2 hx (es:=(xs.map f).map (elOf m)) (by rw[hσ];rfl) ⟨m2,q,hl⟩ ⟨by simp,by simp⟩ h0 (by omega) (by simpa using h3) (by simp)
  simpa using this) h hd hg⟩
theorem CU' {x hi:Operand}{r:Nat}{m2:Md}{q:IntKind}{b:Int}(r' : Nat)(h1:0≤b)(h3:b.toNat≤xs.length)(ho:o.op=.slice T x none (some hi) none:=by rfl)(hT:(HasTab.tab P).get T=some t:=by rfl)(he:t.el=some e:=by rfl)(hE:(HasTab.tab P).get e=some te:=by rfl)(hr:fnOf σ r'=.none:=by rfl)(hx:evX ρ x=.ref r none:=by rfl)(hσ:fnOf σ r=.row m te.sz (xs.map f):=by rfl)(hh:evX ρ hi=.d m2 (.i q b):=by rfl)(hd:o.dst=some d:=by rfl)(hg:q3X ops ρ o=some true:=by rfl):Imp (AL P S ops Q (q4f md [] [r,r']) rest (updX ρ d (.ref r' none)) (setL (setL σ r .dead) r' (.row m te.sz ((xs.take b.toNat).map f)))) (AL P S ops Q md (o::rest) ρ σ):=⟨fun h=>q0f (q2Y (lo:=none) ho (q3Y hT he hE).1 (q3Y hT he hE).2 hx hσ hh h1 (by simpa using h3) hr) (by rw[← List.map_take];exact h) hd hg⟩
theorem q0m (r:Nat){ds:List D}(hr:fnOf σ r=.row m k ds):Imp (AL P S ops Q (ghM md) rest (fun t=>frX r m k ds (ρ t)) (frS r m k ds 0 σ)) (AL P S ops Q md rest ρ σ):=⟨fun h=>AL.gh (q0r hr) h⟩
theorem q2o {c:Code}(r:Nat){ds:List D}(hr:fnOf σ r=.row m k ds):Imp (AW P S n c QP (fun t=>frX r m k ds (ρ t)) (frS r m k ds 0 σ)) (AW P S n c QP ρ σ):=⟨fun h=>AW.gh (q0r hr) h⟩
theorem q3g (t r:Nat){k' : Nat}(m:Md)(k:Nat)(ht:ρ t=.nl k')(hr:fnOf σ r=.none:=by rfl):Imp (AL P S ops Q (ghM md) rest (updX ρ t (.ref r none)) (setL σ r (.row m k []))) (AL P S ops Q md rest ρ σ):=⟨fun h=>AL.gh (q0Y m k ht hr) h⟩
theorem q3h {c:Code}(t r:Nat){k' : Nat}(m:Md)(k:Nat)(ht:ρ t=.nl k')(hr:fnOf σ r=.none:=by rfl):Imp (AW P S n c QP (updX ρ t (.ref r none)) (setL σ r (.row m k []))) (AW P S n c QP ρ σ):=⟨fun h=>AW.gh (q0Y m k ht hr) h⟩
theorem q0D {c' : Code}(q c r:Nat){k' : Nat}{cs:List X}(m:Md)(k:Nat)(hq:fnOf σ q=.box cs)(hc:cs[c]?=some (.nl k'))(hr:fnOf σ r=.none:=by rfl):Imp (AW P S n c' QP ρ (setL (setL σ r (.row m k [])) q (.box (cs.set c (.ref r none))))) (AW P S n c' QP ρ σ):=⟨fun h=>AW.gh (q0j m k hq hc hr) h⟩
end
section
variable {P:Program}[HasTab P]{S:Start}{n:Nat}{ops:Array Oper}{Q:AE→St→Prop}{QP:q4h}{o:Oper}{rest:List Oper}{ρ:AE}{σ:St}{d:Nat}{md:Md2}{T e:Nat}{t te:TI}{m:Md}
theorem LS' {x:Operand}{s:ByteArray}(ho:o.op=.call { callee:=.builtin .len,args:=#[x],argTypes:=#[T] }:=by rfl)(hT:(HasTab.tab P).get T=some t:=by rfl)(hx:evX ρ x=.d m (.s s):=by rfl)(hs:t.str=true:=by rfl)(hd:o.dst=some d:=by rfl)(hg:q3X ops ρ o=some true:=by rfl):Imp (AL P S ops Q (q4f md [] []) rest (updX ρ d (.d .fz (.i .i64 s.size))) σ) (AL P S ops Q md (o::rest) ρ σ):=⟨fun h=>q0f (q2Q ho (TI.str' (Tab.chk HasTab.ok hT) hs) hx) h hd hg⟩
theorem LIR' {α:Type}{f:α→D}{xs:List α}{mm:Nat}{parts:Array (Nat×Operand)}{zs:List X}(r:Nat)(ho:o.op=.buildSlice T mm parts:=by rfl)(hT:(HasTab.tab P).get T=some t:=by rfl)(he:t.el=some e:=by rfl)(hE:(HasTab.tab P).get e=some te:=by rfl)(hz:te.z=some zs:=by rfl)(hzl:zs.length=te.sz:=by rfl)(hp:parts.toList.map (·.1)=List.range' 0 parts.toList.length:=by rfl)(hds:asDs m (parts.toList.map fun p=>evX ρ p.2)=some (xs.map f):=by rfl)(hw:(xs.map f).all (fun d=>Nat.beq d.cells.length te.sz)=true:=by rfl)(hn:(xs.map f).length=mm:=by rfl)(hk0:Nat.blt 0 te.sz=true:=by rfl)(hm:Nat.blt 0 mm=true:=by rfl)(hm2:Nat.ble (mm*te.sz) 100000=true:=by rfl)(hr:fnOf σ r=.none:=by rfl)(hd:o.dst=some d:=by rfl)(hg:q3X ops ρ o=some true:=by rfl):Imp (AL P S ops Q (q4f md [] [r]) rest (updX ρ d (.ref r none)) (setL σ r (.row m te.sz (xs.map f)))) (AL P S ops Q md (o::rest) ρ σ):=⟨fun h=>by
 obtain⟨z,h1,h2⟩:=TI.z' (Tab.chk HasTab.ok hE) hz
 exact q0f (q2n ho (q3Y hT he hE).1 (q3Y hT he hE).2 h1 (by rw[← hzl,← (h2 (fun _ _=>True) default (fun _=>.none)).len]) (j9v hp) hds hw hn hk0 hm hm2 hr) h hd hg⟩
theorem MKR' {α:Type}{f:α→D}{l c:Operand}{m1 m2:Md}{q q' : IntKind}{j:Int}{zs:List X}{b1:Nat}(r:Nat)(z:α)(h0:0≤j)(hbm:j*(te.by_:Int)≤281474976710656)(hm:j≤9223372036854775807)(ho:o.op=.makeSlice T l c:=by rfl)(hT:(HasTab.tab P).get T=some t:=by rfl)(he:t.el=some e:=by rfl)(hE:(HasTab.tab P).get e=some te:=by rfl)(hz:te.z=some zs:=by rfl)(hb:te.by_=b1+1:=by rfl)(hzl:zs.length=te.sz:=by rfl)(hl:evX ρ l=.d m1 (.i q j):=by rfl)(hc:evX ρ c=.d m2 (.i q' j):=by rfl)(hdz:asCs .fz zs=some (f z).cells:=by rfl)(hr:fnOf σ r=.none:=by rfl)(hd:o.dst=some d:=by rfl)(hg:q3X ops ρ o=some true:=by rfl):Imp (AL P S ops Q (q4f md [] [r]) rest (updX ρ d (.ref r none)) (setL σ r (.row .fz te.sz ((List.replicate j.toNat z).map f)))) (AL P S ops Q md (o::rest) ρ σ):=⟨fun h=>MK (dd:=f z) r hl hc (f z) hdz h0 hm (by rw[Int.mul_comm];exact hbm) (by rw[List.map_replicate] at h;exact h) ho hT he hE hz hb hzl hr hd hg⟩
end
section
variable {P:Program}[HasTab P]{S:Start}{n:Nat}{ops:Array Oper}{Q:AE→St→Prop}{o:Oper}{l rest:List Oper}{ρ:AE}{σ:St}{d:Nat}{md:Md2}
theorem CB' {f:Nat}{c:Call}{x:Operand}{caps axs args:List X}{pre post:St}{res:X}(ren:List (Nat×Nat))(vw:List Nat)(ok:Ok P f args pre res post)(ho:o.op=.call c:=by rfl)(hc:c.callee=.value x:=by rfl)(hx:evX ρ x=.fn f caps:=by rfl)(hcb:q8x P f=true:=by kernel_rfl)(ha:c.args.toList.map (evX ρ)++caps=axs:=by rfl)(hp:PassL (fnOf σ) ren vw axs args:=by repeat (first|exact .nil|refine .cons ?_ ?_|exact .same|exact .ag (.cons .same (.cons .same .nil))|refine .ag ?_|exact .d rfl|exact .d z8y|exact .nld|exact .nl|exact .rd rfl rfl|exact .vd rfl rfl|exact .pb rfl|exact .ref rfl|refine .fn ?_|exact .pf rfl|exact .pf z8y|exact .dd (DA (by exact fun _=>rfl) rfl) rfl|exact .dd (DA OwD.rd rfl) rfl|(refine .dd (DAh (x:=?x) OwD.rd ?hx0 rfl rfl rfl ?he0) rfl;(case hx0=>assumption);(case he0=>rfl))|exact .u))(hpre:PreL (fnOf σ) (fnOf pre) ren ren:=by repeat (first|exact trivial|refine And.intro rfl ?_))(hchk:z9F ren vw pre post res=true:=by rfl)(hd:o.dst=some d:=by rfl)(hg:q3X ops ρ o=some true:=by rfl):Imp (AL P S ops Q (q4f md vw ((ren.map fun p=>(p.2,z4P ren (fnOf post p.1))).map (·.1))) rest (updX ρ d (renX ren res)) (owrL σ (ren.map fun p=>(p.2,z4P ren (fnOf post p.1))))) (AL P S ops Q md (o::rest) ρ σ):=⟨fun h=>CA ren vw ok hp h hpre ho hc hx hcb ha hchk hd hg⟩
end
section
theorem q0c {P:Program}{S:Start}{fn:Func}{res:X}{post:St}{e:Exit}{ρ ρ' : AE}{σ σ' : St}(hg:GH S ρ σ ρ' σ'):Imp (endA P S fn res post e ρ' σ') (endA P S fn res post e ρ σ):=⟨fun h=>⟨h.1,fun F g w ρc hs hv=>let ⟨F',g',h1,h2⟩:=hg F g w ρc hs hv;h.2 F' g' w ρc h1 h2⟩⟩
end
section
variable {P:Program}[HasTab P]{S:Start}{n:Nat}{ops:Array Oper}{Q:AE→St→Prop}{QP:q4h}{o:Oper}{rest:List Oper}{ρ:AE}{σ:St}{d:Nat}{v:X}{rd:List Nat}{md:Md2}{T e:Nat}{t te:TI}
theorem SQ' {x y:Operand}{xs ys:List X}{us vs:List Value}{b:Bool}{ks:List FK}{U:Nat}(hx:evX ρ x=.ag xs)(hy:evX ρ y=.ag ys)(hu:cvL xs=some us)(hv:cvL ys=some vs)(hq:Go.E.eqF ks us vs=some b)(ho:o.op=.binOp .eql T x y U:=by rfl)(hT:(HasTab.tab P).get T=some t:=by rfl)(hk:t.fk=some ks:=by rfl)(hd:o.dst=some d:=by rfl)(hg:q3X ops ρ o=some true:=by rfl):Imp (AL P S ops Q (q4f md [] []) rest (updX ρ d (.d .fz (.b b))) σ) (AL P S ops Q md (o::rest) ρ σ):=⟨fun h=>q0f (q1v (z:=.b b) ho hx hy hu hv (q1R (TI.fk' (Tab.chk HasTab.ok hT) hk) hq) rfl trivial) h hd hg⟩
theorem SQn' {x y:Operand}{xs ys:List X}{us vs:List Value}{b:Bool}{ks:List FK}{U:Nat}(hx:evX ρ x=.ag xs)(hy:evX ρ y=.ag ys)(hu:cvL xs=some us)(hv:cvL ys=some vs)(hq:Go.E.eqF ks us vs=some b)(ho:o.op=.binOp .neq T x y U:=by rfl)(hT:(HasTab.tab P).get T=some t:=by rfl)(hk:t.fk=some ks:=by rfl)(hd:o.dst=some d:=by rfl)(hg:q3X ops ρ o=some true:=by rfl):Imp (AL P S ops Q (q4f md [] []) rest (updX ρ d (.d .fz (.b (!b)))) σ) (AL P S ops Q md (o::rest) ρ σ):=⟨fun h=>q0f (q1v (z:=.b (!b)) ho hx hy hu hv (q1S (TI.fk' (Tab.chk HasTab.ok hT) hk) hq) rfl trivial) h hd hg⟩
theorem BQ' {x y:Operand}{a b:Bool}{m m' : Md}{U:Nat}(hx:evX ρ x=.d m (.b a))(hy:evX ρ y=.d m' (.b b))(ho:o.op=.binOp .eql T x y U:=by rfl)(hT:P.underlying T=some .bool:=by kernel_rfl)(hd:o.dst=some d:=by rfl)(hg:q3X ops ρ o=some true:=by rfl):Imp (AL P S ops Q (q4f md [] []) rest (updX ρ d (.d .fz (.b (decide (a=b))))) σ) (AL P S ops Q md (o::rest) ρ σ):=⟨fun h=>q0f (q0G (z:=.b (decide (a=b))) ho hx hy rfl rfl (fun _ _=>⟨q1o hT,trivial⟩) rfl) h hd hg⟩
theorem BQn' {x y:Operand}{a b:Bool}{m m' : Md}{U:Nat}(hx:evX ρ x=.d m (.b a))(hy:evX ρ y=.d m' (.b b))(ho:o.op=.binOp .neq T x y U:=by rfl)(hT:P.underlying T=some .bool:=by kernel_rfl)(hd:o.dst=some d:=by rfl)(hg:q3X ops ρ o=some true:=by rfl):Imp (AL P S ops Q (q4f md [] []) rest (updX ρ d (.d .fz (.b (!decide (a=b))))) σ) (AL P S ops Q md (o::rest) ρ σ):=⟨fun h=>q0f (q0G (z:=.b (!decide (a=b))) ho hx hy rfl rfl (fun _ _=>⟨q1p hT,trivial⟩) rfl) h hd hg⟩
theorem CUB' {U:Nat}{tu:TI}{x:Operand}{m:Md}{b:UInt8}(hx:evX ρ x=.d m (.i .u8 (b.toNat:Int)))(ho:o.op=.convert U T x:=by rfl)(hT:(HasTab.tab P).get T=some t:=by rfl)(hk:t.ik=some .i64:=by rfl)(hU:(HasTab.tab P).get U=some tu:=by rfl)(hk2:tu.ik=some .u8:=by rfl)(hd:o.dst=some d:=by rfl)(hg:q3X ops ρ o=some true:=by rfl):Imp (AL P S ops Q (q4f md [] []) rest (updX ρ d (.d .fz (.i .i64 (b.toNat:Int)))) σ) (AL P S ops Q md (o::rest) ρ σ):=⟨fun h=>q0f (q1w (z:=.i .i64 (b.toNat:Int)) (x:=x) (by simp[ho,Op.operands]) hx rfl (fun _=>⟨fun ρc w hv=>q2h ho (z9t (TI.ik' (Tab.chk HasTab.ok hU) hk2)) (TI.ik' (Tab.chk HasTab.ok hT) hk) hv,k4U b⟩) rfl) h hd hg⟩
theorem CIU' {U:Nat}{tu:TI}{x:Operand}{m:Md}{a:Int}{q:IntKind}(h0:0≤a)(hx:evX ρ x=.d m (.i .i64 a))(ho:o.op=.convert U T x:=by rfl)(hT:(HasTab.tab P).get T=some t:=by rfl)(hk:t.ik=some .u64:=by rfl)(hU:(HasTab.tab P).get U=some tu:=by rfl)(hk2:tu.ik=some q:=by rfl)(hd:o.dst=some d:=by rfl)(hg:q3X ops ρ o=some true:=by rfl):Imp (AL P S ops Q (q4f md [] []) rest (updX ρ d (.d .fz (.i .u64 a))) σ) (AL P S ops Q md (o::rest) ρ σ):=⟨fun h=>q0f (q1w (z:=.i .u64 a) (x:=x) (by simp[ho,Op.operands]) hx rfl (fun hr=>⟨fun ρc w hv=>q1q ho (z9t (TI.ik' (Tab.chk HasTab.ok hU) hk2)) (TI.ik' (Tab.chk HasTab.ok hT) hk) hv h0 hr.2,trivial⟩) rfl) h hd hg⟩
theorem CIB' {U:Nat}{tu:TI}{x:Operand}{m:Md}{a:Int}{q p:IntKind}(hx:evX ρ x=.d m (.i p a))(ho:o.op=.convert U T x:=by rfl)(hT:(HasTab.tab P).get T=some t:=by rfl)(hk:t.ik=some .u8:=by rfl)(hU:(HasTab.tab P).get U=some tu:=by rfl)(hk2:tu.ik=some q:=by rfl)(hd:o.dst=some d:=by rfl)(hg:q3X ops ρ o=some true:=by rfl):Imp (AL P S ops Q (q4f md [] []) rest (updX ρ d (.d .fz (.i .u8 ((UInt8.ofNat (a % 256).toNat).toNat:Int)))) σ) (AL P S ops Q md (o::rest) ρ σ):=⟨fun h=>q0f (q1w (z:=.i .u8 ((UInt8.ofNat (a % 256).toNat).toNat:Int)) (x:=x) (by simp[ho,Op.operands]) hx rfl (fun _=>⟨fun ρc w hv=>q1A ho (z9t (TI.ik' (Tab.chk HasTab.ok hU) hk2)) (TI.ik' (Tab.chk HasTab.ok hT) hk) hv,⟨by omega,by have:=(UInt8.ofNat (a % 256).toNat).toNat_lt;omega⟩⟩) rfl) h hd hg⟩
theorem SI' {x i:Operand}{m m' : Md}{s:ByteArray}{q:IntKind}{j:Int}{b:UInt8}(hx:evX ρ x=.d m (.s s))(hi:evX ρ i=.d m' (.i q j))(h0:0≤j)(hb:s.data[j.toNat]?=some b)(ho:o.op=.index T x i:=by rfl)(hT:(HasTab.tab P).get T=some t:=by rfl)(hs:t.str=true:=by rfl)(hd:o.dst=some d:=by rfl)(hg:q3X ops ρ o=some true:=by rfl):Imp (AL P S ops Q (q4f md [] []) rest (updX ρ d (.d .fz (.i .u8 (b.toNat:Int)))) σ) (AL P S ops Q md (o::rest) ρ σ):=⟨fun h=>q0f (q3I ho (TI.str' (Tab.chk HasTab.ok hT) hs) hx hi h0 hb) h hd hg⟩
theorem TS' {U e:Nat}{tu te:TI}{x:Operand}{r:Nat}{m:Md}{b:UInt8}(hx:evX ρ x=.ref r none)(hσ:fnOf σ r=.row m 1 [.i .u8 (b.toNat:Int)])(ho:o.op=.convert U T x:=by rfl)(hT:(HasTab.tab P).get T=some t:=by rfl)(hs:t.str=true:=by rfl)(hU:(HasTab.tab P).get U=some tu:=by rfl)(he:tu.el=some e:=by rfl)(hE:(HasTab.tab P).get e=some te:=by rfl)(hk:te.ik=some .u8:=by rfl)(hd:o.dst=some d:=by rfl)(hg:q3X ops ρ o=some true:=by rfl):Imp (AL P S ops Q (q4f md [r] []) rest (updX ρ d (.d .fz (.s ⟨#[b]⟩))) σ) (AL P S ops Q md (o::rest) ρ σ):=⟨fun h=>q0f (q3c ho (TI.el' (Tab.chk HasTab.ok hU) he) (TI.ik' (Tab.chk HasTab.ok hE) hk) (TI.str' (Tab.chk HasTab.ok hT) hs) hx hσ) h hd hg⟩
theorem MXI' {T1 T2:Nat}{x y:Operand}{a b:Int}{m m' : Md}(hx:evX ρ x=.d m (.i .i64 a))(hy:evX ρ y=.d m' (.i .i64 b))(ho:o.op=.call { callee:=.builtin .max,args:=#[x,y],argTypes:=#[T1,T2] }:=by rfl)(hd:o.dst=some d:=by rfl)(hg:q3X ops ρ o=some true:=by rfl):Imp (AL P S ops Q (q4f md [] []) rest (updX ρ d (.d .fz (.i .i64 (if b > a then b else a)))) σ) (AL P S ops Q md (o::rest) ρ σ):=⟨fun h=>q0f (LT.mx ho hx hy) h hd hg⟩
theorem MNI' {T1 T2:Nat}{x y:Operand}{a b:Int}{m m' : Md}(hx:evX ρ x=.d m (.i .i64 a))(hy:evX ρ y=.d m' (.i .i64 b))(ho:o.op=.call { callee:=.builtin .min,args:=#[x,y],argTypes:=#[T1,T2] }:=by rfl)(hd:o.dst=some d:=by rfl)(hg:q3X ops ρ o=some true:=by rfl):Imp (AL P S ops Q (q4f md [] []) rest (updX ρ d (.d .fz (.i .i64 (if b<a then b else a)))) σ) (AL P S ops Q md (o::rest) ρ σ):=⟨fun h=>q0f (LT.mn ho hx hy) h hd hg⟩
end
section
variable {P:Program}{S:Start}{n:Nat}{QP:q4h}{ρ:AE}{σ:St}
theorem q1G {c:Code}(i j:Nat){k:Nat}{m:Md}{xs:List D}(hi:fnOf σ i=.row m k xs)(hj:fnOf σ j=.none:=by rfl):Imp (AW P S n c QP (fun t=>mvX i j (ρ t)) (setL (mvL i j 0 σ) j (.row m k xs))) (AW P S n c QP ρ σ):=⟨fun h=>AW.gh (q1D hi hj) h⟩
end
section
variable {P:Program}[HasTab P]{S:Start}{ops:Array Oper}{Q:AE→St→Prop}{o:Oper}{rest:List Oper}{ρ:AE}{σ:St}{d:Nat}{md:Md2}{T e:Nat}{t te:TI}
theorem APf' {α:Type}{s x:Operand}{X1:X}{m' m0:Md}{f:α→D}{xs ys:List α}{zs:List X}{r b1:Nat}(r' : Nat)(hflat:∀ y,z8R (f y)=true)(hmax:((xs.length:Int)+(ys.length:Int))*te.by_≤140737488355328∧(xs.length:Int)+(ys.length:Int)≤9223372036854775807)(ho:o.op=.call { callee:=.builtin .append,args:=#[s,x],argTypes:=#[T,T] }:=by rfl)(hT:(HasTab.tab P).get T=some t:=by rfl)(he:t.el=some e:=by rfl)(hE:(HasTab.tab P).get e=some te:=by rfl)(hs:evX ρ s=.ref r none:=by rfl)(hx:evX ρ x=X1:=by rfl)(hsrc:srcD (fnOf σ) X1=some (m',te.sz,ys.map f):=by rfl)(hσ:fnOf σ r=.row m0 te.sz (xs.map f):=by rfl)(hz:te.z=some zs:=by rfl)(hb:te.by_=b1+1:=by rfl)(hzl:zs.length=te.sz:=by rfl)(hk0:Nat.blt 0 te.sz=true:=by rfl)(hr:fnOf σ r'=.none:=by rfl)(hd:o.dst=some d:=by rfl)(hg:q3X ops ρ o=some true:=by rfl):Imp (AL P S ops Q (q4f md (q8g X1) [r,r']) rest (updX ρ d (.ref r' none)) (setL (setL σ r .dead) r' (.row .fz te.sz ((xs++ys).map f)))) (AL P S ops Q md (o::rest) ρ σ):=⟨fun h=>by
 obtain⟨z,h1,h2⟩:=TI.z' (Tab.chk HasTab.ok hE) hz
 refine q0f (wr:=[(r,.dead),(r',.row .fz te.sz ((xs++ys).map f))]) (LT.alt (q1y (r':=r') (m:=.bo) ho (q3Y hT he hE).1 (q3Y hT he hE).2 (TI.by' (Tab.chk HasTab.ok hE) hb) h1 (by rw[← hzl,← (h2 (fun _ _=>True) default (fun _=>.none)).len]) hk0 hs hσ hx hsrc q9P q9P ?_ ?_ hr) rfl fun σ1 S1 w g i hi=>?_) h hd hg
 ·simp only[lnM]
  have:=hmax.1
  rw[← Int.natCast_add,← Int.natCast_mul] at this
  omega
 ·simp only[lnM]
  show _≤9223372036854775807
  have:=hmax.2
  omega
 ·revert hi
  simp only[owr]
  split
  ·intro hi
   rw[← List.map_append] at hi
   exact z9O (fun x hx=>by obtain⟨y,_,rfl⟩:=List.mem_map.1 hx;exact hflat y) hi
  ·exact id⟩
theorem z0F {α:Type}{s x:Operand}{X1:X}{m' m0:Md}{f:α→D}{xs:List α}{y:α}{zs:List X}{r b1:Nat}(r' : Nat)(hflat:∀ y,z8R (f y)=true)(B:Nat)(hmax:((xs.length:Int)+1)*(B:Int)≤140737488355328∧(xs.length:Int)+1≤9223372036854775807)(ho:o.op=.call { callee:=.builtin .append,args:=#[s,x],argTypes:=#[T,T] }:=by rfl)(hT:(HasTab.tab P).get T=some t:=by rfl)(he:t.el=some e:=by rfl)(hE:(HasTab.tab P).get e=some te:=by rfl)(hs:evX ρ s=.ref r none:=by rfl)(hx:evX ρ x=X1:=by rfl)(hsrc:srcD (fnOf σ) X1=some (m',te.sz,[y].map f):=by rfl)(hσ:fnOf σ r=.row m0 te.sz (xs.map f):=by rfl)(hz:te.z=some zs:=by rfl)(hb:te.by_=b1+1:=by rfl)(hzl:zs.length=te.sz:=by rfl)(hk0:Nat.blt 0 te.sz=true:=by rfl)(hr:fnOf σ r'=.none:=by rfl)(hB:te.by_=B:=by rfl)(hd:o.dst=some d:=by rfl)(hg:q3X ops ρ o=some true:=by rfl):Imp (AL P S ops Q (q4f md (q8g X1) [r,r']) rest (updX ρ d (.ref r' none)) (setL (setL σ r .dead) r' (.row .fz te.sz ((xs++[y]).map f)))) (AL P S ops Q md (o::rest) ρ σ):=⟨fun h=>APf r' hflat (by rw[hB];exact hmax) h ho hT he hE hs hx hsrc hσ hz hb hzl hk0 hr hd hg⟩
theorem AP1' {α:Type}{s x:Operand}{X1:X}{m' m0:Md}{f:α→D}{xs:List α}{y:α}{zs:List X}{r b1:Nat}(r' : Nat)(m:Md)(B:Nat)(hmax:((xs.length:Int)+1)*(B:Int)≤140737488355328∧(xs.length:Int)+1≤9223372036854775807)(ho:o.op=.call { callee:=.builtin .append,args:=#[s,x],argTypes:=#[T,T] }:=by rfl)(hT:(HasTab.tab P).get T=some t:=by rfl)(he:t.el=some e:=by rfl)(hE:(HasTab.tab P).get e=some te:=by rfl)(hs:evX ρ s=.ref r none:=by rfl)(hx:evX ρ x=X1:=by rfl)(hsrc:srcD (fnOf σ) X1=some (m',te.sz,[y].map f):=by rfl)(hσ:fnOf σ r=.row m0 te.sz (xs.map f):=by rfl)(hz:te.z=some zs:=by rfl)(hb:te.by_=b1+1:=by rfl)(hzl:zs.length=te.sz:=by rfl)(hk0:Nat.blt 0 te.sz=true:=by rfl)(hm:mle m' m=true:=by first|rfl|exact z1f|exact q9P)(hm0:mle m0 m=true:=by first|rfl|exact z1f|exact q9P)(hr:fnOf σ r'=.none:=by rfl)(hB:te.by_=B:=by rfl)(hd:o.dst=some d:=by rfl)(hg:q3X ops ρ o=some true:=by rfl):Imp (AL P S ops Q (q4f md (q8g X1) [r,r']) rest (updX ρ d (.ref r' none)) (setL (setL σ r .dead) r' (.row m te.sz ((xs++[y]).map f)))) (AL P S ops Q md (o::rest) ρ σ):=⟨fun h=>AP r' m (by rw[hB];exact hmax) h ho hT he hE hs hx hsrc hσ hz hb hzl hk0 hm hm0 hr hd hg⟩
theorem IFq' {α:Type}{x i:Operand}{m m' : Md}{f:α→D}{xs:List α}{q:IntKind}{j:Int}{y:α}{cs:List D}(h0:0≤j)(hj:xs[j.toNat]?=some y)(hc:(f y).cells=cs)(ho:o.op=.indexAddr T x i:=by rfl)(hT:(HasTab.tab P).get T=some t:=by rfl)(he:t.el=some e:=by rfl)(hE:(HasTab.tab P).get e=some te:=by rfl)(hx:evX ρ x=.d m (.sl te.sz (xs.map f)):=by rfl)(hi:evX ρ i=.d m' (.i q j):=by rfl)(hd:o.dst=some d:=by rfl)(hg:q3X ops ρ o=some true:=by rfl):Imp (AL P S ops Q (q4f md [] []) rest (updX ρ d (.pf m cs)) σ) (AL P S ops Q md (o::rest) ρ σ):=⟨fun h=>by
 subst hc;exact IF h0 hj h ho hT he hE hx hi hd hg⟩
theorem k5E {α:Type}{x:Operand}{m:Md}{k:Nat}{f:α→D}{xs:List α}{r j c:Nat}{y:α}{cs:List D}(hj:xs[j]?=some y)(hc:(f y).cells=cs)(ho:o.op=.load T x:=by rfl)(hT:(HasTab.tab P).get T=some t:=by rfl)(ha:t.agg=true:=by rfl)(hx:evX ρ x=.pe r none j c:=by rfl)(hσ:fnOf σ r=.row m k (xs.map f):=by rfl)(hl:Nat.beq ((cs.drop c).take t.sz).length t.sz=true:=by rfl)(hd:o.dst=some d:=by rfl)(hg:q3X ops ρ o=some true:=by rfl):Imp (AL P S ops Q (q4f md [r] []) rest (updX ρ d (.ag (((cs.drop c).take t.sz).map (dX m)))) σ) (AL P S ops Q md (o::rest) ρ σ):=⟨fun h=>by
 subst hc;exact LPa hj h ho hT ha hx hσ hl hd hg⟩
theorem j8a {α:Type}{m:Md}{f:α→D}{ds:List D}{mm:Nat}{parts:Array (Nat×Operand)}{zs:List X}(r:Nat)(xs:List α)(hf:xs.map f=ds)(ho:o.op=.buildSlice T mm parts:=by rfl)(hT:(HasTab.tab P).get T=some t:=by rfl)(he:t.el=some e:=by rfl)(hE:(HasTab.tab P).get e=some te:=by rfl)(hz:te.z=some zs:=by rfl)(hzl:zs.length=te.sz:=by rfl)(hp:parts.toList.map (·.1)=List.range' 0 parts.toList.length:=by rfl)(hds:toEs (parts.toList.map fun p=>evX ρ p.2)=some ds:=by rfl)(hle:leEs m (parts.toList.map fun p=>evX ρ p.2):=by repeat (first|exact trivial|refine And.intro ?_ ?_|exact .inl rfl|exact .inr rfl|exact .inr z1f|exact .inr q9P))(hw:ds.all (fun d=>Nat.beq d.cells.length te.sz)=true:=by rfl)(hn:ds.length=mm:=by rfl)(hk0:Nat.blt 0 te.sz=true:=by rfl)(hm:Nat.blt 0 mm=true:=by rfl)(hm2:Nat.ble (mm*te.sz) 100000=true:=by rfl)(hr:fnOf σ r=.none:=by rfl)(hd:o.dst=some d:=by rfl)(hg:q3X ops ρ o=some true:=by rfl):Imp (AL P S ops Q (q4f md [] [r]) rest (updX ρ d (.ref r none)) (setL σ r (.row m te.sz (xs.map f)))) (AL P S ops Q md (o::rest) ρ σ):=⟨fun h=>by
 subst hf;exact LIR r h ho hT he hE hz hzl hp (j9x hds hle) hw hn hk0 hm hm2 hr hd hg⟩
theorem j4k {α:Type}{m:Md}{f:α→D}{ds:List D}{mm:Nat}{parts:Array (Nat×Operand)}{zs:List X}(r:Nat)(xs:List α)(hf:xs.map f=ds)(ho:o.op=.buildSlice T mm parts:=by rfl)(hT:(HasTab.tab P).get T=some t:=by rfl)(he:t.el=some e:=by rfl)(hE:(HasTab.tab P).get e=some te:=by rfl)(hz:te.z=some zs:=by rfl)(hzl:zs.length=te.sz:=by rfl)(hp:parts.toList.map (·.1)=List.range' 0 parts.toList.length:=by rfl)(hds:asDs m (parts.toList.map fun p=>evX ρ p.2)=some ds:=by rfl)(hw:ds.all (fun d=>Nat.beq d.cells.length te.sz)=true:=by rfl)(hn:ds.length=mm:=by rfl)(hk0:Nat.blt 0 te.sz=true:=by rfl)(hm:Nat.blt 0 mm=true:=by rfl)(hm2:Nat.ble (mm*te.sz) 100000=true:=by rfl)(hr:fnOf σ r=.none:=by rfl)(hd:o.dst=some d:=by rfl)(hg:q3X ops ρ o=some true:=by rfl):Imp (AL P S ops Q (q4f md [] [r]) rest (updX ρ d (.ref r none)) (setL σ r (.row m te.sz (xs.map f)))) (AL P S ops Q md (o::rest) ρ σ):=⟨fun h=>by
 subst hf;exact LIR r h ho hT he hE hz hzl hp hds hw hn hk0 hm hm2 hr hd hg⟩
theorem LV' {x:Operand}{r lo kk:Nat}{p:Nat×List (List Cell)}(L:Nat)(ho:o.op=.call { callee:=.builtin .len,args:=#[x],argTypes:=#[T] }:=by rfl)(hT:(HasTab.tab P).get T=some t:=by rfl)(he:t.el=some e:=by rfl)(hx:evX ρ x=.vs r none lo kk:=by rfl)(hσ:esAt (fnOf σ r) none=some p:=by rfl)(hL:kk=L:=by first|rfl|simp only[List.length_drop,List.length_set])(hd:o.dst=some d:=by rfl)(hg:q3X ops ρ o=some true:=by rfl):Imp (AL P S ops Q (q4f md [r] []) rest (updX ρ d (.d .fz (.i .i64 (L:Int)))) σ) (AL P S ops Q md (o::rest) ρ σ):=⟨fun h=>by
 subst hL;exact q0f (q2P ho (TI.el' (Tab.chk HasTab.ok hT) he) hx hσ) h hd hg⟩
theorem CLR' {α:Type}{f:α→D}{xs:List α}{x:Operand}{r lo:Nat}{m:Md}{zs:List X}(z0:α)(hlo:lo≤xs.length)(ho:o.op=.call { callee:=.builtin .clear,args:=#[x],argTypes:=#[T] }:=by rfl)(hT:(HasTab.tab P).get T=some t:=by rfl)(he:t.el=some e:=by rfl)(hE:(HasTab.tab P).get e=some te:=by rfl)(hz:te.z=some zs:=by rfl)(hzl:zs.length=te.sz:=by rfl)(hx:evX ρ x=.vs r none lo (xs.length-lo):=by rfl)(hσ:fnOf σ r=.row m te.sz (xs.map f):=by rfl)(hzd:asCs .fz zs=some (f z0).cells:=by rfl)(hd:o.dst=none:=by rfl)(hg:q3X ops ρ o=some true:=by rfl):Imp (AL P S ops Q (q4f md [] [r]) rest ρ (setL σ r (.row m te.sz ((xs.take lo++List.replicate (xs.length-lo) z0).map f)))) (AL P S ops Q md (o::rest) ρ σ):=⟨fun h=>by
 obtain⟨z,h1,h2⟩:=TI.z' (Tab.chk HasTab.ok hE) hz
 have hzl' : z.length=te.sz:=by rw[← hzl,← (h2 (fun _ _=>True) default (fun _=>.none)).len]
 have hrd:∀ (S1:Nat→Prop) (w:World),rd1 S1 w (f z0) z:=fun S1 w=>by
  have:=z9C (F:=S1) (B:=fun _=>False) hzd (h2 (SM S1 fun _=>False) w (fun _=>.none))
  exact this
 refine q0I (q3J ho (q3Y hT he hE).1 (q3Y hT he hE).2 h1 hrd hzl' hx hσ (by simpa using hlo) (by simp)) ?_ hd hg
 simp only[lnM]
 rw[List.map_append,List.map_replicate,List.map_take] at h
 exact h⟩
end
section
variable {P:Program}[HasTab P]{S:Start}{n:Nat}{ops:Array Oper}{Q:AE→St→Prop}{QP:q4h}{o:Oper}{rest:List Oper}{ρ:AE}{σ:St}{d:Nat}{md:Md2}{T e:Nat}{t te:TI}{k:Nat}{m:Md}{es:List (List Cell)}{hh:List (Nat×Nat×Nat)}
theorem IEd' {x i:Operand}{r:Nat}{m' : Md}{q:IntKind}{j:Int}{y:List Cell}(h0:0≤j)(hj:es[j.toNat]?=some y)(ho:o.op=.indexAddr T x i:=by rfl)(hT:(HasTab.tab P).get T=some t:=by rfl)(he:t.el=some e:=by rfl)(hE:(HasTab.tab P).get e=some te:=by rfl)(hx:evX ρ x=.ref r none:=by rfl)(hσ:fnOf σ r=.deep m te.sz es hh:=by rfl)(hi:evX ρ i=.d m' (.i q j):=by rfl)(hd:o.dst=some d:=by rfl)(hg:q3X ops ρ o=some true:=by rfl):Imp (AL P S ops Q (q4f md [r] []) rest (updX ρ d (.pe r none j.toNat 0)) σ) (AL P S ops Q md (o::rest) ρ σ):=⟨fun h=>q0f (q1u ho (q3Y hT he hE).1 (q3Y hT he hE).2 hx (by rw[hσ];rfl) hi h0 hj) h hd hg⟩
theorem q0U (r j c q:Nat){el:List Cell}{cell:Cell}{x:Root}(hj:es[j]?=some el)(hσ:fnOf σ r=.deep m k es hh:=by rfl)(hc:el[c]?=some cell:=by rfl)(hx:OC cell x:=by first|exact .row|exact .flatM (fun _=>rfl)|exact .ownM)(hq:fnOf σ q=.none:=by rfl):Imp (AL P S ops Q (ghM md) rest ρ (setL (setL σ r (.deep m k (es.set j (spl el c [.u])) ((j,c,q)::hh))) q x)) (AL P S ops Q md rest ρ σ):=⟨fun h=>AL.gh (GH.out hσ hj hc hx hq) h⟩
theorem q0t {c0:Code}(r j c q:Nat){el:List Cell}{cell:Cell}{x:Root}(hj:es[j]?=some el)(hσ:fnOf σ r=.deep m k es hh:=by rfl)(hc:el[c]?=some cell:=by rfl)(hx:OC cell x:=by first|exact .row|exact .flatM (fun _=>rfl)|exact .ownM)(hq:fnOf σ q=.none:=by rfl):Imp (AW P S n c0 QP ρ (setL (setL σ r (.deep m k (es.set j (spl el c [.u])) ((j,c,q)::hh))) q x)) (AW P S n c0 QP ρ σ):=⟨fun h=>AW.gh (GH.out hσ hj hc hx hq) h⟩
theorem q2p {α:Type}{c0:Code}(r:Nat)(f:α→List Cell)(hσ:fnOf σ r=.row m k []:=by rfl):Imp (AW P S n c0 QP ρ (setL σ r (.deep m k (([]:List α).map f) []))) (AW P S n c0 QP ρ σ):=⟨fun h=>AW.gh (q0H hσ rfl) h⟩
theorem LPd' {x:Operand}{r j c:Nat}{el:List Cell}{cell:Cell}{y:X}(hx' : List (Nat×Nat))(hj:es[j]?=some el)(ho:o.op=.load T x:=by rfl)(hT:(HasTab.tab P).get T=some t:=by rfl)(ha:t.agg=false:=by rfl)(hx:evX ρ x=.pe r none j c:=by rfl)(hσ:fnOf σ r=.deep m k es hh:=by rfl)(hhx:hh=hx'.map (fun p=>(j,p.1,p.2)):=by rfl)(hc:el[c]?=some cell:=by rfl)(hy:j2z hx' c cell=some y:=by rfl)(hd:o.dst=some d:=by rfl)(hg:q3X ops ρ o=some true:=by rfl):Imp (AL P S ops Q (q4f md [r] []) rest (updX ρ d y) σ) (AL P S ops Q md (o::rest) ρ σ):=⟨fun h=>q0f (q1t (hx':=hx') (p:=(k,es)) ho (by rw[TI.agg' (Tab.chk HasTab.ok hT),ha]) hx (by rw[hσ];rfl) hj hc (.inr ⟨m,k,es,by rw[hσ,hhx]⟩) hy) h hd hg⟩
theorem k5h {x:Operand}{r j c:Nat}{el:List Cell}{ys:List X}(hx' : List (Nat×Nat))(hj:es[j]?=some el)(ho:o.op=.load T x:=by rfl)(hT:(HasTab.tab P).get T=some t:=by rfl)(ha:t.agg=true:=by rfl)(hx:evX ρ x=.pe r none j c:=by rfl)(hσ:fnOf σ r=.deep m k es hh:=by rfl)(hhx:hh=hx'.map (fun p=>(j,p.1,p.2)):=by rfl)(hl:((el.drop c).take t.sz).length=t.sz:=by rfl)(hy:z8w hx' c ((el.drop c).take t.sz)=some ys:=by rfl)(hd:o.dst=some d:=by rfl)(hg:q3X ops ρ o=some true:=by rfl):Imp (AL P S ops Q (q4f md [r] []) rest (updX ρ d (.ag ys)) σ) (AL P S ops Q md (o::rest) ρ σ):=⟨fun h=>q0f (q0Q (hx':=hx') (p:=(k,es)) ho (by rw[TI.agg' (Tab.chk HasTab.ok hT),ha]) (TI.sz' (Tab.chk HasTab.ok hT)) hx (by rw[hσ];rfl) hj hl (.inr ⟨m,k,es,by rw[hσ,hhx]⟩) hy) h hd hg⟩
theorem SD' {x y:Operand}{Y:X}{r j c:Nat}{el:List Cell}(cells:List Cell)(qs:List Nat)(hj:es[j]?=some el)(ho:o.op=.store T x y:=by rfl)(hT:(HasTab.tab P).get T=some t:=by rfl)(hx:evX ρ x=.pe r none j c:=by rfl)(hσ:fnOf σ r=.deep m k es hh:=by rfl)(hy:evX ρ y=Y:=by rfl)(hn:NC (fnOf σ) m Y.cells cells qs:=by repeat (first|exact .nil|refine .d (.inl rfl) ?_|refine .nlo (m':=.fz) ?_|refine .ref .row (.inl rfl) ?_|refine .nlw (m':=.fz) ?_|refine .ref (MC.flatM (fun _=>rfl)) (.inl rfl) ?_|refine .ref MC.ownM (.inl rfl) ?_))(hl:Y.cells.length=t.sz:=by rfl)(hf:Nat.ble (c+t.sz) k=true:=by rfl)(hnd:z4O (r::qs)=true:=by rfl)(hs:z3Y (fnOf σ) Y=true:=by rfl)(hd:o.dst=none:=by rfl)(hg:q3X ops ρ o=some true:=by rfl):Imp (AL P S ops Q (q4f md [] (r::qs)) rest ρ (owrL σ ((r,.deep m k (es.set j (spl el c cells)) (hsK hh c t.sz))::qs.map fun q=>(q,.dead)))) (AL P S ops Q md (o::rest) ρ σ):=⟨fun h=>by
 refine q0I (q3E ho (TI.sz' (Tab.chk HasTab.ok hT)) hx hσ hj hy hn hl hf hnd hs) ?_ hd hg
 have e:((r,Root.deep m k (es.set j (spl el c cells)) (hsK hh c t.sz))::qs.map fun q=>(q,Root.dead)).map (·.1)=r::qs:=by
  rw[List.map_cons,List.map_map];exact congrArg _ (List.map_id _)
 rw[e];exact h⟩
theorem LID' {α:Type}{f:α→List Cell}{Y:X}{x:Operand}{zs:List X}(r:Nat)(x1:α)(qs:List Nat)(ho:o.op=.buildSlice T 1 #[(0,x)]:=by rfl)(hT:(HasTab.tab P).get T=some t:=by rfl)(he:t.el=some e:=by rfl)(hE:(HasTab.tab P).get e=some te:=by rfl)(hz:te.z=some zs:=by rfl)(hzl:zs.length=te.sz:=by rfl)(hy:evX ρ x=Y:=by rfl)(hn:NC (fnOf σ) .fz Y.cells (f x1) qs:=by repeat (first|exact .nil|refine .d (.inl rfl) ?_|refine .nlo (m':=.fz) ?_|refine .ref .row (.inl rfl) ?_|refine .nlw (m':=.fz) ?_|refine .ref (MC.flatM (fun _=>rfl)) (.inl rfl) ?_|refine .ref MC.ownM (.inl rfl) ?_))(hw:(f x1).length=te.sz:=by rfl)(hs:z3Y (fnOf σ) Y=true:=by rfl)(hnd:z4O qs=true:=by rfl)(hk0:Nat.blt 0 te.sz=true:=by rfl)(hm2:Nat.ble (1*te.sz) 100000=true:=by rfl)(hr:fnOf σ r=.none:=by rfl)(hd:o.dst=some d:=by rfl)(hg:q3X ops ρ o=some true:=by rfl):Imp (AL P S ops Q (q4f md [] (qs++[r])) rest (updX ρ d (.ref r none)) (owrL σ ((qs.map fun q=>(q,.dead))++[(r,.deep .fz te.sz ([x1].map f) [])]))) (AL P S ops Q md (o::rest) ρ σ):=⟨fun h=>by
 obtain⟨z,h1,h2⟩:=TI.z' (Tab.chk HasTab.ok hE) hz
 have hn' : NCs (fnOf σ) .fz te.sz [Y] ([x1].map f) qs:=by
  have:=NCs.cons hn hw hs (NCs.nil (σ:=fnOf σ) (m:=.fz) (k:=te.sz))
  rwa[List.append_nil] at this
 refine q0f (q2X (xs:=[Y]) ho (q3Y hT he hE).1 (q3Y hT he hE).2 h1 (by rw[← hzl,← (h2 (fun _ _=>True) default (fun _=>.none)).len]) (by simp[idxX,hy]) hn' hnd rfl hk0 rfl hm2 hr) ?_ hd hg
 have e:((qs.map fun q=>(q,Root.dead))++[(r,Root.deep .fz te.sz ([x1].map f) [])]).map (·.1)=qs++[r]:=by
  rw[List.map_append,List.map_map];exact congrArg (· ++ [r]) (List.map_id _)
 rw[e];exact h⟩
theorem k1J {α:Type}{f:α→List Cell}{s x:Operand}{xs:List α}{y:α}{zs:List X}{r r2 b1:Nat}(r' : Nat)(B:Nat)(hmax:((xs.length:Int)+1)*(B:Int)≤140737488355328∧(xs.length:Int)+1≤9223372036854775807)(ho:o.op=.call { callee:=.builtin .append,args:=#[s,x],argTypes:=#[T,T] }:=by rfl)(hT:(HasTab.tab P).get T=some t:=by rfl)(he:t.el=some e:=by rfl)(hE:(HasTab.tab P).get e=some te:=by rfl)(hs:evX ρ s=.ref r none:=by rfl)(hx:evX ρ x=.ref r2 none:=by rfl)(hσ:fnOf σ r=.deep m te.sz (xs.map f) []:=by rfl)(hσ2:fnOf σ r2=.deep m te.sz ([y].map f) []:=by rfl)(hz:te.z=some zs:=by rfl)(hb:te.by_=b1+1:=by rfl)(hzl:zs.length=te.sz:=by rfl)(hk0:Nat.blt 0 te.sz=true:=by rfl)(hr:fnOf σ r'=.none:=by rfl)(hne:Nat.beq r r2=false:=by rfl)(hB:te.by_=B:=by rfl)(hd:o.dst=some d:=by rfl)(hg:q3X ops ρ o=some true:=by rfl):Imp (AL P S ops Q (q4f md [] [r,r2,r']) rest (updX ρ d (.ref r' none)) (owrL σ [(r,.dead),(r2,.dead),(r',.deep m te.sz ((xs++[y]).map f) [])])) (AL P S ops Q md (o::rest) ρ σ):=⟨fun h=>APD r' B hmax h ho hT he hE hs hx hσ hσ2 hz hb hzl hk0 hr hne hB hd hg⟩
theorem LEd' {x:Operand}{r:Nat}(L:Nat)(ho:o.op=.call { callee:=.builtin .len,args:=#[x],argTypes:=#[T] }:=by rfl)(hT:(HasTab.tab P).get T=some t:=by rfl)(he:t.el=some e:=by rfl)(hx:evX ρ x=.ref r none:=by rfl)(hσ:fnOf σ r=.deep m k es hh:=by rfl)(hL:es.length=L:=by simp only[List.length_set,lnM])(hd:o.dst=some d:=by rfl)(hg:q3X ops ρ o=some true:=by rfl):Imp (AL P S ops Q (q4f md [r] []) rest (updX ρ d (.d .fz (.i .i64 L))) σ) (AL P S ops Q md (o::rest) ρ σ):=⟨fun h=>q0f (q0R (k:=L) ho (TI.el' (Tab.chk HasTab.ok hT) he) hx (by rw[hσ];rfl) hL) h hd hg⟩
theorem CUd' {α:Type}{f:α→List Cell}{xs:List α}{x hi:Operand}{r:Nat}{m2:Md}{q:IntKind}{b:Int}(r' : Nat)(h1:0≤b)(h3:b.toNat≤xs.length)(ho:o.op=.slice T x none (some hi) none:=by rfl)(hT:(HasTab.tab P).get T=some t:=by rfl)(he:t.el=some e:=by rfl)(hE:(HasTab.tab P).get e=some te:=by rfl)(hx:evX ρ x=.ref r none:=by rfl)(hσ:fnOf σ r=.deep m te.sz (xs.map f) []:=by rfl)(hh' : evX ρ hi=.d m2 (.i q b):=by rfl)(hr:fnOf σ r'=.none:=by rfl)(hd:o.dst=some d:=by rfl)(hg:q3X ops ρ o=some true:=by rfl):Imp (AL P S ops Q (q4f md [] [r,r']) rest (updX ρ d (.ref r' none)) (owrL σ [(r,.dead),(r',.deep m te.sz ((xs.take b.toNat).map f) [])])) (AL P S ops Q md (o::rest) ρ σ):=⟨fun h=>by
 refine q0f (q2Z (lo:=none) ho (q3Y hT he hE).1 (q3Y hT he hE).2 hx hσ hh' h1 (by simpa using h3) hr) ?_ hd hg
 rw[← List.map_take];exact h⟩
end
section
variable {P:Program}[HasTab P]{S:Start}{n:Nat}{ops:Array Oper}{Q:AE→St→Prop}{QP:q4h}{rest:List Oper}{ρ:AE}{σ:St}{md:Md2}{k:Nat}{m:Md}
theorem q3i (t:Nat)(x:X)(hx:ρ t=x):Imp (AL P S ops Q (ghM md) rest (updX ρ t x) σ) (AL P S ops Q md rest ρ σ):=⟨fun h=>AL.gh (q3L t x hx) h⟩
theorem q2j {α:Type}{j:Nat}{f:α→List Cell}{xs:List α}{x:α}{e:List Cell}{es:List (List Cell)}(r:Nat)(D0:α→D)(x' : α)(hf:∀ x,DR (f x) (D0 x))(hx:xs[j]?=some x)(hσ:fnOf σ r=.deep m k es []:=by rfl)(hes:es=(xs.map f).set j e:=by first|rfl|(simp only[List.set_set];rfl))(he:DR e (D0 x'):=by rfl):Imp (AL P S ops Q (ghM md) rest (fun t=>frX r m k ((xs.set j x').map D0) (ρ t)) (frS r m k ((xs.set j x').map D0) 0 σ)) (AL P S ops Q md rest ρ σ):=⟨fun h=>AL.gh (q3e r D0 x' hf hx hes hσ he) h⟩
end
section
variable {P:Program}[HasTab P]{S:Start}{ops:Array Oper}{Q:AE→St→Prop}{o:Oper}{rest:List Oper}{ρ:AE}{σ:St}{d:Nat}{md:Md2}
theorem CBz' {m:Md}{k:Nat}{xs:List D}{f:Nat}{c:Call}{x:Operand}{caps axs args:List X}{pre post:St}{res:X}(r:Nat)(ren:List (Nat×Nat))(vw:List Nat)(ok:Ok P f args pre res post)(ho:o.op=.call c:=by rfl)(hc:c.callee=.value x:=by rfl)(hx:evX ρ x=.fn f caps:=by rfl)(hcb:q8x P f=true:=by kernel_rfl)(ha:c.args.toList.map (evX ρ)++caps=axs:=by rfl)(hp:PassL (fnOf σ) ren vw axs args:=by repeat (first|exact .nil|refine .cons ?_ ?_|exact .same|exact .ag (.cons .same (.cons .same .nil))|refine .ag ?_|exact .d rfl|exact .d z8y|exact .nld|exact .nl|exact .rd rfl rfl|exact .vd rfl rfl|exact .pb rfl|exact .ref rfl|refine .fn ?_|exact .pf rfl|exact .pf z8y|exact .dd (DA (by exact fun _=>rfl) rfl) rfl|exact .dd (DA OwD.rd rfl) rfl|(refine .dd (DAh (x:=?x) OwD.rd ?hx0 rfl rfl rfl ?he0) rfl;(case hx0=>assumption);(case he0=>rfl))|exact .u))(hpre:PreL (fnOf σ) (fnOf pre) ren ren:=by repeat (first|exact trivial|refine And.intro rfl ?_))(hchk:z9F ren vw pre post res=true:=by rfl)(hz:∀ σ1,owr σ1 (ren.map fun p=>(p.2,z4P ren (fnOf post p.1))) r=.row m k xs:=by exact fun _=>rfl)(hd:o.dst=some d:=by rfl)(hg:q3X ops ρ o=some true:=by rfl):Imp (AL P S ops Q (q4f md vw (((ren.map fun (p:Nat×Nat)=>(p.2,z4P ren (fnOf post p.1)))++[(r,Root.dead)]).map (·.1))) rest (updX ρ d (frX r m k xs (renX ren res))) (owrL σ ((ren.map fun (p:Nat×Nat)=>(p.2,z4P ren (fnOf post p.1)))++[(r,Root.dead)]))) (AL P S ops Q md (o::rest) ρ σ):=⟨fun h=>q0f ((q0S ren vw ho hc hx hcb ha ok hp hpre hchk).frz hz) h hd hg⟩
end
section
variable {P:Program}[HasTab P]{S:Start}{ops:Array Oper}{Q:AE→St→Prop}{o:Oper}{rest:List Oper}{ρ:AE}{σ:St}{d:Nat}{md:Md2}{T e:Nat}{t te:TI}
theorem j2K {α:Type}{s x:Operand}{X1:X}{m' m0:Md}{f:α→D}{xs ys:List α}{zs:List X}{r b1:Nat}(r' B:Nat)(hflat:∀ y,z8R (f y)=true)(hmax:((xs.length:Int)+(ys.length:Int))*(B:Int)≤140737488355328∧(xs.length:Int)+(ys.length:Int)≤9223372036854775807)(ho:o.op=.call { callee:=.builtin .append,args:=#[s,x],argTypes:=#[T,T] }:=by rfl)(hT:(HasTab.tab P).get T=some t:=by rfl)(he:t.el=some e:=by rfl)(hE:(HasTab.tab P).get e=some te:=by rfl)(hs:evX ρ s=.ref r none:=by rfl)(hx:evX ρ x=X1:=by rfl)(hsrc:srcD (fnOf σ) X1=some (m',te.sz,ys.map f):=by rfl)(hσ:fnOf σ r=.row m0 te.sz (xs.map f):=by rfl)(hz:te.z=some zs:=by rfl)(hb:te.by_=b1+1:=by rfl)(hzl:zs.length=te.sz:=by rfl)(hk0:Nat.blt 0 te.sz=true:=by rfl)(hr:fnOf σ r'=.none:=by rfl)(hB:te.by_=B:=by rfl)(hd:o.dst=some d:=by rfl)(hg:q3X ops ρ o=some true:=by rfl):Imp (AL P S ops Q (q4f md (q8g X1) [r,r']) rest (updX ρ d (.ref r' none)) (setL (setL σ r .dead) r' (.row .fz te.sz ((xs++ys).map f)))) (AL P S ops Q md (o::rest) ρ σ):=⟨fun h=>APf r' hflat (by rw[hB];exact hmax) h ho hT he hE hs hx hsrc hσ hz hb hzl hk0 hr hd hg⟩
theorem APB' {α:Type}{s x:Operand}{X1:X}{m' m0:Md}{f:α→D}{xs ys:List α}{zs:List X}{r b1:Nat}(r' : Nat)(m:Md)(B:Nat)(hmax:((xs.length:Int)+(ys.length:Int))*(B:Int)≤140737488355328∧(xs.length:Int)+(ys.length:Int)≤9223372036854775807)(ho:o.op=.call { callee:=.builtin .append,args:=#[s,x],argTypes:=#[T,T] }:=by rfl)(hT:(HasTab.tab P).get T=some t:=by rfl)(he:t.el=some e:=by rfl)(hE:(HasTab.tab P).get e=some te:=by rfl)(hs:evX ρ s=.ref r none:=by rfl)(hx:evX ρ x=X1:=by rfl)(hsrc:srcD (fnOf σ) X1=some (m',te.sz,ys.map f):=by rfl)(hσ:fnOf σ r=.row m0 te.sz (xs.map f):=by rfl)(hz:te.z=some zs:=by rfl)(hb:te.by_=b1+1:=by rfl)(hzl:zs.length=te.sz:=by rfl)(hk0:Nat.blt 0 te.sz=true:=by rfl)(hm:mle m' m=true:=by first|rfl|exact z1f|exact q9P)(hm0:mle m0 m=true:=by first|rfl|exact z1f|exact q9P)(hr:fnOf σ r'=.none:=by rfl)(hB:te.by_=B:=by rfl)(hd:o.dst=some d:=by rfl)(hg:q3X ops ρ o=some true:=by rfl):Imp (AL P S ops Q (q4f md (q8g X1) [r,r']) rest (updX ρ d (.ref r' none)) (setL (setL σ r .dead) r' (.row m te.sz ((xs++ys).map f)))) (AL P S ops Q md (o::rest) ρ σ):=⟨fun h=>AP r' m (by rw[hB];exact hmax) h ho hT he hE hs hx hsrc hσ hz hb hzl hk0 hm hm0 hr hd hg⟩
theorem k5F {Y:X}{α:Type}{f:α→D}{xs ys:List α}{x y:Operand}{r:Nat}{m m' : Md}{T2:Nat}(hlen:ys.length=xs.length)(ho:o.op=.call { callee:=.builtin .copy,args:=#[x,y],argTypes:=#[T,T2] }:=by rfl)(hT:(HasTab.tab P).get T=some t:=by rfl)(he:t.el=some e:=by rfl)(hE:(HasTab.tab P).get e=some te:=by rfl)(h1:te.sz=1:=by rfl)(hx:evX ρ x=.ref r none:=by rfl)(hσ:fnOf σ r=.row m te.sz (xs.map f):=by rfl)(hy:evX ρ y=Y:=by rfl)(hsrc:srcD (fnOf σ) Y=some (m',te.sz,ys.map f):=by rfl)(hm:mle m' m=true:=by first|rfl|exact z1f|exact q9P)(hd:o.dst=some d:=by rfl)(hg:q3X ops ρ o=some true:=by rfl):Imp (AL P S ops Q (q4f md (q8g Y) [r]) rest (updX ρ d (.d .fz (.i .i64 (ys.length:Int)))) (setL σ r (.row m te.sz (ys.map f)))) (AL P S ops Q md (o::rest) ρ σ):=⟨fun h=>by
 rw[h1] at hσ hsrc h
 refine q0f (q3f ho (q3Y hT he hE).1 (by rw[(q3Y hT he hE).2,h1]) hx hσ hy hsrc hm (by simpa using hlen)) ?_ hd hg
 simp only[lnM]
 rw[← hlen];exact h⟩
end
section
variable {P:Program}[HasTab P]{S:Start}{n:Nat}{ops ops2:Array Oper}{Q:AE→St→Prop}{QP:q4h}{rest:List Oper}{ρ:AE}{σ:St}{md:Md2}{x y:Code}{id:Nat}
theorem N0' (hm:okM2 ops md=true:=by kernel_rfl):Imp (Q ρ σ) (AL P S ops Q md [] ρ σ):=⟨fun h=>AL.nil h hm⟩
end
section
variable {P:Program}[HasTab P]{S:Start}{ops:Array Oper}{Q:AE→St→Prop}{o:Oper}{rest:List Oper}{ρ:AE}{σ:St}{d:Nat}{md:Md2}
theorem CBk' {f:Nat}{c:Call}{x:Operand}{caps axs args:List X}{pre post:St}{res:X}(p0 i:Nat)(ren:List (Nat×Nat))(vw:List Nat)(ok:Ok P f args pre res post)(ho:o.op=.call c:=by rfl)(hc:c.callee=.value x:=by rfl)(hx:evX ρ x=.fn f caps:=by rfl)(hcb:q8x P f=true:=by kernel_rfl)(ha:c.args.toList.map (evX ρ)++caps=axs:=by rfl)(hp:PassL (fnOf σ) ((p0,i)::ren) vw axs args:=by repeat (first|exact .nil|refine .cons ?_ ?_|exact .same|exact .ag (.cons .same (.cons .same .nil))|refine .ag ?_|exact .d rfl|exact .d z8y|exact .nld|exact .nl|exact .rd rfl rfl|exact .vd rfl rfl|exact .pb rfl|exact .ref rfl|refine .fn ?_|exact .pf rfl|exact .pf z8y|exact .dd (DA (by exact fun _=>rfl) rfl) rfl|exact .dd (DA OwD.rd rfl) rfl|(refine .dd (DAh (x:=?x) OwD.rd ?hx0 rfl rfl rfl ?he0) rfl;(case hx0=>assumption);(case he0=>rfl))|exact .u))(hpre:PreL (fnOf σ) (fnOf pre) ((p0,i)::ren) ((p0,i)::ren):=by repeat (first|exact trivial|refine And.intro rfl ?_))(hchk:z9F ((p0,i)::ren) vw pre post res=true:=by rfl)(hs:z4P ((p0,i)::ren) (fnOf post p0)=fnOf σ i:=by rfl)(hd:o.dst=some d:=by rfl)(hg:q3X ops ρ o=some true:=by rfl):Imp (AL P S ops Q (q4f md (i::vw) ((ren.map fun p=>(p.2,z4P ((p0,i)::ren) (fnOf post p.1))).map (·.1))) rest (updX ρ d (renX ((p0,i)::ren) res)) (owrL σ (ren.map fun p=>(p.2,z4P ((p0,i)::ren) (fnOf post p.1))))) (AL P S ops Q md (o::rest) ρ σ):=⟨fun h=>q0f ((q0S ((p0,i)::ren) vw ho hc hx hcb ha ok hp hpre hchk).same hs) h hd hg⟩
end
theorem OE {P:Program}{f:Nat}{fn:Func}{c:Code}{args:List X}{pre:St}{res:X}{post:St}{n0:Nat}(hf:P.funcs[f]?=some fn)(h:∀ S:Start,S.n0=n0→AW P S fn.ntmps c (endA P S fn res post) (argX args) pre)(hn:pre.length=n0:=by rfl)(hb:fn.body=some c:=by rfl)(hok:z0C fn.ntmps c=true:=by rfl)(hs:Nat.ble args.length fn.ntmps=true:=by rfl):Ok P f args pre res post:=Ok.enter hn hf hb hok hs h
theorem bdP {α β γ:Type}{o:Option (α×γ)}{f:α×γ→Option β}{r:β}{G:Prop}(hr:o.bind f=some r)(h:∀ y z,o=some (y,z)→f (y,z)=some r→G):G:=bdE hr fun q=>h q.1 q.2
theorem bdT {α β γ δ:Type}{o:Option (α×γ×δ)}{f:α×γ×δ→Option β}{r:β}{G:Prop}(hr:o.bind f=some r)(h:∀ x y z,o=some (x,y,z)→f (x,y,z)=some r→G):G:=bdE hr fun q=>h q.1 q.2.1 q.2.2
abbrev dI (n:Int):X:=.d .fz (.i .i64 n)
abbrev dB (b:Bool):X:=.d .fz (.b b)
abbrev dS (s:ByteArray):X:=.d .fz (.s s)
structure Steps (n:Nat) (b:Prop):Prop where
 h:b
theorem Steps.z {a:Prop}(h:a):Steps 0 a:=⟨h⟩
theorem Steps.s {a b:Prop}{n:Nat}(s:Imp a b)(h:Steps n a):Steps (n+1) b:=⟨s.h h.h⟩
theorem lT:true=true:=rfl
theorem lF:false=false:=rfl
class Dec (p:Prop) (b:Bool) (c:outParam Bool):Prop where
 h:p→b=c
instance {b:Bool}:Dec (b=true) b true:=⟨id⟩
instance {b:Bool}:Dec (¬ b=true) b false:=⟨bF⟩
instance {b:Bool}:Dec (¬ b=true) (!b) true:=⟨bnT⟩
instance {b:Bool}:Dec (b=true) (!b) false:=⟨bnF⟩
instance {p:Prop} [Decidable p]:Dec p (decide p) true:=⟨dT⟩
instance {p:Prop} [Decidable p]:Dec (¬ p) (decide p) false:=⟨dF⟩
instance {p:Prop} [Decidable p]:Dec (¬ p) (!decide p) true:=⟨nT⟩
instance {p:Prop} [Decidable p]:Dec p (!decide p) false:=⟨nF⟩
theorem uH {p:Prop}{b c:Bool}(h:p)[d:Dec p b c]:b=c:=d.h h
theorem hB {b c:Bool}(h:b=c:=by first|with_reducible exact Go.A.lT|with_reducible exact Go.A.lF|exact uH h40|exact uH h39|exact uH h38|exact uH h37|exact uH h36|exact uH h35|exact uH h34|exact uH h33|exact uH h32|exact uH h31|exact uH h30|exact uH h29|exact uH h28|exact uH h27|exact uH h26|exact uH h25|exact uH h24|exact uH h23|exact uH h22|exact uH h21|exact uH h20|exact uH h19|exact uH h18|exact uH h17|exact uH h16|exact uH h15|exact uH h14|exact uH h13|exact uH h12|exact uH h11|exact uH h10|exact uH h9|exact uH h8|exact uH h7|exact uH h6|exact uH h5|exact uH h4|exact uH h3|exact uH h2|exact uH h1|exact uH hltk4|exact uH hltk3|exact uH hltk2|exact uH hltk1|exact uH (Go.A.ltN hltk4)|exact uH (Go.A.ltI hltk4)|exact uH (Go.A.ltN hltk3)|exact uH (Go.A.ltI hltk3)|exact uH (Go.A.ltN hltk2)|exact uH (Go.A.ltI hltk2)|exact uH (Go.A.ltN hltk1)|exact uH (Go.A.ltI hltk1)|exact Go.A.dF Go.A.geN|exact Go.A.dF Go.A.geI):b=c:=h
inductive Pk (x y:Code):Bool→Code→Prop
 | t:Pk x y true x
 | f:Pk x y false y
inductive Nb:X→X→Prop
 | b {m:Md} {b c:Bool} (h:b=c):Nb (.d m (.b b)) (.d .fz (.b c))
 | r {v:X}:Nb v v
section
variable {P:Program}{S:Start}{n:Nat}{QP:q4h}{ρ:AE}{σ:St}{c:Operand}{x y z:Code}{m:Md}{b b' : Bool}
theorem cA (hc:evX ρ c=.d m (.b b):=by rfl)(hb:b=b':=by exact hB)(hp:Pk x y b' z:=by first|exact .t|exact .f):Imp (AW P S n z QP ρ σ) (AW P S n (.cond c x y) QP ρ σ):=by
 cases hp
 ·exact⟨q0z hc hb⟩
 ·exact⟨q0A hc hb⟩
theorem q1H : Imp (AW P S n x (z6k (fun ρ σ=>AW P S n y QP ρ σ) QP) ρ σ) (AW P S n (.seq x y) QP ρ σ):=⟨q0s⟩
end
section
variable {P:Program}[HasTab P]{S:Start}{n:Nat}{ops:Array Oper}{Q:AE→St→Prop}{QP:q4h}{o:Oper}{rest:List Oper}{ρ:AE}{σ:St}{d:Nat}{v v' : X}{rd:List Nat}{md:Md2}{m m' : Md}{b:Bool}{y:Code}{id:Nat}{T e:Nat}{t te:TI}
theorem srd (hm:P.follows .mixedOrders=true:=by kernel_rfl):Imp (AL P S ops (fun ρ σ=>QP .normal ρ σ) (some (0,[],none)) ops.toList ρ σ) (AW P S n (.region id ops true) QP ρ σ):=⟨fun h=>q0q hm h⟩
theorem Va (hv:opV (HasTab.tab P) ρ σ o.op=some (v,rd):=by exact rfl)(hk:Nb v v':=by first|exact .b hB|exact .r)(hd:o.dst=some d:=by rfl)(hg:q3X ops ρ o=some true:=by rfl):Imp (AL P S ops Q (q4f md rd []) rest (updX ρ d v') σ) (AL P S ops Q md (o::rest) ρ σ):=by
 cases hk with
 | r=>exact⟨fun h=>V hv h hd hg⟩
 | @b _ _ c hb=>cases c with
  | true=>exact⟨fun h=>VT hv hb h hd hg⟩
  | false=>exact⟨fun h=>VF hv hb h hd hg⟩
end
mutual
def mtX:X→X→List (Nat×Nat)
 | .ref r _,.ref i _=>[(r,i)]
 | .vs r _ _ _,.vs i _ _ _=>[(r,i)]
 | .pb r _,.pb i _=>[(r,i)]
 | .pe r _ _ _,.pe i _ _ _=>[(r,i)]
 | .ag a,.ag b=>mtXs a b
 | .tu a,.tu b=>mtXs a b
 | .fn _ a,.fn _ b=>mtXs a b
 | _,_=>[]
def mtXs:List X→List X→List (Nat×Nat)
 | x::a,y::b=>mtX x y++mtXs a b
 | _,_=>[]
end
def mtR:Root→Root→List (Nat×Nat)
 | .box a,.box b=>mtXs a b
 | .deep _ _ _ h,.deep _ _ _ k=>(h.zip k).map fun p=>(p.1.2.2,p.2.2.2)
 | _,_=>[]
def addI (l:List (Nat×Nat)):List (Nat×Nat)→List (Nat×Nat)
 | []=>l
 | p::q=>addI (bif l.any fun x=>Nat.beq x.1 p.1||Nat.beq x.2 p.2 then l else l++[p]) q
def mtS (l:List (Nat×Nat))(σ τ:St):List (Nat×Nat):=addI l (l.flatMap fun p=>mtR (fnOf σ p.1) (fnOf τ p.2))
def isRt:Root→Bool
 | .none=>false
 | _=>true
def mtA (n0:Nat)(l:List (Nat×Nat))(σ τ:St):List (Nat×Nat):=addI (mtS (mtS (addI ((List.range n0).map fun i=>(i,i)) l) σ τ) σ τ) (((List.range τ.length).filter fun i=>isRt (fnOf τ i)).map fun i=>(i,i))
def mtE (P:Program)(ρ:AE)(σ:St)(lr:List ResultVar)(n0:Nat)(res:X)(post:St):List (Nat×Nat):=mtA n0 (match j2D P ρ σ lr with|some xs=>mtX (tupX xs) res|none=>[]) σ post
def mtL (ρ:AE):List (Nat×X)→List (Nat×Nat)
 | []=>[]
 | p::L=>mtX (ρ p.1) p.2++mtL ρ L
def selX:X→X→X
 | _,.u=>.u
 | x,_=>x
theorem k3L {x y:X}:Wk (selX x y) x:=by cases y<;>first|exact .rfl|exact .u
def k3M:List X→List X→List X
 | x::a,y::b=>selX x y::k3M a b
 | a,_=>a
theorem selXs_wk:∀ {a b:List X},Wks (k3M a b) a
 | [],[]=>.nil
 | [],_::_=>.nil
 | x::a,[]=>.cons .rfl (Wks_rfl a)
 | x::a,y::b=>.cons k3L selXs_wk
where Wks_rfl:∀ a:List X,Wks a a
 | []=>.nil
 | _::a=>.cons .rfl (Wks_rfl a)
def selR:Root→Root→Root
 | .box a,.box b=>.box (k3M a b)
 | x,_=>x
def selS:St→St→St
 | x::s,y::t=>selR x y::selS s t
 | s,_=>s
theorem j4l:∀ {s t:St} {i:Nat},fnOf (selS s t) i=selR (fnOf s i) (fnOf t i)
 | [],t,i=>by cases t<;>simp[selS,z1I,selR]
 | x::s,[],i=>by rw[z1I];simp only[selS];cases fnOf (x::s) i<;>rfl
 | x::s,y::t,0=>rfl
 | x::s,y::t,i+1=>by simp only[selS,fnOf];exact j4l
theorem q3O {S:Start}{ρ:AE}{σ:St}(τ:St):GH S ρ σ ρ (selS σ τ):=by
 intro F g w ρc hs hv
 refine⟨F,g,⟨hs.chg,hs.bB,hs.fmono,hs.fnew,hs.flt,fun i=>?_,hs.low,hs.hdr,hs.nodup,hs.disj,hs.own⟩,hv⟩
 rw[j4l]
 have:=hs.roots i
 revert this
 cases fnOf σ i<;>cases fnOf τ i<;>simp only[selR]<;>intro h<;>try exact h
 revert h
 cases g i<;>intro h<;>try exact h.elim
 obtain⟨vs,k1,k2⟩:=h
 exact⟨vs,k1,selXs_wk.vr k2⟩
theorem q1I {P:Program}{S:Start}{fn:Func}{ρ:AE}{σ:St}{e:Exit}{lr:List ResultVar}{res:X}{post:St}{n0:Nat}(hS:S.n0=n0)(he:e=.normal∨e=.ret:=by first|exact .inr rfl|exact .inl rfl)(hl:fn.results=lr.toArray:=by rfl)(ht:lr.all (z9G fn.ntmps)=true:=by rfl)
  (hx:(j2D P ρ σ lr).map (fun xs=>renX (mtE P ρ σ lr n0 res post) (tupX xs))=some res:=by kernel_rfl) (hc:j2I (mtE P ρ σ lr n0 res post) n0 post.length σ=true:=by kernel_rfl) (hp:renS (mtE P ρ σ lr n0 res post) post.length σ=post:=by kernel_rfl):endA P S fn res post e ρ σ:=q0C _ _ hS he hl ht hx hc hp
theorem q0V {S:Start}{ρ:AE}{σ:St}{n0:Nat}(hS:S.n0=n0){L:List (Nat×X)}{σt:St}(hL:WkR (mtA n0 (mtL ρ L) σ σt) ρ L:=by repeat (first|exact trivial|refine And.intro (.of (by kernel_rfl)) ?_))(hσ:selS (renS (mtA n0 (mtL ρ L) σ σt) σt.length σ) σt=σt:=by kernel_rfl)(hc:j2I (mtA n0 (mtL ρ L) σ σt) n0 σt.length σ=true:=by kernel_rfl):GH S ρ σ (ofX L) σt:=by
 have:=(q0l (S:=S) hS _ _ hL rfl hc).trans (q3O σt)
 rwa[hσ] at this
theorem E {G:Prop}(h:G:=by (cases hr;try (cases hik4 _ rfl;rename_i hr;cases hr));(try (cases hik3 _ rfl;rename_i hr;cases hr));(try (cases hik2 _ rfl;rename_i hr;cases hr));(try (cases hik1 _ rfl;rename_i hr;cases hr));first|exact q1I hS|exact z7P|exact q0V hS|exact⟨_,rfl,q0V hS⟩):G:=h
theorem I {G:Prop}(h:G:=by exact q0V hS):G:=h
section
variable {P:Program}{S:Start}{n:Nat}{c:Code}{QP:q4h}{ρ:AE}{σ:St}
theorem lenT {α:Type}{xs:List α}{f:α→D}{m:Md}{k:Nat}(t:Nat)(hx:ρ t=.d m (.sl k (xs.map f)):=by rfl):Imp ((xs.length:Int)≤9223372036854775807→AW P S n c QP ρ σ) (AW P S n c QP ρ σ):=⟨AW.len (.tmp t hx)⟩
theorem lenA {α:Type}{xs:List α}{f:α→D}{m:Md}{k:Nat}{cs:List X}(i t:Nat)(hx:ρ t=.ag cs:=by rfl)(hc:cs[i]?=some (.d m (.sl k (xs.map f))):=by rfl):Imp ((xs.length:Int)≤9223372036854775807→AW P S n c QP ρ σ) (AW P S n c QP ρ σ):=⟨AW.len (.ag i (.tmp t hx) hc)⟩
theorem lenR {α:Type}{xs:List α}{f:α→D}{m:Md}{k:Nat}(r:Nat)(hr:fnOf σ r=.row m k (xs.map f):=by rfl):Imp ((xs.length:Int)≤9223372036854775807→AW P S n c QP ρ σ) (AW P S n c QP ρ σ):=⟨q1C r hr⟩
theorem rngT {m:Md}{k:IntKind}{b:Int}(t:Nat)(hx:ρ t=.d m (.i k b):=by rfl):Imp (rngI k b→AW P S n c QP ρ σ) (AW P S n c QP ρ σ):=⟨q0F (.tmp t hx)⟩
end
theorem hX {p:Prop}(h:p:=by first|exact hxk5|exact hxk4|exact hxk3|exact hxk2|exact hxk1|exact hx30|exact hx29|exact hx28|exact hx27|exact hx26|exact hx25|exact hx24|exact hx23|exact hx22|exact hx21|exact hx20|exact hx19|exact hx18|exact hx17|exact hx16|exact hx15|exact hx14|exact hx13|exact hx12|exact hx11|exact hx10|exact hx9|exact hx8|exact hx7|exact hx6|exact hx5|exact hx4|exact hx3|exact hx2|exact hx1):p:=h
theorem h0 {j:Int}(h:0≤j:=by first|exact Int.natCast_nonneg _|with_reducible assumption):0≤j:=h
theorem hL {p:Prop}(h:p:=by first|exact hl6.2|exact hl6.1|exact hl5.2|exact hl5.1|exact hl4.2|exact hl4.1|exact hl3.2|exact hl3.1|exact hl2.2|exact hl2.1|exact hl1.2|exact hl1.1|with_reducible assumption):p:=h
section
variable {P:Program}[HasTab P]{S:Start}{ops:Array Oper}{Q:AE→St→Prop}{o:Oper}{rest:List Oper}{ρ:AE}{σ:St}{d:Nat}{md:Md2}{m m' : Md}{T e k:Nat}{t te:TI}{α:Type}{f:α→D}{xs:List α}
theorem IFa {x i:Operand}{q:IntKind}{j:Int}{y:α}{cs:List D}(ho:o.op=.indexAddr T x i:=by rfl)(hT:(HasTab.tab P).get T=some t:=by rfl)(he:t.el=some e:=by rfl)(hE:(HasTab.tab P).get e=some te:=by rfl)(hx:evX ρ x=.d m (.sl te.sz (xs.map f)):=by rfl)(hi:evX ρ i=.d m' (.i q j):=by rfl)(hd:o.dst=some d:=by rfl)(hg:q3X ops ρ o=some true:=by rfl)(hj:xs[j.toNat]?=some y:=by exact hX)(h0:0≤j:=by exact h0)(hc:(f y).cells=cs:=by first|with_reducible exact Expr.D_cells _|rfl):Imp (AL P S ops Q (q4f md [] []) rest (updX ρ d (.pf m cs)) σ) (AL P S ops Q md (o::rest) ρ σ):=IFq' h0 hj hc ho hT he hE hx hi hd hg
theorem IEa {x i:Operand}{r:Nat}{q:IntKind}{j:Int}{y:α}(ho:o.op=.indexAddr T x i:=by rfl)(hT:(HasTab.tab P).get T=some t:=by rfl)(he:t.el=some e:=by rfl)(hE:(HasTab.tab P).get e=some te:=by rfl)(hx:evX ρ x=.ref r none:=by rfl)(hσ:fnOf σ r=.row m te.sz (xs.map f):=by rfl)(hi:evX ρ i=.d m' (.i q j):=by rfl)(hd:o.dst=some d:=by rfl)(hg:q3X ops ρ o=some true:=by rfl)(hj:xs[j.toNat]?=some y:=by exact hX)(h0:0≤j:=by exact h0):Imp (AL P S ops Q (q4f md [r] []) rest (updX ρ d (.pe r none j.toNat 0)) σ) (AL P S ops Q md (o::rest) ρ σ):=IE' hj h0 ho hT he hE hx hσ hi hd hg
theorem LPe {x:Operand}{r j c:Nat}{y:α}{z:D}(ho:o.op=.load T x:=by rfl)(hT:(HasTab.tab P).get T=some t:=by rfl)(ha:t.agg=false:=by rfl)(hx:evX ρ x=.pe r none j c:=by rfl)(hσ:fnOf σ r=.row m k (xs.map f):=by rfl)(hj:xs[j]?=some y:=by exact hX)(hz:(f y).cells[c]?=some z:=by rfl)(hd:o.dst=some d:=by rfl)(hg:q3X ops ρ o=some true:=by rfl):Imp (AL P S ops Q (q4f md [r] []) rest (updX ρ d (dX m z)) σ) (AL P S ops Q md (o::rest) ρ σ):=LP' hj ho hT ha hx hσ hz hd hg
theorem LPb {x:Operand}{r j c:Nat}{y:α}(ho:o.op=.load T x:=by rfl)(hT:(HasTab.tab P).get T=some t:=by rfl)(ha:t.agg=true:=by rfl)(hx:evX ρ x=.pe r none j c:=by rfl)(hσ:fnOf σ r=.row m k (xs.map f):=by rfl)(hj:xs[j]?=some y:=by exact hX)(hl:Nat.beq (((f y).cells.drop c).take t.sz).length t.sz=true:=by rfl)(hd:o.dst=some d:=by rfl)(hg:q3X ops ρ o=some true:=by rfl):Imp (AL P S ops Q (q4f md [r] []) rest (updX ρ d (.ag ((((f y).cells.drop c).take t.sz).map (dX m)))) σ) (AL P S ops Q md (o::rest) ρ σ):=LPa' hj ho hT ha hx hσ hl hd hg
theorem OBa {op:BinOp}{U:Nat}{x y:Operand}{X1 Y1:X}{u1 v1 r1:Value}{z:D}(ho:o.op=.binOp op T x y U:=by rfl)(hx:evX ρ x=X1:=by rfl)(hy:evX ρ y=Y1:=by rfl)(hu:cvX X1=some u1:=by rfl)(hv:cvX Y1=some v1:=by rfl)(hB:BR P op T X1 Y1 u1 v1 z r1:=by first|exact z6m (q:=1) (q6m hltk4 (by with_reducible assumption))|exact z6m (q:=1) (q6m (ltN hltk4) hL)|exact z6m (q:=1) (q6m (ltI hltk4) hL)|exact z6m (q:=1) (q6m hltk3 (by with_reducible assumption))|exact z6m (q:=1) (q6m (ltN hltk3) hL)|exact z6m (q:=1) (q6m (ltI hltk3) hL)|exact z6m (q:=1) (q6m hltk2 (by with_reducible assumption))|exact z6m (q:=1) (q6m (ltN hltk2) hL)|exact z6m (q:=1) (q6m (ltI hltk2) hL)|exact z6m (q:=1) (q6m hltk1 (by with_reducible assumption))|exact z6m (q:=1) (q6m (ltN hltk1) hL)|exact z6m (q:=1) (q6m (ltI hltk1) hL)|exact bAdd (by with_reducible assumption)|exact bSub (by with_reducible assumption)|exact z6m (q:=1) (by with_reducible assumption))(hz:cv z=some r1:=by rfl)(hd:o.dst=some d:=by rfl)(hg:q3X ops ρ o=some true:=by rfl):Imp (AL P S ops Q (q4f md [] []) rest (updX ρ d (.d .fz z)) σ) (AL P S ops Q md (o::rest) ρ σ):=OB' z hB ho hx hy hu hv hz hd hg
end
structure Bx (a:Prop):Prop where
 h:a
theorem g {a b:Prop}(s:Bx a→b:=by (intro h;(repeat (first|refine J Va ?_|refine J N0' ?_|refine J q1H ?_|refine J q1c ?_|refine J cA ?_|refine J q0K ?_|refine J q1a ?_|refine J SB' ?_|refine J LF' ?_|refine J LE' ?_|refine J q1F ?_|refine J q1b ?_|refine J q1E ?_|refine J IFa ?_|refine J IEa ?_|refine J LPe ?_|refine J LPb ?_|refine J OBa ?_|refine J srd ?_));exact h.h)):Imp a b:=⟨fun h=>s ⟨h⟩⟩
theorem gn {a b:Prop}(n:Nat)(s:Bx a→Steps n b:=by (intro h;repeat (first|exact Steps.z h.h|refine Steps.s Va ?_|refine Steps.s N0' ?_|refine Steps.s q1H ?_|refine Steps.s q1c ?_|refine Steps.s cA ?_|refine Steps.s q0K ?_|refine Steps.s q1a ?_|refine Steps.s SB' ?_|refine Steps.s LF' ?_|refine Steps.s LE' ?_|refine Steps.s q1F ?_|refine Steps.s q1b ?_|refine Steps.s q1E ?_|refine Steps.s IFa ?_|refine Steps.s IEa ?_|refine Steps.s LPe ?_|refine Steps.s LPb ?_|refine Steps.s OBa ?_|refine Steps.s srd ?_))):Imp a b:=⟨fun h=>(s ⟨h⟩).h⟩
theorem e {G:Prop}(h:G:=by exact J g E):G:=h
end Go.A
