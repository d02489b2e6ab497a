/- A small engine for walks through a Go program: plain lemmas on the model, without conditions of their own. -/
import Derived.Deep.Quiet
import Derived.Deep.Slices
import Derived.Laws.Slices
import Derived.Laws.StructEq
import Derived.Maps.AppendAt
import Derived.OpenShut
import Derived.ProofKit
import Derived.Still
import Derived.StillTail
import Derived.WalkKit
set_option linter.unusedVariables false
set_option linter.unusedSimpArgs false
set_option linter.ambiguousOpen false
set_option linter.unusedSectionVars false
set_option linter.unnecessarySimpa false
namespace Go
theorem bsS {α β:Type _}(a:α)(f:α→Option β):(some a).bind f=f a:=rfl
theorem ifP {c:Prop}{h:Decidable c}(hc:c){α:Sort _}{t e:α}:ite c t e=t:=if_pos hc
theorem ifN {c:Prop}{h:Decidable c}(hc:¬c){α:Sort _}{t e:α}:ite c t e=e:=if_neg hc
theorem tnC (n:Nat):((n:Int)).toNat=n:=Int.toNat_natCast n
theorem lnM {α β:Type _}{as:List α}(f:α→β):(as.map f).length=as.length:=List.length_map f
theorem lnC {α:Type _}{a:α}{as:List α}:(a::as).length=as.length+1:=List.length_cons
end Go
namespace Go.E
open Go
abbrev Env:=Nat→Value
def upd (ρ:Env)(d:Nat)(v:Value):Env:=fun t=>bif Nat.beq t d then v else ρ t
def put (ρ:Env):Option Nat→Value→Env
 | some d,v=>upd ρ d v
 | none,_=>ρ
def ev (ρ:Env):Operand→Value
 | .tmp t=>ρ t
 | .const v=>v
 | .global g=>.pointer (some ⟨g,0,none⟩)
 | .func f=>.func (.func f) #[] #[]
theorem j2s (ρ:Env)(d:Nat)(v:Value):upd ρ d v d=v:=by simp[upd]
theorem z4K (ρ:Env){d t:Nat}(v:Value)(h:t≠d):upd ρ d v t=ρ t:=by
 have:Nat.beq t d=false:=by
  cases hb:Nat.beq t d with
  | false=>rfl
  | true=>exact absurd (Nat.eq_of_beq_eq_true hb) h
 simp[upd,this]
structure Rel (n:Nat) (ρ:Env) (a:Act):Prop where
 size:a.tmps.size=n
 defers:a.defers=[]
 at_:∀ t,t<n→a.tmps.getD t undef=ρ t
def z6N (n:Nat):Operand→Bool
 | .tmp t=>Nat.blt t n
 | _=>true
def q9K (n:Nat)(o:Oper):Bool:=
 (match o.dst with|some d=>Nat.blt d n|none=>true)&&o.op.operands.toList.all (z6N n)&&(match o.op with|.select ..=>false|_=>true)
def z0C (n:Nat):Code→Bool
 | .skip=>true
 | .region _ ops _=>ops.toList.all (q9K n)
 | .seq a b=>z0C n a&&z0C n b
 | .cond c a b=>z6N n c&&z0C n a&&z0C n b
 | .block _ c=>z0C n c
 | .loop c=>z0C n c
 | .exit _=>true
 | .ret=>true
 | _=>false
theorem Rel.put {n:Nat}{ρ:Env}{a:Act}(h:Rel n ρ a)(dst:Option Nat)(v:Value):Rel n (E.put ρ dst v) (a.put dst v):=by
 cases dst with
 | none=>exact h
 | some d=>
  refine⟨by simp[Act.put,h.size],h.defers,fun t ht=>?_⟩
  by_cases htd:t=d
  ·subst htd
   have:t<a.tmps.size:=by rw[h.size];exact ht
   simp[Act.put,E.put,j2s,this]
  ·rw[E.put,z4K _ _ htd,← h.at_ t ht]
   simp[Act.put,Array.getElem?_setIfInBounds_ne (Ne.symm htd)]
theorem Rel.eval {n:Nat}{ρ:Env}{a:Act}(h:Rel n ρ a){x:Operand}(hx:z6N n x=true):a.eval x=E.ev ρ x:=by
 cases x with
 | tmp t=>exact h.at_ t (by simpa[z6N] using hx)
 | const v=>rfl
 | global g=>rfl
 | func f=>rfl
abbrev Post:=Exit→Env→World→Prop
@[reducible] def lift (n:Nat) (Q:Post):Exit→Act→World→Prop:=fun e a w=>∃ ρ,Rel n ρ a∧Q e ρ w
def WL (P:Program)(n:Nat)(ops:Array Oper)(Q:Post)(rest:List Oper)(ρ:Env)(w:World):Prop:=
 rest.all (q9K n)=true→∀ a,Rel n ρ a→wpList P ops (lift n Q) rest a w
def CW (P:Program)(n:Nat)(c:Code)(Q:Post)(ρ:Env)(w:World):Prop:=
 z0C n c=true→∀ a,Rel n ρ a→c.wp P (lift n Q) a w
section
variable {P:Program}{n:Nat}{Q:Post}{ρ:Env}{w:World}
@[reducible] def k4Q (K:Env→World→Prop) (Q:Post):Post
 | .normal,ρ,w=>K ρ w
 | e,ρ,w=>Q e ρ w
@[reducible] def z9s (id:Nat) (Q:Post):Post
 | .exit id',ρ,w=>if id'=id then Q .normal ρ w else Q (.exit id') ρ w
 | e,ρ,w=>Q e ρ w
theorem CW.mono {c:Code}{Q' : Post}(h:CW P n c Q ρ w)(hq:∀ e ρ w,Q e ρ w→Q' e ρ w):CW P n c Q' ρ w:=
 fun hok a ha=>Code.wp_mono (fun _ _ _ ⟨ρ,hr,q⟩=>⟨ρ,hr,hq _ _ _ q⟩) (h hok a ha)
theorem q1e (h:Q .normal ρ w):CW P n .skip Q ρ w:=fun _ _ ha=>wp_skip ⟨ρ,ha,h⟩
theorem CW.ret (h:Q .ret ρ w):CW P n .ret Q ρ w:=fun _ _ ha=>wp_ret ⟨ρ,ha,h⟩
theorem q1f {id:Nat}(h:Q (.exit id) ρ w):CW P n (.exit id) Q ρ w:=fun _ _ ha=>wp_exit ⟨ρ,ha,h⟩
theorem q1g {x y:Code}(h:CW P n x (k4Q (fun ρ w=>CW P n y Q ρ w) Q) ρ w):CW P n (.seq x y) Q ρ w:=by
 intro hok a ha
 simp only[z0C,Bool.and_eq_true] at hok
 refine wp_seq (Code.wp_mono (fun e a w hq=>?_) (h hok.1 a ha))
 obtain⟨ρ',hr,hq⟩:=hq
 cases e with
 | normal=>exact hq hok.2 _ hr
 | _=>exact⟨ρ',hr,hq⟩
theorem CW.block {id:Nat}{c:Code}(h:CW P n c (z9s id Q) ρ w):CW P n (.block id c) Q ρ w:=by
 intro hok a ha
 refine wp_block (Code.wp_mono (fun e a w hq=>?_) (h hok a ha))
 obtain⟨ρ',hr,hq⟩:=hq
 cases e with
 | exit id'=>
  simp only[Exit.inBlock]
  by_cases hid:id'=id
  ·simp only[hid,if_true];exact⟨ρ',hr,by simpa[z9s,hid] using hq⟩
  ·simp only[hid,if_false];exact⟨ρ',hr,by simpa[z9s,hid] using hq⟩
 | _=>exact⟨ρ',hr,hq⟩
theorem q1J {c:Operand}{x y:Code}(hc:E.ev ρ c=.bool true)(h:CW P n x Q ρ w):CW P n (.cond c x y) Q ρ w:=by
 intro hok a ha
 simp only[z0C,Bool.and_eq_true] at hok
 exact wp_cond_true ((ha.eval hok.1.1).trans hc) (h hok.1.2 a ha)
theorem q1K {c:Operand}{x y:Code}(hc:E.ev ρ c=.bool false)(h:CW P n y Q ρ w):CW P n (.cond c x y) Q ρ w:=by
 intro hok a ha
 simp only[z0C,Bool.and_eq_true] at hok
 exact wp_cond_false ((ha.eval hok.1.1).trans hc) (h hok.2 a ha)
theorem q2q {c:Operand}{x y:Code}{b:Bool}(hc:E.ev ρ c=.bool b)(ht:b=true→CW P n x Q ρ w)(hf:b=false→CW P n y Q ρ w):CW P n (.cond c x y) Q ρ w:=by
 cases b
 ·exact q1K hc (hf rfl)
 ·exact q1J hc (ht rfl)
theorem q1h {id:Nat}{ops:Array Oper}(h:WL P n ops Q ops.toList ρ w):CW P n (.region id ops false) Q ρ w:=by
 intro hok a ha
 exact wp_region_list (h (by simpa[z0C] using hok) a ha)
def Ev (P:Program)(ρ:Env)(o:Oper)(w:World)(v:Value):Prop:=(execOp (E.ev ρ) o).run P w=.ok (.value v) w
theorem z3i {a:Act}(ha:Rel n ρ a){o:Oper}(ho:q9K n o=true):execOp a.eval o=execOp (E.ev ρ) o:=by
 simp only[q9K,Bool.and_eq_true] at ho
 refine execOp_congr o (fun cs b hs=>?_) fun x hx=>ha.eval ?_
 ·simp[hs] at ho
 ·exact List.all_eq_true.1 ho.1.2 x (by simpa using hx)
def gate (ops:Array Oper)(ρ:Env)(o:Oper):Bool:=
 match o.guard with
 | none=>true
 | some (j,want)=>match (ops[j]?).bind (·.dst) with
  | some d=>match ρ d with|.bool b=>b == want|_=>false
  | none=>false
def z5K (n:Nat)(ops:Array Oper):Bool:=ops.toList.all fun o=>match o.dst with|some d=>Nat.blt d n|none=>true
theorem z3W {ops:Array Oper}(hg:z5K n ops=true){a:Act}(ha:Rel n ρ a)(o:Oper):Region.wanted o (yielded ops a.tmps)=gate ops ρ o:=by
 unfold Region.wanted gate yielded
 cases hgd:o.guard with
 | none=>rfl
 | some jw=>
  obtain⟨j,want⟩:=jw
  simp only
  cases hj:ops[j]? with
  | none=>simp
  | some oj=>
   cases hd:oj.dst with
   | none=>simp[hd]
   | some d=>
    have hdn:d<n:=by
     have:=List.all_eq_true.1 hg oj (by rw[Array.mem_toList_iff];exact Array.mem_of_getElem? hj)
     simpa[hd] using this
    have hval:a.tmps[d]?=some (ρ d):=by
     have h1:=ha.at_ d hdn
     have h2:d<a.tmps.size:=by rw[ha.size];exact hdn
     simp only[Array.getD_eq_getD_getElem?,Array.getElem?_eq_getElem h2,Option.getD_some] at h1
     rw[Array.getElem?_eq_getElem h2,h1]
    simp only[bsS,hd,hval]
    cases ρ d<;>simp<;>rfl
theorem WL.nil {ops:Array Oper}(h:Q .normal ρ w):WL P n ops Q [] ρ w:=fun _ _ ha=>wpList_nil ⟨ρ,ha,h⟩
theorem WL.step {ops:Array Oper}{o:Oper}{rest:List Oper}(hg:o.guard=none)
  (h:∀ (a:Act) (K:Act→World→Prop),Rel n ρ a→q9K n o=true→(∀ v w',WL P n ops Q rest (E.put ρ o.dst v) w'→K (a.put o.dst v) w')→o.wp P a w K (lift n Q)):WL P n ops Q (o::rest) ρ w:=by
 intro hok a ha
 simp only[List.all_cons,Bool.and_eq_true] at hok
 refine wpList_plain hg fun K hK=>h a K ha hok.1 fun v w' hv=>?_
 exact hK _ _ (hv hok.2 _ (ha.put _ _))
theorem WL.ev {ops:Array Oper}{o:Oper}{rest:List Oper}{d:Nat}{v:Value}(hg:o.guard=none)(hd:o.dst=some d)(he:Ev P ρ o w v)(h:WL P n ops Q rest (upd ρ d v) w):WL P n ops Q (o::rest) ρ w:=
 WL.step hg fun a K ha hok hK=>by
  unfold Oper.wp
  rw[z3i ha hok,he]
  exact hK _ _ (by rw[hd];exact h)
end
structure Chg (M:Nat→Prop) (w w' : World):Prop where
 os:w'.os=w.os
 tape:w'.tape=w.tape
 output:w'.output=w.output
 size:w.heap.size≤w'.heap.size
 block:∀ k,k<w.heap.size→¬ M k→w'.heap[k]?=w.heap[k]?
abbrev Ext (w w' : World):Prop:=Chg (fun _=>False) w w'
theorem Chg.refl {M:Nat→Prop}(w:World):Chg M w w:=⟨rfl,rfl,rfl,Nat.le_refl _,fun _ _ _=>rfl⟩
theorem Ext.refl (w:World):Ext w w:=Chg.refl w
theorem Chg.trans {M:Nat→Prop}{a b c:World}(h:Chg M a b)(k:Chg M b c):Chg M a c:=
 ⟨k.os.trans h.os,k.tape.trans h.tape,k.output.trans h.output,Nat.le_trans h.size k.size,fun i hi hm=>(k.block i (Nat.lt_of_lt_of_le hi h.size) hm).trans (h.block i hi hm)⟩
theorem Chg.mono {M M' : Nat→Prop}{a b:World}(h:Chg M a b)(hm:∀ k,k<a.heap.size→M k→M' k):Chg M' a b:=
 ⟨h.os,h.tape,h.output,h.size,fun i hi hn=>h.block i hi fun hM=>hn (hm i hi hM)⟩
theorem Chg.of_ext {M:Nat→Prop}{a b:World}(h:Ext a b):Chg M a b:=h.mono fun _ _ hf=>hf.elim
theorem Ext.below {a b:World}(h:Ext a b):RowKit.Below a.heap.size a b:=⟨h.os,h.tape,h.output,h.size,fun k hk=>h.block k hk id⟩
theorem Ext.alloc (w:World)(o:Obj):Ext w (w.alloc o):=⟨rfl,rfl,rfl,by simp,fun k hk _=>heap_alloc_old w o hk⟩
theorem Ext.drew (w:World):Ext w w.drew:=⟨rfl,rfl,rfl,Nat.le_refl _,fun _ _ _=>rfl⟩
theorem Ext.drawn (w:World)(k:Nat):Ext w { w with drawn:=k }:=⟨rfl,rfl,rfl,Nat.le_refl _,fun _ _ _=>rfl⟩
def Blk (w:World)(b:Nat)(T:TypeId)(cs:List Value):Prop:=w.heap[b]?=some (.cells cs.toArray T (0,0))
theorem Blk.lt {w:World}{b:Nat}{T:TypeId}{cs:List Value}(h:Blk w b T cs):b<w.heap.size:=by
 rcases Nat.lt_or_ge b w.heap.size with hlt|hge
 ·exact hlt
 ·unfold Blk at h;rw[Array.getElem?_eq_none hge] at h;cases h
theorem Blk.chg {M:Nat→Prop}{w w' : World}{b:Nat}{T:TypeId}{cs:List Value}(h:Blk w b T cs)(hc:Chg M w w')(hm:¬ M b):Blk w' b T cs:=(hc.block b h.lt hm).trans h
theorem Blk.ext {w w' : World}{b:Nat}{T:TypeId}{cs:List Value}(h:Blk w b T cs)(hc:Ext w w'):Blk w' b T cs:=h.chg hc id
def At (w:World)(b o:Nat)(cs:List Value):Prop:=∀ j v,cs[j]?=some v→w.cell? ⟨b,o+j,none⟩=some v
theorem At.ofBlk {w:World}{b:Nat}{T:TypeId}{cs:List Value}(h:Blk w b T cs)(o:Nat)(l:List Value)(hl:∀ j v,l[j]?=some v→cs[o+j]?=some v):At w b o l:=by
 intro j v hv
 rw[cell_of_row w b (o+j) _ T (0,0) h]
 simpa using hl j v hv
theorem Blk.cell {w:World}{b:Nat}{T:TypeId}{cs:List Value}(h:Blk w b T cs){i:Nat}{v:Value}(hv:cs[i]?=some v):w.cell? ⟨b,i,none⟩=some v:=by
 rw[cell_of_row w b i _ T (0,0) h];simpa using hv
theorem At.sub {w:World}{b o:Nat}{cs:List Value}(h:At w b o cs)(j:Nat)(l:List Value)(hl:∀ i v,l[i]?=some v→cs[j+i]?=some v):At w b (o+j) l:=fun i v hv=>by
 have:=h (j+i) v (hl i v hv)
 rwa[← Nat.add_assoc] at this
def szT (P:Program)(T:TypeId):Option Nat:=(P.info? T).map (·.size)
def byT (P:Program)(T:TypeId):Option Nat:=(P.info? T).map (·.bytes)
def z2C (P:Program)(T:TypeId):Option (List Value):=((P.info? T).bind (·.zero)).map (·.cells.toList)
def aggT (P:Program)(T:TypeId):Option Bool:=(P.underlying T).map fun|.struct _|.array ..=>true|_=>false
def q7D (P:Program)(T:TypeId):Option TypeId:=match P.underlying T with|some (.slice e)=>some e|_=>none
def z6O (P:Program)(T:TypeId)(i:Nat):Option Nat:=match P.underlying T with
 | some (.struct fs)=>(fs[i]?).bind fun f=>match szT P f.type with|some (_+1)=>some f.offset|_=>none
 | _=>none
def intT (P:Program)(T:TypeId):Option IntKind:=match P.underlying T with|some (.int k)=>some k|_=>none
def strT (P:Program)(T:TypeId):Bool:=match P.underlying T with|some .string=>true|_=>false
section
variable {P:Program}{ρ:Env}{w:World}{o:Oper}
theorem q6c {T k:Nat}(h:szT P T=some k):(sizeOf T).run P w=.ok k w:=by
 unfold szT at h
 cases hi:P.info? T with
 | none=>simp[hi] at h
 | some i=>simp[hi] at h;simp[sizeOf,typeInfo,hi,h]
theorem q6h {T e:Nat}(h:q7D P T=some e):P.underlying T=some (.slice e):=by
 unfold q7D at h
 split at h
 ·rename_i e' he;cases h;exact he
 ·cases h
theorem q3j {x:Operand}{v:Value}(ho:o.op=.move x)(hx:E.ev ρ x=v):Ev P ρ o w v:=by
 simp[Ev,execOp,ho,hx]
theorem q2r {x:Operand}{v:Value}(ho:o.op=.assign x)(hx:E.ev ρ x=v):Ev P ρ o w v:=by
 simp[Ev,execOp,ho,hx]
theorem q2s {c x y:Operand}{b:Bool}{v u:Value}(ho:o.op=.pick c x y)(hc:E.ev ρ c=.bool b)(hx:E.ev ρ x=v)(hy:E.ev ρ y=u):Ev P ρ o w (if b then v else u):=by
 simp[Ev,execOp,ho,hc,hx,hy,asBool]
theorem q0L {T:TypeId}{x:Operand}{i k:Nat}{b off:Nat}(ho:o.op=.fieldAddr T x i)(hT:z6O P T i=some k)(hx:E.ev ρ x=.pointer (some ⟨b,off,none⟩)) :
  Ev P ρ o w (.pointer (some ⟨b,off+k,none⟩)):=by
 unfold z6O at hT
 split at hT
 ·rename_i fs hfs
  cases hf:fs[i]? with
  | none=>simp[hf] at hT
  | some f=>
   simp only[hf,bsS] at hT
   split at hT
   ·rename_i m hsz
    cases hT
    have hadd:(⟨b,off,none⟩:Addr).add f.offset=⟨b,off+f.offset,none⟩:=by unfold Addr.add;split<;>simp_all
    simp[Ev,execOp,ho,hx,Instr.fieldAt,run_underlying hfs,hf,Instr.sureAddr,fieldPlace,q6c hsz,hadd]
   ·cases hT
 ·cases hT
theorem Ev.ix {T e k:TypeId}{x i:Operand}{b off n c:Nat}{q:IntKind}{j:Nat}(ho:o.op=.indexAddr T x i)(hT:q7D P T=some e)(hk:szT P e=some k)
  (hx:E.ev ρ x=.slice (some ⟨b,off,none⟩) n c) (hi:E.ev ρ i=.int q (j:Int)) (hj:j<n):Ev P ρ o w (.pointer (some ⟨b,off+j*k,none⟩)):=by
 have hadd:(⟨b,off,none⟩:Addr).add (j*k)=⟨b,off+j*k,none⟩:=by unfold Addr.add;split<;>simp_all
 have h0:¬ n≤j:=by omega
 simp[Ev,execOp,ho,hx,hi,Instr.indexAt,asIntOf,run_underlying (q6h hT),hj,q6c hk,hadd]
theorem z1Z {T:TypeId}{b:Bool}(h:aggT P T=some b):(isAgg T).run P w=.ok b w:=by
 unfold aggT at h
 cases hd:P.underlying T with
 | none=>simp[hd] at h
 | some d=>
  simp only[hd,Option.map_some,Option.some.injEq] at h
  subst h
  simp only[isAgg,Sem.run_bind,run_underlying hd,Result.andThen_ok]
  cases d<;>simp
theorem run_loadCellsFrom {b off:Nat}:∀ (cs:List Value) (i:Nat) (acc:Array Value),At w b (off+i) cs→(loadCellsFrom ⟨b,off,none⟩ i cs.length acc).run P w=.ok (acc++cs.toArray) w
 | [],i,acc,_=>by simp[loadCellsFrom]
 | c::cs,i,acc,h=>by
  have hadd:(⟨b,off,none⟩:Addr).add i=⟨b,off+i,none⟩:=by unfold Addr.add;split<;>simp_all
  have hc:w.cell? ⟨b,off+i,none⟩=some c:=h 0 c rfl
  have ih:=run_loadCellsFrom cs (i+1) (acc.push c) (by
   have:=h.sub 1 cs (fun j v hv=>by rw[Nat.add_comm];simpa using hv)
   rwa[Nat.add_assoc] at this)
  simp only[lnC,loadCellsFrom,Sem.run_bind,hadd]
  rw[show (load ⟨b,off+i,none⟩).run P w=.ok c w by simp[load,Sem.run,hc]]
  simp only[Result.andThen_ok,ih]
  simp
theorem q0M {T:TypeId}{x:Operand}{a:Addr}{v:Value}(ho:o.op=.load T x)(hT:aggT P T=some false)(hx:E.ev ρ x=.pointer (some a))(hc:w.cell? a=some v):Ev P ρ o w v:=by
 simp[Ev,execOp,ho,hx,Instr.loadAt,Instr.sureAddr,loadVar,z1Z hT,load,Sem.run,hc]
theorem q1i {T:TypeId}{x:Operand}{b off k:Nat}{cs:List Value}(ho:o.op=.load T x)(hT:aggT P T=some true)(hk:szT P T=some k)(hx:E.ev ρ x=.pointer (some ⟨b,off,none⟩))
  (hc:At w b off cs) (hl:cs.length=k):Ev P ρ o w (.agg cs.toArray):=by
 subst hl
 have:=run_loadCellsFrom (P:=P) (w:=w) (b:=b) (off:=off) cs 0 #[] hc
 simp[Ev,execOp,ho,hx,Instr.loadAt,Instr.sureAddr,loadVar,z1Z hT,q6c hk,loadCells,this]
theorem q0N {T e:TypeId}{x:Operand}{A:Option Addr}{n c:Nat}(ho:o.op=.call { callee:=.builtin .len,args:=#[x],argTypes:=#[T] })(hT:q7D P T=some e)(hx:E.ev ρ x=.slice A n c):Ev P ρ o w (.int .i64 n):=by
 simp[Ev,execOp,ho,hx,resolve,invoke,builtin,Builtin.len_,run_underlying (q6h hT),goInt]
theorem q2t {T:TypeId}{x:Operand}{s:ByteArray}(ho:o.op=.call { callee:=.builtin .len,args:=#[x],argTypes:=#[T] })(hT:P.underlying T=some .string)(hx:E.ev ρ x=.string s):Ev P ρ o w (.int .i64 s.size):=by
 simp[Ev,execOp,ho,hx,resolve,invoke,builtin,Builtin.len_,run_underlying hT,goInt]
theorem q3k {T:TypeId}{x:Operand}{b:Bool}(ho:o.op=.unOp .not T x)(hx:E.ev ρ x=.bool b):Ev P ρ o w (.bool (!b)):=by
 simp[Ev,execOp,ho,hx,Op.unary]
theorem q3l {fn:Fn}{f c:Array Operand}{vs us:Array Value}(ho:o.op=.makeFunc fn f c)(hf:f.map (E.ev ρ)=vs)(hc:c.map (E.ev ρ)=us):Ev P ρ o w (.func fn vs us):=by
 simp[Ev,execOp,ho,hf,hc,Instr.makeFunc]
def Bin (P:Program)(op:BinOp)(T:TypeId)(u v r:Value):Prop:=∀ (x y:Operand) (w:World),((do eqGuard op T x y u v;binOp op T u v):Sem Value).run P w=.ok r w
theorem q1j {op:BinOp}{T U:TypeId}{x y:Operand}{u v r:Value}(ho:o.op=.binOp op T x y U)(hx:E.ev ρ x=u)(hy:E.ev ρ y=v)(h:Bin P op T u v r):Ev P ρ o w r:=by
 simp only[Ev,execOp,ho,hx,hy,Sem.run_bind]
 have:=h x y w
 simp only[Sem.run_bind] at this
 rw[this]
 simp
theorem q5J {op:BinOp}{T:TypeId}{x y:Operand}{k k' : IntKind}{a b:Int}:eqGuard op T x y (.int k a) (.int k' b)=pure ():=by
 cases op<;>simp[eqGuard]<;>rfl
theorem Bin.add {T:TypeId}{a b:Int}(h:-9223372036854775808≤a+b∧a+b≤9223372036854775807):Bin P .add T (.int .i64 a) (.int .i64 b) (.int .i64 (a+b)):=fun x y w=>by
 simp[q5J,binOp,Op.intArith,IntWalk.i64_in _ h]
theorem Bin.sub {T:TypeId}{a b:Int}(h:-9223372036854775808≤a-b∧a-b≤9223372036854775807):Bin P .sub T (.int .i64 a) (.int .i64 b) (.int .i64 (a-b)):=fun x y w=>by
 simp[q5J,binOp,Op.intArith,IntWalk.i64_in _ h]
theorem q2u {T:TypeId}{a b:Int}(h:-9223372036854775808≤a*b∧a*b≤9223372036854775807):Bin P .mul T (.int .i64 a) (.int .i64 b) (.int .i64 (a*b)):=fun x y w=>by
 simp[q5J,binOp,Op.intArith,IntWalk.i64_in _ h]
theorem q1L {T:TypeId}{k:IntKind}{a b:Int}:Bin P .add T (.int k a) (.int k b) (.int k (k.wrap (a+b))):=fun x y w=>by simp[q5J,binOp,Op.intArith]
theorem q1M {T:TypeId}{k:IntKind}{a b:Int}:Bin P .mul T (.int k a) (.int k b) (.int k (k.wrap (a*b))):=fun x y w=>by simp[q5J,binOp,Op.intArith]
theorem q2v {T:TypeId}{k:IntKind}{a b:Int}:Bin P .lss T (.int k a) (.int k b) (.bool (decide (a<b))):=fun x y w=>by simp[q5J,binOp,Op.intCmp]
theorem q2w {T:TypeId}{k:IntKind}{a b:Int}:Bin P .leq T (.int k a) (.int k b) (.bool (decide (a≤b))):=fun x y w=>by simp[q5J,binOp,Op.intCmp]
theorem q2x {T:TypeId}{k:IntKind}{a b:Int}:Bin P .gtr T (.int k a) (.int k b) (.bool (decide (b<a))):=fun x y w=>by simp[q5J,binOp,Op.intCmp]
theorem q2y {T:TypeId}{k:IntKind}{a b:Int}:Bin P .geq T (.int k a) (.int k b) (.bool (decide (b≤a))):=fun x y w=>by simp[q5J,binOp,Op.intCmp]
theorem q2z {T:TypeId}{k:IntKind}{a b:Int}:Bin P .eql T (.int k a) (.int k b) (.bool (decide (a=b))):=fun x y w=>by simp[q5J,binOp,Op.intCmp];rfl
theorem q2A {T:TypeId}{k:IntKind}{a b:Int}:Bin P .neq T (.int k a) (.int k b) (.bool (!decide (a=b))):=fun x y w=>by simp[q5J,binOp,Op.intCmp];rfl
theorem beqS (s t:ByteArray):(s.toList == t.toList)=decide (s=t):=by
 rw[ByteArray.toList_eq,ByteArray.toList_eq]
 obtain⟨⟨x⟩⟩:=s
 obtain⟨⟨y⟩⟩:=t
 by_cases h:x=y
 ·subst h;simp
 ·simp[h]
theorem z2a {op:BinOp}{T:TypeId}{x y:Operand}{a b:ByteArray}:eqGuard op T x y (.string a) (.string b)=pure ():=by
 cases op<;>simp[eqGuard]<;>rfl
theorem q1N {T:TypeId}{a b:ByteArray}:Bin P .eql T (.string a) (.string b) (.bool (decide (a=b))):=fun x y w=>by simp[z2a,binOp,Op.stringOp,beqS]
theorem q1O {T:TypeId}{a b:ByteArray}:Bin P .neq T (.string a) (.string b) (.bool (!decide (a=b))):=fun x y w=>by simp[z2a,binOp,Op.stringOp,beqS]
theorem q1P {T:TypeId}{a b:ByteArray}(h:a.size+b.size≤9223372036854775807):Bin P .add T (.string a) (.string b) (.string (a++b)):=fun x y w=>by
 simp[z2a,binOp,Op.stringOp]
 omega
end
theorem At.lt {w:World}{b o:Nat}{cs:List Value}(h:At w b o cs){j:Nat}{v:Value}(hv:cs[j]?=some v):b<w.heap.size:=
 World.block_lt_of_cell? w _ (h j v hv)
theorem At.frame' {w w' : World}{b o:Nat}{cs:List Value}(h:At w b o cs)(hb:b<w.heap.size→w'.heap[b]?=w.heap[b]?):At w' b o cs:=fun j v hv=>by
 rw[World.cell?_of_block (w:=w) (hb (h.lt hv))];exact h j v hv
class Rep (α:Type) where
 sz:Nat
 pos:0<sz
 rd:(Nat→Prop)→World→α→List Value→Prop
 len:∀ {S w x cs},rd S w x cs→cs.length=sz
 one:∀ {S w x cs},rd S w x cs→∀ v∈cs,v.oneCell'=true
 mono:∀ {S S' w x cs},rd S w x cs→(∀ b,S b→S' b)→rd S' w x cs
 frame:∀ {S w w' x cs},rd S w x cs→(∀ b,S b→b<w.heap.size→w'.heap[b]?=w.heap[b]?)→rd S w' x cs
 bound:∀ {S w x cs},rd S w x cs→rd (fun b=>S b∧b<w.heap.size) w x cs
open Rep (rd)
def rdL {α:Type}[Rep α](S:Nat→Prop)(w:World):List α→List Value→Prop
 | [],cs=>cs=[]
 | x::xs,cs=>∃ c r,cs=c++r∧rd S w x c∧rdL S w xs r
section
variable {α:Type}[Rep α]{S S' : Nat→Prop}{w w' : World}
theorem rdL.len:∀ {xs:List α} {cs:List Value},rdL S w xs cs→cs.length=xs.length*Rep.sz α
 | [],_,h=>by rw[h];simp
 | x::xs,_,⟨c,r,rfl,hc,hr⟩=>by simp[Rep.len hc,rdL.len hr,Nat.add_mul];omega
theorem rdL.mono (hS:∀ b,S b→S' b):∀ {xs:List α} {cs:List Value},rdL S w xs cs→rdL S' w xs cs
 | [],_,h=>h
 | _::_,_,⟨c,r,e,hc,hr⟩=>⟨c,r,e,Rep.mono hc hS,rdL.mono hS hr⟩
theorem rdL.frame (hf:∀ b,S b→b<w.heap.size→w'.heap[b]?=w.heap[b]?):∀ {xs:List α} {cs:List Value},rdL S w xs cs→rdL S w' xs cs
 | [],_,h=>h
 | _::_,_,⟨c,r,e,hc,hr⟩=>⟨c,r,e,Rep.frame hc hf,rdL.frame hf hr⟩
theorem rdL.bound:∀ {xs:List α} {cs:List Value},rdL S w xs cs→rdL (fun b=>S b∧b<w.heap.size) w xs cs
 | [],_,h=>h
 | _::_,_,⟨c,r,e,hc,hr⟩=>⟨c,r,e,Rep.bound hc,rdL.bound hr⟩
theorem rdL.append:∀ {xs ys:List α} {cs ds:List Value},rdL S w xs cs→rdL S w ys ds→rdL S w (xs++ys) (cs++ds)
 | [],ys,_,ds,h,h2=>by rw[show _=[] from h];simpa using h2
 | x::xs,ys,_,ds,⟨c,r,rfl,hc,hr⟩,h2=>⟨c,r++ds,by simp,hc,rdL.append hr h2⟩
theorem rdL.single {x:α}{c:List Value}(h:rd S w x c):rdL S w [x] c:=⟨c,[],by simp,h,rfl⟩
end
def rdS {α:Type}[Rep α](S:Nat→Prop)(w:World)(xs:List α)(v:Value):Prop:=
 ∃ A cap cells,v=.slice A xs.length cap∧xs.length≤cap∧cap≤maxLen∧rdL S w xs cells∧(xs=[]∨∃ b o,A=some ⟨b,o,none⟩∧S b∧At w b o cells)
instance {α:Type} [Rep α]:Rep (List α) where
 sz:=1
 pos:=by decide
 rd S w xs cs:=∃ v,cs=[v]∧rdS S w xs v
 len:=by rintro S w x cs ⟨v,rfl,h⟩;rfl
 one:=by rintro S w x cs ⟨v,rfl,A,cap,cells,rfl,h⟩;simp[Value.oneCell']
 mono:=by
  rintro S S' w x cs ⟨v,rfl,A,cap,cells,rfl,h1,h2,h3,h4⟩ hS
  exact⟨_,rfl,A,cap,cells,rfl,h1,h2,h3.mono hS,h4.imp id fun ⟨b,o,e,hb,ha⟩=>⟨b,o,e,hS b hb,ha⟩⟩
 frame:=by
  rintro S w w' x cs ⟨v,rfl,A,cap,cells,rfl,h1,h2,h3,h4⟩ hf
  exact⟨_,rfl,A,cap,cells,rfl,h1,h2,h3.frame hf,h4.imp id fun ⟨b,o,e,hb,ha⟩=>⟨b,o,e,hb,ha.frame' (hf b hb)⟩⟩
 bound:=by
  rintro S w x cs ⟨v,rfl,A,cap,cells,rfl,h1,h2,h3,h4⟩
  refine⟨_,rfl,A,cap,cells,rfl,h1,h2,h3.bound,?_⟩
  rcases h4 with h4|⟨b,o,e,hb,ha⟩
  ·exact .inl h4
  ·by_cases hx:x=[]
   ·exact .inl hx
   ·have hl:=h3.len
    have hp:=Rep.pos (α:=α)
    have hx' : 0<x.length:=List.length_pos_iff.2 hx
    have:0<cells.length:=by rw[hl];exact Nat.mul_pos hx' hp
    exact .inr ⟨b,o,e,⟨hb,ha.lt (List.getElem?_eq_getElem this)⟩,ha⟩
end Go.E
namespace Go.E
open Go
open Rep (rd)
section
variable {P:Program}{n:Nat}{Q:Post}{ρ:Env}{w:World}{ops:Array Oper}{o:Oper}{rest:List Oper}
theorem q9L (w:World)(T:TypeId)(cs:List Value):Blk (w.alloc (.cells cs.toArray T)) w.heap.size T cs:=heap_alloc_new w _
theorem z1Q (T:TypeId)(cs:List Value):(newRow T cs.toArray).run P w=.ok ⟨w.heap.size,0,none⟩ (w.alloc (.cells cs.toArray T)):=by
 rfl
theorem q9M {T:TypeId}{cs:List Value}(h:z2C P T=some cs):∃ z,(zeroValue T).run P w=.ok z w∧z.cells=cs.toArray:=by
 unfold z2C at h
 cases hi:P.info? T with
 | none=>simp[hi] at h
 | some i=>
  cases hz:i.zero with
  | none=>simp[hi,hz] at h
  | some z=>
   simp[hi,hz] at h
   exact⟨z,by simp[zeroValue,typeInfo,hi,hz],by rw[← h]⟩
def q5l (cs:List Value)(off:Nat)(l:List Value):List Value:=cs.take off++l++cs.drop (off+l.length)
theorem z7J (w:World)(b:Nat)(cs:Array Value):Chg (· = b) w (w.setRow b cs):=
 ⟨rfl,rfl,rfl,by simp[World.setRow],fun k _ hk=>by simp only[World.setRow,Array.getElem?_modify];rw[ifN (fun e=>hk e.symm)]⟩
theorem z8s {T:TypeId}{b off k:Nat}{TB:TypeId}{v:Value}{cs l:List Value}(hk:szT P T=some k)(hv:v.cells=l.toArray)(hl:l.length=k)(h1:∀ u∈l,u.oneCell'=true)
  (hb:Blk w b TB cs) (hfit:off+k≤cs.length):∃ w',(storeVar T ⟨b,off,none⟩ v).run P w=.ok () w'∧Chg (· = b) w w'∧Blk w' b TB (q5l cs off l):=by
 subst hl
 have hs:=run_storeCells_at P b off TB l 0 cs.toArray w hb (by simpa using hfit) h1
 refine⟨_,?_,z7J w b _,setRow_heap w b _ _ TB _ hb⟩
 simp only[storeVar,hv,Sem.run_bind,q6c hk,Result.andThen_ok,List.size_toArray,ne_eq,not_true_eq_false,if_false]
 simpa[q5l,Sem.run_bind] using hs
def q8x (P:Program)(f:FuncId):Bool:=match P.funcs[f]? with|some fn=>fn.name != "runtime.NumGoroutine" && fn.body.isSome|none=>false
def Ret (P:Program)(f:FuncId)(args:Array Value)(w:World)(M:Nat→Prop)(R:Value→World→Prop):Prop:=
 Calls P f args w fun e w'=>∃ v,e=.returned v∧Chg M w w'∧R v w'
theorem j3E {f:FuncId}(hf:q8x P f=true)(args:Array Value):(callFunc f args).run P w=.ok (.enter f args) w:=by
 unfold q8x at hf
 cases h:P.funcs[f]? with
 | none=>simp[h] at hf
 | some fn=>
  simp only[h,Bool.and_eq_true] at hf
  have h1:¬ fn.name = "runtime.NumGoroutine" := by simpa using hf.1
  have h2:¬ fn.body=none:=by intro hb;simp[hb] at hf
  simp[callFunc,h,h1,h2,run_program]
theorem j2t {c:Call}{f:FuncId}{x:Operand}{caps:Array Value}{args:List Value}{T:TypeId}(hx:c.callee=.value x)(hf:E.ev ρ x=.func (.func f) #[] caps)(hc:q8x P f=true)(ha:c.args.toList.map (E.ev ρ)++caps.toList=args) :
  ((do let d ← resolve (E.ev ρ) c T;invoke d.target d.args):Sem Next).run P w=.ok (.enter f args.toArray) w:=by
 have ha' : c.args.map (E.ev ρ)++caps=args.toArray:=by
  subst ha;apply Array.ext';simp
 simp only[resolve,hx,Deferred.ofValue,hf,Sem.run_bind,Sem.run_pure,Result.andThen_ok,invoke,Array.empty_append,ha']
 exact j3E hc _
theorem q2B {c:Call}{f:FuncId}{x:Operand}{caps:Array Value}{args:List Value}{M:Nat→Prop}{R:Value→World→Prop}{d:Nat}(hg:o.guard=none)(hd:o.dst=some d)(ho:o.op=.call c)(hx:c.callee=.value x)(hf:E.ev ρ x=.func (.func f) #[] caps)
  (hc:q8x P f=true) (ha:c.args.toList.map (E.ev ρ)++caps.toList=args) (hr:Ret P f args.toArray w M R)
  (h:∀ v w',Chg M w w'→R v w'→WL P n ops Q rest (upd ρ d v) w'):WL P n ops Q (o::rest) ρ w:=
 WL.step hg fun a K hrel hok hK=>by
  unfold Oper.wp
  rw[z3i hrel hok]
  simp only[execOp,ho]
  rw[j2t hx hf hc ha]
  exact Calls.mono hr fun e w' ⟨v,he,hch,hv⟩=>by subst he;exact hK _ _ (by rw[hd];exact h v w' hch hv)
def k3v (args:Array Value):Env:=fun t=>args.getD t undef
@[reducible] def endE (P:Program) (fn:Func) (R:Value→World→Prop):Post
 | .normal,ρ,w|.ret,ρ,w=>∃ v,(∀ a:Act,Rel fn.ntmps ρ a→(results fn a.tmps).run P w=.ok v w)∧R v w
 | _,_,_=>False
theorem enter {f:FuncId}{fn:Func}{c:Code}{args:Array Value}{M:Nat→Prop}{R:Value→World→Prop}(hf:P.funcs[f]?=some fn)(hb:fn.body=some c)(hok:z0C fn.ntmps c=true)(hs:Nat.ble args.size fn.ntmps=true)
  (h:CW P fn.ntmps c (endE P fn fun v w'=>Chg M w w'∧R v w') (k3v args) w):Ret P f args w M R:=by
 have hs' : args.size≤fn.ntmps:=by simpa using hs
 have hrel:Rel fn.ntmps (k3v args) { tmps:=args++Array.replicate (fn.ntmps-args.size) undef,defers:=[] }:=by
  refine⟨by simp;omega,rfl,fun t ht=>?_⟩
  simp only[k3v,Array.getD_eq_getD_getElem?,Array.getElem?_append]
  by_cases hta:t<args.size
  ·simp[hta]
  ·simp[hta,Array.getElem?_replicate]
   split<;>rfl
 refine calls_of_wp hf hb (Code.wp_mono (fun e a w' hq=>?_) (h hok _ hrel))
 obtain⟨ρ',hr,hq⟩:=hq
 cases e with
 | normal=>obtain⟨v,h1,h2⟩:=hq;exact⟨hr.defers,v,h1 a hr,v,rfl,h2.1,h2.2⟩
 | ret=>obtain⟨v,h1,h2⟩:=hq;exact⟨hr.defers,v,h1 a hr,v,rfl,h2.1,h2.2⟩
 | exit id=>exact hq.elim
 | goto l=>exact hq.elim
 | panic c=>exact hq.elim
 | outgrown=>exact hq.elim
end
section
variable {P:Program}{n:Nat}{Q:Post}{ρ:Env}{w:World}{ops:Array Oper}{o:Oper}{rest:List Oper}{C:World→Prop}{F:Env→Prop}{R:World→World→Prop}
def OpQ (P:Program)(ops:Array Oper)(C:World→Prop)(o:Oper)(ρ:Env)(w:World)(v:Value):Prop:=
 (gate ops ρ o=true∧Oper.quietUpon P C w v ((execOp (E.ev ρ) o).run P w))∨(gate ops ρ o=false∧v=undef)
def QC (R:World→World→Prop)(P:Program)(n:Nat)(ops:Array Oper)(C:World→Prop)(F:Env→Prop):List Oper→Env→Prop
 | [],ρ=>F ρ
 | o::rest,ρ=>∃ v,(∀ w,C w→OpQ P ops (R w) o ρ w v)∧QC R P n ops C F rest (E.put ρ o.dst v)
theorem QC.nil (h:F ρ):QC R P n ops C F [] ρ:=h
theorem QC.ev {v:Value}{d:Nat}(hg:o.guard=none)(hd:o.dst=some d)(he:∀ w,C w→Ev P ρ o w v)(h:QC R P n ops C F rest (upd ρ d v)):QC R P n ops C F (o::rest) ρ:=
 ⟨v,fun w hw=>.inl ⟨by simp[gate,hg],by rw[he w hw];exact⟨rfl,rfl⟩⟩,by rw[hd];exact h⟩
theorem q1k {c:Call}{f:FuncId}{x:Operand}{caps:Array Value}{args:List Value}{v:Value}{d:Nat}(hg:o.guard=none)(hd:o.dst=some d)(ho:o.op=.call c)(hx:c.callee=.value x)(hf:E.ev ρ x=.func (.func f) #[] caps)
  (hc:q8x P f=true) (ha:c.args.toList.map (E.ev ρ)++caps.toList=args) (hr:∀ w,C w→Ret P f args.toArray w (fun _=>False) fun u w'=>u=v∧R w w')
  (h:QC R P n ops C F rest (upd ρ d v)):QC R P n ops C F (o::rest) ρ:=by
 refine⟨v,fun w hw=>.inl ⟨by simp[gate,hg],?_⟩,by rw[hd];exact h⟩
 simp only[execOp,ho]
 rw[j2t hx hf hc ha]
 exact⟨rfl,Calls.mono (hr w hw) fun _ _ ⟨_,he,_,hv,hch⟩=>⟨by rw[he,hv],hch⟩⟩
def OpW (P:Program)(n:Nat)(ops:Array Oper)(o:Oper)(ρ:Env)(w:World)(R:Value→World→Prop):Prop:=
 (gate ops ρ o=true∧∀ (a:Act) (K:Act→World→Prop) (Q:Exit→Act→World→Prop),Rel n ρ a→q9K n o=true→(∀ v w',R v w'→K (a.put o.dst v) w')→o.wp P a w K Q)∨(gate ops ρ o=false∧R undef w)
def q6p (o:Oper):List Nat:=(o.after.toList.filter (Region.binds .any)).map (·.on)
def q7U (ops:Array Oper)(j:Nat):Option Nat:=(ops[j]?).bind (·.dst)
def z4v (ops:Array Oper)(h:Nat)(D:Nat→List Nat):Bool:=
 Nat.ble h ops.size &&
 (List.range ops.size).all (fun j=>match ops[j]? with
  | some o=>(q6p o).all (fun d=>Nat.blt d j) &&
    (List.range ops.size).all (fun i=>match q7U ops i with
     | some t=>Nat.beq i j||((!(D j).contains t||(q6p o).contains i)&&(match o.dst with|some d=>!(Nat.beq d t)|none=>true))
     | none=>true)
  | none=>false) &&
 (Nat.beq h ops.size||(Region.sinkB .any ops h&&Region.chainB .any ops h)) &&
 Region.seqB .any ops (ops.size-h) h (Array.replicate h true++Array.replicate (ops.size-h) false)
def stepsC (R:World→World→Prop)(P:Program)(n:Nat)(ops:Array Oper)(h:Nat)(D:Nat→List Nat)(Ψ:Nat→List Value→World→Prop)(ρ:Env)(w:World):Nat→List Oper→Prop
 | _,[]=>True
 | i,o::l=>(∀ ρ' w',R w w'→(∀ t,(∀ j,j<h→q7U ops j≠some t)→ρ' t=ρ t)→(∀ j,(q6p o).contains j=true→Ψ j ((D j).map ρ') w') →
   OpW P n ops o ρ' w' (fun v w''=>R w' w''∧Ψ i ((D i).map (E.put ρ' o.dst v)) w''))∧stepsC R P n ops h D Ψ ρ w (i+1) l
theorem stepsC.get {h:Nat}{D:Nat→List Nat}{Ψ:Nat→List Value→World→Prop}:∀ (l:List Oper) (k i:Nat) (o:Oper),stepsC R P n ops h D Ψ ρ w k l→l[i]?=some o →
  (∀ ρ' w',R w w'→(∀ t,(∀ j,j<h→q7U ops j≠some t)→ρ' t=ρ t)→(∀ j,(q6p o).contains j=true→Ψ j ((D j).map ρ') w') →
   OpW P n ops o ρ' w' (fun v w''=>R w' w''∧Ψ (k+i) ((D (k+i)).map (E.put ρ' o.dst v)) w''))
 | [],_,_,_,_,hh=>by simp at hh
 | x::l,k,0,o,hs,hh=>by simp at hh;subst hh;exact hs.1
 | x::l,k,i+1,o,hs,hh=>by
  have:=stepsC.get l (k+1) i o hs.2 (by simpa using hh)
  rwa[Nat.add_right_comm] at this
structure InvC (R:World→World→Prop) (n:Nat) (ops:Array Oper) (h:Nat) (D:Nat→List Nat) (Ψ:Nat→List Value→World→Prop) (ρ0:Env) (w0:World) (listed:Array Bool) (ρ:Env) (w:World):Prop where
 head:HeadInv .any ops h listed
 ext:R w0 w
 out:∀ t,(∀ j,j<h→q7U ops j≠some t)→ρ t=ρ0 t
 known:∀ j,j<h→listed.getD j false=true→Ψ j ((D j).map ρ) w
theorem j2u {ρ:Env}{dst:Option Nat}{v:Value}{l:List Nat}(h:∀ t,dst=some t→t∉l):l.map (E.put ρ dst v)=l.map ρ:=by
 cases dst with
 | none=>rfl
 | some d=>
  refine List.map_congr_left fun t ht=>?_
  exact z4K ρ v (fun e=>h d rfl (e▸ht))
theorem q9w {o:Oper}{d:Nat}:d∈q6p o↔∃ e∈o.after,Region.binds .any e=true∧e.on=d:=by
 simp only[q6p,List.mem_map,List.mem_filter]
 exact⟨fun ⟨e,⟨h1,h2⟩,h3⟩=>⟨e,by simpa using h1,h2,h3⟩,fun ⟨e,h1,h2,h3⟩=>⟨e,⟨by simpa using h1,h2⟩,h3⟩⟩
section loose
variable {h:Nat}{D:Nat→List Nat}
theorem q9x (hB:z4v ops h D=true){j:Nat}{o:Oper}(hj:ops[j]?=some o):∀ d∈q6p o,d<j:=by
 simp only[z4v,Bool.and_eq_true] at hB
 have hjs:j<ops.size:=(Array.getElem?_eq_some_iff.1 hj).1
 have h1:=List.all_eq_true.1 hB.1.1.2 j (List.mem_range.2 hjs)
 simp only[hj,Bool.and_eq_true] at h1
 intro d hd
 simpa using List.all_eq_true.1 h1.1 d hd
theorem z4L (hB:z4v ops h D=true){i j:Nat}{o:Oper}(hj:ops[j]?=some o){t:Nat}(hi:q7U ops i=some t)(hij:i≠j):(t∈D j→i∈q6p o)∧o.dst≠some t:=by
 simp only[z4v,Bool.and_eq_true] at hB
 have hjs:j<ops.size:=(Array.getElem?_eq_some_iff.1 hj).1
 have his:i<ops.size:=by
  unfold q7U at hi
  cases ho:ops[i]? with
  | none=>simp[ho] at hi
  | some oi=>exact (Array.getElem?_eq_some_iff.1 ho).1
 have h1:=List.all_eq_true.1 hB.1.1.2 j (List.mem_range.2 hjs)
 simp only[hj,Bool.and_eq_true] at h1
 have h2:=List.all_eq_true.1 h1.2 i (List.mem_range.2 his)
 simp only[hi,Bool.or_eq_true,Bool.and_eq_true] at h2
 rcases h2 with h2|⟨h2,h3⟩
 ·exact absurd (Nat.eq_of_beq_eq_true h2) hij
 ·refine⟨fun ht=>?_,fun he=>?_⟩
  ·rcases h2 with h2|h2
   ·simp[ht] at h2
   ·simpa using h2
  ·simp[he] at h3
theorem z3j (hB:z4v ops h D=true){listed:Array Bool}(hs:listed.size=ops.size):∀ (k j:Nat),j≤k→j<ops.size→listed.getD j true=false→∃ i,i∈Region.ready .any ops listed∧i≤j:=by
 intro k
 induction k with
 | zero=>
  intro j hk hj hl
  obtain rfl:j=0:=by omega
  refine⟨0,mem_ready.2 ⟨hl,ops[0],by simp[hj],fun e he hb=>?_⟩,Nat.le_refl _⟩
  have:=q9x hB (Array.getElem?_eq_getElem hj) e.on (q9w.2 ⟨e,he,hb,rfl⟩)
  omega
 | succ k ih=>
  intro j hk hj hl
  by_cases hall:∀ d∈q6p ops[j],listed.getD d true=true
  ·refine⟨j,mem_ready.2 ⟨hl,ops[j],by simp[hj],fun e he hb=>?_⟩,Nat.le_refl _⟩
   have hd:=q9x hB (Array.getElem?_eq_getElem hj) e.on (q9w.2 ⟨e,he,hb,rfl⟩)
   have h1:=hall e.on (q9w.2 ⟨e,he,hb,rfl⟩)
   have hlt:e.on<listed.size:=by rw[hs];omega
   simp[hlt] at h1 ⊢
   exact h1
  ·have:∃ d∈q6p ops[j],listed.getD d true=false:=by
    refine Classical.byContradiction fun hn=>hall fun d hd=>?_
    cases hv:listed.getD d true with
    | true=>rfl
    | false=>exact absurd ⟨d,hd,hv⟩ hn
   obtain⟨d,hd,hv⟩:=this
   have hdj:=q9x hB (Array.getElem?_eq_getElem hj) d hd
   obtain⟨i,hi,hle⟩:=ih d (by omega) (by omega) hv
   exact⟨i,hi,by omega⟩
def k4R (ops:Array Oper)(h:Nat):Bool:=
 (List.range h).all fun i=>match ops[i]? with
  | some o=>(o.looksAt ops).all fun t=>(List.range h).all fun j=>match q7U ops j with
    | some d=>!(Nat.beq d t)||(q6p o).contains j
    | none=>true
  | none=>true
def ownD (ops:Array Oper)(j:Nat):List Nat:=(q7U ops j).toList
theorem j7O {o:Oper}{ρ ρ' : Env}(h:∀ t∈o.looksAt ops,ρ' t=ρ t):gate ops ρ' o=gate ops ρ o:=by
 unfold gate
 cases hg:o.guard with
 | none=>rfl
 | some jw=>
  obtain⟨j,want⟩:=jw
  simp only
  cases hd:(ops[j]?).bind (·.dst) with
  | none=>rfl
  | some d=>
   simp only
   rw[h d (by simp[Oper.looksAt,hg,hd])]
theorem j7P {o:Oper}{ρ ρ' : Env}(hs:q9K n o=true)(h:∀ t∈o.looksAt ops,ρ' t=ρ t):execOp (E.ev ρ') o=execOp (E.ev ρ) o:=by
 refine execOp_congr o (fun cs b hsel=>?_) fun x hx=>?_
 ·simp[q9K,hsel] at hs
 ·cases x with
  | tmp t=>exact h t (by simp only[Oper.looksAt,List.mem_append,List.mem_filterMap];exact .inl ⟨.tmp t,by simpa using hx,rfl⟩)
  | const v=>rfl
  | global g=>rfl
  | func f=>rfl
theorem OpQ.congr {o:Oper}{ρ ρ' : Env}{v:Value}(hs:q9K n o=true)(h:∀ t∈o.looksAt ops,ρ' t=ρ t)(hq:OpQ P ops C o ρ w v):OpQ P ops C o ρ' w v:=by
 unfold OpQ at *
 rw[j7O h,j7P hs h]
 exact hq
theorem q1l {id:Nat}(h:Nat)(D:Nat→List Nat)(Ψ:Nat→List Value→World→Prop)(hm:P.follows .mixedOrders=true)(hB:z4v ops h D=true)
  (htrans:∀ {a b c},R a b→R b c→R a c) (hdraw:∀ w,R w { w with drawn:=w.drawn+1 })
  (hext:∀ i vs w w',Ψ i vs w→R w w'→Ψ i vs w')
  (hstep:stepsC R P n ops h D Ψ ρ w 0 (ops.toList.take h))
  (hend:∀ ρ' w',R w w'→(∀ t,(∀ j,j<h→q7U ops j≠some t)→ρ' t=ρ t)→(∀ j,j<h→Ψ j ((D j).map ρ') w')→WL P n ops Q (ops.toList.drop h) ρ' w'):CW P n (.region id ops true) Q ρ w:=by
 intro hok a ha
 have hok' : ops.toList.all (q9K n)=true:=by simpa[z0C] using hok
 refine wp_region_any hm ?_
 have hB':=hB
 simp only[z4v,Bool.and_eq_true] at hB'
 have hle:h≤ops.size:=by simpa using hB'.1.1.1
 have hseq:=hB'.2
 -- when the head is through
 have done:∀ (listed:Array Bool) (ρ' : Env) (a:Act) (w' : World),InvC R n ops h D Ψ ρ w listed ρ' w'→Rel n ρ' a→(∀ j,j<h→listed.getD j false=true)→wpAny P .any ops (lift n Q) (ops.size-h) listed a w':=by
  intro listed ρ' a w' inv hr hall
  have hlisted:listed=Array.replicate h true++Array.replicate (ops.size-h) false:=by
   apply Array.ext
   ·simp[inv.head.size];omega
   ·intro i h1 h2
    by_cases hi:i<h
    ·have:=hall i hi
     simp[h1] at this
     rw[this,Array.getElem_append_left (by simpa using hi)]
     simp
    ·have:=inv.head.tail i (by omega) (by rw[← inv.head.size];exact h1)
     simp[h1] at this
     rw[this,Array.getElem_append_right (by simpa using Nat.le_of_not_lt hi)]
     simp
  subst hlisted
  have hw:=hend ρ' w' inv.ext inv.out (fun j hj=>inv.known j hj (hall j hj)) (by
   refine List.all_eq_true.2 fun o ho=>List.all_eq_true.1 hok' o (List.mem_of_mem_drop ho)) a hr
  have hlen:(ops.toList.drop h).length=ops.size-h:=by simp
  have:=wpAny_of_seq (P:=P) (md:=.any) (ops:=ops) (Q':=lift n Q) (ops.toList.drop h) h (Array.replicate h true++Array.replicate (ops.size-h) false) a w'
   (fun j=>by simp[List.getElem?_drop]) (by rw[hlen];exact hseq) hw
  rwa[hlen] at this
 have main:∀ (c:Nat) (listed:Array Bool) (ρ' : Env) (a:Act) (w' : World),((List.range h).filter (fun j=>!listed.getD j false)).length=c→InvC R n ops h D Ψ ρ w listed ρ' w'→Rel n ρ' a →
   wpAny P .any ops (lift n Q) (c+(ops.size-h)) listed a w':=by
  intro c
  induction c with
  | zero=>
   intro listed ρ' a w' hc inv hr
   rw[Nat.zero_add]
   refine done listed ρ' a w' inv hr fun j hj=>?_
   have h0:(List.range h).filter (fun j=>!listed.getD j false)=[]:=List.eq_nil_of_length_eq_zero hc
   have:=List.filter_eq_nil_iff.1 h0 j (List.mem_range.2 hj)
   simpa using this
  | succ c ih=>
   intro listed ρ' a w' hc inv hr
   have hex:∃ j,j<h∧listed.getD j true=false:=by
    have:((List.range h).filter (fun j=>!listed.getD j false))≠[]:=fun e=>by rw[e] at hc;simp at hc
    obtain⟨j,hj⟩:=List.exists_mem_of_ne_nil _ this
    rw[List.mem_filter,List.mem_range] at hj
    exact⟨j,hj.1,getD_in (by rw[inv.head.size];omega) (by simpa using hj.2)⟩
   obtain⟨j0,hj0,hl0⟩:=hex
   obtain⟨i0,hi0,_⟩:=z3j hB inv.head.size j0 j0 (Nat.le_refl _) (by omega) hl0
   rw[show c+1+(ops.size-h)=(c+(ops.size-h))+1 by omega]
   refine⟨fun h0=>(by rw[h0] at hi0;cases hi0),fun i hi=>?_⟩
   have hih:i<h:=by
    rcases Nat.lt_or_ge i h with hlt|hge
    ·exact hlt
    ·exfalso
     obtain⟨_,oi,hoi,_⟩:=mem_ready.1 hi
     have hlt:i<ops.size:=(Array.getElem?_eq_some_iff.1 hoi).1
     have hsc:Region.sinkB .any ops h=true∧Region.chainB .any ops h=true:=by
      have h3:=hB'.1.2
      simp only[Bool.or_eq_true,Bool.and_eq_true] at h3
      rcases h3 with h3|h3
      ·have:=Nat.eq_of_beq_eq_true h3;omega
      ·exact h3
     exact tail_waits hsc.1 hsc.2 (by omega) inv.head _ j0 rfl hj0 hl0 i hge hi
   obtain⟨hun,o,ho,hall⟩:=mem_ready.1 hi
   have hmem:o∈ops.toList:=by rw[Array.mem_toList_iff];exact Array.mem_of_getElem? ho
   have hoko:q9K n o=true:=List.all_eq_true.1 hok' o hmem
   have hguards:z5K n ops=true:=by
    refine List.all_eq_true.2 fun o' ho'=>?_
    have:=List.all_eq_true.1 hok' o' ho'
    simp only[q9K,Bool.and_eq_true] at this
    exact this.1.1
   have hst:=stepsC.get (ops.toList.take h) 0 i o hstep (by rw[List.getElem?_take,ifP hih];simpa using ho) ρ' w' inv.ext inv.out (fun j hj=>by
    have hjd:j∈q6p o:=by simpa using hj
    obtain⟨e,he,hb,rfl⟩:=q9w.1 hjd
    have:=q9x hB ho _ hjd
    exact inv.known _ (by omega) (hall e he hb))
   rw[Nat.zero_add] at hst
   -- what holds when it has been carried out
   have next:∀ v w'',(R w' w''∧Ψ i ((D i).map (E.put ρ' o.dst v)) w'')→wpAny P .any ops (lift n Q) (c+(ops.size-h)) (listed.setIfInBounds i true) (a.put o.dst v) w'':=by
    intro v w'' ⟨hx,hΨ⟩
    have hi_size:i<listed.size:=by rw[inv.head.size];omega
    have hi_un:listed.getD i false=false:=getD_both hun
    refine ih _ (E.put ρ' o.dst v) _ _ ?_ ⟨inv.head.set hi hih,htrans inv.ext hx,fun t ht=>?_,fun j hj hl=>?_⟩ (hr.put _ _)
    ·have hcount:∀ (l:List Nat),l.Nodup→i∈l→(l.filter (fun j=>!listed.getD j false)).length=(l.filter (fun j=>!(listed.setIfInBounds i true).getD j false)).length+1:=by
      intro l
      induction l with
      | nil=>intro _ h;cases h
      | cons x l ihl=>
       intro hnd hmem
       rw[List.nodup_cons] at hnd
       by_cases hx:x=i
       ·subst hx
        have hsame:l.filter (fun j=>!listed.getD j false)=l.filter (fun j=>!(listed.setIfInBounds x true).getD j false):=
         List.filter_congr fun y hy=>by
          have hne:x≠y:=fun e=>hnd.1 (by rw[e];exact hy)
          rw[getD_set_ne false hne]
        have hset:(listed.setIfInBounds x true).getD x false=true:=by simp[hi_size]
        rw[List.filter_cons,List.filter_cons,ifP (by rw[hi_un];rfl),ifN (by rw[hset];decide),hsame,lnC]
       ·have hmem' : i∈l:=by rcases List.mem_cons.1 hmem with h|h;exact absurd h.symm hx;exact h
        have:=ihl hnd.2 hmem'
        rw[List.filter_cons,List.filter_cons,getD_set_ne false (Ne.symm hx)]
        split
        ·rw[lnC,lnC,this]
        ·exact this
     have:=hcount (List.range h) List.nodup_range (List.mem_range.2 hih)
     omega
    ·cases hd:o.dst with
     | none=>exact inv.out t ht
     | some d=>
      have hne:t≠d:=fun e=>ht i hih (by unfold q7U;rw[ho];simp[hd,e])
      show upd ρ' d v t=ρ t
      rw[z4K _ _ hne]
      exact inv.out t ht
    ·by_cases hji:j=i
     ·subst hji;exact hΨ
     ·rw[getD_set_ne false (Ne.symm hji)] at hl
      have hkn:=hext j _ _ _ (inv.known j hj hl) hx
      obtain⟨oj,hoj⟩:∃ oj,ops[j]?=some oj:=⟨ops[j]'(by omega),by rw[Array.getElem?_eq_getElem (by omega)]⟩
      have hnot:∀ t,o.dst=some t→t∉D j:=fun t ht hmemt=>by
       have hdi:q7U ops i=some t:=by unfold q7U;rw[ho];exact ht
       have h5:=(z4L hB hoj hdi (Ne.symm hji)).1 hmemt
       obtain⟨e,he,hb,hon⟩:=q9w.1 h5
       have:=inv.head.closed j oj hoj hl e he hb
       rw[hon,hi_un] at this
       cases this
      rw[j2u hnot]
      exact hkn
   unfold wpOp
   simp only[ho]
   rw[z3W hguards hr]
   rcases hst with ⟨hg,hop⟩|⟨hg,hR⟩
   ·rw[ifP hg]
    exact .inl (hop a _ _ hr hoko next)
   ·rw[ifN (by rw[hg];decide)]
    exact next undef w' hR
 have h0:InvC R n ops h D Ψ ρ w (Array.replicate ops.size false) ρ { w with drawn:=w.drawn+1 }:=by
  refine⟨⟨by simp,fun j oj _ hl=>?_,fun t _ ht=>by simp[ht]⟩,hdraw w,fun _ _=>rfl,fun j _ hl=>?_⟩
  ·rw[getD_replicate_false] at hl;cases hl
  ·rw[getD_replicate_false] at hl;cases hl
 have hc0:((List.range h).filter (fun j=>!(Array.replicate ops.size false).getD j false)).length=h:=by
  rw[List.filter_eq_self.2 (fun j _=>by rw[getD_replicate_false];rfl)]
  simp
 have:=main h _ ρ a _ hc0 h0 ha
 rwa[show h+(ops.size-h)=ops.size by omega] at this
theorem q2C {o:Oper}{v:Value}(hrefl:∀ w,R w w)(h:OpQ P ops (R w) o ρ w v){S:Value→World→Prop}(hR:∀ w',R w w'→S v w'):OpW P n ops o ρ w S:=by
 rcases h with ⟨hg,h⟩|⟨hg,rfl⟩
 ·refine .inl ⟨hg,fun a K Q' ha hok hK=>?_⟩
  unfold Oper.wp
  rw[z3i ha hok]
  generalize (execOp (E.ev ρ) o).run P w=r at h
  cases r with
  | ok x w'=>
   cases x<;>simp only[Oper.quietUpon] at h<;>simp only[Oper.upon]
   case value u=>
    obtain⟨e1,e2⟩:=h
    subst e1;subst e2
    exact hK _ _ (hR _ (hrefl _))
   case skip=>
    obtain⟨e1,e2⟩:=h
    subst e1;subst e2
    exact hK _ _ (hR _ (hrefl _))
   case enter f args=>
    obtain⟨e1,hc⟩:=h
    subst e1
    exact hc.mono fun e w'' ⟨he,hw''⟩=>by subst he;exact hK _ _ (hR _ hw'')
  | halt x w'=>simp only[Oper.quietUpon] at h
 ·exact .inr ⟨hg,hR _ (hrefl _)⟩
theorem q1m:∀ (l:List Oper) (k:Nat) (ρ:Env),(∀ j,l[j]?=if j<l.length then ops[k+j]? else none)→(∀ i j,i<j→j<k+l.length→∀ t,q7U ops i=some t→q7U ops j≠some t)→QC R P n ops C F l ρ →
  ∃ (vs:Nat→Value) (ρe:Env),F ρe∧(∀ t,(∀ j,k≤j→j<k+l.length→q7U ops j≠some t)→ρe t=ρ t) ∧
   ∀ j o,k≤j→j<k+l.length→ops[j]?=some o→(∀ d,o.dst=some d→ρe d=vs j) ∧
    ∃ ρj:Env,(∀ t,(∀ i,j≤i→i<k+l.length→q7U ops i≠some t)→ρj t=ρe t)∧∀ w,C w→OpQ P ops (R w) o ρj w (vs j)
 | [],k,ρ,_,_,h=>⟨fun _=>undef,ρ,h,fun _ _=>rfl,fun j o h1 h2=>by simp at h2;omega⟩
 | o::l,k,ρ,hl,hd,h=>by
  obtain⟨v,h1,h2⟩:=h
  have hlen:k+1+l.length=k+(o::l).length:=by simp;omega
  obtain⟨vs,ρe,hF,hout,hvs⟩:=q1m l (k+1) (E.put ρ o.dst v) (fun j=>by
   have:=hl (j+1)
   simp only[List.getElem?_cons_succ,lnC] at this
   rw[this]
   by_cases hj:j<l.length
   ·rw[ifP (by omega),ifP hj];congr 1;omega
   ·rw[ifN (by omega),ifN hj]) (fun i j hij hj=>hd i j hij (by omega)) h2
  have ho:ops[k]?=some o:=by have:=hl 0;simpa using this.symm
  refine⟨fun j=>if j=k then v else vs j,ρe,hF,fun t ht=>?_,fun j o' hj1 hj2 hoj=>?_⟩
  ·rw[hout t (fun j a b=>ht j (by omega) (by omega))]
   cases hdst:o.dst with
   | none=>rfl
   | some d=>exact z4K _ _ fun e=>ht k (Nat.le_refl _) (by simp) (by unfold q7U;rw[ho];simp[hdst,e])
  ·by_cases hjk:j=k
   ·subst hjk
    have:o'=o:=Option.some.inj (hoj.symm.trans ho)
    subst this
    simp only[ifP]
    refine⟨fun d hdst=>?_,ρ,fun t ht=>?_,h1⟩
    ·rw[hout d (fun i a b=>hd j i (by omega) (by omega) d (by unfold q7U;rw[ho];exact hdst))]
     rw[hdst];exact j2s _ _ _
    ·rw[hout t (fun i a b=>ht i (by omega) (by omega))]
     cases hdst:o'.dst with
     | none=>rfl
     | some d=>exact (z4K _ _ fun e=>ht j (Nat.le_refl _) (by simp) (by unfold q7U;rw[ho];simp[hdst,e])).symm
   ·obtain⟨h3,ρj,h4,h5⟩:=hvs j o' (by omega) (by omega) hoj
    simp only[ifN hjk]
    exact⟨h3,ρj,fun t ht=>h4 t fun i a b=>ht i a (by omega),h5⟩
theorem q1n {id:Nat}(h:Nat)(hrefl:∀ w,R w w)(htrans:∀ {a b c},R a b→R b c→R a c)(hdraw:∀ w,R w { w with drawn:=w.drawn+1 })(hm:P.follows .mixedOrders=true)(hB:(z4v ops h (ownD ops)&&k4R ops h)=true)
  (hq:QC R P n ops (R w) (fun ρ'=>∀ w',R w w'→WL P n ops Q (ops.toList.drop h) ρ' w') (ops.toList.take h) ρ):CW P n (.region id ops true) Q ρ w:=by
 simp only[Bool.and_eq_true] at hB
 obtain⟨hB1,hB2⟩:=hB
 have hle:h≤ops.size:=by
  have:=hB1
  simp only[z4v,Bool.and_eq_true] at this
  simpa using this.1.1.1
 have hlen:(ops.toList.take h).length=h:=by simp;omega
 have hdist:∀ i j,i<j→j<h→∀ t,q7U ops i=some t→q7U ops j≠some t:=fun i j hij hj t hi hjt=>by
  have hoj:ops[j]?=some (ops[j]'(by omega)):=Array.getElem?_eq_getElem _
  have:=(z4L hB1 hoj hi (by omega)).2
  unfold q7U at hjt
  rw[hoj] at hjt
  exact this hjt
 obtain⟨vs,ρe,hF,hout,hvs⟩:=q1m (ops.toList.take h) 0 ρ (fun j=>by
  rw[hlen,List.getElem?_take,Nat.zero_add]
  split
  ·simp
  ·rfl) (by rw[hlen];intro i j hij hj;exact hdist i j hij (by omega)) hq
 rw[hlen,Nat.zero_add] at hout hvs
 intro hok
 refine q1l (R:=R) h (ownD ops) (fun i l _=>l=(if q7U ops i=none then [] else [vs i])) hm hB1 htrans hdraw (fun _ _ _ _ h _=>h) ?_ ?_ hok
 ·-- each operation of the head
  have hok' : ops.toList.all (q9K n)=true:=by simpa[z0C] using hok
  have main:∀ (l:List Oper) (k:Nat),(∀ j,j<l.length→l[j]?=ops[k+j]?)→k+l.length≤h →
    stepsC R P n ops h (ownD ops) (fun i l _=>l=(if q7U ops i=none then [] else [vs i])) ρ w k l:=by
   intro l
   induction l with
   | nil=>intro k _ _;trivial
   | cons o l ih=>
    intro k hl hk
    have ho:ops[k]?=some o:=by have:=hl 0 (by simp);simpa using this.symm
    simp only[lnC] at hk
    refine⟨fun ρ' w' hw ho' hp=>?_,ih (k+1) (fun j hj=>by have:=hl (j+1) (by simp;omega);simp only[List.getElem?_cons_succ] at this;rw[this];congr 1;omega) (by omega)⟩
    obtain⟨h3,ρj,h4,h5⟩:=hvs k o (Nat.zero_le _) (by omega) ho
    have hoko:q9K n o=true:=List.all_eq_true.1 hok' o (by rw[Array.mem_toList_iff];exact Array.mem_of_getElem? ho)
    have hsame:∀ t∈o.looksAt ops,ρ' t=ρj t:=fun t ht=>by
     by_cases hin:∃ j,j<h∧q7U ops j=some t
     ·obtain⟨j,hj,hdj⟩:=hin
      have hdir:j∈q6p o:=by
       have h6:=List.all_eq_true.1 hB2 k (List.mem_range.2 (by omega))
       simp only[ho] at h6
       have h7:=List.all_eq_true.1 (List.all_eq_true.1 h6 t ht) j (List.mem_range.2 hj)
       simp only[hdj,Bool.or_eq_true,Bool.not_eq_true'] at h7
       rcases h7 with h7|h7
       ·have:Nat.beq t t=true:=Nat.beq_refl t
        rw[this] at h7;cases h7
       ·simpa using h7
      have hjk:=q9x hB1 ho j hdir
      have h8:=hp j (by simpa using hdir)
      have hne:q7U ops j≠none:=by rw[hdj];simp
      simp only[ownD,hdj,Option.toList_some,List.map_cons,List.map_nil,reduceCtorEq,if_false] at h8
      have h9:ρ' t=vs j:=by injection h8
      obtain⟨oj,hoj⟩:∃ oj,ops[j]?=some oj:=⟨ops[j]'(by omega),by rw[Array.getElem?_eq_getElem (by omega)]⟩
      have hdo:oj.dst=some t:=by unfold q7U at hdj;rw[hoj] at hdj;exact hdj
      rw[h9,h4 t (fun i a b=>hdist j i (by omega) b t hdj)]
      exact ((hvs j oj (Nat.zero_le _) hj hoj).1 t hdo).symm
     ·have hno:∀ j,j<h→q7U ops j≠some t:=fun j hj hd=>hin ⟨j,hj,hd⟩
      rw[ho' t hno,h4 t (fun i _ b=>hno i b),hout t (fun j _ b=>hno j b)]
    have hopq:=OpQ.congr hoko hsame (h5 w' hw)
    exact q2C hrefl hopq fun w'' hx=>⟨hx,by
     simp only[ownD,q7U,ho,bsS]
     cases hd:o.dst with
     | none=>simp
     | some d=>simp[E.put,j2s]⟩
  exact main _ 0 (fun j hj=>by rw[hlen] at hj;rw[List.getElem?_take,ifP hj,Nat.zero_add];simp) (by rw[hlen];omega)
 ·intro ρ' w' hw ho' hk
  have:ρ'=ρe:=by
   funext t
   by_cases hin:∃ j,j<h∧q7U ops j=some t
   ·obtain⟨j,hj,hdj⟩:=hin
    have h8:=hk j hj
    simp only[ownD,hdj,Option.toList_some,List.map_cons,List.map_nil,reduceCtorEq,if_false] at h8
    have h9:ρ' t=vs j:=by injection h8
    obtain⟨oj,hoj⟩:∃ oj,ops[j]?=some oj:=⟨ops[j]'(by omega),by rw[Array.getElem?_eq_getElem (by omega)]⟩
    have hdo:oj.dst=some t:=by unfold q7U at hdj;rw[hoj] at hdj;exact hdj
    rw[h9]
    exact ((hvs j oj (Nat.zero_le _) hj hoj).1 t hdo).symm
   ·have hno:∀ j,j<h→q7U ops j≠some t:=fun j hj hd=>hin ⟨j,hj,hd⟩
    rw[ho' t hno,hout t (fun j _ b=>hno j b)]
  rw[this]
  exact hF w' hw
end loose
end
end Go.E
namespace Go.E
open Go
open Rep (rd)
def reps (z:List Value):Nat→List Value
 | 0=>[]
 | n+1=>z++reps z n
theorem z2b (z:List Value):∀ n,(reps z n).length=n*z.length
 | 0=>by simp[reps]
 | n+1=>by simp[reps,z2b z n,Nat.add_mul];omega
theorem j6E (z:List Value):∀ (n i:Nat),i<n*z.length→(reps z n)[i]?=z[i % z.length]?
 | 0,i,h=>by simp at h
 | n+1,i,h=>by
  have hz:0<z.length:=by
   rcases Nat.eq_zero_or_pos z.length with h0|h0
   ·rw[h0] at h;simp at h
   ·exact h0
  simp only[reps]
  by_cases hi:i<z.length
  ·rw[List.getElem?_append_left hi,Nat.mod_eq_of_lt hi]
  ·have hm:(n+1)*z.length=n*z.length+z.length:=by rw[Nat.add_mul];omega
   rw[hm] at h
   have hmod:i % z.length=(i-z.length) % z.length:=Nat.mod_eq_sub_mod (by omega)
   rw[List.getElem?_append_right (by omega),j6E z n (i-z.length) (by omega),hmod]
theorem z2W (z:Array Value)(n:Nat):(madeCells z (n*z.size))=(reps z.toList n).toArray:=by
 apply Array.ext'
 simp only[madeCells,Array.toList_map,Array.toList_range]
 apply List.ext_getElem?
 intro i
 by_cases hi:i<n*z.size
 ·have hz:0<z.size:=by
   rcases Nat.eq_zero_or_pos z.size with h0|h0
   ·rw[h0] at hi;simp at hi
   ·exact h0
  rw[j6E _ _ _ (by simpa using hi),List.getElem?_map,List.getElem?_range hi]
  have hm:i % z.size<z.size:=Nat.mod_lt _ hz
  simp[hm,getElem!_pos]
 ·rw[List.getElem?_eq_none (by simp;omega),List.getElem?_eq_none (by rw[z2b];simp;omega)]
section
variable {P:Program}{n:Nat}{Q:Post}{ρ:Env}{w:World}{ops:Array Oper}{o:Oper}{rest:List Oper}
theorem j2v {e k b:Nat}{z:List Value}(hk:szT P e=some k)(hb:byT P e=some b)(hz:z2C P e=some z):∃ i v,P.info? e=some i∧i.size=k∧i.bytes=b∧i.zero=some v∧v.cells=z.toArray:=by
 unfold szT at hk;unfold byT at hb;unfold z2C at hz
 cases hi:P.info? e with
 | none=>simp[hi] at hk
 | some i=>
  cases hv:i.zero with
  | none=>simp[hi,hv] at hz
  | some v=>
   simp[hi] at hk hb
   simp[hi,hv] at hz
   exact⟨i,v,rfl,hk,hb,hv,by rw[← hz]⟩
abbrev Own (w:World)(base:Nat)(e k:Nat)(v:Value)(m:Nat)(cs:List Value):Prop:=w.ownsRow base e k v m cs
theorem Own.nil (w:World)(base e k:Nat):Own w base e k (.slice none 0 0) 0 []:=World.ownsRow_nil w base e k
abbrev z8P (v:Value):Nat→Prop:=fun b=>v.ownBlock=some b
theorem Own.lt {base e k m:Nat}{v:Value}{cs:List Value}(h:Own w base e k v m cs){b:Nat}(hb:z8P v b):base≤b∧b<w.heap.size:=World.ownsRow.lt h b hb
theorem j3F (t ty e e0:TypeId)(i:TypeInfo)(ht:P.underlying t=some (.slice e))(hi:P.info? e=some i)
  (g sLen sCap:Nat) (cur:Array Value) (hg:w.heap[g]?=some (.cells cur e0 (0,0)))
  (a:Addr) (m c:Nat) (news:List Value) (hl:news.length=m*i.size) (hnews:∀ j u,news[j]?=some u→w.cell? (a.add j)=some u) (h1:∀ u∈news,u.oneCell'=true)
  (hroom:sLen+m≤sCap) (hfit:sLen*i.size+news.length≤cur.size) :
  (Builtin.append_ #[t,t] ty #[.slice (some ⟨g,0,none⟩) sLen sCap,.slice (some a) m c]).run P w =
   .ok (.slice (some ⟨g,0,none⟩) (sLen+m) sCap) (w.setRow g (cur.toList.take (sLen*i.size)++news++cur.toList.drop (sLen*i.size+news.length)).toArray):=by
 have hf:=run_firstCells_some (P:=P) w i.size m a m c news hl hnews
 have hst:=run_storeCells_at P g (sLen*i.size) e0 news 0 cur w hg (by simpa using hfit) h1
 simp only[Nat.add_zero] at hst
 simp[Builtin.append_,run_underlying ht,sizeOf,typeInfo,hi,Builtin.lenOf,hroom,hf,Addr.add_lit,hst]
theorem j5n {T ty e e0 k b base:Nat}{z:List Value}{v:Value}{m:Nat}{cs:List Value}{ad:Addr}{m2 c2:Nat}{news:List Value}(hT:q7D P T=some e)(hk:szT P e=some k)(hb:byT P e=some b)(hz:z2C P e=some z)(hzk:z.length=k)(hk0:0<k)
  (hown:Own w base e0 k v m cs) (hl:news.length=m2*k) (hcells:∀ j u,news[j]?=some u→w.cell? (ad.add j)=some u) (h1:∀ u∈news,u.oneCell'=true)
  (hmax:(m+m2)*b≤140737488355328) (hm:m+m2≤maxLen) (hbase:base≤w.heap.size) :
  ∃ v' w' e',(Builtin.append_ #[T,T] ty #[v,.slice (some ad) m2 c2]).run P w=.ok v' w'∧Own w' base e' k v' (m+m2) (cs++news)∧Chg (z8P v) w w'∧∀ g,z8P v' g→z8P v g∨w.heap.size≤g:=by
 obtain⟨i,zv,hi,hik,hib,hiv,hvc⟩:=j2v hk hb hz
 have j3P:∀ e1,e1=e→Own w base e1 k v m cs→∃ v' w' e',(Builtin.append_ #[T,T] ty #[v,.slice (some ad) m2 c2]).run P w=.ok v' w'∧Own w' base e' k v' (m+m2) (cs++news)∧Chg (z8P v) w w'∧∀ g,z8P v' g→z8P v g∨w.heap.size≤g:=by
  intro e1 he hown
  subst he
  obtain⟨v',w',hr,ho',hgb,_,hwhere⟩:=run_append_own_at (P:=P) w base T ty e1 i zv k b (q6h hT) hi hiv hik hib (by rw[hvc];simpa using hzk) hk0 v m cs hown ad m2 c2 news hl hcells h1 hm hmax hbase
  refine⟨v',w',e1,hr,ho',⟨hgb.os,hgb.tape,hgb.output,hgb.size,fun q hq hne=>hgb.block q hq fun e=>hne e.symm⟩,fun g hg=>?_⟩
  rcases hwhere with hw|hw
  ·exact .inl (hw.symm.trans hg)
  ·right
   have:some g=some w.heap.size:=hg.symm.trans hw
   cases this
   exact Nat.le_refl _
 rcases hown.2 with ⟨rfl,rfl⟩|⟨g,cap,cur,rfl,hbg,hg,hnc,hcm,hcs,htake⟩
 ·have hx:cs=[]:=List.eq_nil_of_length_eq_zero (by simpa using hown.1)
  subst hx
  exact j3P e rfl (Own.nil w base e k)
 ·subst hik
  have hlen:(cs++news).length=(m+m2)*i.size:=by rw[List.length_append,hown.1,hl,Nat.add_mul]
  by_cases hroom:m+m2≤cap
  ·have hfit:m*i.size+news.length≤cur.size:=by rw[hl,hcs,← Nat.add_mul];exact Nat.mul_le_mul_right _ hroom
   have hr:=j3F (P:=P) (w:=w) T ty e e0 i (q6h hT) hi g m cap cur hg ad m2 c2 news hl hcells h1 hroom hfit
   refine⟨_,_,e0,hr,⟨hlen,.inr ⟨g,cap,_,rfl,hbg,setRow_heap w g cur _ e0 _ hg,hroom,hcm,?_,?_⟩⟩,⟨rfl,rfl,rfl,by simp,fun q _ hq=>setRow_other w g q _ (fun e=>hq (by simp[z8P,Value.ownBlock,e]))⟩,fun q hq=>.inl hq⟩
   ·simp only[List.size_toArray,List.length_append,List.length_take,List.length_drop,Array.length_toList]
    omega
   ·show List.take _ _=_
    rw[htake,← hlen]
    exact List.take_left
  ·have hsmall:m+m2≤9223372036854775807:=by simp only[maxLen] at hm;omega
   have holds:∀ j u,cs[j]?=some u→w.cell? ((⟨g,0,none⟩:Addr).add j)=some u:=World.ownsRow.cells hown (g:=g) rfl
   have hr:=run_append_grow (P:=P) w T ty e i zv (q6h hT) hi hiv ⟨g,0,none⟩ m cap cs hown.1 holds ad m2 c2 news hl hcells (by omega) (by omega) (growslice_fits (by omega) (by rw[hib];exact hmax))
   have hge:=grownCap_ge w (m+m2) cap e
   have hcm' : grownCap w (m+m2) cap e≤maxLen:=grownCap_le_maxLen w (m+m2) cap e hm
   refine⟨_,_,e,hr,⟨hlen,.inr ⟨w.heap.size,_,_,rfl,hbase,heap_alloc_new w.drew _,hge,hcm',?_,?_⟩⟩,((Ext.drew w).trans (Ext.alloc _ _)).mono (fun _ _ h=>h.elim),fun q hq=>?_⟩
   ·have hz2:zv.cells.size=i.size:=by rw[hvc];simpa using hzk
    simp only[Array.size_append,List.size_toArray,size_zeroCells,hz2,hown.1,hl,← Nat.add_mul]
    congr 1
    omega
   ·simp only[Array.toList_append,List.append_assoc]
    rw[← List.append_assoc,← hlen]
    exact List.take_left
   ·right
    have:some w.heap.size=some q:=hq
    cases this
    exact Nat.le_refl _
def cutS (A:Option Addr)(l h c k:Nat):Value:=.slice (if c=l then A else A.map (·.add (l*k))) (h-l) (c-l)
theorem q2D {T e k:Nat}{x lo hi:Operand}{A:Option Addr}{m c l h:Nat}{q q' : IntKind}(ho:o.op=.slice T x (some lo) (some hi) none)(hT:q7D P T=some e)(hk:szT P e=some k)(hx:E.ev ρ x=.slice A m c)
  (hl:E.ev ρ lo=.int q (l:Int)) (hh:E.ev ρ hi=.int q' (h:Int)) (h1:l≤h) (h2:h≤c):Ev P ρ o w (cutS A l h c k):=by
 have hu:=q6h hT
 have e1:(Instr.sliceBounds true m c (some (.int q l)) (some (.int q' h)) none).run P w=.ok (l,h,c) w:=by
  simp[Instr.sliceBounds,run_sliceBound,(by omega:(h:Int)≤c),(by omega:(l:Int)≤h)]
 have hna:¬ (∃ len el,P.underlying T=some (.array len el)):=by rw[hu];simp
 simp[Ev,execOp,ho,hx,hl,hh,Instr.sliceAt,Instr.slice,run_underlying hu,e1,q6c hk,cutS]
theorem q0W {T e k:Nat}{x hi:Operand}{A:Option Addr}{m c h:Nat}{q' : IntKind}(ho:o.op=.slice T x none (some hi) none)(hT:q7D P T=some e)(hk:szT P e=some k)(hx:E.ev ρ x=.slice A m c)
  (hh:E.ev ρ hi=.int q' (h:Int)) (h2:h≤c):Ev P ρ o w (cutS A 0 h c k):=by
 have hu:=q6h hT
 have e1:(Instr.sliceBounds true m c none (some (.int q' h)) none).run P w=.ok (0,h,c) w:=by
  simp[Instr.sliceBounds,run_sliceBound,(by omega:(h:Int)≤c)]
 simp[Ev,execOp,ho,hx,hh,Instr.sliceAt,Instr.slice,run_underlying hu,e1,q6c hk,cutS]
theorem q2k {T e k:Nat}{x lo:Operand}{A:Option Addr}{m c l:Nat}{q:IntKind}(ho:o.op=.slice T x (some lo) none none)(hT:q7D P T=some e)(hk:szT P e=some k)(hx:E.ev ρ x=.slice A m c)
  (hl:E.ev ρ lo=.int q (l:Int)) (h1:l≤m):Ev P ρ o w (cutS A l m c k):=by
 have hu:=q6h hT
 have e1:(Instr.sliceBounds true m c (some (.int q l)) none none).run P w=.ok (l,m,c) w:=by
  simp[Instr.sliceBounds,run_sliceBound,(by omega:(l:Int)≤m)]
 simp[Ev,execOp,ho,hx,hl,Instr.sliceAt,Instr.slice,run_underlying hu,e1,q6c hk,cutS]
end
end Go.E
namespace Go.E
open Go
open Rep (rd)
section
variable {P:Program}{n:Nat}{Q:Post}{ρ:Env}{w:World}{ops:Array Oper}{o:Oper}{rest:List Oper}
theorem k3w {x y:Nat}(hx:x<9223372036854775808)(hy:y<9223372036854775808):IntKind.i64.wrap ((BitVec.ofInt 64 (x:Int) &&& BitVec.ofInt 64 (y:Int)).toNat:Int)=((x &&& y:Nat):Int):=by
 have h1:(BitVec.ofInt 64 (x:Int)).toNat=x:=by simp[BitVec.toNat_ofNat];omega
 have h2:(BitVec.ofInt 64 (y:Int)).toNat=y:=by simp[BitVec.toNat_ofNat];omega
 have h3:(x &&& y)≤x:=Nat.and_le_left
 rw[BitVec.toNat_and,h1,h2]
 exact IntWalk.i64_in _ (by omega)
theorem k5z {x y k:Nat}(hx:x<2 ^ k)(hy:y<2 ^ k):(x ||| y)<2 ^ k:=Nat.or_lt_two_pow hx hy
theorem k4S {x y:Nat}(hx:x<9223372036854775808)(hy:y<9223372036854775808):IntKind.i64.wrap ((BitVec.ofInt 64 (x:Int) ||| BitVec.ofInt 64 (y:Int)).toNat:Int)=((x ||| y:Nat):Int):=by
 have h1:(BitVec.ofInt 64 (x:Int)).toNat=x:=by simp[BitVec.toNat_ofNat];omega
 have h2:(BitVec.ofInt 64 (y:Int)).toNat=y:=by simp[BitVec.toNat_ofNat];omega
 have h3:(x ||| y)<2 ^ 63:=k5z (by simpa using hx) (by simpa using hy)
 rw[BitVec.toNat_or,h1,h2]
 exact IntWalk.i64_in _ (by omega)
theorem q2E {T:TypeId}{x y:Nat}(hx:x<9223372036854775808)(hy:y<9223372036854775808):Bin P .and T (.int .i64 (x:Int)) (.int .i64 (y:Int)) (.int .i64 ((x &&& y:Nat):Int)):=fun a b w=>by
 have h:=k3w hx hy
 simp only[q5J,Sem.run_bind,Sem.run_pure,Result.andThen_ok]
 simp only[binOp,Op.intBits,ne_eq,not_true_eq_false,if_false]
 exact congrArg (fun q=>Result.ok (Value.int IntKind.i64 q) w) h
theorem q3m {T:TypeId}{x y:Nat}(hx:x<9223372036854775808)(hy:y<9223372036854775808):Bin P .or T (.int .i64 (x:Int)) (.int .i64 (y:Int)) (.int .i64 ((x ||| y:Nat):Int)):=fun a b w=>by
 have h:=k4S hx hy
 simp only[q5J,Sem.run_bind,Sem.run_pure,Result.andThen_ok]
 simp only[binOp,Op.intBits,ne_eq,not_true_eq_false,if_false]
 exact congrArg (fun q=>Result.ok (Value.int IntKind.i64 q) w) h
theorem q2F {T:TypeId}{x k:Nat}{q:IntKind}(h:x*2 ^ k<9223372036854775808)(hk:k<64):Bin P .shl T (.int .i64 (x:Int)) (.int q (k:Int)) (.int .i64 ((x*2 ^ k:Nat):Int)):=fun a b w=>by
 have h1:¬ (k:Int)<0:=by omega
 have h2:min k 64=k:=Nat.min_eq_left (by omega)
 have hb:IntKind.i64.bits=64:=rfl
 have h3:IntKind.i64.wrap ((x:Int)*2 ^ k)=((x*2 ^ k:Nat):Int):=by
  rw[show ((x:Int)*2 ^ k)=((x*2 ^ k:Nat):Int) by simp]
  exact IntWalk.i64_in _ (by omega)
 simp only[q5J,Sem.run_bind,Sem.run_pure,Result.andThen_ok,binOp,Op.shift,h1,if_false,tnC,hb,h2,h3]
theorem q2G {T:TypeId}{x k:Nat}{q:IntKind}(hk:k<64):Bin P .shr T (.int .i64 (x:Int)) (.int q (k:Int)) (.int .i64 ((x >>> k:Nat):Int)):=fun a b w=>by
 have h1:¬ (k:Int)<0:=by omega
 have h2:min k 64=k:=Nat.min_eq_left (by omega)
 have hb:IntKind.i64.bits=64:=rfl
 have h3:(x:Int).fdiv (2 ^ k)=((x >>> k:Nat):Int):=by
  rw[Nat.shiftRight_eq_div_pow,Int.natCast_ediv]
  rw[Int.fdiv_eq_ediv_of_nonneg _ (by exact Int.le_of_lt (Int.pow_pos (by decide)))]
  simp
 simp only[q5J,Sem.run_bind,Sem.run_pure,Result.andThen_ok,binOp,Op.shift,h1,if_false,tnC,hb,h2,h3]
theorem z9t {T:TypeId}{k:IntKind}(h:intT P T=some k):P.underlying T=some (.int k):=by
 unfold intT at h
 split at h
 ·rename_i k' hk;cases h;exact hk
 ·cases h
theorem q0O {S T:TypeId}{x:Operand}{k q:IntKind}{m:Int}{d:TypeDesc}(ho:o.op=.convert S T x)(hS:P.underlying S=some d)(hT:intT P T=some k)(hx:E.ev ρ x=.int q m):Ev P ρ o w (.int k (k.wrap m)):=by
 simp[Ev,execOp,ho,hx,convert,run_underlying hS,run_underlying (z9t hT),Conv.intToInt]
theorem q1Q {S T:TypeId}{x:Operand}{q:IntKind}{m:Nat}{d:TypeDesc}(ho:o.op=.convert S T x)(hS:P.underlying S=some d)(hT:intT P T=some .u64)(hx:E.ev ρ x=.int q (m:Int))(hm:m≤18446744073709551615):Ev P ρ o w (.int .u64 (m:Int)):=by
 have:=q0O (w:=w) ho hS hT hx
 rwa[IntWalk.u64_in _ (by omega)] at this
def z9u (P:Program)(T:TypeId):Option (List (Nat×Nat)):=match P.underlying T with
 | some (.struct fs)=>fs.toList.mapM fun f=>(szT P f.type).map fun s=>(f.offset,s)
 | _=>none
def lay (places:List (Nat×Nat))(cells:List Value):List (Nat×List Value)→List Value
 | []=>cells
 | (i,l)::rest=>match places[i]? with
  | some (off,_)=>lay places (cells.take off++l++cells.drop (off+l.length)) rest
  | none=>[]
def z3k (places:List (Nat×Nat))(m:Nat):List (Nat×Nat)→Bool
 | []=>true
 | (i,k)::rest=>(match places[i]? with|some (off,s)=>Nat.beq s k&&Nat.ble (off+k) m|none=>false)&&z3k places m rest
theorem j3G (l:List Value):∀ (off k:Nat) (cs:List Value),off+k+l.length≤cs.length →
  (l.zipIdx k).foldl (fun (cs:Array Value) (p:Value×Nat)=>cs.setIfInBounds (off+p.2) p.1) cs.toArray=(cs.take (off+k)++l++cs.drop (off+k+l.length)).toArray:=by
 induction l with
 | nil=>intro off k cs h;simp
 | cons x l ih=>
  intro off k cs h
  simp only[lnC] at h
  simp only[List.zipIdx_cons,List.foldl_cons]
  rw[List.setIfInBounds_toArray,ih off (k+1) _ (by simp;omega)]
  congr 1
  have hk:off+k<cs.length:=by omega
  have e1:(cs.set (off+k) x).take (off+(k+1))=cs.take (off+k)++[x]:=by
   rw[show off+(k+1)=(off+k)+1 by omega,List.take_add_one,List.take_set_of_le (Nat.le_refl _)]
   simp[hk]
  have e2:(cs.set (off+k) x).drop (off+(k+1)+l.length)=cs.drop (off+k+(x::l).length):=by
   rw[List.drop_set_of_lt (by omega)]
   congr 1
   simp;omega
  rw[e1,e2]
  simp
theorem j6F {places:List (Nat×Nat)}:∀ (parts:List (Nat×Value)) (pl:List (Nat×List Value)) (cells:List Value),parts.map (fun p=>(p.1,p.2.cells.toList))=pl→z3k places cells.length (pl.map fun p=>(p.1,p.2.length))=true →
  Instr.fill (fun i=>places.toArray[i]?) cells.toArray parts=some (lay places cells pl).toArray
 | [],pl,cells,h,_=>by subst h;rfl
 | (i,v)::parts,pl,cells,h,hf=>by
  subst h
  simp only[List.map_cons,z3k,Bool.and_eq_true] at hf
  cases hp:places[i]? with
  | none=>simp[hp] at hf
  | some os=>
   obtain⟨off,s⟩:=os
   simp only[hp,Bool.and_eq_true] at hf
   have h1:s=v.cells.size:=by simpa using Nat.eq_of_beq_eq_true hf.1.1
   have h2:off+v.cells.size≤cells.length:=by simpa using hf.1.2
   have hpa:places.toArray[i]?=some (off,s):=by simpa using hp
   simp only[Instr.fill,hpa,List.map_cons,lay,hp]
   rw[ifN (by simp only[List.size_toArray,h1];simp;omega)]
   have hz:v.cells.zipIdx.foldl (fun (cs:Array Value) (x:Value×Nat)=>match x with|(c,j)=>cs.setIfInBounds (off+j) c) cells.toArray=(cells.take off++v.cells.toList++cells.drop (off+v.cells.toList.length)).toArray:=by
    have h3:=j3G v.cells.toList off 0 cells (by simpa using h2)
    simp only[Nat.add_zero] at h3
    rw[← h3,← Array.foldl_toList]
    simp
   rw[hz]
   exact j6F parts _ _ rfl (by
    have hlen:(cells.take off++v.cells.toList++cells.drop (off+v.cells.toList.length)).length=cells.length:=by simp;omega
    rw[hlen];exact hf.2)
theorem Ev.build {T:TypeId}{parts:Array (Nat×Operand)}{places:List (Nat×Nat)}{z:List Value}{vs:List (Nat×Value)}{pl:List (Nat×List Value)}{cs:List Value}(ho:o.op=.build T parts)(hp:z9u P T=some places)(hz:z2C P T=some z)
  (hv:parts.toList.map (fun p=>(p.1,E.ev ρ p.2))=vs) (hl:vs.map (fun p=>(p.1,p.2.cells.toList))=pl) (hf:z3k places z.length (pl.map fun p=>(p.1,p.2.length))=true) (hc:lay places z pl=cs):Ev P ρ o w (.agg cs.toArray):=by
 subst hc
 obtain⟨zv,hzv,hzc⟩:=q9M (P:=P) (w:=w) hz
 unfold z9u at hp
 split at hp
 ·rename_i fs hfs
  have hm:∀ (g:Field→Sem (Nat×Nat)),(∀ f s,szT P f.type=some s→(g f).run P w=.ok (f.offset,s) w)→∀ (l:List Field) (pl:List (Nat×Nat)),l.mapM (fun f=>(szT P f.type).map fun s=>(f.offset,s))=some pl→(l.mapM g).run P w=.ok pl w:=by
   intro g hg l
   induction l with
   | nil=>intro pl h;simp at h;subst h;simp
   | cons f l ih=>
    intro pl h
    simp only[List.mapM_cons] at h
    cases hs:szT P f.type with
    | none=>simp[hs] at h
    | some s=>
     cases hr:l.mapM (fun f=>(szT P f.type).map fun s=>(f.offset,s)) with
     | none=>simp[hs,hr] at h
     | some r=>
      simp[hs,hr] at h
      subst h
      simp only[List.mapM_cons,Sem.run_bind,hg f s hs,Result.andThen_ok,ih r hr,Sem.run_pure]
  have hg0:∀ (f:Field) s,szT P f.type=some s→((do pure (f.offset,← sizeOf f.type):Sem (Nat×Nat))).run P w=.ok (f.offset,s) w:=fun f s hs=>by
   simp only[Sem.run_bind,q6c hs,Result.andThen_ok,Sem.run_pure]
  have hmap:=hm _ hg0 fs.toList places hp
  have hfill:=j6F (places:=places) vs pl z hl hf
  have hparts:(parts.map fun (p:Nat×Operand)=>(p.1,E.ev ρ p.2)).toList=vs:=by rw[← hv];simp
  have hmA:(fs.mapM (fun f=>(do pure (f.offset,← sizeOf f.type):Sem (Nat×Nat)))).run P w=.ok places.toArray w:=by
   rw[Array.mapM_eq_mapM_toList]
   rw[show (List.toArray <$> List.mapM (fun f=>(do pure (Field.offset f,← sizeOf f.type):Sem (Nat×Nat))) fs.toList)=((List.mapM (fun f=>(do pure (Field.offset f,← sizeOf f.type):Sem (Nat×Nat))) fs.toList) >>= fun l=>pure l.toArray) from (bind_pure_comp _ _).symm]
   rw[Sem.run_bind,hmap]
   rfl
  simp only[Ev,execOp,ho,Instr.build,Sem.run_bind,hzv,Result.andThen_ok,run_underlying hfs,hmA,hzc]
  simp only[hparts,hfill,Sem.run_pure,Result.andThen_ok]
 ·cases hp
inductive FK where|int|str|bool
def fkT (P:Program)(T:TypeId):Option FK:=match P.underlying T with
 | some (.int _)=>some .int
 | some .string=>some .str
 | some .bool=>some .bool
 | _=>none
def j7Q (P:Program):Nat→List Field→Option (List FK)
 | _,[]=>some []
 | i,f::fs=>if f.name != "_" && Nat.beq f.offset i then (fkT P f.type).bind fun k=>(j7Q P (i+1) fs).map (k :: ·) else none
def j7R (P:Program)(T:TypeId):Option (List FK):=match P.underlying T with
 | some (.struct fs)=>if !P.stoodInHeld T && !P.eqGuardType P.depth T then j7Q P 0 fs.toList else none
 | _=>none
def eqF:List FK→List Value→List Value→Option Bool
 | [],[],[]=>some true
 | .int::r,.int .i64 a::xs,.int .i64 b::ys=>(eqF r xs ys).map (decide (a=b) && ·)
 | .str::r,.string a::xs,.string b::ys=>(eqF r xs ys).map (decide (a=b) && ·)
 | .bool::r,.bool a::xs,.bool b::ys=>(eqF r xs ys).map (decide (a=b) && ·)
 | _,_,_=>none
theorem j5o (d:Nat):∀ (fs:List Field) (i:Nat) (ks:List FK) (xs ys:List Value) (us vs:Array Value) (r:Bool),j7Q P i fs=some ks→eqF ks xs ys=some r →
  (∀ j v,xs[j]?=some v→us[i+j]?=some v)→(∀ j v,ys[j]?=some v→vs[i+j]?=some v)→(Op.eqFields (d+1) us vs fs).run P w=.ok r w
 | [],_,ks,xs,ys,us,vs,r,h,he,_,_=>by
  simp[j7Q] at h;subst h
  cases xs<;>cases ys<;>simp[eqF] at he
  subst he
  simp[Op.eqFields]
 | f::fs,i,ks,xs,ys,us,vs,r,h,he,hx,hy=>by
  simp only[j7Q] at h
  split at h
  ·rename_i hc
   simp only[Bool.and_eq_true] at hc
   cases hk:fkT P f.type with
   | none=>simp[hk] at h
   | some k=>
    cases hr:j7Q P (i+1) fs with
    | none=>simp[hk,hr] at h
    | some ks'=>
     simp[hk,hr] at h
     subst h
     have hoff:f.offset=i:=Nat.eq_of_beq_eq_true hc.2
     have hname:f.name ≠ "_" := by simpa using hc.1
     have hagg:aggT P f.type=some false:=by
      unfold fkT at hk;unfold aggT
      cases hu:P.underlying f.type with
      | none=>simp[hu] at hk
      | some dd=>simp only[hu] at hk ⊢;cases dd<;>simp at hk ⊢
     have hpart:∀ (cs:Array Value) v,cs[i]?=some v→(part f.type cs f.offset).run P w=.ok v w:=fun cs v hv=>by
      simp[part,z1Z hagg,hoff,hv]
     have tail:=fun xs' ys' r' hE hx' hy'=>j5o d fs (i+1) ks' xs' ys' us vs r' hr hE hx' hy'
     cases xs with
     | nil=>cases k<;>simp[eqF] at he
     | cons x xs=>
      cases ys with
      | nil=>cases k<;>cases x<;>simp[eqF] at he
      | cons y ys=>
       have hx0:=hx 0 x rfl
       have hy0:=hy 0 y rfl
       have hxt:∀ j v,xs[j]?=some v→us[i+1+j]?=some v:=fun j v hv=>by have:=hx (j+1) v (by simpa using hv);rwa[Nat.add_assoc,Nat.add_comm 1]
       have hyt:∀ j v,ys[j]?=some v→vs[i+1+j]?=some v:=fun j v hv=>by have:=hy (j+1) v (by simpa using hv);rwa[Nat.add_assoc,Nat.add_comm 1]
       have fin:∀ (b:Bool),(Op.equalIn (d+1) f.type x y).run P w=.ok b w→(eqF ks' xs ys).map (b && ·)=some r→(Op.eqFields (d+1) us vs (f::fs)).run P w=.ok r w:=by
        intro b hb hm
        cases hq:eqF ks' xs ys with
        | none=>simp[hq] at hm
        | some r'=>
         simp[hq] at hm
         have ht:=tail xs ys r' hq hxt hyt
         simp only[Op.eqFields,ifP hname,Sem.run_bind,hpart us x hx0,hpart vs y hy0,Result.andThen_ok,hb]
         cases b
         ·simp at hm;subst hm;simp
         ·simp at hm;subst hm;simp[ht]
       have hu:∀ k',fkT P f.type=some k'→(match k' with|.int=>∃ q,P.underlying f.type=some (.int q)|.str=>P.underlying f.type=some .string|.bool=>P.underlying f.type=some .bool):=by
        intro k' hk'
        unfold fkT at hk'
        split at hk'<;>cases hk'<;>simp[*]
       have huk:=hu k hk
       cases k with
       | int=>
        obtain⟨q,hq⟩:=huk
        cases x with
        | int kx a=>
         cases y with
         | int ky b=>
          cases kx<;>cases ky<;>simp only[eqF] at he<;>first|(cases he;done)|exact fin _ (by rw[run_equalIn_int w d _ .i64 q a b hq];rfl) he
         | _=>cases kx<;>simp[eqF] at he
        | _=>simp[eqF] at he
       | str=>
        cases x with
        | string a=>
         cases y with
         | string b=>simp only[eqF] at he;exact fin _ (by rw[run_equalIn_string w d _ a b huk,beqS]) he
         | _=>simp[eqF] at he
        | _=>simp[eqF] at he
       | bool=>
        cases x with
        | bool a=>
         cases y with
         | bool b=>simp only[eqF] at he;exact fin _ (by rw[run_equalIn_bool' w d _ a b huk];cases a<;>cases b<;>rfl) he
         | _=>simp[eqF] at he
        | _=>simp[eqF] at he
  ·cases h
theorem q1R {T:TypeId}{ks:List FK}{xs ys:List Value}{r:Bool}(hT:j7R P T=some ks)(h:eqF ks xs ys=some r):Bin P .eql T (.agg xs.toArray) (.agg ys.toArray) (.bool r):=fun x y w=>by
 unfold j7R at hT
 split at hT
 ·rename_i fs hfs
  split at hT
  ·rename_i hc
   simp only[Bool.and_eq_true,Bool.not_eq_true'] at hc
   have hfo:P.fieldsOf T=fs:=by simp[Program.fieldsOf,hfs]
   have hrun:=j5o (P:=P) (w:=w) 9998 fs.toList 0 ks xs ys xs.toArray ys.toArray r hT h (by simp) (by simp)
   have h2:=run_equalIn_struct (P:=P) w 9999 T xs.toArray ys.toArray (by rw[hfo];exact hfs) hc.1
   rw[hfo,hrun] at h2
   simp only[Sem.run_bind,run_eqGuard_agg w .eql T x y _ _ hc.2,Result.andThen_ok,run_eql_struct,h2]
  ·cases hT
 ·cases hT
theorem q1S {T:TypeId}{ks:List FK}{xs ys:List Value}{r:Bool}(hT:j7R P T=some ks)(h:eqF ks xs ys=some r):Bin P .neq T (.agg xs.toArray) (.agg ys.toArray) (.bool (!r)):=fun x y w=>by
 unfold j7R at hT
 split at hT
 ·rename_i fs hfs
  split at hT
  ·rename_i hc
   simp only[Bool.and_eq_true,Bool.not_eq_true'] at hc
   have hfo:P.fieldsOf T=fs:=by simp[Program.fieldsOf,hfs]
   have hrun:=j5o (P:=P) (w:=w) 9998 fs.toList 0 ks xs ys xs.toArray ys.toArray r hT h (by simp) (by simp)
   have h2:=run_equalIn_struct (P:=P) w 9999 T xs.toArray ys.toArray (by rw[hfo];exact hfs) hc.1
   rw[hfo,hrun] at h2
   simp only[Sem.run_bind,run_eqGuard_agg w .neq T x y _ _ hc.2,Result.andThen_ok,run_neq_struct,h2]
  ·cases hT
 ·cases hT
end
end Go.E
namespace Go.E
open Go
open Rep (rd)
abbrev I64 (n:Int):Prop:=-9223372036854775808≤n∧n≤9223372036854775807
section
variable {P:Program}{n:Nat}{Q:Post}{ρ:Env}{w:World}{ops:Array Oper}{o:Oper}{rest:List Oper}
theorem q3n {T e k:TypeId}{x i:Operand}{A:Option Addr}{b off n c:Nat}{q:IntKind}{j:Nat}(ho:o.op=.indexAddr T x i)(hT:q7D P T=some e)(hk:szT P e=some k)
  (hx:E.ev ρ x=.slice A n c) (hA:A=some ⟨b,off,none⟩) (hi:E.ev ρ i=.int q (j:Int)) (hj:j<n):Ev P ρ o w (.pointer (some ⟨b,off+j*k,none⟩)):=Ev.ix ho hT hk (by rw[hx,hA]) hi hj
theorem Blk.part {b:Nat}{T:TypeId}{cs:List Value}(h:Blk w b T cs)(j k:Nat):At w b j ((cs.drop j).take k):=At.ofBlk h j _ fun i v hv=>by
 rw[List.getElem?_take] at hv
 split at hv
 ·rwa[List.getElem?_drop] at hv
 ·cases hv
theorem At.part {b o:Nat}{cs:List Value}(h:At w b o cs)(j k:Nat):At w b (o+j) ((cs.drop j).take k):=h.sub j _ fun i v hv=>by
 rw[List.getElem?_take] at hv
 split at hv
 ·rwa[List.getElem?_drop] at hv
 ·cases hv
theorem At.cell0 {b o:Nat}{cs:List Value}(h:At w b o cs){v:Value}(hv:cs[0]?=some v):w.cell? ⟨b,o,none⟩=some v:=h 0 v hv
theorem res1 {fn:Func}{t:Nat}{v:Value}(hr:fn.results=#[.tmp t])(ht:Nat.blt t fn.ntmps=true)(hv:ρ t=v):∀ a:Act,Rel fn.ntmps ρ a→(results fn a.tmps).run P w=.ok v w:=fun a ha=>by
 rw[results_tmp hr,ha.at_ t (by simpa using ht),hv]
theorem q1o {T:TypeId}(hT:P.underlying T=some .bool){a b:Bool}:Bin P .eql T (.bool a) (.bool b) (.bool (decide (a=b))):=fun x y w=>by
 have h1:(Op.equalIn 10000 T (.bool a) (.bool b)).run P w=.ok (a == b) w:=run_equalIn_bool' w 9999 T a b hT
 have h2:eqGuard .eql T x y (.bool a) (.bool b)=pure ():=by simp[eqGuard]
 simp only[h2,binOp,Op.equal,Op.maxDepth,Sem.run_bind,Sem.run_pure,Result.andThen_ok,h1]
 cases a<;>cases b<;>rfl
theorem q1p {T:TypeId}(hT:P.underlying T=some .bool){a b:Bool}:Bin P .neq T (.bool a) (.bool b) (.bool (!decide (a=b))):=fun x y w=>by
 have h1:(Op.equalIn 10000 T (.bool a) (.bool b)).run P w=.ok (a == b) w:=run_equalIn_bool' w 9999 T a b hT
 have h2:eqGuard .neq T x y (.bool a) (.bool b)=pure ():=by simp[eqGuard]
 simp only[h2,binOp,Op.equal,Op.maxDepth,Sem.run_bind,Sem.run_pure,Result.andThen_ok,h1]
 cases a<;>cases b<;>rfl
end
end Go.E
namespace Go.E
open Go
open Rep (rd)
class Sep (α:Type) extends Rep α where
 own:List Nat→World→α→List Value→Prop
 own_rd:∀ {L w x cs},own L w x cs→rd (fun b=>b∈L) w x cs
 own_frame:∀ {L w w' x cs},own L w x cs→(∀ b∈L,w'.heap[b]?=w.heap[b]?)→own L w' x cs
 own_lt:∀ {L w x cs},own L w x cs→∀ b∈L,b<w.heap.size
open Go.E.Sep (own)
theorem Own.lst {w:World}{base e k m:Nat}{v:Value}{cs:List Value}(h:Own w base e k v m cs):∀ b∈v.ownBlock.toList,b<w.heap.size:=fun b hb=>(h.lt (by simpa[z8P] using hb)).2
theorem Own.frm {w w' : World}{base e k m:Nat}{v:Value}{cs:List Value}(h:Own w base e k v m cs)(hf:∀ b∈v.ownBlock.toList,w'.heap[b]?=w.heap[b]?):Own w' base e k v m cs:=by
 refine⟨h.1,?_⟩
 rcases h.2 with h2|⟨g,cap,cur,rfl,hb,hg,r⟩
 ·exact .inl h2
 ·refine .inr ⟨g,cap,cur,rfl,hb,?_,r⟩
  rw[hf g (by simp[Value.ownBlock])];exact hg
class Sz (α:Type) where
 szd:α→Nat
open Go.E.Sz (szd)
instance:Sz ByteArray where szd x:=x.size
def szL {α:Type}[Sz α]:List α→Nat
 | []=>0
 | x::xs=>1+szd x+szL xs
theorem q7f {α:Type}[Sz α]:∀ xs:List α,xs.length≤szL xs
 | []=>by simp[szL]
 | x::xs=>by have:=q7f xs;simp[szL];omega
theorem z7K {α:Type}[Sz α]:∀ xs ys:List α,szL (xs++ys)=szL xs+szL ys
 | [],ys=>by simp[szL]
 | x::xs,ys=>by have:=z7K xs ys;simp[szL];omega
class Mk (α:Type) where
 mrk:α→Int→α
 cnt:α→Nat
 hd:α→Int→Option Int
 law:∀ x k,hd (mrk x k) k=some (k+cnt x)
 cm:∀ x k,cnt (mrk x k)=cnt x
end Go.E
namespace Go.E
open Go.E.Sep (own)
theorem z6P {cur ci:List Value}{O:Nat}(hfit:O+ci.length≤cur.length):(q5l cur O ci).length=cur.length:=by
 unfold q5l;simp;omega
end Go.E
namespace Go.E
open Go
class MkT (α:Type) where
 mrkT:α→Int→α
 cntT:α→Nat
 hdT:α→Int→Option Int
 lawT:∀ x k,hdT (mrkT x k) k=some (k+cntT x)
 cmT:∀ x k,cntT (mrkT x k)=cntT x
section
variable {P:Program}{n:Nat}{Q:Post}{ρ:Env}{w:World}{ops:Array Oper}{o:Oper}{rest:List Oper}{C:World→Prop}{F:Env→Prop}
structure LooseS (n:Nat) (ops:Array Oper) (h:Nat) (D:Nat→List Nat) (Ψ:Nat→(Nat→Prop)→List Value→World→Prop) (S:Nat→Nat→Prop) (ρ0:Env) (w0:World) (listed:Array Bool) (ρ:Env) (w:World):Prop where
 head:HeadInv .any ops h listed
 ext:Ext w0 w
 out:∀ t,(∀ j,j<h→q7U ops j≠some t)→ρ t=ρ0 t
 apart:∀ i j q,i<h→j<h→listed.getD i false=true→listed.getD j false=true→S i q→S j q→i=j
 bound:∀ i q,i<h→listed.getD i false=true→S i q→w0.heap.size≤q∧q<w.heap.size
 known:∀ j,j<h→listed.getD j false=true→Ψ j (S j) ((D j).map ρ) w
section loose
variable {h:Nat}{D:Nat→List Nat}
def z9v (P:Program)(R:Value→World→Prop):Result Next→Prop
 | .ok (.value u) w'=>R u w'
 | .ok .skip w'=>R undef w'
 | .ok (.enter f args) w'=>Calls P f args w' (fun e w''=>∃ v,e=.returned v∧R v w'')
 | _=>False
def OpX (P:Program)(ops:Array Oper)(o:Oper)(ρ:Env)(w:World)(R:Value→World→Prop):Prop:=
 (gate ops ρ o=true∧z9v P R ((execOp (E.ev ρ) o).run P w))∨(gate ops ρ o=false∧R undef w)
theorem OpX.opW {R:Value→World→Prop}(h:OpX P ops o ρ w R):OpW P n ops o ρ w R:=by
 rcases h with ⟨hg,h⟩|⟨hg,h⟩
 ·refine .inl ⟨hg,fun a K Q' ha hok hK=>?_⟩
  unfold Oper.wp
  rw[z3i ha hok]
  generalize (execOp (E.ev ρ) o).run P w=r at h
  cases r with
  | ok x w'=>
   cases x<;>simp only[z9v] at h<;>simp only[Oper.upon]
   case value u=>exact hK _ _ h
   case skip=>exact hK _ _ h
   case enter f args=>exact h.mono fun e w'' ⟨v,he,hr⟩=>by subst he;exact hK _ _ hr
  | halt x w'=>simp only[z9v] at h
 ·exact .inr ⟨hg,h⟩
end loose
end
end Go.E
namespace Go.E
open Go
open Rep (rd)
def Opens (P:Program)(T:TypeId)(α:Type)[Rep α]:Prop:=
 P.cellsOf T=Rep.sz α∧∀ (H:Type) (enc:TypeId×Value→H) (w:World) (base:Nat) (spare:Nat→Bool) (held:Bool) (fuel:Nat) (cs:List Value) (x:DataW H×List MemPlace),
  DataW.trod enc P w base spare held fuel T cs=some x→∃ a:α,rd (fun _=>True) w a cs
section
variable {P:Program}{T e:TypeId}{α:Type}[Rep α]
theorem At.ofCells {w:World}{base b o k:Nat}{cs:List Value}(h:w.cells? base ⟨b,o,none⟩ k=some cs):cs.length=k∧At w b o cs:=by
 obtain⟨_,hl,hat⟩:=World.cells?_some h
 refine⟨hl,fun j v hj=>?_⟩
 have hjk:j<k:=by rw[← hl];exact (List.getElem?_eq_some_iff.1 hj).1
 have:=hat j hjk
 rw[hj] at this
 rw[← this]
 unfold Addr.add
 split
 ·next h0=>subst h0;rfl
 ·rfl
theorem Opens.slice (hc:P.cellsOf T=1)(ht:P.underlying T=some (.slice e))(he:Opens P e α):Opens P T (List α):=by
 refine⟨hc,fun H enc w base spare held fuel cs x h=>?_⟩
 rcases Go.Deep.open_slice ht h with ⟨rfl,_⟩|⟨a,len,cap,m,n,D,Pl,rfl,_,hl,hm,hmm,_,hi⟩
 ·exact⟨[],_,rfl,none,0,[],rfl,Nat.le_refl _,by decide,rfl,.inl rfl⟩
 have hlm:len≤m:=by rw[hmm];split<;>omega
 obtain⟨b,o,sp⟩:=a
 have key:∀ k,k≤len→∃ (xs:List α) (cells:List Value),xs.length=k∧rdL (fun _=>True) w xs cells∧(k=0∨sp=none)∧∀ j v,cells[j]?=some v→w.cell? ⟨b,o+j,none⟩=some v:=by
  intro k
  induction k with
  | zero=>intro _;exact⟨[],[],rfl,rfl,.inl rfl,by simp⟩
  | succ k ih=>
   intro hk
   obtain⟨xs,cells,h1,h2,h3,h4⟩:=ih (by omega)
   obtain⟨cs',hcs,htr⟩:=hi k (by omega)
   obtain⟨y,hy⟩:=he.2 H enc w base spare held n cs' _ htr
   have hlen:=Rep.len hy
   have hp:=Rep.pos (α:=α)
   rw[he.1] at hcs
   have hsp:sp=none:=by
    rcases h3 with rfl|h3
    ·obtain⟨_,hl',hat⟩:=World.cells?_some hcs
     have h0:=hat 0 hp
     rw[List.getElem?_eq_getElem (by omega)] at h0
     simp only[Nat.zero_mul,Addr.add,if_true] at h0
     cases sp with
     | none=>rfl
     | some f=>
      exfalso
      unfold World.cell? at h0
      split at h0
      ·simp at h0
      ·cases h0
    ·exact h3
   subst hsp
   have hadd:Addr.add ⟨b,o,none⟩ (k*Rep.sz α)=⟨b,o+k*Rep.sz α,none⟩:=by
    unfold Addr.add;split
    ·next h0=>rw[h0];rfl
    ·rfl
   rw[hadd] at hcs
   obtain⟨_,hat⟩:=At.ofCells hcs
   have hcl:=h2.len
   refine⟨xs++[y],cells++cs',by simp[h1],rdL.append h2 (rdL.single hy),.inr rfl,fun j v hj=>?_⟩
   ·by_cases hjc:j<cells.length
    ·rw[List.getElem?_append_left hjc] at hj;exact h4 j v hj
    ·rw[List.getElem?_append_right (by omega)] at hj
     have:=hat _ v hj
     rw[← this];congr 2
     rw[hcl,h1]
     have:cells.length=k*Rep.sz α:=by rw[hcl,h1]
     omega
 obtain⟨xs,cells,h1,h2,h3,h4⟩:=key len (Nat.le_refl _)
 subst h1
 refine⟨xs,_,rfl,_,cap,cells,rfl,hl,hm,h2,?_⟩
 rcases h3 with h3|rfl
 ·exact .inl (List.eq_nil_of_length_eq_zero h3)
 ·exact .inr ⟨b,o,rfl,trivial,h4⟩
end
end Go.E
namespace Go.E
open Go
open Rep (rd)
section
variable {α:Type}[DecidableEq α]{xs:List α}{y x:α}{i:Nat}
def ixF (xs:List α)(y:α):Int:=if y∈xs then ((xs.idxOf y:Nat):Int) else -1
end
section
variable {P:Program}{ρ:Env}{o:Oper}{w:World}
theorem q1q {S T:TypeId}{x:Operand}{q:IntKind}{m:Int}{d:TypeDesc}(ho:o.op=.convert S T x)(hS:P.underlying S=some d)(hT:intT P T=some .u64)(hx:E.ev ρ x=.int q m)(h0:0≤m)(h1:m≤9223372036854775807):Ev P ρ o w (.int .u64 m):=by
 obtain⟨n,rfl⟩:=Int.eq_ofNat_of_zero_le h0
 exact q1Q ho hS hT hx (by omega)
theorem q1T {T:TypeId}{k:Int}{q:IntKind}(h0:0≤k)(hk:k<63):Bin P .shl T (.int .i64 1) (.int q k) (.int .i64 ((2 ^ k.toNat:Nat):Int)):=by
 obtain⟨n,rfl⟩:=Int.eq_ofNat_of_zero_le h0
 have h:2 ^ n<2 ^ 63:=Nat.pow_lt_pow_right (by decide) (by omega)
 have:=q2F (P:=P) (T:=T) (x:=1) (k:=n) (q:=q) (by omega) (by omega)
 simpa using this
theorem q1U {T:TypeId}{x k:Int}{q:IntKind}(hx:0≤x)(h0:0≤k)(hk:k<64):Bin P .shr T (.int .i64 x) (.int q k) (.int .i64 ((x.toNat >>> k.toNat:Nat):Int)):=by
 obtain⟨n,rfl⟩:=Int.eq_ofNat_of_zero_le h0
 obtain⟨m,rfl⟩:=Int.eq_ofNat_of_zero_le hx
 exact q2G (by omega)
theorem q1V {T:TypeId}{x y:Int}(hx:0≤x)(hx1:x≤9223372036854775807)(hy:0≤y)(hy1:y≤9223372036854775807):Bin P .and T (.int .i64 x) (.int .i64 y) (.int .i64 ((x.toNat &&& y.toNat:Nat):Int)):=by
 obtain⟨n,rfl⟩:=Int.eq_ofNat_of_zero_le hy
 obtain⟨m,rfl⟩:=Int.eq_ofNat_of_zero_le hx
 exact q2E (by omega) (by omega)
theorem q2H {T:TypeId}{x y:Int}(hx:0≤x)(hx1:x≤9223372036854775807)(hy:0≤y)(hy1:y≤9223372036854775807):Bin P .or T (.int .i64 x) (.int .i64 y) (.int .i64 ((x.toNat ||| y.toNat:Nat):Int)):=by
 obtain⟨n,rfl⟩:=Int.eq_ofNat_of_zero_le hy
 obtain⟨m,rfl⟩:=Int.eq_ofNat_of_zero_le hx
 exact q3m (by omega) (by omega)
end
theorem q0P {P:Program}{ρ:Env}{o:Oper}{w:World}{T e k:TypeId}{x i:Operand}{A:Option Addr}{b off n c:Nat}{q:IntKind}{m:Int}(ho:o.op=.indexAddr T x i)(hT:q7D P T=some e)(hk:szT P e=some k)
  (hx:E.ev ρ x=.slice A n c) (hA:A=some ⟨b,off,none⟩) (hi:E.ev ρ i=.int q m) (h0:0≤m) (hj:m<n):Ev P ρ o w (.pointer (some ⟨b,off+m.toNat*k,none⟩)):=by
 obtain⟨j,rfl⟩:=Int.eq_ofNat_of_zero_le h0
 exact q3n ho hT hk hx hA hi (by omega)
theorem q2I {P:Program}{ρ:Env}{o:Oper}{w:World}{fn:Fn}{f c:Array Operand}{vs us:List Value}(ho:o.op=.makeFunc fn f c)(hf:f.toList.map (E.ev ρ)=vs)(hc:c.toList.map (E.ev ρ)=us):Ev P ρ o w (.func fn vs.toArray us.toArray):=
 q3l ho (by rw[← hf,← Array.toList_map,Array.toArray_toList]) (by rw[← hc,← Array.toList_map,Array.toArray_toList])
end Go.E
namespace Go.E
open Go
open Rep (rd)
open Sep (own)
class Flat (α:Type) [Sep α]:Prop where
 flat:∀ {S:Nat→Prop} {w w' : World} {x:α} {cs:List Value},rd S w x cs→own [] w' x cs
theorem z9w {P:Program}(w:World)(d:Nat){T e:TypeId}(A:Option Addr)(n c:Nat)(h:P.underlying T=some (.slice e)):(Op.equalIn (d+1) T (.slice A n c) (.slice none 0 0)).run P w=.ok A.isNone w:=by
 cases A<;>simp[Op.equalIn,run_underlying h]
theorem q1d {P:Program}{T e:TypeId}{A:Option Addr}{n c:Nat}(hT:q7D P T=some e):Bin P .eql T (.slice A n c) (.slice none 0 0) (.bool (decide (A=none))):=by
 intro x y w
 have h2:(Op.equal T (.slice A n c) (.slice none 0 0)).run P w=.ok A.isNone w:=z9w w 9999 A n c (q6h hT)
 cases A<;>simp[eqGuard,binOp,h2]
end Go.E
