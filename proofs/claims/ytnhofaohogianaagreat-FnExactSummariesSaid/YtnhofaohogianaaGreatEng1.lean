/- A small engine for walks through a Go program: plain lemmas on the model, without conditions of their own. -/
import Derived.Deep.Quiet
import Derived.Still
import Derived.StillTail
import Derived.WalkKit
set_option linter.unusedVariables false
set_option linter.unusedSimpArgs false
set_option linter.ambiguousOpen false
set_option linter.unusedSectionVars false
set_option linter.unnecessarySimpa false
open Nat renaming beq→Aaz,eq_of_beq_eq_true→Abz,le_refl→Acz,zero_add→Adz,zero_le→Aez
open Bool renaming and_eq_true→Afz,or_eq_true→Agz
open Array renaming mem_toList_iff→Ahz,mem_of_getElem?→Aiz,getD_eq_getD_getElem?→Ajz,getElem?_eq_getElem→Akz,replicate→Alz
open List renaming range→Amz,getElem?_take→Anz,filter_cons→Aoz,getElem?_cons_succ→Apz
open Option renaming toList_some→Aqz
namespace Go
theorem bsS {α β:Type _}(a:α)(f:α→Option β):(some a).bind f=f a:=rfl
theorem ifP {c:Prop}{h:Decidable c}(hc:c){α:Sort _}{t e:α}:ite c t e=t:=if_pos hc
theorem ifN {c:Prop}{h:Decidable c}(hc:¬c){α:Sort _}{t e:α}:ite c t e=e:=if_neg hc
theorem tnC (n:Nat):((n:Int)).toNat=n:=Int.toNat_natCast n
theorem lnM {α β:Type _}{as:List α}(f:α→β):(as.map f).length=as.length:=List.length_map f
theorem lnC {α:Type _}{a:α}{as:List α}:(a::as).length=as.length+1:=List.length_cons
abbrev BA_:=ByteArray
end Go
namespace Go.E
open Go
abbrev Env:=Nat→Value
def upd (ρ:Env)(d:Nat)(v:Value):Env:=fun t=>bif Aaz t d then v else ρ t
def put (ρ:Env):Option Nat→Value→Env
 | some d,v=>upd ρ d v
 | none,_=>ρ
def ev (ρ:Env):Operand→Value
 | .tmp t=>ρ t
 | .const v=>v
 | .global g=>.pointer (some ⟨g,0,none⟩)
 | .func f=>.func (.func f) #[] #[]
theorem j2S (ρ:Env)(d:Nat)(v:Value):upd ρ d v d=v:=by simp[upd]
theorem z5a (ρ:Env){d t:Nat}(v:Value)(h:t≠d):upd ρ d v t=ρ t:=by
 have:Aaz t d=false:=by
  cases hb:Aaz t d with
  | false=>rfl
  | true=>exact absurd (Abz hb) h
 simp[upd,this]
structure Rel (n:Nat) (ρ:Env) (a:Act):Prop where
 size:a.tmps.size=n
 defers:a.defers=[]
 at_:∀ t,t<n→a.tmps.getD t undef=ρ t
def z7o (n:Nat):Operand→Bool
 | .tmp t=>Nat.blt t n
 | _=>true
def q8M (n:Nat)(o:Oper):Bool:=
 (match o.dst with|some d=>Nat.blt d n|none=>true)&&o.op.operands.toList.all (z7o n)&&(match o.op with|.select ..=>false|_=>true)
def q9x (n:Nat):Code→Bool
 | .skip=>true
 | .region _ ops _=>ops.toList.all (q8M n)
 | .seq a b=>q9x n a&&q9x n b
 | .cond c a b=>z7o n c&&q9x n a&&q9x n b
 | .block _ c=>q9x n c
 | .loop c=>q9x n c
 | .exit _=>true
 | .ret=>true
 | _=>false
theorem Rel.put {n:Nat}{ρ:Env}{a:Act}(h:Rel n ρ a)(dst:Option Nat)(v:Value):Rel n (E.put ρ dst v) (a.put dst v):=by
 cases dst with
 | none=>exact h
 | some d=>
  refine⟨by simp[Act.put,h.size],h.defers,fun t ht=>?_⟩
  by_cases htd:t=d
  ·subst htd
   have:t<a.tmps.size:=by rw[h.size];exact ht
   simp[Act.put,E.put,j2S,this]
  ·rw[E.put,z5a _ _ htd,← h.at_ t ht]
   simp[Act.put,Array.getElem?_setIfInBounds_ne (Ne.symm htd)]
theorem Rel.eval {n:Nat}{ρ:Env}{a:Act}(h:Rel n ρ a){x:Operand}(hx:z7o n x=true):a.eval x=E.ev ρ x:=by
 cases x with
 | tmp t=>exact h.at_ t (by simpa[z7o] using hx)
 | const v=>rfl
 | global g=>rfl
 | func f=>rfl
abbrev Post:=Exit→Env→World→Prop
@[reducible] def lift (n:Nat) (Q:Post):Exit→Act→World→Prop:=fun e a w=>∃ ρ,Rel n ρ a∧Q e ρ w
def WL (P:Program)(n:Nat)(ops:Array Oper)(Q:Post)(rest:List Oper)(ρ:Env)(w:World):Prop:=
 rest.all (q8M n)=true→∀ a,Rel n ρ a→wpList P ops (lift n Q) rest a w
def CW (P:Program)(n:Nat)(c:Code)(Q:Post)(ρ:Env)(w:World):Prop:=
 q9x n c=true→∀ a,Rel n ρ a→c.wp P (lift n Q) a w
section
variable {P:Program}{n:Nat}{Q:Post}{ρ:Env}{w:World}
@[reducible] def k6j (K:Env→World→Prop) (Q:Post):Post
 | .normal,ρ,w=>K ρ w
 | e,ρ,w=>Q e ρ w
@[reducible] def j0e (id:Nat) (Q:Post):Post
 | .exit id',ρ,w=>if id'=id then Q .normal ρ w else Q (.exit id') ρ w
 | e,ρ,w=>Q e ρ w
theorem CW.mono {c:Code}{Q' : Post}(h:CW P n c Q ρ w)(hq:∀ e ρ w,Q e ρ w→Q' e ρ w):CW P n c Q' ρ w:=
 fun hok a ha=>Code.wp_mono (fun _ _ _ ⟨ρ,hr,q⟩=>⟨ρ,hr,hq _ _ _ q⟩) (h hok a ha)
theorem q0W (h:Q .normal ρ w):CW P n .skip Q ρ w:=fun _ _ ha=>wp_skip ⟨ρ,ha,h⟩
theorem q0X (h:Q .ret ρ w):CW P n .ret Q ρ w:=fun _ _ ha=>wp_ret ⟨ρ,ha,h⟩
theorem q0Y {id:Nat}(h:Q (.exit id) ρ w):CW P n (.exit id) Q ρ w:=fun _ _ ha=>wp_exit ⟨ρ,ha,h⟩
theorem CW.seq {x y:Code}(h:CW P n x (k6j (fun ρ w=>CW P n y Q ρ w) Q) ρ w):CW P n (.seq x y) Q ρ w:=by
 intro hok a ha
 simp only[q9x,Afz] at hok
 refine wp_seq (Code.wp_mono (fun e a w hq=>?_) (h hok.1 a ha))
 obtain⟨ρ',hr,hq⟩:=hq
 cases e with
 | normal=>exact hq hok.2 _ hr
 | _=>exact⟨ρ',hr,hq⟩
theorem CW.block {id:Nat}{c:Code}(h:CW P n c (j0e id Q) ρ w):CW P n (.block id c) Q ρ w:=by
 intro hok a ha
 refine wp_block (Code.wp_mono (fun e a w hq=>?_) (h hok a ha))
 obtain⟨ρ',hr,hq⟩:=hq
 cases e with
 | exit id'=>
  simp only[Exit.inBlock]
  by_cases hid:id'=id
  ·simp only[hid,if_true];exact⟨ρ',hr,by simpa[j0e,hid] using hq⟩
  ·simp only[hid,if_false];exact⟨ρ',hr,by simpa[j0e,hid] using hq⟩
 | _=>exact⟨ρ',hr,hq⟩
theorem q1F {c:Operand}{x y:Code}(hc:E.ev ρ c=.bool true)(h:CW P n x Q ρ w):CW P n (.cond c x y) Q ρ w:=by
 intro hok a ha
 simp only[q9x,Afz] at hok
 exact wp_cond_true ((ha.eval hok.1.1).trans hc) (h hok.1.2 a ha)
theorem q1G {c:Operand}{x y:Code}(hc:E.ev ρ c=.bool false)(h:CW P n y Q ρ w):CW P n (.cond c x y) Q ρ w:=by
 intro hok a ha
 simp only[q9x,Afz] at hok
 exact wp_cond_false ((ha.eval hok.1.1).trans hc) (h hok.2 a ha)
theorem q2o {c:Operand}{x y:Code}{b:Bool}(hc:E.ev ρ c=.bool b)(ht:b=true→CW P n x Q ρ w)(hf:b=false→CW P n y Q ρ w):CW P n (.cond c x y) Q ρ w:=by
 cases b
 ·exact q1G hc (hf rfl)
 ·exact q1F hc (ht rfl)
theorem q0Z {id:Nat}{ops:Array Oper}(h:WL P n ops Q ops.toList ρ w):CW P n (.region id ops false) Q ρ w:=by
 intro hok a ha
 exact wp_region_list (h (by simpa[q9x] using hok) a ha)
def Ev (P:Program)(ρ:Env)(o:Oper)(w:World)(v:Value):Prop:=(execOp (E.ev ρ) o).run P w=.ok (.value v) w
theorem z3G {a:Act}(ha:Rel n ρ a){o:Oper}(ho:q8M n o=true):execOp a.eval o=execOp (E.ev ρ) o:=by
 simp only[q8M,Afz] at ho
 refine execOp_congr o (fun cs b hs=>?_) fun x hx=>ha.eval ?_
 ·simp[hs] at ho
 ·exact List.all_eq_true.1 ho.1.2 x (by simpa using hx)
def gate (ops:Array Oper)(ρ:Env)(o:Oper):Bool:=
 match o.guard with
 | none=>true
 | some (j,want)=>match (ops[j]?).bind (·.dst) with
  | some d=>match ρ d with|.bool b=>b == want|_=>false
  | none=>false
def z4q (n:Nat)(ops:Array Oper):Bool:=ops.toList.all fun o=>match o.dst with|some d=>Nat.blt d n|none=>true
theorem z2b {ops:Array Oper}(hg:z4q n ops=true){a:Act}(ha:Rel n ρ a)(o:Oper):Region.wanted o (yielded ops a.tmps)=gate ops ρ o:=by
 unfold Region.wanted gate yielded
 cases hgd:o.guard with
 | none=>rfl
 | some jw=>
  obtain⟨j,want⟩:=jw
  simp only
  cases hj:ops[j]? with
  | none=>simp
  | some oj=>
   cases hd:oj.dst with
   | none=>simp[hd]
   | some d=>
    have hdn:d<n:=by
     have:=List.all_eq_true.1 hg oj (by rw[Ahz];exact Aiz hj)
     simpa[hd] using this
    have hval:a.tmps[d]?=some (ρ d):=by
     have h1:=ha.at_ d hdn
     have h2:d<a.tmps.size:=by rw[ha.size];exact hdn
     simp only[Ajz,Akz h2,Option.getD_some] at h1
     rw[Akz h2,h1]
    simp only[bsS,hd,hval]
    cases ρ d<;>simp<;>rfl
theorem WL.nil {ops:Array Oper}(h:Q .normal ρ w):WL P n ops Q [] ρ w:=fun _ _ ha=>wpList_nil ⟨ρ,ha,h⟩
theorem WL.step {ops:Array Oper}{o:Oper}{rest:List Oper}(hg:o.guard=none)
  (h:∀ (a:Act) (K:Act→World→Prop),Rel n ρ a→q8M n o=true→(∀ v w',WL P n ops Q rest (E.put ρ o.dst v) w'→K (a.put o.dst v) w')→o.wp P a w K (lift n Q)):WL P n ops Q (o::rest) ρ w:=by
 intro hok a ha
 simp only[List.all_cons,Afz] at hok
 refine wpList_plain hg fun K hK=>h a K ha hok.1 fun v w' hv=>?_
 exact hK _ _ (hv hok.2 _ (ha.put _ _))
theorem WL.ev {ops:Array Oper}{o:Oper}{rest:List Oper}{d:Nat}{v:Value}(hg:o.guard=none)(hd:o.dst=some d)(he:Ev P ρ o w v)(h:WL P n ops Q rest (upd ρ d v) w):WL P n ops Q (o::rest) ρ w:=
 WL.step hg fun a K ha hok hK=>by
  unfold Oper.wp
  rw[z3G ha hok,he]
  exact hK _ _ (by rw[hd];exact h)
end
structure Chg (M:Nat→Prop) (w w' : World):Prop where
 os:w'.os=w.os
 tape:w'.tape=w.tape
 output:w'.output=w.output
 size:w.heap.size≤w'.heap.size
 block:∀ k,k<w.heap.size→¬ M k→w'.heap[k]?=w.heap[k]?
abbrev Ext (w w' : World):Prop:=Chg (fun _=>False) w w'
theorem Chg.refl {M:Nat→Prop}(w:World):Chg M w w:=⟨rfl,rfl,rfl,Acz _,fun _ _ _=>rfl⟩
theorem Ext.refl (w:World):Ext w w:=Chg.refl w
theorem Chg.trans {M:Nat→Prop}{a b c:World}(h:Chg M a b)(k:Chg M b c):Chg M a c:=
 ⟨k.os.trans h.os,k.tape.trans h.tape,k.output.trans h.output,Nat.le_trans h.size k.size,fun i hi hm=>(k.block i (Nat.lt_of_lt_of_le hi h.size) hm).trans (h.block i hi hm)⟩
theorem Chg.mono {M M' : Nat→Prop}{a b:World}(h:Chg M a b)(hm:∀ k,k<a.heap.size→M k→M' k):Chg M' a b:=
 ⟨h.os,h.tape,h.output,h.size,fun i hi hn=>h.block i hi fun hM=>hn (hm i hi hM)⟩
theorem Chg.of_ext {M:Nat→Prop}{a b:World}(h:Ext a b):Chg M a b:=h.mono fun _ _ hf=>hf.elim
theorem Ext.below {a b:World}(h:Ext a b):RowKit.Below a.heap.size a b:=⟨h.os,h.tape,h.output,h.size,fun k hk=>h.block k hk id⟩
theorem Ext.alloc (w:World)(o:Obj):Ext w (w.alloc o):=⟨rfl,rfl,rfl,by simp,fun k hk _=>heap_alloc_old w o hk⟩
theorem Ext.drew (w:World):Ext w w.drew:=⟨rfl,rfl,rfl,Acz _,fun _ _ _=>rfl⟩
theorem Ext.drawn (w:World)(k:Nat):Ext w { w with drawn:=k }:=⟨rfl,rfl,rfl,Acz _,fun _ _ _=>rfl⟩
def Blk (w:World)(b:Nat)(T:TypeId)(cs:List Value):Prop:=w.heap[b]?=some (.cells cs.toArray T (0,0))
theorem Blk.lt {w:World}{b:Nat}{T:TypeId}{cs:List Value}(h:Blk w b T cs):b<w.heap.size:=by
 rcases Nat.lt_or_ge b w.heap.size with hlt|hge
 ·exact hlt
 ·unfold Blk at h;rw[Array.getElem?_eq_none hge] at h;cases h
theorem Blk.chg {M:Nat→Prop}{w w' : World}{b:Nat}{T:TypeId}{cs:List Value}(h:Blk w b T cs)(hc:Chg M w w')(hm:¬ M b):Blk w' b T cs:=(hc.block b h.lt hm).trans h
theorem Blk.ext {w w' : World}{b:Nat}{T:TypeId}{cs:List Value}(h:Blk w b T cs)(hc:Ext w w'):Blk w' b T cs:=h.chg hc id
def At (w:World)(b o:Nat)(cs:List Value):Prop:=∀ j v,cs[j]?=some v→w.cell? ⟨b,o+j,none⟩=some v
theorem At.ofBlk {w:World}{b:Nat}{T:TypeId}{cs:List Value}(h:Blk w b T cs)(o:Nat)(l:List Value)(hl:∀ j v,l[j]?=some v→cs[o+j]?=some v):At w b o l:=by
 intro j v hv
 rw[cell_of_row w b (o+j) _ T (0,0) h]
 simpa using hl j v hv
theorem At.blk {w:World}{b:Nat}{T:TypeId}{cs:List Value}(h:Blk w b T cs):At w b 0 cs:=At.ofBlk h 0 cs fun j v hv=>by simpa using hv
theorem Blk.cell {w:World}{b:Nat}{T:TypeId}{cs:List Value}(h:Blk w b T cs){i:Nat}{v:Value}(hv:cs[i]?=some v):w.cell? ⟨b,i,none⟩=some v:=by
 rw[cell_of_row w b i _ T (0,0) h];simpa using hv
theorem At.sub {w:World}{b o:Nat}{cs:List Value}(h:At w b o cs)(j:Nat)(l:List Value)(hl:∀ i v,l[i]?=some v→cs[j+i]?=some v):At w b (o+j) l:=fun i v hv=>by
 have:=h (j+i) v (hl i v hv)
 rwa[← Nat.add_assoc] at this
def szT (P:Program)(T:TypeId):Option Nat:=(P.info? T).map (·.size)
def byT (P:Program)(T:TypeId):Option Nat:=(P.info? T).map (·.bytes)
def z2M (P:Program)(T:TypeId):Option (List Value):=((P.info? T).bind (·.zero)).map (·.cells.toList)
def aggT (P:Program)(T:TypeId):Option Bool:=(P.underlying T).map fun|.struct _|.array ..=>true|_=>false
def q7i (P:Program)(T:TypeId):Option TypeId:=match P.underlying T with|some (.slice e)=>some e|_=>none
def z7p (P:Program)(T:TypeId)(i:Nat):Option Nat:=match P.underlying T with
 | some (.struct fs)=>(fs[i]?).bind fun f=>match szT P f.type with|some (_+1)=>some f.offset|_=>none
 | _=>none
def intT (P:Program)(T:TypeId):Option IntKind:=match P.underlying T with|some (.int k)=>some k|_=>none
def strT (P:Program)(T:TypeId):Bool:=match P.underlying T with|some .string=>true|_=>false
section
variable {P:Program}{ρ:Env}{w:World}{o:Oper}
theorem q5R {T k:Nat}(h:szT P T=some k):(sizeOf T).run P w=.ok k w:=by
 unfold szT at h
 cases hi:P.info? T with
 | none=>simp[hi] at h
 | some i=>simp[hi] at h;simp[sizeOf,typeInfo,hi,h]
theorem q5T {T e:Nat}(h:q7i P T=some e):P.underlying T=some (.slice e):=by
 unfold q7i at h
 split at h
 ·rename_i e' he;cases h;exact he
 ·cases h
theorem q3c {x:Operand}{v:Value}(ho:o.op=.move x)(hx:E.ev ρ x=v):Ev P ρ o w v:=by
 simp[Ev,execOp,ho,hx]
theorem q2p {x:Operand}{v:Value}(ho:o.op=.assign x)(hx:E.ev ρ x=v):Ev P ρ o w v:=by
 simp[Ev,execOp,ho,hx]
theorem q2q {c x y:Operand}{b:Bool}{v u:Value}(ho:o.op=.pick c x y)(hc:E.ev ρ c=.bool b)(hx:E.ev ρ x=v)(hy:E.ev ρ y=u):Ev P ρ o w (if b then v else u):=by
 simp[Ev,execOp,ho,hc,hx,hy,asBool]
theorem q0H {T:TypeId}{x:Operand}{i k:Nat}{b off:Nat}(ho:o.op=.fieldAddr T x i)(hT:z7p P T i=some k)(hx:E.ev ρ x=.pointer (some ⟨b,off,none⟩)) :
  Ev P ρ o w (.pointer (some ⟨b,off+k,none⟩)):=by
 unfold z7p at hT
 split at hT
 ·rename_i fs hfs
  cases hf:fs[i]? with
  | none=>simp[hf] at hT
  | some f=>
   simp only[hf,bsS] at hT
   split at hT
   ·rename_i m hsz
    cases hT
    have hadd:(⟨b,off,none⟩:Addr).add f.offset=⟨b,off+f.offset,none⟩:=by unfold Addr.add;split<;>simp_all
    simp[Ev,execOp,ho,hx,Instr.fieldAt,run_underlying hfs,hf,Instr.sureAddr,fieldPlace,q5R hsz,hadd]
   ·cases hT
 ·cases hT
theorem Ev.ix {T e k:TypeId}{x i:Operand}{b off n c:Nat}{q:IntKind}{j:Nat}(ho:o.op=.indexAddr T x i)(hT:q7i P T=some e)(hk:szT P e=some k)
  (hx:E.ev ρ x=.slice (some ⟨b,off,none⟩) n c) (hi:E.ev ρ i=.int q (j:Int)) (hj:j<n):Ev P ρ o w (.pointer (some ⟨b,off+j*k,none⟩)):=by
 have hadd:(⟨b,off,none⟩:Addr).add (j*k)=⟨b,off+j*k,none⟩:=by unfold Addr.add;split<;>simp_all
 have h0:¬ n≤j:=by omega
 simp[Ev,execOp,ho,hx,hi,Instr.indexAt,asIntOf,run_underlying (q5T hT),hj,q5R hk,hadd]
theorem z2c {T:TypeId}{b:Bool}(h:aggT P T=some b):(isAgg T).run P w=.ok b w:=by
 unfold aggT at h
 cases hd:P.underlying T with
 | none=>simp[hd] at h
 | some d=>
  simp only[hd,Option.map_some,Option.some.injEq] at h
  subst h
  simp only[isAgg,Sem.run_bind,run_underlying hd,Result.andThen_ok]
  cases d<;>simp
theorem run_loadCellsFrom {b off:Nat}:∀ (cs:List Value) (i:Nat) (acc:Array Value),At w b (off+i) cs→(loadCellsFrom ⟨b,off,none⟩ i cs.length acc).run P w=.ok (acc++cs.toArray) w
 | [],i,acc,_=>by simp[loadCellsFrom]
 | c::cs,i,acc,h=>by
  have hadd:(⟨b,off,none⟩:Addr).add i=⟨b,off+i,none⟩:=by unfold Addr.add;split<;>simp_all
  have hc:w.cell? ⟨b,off+i,none⟩=some c:=h 0 c rfl
  have ih:=run_loadCellsFrom cs (i+1) (acc.push c) (by
   have:=h.sub 1 cs (fun j v hv=>by rw[Nat.add_comm];simpa using hv)
   rwa[Nat.add_assoc] at this)
  simp only[lnC,loadCellsFrom,Sem.run_bind,hadd]
  rw[show (load ⟨b,off+i,none⟩).run P w=.ok c w by simp[load,Sem.run,hc]]
  simp only[Result.andThen_ok,ih]
  simp
theorem q0B {T:TypeId}{x:Operand}{a:Addr}{v:Value}(ho:o.op=.load T x)(hT:aggT P T=some false)(hx:E.ev ρ x=.pointer (some a))(hc:w.cell? a=some v):Ev P ρ o w v:=by
 simp[Ev,execOp,ho,hx,Instr.loadAt,Instr.sureAddr,loadVar,z2c hT,load,Sem.run,hc]
theorem q1a {T:TypeId}{x:Operand}{b off k:Nat}{cs:List Value}(ho:o.op=.load T x)(hT:aggT P T=some true)(hk:szT P T=some k)(hx:E.ev ρ x=.pointer (some ⟨b,off,none⟩))
  (hc:At w b off cs) (hl:cs.length=k):Ev P ρ o w (.agg cs.toArray):=by
 subst hl
 have:=run_loadCellsFrom (P:=P) (w:=w) (b:=b) (off:=off) cs 0 #[] hc
 simp[Ev,execOp,ho,hx,Instr.loadAt,Instr.sureAddr,loadVar,z2c hT,q5R hk,loadCells,this]
theorem q0I {T e:TypeId}{x:Operand}{A:Option Addr}{n c:Nat}(ho:o.op=.call { callee:=.builtin .len,args:=#[x],argTypes:=#[T] })(hT:q7i P T=some e)(hx:E.ev ρ x=.slice A n c):Ev P ρ o w (.int .i64 n):=by
 simp[Ev,execOp,ho,hx,resolve,invoke,builtin,Builtin.len_,run_underlying (q5T hT),goInt]
theorem q2r {T:TypeId}{x:Operand}{s:BA_}(ho:o.op=.call { callee:=.builtin .len,args:=#[x],argTypes:=#[T] })(hT:P.underlying T=some .string)(hx:E.ev ρ x=.string s):Ev P ρ o w (.int .i64 s.size):=by
 simp[Ev,execOp,ho,hx,resolve,invoke,builtin,Builtin.len_,run_underlying hT,goInt]
theorem q3d {T:TypeId}{x:Operand}{b:Bool}(ho:o.op=.unOp .not T x)(hx:E.ev ρ x=.bool b):Ev P ρ o w (.bool (!b)):=by
 simp[Ev,execOp,ho,hx,Op.unary]
theorem q3e {fn:Fn}{f c:Array Operand}{vs us:Array Value}(ho:o.op=.makeFunc fn f c)(hf:f.map (E.ev ρ)=vs)(hc:c.map (E.ev ρ)=us):Ev P ρ o w (.func fn vs us):=by
 simp[Ev,execOp,ho,hf,hc,Instr.makeFunc]
def Bin (P:Program)(op:BinOp)(T:TypeId)(u v r:Value):Prop:=∀ (x y:Operand) (w:World),((do eqGuard op T x y u v;binOp op T u v):Sem Value).run P w=.ok r w
theorem q1b {op:BinOp}{T U:TypeId}{x y:Operand}{u v r:Value}(ho:o.op=.binOp op T x y U)(hx:E.ev ρ x=u)(hy:E.ev ρ y=v)(h:Bin P op T u v r):Ev P ρ o w r:=by
 simp only[Ev,execOp,ho,hx,hy,Sem.run_bind]
 have:=h x y w
 simp only[Sem.run_bind] at this
 rw[this]
 simp
theorem q6s {op:BinOp}{T:TypeId}{x y:Operand}{k k' : IntKind}{a b:Int}:eqGuard op T x y (.int k a) (.int k' b)=pure ():=by
 cases op<;>simp[eqGuard]<;>rfl
theorem Bin.add {T:TypeId}{a b:Int}(h:-9223372036854775808≤a+b∧a+b≤9223372036854775807):Bin P .add T (.int .i64 a) (.int .i64 b) (.int .i64 (a+b)):=fun x y w=>by
 simp[q6s,binOp,Op.intArith,IntWalk.i64_in _ h]
theorem Bin.sub {T:TypeId}{a b:Int}(h:-9223372036854775808≤a-b∧a-b≤9223372036854775807):Bin P .sub T (.int .i64 a) (.int .i64 b) (.int .i64 (a-b)):=fun x y w=>by
 simp[q6s,binOp,Op.intArith,IntWalk.i64_in _ h]
theorem q2s {T:TypeId}{k:IntKind}{a b:Int}:Bin P .lss T (.int k a) (.int k b) (.bool (decide (a<b))):=fun x y w=>by simp[q6s,binOp,Op.intCmp]
theorem q2t {T:TypeId}{k:IntKind}{a b:Int}:Bin P .leq T (.int k a) (.int k b) (.bool (decide (a≤b))):=fun x y w=>by simp[q6s,binOp,Op.intCmp]
theorem q2u {T:TypeId}{k:IntKind}{a b:Int}:Bin P .gtr T (.int k a) (.int k b) (.bool (decide (b<a))):=fun x y w=>by simp[q6s,binOp,Op.intCmp]
theorem q2v {T:TypeId}{k:IntKind}{a b:Int}:Bin P .geq T (.int k a) (.int k b) (.bool (decide (b≤a))):=fun x y w=>by simp[q6s,binOp,Op.intCmp]
theorem q2w {T:TypeId}{k:IntKind}{a b:Int}:Bin P .eql T (.int k a) (.int k b) (.bool (decide (a=b))):=fun x y w=>by simp[q6s,binOp,Op.intCmp];rfl
theorem q2x {T:TypeId}{k:IntKind}{a b:Int}:Bin P .neq T (.int k a) (.int k b) (.bool (!decide (a=b))):=fun x y w=>by simp[q6s,binOp,Op.intCmp];rfl
theorem beqS (s t:BA_):(s.toList == t.toList)=decide (s=t):=by
 rw[ByteArray.toList_eq,ByteArray.toList_eq]
 obtain⟨⟨x⟩⟩:=s
 obtain⟨⟨y⟩⟩:=t
 by_cases h:x=y
 ·subst h;simp
 ·simp[h]
theorem z2d {op:BinOp}{T:TypeId}{x y:Operand}{a b:BA_}:eqGuard op T x y (.string a) (.string b)=pure ():=by
 cases op<;>simp[eqGuard]<;>rfl
theorem q1H {T:TypeId}{a b:BA_}:Bin P .eql T (.string a) (.string b) (.bool (decide (a=b))):=fun x y w=>by simp[z2d,binOp,Op.stringOp,beqS]
theorem q1I {T:TypeId}{a b:BA_}:Bin P .neq T (.string a) (.string b) (.bool (!decide (a=b))):=fun x y w=>by simp[z2d,binOp,Op.stringOp,beqS]
theorem q1J {T:TypeId}{a b:BA_}(h:a.size+b.size≤9223372036854775807):Bin P .add T (.string a) (.string b) (.string (a++b)):=fun x y w=>by
 simp[z2d,binOp,Op.stringOp]
 omega
end
theorem At.lt {w:World}{b o:Nat}{cs:List Value}(h:At w b o cs){j:Nat}{v:Value}(hv:cs[j]?=some v):b<w.heap.size:=
 World.block_lt_of_cell? w _ (h j v hv)
theorem At.frame' {w w' : World}{b o:Nat}{cs:List Value}(h:At w b o cs)(hb:b<w.heap.size→w'.heap[b]?=w.heap[b]?):At w' b o cs:=fun j v hv=>by
 rw[World.cell?_of_block (w:=w) (hb (h.lt hv))];exact h j v hv
class Rep (α:Type) where
 sz:Nat
 pos:0<sz
 rd:(Nat→Prop)→World→α→List Value→Prop
 len:∀ {S w x cs},rd S w x cs→cs.length=sz
 one:∀ {S w x cs},rd S w x cs→∀ v∈cs,v.oneCell'=true
 mono:∀ {S S' w x cs},rd S w x cs→(∀ b,S b→S' b)→rd S' w x cs
 frame:∀ {S w w' x cs},rd S w x cs→(∀ b,S b→b<w.heap.size→w'.heap[b]?=w.heap[b]?)→rd S w' x cs
 bound:∀ {S w x cs},rd S w x cs→rd (fun b=>S b∧b<w.heap.size) w x cs
open Rep (rd)
def rdL {α:Type}[Rep α](S:Nat→Prop)(w:World):List α→List Value→Prop
 | [],cs=>cs=[]
 | x::xs,cs=>∃ c r,cs=c++r∧rd S w x c∧rdL S w xs r
def rdS {α:Type}[Rep α](S:Nat→Prop)(w:World)(xs:List α)(v:Value):Prop:=
 ∃ A cap cells,v=.slice A xs.length cap∧xs.length≤cap∧cap≤maxLen∧rdL S w xs cells∧(xs=[]∨∃ b o,A=some ⟨b,o,none⟩∧S b∧At w b o cells)
end Go.E
namespace Go.E
open Go
open Rep (rd)
section
variable {P:Program}{n:Nat}{Q:Post}{ρ:Env}{w:World}{ops:Array Oper}{o:Oper}{rest:List Oper}
theorem q9y (w:World)(T:TypeId)(cs:List Value):Blk (w.alloc (.cells cs.toArray T)) w.heap.size T cs:=heap_alloc_new w _
theorem z1U (T:TypeId)(cs:List Value):(newRow T cs.toArray).run P w=.ok ⟨w.heap.size,0,none⟩ (w.alloc (.cells cs.toArray T)):=by
 rfl
theorem q9z {T:TypeId}{cs:List Value}(h:z2M P T=some cs):∃ z,(zeroValue T).run P w=.ok z w∧z.cells=cs.toArray:=by
 unfold z2M at h
 cases hi:P.info? T with
 | none=>simp[hi] at h
 | some i=>
  cases hz:i.zero with
  | none=>simp[hi,hz] at h
  | some z=>
   simp[hi,hz] at h
   exact⟨z,by simp[zeroValue,typeInfo,hi,hz],by rw[← h]⟩
def q4X (cs:List Value)(off:Nat)(l:List Value):List Value:=cs.take off++l++cs.drop (off+l.length)
theorem z8t (w:World)(b:Nat)(cs:Array Value):Chg (· = b) w (w.setRow b cs):=
 ⟨rfl,rfl,rfl,by simp[World.setRow],fun k _ hk=>by simp only[World.setRow,Array.getElem?_modify];rw[ifN (fun e=>hk e.symm)]⟩
theorem z9h {T:TypeId}{b off k:Nat}{TB:TypeId}{v:Value}{cs l:List Value}(hk:szT P T=some k)(hv:v.cells=l.toArray)(hl:l.length=k)(h1:∀ u∈l,u.oneCell'=true)
  (hb:Blk w b TB cs) (hfit:off+k≤cs.length):∃ w',(storeVar T ⟨b,off,none⟩ v).run P w=.ok () w'∧Chg (· = b) w w'∧Blk w' b TB (q4X cs off l):=by
 subst hl
 have hs:=run_storeCells_at P b off TB l 0 cs.toArray w hb (by simpa using hfit) h1
 refine⟨_,?_,z8t w b _,setRow_heap w b _ _ TB _ hb⟩
 simp only[storeVar,hv,Sem.run_bind,q5R hk,Result.andThen_ok,List.size_toArray,ne_eq,not_true_eq_false,if_false]
 simpa[q4X,Sem.run_bind] using hs
def q9d (P:Program)(f:FuncId):Bool:=match P.funcs[f]? with|some fn=>fn.name != "runtime.NumGoroutine" && fn.body.isSome|none=>false
def Ret (P:Program)(f:FuncId)(args:Array Value)(w:World)(M:Nat→Prop)(R:Value→World→Prop):Prop:=
 Calls P f args w fun e w'=>∃ v,e=.returned v∧Chg M w w'∧R v w'
theorem j4n {f:FuncId}(hf:q9d P f=true)(args:Array Value):(callFunc f args).run P w=.ok (.enter f args) w:=by
 unfold q9d at hf
 cases h:P.funcs[f]? with
 | none=>simp[h] at hf
 | some fn=>
  simp only[h,Afz] at hf
  have h1:¬ fn.name = "runtime.NumGoroutine" := by simpa using hf.1
  have h2:¬ fn.body=none:=by intro hb;simp[hb] at hf
  simp[callFunc,h,h1,h2,run_program]
theorem j2T {c:Call}{f:FuncId}{x:Operand}{caps:Array Value}{args:List Value}{T:TypeId}(hx:c.callee=.value x)(hf:E.ev ρ x=.func (.func f) #[] caps)(hc:q9d P f=true)(ha:c.args.toList.map (E.ev ρ)++caps.toList=args) :
  ((do let d ← resolve (E.ev ρ) c T;invoke d.target d.args):Sem Next).run P w=.ok (.enter f args.toArray) w:=by
 have ha' : c.args.map (E.ev ρ)++caps=args.toArray:=by
  subst ha;apply Array.ext';simp
 simp only[resolve,hx,Deferred.ofValue,hf,Sem.run_bind,Sem.run_pure,Result.andThen_ok,invoke,Array.empty_append,ha']
 exact j4n hc _
theorem q2y {c:Call}{f:FuncId}{x:Operand}{caps:Array Value}{args:List Value}{M:Nat→Prop}{R:Value→World→Prop}{d:Nat}(hg:o.guard=none)(hd:o.dst=some d)(ho:o.op=.call c)(hx:c.callee=.value x)(hf:E.ev ρ x=.func (.func f) #[] caps)
  (hc:q9d P f=true) (ha:c.args.toList.map (E.ev ρ)++caps.toList=args) (hr:Ret P f args.toArray w M R)
  (h:∀ v w',Chg M w w'→R v w'→WL P n ops Q rest (upd ρ d v) w'):WL P n ops Q (o::rest) ρ w:=
 WL.step hg fun a K hrel hok hK=>by
  unfold Oper.wp
  rw[z3G hrel hok]
  simp only[execOp,ho]
  rw[j2T hx hf hc ha]
  exact Calls.mono hr fun e w' ⟨v,he,hch,hv⟩=>by subst he;exact hK _ _ (by rw[hd];exact h v w' hch hv)
def k4w (args:Array Value):Env:=fun t=>args.getD t undef
@[reducible] def endE (P:Program) (fn:Func) (R:Value→World→Prop):Post
 | .normal,ρ,w|.ret,ρ,w=>∃ v,(∀ a:Act,Rel fn.ntmps ρ a→(results fn a.tmps).run P w=.ok v w)∧R v w
 | _,_,_=>False
theorem enter {f:FuncId}{fn:Func}{c:Code}{args:Array Value}{M:Nat→Prop}{R:Value→World→Prop}(hf:P.funcs[f]?=some fn)(hb:fn.body=some c)(hok:q9x fn.ntmps c=true)(hs:Nat.ble args.size fn.ntmps=true)
  (h:CW P fn.ntmps c (endE P fn fun v w'=>Chg M w w'∧R v w') (k4w args) w):Ret P f args w M R:=by
 have hs' : args.size≤fn.ntmps:=by simpa using hs
 have hrel:Rel fn.ntmps (k4w args) { tmps:=args++Alz (fn.ntmps-args.size) undef,defers:=[] }:=by
  refine⟨by simp;omega,rfl,fun t ht=>?_⟩
  simp only[k4w,Ajz,Array.getElem?_append]
  by_cases hta:t<args.size
  ·simp[hta]
  ·simp[hta,Array.getElem?_replicate]
   split<;>rfl
 refine calls_of_wp hf hb (Code.wp_mono (fun e a w' hq=>?_) (h hok _ hrel))
 obtain⟨ρ',hr,hq⟩:=hq
 cases e with
 | normal=>obtain⟨v,h1,h2⟩:=hq;exact⟨hr.defers,v,h1 a hr,v,rfl,h2.1,h2.2⟩
 | ret=>obtain⟨v,h1,h2⟩:=hq;exact⟨hr.defers,v,h1 a hr,v,rfl,h2.1,h2.2⟩
 | exit id=>exact hq.elim
 | goto l=>exact hq.elim
 | panic c=>exact hq.elim
 | outgrown=>exact hq.elim
end
section
variable {P:Program}{n:Nat}{Q:Post}{ρ:Env}{w:World}{ops:Array Oper}{o:Oper}{rest:List Oper}{C:World→Prop}{F:Env→Prop}{R:World→World→Prop}
def OpQ (P:Program)(ops:Array Oper)(C:World→Prop)(o:Oper)(ρ:Env)(w:World)(v:Value):Prop:=
 (gate ops ρ o=true∧Oper.quietUpon P C w v ((execOp (E.ev ρ) o).run P w))∨(gate ops ρ o=false∧v=undef)
def QC (R:World→World→Prop)(P:Program)(n:Nat)(ops:Array Oper)(C:World→Prop)(F:Env→Prop):List Oper→Env→Prop
 | [],ρ=>F ρ
 | o::rest,ρ=>∃ v,(∀ w,C w→OpQ P ops (R w) o ρ w v)∧QC R P n ops C F rest (E.put ρ o.dst v)
theorem QC.nil (h:F ρ):QC R P n ops C F [] ρ:=h
theorem QC.ev {v:Value}{d:Nat}(hg:o.guard=none)(hd:o.dst=some d)(he:∀ w,C w→Ev P ρ o w v)(h:QC R P n ops C F rest (upd ρ d v)):QC R P n ops C F (o::rest) ρ:=
 ⟨v,fun w hw=>.inl ⟨by simp[gate,hg],by rw[he w hw];exact⟨rfl,rfl⟩⟩,by rw[hd];exact h⟩
theorem q1c {c:Call}{f:FuncId}{x:Operand}{caps:Array Value}{args:List Value}{v:Value}{d:Nat}(hg:o.guard=none)(hd:o.dst=some d)(ho:o.op=.call c)(hx:c.callee=.value x)(hf:E.ev ρ x=.func (.func f) #[] caps)
  (hc:q9d P f=true) (ha:c.args.toList.map (E.ev ρ)++caps.toList=args) (hr:∀ w,C w→Ret P f args.toArray w (fun _=>False) fun u w'=>u=v∧R w w')
  (h:QC R P n ops C F rest (upd ρ d v)):QC R P n ops C F (o::rest) ρ:=by
 refine⟨v,fun w hw=>.inl ⟨by simp[gate,hg],?_⟩,by rw[hd];exact h⟩
 simp only[execOp,ho]
 rw[j2T hx hf hc ha]
 exact⟨rfl,Calls.mono (hr w hw) fun _ _ ⟨_,he,_,hv,hch⟩=>⟨by rw[he,hv],hch⟩⟩
def OpW (P:Program)(n:Nat)(ops:Array Oper)(o:Oper)(ρ:Env)(w:World)(R:Value→World→Prop):Prop:=
 (gate ops ρ o=true∧∀ (a:Act) (K:Act→World→Prop) (Q:Exit→Act→World→Prop),Rel n ρ a→q8M n o=true→(∀ v w',R v w'→K (a.put o.dst v) w')→o.wp P a w K Q)∨(gate ops ρ o=false∧R undef w)
def q5K (o:Oper):List Nat:=(o.after.toList.filter (Region.binds .any)).map (·.on)
def q6Q (ops:Array Oper)(j:Nat):Option Nat:=(ops[j]?).bind (·.dst)
def z2Q (ops:Array Oper)(h:Nat)(D:Nat→List Nat):Bool:=
 Nat.ble h ops.size &&
 (Amz ops.size).all (fun j=>match ops[j]? with
  | some o=>(q5K o).all (fun d=>Nat.blt d j) &&
    (Amz ops.size).all (fun i=>match q6Q ops i with
     | some t=>Aaz i j||((!(D j).contains t||(q5K o).contains i)&&(match o.dst with|some d=>!(Aaz d t)|none=>true))
     | none=>true)
  | none=>false) &&
 (Aaz h ops.size||(Region.sinkB .any ops h&&Region.chainB .any ops h)) &&
 Region.seqB .any ops (ops.size-h) h (Alz h true++Alz (ops.size-h) false)
def stepsC (R:World→World→Prop)(P:Program)(n:Nat)(ops:Array Oper)(h:Nat)(D:Nat→List Nat)(Ψ:Nat→List Value→World→Prop)(ρ:Env)(w:World):Nat→List Oper→Prop
 | _,[]=>True
 | i,o::l=>(∀ ρ' w',R w w'→(∀ t,(∀ j,j<h→q6Q ops j≠some t)→ρ' t=ρ t)→(∀ j,(q5K o).contains j=true→Ψ j ((D j).map ρ') w') →
   OpW P n ops o ρ' w' (fun v w''=>R w' w''∧Ψ i ((D i).map (E.put ρ' o.dst v)) w''))∧stepsC R P n ops h D Ψ ρ w (i+1) l
theorem stepsC.get {h:Nat}{D:Nat→List Nat}{Ψ:Nat→List Value→World→Prop}:∀ (l:List Oper) (k i:Nat) (o:Oper),stepsC R P n ops h D Ψ ρ w k l→l[i]?=some o →
  (∀ ρ' w',R w w'→(∀ t,(∀ j,j<h→q6Q ops j≠some t)→ρ' t=ρ t)→(∀ j,(q5K o).contains j=true→Ψ j ((D j).map ρ') w') →
   OpW P n ops o ρ' w' (fun v w''=>R w' w''∧Ψ (k+i) ((D (k+i)).map (E.put ρ' o.dst v)) w''))
 | [],_,_,_,_,hh=>by simp at hh
 | x::l,k,0,o,hs,hh=>by simp at hh;subst hh;exact hs.1
 | x::l,k,i+1,o,hs,hh=>by
  have:=stepsC.get l (k+1) i o hs.2 (by simpa using hh)
  rwa[Nat.add_right_comm] at this
structure InvC (R:World→World→Prop) (n:Nat) (ops:Array Oper) (h:Nat) (D:Nat→List Nat) (Ψ:Nat→List Value→World→Prop) (ρ0:Env) (w0:World) (listed:Array Bool) (ρ:Env) (w:World):Prop where
 head:HeadInv .any ops h listed
 ext:R w0 w
 out:∀ t,(∀ j,j<h→q6Q ops j≠some t)→ρ t=ρ0 t
 known:∀ j,j<h→listed.getD j false=true→Ψ j ((D j).map ρ) w
theorem j2U {ρ:Env}{dst:Option Nat}{v:Value}{l:List Nat}(h:∀ t,dst=some t→t∉l):l.map (E.put ρ dst v)=l.map ρ:=by
 cases dst with
 | none=>rfl
 | some d=>
  refine List.map_congr_left fun t ht=>?_
  exact z5a ρ v (fun e=>h d rfl (e▸ht))
theorem q7p {o:Oper}{d:Nat}:d∈q5K o↔∃ e∈o.after,Region.binds .any e=true∧e.on=d:=by
 simp only[q5K,List.mem_map,List.mem_filter]
 exact⟨fun ⟨e,⟨h1,h2⟩,h3⟩=>⟨e,by simpa using h1,h2,h3⟩,fun ⟨e,h1,h2,h3⟩=>⟨e,⟨by simpa using h1,h2⟩,h3⟩⟩
section loose
variable {h:Nat}{D:Nat→List Nat}
theorem q8e (hB:z2Q ops h D=true){j:Nat}{o:Oper}(hj:ops[j]?=some o):∀ d∈q5K o,d<j:=by
 simp only[z2Q,Afz] at hB
 have hjs:j<ops.size:=(Array.getElem?_eq_some_iff.1 hj).1
 have h1:=List.all_eq_true.1 hB.1.1.2 j (List.mem_range.2 hjs)
 simp only[hj,Afz] at h1
 intro d hd
 simpa using List.all_eq_true.1 h1.1 d hd
theorem z2R (hB:z2Q ops h D=true){i j:Nat}{o:Oper}(hj:ops[j]?=some o){t:Nat}(hi:q6Q ops i=some t)(hij:i≠j):(t∈D j→i∈q5K o)∧o.dst≠some t:=by
 simp only[z2Q,Afz] at hB
 have hjs:j<ops.size:=(Array.getElem?_eq_some_iff.1 hj).1
 have his:i<ops.size:=by
  unfold q6Q at hi
  cases ho:ops[i]? with
  | none=>simp[ho] at hi
  | some oi=>exact (Array.getElem?_eq_some_iff.1 ho).1
 have h1:=List.all_eq_true.1 hB.1.1.2 j (List.mem_range.2 hjs)
 simp only[hj,Afz] at h1
 have h2:=List.all_eq_true.1 h1.2 i (List.mem_range.2 his)
 simp only[hi,Agz,Afz] at h2
 rcases h2 with h2|⟨h2,h3⟩
 ·exact absurd (Abz h2) hij
 ·refine⟨fun ht=>?_,fun he=>?_⟩
  ·rcases h2 with h2|h2
   ·simp[ht] at h2
   ·simpa using h2
  ·simp[he] at h3
theorem z0t (hB:z2Q ops h D=true){listed:Array Bool}(hs:listed.size=ops.size):∀ (k j:Nat),j≤k→j<ops.size→listed.getD j true=false→∃ i,i∈Region.ready .any ops listed∧i≤j:=by
 intro k
 induction k with
 | zero=>
  intro j hk hj hl
  obtain rfl:j=0:=by omega
  refine⟨0,mem_ready.2 ⟨hl,ops[0],by simp[hj],fun e he hb=>?_⟩,Acz _⟩
  have:=q8e hB (Akz hj) e.on (q7p.2 ⟨e,he,hb,rfl⟩)
  omega
 | succ k ih=>
  intro j hk hj hl
  by_cases hall:∀ d∈q5K ops[j],listed.getD d true=true
  ·refine⟨j,mem_ready.2 ⟨hl,ops[j],by simp[hj],fun e he hb=>?_⟩,Acz _⟩
   have hd:=q8e hB (Akz hj) e.on (q7p.2 ⟨e,he,hb,rfl⟩)
   have h1:=hall e.on (q7p.2 ⟨e,he,hb,rfl⟩)
   have hlt:e.on<listed.size:=by rw[hs];omega
   simp[hlt] at h1 ⊢
   exact h1
  ·have:∃ d∈q5K ops[j],listed.getD d true=false:=by
    refine Classical.byContradiction fun hn=>hall fun d hd=>?_
    cases hv:listed.getD d true with
    | true=>rfl
    | false=>exact absurd ⟨d,hd,hv⟩ hn
   obtain⟨d,hd,hv⟩:=this
   have hdj:=q8e hB (Akz hj) d hd
   obtain⟨i,hi,hle⟩:=ih d (by omega) (by omega) hv
   exact⟨i,hi,by omega⟩
def k6k (ops:Array Oper)(h:Nat):Bool:=
 (Amz h).all fun i=>match ops[i]? with
  | some o=>(o.looksAt ops).all fun t=>(Amz h).all fun j=>match q6Q ops j with
    | some d=>!(Aaz d t)||(q5K o).contains j
    | none=>true
  | none=>true
def ownD (ops:Array Oper)(j:Nat):List Nat:=(q6Q ops j).toList
theorem j8s {o:Oper}{ρ ρ' : Env}(h:∀ t∈o.looksAt ops,ρ' t=ρ t):gate ops ρ' o=gate ops ρ o:=by
 unfold gate
 cases hg:o.guard with
 | none=>rfl
 | some jw=>
  obtain⟨j,want⟩:=jw
  simp only
  cases hd:(ops[j]?).bind (·.dst) with
  | none=>rfl
  | some d=>
   simp only
   rw[h d (by simp[Oper.looksAt,hg,hd])]
theorem j8t {o:Oper}{ρ ρ' : Env}(hs:q8M n o=true)(h:∀ t∈o.looksAt ops,ρ' t=ρ t):execOp (E.ev ρ') o=execOp (E.ev ρ) o:=by
 refine execOp_congr o (fun cs b hsel=>?_) fun x hx=>?_
 ·simp[q8M,hsel] at hs
 ·cases x with
  | tmp t=>exact h t (by simp only[Oper.looksAt,List.mem_append,List.mem_filterMap];exact .inl ⟨.tmp t,by simpa using hx,rfl⟩)
  | const v=>rfl
  | global g=>rfl
  | func f=>rfl
theorem OpQ.congr {o:Oper}{ρ ρ' : Env}{v:Value}(hs:q8M n o=true)(h:∀ t∈o.looksAt ops,ρ' t=ρ t)(hq:OpQ P ops C o ρ w v):OpQ P ops C o ρ' w v:=by
 unfold OpQ at *
 rw[j8s h,j8t hs h]
 exact hq
theorem q1d {id:Nat}(h:Nat)(D:Nat→List Nat)(Ψ:Nat→List Value→World→Prop)(hm:P.follows .mixedOrders=true)(hB:z2Q ops h D=true)
  (htrans:∀ {a b c},R a b→R b c→R a c) (hdraw:∀ w,R w { w with drawn:=w.drawn+1 })
  (hext:∀ i vs w w',Ψ i vs w→R w w'→Ψ i vs w')
  (hstep:stepsC R P n ops h D Ψ ρ w 0 (ops.toList.take h))
  (hend:∀ ρ' w',R w w'→(∀ t,(∀ j,j<h→q6Q ops j≠some t)→ρ' t=ρ t)→(∀ j,j<h→Ψ j ((D j).map ρ') w')→WL P n ops Q (ops.toList.drop h) ρ' w'):CW P n (.region id ops true) Q ρ w:=by
 intro hok a ha
 have hok' : ops.toList.all (q8M n)=true:=by simpa[q9x] using hok
 refine wp_region_any hm ?_
 have hB':=hB
 simp only[z2Q,Afz] at hB'
 have hle:h≤ops.size:=by simpa using hB'.1.1.1
 have hseq:=hB'.2
 -- when the head is through
 have done:∀ (listed:Array Bool) (ρ' : Env) (a:Act) (w' : World),InvC R n ops h D Ψ ρ w listed ρ' w'→Rel n ρ' a→(∀ j,j<h→listed.getD j false=true)→wpAny P .any ops (lift n Q) (ops.size-h) listed a w':=by
  intro listed ρ' a w' inv hr hall
  have hlisted:listed=Alz h true++Alz (ops.size-h) false:=by
   apply Array.ext
   ·simp[inv.head.size];omega
   ·intro i h1 h2
    by_cases hi:i<h
    ·have:=hall i hi
     simp[h1] at this
     rw[this,Array.getElem_append_left (by simpa using hi)]
     simp
    ·have:=inv.head.tail i (by omega) (by rw[← inv.head.size];exact h1)
     simp[h1] at this
     rw[this,Array.getElem_append_right (by simpa using Nat.le_of_not_lt hi)]
     simp
  subst hlisted
  have hw:=hend ρ' w' inv.ext inv.out (fun j hj=>inv.known j hj (hall j hj)) (by
   refine List.all_eq_true.2 fun o ho=>List.all_eq_true.1 hok' o (List.mem_of_mem_drop ho)) a hr
  have hlen:(ops.toList.drop h).length=ops.size-h:=by simp
  have:=wpAny_of_seq (P:=P) (md:=.any) (ops:=ops) (Q':=lift n Q) (ops.toList.drop h) h (Alz h true++Alz (ops.size-h) false) a w'
   (fun j=>by simp[List.getElem?_drop]) (by rw[hlen];exact hseq) hw
  rwa[hlen] at this
 have main:∀ (c:Nat) (listed:Array Bool) (ρ' : Env) (a:Act) (w' : World),((Amz h).filter (fun j=>!listed.getD j false)).length=c→InvC R n ops h D Ψ ρ w listed ρ' w'→Rel n ρ' a →
   wpAny P .any ops (lift n Q) (c+(ops.size-h)) listed a w':=by
  intro c
  induction c with
  | zero=>
   intro listed ρ' a w' hc inv hr
   rw[Adz]
   refine done listed ρ' a w' inv hr fun j hj=>?_
   have h0:(Amz h).filter (fun j=>!listed.getD j false)=[]:=List.eq_nil_of_length_eq_zero hc
   have:=List.filter_eq_nil_iff.1 h0 j (List.mem_range.2 hj)
   simpa using this
  | succ c ih=>
   intro listed ρ' a w' hc inv hr
   have hex:∃ j,j<h∧listed.getD j true=false:=by
    have:((Amz h).filter (fun j=>!listed.getD j false))≠[]:=fun e=>by rw[e] at hc;simp at hc
    obtain⟨j,hj⟩:=List.exists_mem_of_ne_nil _ this
    rw[List.mem_filter,List.mem_range] at hj
    exact⟨j,hj.1,getD_in (by rw[inv.head.size];omega) (by simpa using hj.2)⟩
   obtain⟨j0,hj0,hl0⟩:=hex
   obtain⟨i0,hi0,_⟩:=z0t hB inv.head.size j0 j0 (Acz _) (by omega) hl0
   rw[show c+1+(ops.size-h)=(c+(ops.size-h))+1 by omega]
   refine⟨fun h0=>(by rw[h0] at hi0;cases hi0),fun i hi=>?_⟩
   have hih:i<h:=by
    rcases Nat.lt_or_ge i h with hlt|hge
    ·exact hlt
    ·exfalso
     obtain⟨_,oi,hoi,_⟩:=mem_ready.1 hi
     have hlt:i<ops.size:=(Array.getElem?_eq_some_iff.1 hoi).1
     have hsc:Region.sinkB .any ops h=true∧Region.chainB .any ops h=true:=by
      have h3:=hB'.1.2
      simp only[Agz,Afz] at h3
      rcases h3 with h3|h3
      ·have:=Abz h3;omega
      ·exact h3
     exact tail_waits hsc.1 hsc.2 (by omega) inv.head _ j0 rfl hj0 hl0 i hge hi
   obtain⟨hun,o,ho,hall⟩:=mem_ready.1 hi
   have hmem:o∈ops.toList:=by rw[Ahz];exact Aiz ho
   have hoko:q8M n o=true:=List.all_eq_true.1 hok' o hmem
   have hguards:z4q n ops=true:=by
    refine List.all_eq_true.2 fun o' ho'=>?_
    have:=List.all_eq_true.1 hok' o' ho'
    simp only[q8M,Afz] at this
    exact this.1.1
   have hst:=stepsC.get (ops.toList.take h) 0 i o hstep (by rw[Anz,ifP hih];simpa using ho) ρ' w' inv.ext inv.out (fun j hj=>by
    have hjd:j∈q5K o:=by simpa using hj
    obtain⟨e,he,hb,rfl⟩:=q7p.1 hjd
    have:=q8e hB ho _ hjd
    exact inv.known _ (by omega) (hall e he hb))
   rw[Adz] at hst
   -- what holds when it has been carried out
   have next:∀ v w'',(R w' w''∧Ψ i ((D i).map (E.put ρ' o.dst v)) w'')→wpAny P .any ops (lift n Q) (c+(ops.size-h)) (listed.setIfInBounds i true) (a.put o.dst v) w'':=by
    intro v w'' ⟨hx,hΨ⟩
    have hi_size:i<listed.size:=by rw[inv.head.size];omega
    have hi_un:listed.getD i false=false:=getD_both hun
    refine ih _ (E.put ρ' o.dst v) _ _ ?_ ⟨inv.head.set hi hih,htrans inv.ext hx,fun t ht=>?_,fun j hj hl=>?_⟩ (hr.put _ _)
    ·have hcount:∀ (l:List Nat),l.Nodup→i∈l→(l.filter (fun j=>!listed.getD j false)).length=(l.filter (fun j=>!(listed.setIfInBounds i true).getD j false)).length+1:=by
      intro l
      induction l with
      | nil=>intro _ h;cases h
      | cons x l ihl=>
       intro hnd hmem
       rw[List.nodup_cons] at hnd
       by_cases hx:x=i
       ·subst hx
        have hsame:l.filter (fun j=>!listed.getD j false)=l.filter (fun j=>!(listed.setIfInBounds x true).getD j false):=
         List.filter_congr fun y hy=>by
          have hne:x≠y:=fun e=>hnd.1 (by rw[e];exact hy)
          rw[getD_set_ne false hne]
        have hset:(listed.setIfInBounds x true).getD x false=true:=by simp[hi_size]
        rw[Aoz,Aoz,ifP (by rw[hi_un];rfl),ifN (by rw[hset];decide),hsame,lnC]
       ·have hmem' : i∈l:=by rcases List.mem_cons.1 hmem with h|h;exact absurd h.symm hx;exact h
        have:=ihl hnd.2 hmem'
        rw[Aoz,Aoz,getD_set_ne false (Ne.symm hx)]
        split
        ·rw[lnC,lnC,this]
        ·exact this
     have:=hcount (Amz h) List.nodup_range (List.mem_range.2 hih)
     omega
    ·cases hd:o.dst with
     | none=>exact inv.out t ht
     | some d=>
      have hne:t≠d:=fun e=>ht i hih (by unfold q6Q;rw[ho];simp[hd,e])
      show upd ρ' d v t=ρ t
      rw[z5a _ _ hne]
      exact inv.out t ht
    ·by_cases hji:j=i
     ·subst hji;exact hΨ
     ·rw[getD_set_ne false (Ne.symm hji)] at hl
      have hkn:=hext j _ _ _ (inv.known j hj hl) hx
      obtain⟨oj,hoj⟩:∃ oj,ops[j]?=some oj:=⟨ops[j]'(by omega),by rw[Akz (by omega)]⟩
      have hnot:∀ t,o.dst=some t→t∉D j:=fun t ht hmemt=>by
       have hdi:q6Q ops i=some t:=by unfold q6Q;rw[ho];exact ht
       have h5:=(z2R hB hoj hdi (Ne.symm hji)).1 hmemt
       obtain⟨e,he,hb,hon⟩:=q7p.1 h5
       have:=inv.head.closed j oj hoj hl e he hb
       rw[hon,hi_un] at this
       cases this
      rw[j2U hnot]
      exact hkn
   unfold wpOp
   simp only[ho]
   rw[z2b hguards hr]
   rcases hst with ⟨hg,hop⟩|⟨hg,hR⟩
   ·rw[ifP hg]
    exact .inl (hop a _ _ hr hoko next)
   ·rw[ifN (by rw[hg];decide)]
    exact next undef w' hR
 have h0:InvC R n ops h D Ψ ρ w (Alz ops.size false) ρ { w with drawn:=w.drawn+1 }:=by
  refine⟨⟨by simp,fun j oj _ hl=>?_,fun t _ ht=>by simp[ht]⟩,hdraw w,fun _ _=>rfl,fun j _ hl=>?_⟩
  ·rw[getD_replicate_false] at hl;cases hl
  ·rw[getD_replicate_false] at hl;cases hl
 have hc0:((Amz h).filter (fun j=>!(Alz ops.size false).getD j false)).length=h:=by
  rw[List.filter_eq_self.2 (fun j _=>by rw[getD_replicate_false];rfl)]
  simp
 have:=main h _ ρ a _ hc0 h0 ha
 rwa[show h+(ops.size-h)=ops.size by omega] at this
theorem q2z {o:Oper}{v:Value}(hrefl:∀ w,R w w)(h:OpQ P ops (R w) o ρ w v){S:Value→World→Prop}(hR:∀ w',R w w'→S v w'):OpW P n ops o ρ w S:=by
 rcases h with ⟨hg,h⟩|⟨hg,rfl⟩
 ·refine .inl ⟨hg,fun a K Q' ha hok hK=>?_⟩
  unfold Oper.wp
  rw[z3G ha hok]
  generalize (execOp (E.ev ρ) o).run P w=r at h
  cases r with
  | ok x w'=>
   cases x<;>simp only[Oper.quietUpon] at h<;>simp only[Oper.upon]
   case value u=>
    obtain⟨e1,e2⟩:=h
    subst e1;subst e2
    exact hK _ _ (hR _ (hrefl _))
   case skip=>
    obtain⟨e1,e2⟩:=h
    subst e1;subst e2
    exact hK _ _ (hR _ (hrefl _))
   case enter f args=>
    obtain⟨e1,hc⟩:=h
    subst e1
    exact hc.mono fun e w'' ⟨he,hw''⟩=>by subst he;exact hK _ _ (hR _ hw'')
  | halt x w'=>simp only[Oper.quietUpon] at h
 ·exact .inr ⟨hg,hR _ (hrefl _)⟩
theorem q1e:∀ (l:List Oper) (k:Nat) (ρ:Env),(∀ j,l[j]?=if j<l.length then ops[k+j]? else none)→(∀ i j,i<j→j<k+l.length→∀ t,q6Q ops i=some t→q6Q ops j≠some t)→QC R P n ops C F l ρ →
  ∃ (vs:Nat→Value) (ρe:Env),F ρe∧(∀ t,(∀ j,k≤j→j<k+l.length→q6Q ops j≠some t)→ρe t=ρ t) ∧
   ∀ j o,k≤j→j<k+l.length→ops[j]?=some o→(∀ d,o.dst=some d→ρe d=vs j) ∧
    ∃ ρj:Env,(∀ t,(∀ i,j≤i→i<k+l.length→q6Q ops i≠some t)→ρj t=ρe t)∧∀ w,C w→OpQ P ops (R w) o ρj w (vs j)
 | [],k,ρ,_,_,h=>⟨fun _=>undef,ρ,h,fun _ _=>rfl,fun j o h1 h2=>by simp at h2;omega⟩
 | o::l,k,ρ,hl,hd,h=>by
  obtain⟨v,h1,h2⟩:=h
  have hlen:k+1+l.length=k+(o::l).length:=by simp;omega
  obtain⟨vs,ρe,hF,hout,hvs⟩:=q1e l (k+1) (E.put ρ o.dst v) (fun j=>by
   have:=hl (j+1)
   simp only[Apz,lnC] at this
   rw[this]
   by_cases hj:j<l.length
   ·rw[ifP (by omega),ifP hj];congr 1;omega
   ·rw[ifN (by omega),ifN hj]) (fun i j hij hj=>hd i j hij (by omega)) h2
  have ho:ops[k]?=some o:=by have:=hl 0;simpa using this.symm
  refine⟨fun j=>if j=k then v else vs j,ρe,hF,fun t ht=>?_,fun j o' hj1 hj2 hoj=>?_⟩
  ·rw[hout t (fun j a b=>ht j (by omega) (by omega))]
   cases hdst:o.dst with
   | none=>rfl
   | some d=>exact z5a _ _ fun e=>ht k (Acz _) (by simp) (by unfold q6Q;rw[ho];simp[hdst,e])
  ·by_cases hjk:j=k
   ·subst hjk
    have:o'=o:=Option.some.inj (hoj.symm.trans ho)
    subst this
    simp only[ifP]
    refine⟨fun d hdst=>?_,ρ,fun t ht=>?_,h1⟩
    ·rw[hout d (fun i a b=>hd j i (by omega) (by omega) d (by unfold q6Q;rw[ho];exact hdst))]
     rw[hdst];exact j2S _ _ _
    ·rw[hout t (fun i a b=>ht i (by omega) (by omega))]
     cases hdst:o'.dst with
     | none=>rfl
     | some d=>exact (z5a _ _ fun e=>ht j (Acz _) (by simp) (by unfold q6Q;rw[ho];simp[hdst,e])).symm
   ·obtain⟨h3,ρj,h4,h5⟩:=hvs j o' (by omega) (by omega) hoj
    simp only[ifN hjk]
    exact⟨h3,ρj,fun t ht=>h4 t fun i a b=>ht i a (by omega),h5⟩
theorem q1f {id:Nat}(h:Nat)(hrefl:∀ w,R w w)(htrans:∀ {a b c},R a b→R b c→R a c)(hdraw:∀ w,R w { w with drawn:=w.drawn+1 })(hm:P.follows .mixedOrders=true)(hB:(z2Q ops h (ownD ops)&&k6k ops h)=true)
  (hq:QC R P n ops (R w) (fun ρ'=>∀ w',R w w'→WL P n ops Q (ops.toList.drop h) ρ' w') (ops.toList.take h) ρ):CW P n (.region id ops true) Q ρ w:=by
 simp only[Afz] at hB
 obtain⟨hB1,hB2⟩:=hB
 have hle:h≤ops.size:=by
  have:=hB1
  simp only[z2Q,Afz] at this
  simpa using this.1.1.1
 have hlen:(ops.toList.take h).length=h:=by simp;omega
 have hdist:∀ i j,i<j→j<h→∀ t,q6Q ops i=some t→q6Q ops j≠some t:=fun i j hij hj t hi hjt=>by
  have hoj:ops[j]?=some (ops[j]'(by omega)):=Akz _
  have:=(z2R hB1 hoj hi (by omega)).2
  unfold q6Q at hjt
  rw[hoj] at hjt
  exact this hjt
 obtain⟨vs,ρe,hF,hout,hvs⟩:=q1e (ops.toList.take h) 0 ρ (fun j=>by
  rw[hlen,Anz,Adz]
  split
  ·simp
  ·rfl) (by rw[hlen];intro i j hij hj;exact hdist i j hij (by omega)) hq
 rw[hlen,Adz] at hout hvs
 intro hok
 refine q1d (R:=R) h (ownD ops) (fun i l _=>l=(if q6Q ops i=none then [] else [vs i])) hm hB1 htrans hdraw (fun _ _ _ _ h _=>h) ?_ ?_ hok
 ·-- each operation of the head
  have hok' : ops.toList.all (q8M n)=true:=by simpa[q9x] using hok
  have main:∀ (l:List Oper) (k:Nat),(∀ j,j<l.length→l[j]?=ops[k+j]?)→k+l.length≤h →
    stepsC R P n ops h (ownD ops) (fun i l _=>l=(if q6Q ops i=none then [] else [vs i])) ρ w k l:=by
   intro l
   induction l with
   | nil=>intro k _ _;trivial
   | cons o l ih=>
    intro k hl hk
    have ho:ops[k]?=some o:=by have:=hl 0 (by simp);simpa using this.symm
    simp only[lnC] at hk
    refine⟨fun ρ' w' hw ho' hp=>?_,ih (k+1) (fun j hj=>by have:=hl (j+1) (by simp;omega);simp only[Apz] at this;rw[this];congr 1;omega) (by omega)⟩
    obtain⟨h3,ρj,h4,h5⟩:=hvs k o (Aez _) (by omega) ho
    have hoko:q8M n o=true:=List.all_eq_true.1 hok' o (by rw[Ahz];exact Aiz ho)
    have hsame:∀ t∈o.looksAt ops,ρ' t=ρj t:=fun t ht=>by
     by_cases hin:∃ j,j<h∧q6Q ops j=some t
     ·obtain⟨j,hj,hdj⟩:=hin
      have hdir:j∈q5K o:=by
       have h6:=List.all_eq_true.1 hB2 k (List.mem_range.2 (by omega))
       simp only[ho] at h6
       have h7:=List.all_eq_true.1 (List.all_eq_true.1 h6 t ht) j (List.mem_range.2 hj)
       simp only[hdj,Agz,Bool.not_eq_true'] at h7
       rcases h7 with h7|h7
       ·have:Aaz t t=true:=Nat.beq_refl t
        rw[this] at h7;cases h7
       ·simpa using h7
      have hjk:=q8e hB1 ho j hdir
      have h8:=hp j (by simpa using hdir)
      have hne:q6Q ops j≠none:=by rw[hdj];simp
      simp only[ownD,hdj,Aqz,List.map_cons,List.map_nil,reduceCtorEq,if_false] at h8
      have h9:ρ' t=vs j:=by injection h8
      obtain⟨oj,hoj⟩:∃ oj,ops[j]?=some oj:=⟨ops[j]'(by omega),by rw[Akz (by omega)]⟩
      have hdo:oj.dst=some t:=by unfold q6Q at hdj;rw[hoj] at hdj;exact hdj
      rw[h9,h4 t (fun i a b=>hdist j i (by omega) b t hdj)]
      exact ((hvs j oj (Aez _) hj hoj).1 t hdo).symm
     ·have hno:∀ j,j<h→q6Q ops j≠some t:=fun j hj hd=>hin ⟨j,hj,hd⟩
      rw[ho' t hno,h4 t (fun i _ b=>hno i b),hout t (fun j _ b=>hno j b)]
    have hopq:=OpQ.congr hoko hsame (h5 w' hw)
    exact q2z hrefl hopq fun w'' hx=>⟨hx,by
     simp only[ownD,q6Q,ho,bsS]
     cases hd:o.dst with
     | none=>simp
     | some d=>simp[E.put,j2S]⟩
  exact main _ 0 (fun j hj=>by rw[hlen] at hj;rw[Anz,ifP hj,Adz];simp) (by rw[hlen];omega)
 ·intro ρ' w' hw ho' hk
  have:ρ'=ρe:=by
   funext t
   by_cases hin:∃ j,j<h∧q6Q ops j=some t
   ·obtain⟨j,hj,hdj⟩:=hin
    have h8:=hk j hj
    simp only[ownD,hdj,Aqz,List.map_cons,List.map_nil,reduceCtorEq,if_false] at h8
    have h9:ρ' t=vs j:=by injection h8
    obtain⟨oj,hoj⟩:∃ oj,ops[j]?=some oj:=⟨ops[j]'(by omega),by rw[Akz (by omega)]⟩
    have hdo:oj.dst=some t:=by unfold q6Q at hdj;rw[hoj] at hdj;exact hdj
    rw[h9]
    exact ((hvs j oj (Aez _) hj hoj).1 t hdo).symm
   ·have hno:∀ j,j<h→q6Q ops j≠some t:=fun j hj hd=>hin ⟨j,hj,hd⟩
    rw[ho' t hno,hout t (fun j _ b=>hno j b)]
  rw[this]
  exact hF w' hw
end loose
end
end Go.E
