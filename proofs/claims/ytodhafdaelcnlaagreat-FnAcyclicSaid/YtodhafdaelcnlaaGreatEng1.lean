/- A small engine for walks through a Go program: plain lemmas on the model, without conditions of their own. -/
import Derived.Deep.Quiet
import Derived.Still
import Derived.StillTail
import Derived.WalkKit
set_option linter.unusedVariables false
set_option linter.unusedSimpArgs false
set_option linter.ambiguousOpen false
set_option linter.unusedSectionVars false
set_option linter.unnecessarySimpa false
open Nat renaming beq->Aaz,eq_of_beq_eq_true->Abz,le_refl->Acz,zero_add->Adz,zero_le->Aez
open Bool renaming and_eq_true->Afz,or_eq_true->Agz
open Array renaming mem_toList_iff->Ahz,mem_of_getElem?->Aiz,getD_eq_getD_getElem?->Ajz,getElem?_eq_getElem->Akz,replicate->Alz
open List renaming range->Amz,getElem?_take->Anz,filter_cons->Aoz,getElem?_cons_succ->Apz
open Option renaming toList_some->Aqz
namespace Go
theorem aj {α β:Type _}(a:α)(f:α->Option β):(some a).bind f=f a:=rfl
theorem ao {c:Prop}{h:Decidable c}(hc:c){α:Sort _}{t e:α}:ite c t e=t:=if_pos hc
theorem al {c:Prop}{h:Decidable c}(hc:¬c){α:Sort _}{t e:α}:ite c t e=e:=if_neg hc
theorem cE (n:Nat):((n:Int)).toNat=n:=Int.toNat_natCast n
theorem bn {α β:Type _}{as:List α}(f:α->β):(as.map f).length=as.length:=List.length_map f
theorem bH {α:Type _}{a:α}{as:List α}:(a::as).length=as.length+1:=List.length_cons
abbrev an:=ByteArray
end Go
namespace Go.E
open Go
abbrev Env:=Nat->Value
def upd (ρ:Env)(d:Nat)(v:Value):Env:=λt=>bif Aaz t d then v else ρ t
def put (ρ:Env):Option Nat->Value->Env
 | some d,v=>upd ρ d v
 | none,_=>ρ
def ev (ρ:Env):Operand->Value
 | .tmp t=>ρ t
 | .const v=>v
 | .global g=>.pointer (some ⟨g,0,none⟩)
 | .func f=>.func (.func f) #[] #[]
theorem E5 (ρ:Env)(d:Nat)(v:Value):upd ρ d v d=v:=by simp[upd]
theorem tc (ρ:Env){d t:Nat}(v:Value)(h:t≠d):upd ρ d v t=ρ t:=by
 have:Aaz t d=false:=by
  cases Y:Aaz t d with
  | false=>rfl
  | true=>exact absurd (Abz Y) h
 simp[upd,this]
structure fL (n:Nat) (ρ:Env) (a:Act):Prop where
 size:a.tmps.size=n
 defers:a.defers=[]
 at_:∀ t,t<n->a.tmps.getD t undef=ρ t
def xe (n:Nat):Operand->Bool
 | .tmp t=>Nat.blt t n
 | _=>true
def gD (n:Nat)(o:Oper):Bool:=
 (match o.dst with|some d=>Nat.blt d n|none=>true)&&o.op.operands.toList.all (xe n)&&(match o.op with|.select ..=>false|_=>true)
def gR (n:Nat):Code->Bool
 | .skip=>true
 | .region _ ops _=>ops.toList.all (gD n)
 | .seq a b=>gR n a&&gR n b
 | .cond c a b=>xe n c&&gR n a&&gR n b
 | .block _ c=>gR n c
 | .loop c=>gR n c
 | .exit _=>true
 | .ret=>true
 | _=>false
theorem fL.put {n:Nat}{ρ:Env}{a:Act}(h:fL n ρ a)(dst:Option Nat)(v:Value):fL n (E.put ρ dst v) (a.put dst v):=by
 cases dst with
 | none=>exact h
 | some d=>
  refine⟨by simp[Act.put,h.size],h.defers,λt ht=>?_⟩;by_cases htd:t=d;subst htd;have:t<a.tmps.size:=by rw[h.size];exact ht
  simp[Act.put,E.put,E5,this];rw[E.put,tc _ _ htd,← h.at_ t ht];simp[Act.put,Array.getElem?_setIfInBounds_ne (Ne.symm htd)]
theorem fL.eval {n:Nat}{ρ:Env}{a:Act}(h:fL n ρ a){x:Operand}(hx:xe n x=true):a.eval x=E.ev ρ x:=by
 cases x with
 | tmp t=>exact h.at_ t (by simpa[xe] using hx)
 | const v=>rfl
 | global g=>rfl
 | func f=>rfl
abbrev b8:=Exit->Env->World->Prop
@[reducible] def lift (n:Nat) (Q:b8):Exit->Act->World->Prop:=λe a w=>∃ ρ,fL n ρ a/\Q e ρ w
def WL (P:Program)(n:Nat)(ops:Array Oper)(Q:b8)(rest:List Oper)(ρ:Env)(w:World):Prop:=
 rest.all (gD n)=true->∀ a,fL n ρ a->wpList P ops (lift n Q) rest a w
def CW (P:Program)(n:Nat)(c:Code)(Q:b8)(ρ:Env)(w:World):Prop:=
 gR n c=true->∀ a,fL n ρ a->c.wp P (lift n Q) a w
section
variable {P:Program}{n:Nat}{Q:b8}{ρ:Env}{w:World}
@[reducible] def Ip (Z5:Env->World->Prop) (Q:b8):b8
 | .normal,ρ,w=>Z5 ρ w
 | e,ρ,w=>Q e ρ w
@[reducible] def qc (id:Nat) (Q:b8):b8
 | .exit id',ρ,w=>if id'=id then Q .normal ρ w else Q (.exit id') ρ w
 | e,ρ,w=>Q e ρ w
theorem CW.mono {c:Code}{Q' : b8}(h:CW P n c Q ρ w)(hq:∀ e ρ w,Q e ρ w->Q' e ρ w):CW P n c Q' ρ w:=
 λhok a ha=>Code.wp_mono (λ_ _ _ ⟨ρ,Z,q⟩=>⟨ρ,Z,hq _ _ _ q⟩) (h hok a ha)
theorem HU (h:Q .normal ρ w):CW P n .skip Q ρ w:=λ_ _ ha=>wp_skip ⟨ρ,ha,h⟩
theorem CW.ret (h:Q .ret ρ w):CW P n .ret Q ρ w:=λ_ _ ha=>wp_ret ⟨ρ,ha,h⟩
theorem HT {id:Nat}(h:Q (.exit id) ρ w):CW P n (.exit id) Q ρ w:=λ_ _ ha=>wp_exit ⟨ρ,ha,h⟩
theorem CU {x y:Code}(h:CW P n x (Ip (λρ w=>CW P n y Q ρ w) Q) ρ w):CW P n (.seq x y) Q ρ w:=by
 intro hok a ha;simp only[gR,Afz] at hok;refine wp_seq (Code.wp_mono (λe a w hq=>?_) (h hok.1 a ha));obtain⟨ρ',Z,hq⟩:=hq;cases e with
 | normal=>exact hq hok.2 _ Z
 | _=>exact⟨ρ',Z,hq⟩
theorem CW.block {id:Nat}{c:Code}(h:CW P n c (qc id Q) ρ w):CW P n (.block id c) Q ρ w:=by
 intro hok a ha;refine wp_block (Code.wp_mono (λe a w hq=>?_) (h hok a ha));obtain⟨ρ',Z,hq⟩:=hq;cases e with
 | exit id'=>
  simp only[Exit.inBlock];by_cases hid:id'=id;simp only[hid,if_true];exact⟨ρ',Z,by simpa[qc,hid] using hq⟩;simp only[hid,if_false];exact⟨ρ',Z,by simpa[qc,hid] using hq⟩
 | _=>exact⟨ρ',Z,hq⟩
theorem RL {c:Operand}{x y:Code}(hc:E.ev ρ c=.bool true)(h:CW P n x Q ρ w):CW P n (.cond c x y) Q ρ w:=by
 intro hok a ha;simp only[gR,Afz] at hok;exact wp_cond_true ((ha.eval hok.1.1).trans hc) (h hok.1.2 a ha)
theorem RJ {c:Operand}{x y:Code}(hc:E.ev ρ c=.bool false)(h:CW P n y Q ρ w):CW P n (.cond c x y) Q ρ w:=by
 intro hok a ha;simp only[gR,Afz] at hok;exact wp_cond_false ((ha.eval hok.1.1).trans hc) (h hok.2 a ha)
theorem QI {c:Operand}{x y:Code}{b:Bool}(hc:E.ev ρ c=.bool b)(ht:b=true->CW P n x Q ρ w)(hf:b=false->CW P n y Q ρ w):CW P n (.cond c x y) Q ρ w:=by
 cases b;exact RJ hc (hf rfl);exact RL hc (ht rfl)
theorem CS {id:Nat}{ops:Array Oper}(h:WL P n ops Q ops.toList ρ w):CW P n (.region id ops false) Q ρ w:=by
 intro hok a ha;exact wp_region_list (h (by simpa[gR] using hok) a ha)
def Ev (P:Program)(ρ:Env)(o:Oper)(w:World)(v:Value):Prop:=(execOp (E.ev ρ) o).run P w=.ok (.value v) w
theorem qK {a:Act}(ha:fL n ρ a){o:Oper}(ho:gD n o=true):execOp a.eval o=execOp (E.ev ρ) o:=by
 simp only[gD,Afz] at ho;refine execOp_congr o (λcs b hs=>?_) λx hx=>ha.eval ?_;simp[hs] at ho;exact List.all_eq_true.1 ho.1.2 x (by simpa using hx)
def dV (ops:Array Oper)(ρ:Env)(o:Oper):Bool:=
 match o.guard with
 | none=>true
 | some (j,want)=>match (ops[j]?).bind (·.dst) with
  | some d=>match ρ d with|.bool b=>b == want|_=>false
  | none=>false
def qB (n:Nat)(ops:Array Oper):Bool:=ops.toList.all λo=>match o.dst with|some d=>Nat.blt d n|none=>true
theorem xE {ops:Array Oper}(hg:qB n ops=true){a:Act}(ha:fL n ρ a)(o:Oper):Region.wanted o (yielded ops a.tmps)=dV ops ρ o:=by
 unfold Region.wanted dV yielded;cases hgd:o.guard with
 | none=>rfl
 | some jw=>
  obtain⟨j,want⟩:=jw;simp only;cases hj:ops[j]? with
  | none=>simp
  | some oj=>
   cases hd:oj.dst with
   | none=>simp[hd]
   | some d=>
    have hdn:d<n:=by
     have:=List.all_eq_true.1 hg oj (by rw[Ahz];exact Aiz hj);simpa[hd] using this
    have hval:a.tmps[d]?=some (ρ d):=by
     have U:=ha.at_ d hdn;have W:d<a.tmps.size:=by rw[ha.size];exact hdn
     simp only[Ajz,Akz W,Option.getD_some] at U;rw[Akz W,U]
    simp only[aj,hd,hval];cases ρ d<;>simp<;>rfl
theorem WL.nil {ops:Array Oper}(h:Q .normal ρ w):WL P n ops Q [] ρ w:=λ_ _ ha=>wpList_nil ⟨ρ,ha,h⟩
theorem WL.step {ops:Array Oper}{o:Oper}{rest:List Oper}(hg:o.guard=none)
  (h:∀ (a:Act) (Z5:Act->World->Prop),fL n ρ a->gD n o=true->(∀ v w',WL P n ops Q rest (E.put ρ o.dst v) w'->Z5 (a.put o.dst v) w')->o.wp P a w Z5 (lift n Q)):WL P n ops Q (o::rest) ρ w:=by
 intro hok a ha;simp only[List.all_cons,Afz] at hok;refine wpList_plain hg λZ5 hK=>h a Z5 ha hok.1 λv w' hv=>?_;exact hK _ _ (hv hok.2 _ (ha.put _ _))
theorem WL.ev {ops:Array Oper}{o:Oper}{rest:List Oper}{d:Nat}{v:Value}(hg:o.guard=none)(hd:o.dst=some d)(he:Ev P ρ o w v)(h:WL P n ops Q rest (upd ρ d v) w):WL P n ops Q (o::rest) ρ w:=
 WL.step hg λa Z5 ha hok hK=>by
  unfold Oper.wp;rw[qK ha hok,he];exact hK _ _ (by rw[hd];exact h)
end
structure cF (M:Nat->Prop) (w w' : World):Prop where
 os:w'.os=w.os
 tape:w'.tape=w.tape
 output:w'.output=w.output
 size:w.heap.size<=w'.heap.size
 block:∀ k,k<w.heap.size->¬ M k->w'.heap[k]?=w.heap[k]?
abbrev cd (w w' : World):Prop:=cF (λ_=>False) w w'
theorem cF.refl {M:Nat->Prop}(w:World):cF M w w:=⟨rfl,rfl,rfl,Acz _,λ_ _ _=>rfl⟩
theorem cd.refl (w:World):cd w w:=cF.refl w
theorem cF.trans {M:Nat->Prop}{a b c:World}(h:cF M a b)(k:cF M b c):cF M a c:=
 ⟨k.os.trans h.os,k.tape.trans h.tape,k.output.trans h.output,Nat.le_trans h.size k.size,λi hi hm=>(k.block i (Nat.lt_of_lt_of_le hi h.size) hm).trans (h.block i hi hm)⟩
theorem cF.mono {M M' : Nat->Prop}{a b:World}(h:cF M a b)(hm:∀ k,k<a.heap.size->M k->M' k):cF M' a b:=
 ⟨h.os,h.tape,h.output,h.size,λi hi hn=>h.block i hi λhM=>hn (hm i hi hM)⟩
theorem cF.of_ext {M:Nat->Prop}{a b:World}(h:cd a b):cF M a b:=h.mono λ_ _ hf=>hf.elim
theorem cd.below {a b:World}(h:cd a b):RowKit.Below a.heap.size a b:=⟨h.os,h.tape,h.output,h.size,λk hk=>h.block k hk id⟩
theorem cd.alloc (w:World)(o:Obj):cd w (w.alloc o):=⟨rfl,rfl,rfl,by simp,λk hk _=>heap_alloc_old w o hk⟩
theorem cd.drew (w:World):cd w w.drew:=⟨rfl,rfl,rfl,Acz _,λ_ _ _=>rfl⟩
theorem cd.drawn (w:World)(k:Nat):cd w { w with drawn:=k }:=⟨rfl,rfl,rfl,Acz _,λ_ _ _=>rfl⟩
def dE (w:World)(b:Nat)(T:TypeId)(cs:List Value):Prop:=w.heap[b]?=some (.cells cs.toArray T (0,0))
theorem dE.lt {w:World}{b:Nat}{T:TypeId}{cs:List Value}(h:dE w b T cs):b<w.heap.size:=by
 rcases Nat.lt_or_ge b w.heap.size with hlt|hge;exact hlt;unfold dE at h;rw[Array.getElem?_eq_none hge] at h;cases h
theorem dE.chg {M:Nat->Prop}{w w' : World}{b:Nat}{T:TypeId}{cs:List Value}(h:dE w b T cs)(hc:cF M w w')(hm:¬ M b):dE w' b T cs:=(hc.block b h.lt hm).trans h
theorem dE.ext {w w' : World}{b:Nat}{T:TypeId}{cs:List Value}(h:dE w b T cs)(hc:cd w w'):dE w' b T cs:=h.chg hc id
def At (w:World)(b o:Nat)(cs:List Value):Prop:=∀ j v,cs[j]?=some v->w.cell? ⟨b,o+j,none⟩=some v
theorem At.ofBlk {w:World}{b:Nat}{T:TypeId}{cs:List Value}(h:dE w b T cs)(o:Nat)(l:List Value)(hl:∀ j v,l[j]?=some v->cs[o+j]?=some v):At w b o l:=by
 intro j v hv;rw[cell_of_row w b (o+j) _ T (0,0) h];simpa using hl j v hv
theorem dE.cell {w:World}{b:Nat}{T:TypeId}{cs:List Value}(h:dE w b T cs){i:Nat}{v:Value}(hv:cs[i]?=some v):w.cell? ⟨b,i,none⟩=some v:=by
 rw[cell_of_row w b i _ T (0,0) h];simpa using hv
theorem At.sub {w:World}{b o:Nat}{cs:List Value}(h:At w b o cs)(j:Nat)(l:List Value)(hl:∀ i v,l[i]?=some v->cs[j+i]?=some v):At w b (o+j) l:=λi v hv=>by
 have:=h (j+i) v (hl i v hv);rwa[← Nat.add_assoc] at this
def cn (P:Program)(T:TypeId):Option Nat:=(P.info? T).map (·.size)
def mg (P:Program)(T:TypeId):Option Nat:=(P.info? T).map (·.bytes)
def fO (P:Program)(T:TypeId):Option (List Value):=((P.info? T).bind (·.zero)).map (·.cells.toList)
def cT (P:Program)(T:TypeId):Option Bool:=(P.underlying T).map λ|.struct _|.array ..=>true|_=>false
def cY (P:Program)(T:TypeId):Option TypeId:=match P.underlying T with|some (.slice e)=>some e|_=>none
def mo (P:Program)(T:TypeId)(i:Nat):Option Nat:=match P.underlying T with
 | some (.struct fs)=>(fs[i]?).bind λf=>match cn P f.type with|some (_+1)=>some f.offset|_=>none
 | _=>none
def fJ (P:Program)(T:TypeId):Option IntKind:=match P.underlying T with|some (.int k)=>some k|_=>none
def uJ (P:Program)(T:TypeId):Bool:=match P.underlying T with|some .string=>true|_=>false
section
variable {P:Program}{ρ:Env}{w:World}{o:Oper}
theorem jL {T k:Nat}(h:cn P T=some k):(sizeOf T).run P w=.ok k w:=by
 unfold cn at h;cases hi:P.info? T with
 | none=>simp[hi] at h
 | some i=>simp[hi] at h;simp[sizeOf,typeInfo,hi,h]
theorem ga {T e:Nat}(h:cY P T=some e):P.underlying T=some (.slice e):=by
 unfold cY at h;split at h;rename_i e' he;cases h;exact he;cases h
theorem HD {x:Operand}{v:Value}(ho:o.op=.move x)(hx:E.ev ρ x=v):Ev P ρ o w v:=by
 simp[Ev,execOp,ho,hx]
theorem CP {x:Operand}{v:Value}(ho:o.op=.assign x)(hx:E.ev ρ x=v):Ev P ρ o w v:=by
 simp[Ev,execOp,ho,hx]
theorem QH {c x y:Operand}{b:Bool}{v u:Value}(ho:o.op=.pick c x y)(hc:E.ev ρ c=.bool b)(hx:E.ev ρ x=v)(hy:E.ev ρ y=u):Ev P ρ o w (if b then v else u):=by
 simp[Ev,execOp,ho,hc,hx,hy,asBool]
theorem pS {T:TypeId}{x:Operand}{i k:Nat}{b off:Nat}(ho:o.op=.fieldAddr T x i)(hT:mo P T i=some k)(hx:E.ev ρ x=.pointer (some ⟨b,off,none⟩)) :
  Ev P ρ o w (.pointer (some ⟨b,off+k,none⟩)):=by
 unfold mo at hT;split at hT;rename_i fs hfs;cases hf:fs[i]? with
 | none=>simp[hf] at hT
 | some f=>
  simp only[hf,aj] at hT;split at hT;rename_i m hsz;cases hT;have hadd:(⟨b,off,none⟩:Addr).add f.offset=⟨b,off+f.offset,none⟩:=by unfold Addr.add;split<;>simp_all
  simp[Ev,execOp,ho,hx,Instr.fieldAt,run_underlying hfs,hf,Instr.sureAddr,fieldPlace,jL hsz,hadd];cases hT
 cases hT
theorem Ev.ix {T e k:TypeId}{x i:Operand}{b off n c:Nat}{q:IntKind}{j:Nat}(ho:o.op=.indexAddr T x i)(hT:cY P T=some e)(hk:cn P e=some k)
  (hx:E.ev ρ x=.slice (some ⟨b,off,none⟩) n c) (hi:E.ev ρ i=.int q (j:Int)) (hj:j<n):Ev P ρ o w (.pointer (some ⟨b,off+j*k,none⟩)):=by
 have hadd:(⟨b,off,none⟩:Addr).add (j*k)=⟨b,off+j*k,none⟩:=by unfold Addr.add;split<;>simp_all
 have h0:¬ n<=j:=by omega
 simp[Ev,execOp,ho,hx,hi,Instr.indexAt,asIntOf,run_underlying (ga hT),hj,jL hk,hadd]
theorem oR {T:TypeId}{b:Bool}(h:cT P T=some b):(isAgg T).run P w=.ok b w:=by
 unfold cT at h;cases hd:P.underlying T with
 | none=>simp[hd] at h
 | some d=>
  simp only[hd,Option.map_some,Option.some.injEq] at h;subst h;simp only[isAgg,Sem.run_bind,run_underlying hd,Result.andThen_ok];cases d<;>simp
theorem run_loadCellsFrom {b off:Nat}:∀ (cs:List Value) (i:Nat) (acc:Array Value),At w b (off+i) cs->(loadCellsFrom ⟨b,off,none⟩ i cs.length acc).run P w=.ok (acc++cs.toArray) w
 | [],i,acc,_=>by simp[loadCellsFrom]
 | c::cs,i,acc,h=>by
  have hadd:(⟨b,off,none⟩:Addr).add i=⟨b,off+i,none⟩:=by unfold Addr.add;split<;>simp_all
  have hc:w.cell? ⟨b,off+i,none⟩=some c:=h 0 c rfl;have ih:=run_loadCellsFrom cs (i+1) (acc.push c) (by
   have:=h.sub 1 cs (λj v hv=>by rw[Nat.add_comm];simpa using hv);rwa[Nat.add_assoc] at this)
  simp only[bH,loadCellsFrom,Sem.run_bind,hadd];rw[show (load ⟨b,off+i,none⟩).run P w=.ok c w by simp[load,Sem.run,hc]];simp only[Result.andThen_ok,ih];simp
theorem pR {T:TypeId}{x:Operand}{a:Addr}{v:Value}(ho:o.op=.load T x)(hT:cT P T=some false)(hx:E.ev ρ x=.pointer (some a))(hc:w.cell? a=some v):Ev P ρ o w v:=by
 simp[Ev,execOp,ho,hx,Instr.loadAt,Instr.sureAddr,loadVar,oR hT,load,Sem.run,hc]
theorem CR {T:TypeId}{x:Operand}{b off k:Nat}{cs:List Value}(ho:o.op=.load T x)(hT:cT P T=some true)(hk:cn P T=some k)(hx:E.ev ρ x=.pointer (some ⟨b,off,none⟩))
  (hc:At w b off cs) (hl:cs.length=k):Ev P ρ o w (.agg cs.toArray):=by
 subst hl;have:=run_loadCellsFrom (P:=P) (w:=w) (b:=b) (off:=off) cs 0 #[] hc;simp[Ev,execOp,ho,hx,Instr.loadAt,Instr.sureAddr,loadVar,oR hT,jL hk,loadCells,this]
theorem Db {T e:TypeId}{x:Operand}{A:Option Addr}{n c:Nat}(ho:o.op=.call { callee:=.builtin .len,args:=#[x],argTypes:=#[T] })(hT:cY P T=some e)(hx:E.ev ρ x=.slice A n c):Ev P ρ o w (.int .i64 n):=by
 simp[Ev,execOp,ho,hx,resolve,invoke,builtin,Builtin.len_,run_underlying (ga hT),goInt]
theorem QG {T:TypeId}{x:Operand}{s:an}(ho:o.op=.call { callee:=.builtin .len,args:=#[x],argTypes:=#[T] })(hT:P.underlying T=some .string)(hx:E.ev ρ x=.string s):Ev P ρ o w (.int .i64 s.size):=by
 simp[Ev,execOp,ho,hx,resolve,invoke,builtin,Builtin.len_,run_underlying hT,goInt]
theorem P4 {T:TypeId}{x:Operand}{b:Bool}(ho:o.op=.unOp .not T x)(hx:E.ev ρ x=.bool b):Ev P ρ o w (.bool (!b)):=by
 simp[Ev,execOp,ho,hx,Op.unary]
theorem P3 {fn:Fn}{f c:Array Operand}{vs us:Array Value}(ho:o.op=.makeFunc fn f c)(hf:f.map (E.ev ρ)=vs)(hc:c.map (E.ev ρ)=us):Ev P ρ o w (.func fn vs us):=by
 simp[Ev,execOp,ho,hf,hc,Instr.makeFunc]
def cG (P:Program)(op:BinOp)(T:TypeId)(u v r:Value):Prop:=∀ (x y:Operand) (w:World),((do eqGuard op T x y u v;binOp op T u v):Sem Value).run P w=.ok r w
theorem CQ {op:BinOp}{T Z7:TypeId}{x y:Operand}{u v r:Value}(ho:o.op=.binOp op T x y Z7)(hx:E.ev ρ x=u)(hy:E.ev ρ y=v)(h:cG P op T u v r):Ev P ρ o w r:=by
 simp only[Ev,execOp,ho,hx,hy,Sem.run_bind];have:=h x y w;simp only[Sem.run_bind] at this;rw[this];simp
theorem gw {op:BinOp}{T:TypeId}{x y:Operand}{k k' : IntKind}{a b:Int}:eqGuard op T x y (.int k a) (.int k' b)=pure ():=by
 cases op<;>simp[eqGuard]<;>rfl
theorem cG.add {T:TypeId}{a b:Int}(h:-9223372036854775808<=a+b/\a+b<=9223372036854775807):cG P .add T (.int .i64 a) (.int .i64 b) (.int .i64 (a+b)):=λx y w=>by
 simp[gw,binOp,Op.intArith,IntWalk.i64_in _ h]
theorem cG.sub {T:TypeId}{a b:Int}(h:-9223372036854775808<=a-b/\a-b<=9223372036854775807):cG P .sub T (.int .i64 a) (.int .i64 b) (.int .i64 (a-b)):=λx y w=>by
 simp[gw,binOp,Op.intArith,IntWalk.i64_in _ h]
theorem QF {T:TypeId}{a b:Int}(h:-9223372036854775808<=a*b/\a*b<=9223372036854775807):cG P .mul T (.int .i64 a) (.int .i64 b) (.int .i64 (a*b)):=λx y w=>by
 simp[gw,binOp,Op.intArith,IntWalk.i64_in _ h]
theorem RI {T:TypeId}{k:IntKind}{a b:Int}:cG P .add T (.int k a) (.int k b) (.int k (k.wrap (a+b))):=λx y w=>by simp[gw,binOp,Op.intArith]
theorem RH {T:TypeId}{k:IntKind}{a b:Int}:cG P .mul T (.int k a) (.int k b) (.int k (k.wrap (a*b))):=λx y w=>by simp[gw,binOp,Op.intArith]
theorem Ro {T:TypeId}{k:IntKind}{a b:Int}:cG P .lss T (.int k a) (.int k b) (.bool (decide (a<b))):=λx y w=>by simp[gw,binOp,Op.intCmp]
theorem Rn {T:TypeId}{k:IntKind}{a b:Int}:cG P .leq T (.int k a) (.int k b) (.bool (decide (a<=b))):=λx y w=>by simp[gw,binOp,Op.intCmp]
theorem Rm {T:TypeId}{k:IntKind}{a b:Int}:cG P .gtr T (.int k a) (.int k b) (.bool (decide (b<a))):=λx y w=>by simp[gw,binOp,Op.intCmp]
theorem Rk {T:TypeId}{k:IntKind}{a b:Int}:cG P .geq T (.int k a) (.int k b) (.bool (decide (b<=a))):=λx y w=>by simp[gw,binOp,Op.intCmp]
theorem Rj {T:TypeId}{k:IntKind}{a b:Int}:cG P .eql T (.int k a) (.int k b) (.bool (decide (a=b))):=λx y w=>by simp[gw,binOp,Op.intCmp];rfl
theorem Ri {T:TypeId}{k:IntKind}{a b:Int}:cG P .neq T (.int k a) (.int k b) (.bool (!decide (a=b))):=λx y w=>by simp[gw,binOp,Op.intCmp];rfl
theorem lz (s t:an):(s.toList == t.toList)=decide (s=t):=by
 rw[ByteArray.toList_eq,ByteArray.toList_eq];obtain⟨⟨x⟩⟩:=s;obtain⟨⟨y⟩⟩:=t;by_cases h:x=y;subst h;simp;simp[h]
theorem oQ {op:BinOp}{T:TypeId}{x y:Operand}{a b:an}:eqGuard op T x y (.string a) (.string b)=pure ():=by
 cases op<;>simp[eqGuard]<;>rfl
theorem RG {T:TypeId}{a b:an}:cG P .eql T (.string a) (.string b) (.bool (decide (a=b))):=λx y w=>by simp[oQ,binOp,Op.stringOp,lz]
theorem RF {T:TypeId}{a b:an}:cG P .neq T (.string a) (.string b) (.bool (!decide (a=b))):=λx y w=>by simp[oQ,binOp,Op.stringOp,lz]
theorem RE {T:TypeId}{a b:an}(h:a.size+b.size<=9223372036854775807):cG P .add T (.string a) (.string b) (.string (a++b)):=λx y w=>by
 simp[oQ,binOp,Op.stringOp];omega
end
theorem At.lt {w:World}{b o:Nat}{cs:List Value}(h:At w b o cs){j:Nat}{v:Value}(hv:cs[j]?=some v):b<w.heap.size:=
 World.block_lt_of_cell? w _ (h j v hv)
theorem At.frame' {w w' : World}{b o:Nat}{cs:List Value}(h:At w b o cs)(Y:b<w.heap.size->w'.heap[b]?=w.heap[b]?):At w' b o cs:=λj v hv=>by
 rw[World.cell?_of_block (w:=w) (Y (h.lt hv))];exact h j v hv
class Rep (α:Type) where
 sz:Nat
 pos:0<sz
 rd:(Nat->Prop)->World->α->List Value->Prop
 len:∀ {S w x cs},rd S w x cs->cs.length=sz
 one:∀ {S w x cs},rd S w x cs->∀ v∈cs,v.oneCell'=true
 mono:∀ {S S' w x cs},rd S w x cs->(∀ b,S b->S' b)->rd S' w x cs
 frame:∀ {S w w' x cs},rd S w x cs->(∀ b,S b->b<w.heap.size->w'.heap[b]?=w.heap[b]?)->rd S w' x cs
 bound:∀ {S w x cs},rd S w x cs->rd (λb=>S b/\b<w.heap.size) w x cs
open Rep (rd)
def eP {α:Type}[Rep α](S:Nat->Prop)(w:World):List α->List Value->Prop
 | [],cs=>cs=[]
 | x::xs,cs=>∃ c r,cs=c++r/\rd S w x c/\eP S w xs r
section
variable {α:Type}[Rep α]{S S' : Nat->Prop}{w w' : World}
theorem eP.len:∀ {xs:List α} {cs:List Value},eP S w xs cs->cs.length=xs.length*Rep.sz α
 | [],_,h=>by rw[h];simp
 | x::xs,_,⟨c,r,rfl,hc,Z⟩=>by simp[Rep.len hc,eP.len Z,Nat.add_mul];omega
theorem eP.mono (hS:∀ b,S b->S' b):∀ {xs:List α} {cs:List Value},eP S w xs cs->eP S' w xs cs
 | [],_,h=>h
 | _::_,_,⟨c,r,e,hc,Z⟩=>⟨c,r,e,Rep.mono hc hS,eP.mono hS Z⟩
theorem eP.frame (hf:∀ b,S b->b<w.heap.size->w'.heap[b]?=w.heap[b]?):∀ {xs:List α} {cs:List Value},eP S w xs cs->eP S w' xs cs
 | [],_,h=>h
 | _::_,_,⟨c,r,e,hc,Z⟩=>⟨c,r,e,Rep.frame hc hf,eP.frame hf Z⟩
theorem eP.bound:∀ {xs:List α} {cs:List Value},eP S w xs cs->eP (λb=>S b/\b<w.heap.size) w xs cs
 | [],_,h=>h
 | _::_,_,⟨c,r,e,hc,Z⟩=>⟨c,r,e,Rep.bound hc,eP.bound Z⟩
theorem eP.append:∀ {xs ys:List α} {cs ds:List Value},eP S w xs cs->eP S w ys ds->eP S w (xs++ys) (cs++ds)
 | [],ys,_,ds,h,W=>by rw[show _=[] from h];simpa using W
 | x::xs,ys,_,ds,⟨c,r,rfl,hc,Z⟩,W=>⟨c,r++ds,by simp,hc,eP.append Z W⟩
theorem eP.single {x:α}{c:List Value}(h:rd S w x c):eP S w [x] c:=⟨c,[],by simp,h,rfl⟩
end
def uL {α:Type}[Rep α](S:Nat->Prop)(w:World)(xs:List α)(v:Value):Prop:=
 ∃ A cap cells,v=.slice A xs.length cap/\xs.length<=cap/\cap<=maxLen/\eP S w xs cells/\(xs=[]∨∃ b o,A=some ⟨b,o,none⟩/\S b/\At w b o cells)
instance {α:Type} [Rep α]:Rep (List α) where
 sz:=1
 pos:=by decide
 rd S w xs cs:=∃ v,cs=[v]/\uL S w xs v
 len:=by rintro S w x cs ⟨v,rfl,h⟩;rfl
 one:=by rintro S w x cs ⟨v,rfl,A,cap,cells,rfl,h⟩;simp[Value.oneCell']
 mono:=by
  rintro S S' w x cs ⟨v,rfl,A,cap,cells,rfl,U,W,h3,h4⟩ hS;exact⟨_,rfl,A,cap,cells,rfl,U,W,h3.mono hS,h4.imp id λ⟨b,o,e,Y,ha⟩=>⟨b,o,e,hS b Y,ha⟩⟩
 frame:=by
  rintro S w w' x cs ⟨v,rfl,A,cap,cells,rfl,U,W,h3,h4⟩ hf;exact⟨_,rfl,A,cap,cells,rfl,U,W,h3.frame hf,h4.imp id λ⟨b,o,e,Y,ha⟩=>⟨b,o,e,Y,ha.frame' (hf b Y)⟩⟩
 bound:=by
  rintro S w x cs ⟨v,rfl,A,cap,cells,rfl,U,W,h3,h4⟩;refine⟨_,rfl,A,cap,cells,rfl,U,W,h3.bound,?_⟩;rcases h4 with h4|⟨b,o,e,Y,ha⟩
  exact .inl h4;by_cases hx:x=[];exact .inl hx;have hl:=h3.len;have hp:=Rep.pos (α:=α);have hx' : 0<x.length:=List.length_pos_iff.2 hx;have:0<cells.length:=by rw[hl];exact Nat.mul_pos hx' hp
  exact .inr ⟨b,o,e,⟨Y,ha.lt (List.getElem?_eq_getElem this)⟩,ha⟩
end Go.E
namespace Go.E
open Go
open Rep (rd)
section
variable {P:Program}{n:Nat}{Q:b8}{ρ:Env}{w:World}{ops:Array Oper}{o:Oper}{rest:List Oper}
theorem mF (w:World)(T:TypeId)(cs:List Value):dE (w.alloc (.cells cs.toArray T)) w.heap.size T cs:=heap_alloc_new w _
theorem qZ (T:TypeId)(cs:List Value):(newRow T cs.toArray).run P w=.ok ⟨w.heap.size,0,none⟩ (w.alloc (.cells cs.toArray T)):=by
 rfl
theorem uG {T:TypeId}{cs:List Value}(h:fO P T=some cs):∃ z,(zeroValue T).run P w=.ok z w/\z.cells=cs.toArray:=by
 unfold fO at h;cases hi:P.info? T with
 | none=>simp[hi] at h
 | some i=>
  cases hz:i.zero with
  | none=>simp[hi,hz] at h
  | some z=>
   simp[hi,hz] at h;exact⟨z,by simp[zeroValue,typeInfo,hi,hz],by rw[← h]⟩
def cH (cs:List Value)(off:Nat)(l:List Value):List Value:=cs.take off++l++cs.drop (off+l.length)
theorem AY (w:World)(b:Nat)(cs:Array Value):cF (· = b) w (w.setRow b cs):=
 ⟨rfl,rfl,rfl,by simp[World.setRow],λk _ hk=>by simp only[World.setRow,Array.getElem?_modify];rw[al (λe=>hk e.symm)]⟩
theorem NA {T:TypeId}{b off k:Nat}{TB:TypeId}{v:Value}{cs l:List Value}(hk:cn P T=some k)(hv:v.cells=l.toArray)(hl:l.length=k)(U:∀ u∈l,u.oneCell'=true)
  (Y:dE w b TB cs) (hfit:off+k<=cs.length):∃ w',(storeVar T ⟨b,off,none⟩ v).run P w=.ok () w'/\cF (· = b) w w'/\dE w' b TB (cH cs off l):=by
 subst hl;have hs:=run_storeCells_at P b off TB l 0 cs.toArray w Y (by simpa using hfit) U;refine⟨_,?_,AY w b _,setRow_heap w b _ _ TB _ Y⟩;simp only[storeVar,hv,Sem.run_bind,jL hk,Result.andThen_ok,List.size_toArray,ne_eq,not_true_eq_false,if_false];simpa[cH,Sem.run_bind] using hs
def iC (P:Program)(f:FuncId):Bool:=match P.funcs[f]? with|some fn=>fn.name != "runtime.NumGoroutine" && fn.body.isSome|none=>false
def nv (P:Program)(f:FuncId)(args:Array Value)(w:World)(M:Nat->Prop)(R:Value->World->Prop):Prop:=
 Calls P f args w λe w'=>∃ v,e=.returned v/\cF M w w'/\R v w'
theorem YI {f:FuncId}(hf:iC P f=true)(args:Array Value):(callFunc f args).run P w=.ok (.enter f args) w:=by
 unfold iC at hf;cases h:P.funcs[f]? with
 | none=>simp[h] at hf
 | some fn=>
  simp only[h,Afz] at hf;have U:¬ fn.name = "runtime.NumGoroutine" := by simpa using hf.1
  have W:¬ fn.body=none:=by intro Y;simp[Y] at hf
  simp[callFunc,h,U,W,run_program]
theorem E4 {c:Call}{f:FuncId}{x:Operand}{caps:Array Value}{args:List Value}{T:TypeId}(hx:c.callee=.value x)(hf:E.ev ρ x=.func (.func f) #[] caps)(hc:iC P f=true)(ha:c.args.toList.map (E.ev ρ)++caps.toList=args) :
  ((do let d ← resolve (E.ev ρ) c T;invoke d.target d.args):Sem Next).run P w=.ok (.enter f args.toArray) w:=by
 have ha' : c.args.map (E.ev ρ)++caps=args.toArray:=by
  subst ha;apply Array.ext';simp
 simp only[resolve,hx,Deferred.ofValue,hf,Sem.run_bind,Sem.run_pure,Result.andThen_ok,invoke,Array.empty_append,ha'];exact YI hc _
theorem Rh {c:Call}{f:FuncId}{x:Operand}{caps:Array Value}{args:List Value}{M:Nat->Prop}{R:Value->World->Prop}{d:Nat}(hg:o.guard=none)(hd:o.dst=some d)(ho:o.op=.call c)(hx:c.callee=.value x)(hf:E.ev ρ x=.func (.func f) #[] caps)
  (hc:iC P f=true) (ha:c.args.toList.map (E.ev ρ)++caps.toList=args) (Z:nv P f args.toArray w M R)
  (h:∀ v w',cF M w w'->R v w'->WL P n ops Q rest (upd ρ d v) w'):WL P n ops Q (o::rest) ρ w:=
 WL.step hg λa Z5 hrel hok hK=>by
  unfold Oper.wp;rw[qK hrel hok];simp only[execOp,ho];rw[E4 hx hf hc ha];exact Calls.mono Z λe w' ⟨v,he,hch,hv⟩=>by subst he;exact hK _ _ (by rw[hd];exact h v w' hch hv)
def Dz (args:Array Value):Env:=λt=>args.getD t undef
@[reducible] def FO (P:Program) (fn:Func) (R:Value->World->Prop):b8
 | .normal,ρ,w|.ret,ρ,w=>∃ v,(∀ a:Act,fL fn.ntmps ρ a->(results fn a.tmps).run P w=.ok v w)/\R v w
 | _,_,_=>False
theorem enter {f:FuncId}{fn:Func}{c:Code}{args:Array Value}{M:Nat->Prop}{R:Value->World->Prop}(hf:P.funcs[f]?=some fn)(Y:fn.body=some c)(hok:gR fn.ntmps c=true)(hs:Nat.ble args.size fn.ntmps=true)
  (h:CW P fn.ntmps c (FO P fn λv w'=>cF M w w'/\R v w') (Dz args) w):nv P f args w M R:=by
 have hs' : args.size<=fn.ntmps:=by simpa using hs
 have hrel:fL fn.ntmps (Dz args) { tmps:=args++Alz (fn.ntmps-args.size) undef,defers:=[] }:=by
  refine⟨by simp;omega,rfl,λt ht=>?_⟩;simp only[Dz,Ajz,Array.getElem?_append];by_cases hta:t<args.size;simp[hta];simp[hta,Array.getElem?_replicate];split<;>rfl
 refine calls_of_wp hf Y (Code.wp_mono (λe a w' hq=>?_) (h hok _ hrel));obtain⟨ρ',Z,hq⟩:=hq;cases e with
 | normal=>obtain⟨v,U,W⟩:=hq;exact⟨Z.defers,v,U a Z,v,rfl,W.1,W.2⟩
 | ret=>obtain⟨v,U,W⟩:=hq;exact⟨Z.defers,v,U a Z,v,rfl,W.1,W.2⟩
 | exit id=>exact hq.elim
 | goto l=>exact hq.elim
 | panic c=>exact hq.elim
 | outgrown=>exact hq.elim
end
section
variable {P:Program}{n:Nat}{Q:b8}{ρ:Env}{w:World}{ops:Array Oper}{o:Oper}{rest:List Oper}{C:World->Prop}{F:Env->Prop}{R:World->World->Prop}
def oH (P:Program)(ops:Array Oper)(C:World->Prop)(o:Oper)(ρ:Env)(w:World)(v:Value):Prop:=
 (dV ops ρ o=true/\Oper.quietUpon P C w v ((execOp (E.ev ρ) o).run P w))∨(dV ops ρ o=false/\v=undef)
def QC (R:World->World->Prop)(P:Program)(n:Nat)(ops:Array Oper)(C:World->Prop)(F:Env->Prop):List Oper->Env->Prop
 | [],ρ=>F ρ
 | o::rest,ρ=>∃ v,(∀ w,C w->oH P ops (R w) o ρ w v)/\QC R P n ops C F rest (E.put ρ o.dst v)
theorem QC.nil (h:F ρ):QC R P n ops C F [] ρ:=h
theorem QC.ev {v:Value}{d:Nat}(hg:o.guard=none)(hd:o.dst=some d)(he:∀ w,C w->Ev P ρ o w v)(h:QC R P n ops C F rest (upd ρ d v)):QC R P n ops C F (o::rest) ρ:=
 ⟨v,λw hw=>.inl ⟨by simp[dV,hg],by rw[he w hw];exact⟨rfl,rfl⟩⟩,by rw[hd];exact h⟩
theorem HS {c:Call}{f:FuncId}{x:Operand}{caps:Array Value}{args:List Value}{v:Value}{d:Nat}(hg:o.guard=none)(hd:o.dst=some d)(ho:o.op=.call c)(hx:c.callee=.value x)(hf:E.ev ρ x=.func (.func f) #[] caps)
  (hc:iC P f=true) (ha:c.args.toList.map (E.ev ρ)++caps.toList=args) (Z:∀ w,C w->nv P f args.toArray w (λ_=>False) λu w'=>u=v/\R w w')
  (h:QC R P n ops C F rest (upd ρ d v)):QC R P n ops C F (o::rest) ρ:=by
 refine⟨v,λw hw=>.inl ⟨by simp[dV,hg],?_⟩,by rw[hd];exact h⟩;simp only[execOp,ho];rw[E4 hx hf hc ha];exact⟨rfl,Calls.mono (Z w hw) λ_ _ ⟨_,he,_,hv,hch⟩=>⟨by rw[he,hv],hch⟩⟩
def AX (P:Program)(n:Nat)(ops:Array Oper)(o:Oper)(ρ:Env)(w:World)(R:Value->World->Prop):Prop:=
 (dV ops ρ o=true/\∀ (a:Act) (Z5:Act->World->Prop) (Q:Exit->Act->World->Prop),fL n ρ a->gD n o=true->(∀ v w',R v w'->Z5 (a.put o.dst v) w')->o.wp P a w Z5 Q)∨(dV ops ρ o=false/\R undef w)
def fw (o:Oper):List Nat:=(o.after.toList.filter (Region.binds .any)).map (·.on)
def di (ops:Array Oper)(j:Nat):Option Nat:=(ops[j]?).bind (·.dst)
def j9 (ops:Array Oper)(h:Nat)(D:Nat->List Nat):Bool:=
 Nat.ble h ops.size &&
 (Amz ops.size).all (λj=>match ops[j]? with
  | some o=>(fw o).all (λd=>Nat.blt d j) &&
    (Amz ops.size).all (λi=>match di ops i with
     | some t=>Aaz i j||((!(D j).contains t||(fw o).contains i)&&(match o.dst with|some d=>!(Aaz d t)|none=>true))
     | none=>true)
  | none=>false) &&
 (Aaz h ops.size||(Region.sinkB .any ops h&&Region.chainB .any ops h)) &&
 Region.seqB .any ops (ops.size-h) h (Alz h true++Alz (ops.size-h) false)
def ee (R:World->World->Prop)(P:Program)(n:Nat)(ops:Array Oper)(h:Nat)(D:Nat->List Nat)(Ψ:Nat->List Value->World->Prop)(ρ:Env)(w:World):Nat->List Oper->Prop
 | _,[]=>True
 | i,o::l=>(∀ ρ' w',R w w'->(∀ t,(∀ j,j<h->di ops j≠some t)->ρ' t=ρ t)->(∀ j,(fw o).contains j=true->Ψ j ((D j).map ρ') w') ->
   AX P n ops o ρ' w' (λv w''=>R w' w''/\Ψ i ((D i).map (E.put ρ' o.dst v)) w''))/\ee R P n ops h D Ψ ρ w (i+1) l
theorem ee.get {h:Nat}{D:Nat->List Nat}{Ψ:Nat->List Value->World->Prop}:∀ (l:List Oper) (k i:Nat) (o:Oper),ee R P n ops h D Ψ ρ w k l->l[i]?=some o ->
  (∀ ρ' w',R w w'->(∀ t,(∀ j,j<h->di ops j≠some t)->ρ' t=ρ t)->(∀ j,(fw o).contains j=true->Ψ j ((D j).map ρ') w') ->
   AX P n ops o ρ' w' (λv w''=>R w' w''/\Ψ (k+i) ((D (k+i)).map (E.put ρ' o.dst v)) w''))
 | [],_,_,_,_,hh=>by simp at hh
 | x::l,k,0,o,hs,hh=>by simp at hh;subst hh;exact hs.1
 | x::l,k,i+1,o,hs,hh=>by
  have:=ee.get l (k+1) i o hs.2 (by simpa using hh);rwa[Nat.add_right_comm] at this
structure qp (R:World->World->Prop) (n:Nat) (ops:Array Oper) (h:Nat) (D:Nat->List Nat) (Ψ:Nat->List Value->World->Prop) (ρ0:Env) (w0:World) (listed:Array Bool) (ρ:Env) (w:World):Prop where
 head:HeadInv .any ops h listed
 ext:R w0 w
 out:∀ t,(∀ j,j<h->di ops j≠some t)->ρ t=ρ0 t
 known:∀ j,j<h->listed.getD j false=true->Ψ j ((D j).map ρ) w
theorem Zf {ρ:Env}{dst:Option Nat}{v:Value}{l:List Nat}(h:∀ t,dst=some t->t∉l):l.map (E.put ρ dst v)=l.map ρ:=by
 cases dst with
 | none=>rfl
 | some d=>
  refine List.map_congr_left λt ht=>?_;exact tc ρ v (λe=>h d rfl (e▸ht))
theorem pq {o:Oper}{d:Nat}:d∈fw o↔∃ e∈o.after,Region.binds .any e=true/\e.on=d:=by
 simp only[fw,List.mem_map,List.mem_filter];exact⟨λ⟨e,⟨U,W⟩,h3⟩=>⟨e,by simpa using U,W,h3⟩,λ⟨e,U,W,h3⟩=>⟨e,⟨by simpa using U,W⟩,h3⟩⟩
section loose
variable {h:Nat}{D:Nat->List Nat}
theorem po (hB:j9 ops h D=true){j:Nat}{o:Oper}(hj:ops[j]?=some o):∀ d∈fw o,d<j:=by
 simp only[j9,Afz] at hB;have hjs:j<ops.size:=(Array.getElem?_eq_some_iff.1 hj).1;have U:=List.all_eq_true.1 hB.1.1.2 j (List.mem_range.2 hjs);simp only[hj,Afz] at U;intro d hd;simpa using List.all_eq_true.1 U.1 d hd
theorem BK (hB:j9 ops h D=true){i j:Nat}{o:Oper}(hj:ops[j]?=some o){t:Nat}(hi:di ops i=some t)(hij:i≠j):(t∈D j->i∈fw o)/\o.dst≠some t:=by
 simp only[j9,Afz] at hB;have hjs:j<ops.size:=(Array.getElem?_eq_some_iff.1 hj).1;have his:i<ops.size:=by
  unfold di at hi;cases ho:ops[i]? with
  | none=>simp[ho] at hi
  | some oi=>exact (Array.getElem?_eq_some_iff.1 ho).1
 have U:=List.all_eq_true.1 hB.1.1.2 j (List.mem_range.2 hjs);simp only[hj,Afz] at U;have W:=List.all_eq_true.1 U.2 i (List.mem_range.2 his);simp only[hi,Agz,Afz] at W;rcases W with W|⟨W,h3⟩
 exact absurd (Abz W) hij;refine⟨λht=>?_,λhe=>?_⟩;rcases W with W|W;simp[ht] at W;simpa using W;simp[he] at h3
theorem Hd (hB:j9 ops h D=true){listed:Array Bool}(hs:listed.size=ops.size):∀ (k j:Nat),j<=k->j<ops.size->listed.getD j true=false->∃ i,i∈Region.ready .any ops listed/\i<=j:=by
 intro k
 induction k with
 | zero=>
  intro j hk hj hl;obtain rfl:j=0:=by omega
  refine⟨0,mem_ready.2 ⟨hl,ops[0],by simp[hj],λe he Y=>?_⟩,Acz _⟩;have:=po hB (Akz hj) e.on (pq.2 ⟨e,he,Y,rfl⟩);omega
 | succ k ih=>
  intro j hk hj hl;by_cases hall:∀ d∈fw ops[j],listed.getD d true=true;refine⟨j,mem_ready.2 ⟨hl,ops[j],by simp[hj],λe he Y=>?_⟩,Acz _⟩;have hd:=po hB (Akz hj) e.on (pq.2 ⟨e,he,Y,rfl⟩);have U:=hall e.on (pq.2 ⟨e,he,Y,rfl⟩);have hlt:e.on<listed.size:=by rw[hs];omega
  simp[hlt] at U ⊢;exact U;have:∃ d∈fw ops[j],listed.getD d true=false:=by
   refine Classical.byContradiction λhn=>hall λd hd=>?_;cases hv:listed.getD d true with
   | true=>rfl
   | false=>exact absurd ⟨d,hd,hv⟩ hn
  obtain⟨d,hd,hv⟩:=this;have hdj:=po hB (Akz hj) d hd;obtain⟨i,hi,hle⟩:=ih d (by omega) (by omega) hv;exact⟨i,hi,by omega⟩
def Td (ops:Array Oper)(h:Nat):Bool:=
 (Amz h).all λi=>match ops[i]? with
  | some o=>(o.looksAt ops).all λt=>(Amz h).all λj=>match di ops j with
    | some d=>!(Aaz d t)||(fw o).contains j
    | none=>true
  | none=>true
def ic (ops:Array Oper)(j:Nat):List Nat:=(di ops j).toList
theorem Xz {o:Oper}{ρ ρ' : Env}(h:∀ t∈o.looksAt ops,ρ' t=ρ t):dV ops ρ' o=dV ops ρ o:=by
 unfold dV;cases hg:o.guard with
 | none=>rfl
 | some jw=>
  obtain⟨j,want⟩:=jw;simp only;cases hd:(ops[j]?).bind (·.dst) with
  | none=>rfl
  | some d=>
   simp only;rw[h d (by simp[Oper.looksAt,hg,hd])]
theorem Xy {o:Oper}{ρ ρ' : Env}(hs:gD n o=true)(h:∀ t∈o.looksAt ops,ρ' t=ρ t):execOp (E.ev ρ') o=execOp (E.ev ρ) o:=by
 refine execOp_congr o (λcs b hsel=>?_) λx hx=>?_;simp[gD,hsel] at hs;cases x with
 | tmp t=>exact h t (by simp only[Oper.looksAt,List.mem_append,List.mem_filterMap];exact .inl ⟨.tmp t,by simpa using hx,rfl⟩)
 | const v=>rfl
 | global g=>rfl
 | func f=>rfl
theorem oH.congr {o:Oper}{ρ ρ' : Env}{v:Value}(hs:gD n o=true)(h:∀ t∈o.looksAt ops,ρ' t=ρ t)(hq:oH P ops C o ρ w v):oH P ops C o ρ' w v:=by
 unfold oH at *;rw[Xz h,Xy hs h];exact hq
theorem Rs {id:Nat}(h:Nat)(D:Nat->List Nat)(Ψ:Nat->List Value->World->Prop)(hm:P.follows .mixedOrders=true)(hB:j9 ops h D=true)
  (htrans:∀ {a b c},R a b->R b c->R a c) (hdraw:∀ w,R w { w with drawn:=w.drawn+1 })
  (hext:∀ i vs w w',Ψ i vs w->R w w'->Ψ i vs w')
  (hstep:ee R P n ops h D Ψ ρ w 0 (ops.toList.take h))
  (hend:∀ ρ' w',R w w'->(∀ t,(∀ j,j<h->di ops j≠some t)->ρ' t=ρ t)->(∀ j,j<h->Ψ j ((D j).map ρ') w')->WL P n ops Q (ops.toList.drop h) ρ' w'):CW P n (.region id ops true) Q ρ w:=by
 intro hok a ha;have hok' : ops.toList.all (gD n)=true:=by simpa[gR] using hok
 refine wp_region_any hm ?_;have hB':=hB;simp only[j9,Afz] at hB';have hle:h<=ops.size:=by simpa using hB'.1.1.1
 have hseq:=hB'.2
 -- when the head is through
 have done:∀ (listed:Array Bool) (ρ' : Env) (a:Act) (w' : World),qp R n ops h D Ψ ρ w listed ρ' w'->fL n ρ' a->(∀ j,j<h->listed.getD j false=true)->wpAny P .any ops (lift n Q) (ops.size-h) listed a w':=by
  intro listed ρ' a w' inv Z hall;have hlisted:listed=Alz h true++Alz (ops.size-h) false:=by
   apply Array.ext;simp[inv.head.size];omega;intro i U W;by_cases hi:i<h;have:=hall i hi;simp[U] at this;rw[this,Array.getElem_append_left (by simpa using hi)];simp;have:=inv.head.tail i (by omega) (by rw[← inv.head.size];exact U);simp[U] at this;rw[this,Array.getElem_append_right (by simpa using Nat.le_of_not_lt hi)];simp
  subst hlisted;have hw:=hend ρ' w' inv.ext inv.out (λj hj=>inv.known j hj (hall j hj)) (by
   refine List.all_eq_true.2 λo ho=>List.all_eq_true.1 hok' o (List.mem_of_mem_drop ho)) a Z
  have hlen:(ops.toList.drop h).length=ops.size-h:=by simp
  have:=wpAny_of_seq (P:=P) (md:=.any) (ops:=ops) (Q':=lift n Q) (ops.toList.drop h) h (Alz h true++Alz (ops.size-h) false) a w'
   (λj=>by simp[List.getElem?_drop]) (by rw[hlen];exact hseq) hw
  rwa[hlen] at this
 have main:∀ (c:Nat) (listed:Array Bool) (ρ' : Env) (a:Act) (w' : World),((Amz h).filter (λj=>!listed.getD j false)).length=c->qp R n ops h D Ψ ρ w listed ρ' w'->fL n ρ' a ->
   wpAny P .any ops (lift n Q) (c+(ops.size-h)) listed a w':=by
  intro c
  induction c with
  | zero=>
   intro listed ρ' a w' hc inv Z;rw[Adz];refine done listed ρ' a w' inv Z λj hj=>?_;have h0:(Amz h).filter (λj=>!listed.getD j false)=[]:=List.eq_nil_of_length_eq_zero hc;have:=List.filter_eq_nil_iff.1 h0 j (List.mem_range.2 hj);simpa using this
  | succ c ih=>
   intro listed ρ' a w' hc inv Z;have hex:∃ j,j<h/\listed.getD j true=false:=by
    have:((Amz h).filter (λj=>!listed.getD j false))≠[]:=λe=>by rw[e] at hc;simp at hc
    obtain⟨j,hj⟩:=List.exists_mem_of_ne_nil _ this;rw[List.mem_filter,List.mem_range] at hj;exact⟨j,hj.1,getD_in (by rw[inv.head.size];omega) (by simpa using hj.2)⟩
   obtain⟨j0,hj0,hl0⟩:=hex;obtain⟨i0,hi0,_⟩:=Hd hB inv.head.size j0 j0 (Acz _) (by omega) hl0;rw[show c+1+(ops.size-h)=(c+(ops.size-h))+1 by omega];refine⟨λh0=>(by rw[h0] at hi0;cases hi0),λi hi=>?_⟩;have hih:i<h:=by
    rcases Nat.lt_or_ge i h with hlt|hge;exact hlt;exfalso;obtain⟨_,oi,hoi,_⟩:=mem_ready.1 hi;have hlt:i<ops.size:=(Array.getElem?_eq_some_iff.1 hoi).1;have hsc:Region.sinkB .any ops h=true/\Region.chainB .any ops h=true:=by
     have h3:=hB'.1.2;simp only[Agz,Afz] at h3;rcases h3 with h3|h3;have:=Abz h3;omega;exact h3
    exact tail_waits hsc.1 hsc.2 (by omega) inv.head _ j0 rfl hj0 hl0 i hge hi
   obtain⟨hun,o,ho,hall⟩:=mem_ready.1 hi;have hmem:o∈ops.toList:=by rw[Ahz];exact Aiz ho
   have hoko:gD n o=true:=List.all_eq_true.1 hok' o hmem;have hguards:qB n ops=true:=by
    refine List.all_eq_true.2 λo' ho'=>?_;have:=List.all_eq_true.1 hok' o' ho';simp only[gD,Afz] at this;exact this.1.1
   have hst:=ee.get (ops.toList.take h) 0 i o hstep (by rw[Anz,ao hih];simpa using ho) ρ' w' inv.ext inv.out (λj hj=>by
    have hjd:j∈fw o:=by simpa using hj
    obtain⟨e,he,Y,rfl⟩:=pq.1 hjd;have:=po hB ho _ hjd;exact inv.known _ (by omega) (hall e he Y))
   rw[Adz] at hst
   -- what holds when it has been carried out
   have next:∀ v w'',(R w' w''/\Ψ i ((D i).map (E.put ρ' o.dst v)) w'')->wpAny P .any ops (lift n Q) (c+(ops.size-h)) (listed.setIfInBounds i true) (a.put o.dst v) w'':=by
    intro v w'' ⟨hx,hΨ⟩;have hi_size:i<listed.size:=by rw[inv.head.size];omega
    have hi_un:listed.getD i false=false:=getD_both hun;refine ih _ (E.put ρ' o.dst v) _ _ ?_ ⟨inv.head.set hi hih,htrans inv.ext hx,λt ht=>?_,λj hj hl=>?_⟩ (Z.put _ _);have hcount:∀ (l:List Nat),l.Nodup->i∈l->(l.filter (λj=>!listed.getD j false)).length=(l.filter (λj=>!(listed.setIfInBounds i true).getD j false)).length+1:=by
     intro l
     induction l with
     | nil=>intro _ h;cases h
     | cons x l ihl=>
      intro hnd hmem;rw[List.nodup_cons] at hnd;by_cases hx:x=i;subst hx;have hsame:l.filter (λj=>!listed.getD j false)=l.filter (λj=>!(listed.setIfInBounds x true).getD j false):=
       List.filter_congr λy hy=>by
        have hne:x≠y:=λe=>hnd.1 (by rw[e];exact hy);rw[getD_set_ne false hne]
      have hset:(listed.setIfInBounds x true).getD x false=true:=by simp[hi_size]
      rw[Aoz,Aoz,ao (by rw[hi_un];rfl),al (by rw[hset];decide),hsame,bH];have hmem' : i∈l:=by rcases List.mem_cons.1 hmem with h|h;exact absurd h.symm hx;exact h
      have:=ihl hnd.2 hmem';rw[Aoz,Aoz,getD_set_ne false (Ne.symm hx)];split;rw[bH,bH,this];exact this
    have:=hcount (Amz h) List.nodup_range (List.mem_range.2 hih);omega;cases hd:o.dst with
    | none=>exact inv.out t ht
    | some d=>
     have hne:t≠d:=λe=>ht i hih (by unfold di;rw[ho];simp[hd,e]);show upd ρ' d v t=ρ t;rw[tc _ _ hne];exact inv.out t ht
    by_cases hji:j=i;subst hji;exact hΨ;rw[getD_set_ne false (Ne.symm hji)] at hl;have hkn:=hext j _ _ _ (inv.known j hj hl) hx;obtain⟨oj,hoj⟩:∃ oj,ops[j]?=some oj:=⟨ops[j]'(by omega),by rw[Akz (by omega)]⟩
    have hnot:∀ t,o.dst=some t->t∉D j:=λt ht hmemt=>by
     have hdi:di ops i=some t:=by unfold di;rw[ho];exact ht
     have h5:=(BK hB hoj hdi (Ne.symm hji)).1 hmemt;obtain⟨e,he,Y,hon⟩:=pq.1 h5;have:=inv.head.closed j oj hoj hl e he Y;rw[hon,hi_un] at this;cases this
    rw[Zf hnot];exact hkn
   unfold wpOp;simp only[ho];rw[xE hguards Z];rcases hst with ⟨hg,hop⟩|⟨hg,hR⟩
   rw[ao hg];exact .inl (hop a _ _ Z hoko next);rw[al (by rw[hg];decide)];exact next undef w' hR
 have h0:qp R n ops h D Ψ ρ w (Alz ops.size false) ρ { w with drawn:=w.drawn+1 }:=by
  refine⟨⟨by simp,λj oj _ hl=>?_,λt _ ht=>by simp[ht]⟩,hdraw w,λ_ _=>rfl,λj _ hl=>?_⟩;rw[getD_replicate_false] at hl;cases hl;rw[getD_replicate_false] at hl;cases hl
 have hc0:((Amz h).filter (λj=>!(Alz ops.size false).getD j false)).length=h:=by
  rw[List.filter_eq_self.2 (λj _=>by rw[getD_replicate_false];rfl)];simp
 have:=main h _ ρ a _ hc0 h0 ha;rwa[show h+(ops.size-h)=ops.size by omega] at this
theorem Rf {o:Oper}{v:Value}(hrefl:∀ w,R w w)(h:oH P ops (R w) o ρ w v){S:Value->World->Prop}(hR:∀ w',R w w'->S v w'):AX P n ops o ρ w S:=by
 rcases h with ⟨hg,h⟩|⟨hg,rfl⟩
 refine .inl ⟨hg,λa Z5 Q' ha hok hK=>?_⟩;unfold Oper.wp;rw[qK ha hok];generalize (execOp (E.ev ρ) o).run P w=r at h;cases r with
 | ok x w'=>
  cases x<;>simp only[Oper.quietUpon] at h<;>simp only[Oper.upon]
  case value u=>
   obtain⟨e1,e2⟩:=h;subst e1;subst e2;exact hK _ _ (hR _ (hrefl _))
  case skip=>
   obtain⟨e1,e2⟩:=h;subst e1;subst e2;exact hK _ _ (hR _ (hrefl _))
  case enter f args=>
   obtain⟨e1,hc⟩:=h;subst e1;exact hc.mono λe w'' ⟨he,hw''⟩=>by subst he;exact hK _ _ (hR _ hw'')
 | halt x w'=>simp only[Oper.quietUpon] at h
 exact .inr ⟨hg,hR _ (hrefl _)⟩
theorem HR:∀ (l:List Oper) (k:Nat) (ρ:Env),(∀ j,l[j]?=if j<l.length then ops[k+j]? else none)->(∀ i j,i<j->j<k+l.length->∀ t,di ops i=some t->di ops j≠some t)->QC R P n ops C F l ρ ->
  ∃ (vs:Nat->Value) (ρe:Env),F ρe/\(∀ t,(∀ j,k<=j->j<k+l.length->di ops j≠some t)->ρe t=ρ t) /\
   ∀ j o,k<=j->j<k+l.length->ops[j]?=some o->(∀ d,o.dst=some d->ρe d=vs j) /\
    ∃ ρj:Env,(∀ t,(∀ i,j<=i->i<k+l.length->di ops i≠some t)->ρj t=ρe t)/\∀ w,C w->oH P ops (R w) o ρj w (vs j)
 | [],k,ρ,_,_,h=>⟨λ_=>undef,ρ,h,λ_ _=>rfl,λj o U W=>by simp at W;omega⟩
 | o::l,k,ρ,hl,hd,h=>by
  obtain⟨v,U,W⟩:=h;have hlen:k+1+l.length=k+(o::l).length:=by simp;omega
  obtain⟨vs,ρe,hF,hout,hvs⟩:=HR l (k+1) (E.put ρ o.dst v) (λj=>by
   have:=hl (j+1);simp only[Apz,bH] at this;rw[this];by_cases hj:j<l.length;rw[ao (by omega),ao hj];congr 1;omega;rw[al (by omega),al hj]) (λi j hij hj=>hd i j hij (by omega)) W
  have ho:ops[k]?=some o:=by have:=hl 0;simpa using this.symm
  refine⟨λj=>if j=k then v else vs j,ρe,hF,λt ht=>?_,λj o' hj1 hj2 hoj=>?_⟩;rw[hout t (λj a b=>ht j (by omega) (by omega))];cases hdst:o.dst with
  | none=>rfl
  | some d=>exact tc _ _ λe=>ht k (Acz _) (by simp) (by unfold di;rw[ho];simp[hdst,e])
  by_cases hjk:j=k;subst hjk;have:o'=o:=Option.some.inj (hoj.symm.trans ho);subst this;simp only[ao];refine⟨λd hdst=>?_,ρ,λt ht=>?_,U⟩;rw[hout d (λi a b=>hd j i (by omega) (by omega) d (by unfold di;rw[ho];exact hdst))];rw[hdst];exact E5 _ _ _;rw[hout t (λi a b=>ht i (by omega) (by omega))];cases hdst:o'.dst with
  | none=>rfl
  | some d=>exact (tc _ _ λe=>ht j (Acz _) (by simp) (by unfold di;rw[ho];simp[hdst,e])).symm
  obtain⟨h3,ρj,h4,h5⟩:=hvs j o' (by omega) (by omega) hoj;simp only[al hjk];exact⟨h3,ρj,λt ht=>h4 t λi a b=>ht i a (by omega),h5⟩
theorem Rr {id:Nat}(h:Nat)(hrefl:∀ w,R w w)(htrans:∀ {a b c},R a b->R b c->R a c)(hdraw:∀ w,R w { w with drawn:=w.drawn+1 })(hm:P.follows .mixedOrders=true)(hB:(j9 ops h (ic ops)&&Td ops h)=true)
  (hq:QC R P n ops (R w) (λρ'=>∀ w',R w w'->WL P n ops Q (ops.toList.drop h) ρ' w') (ops.toList.take h) ρ):CW P n (.region id ops true) Q ρ w:=by
 simp only[Afz] at hB;obtain⟨hB1,hB2⟩:=hB;have hle:h<=ops.size:=by
  have:=hB1;simp only[j9,Afz] at this;simpa using this.1.1.1
 have hlen:(ops.toList.take h).length=h:=by simp;omega
 have hdist:∀ i j,i<j->j<h->∀ t,di ops i=some t->di ops j≠some t:=λi j hij hj t hi hjt=>by
  have hoj:ops[j]?=some (ops[j]'(by omega)):=Akz _;have:=(BK hB1 hoj hi (by omega)).2;unfold di at hjt;rw[hoj] at hjt;exact this hjt
 obtain⟨vs,ρe,hF,hout,hvs⟩:=HR (ops.toList.take h) 0 ρ (λj=>by
  rw[hlen,Anz,Adz];split;simp;rfl) (by rw[hlen];intro i j hij hj;exact hdist i j hij (by omega)) hq
 rw[hlen,Adz] at hout hvs;intro hok;refine Rs (R:=R) h (ic ops) (λi l _=>l=(if di ops i=none then [] else [vs i])) hm hB1 htrans hdraw (λ_ _ _ _ h _=>h) ?_ ?_ hok
 -- each operation of the head
 have hok' : ops.toList.all (gD n)=true:=by simpa[gR] using hok
 have main:∀ (l:List Oper) (k:Nat),(∀ j,j<l.length->l[j]?=ops[k+j]?)->k+l.length<=h ->
   ee R P n ops h (ic ops) (λi l _=>l=(if di ops i=none then [] else [vs i])) ρ w k l:=by
  intro l
  induction l with
  | nil=>intro k _ _;trivial
  | cons o l ih=>
   intro k hl hk;have ho:ops[k]?=some o:=by have:=hl 0 (by simp);simpa using this.symm
   simp only[bH] at hk;refine⟨λρ' w' hw ho' hp=>?_,ih (k+1) (λj hj=>by have:=hl (j+1) (by simp;omega);simp only[Apz] at this;rw[this];congr 1;omega) (by omega)⟩;obtain⟨h3,ρj,h4,h5⟩:=hvs k o (Aez _) (by omega) ho;have hoko:gD n o=true:=List.all_eq_true.1 hok' o (by rw[Ahz];exact Aiz ho);have hsame:∀ t∈o.looksAt ops,ρ' t=ρj t:=λt ht=>by
    by_cases hin:∃ j,j<h/\di ops j=some t;obtain⟨j,hj,hdj⟩:=hin;have hdir:j∈fw o:=by
     have h6:=List.all_eq_true.1 hB2 k (List.mem_range.2 (by omega));simp only[ho] at h6;have h7:=List.all_eq_true.1 (List.all_eq_true.1 h6 t ht) j (List.mem_range.2 hj);simp only[hdj,Agz,Bool.not_eq_true'] at h7;rcases h7 with h7|h7;have:Aaz t t=true:=Nat.beq_refl t;rw[this] at h7;cases h7;simpa using h7
    have hjk:=po hB1 ho j hdir;have h8:=hp j (by simpa using hdir);have hne:di ops j≠none:=by rw[hdj];simp
    simp only[ic,hdj,Aqz,List.map_cons,List.map_nil,reduceCtorEq,if_false] at h8;have h9:ρ' t=vs j:=by injection h8
    obtain⟨oj,hoj⟩:∃ oj,ops[j]?=some oj:=⟨ops[j]'(by omega),by rw[Akz (by omega)]⟩
    have hdo:oj.dst=some t:=by unfold di at hdj;rw[hoj] at hdj;exact hdj
    rw[h9,h4 t (λi a b=>hdist j i (by omega) b t hdj)];exact ((hvs j oj (Aez _) hj hoj).1 t hdo).symm;have hno:∀ j,j<h->di ops j≠some t:=λj hj hd=>hin ⟨j,hj,hd⟩;rw[ho' t hno,h4 t (λi _ b=>hno i b),hout t (λj _ b=>hno j b)]
   have hopq:=oH.congr hoko hsame (h5 w' hw);exact Rf hrefl hopq λw'' hx=>⟨hx,by
    simp only[ic,di,ho,aj];cases hd:o.dst with
    | none=>simp
    | some d=>simp[E.put,E5]⟩
 exact main _ 0 (λj hj=>by rw[hlen] at hj;rw[Anz,ao hj,Adz];simp) (by rw[hlen];omega);intro ρ' w' hw ho' hk;have:ρ'=ρe:=by
  funext t;by_cases hin:∃ j,j<h/\di ops j=some t;obtain⟨j,hj,hdj⟩:=hin;have h8:=hk j hj;simp only[ic,hdj,Aqz,List.map_cons,List.map_nil,reduceCtorEq,if_false] at h8;have h9:ρ' t=vs j:=by injection h8
  obtain⟨oj,hoj⟩:∃ oj,ops[j]?=some oj:=⟨ops[j]'(by omega),by rw[Akz (by omega)]⟩
  have hdo:oj.dst=some t:=by unfold di at hdj;rw[hoj] at hdj;exact hdj
  rw[h9];exact ((hvs j oj (Aez _) hj hoj).1 t hdo).symm;have hno:∀ j,j<h->di ops j≠some t:=λj hj hd=>hin ⟨j,hj,hd⟩;rw[ho' t hno,hout t (λj _ b=>hno j b)]
 rw[this];exact hF w' hw
end loose
end
end Go.E
