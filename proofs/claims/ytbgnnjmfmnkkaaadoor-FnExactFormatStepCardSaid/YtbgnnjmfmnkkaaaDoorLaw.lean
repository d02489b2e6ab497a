/- The law FnExactFormatStep returns true for all arguments and leaves them as they were, as the tied card says it: the tables that strconv.Itoa reads hold what the text of the program lays. -/
import Derived.Test.YtbgnnjmfmnkkaaaDoorMath2
import Derived.Deep.DeepHandedRow
import Derived.Lib.LaidTab
import Derived.OpenShut
import Derived.ProofKit
import Derived.Test.YtbgnnjmfmnkkaaaDoorCards
import Derived.Test.YtbgnnjmfmnkkaaaDoorTie
import Derived.WalkKit
set_option linter.unusedVariables false
set_option linter.unusedSimpArgs false
set_option linter.ambiguousOpen false
set_option linter.unusedSectionVars false
set_option linter.unnecessarySimpa false
set_option maxRecDepth 100000
set_option maxHeartbeats 1000000
namespace Go.Proofs.YtbgnnjmfmnkkaaaDoor
open Go Go.E
open Go.E.Rep (rd)
instance:Rep Step where
 sz:=4
 pos:=by decide
 rd S w x cs:=∃ c0 c1 c2 c3,cs=[c0,c1,c2,c3]∧rd S w x.Kind [c0]∧rd S w x.Pos [c1]∧rd S w x.Visit [c2]∧rd S w x.Name [c3]
 len h:=by obtain⟨_,_,_,_,rfl,_⟩:=h; rfl
 one h:=by
  obtain⟨c0,c1,c2,c3,rfl,h0,h1,h2,h3⟩:=h
  intro v hv
  simp only [List.mem_cons,List.not_mem_nil,or_false] at hv
  rcases hv with rfl | rfl | rfl | rfl
  ·exact Rep.one h0 _ (by simp)
  ·exact Rep.one h1 _ (by simp)
  ·exact Rep.one h2 _ (by simp)
  ·exact Rep.one h3 _ (by simp)
 mono h k:=by obtain⟨c0,c1,c2,c3,e,h0,h1,h2,h3⟩:=h; exact⟨c0,c1,c2,c3,e,Rep.mono h0 k,Rep.mono h1 k,Rep.mono h2 k,Rep.mono h3 k⟩
 frame h k:=by obtain⟨c0,c1,c2,c3,e,h0,h1,h2,h3⟩:=h; exact⟨c0,c1,c2,c3,e,Rep.frame h0 k,Rep.frame h1 k,Rep.frame h2 k,Rep.frame h3 k⟩
 bound h:=by obtain⟨c0,c1,c2,c3,e,h0,h1,h2,h3⟩:=h; exact⟨c0,c1,c2,c3,e,Rep.bound h0,Rep.bound h1,Rep.bound h2,Rep.bound h3⟩
theorem q9R:Opens Tryd.prog 3 Int:=Opens.int (by kernel_rfl) Tryd.underlying3
theorem z0s:Opens Tryd.prog 9 ByteArray:=Opens.str (by kernel_rfl) Tryd.underlying9
theorem z0h:Opens Tryd.prog 23 Step:=by
 refine Opens.struct (k:=4) (by kernel_rfl) rfl Tryd.underlying23 fun H enc w base spare held n cs xs hl hx hf=>?_
 obtain⟨c0,t0,rfl,hl0⟩:=lenS hl
 obtain⟨c1,t1,rfl,hl1⟩:=lenS hl0
 obtain⟨c2,t2,rfl,hl2⟩:=lenS hl1
 obtain⟨c3,t3,rfl,hl3⟩:=lenS hl2
 obtain rfl:=len0 hl3
 obtain⟨a0,r0⟩:=Opens.fld (i:=0) (t:=3) (off:=0) (k:=1) q9R hf hx rfl rfl rfl rfl
 have q0:rd (fun _=>True) w a0 [c0]:=r0
 obtain⟨e0,h0_0⟩:=q0
 simp only [List.cons.injEq,and_true] at e0
 obtain rfl:=e0
 obtain⟨a1,r1⟩:=Opens.fld (i:=1) (t:=3) (off:=1) (k:=1) q9R hf hx rfl rfl rfl rfl
 have q1:rd (fun _=>True) w a1 [c1]:=r1
 obtain⟨e1,h1_0⟩:=q1
 simp only [List.cons.injEq,and_true] at e1
 obtain rfl:=e1
 obtain⟨a2,r2⟩:=Opens.fld (i:=2) (t:=3) (off:=2) (k:=1) q9R hf hx rfl rfl rfl rfl
 have q2:rd (fun _=>True) w a2 [c2]:=r2
 obtain⟨e2,h2_0⟩:=q2
 simp only [List.cons.injEq,and_true] at e2
 obtain rfl:=e2
 obtain⟨a3,r3⟩:=Opens.fld (i:=3) (t:=9) (off:=3) (k:=1) z0s hf hx rfl rfl rfl rfl
 have q3:rd (fun _=>True) w a3 [c3]:=r3
 obtain⟨e3,h3_0⟩:=q3
 simp only [List.cons.injEq,and_true] at e3
 obtain rfl:=e3
 exact⟨⟨a0,a1,a2,a3⟩,_,_,_,_,rfl,⟨rfl,h0_0⟩,⟨rfl,h1_0⟩,⟨rfl,h2_0⟩,⟨rfl,h3_0⟩⟩
open Go.A in
theorem q9S {S1:Md→Nat→Prop}{F:Nat→Prop}{w:World}{g:Nat→G}{a:Step}{cs:List Value}(h:rd F w a cs):vr S1 w g (Step.x .fz a) (.agg cs.toArray)∧rngI .i64 a.Pos∧rngI .i64 a.Visit∧a.Name.size≤9223372036854775807:=by
 obtain⟨c0,c1,c2,c3,rfl,⟨e0,h0⟩,⟨e1,h1⟩,⟨e2,h2⟩,⟨e3,h3⟩⟩:=h
 simp only [List.cons.injEq,and_true] at e0 e1 e2 e3
 subst e0; subst e1; subst e2; subst e3
 refine⟨?_,h1,h2,h3⟩
 show vr S1 w g (.ag _) _
 rw [vr]
 refine⟨_,rfl,?_⟩
 simp only [Step.l,List.map_cons,List.map_nil,dX,vrs,vr,rdC]
 exact⟨_,_,rfl,⟨rfl,h0⟩,_,_,rfl,⟨rfl,h1⟩,_,_,rfl,⟨rfl,h2⟩,_,_,rfl,⟨rfl,h3⟩,rfl⟩
section
open Go.ChangeShapes Go.WideShapes Go.ChangeAt Go.RowKit
theorem q9e:ownKnob Tryd.prog.godebug=none:=by kernel_rfl
theorem q9f:laidOutB Tryd.prog=true:=by kernel_rfl
theorem gTab:Tryd.prog.globalNamed "internal/strconv.uint64pow10" = some 0:=by kernel_rfl
theorem gTabType:(Tryd.prog.globals[0]?).map (·.type)=some 40:=by kernel_rfl
theorem z0t {W:World}(h:laidMetH Tryd.prog Rows.fnExactFormatStepRow.laid W):KT W:=by
 obtain⟨ps,hL,_⟩:=(h:laidMet Tryd.prog Rows.fnExactFormatStepRow.laid W)
 obtain⟨_,_,_,_,_,_,_,_,_,_,hL,_⟩:=hL
 obtain⟨_,_,_,_,_,_,_,_,_,_,hL,_⟩:=hL
 obtain⟨g,t,cs,fuel,p,q,hg,ht,hvar,hd,_,_⟩:=hL
 obtain rfl:=Option.some.inj (gTab.symm.trans hg)
 obtain rfl:=Option.some.inj (gTabType.symm.trans ht)
 have e:(Rows.laid_internal_strconv_uint64pow10:DataW Unit)=Lib.tabData .u64 Lib.pow10Tab:=by kernel_rfl
 rw [e] at hd
 unfold KT Lib.TabIs
 rw [hvar,← Lib.cells_of_tab Tryd.underlying40 Tryd.underlying33 (by kernel_rfl) (by kernel_rfl) hd]
theorem q9g (H:Type)(enc:TypeId × Value→H)(W:World)(base:Nat)(args:Array Value)(ds gs:List (DataW H))(before:List MemPlace)
  (hval0:∀ (j:Nat) t v,Tryd.f3.params[j]? = some t→args[j]? = some v→Value.okWide Tryd.prog W .any base t v)
  (hW:DataW.Whole enc Tryd.prog Tryd.f3.params.toList Rows.fnExactFormatStepSpec.vars false W args.toList ds gs before) (hL:laidMetH Tryd.prog Rows.fnExactFormatStepRow.laid W) :
  Calls Tryd.prog 3 args W fun e W'=>∃ v,e = .returned v∧Rows.fnExactFormatStepSpec.post enc Tryd.prog Tryd.f3 false true false false W args v W':=by
 have hval:∀ (j:Nat) t v,Tryd.f3.params[j]? = some t→args[j]? = some v→Value.okWide Tryd.prog W .any base t v:=hval0
 have hW':=hW
 obtain⟨p,q,hA0,hV,rfl,hfz,hnd⟩:=hW
 have hA:DataW.TrodAll enc Tryd.prog W 0 (fun _=>true) true Tryd.f3.params.toList args.toList ds p:=hA0
 rw [Tryd.params3] at hA hval
 obtain⟨v0,vs0,d0,ds0,p0,q0,hargs,rfl,rfl,t0,r0⟩:=trodAll_cons hA
 obtain⟨rfl,rfl,rfl⟩:=trodAll_nil r0
 obtain rfl:args=#[v0]:=by cases args; simp_all
 obtain⟨rfl,rfl⟩:=trodVars_none hV
 have k0:=t0
 have lt0:∀ x∈p0,x.block < W.heap.size:=by obtain⟨m,hm⟩:=k0; exact DataW.trod_lt m _ _ _ hm
 obtain⟨m0,hm0⟩:=t0
 obtain⟨a0,ha0⟩:=z0h.2 _ _ _ _ _ _ _ _ _ hm0
 obtain⟨⟨c0⟩,rfl,_⟩:=okWide_struct Tryd.underlying23 (hval 0 23 v0 rfl rfl)
 clear hA0 hval0
 obtain⟨hv,hp,hvi,hn⟩:=q9S (S1:=Go.A.SM (fun b=>b < W.heap.size) fun _=>False) (g:=fun _=>.none) ha0
 refine Calls.mono (Go.A.OkK.law (z0t hL) hv rfl (q4w (q9d a0 hp hvi hn))) fun e W' ⟨v,he,hch,hv⟩=>?_
 subst he; subst hv
 have bel:=Ext.below hch
 exact⟨_,rfl,_,_,_,[],_,[],hW',trodAll_mk1 (shut_bool Tryd.underlying4 _),(trodAll_cons_mk (Below.trod q9f (by kernel_rfl) (of_decide_eq_true (by kernel_rfl)) k0 bel lt0) trodAll_mk0),rfl,bel.frame _,fun h=>by cases h⟩
def setC (v:Array Value):Obj→Obj
 | .cells _ t f=>.cells v t f
 | o=>o
noncomputable def q5P (os:Os):World:=
 { World.holding Tryd.prog os ⟨#[],#[],[]⟩ with heap:=(((World.holding Tryd.prog os ⟨#[],#[],[]⟩).heap.modify 0 (setC #[.int .u64 1,.int .u64 10,.int .u64 100,.int .u64 1000,.int .u64 10000,.int .u64 100000,.int .u64 1000000,.int .u64 10000000,.int .u64 100000000,.int .u64 1000000000,.int .u64 10000000000,.int .u64 100000000000,.int .u64 1000000000000,.int .u64 10000000000000,.int .u64 100000000000000,.int .u64 1000000000000000,.int .u64 10000000000000000,.int .u64 100000000000000000,.int .u64 1000000000000000000,.int .u64 10000000000000000000])).modify 1 (setC #[.int .u8 0,.int .u8 1,.int .u8 28,.int .u8 2,.int .u8 29,.int .u8 14,.int .u8 24,.int .u8 3,.int .u8 30,.int .u8 22,.int .u8 20,.int .u8 15,.int .u8 25,.int .u8 17,.int .u8 4,.int .u8 8,.int .u8 31,.int .u8 27,.int .u8 13,.int .u8 23,.int .u8 21,.int .u8 19,.int .u8 16,.int .u8 7,.int .u8 26,.int .u8 12,.int .u8 18,.int .u8 6,.int .u8 11,.int .u8 5,.int .u8 10,.int .u8 9])).modify 2 (setC #[.int .u8 0,.int .u8 1,.int .u8 56,.int .u8 2,.int .u8 57,.int .u8 49,.int .u8 28,.int .u8 3,.int .u8 61,.int .u8 58,.int .u8 42,.int .u8 50,.int .u8 38,.int .u8 29,.int .u8 17,.int .u8 4,.int .u8 62,.int .u8 47,.int .u8 59,.int .u8 36,.int .u8 45,.int .u8 43,.int .u8 51,.int .u8 22,.int .u8 53,.int .u8 39,.int .u8 33,.int .u8 30,.int .u8 24,.int .u8 18,.int .u8 12,.int .u8 5,.int .u8 63,.int .u8 55,.int .u8 48,.int .u8 27,.int .u8 60,.int .u8 41,.int .u8 37,.int .u8 16,.int .u8 46,.int .u8 35,.int .u8 44,.int .u8 21,.int .u8 52,.int .u8 32,.int .u8 23,.int .u8 11,.int .u8 54,.int .u8 26,.int .u8 40,.int .u8 15,.int .u8 34,.int .u8 20,.int .u8 31,.int .u8 10,.int .u8 25,.int .u8 14,.int .u8 19,.int .u8 9,.int .u8 13,.int .u8 8,.int .u8 7,.int .u8 6]) }
def q9h:Value:=.agg #[.int .i64 0,.int .i64 0,.int .i64 0,.string ⟨#[]⟩]
theorem q9i (os:Os):laidMet Tryd.prog Rows.fnExactFormatStepRow.laid ((q5P os).forCall (fun _ _=>0) ⟨#[],#[q9h],[]⟩).memory:=
 laidMet_of_run' 8 (by kernel_rfl) (by kernel_rfl)
theorem z0u (os:Os){H:Type}(enc:TypeId × Value→H):∃ places,DataW.whole enc Tryd.prog ((q5P os).forCall (fun _ _=>0) ⟨#[],#[q9h],[]⟩).memory Tryd.f3.params.toList Rows.fnExactFormatStepSpec.vars false #[q9h].toList 8=some ([.agg [.lit (.int .i64 0),.lit (.int .i64 0),.lit (.int .i64 0),.lit (.string [])]],[],places):=
 ⟨[],by kernel_rfl⟩
set_option maxRecDepth 100000 in
theorem z0i (os:Os)(started:os.Started)(H:Type)(enc:TypeId × Value→H)(F:Stop.Interp) :
  ReturnsInHanded {} Tryd.checked os 3 .any ((OpenSpec.ofChange Rows.fnExactFormatStepSpec).preRow enc Tryd.prog Tryd.f3 Rows.fnExactFormatStepRow.domain false Rows.fnExactFormatStepRow.laid) (((OpenSpec.ofChange Rows.fnExactFormatStepSpec).at F).post enc Tryd.prog Tryd.f3 false true false false):=by
 obtain⟨places,hx⟩:=z0u os enc
 refine returnsInHanded_of_row (C:=Tryd.checked) (s:=OpenSpec.ofChange Rows.fnExactFormatStepSpec) q9e started (by kernel_rfl) Tryd.func3
  (witness_row_at (enc:=enc) (C:=Tryd.checked) false (q5P os) #[q9h] rfl (by kernel_rfl) (by kernel_rfl) (by kernel_rfl)
   (OpenSpec.preRow_of_cond 8 hx (by kernel_rfl) (fun k hk=>by cases hk) (by kernel_rfl) (q9i os))) ?_
 intro W base args ds gs before hval hW _ _ _ hL _ _
 exact q9g H enc W base args ds gs before hval hW hL
theorem said:Rows.FnExactFormatStepSaid:=
 OpenClaim.holds_of_cond 3 Tryd.f3 rfl rfl rfl rfl rfl rfl rfl ⟨rfl,rfl,rfl,rfl,rfl⟩ rfl rfl rfl rfl rfl (by kernel_rfl) Tryd.func3 (by kernel_rfl)
  (of_decide_eq_true (by kernel_rfl)) (by unfold Func.isWrapper; first | (rw [if_pos (by decide +kernel)]; kernel_rfl) | (rw [if_neg (by decide +kernel)]; exact⟨rfl,rfl⟩))
  (fun os started H enc _ F=>by rw [OpenClaim.pre_eq_preRow]; exact z0i os started H enc F)
theorem z0v (f:FuncId)(fn:Func)(hf:Tryd.pinned.checked.prog.funcNamed "loop.example/g00512/laws.FnExactFormatStep" = some f) (hfn:Tryd.pinned.checked.prog.funcs[f]? = some fn) :
  false=Tryd.pinned.checked.prog.looks []∧∀ (j:Nat) t,fn.params[j]? = some t→Tryd.pinned.checked.prog.wantsStandIn t=false:=by
 obtain rfl:f=3:=Option.some.inj ((show Tryd.prog.funcNamed "loop.example/g00512/laws.FnExactFormatStep" = some 3 by kernel_rfl).symm.trans hf) |>.symm
 obtain rfl:fn=Tryd.f3:=(Option.some.inj (Tryd.func3.symm.trans hfn)).symm
 refine⟨by kernel_rfl,fun j t ht=>?_⟩
 rw [Tryd.params3] at ht
 obtain rfl:t=23:=by simpa using Array.mem_of_getElem? ht
 exact (show Tryd.prog.wantsStandIn 23=false by kernel_rfl)
theorem fnExactFormatStep_holds:Rows.FnExactFormatStepCardSaid:=
 Claim7.holds_tied_plain_at .later [] _ _ _ _ said (fun _ h=>by cases h) (by kernel_rfl) (fun _ h=>by cases h) fnExactFormatStep_row_tie rfl ⟨rfl,rfl⟩ (by kernel_rfl) rfl z0v (by kernel_rfl)
end
end Go.Proofs.YtbgnnjmfmnkkaaaDoor
