/- The law FnExactIsWellFormed returns true for all arguments and leaves them as they were; there is no condition. -/
import Derived.Test.YtmblndlpkpaobaaGreatRows
import Derived.Test.YtmblndlpkpaobaaGreatMathNHw
import Derived.Test.YtmblndlpkpaobaaGreatHelpb
set_option linter.unusedVariables false
set_option linter.unusedSimpArgs false
set_option linter.ambiguousOpen false
set_option linter.unusedSectionVars false
set_option linter.unnecessarySimpa false
set_option linter.unusedVariables false
set_option linter.unusedSimpArgs false
set_option maxRecDepth 100000
set_option maxHeartbeats 1000000
namespace Go.Proofs.YtmblndlpkpaobaaGreat
open Go Go.E
open Go.E.Rep (rd)
open Go.E.Sep (own)
theorem ag25:aggT Tryz.prog 25=some true:=by kernel_rfl
theorem sz25:szT Tryz.prog 25=some 2:=by kernel_rfl
theorem ok4:q0a Tryz.prog 4=true:=by kernel_rfl
theorem ok5:q0a Tryz.prog 5=true:=by kernel_rfl
theorem ok6:q0a Tryz.prog 6=true:=by kernel_rfl
theorem ok7:q0a Tryz.prog 7=true:=by kernel_rfl
theorem ok8:q0a Tryz.prog 8=true:=by kernel_rfl
theorem z0A (w:World){S1:Nat→Prop}(g:Grammar){cg:List Value}(hg:rd S1 w g cg)(bg:Sz.szd g≤1048576) :
  Ret Tryz.prog 5 #[.agg cg.toArray] w (fun _=>False) fun v w'=>v = .bool ((q0Q g).getD false):=by
 obtain⟨b,h1,h2⟩:∃ b,q0Q g=some b∧q4t g=some b:=⟨_,z6Q bg,z6R bg⟩
 have hx:(q0Q g).getD false=b:=by rw [h1]; rfl
 rw [hx]
 exact z1w h1 (F0:=fun _=>True) (Rep.mono hg fun _ _=>trivial)
theorem z0B (w:World){S1:Nat→Prop}(g:Grammar){cg:List Value}(hg:rd S1 w g cg)(bg:Sz.szd g≤1048576) :
  Ret Tryz.prog 7 #[.agg cg.toArray] w (fun _=>False) fun v w'=>v = .bool ((q0Q g).getD false):=by
 obtain⟨b,h1,h2⟩:∃ b,q0Q g=some b∧q4t g=some b:=⟨_,z6Q bg,z6R bg⟩
 have hx:(q0Q g).getD false=b:=by rw [h1]; rfl
 rw [hx]
 exact z1E h2 (F0:=fun _=>True) (Rep.mono hg fun _ _=>trivial)
theorem q8r (w:World){Sg:Nat→Prop}(g:Grammar){cg:List Value}(hg:rd Sg w g cg) :
  Ret Tryz.prog 3 #[.agg cg.toArray] w (fun _=>False) fun v _=>v = .bool true:=by
 refine enter Tryz.func3 rfl rfl rfl ?_
 have hK1:=hg
 obtain⟨v1,v2,rfl,hs1,hs2⟩:=hg
 obtain⟨A1,c1,rfl,hc1,hm1⟩:=hs1.form
 obtain⟨A2,c2,rfl,hc2,hm2⟩:=hs2.form
 have qg:=q5e g
 refine CW.seq (CW.reg ?_)
 refine WL.box rfl rfl rfl rfl rfl fun b1 w1 hEb1 hbb1 hBb1=>?_
 refine WL.ev rfl rfl (Ev.as rfl rfl) (WL.nil ?_)
 refine CW.seq (CW.reg ?_)
 refine WL.ev rfl rfl (Ev.as rfl rfl) (WL.nil ?_)
 refine CW.seq (CW.reg ?_)
 refine WL.ev rfl rfl (Ev.lda rfl ag25 sz25 rfl (At.blk hBb1) rfl) (WL.ev rfl rfl (Ev.mv rfl rfl) ?_)
 refine WL.call rfl rfl rfl rfl rfl ok4 rfl (z3p _ g (rd_ext hK1 hEb1) _ (by omega) (by omega)) ?_
 rintro _ w2 hEw2 ⟨r1,rfl,hr1⟩
 have hq1:=q5e g
 refine WL.ev rfl rfl (Ev.as rfl rfl) (WL.nil ?_)
 refine CW.fresh [(1,.pointer (some ⟨b1,0,none⟩)),(2,.bool false),(3,.int .i64 (r1))] ⟨rfl,rfl,rfl,trivial⟩ fun σ=>?_
 refine CW.seq (CW.seq (CW.reg ?_))
 refine WL.ev rfl rfl (Ev.mv rfl rfl) (WL.ev rfl rfl (Ev.bin rfl rfl rfl Bin.lss) (WL.nil ?_))
 refine CW.condD rfl (fun h1=>?_) (fun h1=>?_)
 ·skip
  refine CW.fresh [(1,.pointer (some ⟨b1,0,none⟩)),(2,.bool false)] ⟨rfl,rfl,trivial⟩ fun σ=>?_
  refine CW.seq (CW.reg ?_)
  refine WL.ev rfl rfl (Ev.as rfl rfl) (WL.nil ?_)
  refine CW.ret ?_
  exact⟨_,res1 rfl rfl rfl,(hEb1.trans hEw2),rfl⟩
 ·skip
  refine CW.skip ?_
  refine CW.fresh [(1,.pointer (some ⟨b1,0,none⟩)),(2,.bool false)] ⟨rfl,rfl,trivial⟩ fun σ=>?_
  refine CW.seq (CW.reg ?_)
  refine WL.ev rfl rfl (Ev.lda rfl ag25 sz25 rfl (At.blk (hBb1.ext hEw2)) rfl) ?_
  refine WL.call rfl rfl rfl rfl rfl ok6 rfl (q7F _ g (rd_ext hK1 (hEb1.trans hEw2)) (by omega)) ?_
  rintro _ w3 hEw3 ⟨cs1,rfl,L1,hO1,hN1,hF1⟩
  refine WL.call rfl rfl rfl rfl rfl ok5 rfl (z0A _ g (Sep.own_rd hO1) (by omega)) ?_
  rintro _ w4 hEw4 rfl
  refine WL.ev rfl rfl (Ev.as rfl rfl) (WL.nil ?_)
  refine CW.fresh [(1,.pointer (some ⟨b1,0,none⟩)),(2,.bool false),(4,.bool ((q0Q g).getD false))] ⟨rfl,rfl,rfl,trivial⟩ fun σ=>?_
  refine CW.seq (CW.reg ?_)
  refine WL.ev rfl rfl (Ev.lda rfl ag25 sz25 rfl (At.blk (hBb1.ext ((hEw2.trans hEw3).trans hEw4))) rfl) ?_
  refine WL.call rfl rfl rfl rfl rfl ok6 rfl (q7F _ g (rd_ext hK1 (((hEb1.trans hEw2).trans hEw3).trans hEw4)) (by omega)) ?_
  rintro _ w5 hEw5 ⟨cs2,rfl,L2,hO2,hN2,hF2⟩
  refine WL.alloc rfl rfl rfl ze31 fun b2 w6 hEb2 hbb2 hBb2=>?_
  refine WL.stW rfl rfl rfl sz31 rfl rfl rfl (Rep.len (Sep.own_rd (z0E hO2 hEb2))) (Rep.one (Sep.own_rd (z0E hO2 hEb2))) hBb2 rfl fun w7 hCw7 hB_1=>?_
  have hT1:=Blk.chg1 (hBb1.ext ((((hEw2.trans hEw3).trans hEw4).trans hEw5).trans hEb2)) hCw7 (by have:=hBb1.lt; have:=hbb2; have:=hEw2.size; have:=hEw3.size; have:=hEw4.size; have:=hEw5.size; omega)
  have hT2:=z6q (z0E hO1 ((hEw4.trans hEw5).trans hEb2)) hCw7 (fun q hq e=>by subst e; have:=Sep.own_lt hO1 _ hq; have:=hbb2; have:=hEw4.size; have:=hEw5.size; omega)
  have hT3:=z6q (z0E hO2 hEb2) hCw7 (fun q hq e=>by subst e; have:=Sep.own_lt hO2 _ hq; have:=hbb2; omega)
  have hX1:=Ext.chg1 (((((hEb1.trans hEw2).trans hEw3).trans hEw4).trans hEw5).trans hEb2) hCw7 (by have:=hbb2; have:=hEb1.size; have:=hEw2.size; have:=hEw3.size; have:=hEw4.size; have:=hEw5.size; omega)
  refine WL.nil ?_
  refine CW.fresh [(1,.pointer (some ⟨b1,0,none⟩)),(2,.bool false),(4,.bool ((q0Q g).getD false)),(5,.pointer (some ⟨b2,0,none⟩))] ⟨rfl,rfl,rfl,rfl,trivial⟩ fun σ=>?_
  refine CW.seq (CW.reg ?_)
  refine WL.ev rfl rfl (Ev.lda rfl ag31 sz31 rfl (At.blk hB_1) (Rep.len (Sep.own_rd hT3))) ?_
  refine WL.call rfl rfl rfl rfl rfl ok7 rfl (z0B _ g (Sep.own_rd hT3) (by omega)) ?_
  rintro _ w8 hEw8 rfl
  refine WL.ev rfl rfl (Ev.as rfl rfl) (WL.nil ?_)
  refine CW.fresh [(1,.pointer (some ⟨b1,0,none⟩)),(2,.bool false),(4,.bool ((q0Q g).getD false)),(5,.pointer (some ⟨b2,0,none⟩)),(6,.bool ((q0Q g).getD false))] ⟨rfl,rfl,rfl,rfl,rfl,trivial⟩ fun σ=>?_
  refine CW.seq (CW.seq (CW.reg ?_))
  refine WL.ev rfl rfl (Ev.mv rfl rfl) (WL.ev rfl rfl (Ev.mv rfl rfl) (WL.ev rfl rfl (Ev.bin rfl rfl rfl (Bin.neqSameB Tryz.underlying4 rfl)) (WL.nil ?_)))
  refine CW.condF rfl ?_
  refine CW.skip ?_
  refine CW.fresh [(1,.pointer (some ⟨b1,0,none⟩)),(2,.bool false),(5,.pointer (some ⟨b2,0,none⟩))] ⟨rfl,rfl,rfl,trivial⟩ fun σ=>?_
  refine CW.seq (CW.seq (CW.anyE 5 (fun ρ=>[.inl (.agg cs2.toArray),.inl (.agg #[.slice A1 g.Symbols.length c1,.slice A2 g.Rules.length c2]),.inr (fun S v w=>∃ cs:List Value,v = .agg cs.toArray∧rd S w (g) cs),.inl (.bool true),.inl (.bool (!true))]) hmix (by kernel_rfl) ⟨trivial,trivial,fun _ _ _ _ ⟨cs,e,h⟩ hE=>⟨cs,e,rd_ext h hE⟩,trivial,trivial,trivial⟩ ?_))
  refine LL.fx rfl rfl rfl (fun _ hq hK=>Ev.lda rfl ag31 sz31 rfl (At.blk (hB_1.ext (hEw8.trans hq))) (Rep.len (Sep.own_rd (z0E hT3 (hEw8.trans hq))))) ?_
  refine LL.fx rfl rfl rfl (fun _ hq hK=>Ev.lda rfl ag25 sz25 rfl (At.blk (hT1.ext (hEw8.trans hq))) rfl) ?_
  refine LL.free rfl rfl (fun wq hq hK=>?_) (fun v_1_2 S_1_2=>?_)
  ·skip
   refine OpX.call rfl rfl rfl rfl ok6 rfl (q7F _ g (rd_ext hK1 ((hX1.trans hEw8).trans hq)) (by omega)) ?_
   rintro v w' hE ⟨cs,rfl,h⟩
   exact⟨hE,cs,rfl,New.rd h⟩
  refine LL.fixed rfl rfl (fun wq hq hK=>?_) ?_
  ·skip
   obtain⟨cs2,e2,hd2⟩:∃ cs:List Value,v_1_2 = .agg cs.toArray∧rd S_1_2 wq (g) cs:=hK 2 rfl
   subst e2
   refine OpX.call rfl rfl rfl rfl ok8 rfl ((z3u _ g g (Sep.own_rd (z0E hT3 (hEw8.trans hq))) hd2).yes rfl) ?_
   rintro v w' hE rfl
   exact⟨hE,rfl⟩
  refine LL.fx rfl rfl rfl (fun _ hq hK=>Ev.not rfl rfl) ?_
  intro w9 hEw9 hKr1 hap1 hbd1
  have hs_1_2:∀ q,S_1_2 q→w8.heap.size≤q∧q < w9.heap.size:=fun q hq=>hbd1 2 q hq
  refine WL.nil ?_
  refine CW.condF rfl ?_
  refine CW.skip ?_
  refine CW.fresh [(2,.bool false)] ⟨rfl,trivial⟩ fun σ=>?_
  refine CW.seq (CW.reg ?_)
  refine WL.ev rfl rfl (Ev.as rfl rfl) (WL.nil ?_)
  refine CW.ret ?_
  exact⟨_,res1 rfl rfl rfl,((hX1.trans hEw8).trans hEw9),rfl⟩
section
open Go.ChangeShapes Go.WideShapes Go.ChangeAt Go.RowKit
theorem z9I:ownKnob Tryz.prog.godebug=none:=by kernel_rfl
theorem z9J:laidOutB Tryz.prog=true:=by kernel_rfl
set_option maxRecDepth 100000 in
theorem q7e (os:Os)(started:os.Started)(H:Type)(enc:TypeId × Value→H) :
  ReturnsInHanded {} Tryz.checked os 3 .any (Rows.fnExactIsWellFormedSpec.pre6 enc Tryz.prog Tryz.f3 Rows.fnExactIsWellFormedRow.domain false) (Rows.fnExactIsWellFormedSpec.post enc Tryz.prog Tryz.f3 false true false false):=by
 refine returnsInHanded_of_change (C:=Tryz.checked) z9I started (by kernel_rfl) Tryz.func3
  (ChangeSpec.witness6 (enc:=enc) (C:=Tryz.checked) false ⟨#[],#[.agg #[.slice none 0 0,.slice none 0 0]],[]⟩ 8 (by kernel_rfl) (by kernel_rfl) (by kernel_rfl) (by kernel_rfl)) ?_
 intro W base args ds gs before hval0 hW hcnd _
 have hval:∀ (j:Nat) t v,Tryz.f3.params[j]? = some t→args[j]? = some v→Value.okWide Tryz.prog W .any base t v:=hval0
 have hW':=hW
 obtain⟨p,q,hA0,hV,rfl,hfz,hnd⟩:=hW
 have hA:DataW.TrodAll enc Tryz.prog W 0 (fun _=>true) true Tryz.f3.params.toList args.toList ds p:=hA0
 rw [Tryz.params3] at hA hval
 obtain⟨v0,vs0,d0,ds0,p0,q0,hargs,rfl,rfl,t0,r0⟩:=trodAll_cons hA
 obtain⟨rfl,rfl,rfl⟩:=trodAll_nil r0
 obtain rfl:args=#[v0]:=by cases args; simp_all
 obtain⟨rfl,rfl⟩:=trodVars_none hV
 have k0:=t0
 have lt0:∀ x∈p0,x.block < W.heap.size:=by obtain⟨m,hm⟩:=k0; exact DataW.trod_lt m _ _ _ hm
 obtain⟨m0,hm0⟩:=t0
 obtain⟨a0,ha0⟩:=open25.2 _ _ _ _ _ _ _ _ _ hm0
 obtain⟨⟨c0⟩,rfl,_⟩:=okWide_struct Tryz.underlying25 (hval 0 25 v0 rfl rfl)
 clear hA0 hval0
 refine Calls.mono (q8r W a0 ha0) fun e W' ⟨v,he,hch,hv⟩=>?_
 subst he; subst hv
 have bel:=Ext.below hch
 exact⟨_,rfl,_,_,_,[],_,[],hW',trodAll_mk1 (shut_bool Tryz.underlying4 _),(trodAll_cons_mk (Below.trod z9J (by kernel_rfl) (of_decide_eq_true (by kernel_rfl)) k0 bel lt0) trodAll_mk0),rfl,bel.frame _,fun h=>by cases h⟩
theorem fnExactIsWellFormed_holds:Rows.FnExactIsWellFormedSaid:=
 OpenClaim.holds_of_wide 3 Tryz.f3 rfl rfl rfl rfl rfl rfl rfl ⟨rfl,rfl,rfl,rfl,rfl⟩ rfl rfl rfl rfl rfl (by kernel_rfl) Tryz.func3 (by kernel_rfl)
  (of_decide_eq_true (by kernel_rfl)) (by unfold Func.isWrapper; first | (rw [if_pos (by decide +kernel)]; kernel_rfl) | (rw [if_neg (by decide +kernel)]; exact⟨rfl,rfl⟩))
  (fun os started H enc _=>q7e os started H enc)
end
end Go.Proofs.YtmblndlpkpaobaaGreat
