/- What some functions of the program compute, as partial functions on plain data, and that they do; each lemma bears its conditions in its statement. -/
import Derived.Test.YtonnooljidombaaLiftB
set_option linter.unusedVariables false
set_option linter.unusedSimpArgs false
set_option linter.ambiguousOpen false
set_option linter.unusedSectionVars false
set_option linter.unnecessarySimpa false
set_option linter.unusedVariables false
set_option linter.unusedSimpArgs false
set_option maxRecDepth 100000
set_option maxHeartbeats 4000000
namespace Go.Proofs.Ytonnooljidombaa
open Go Go.E
open Go.E.Rep (rd)
open Go.E.Sep (own)
open Go.E.Sz (szd)
theorem sl19Eval_okB {rec_sl19Eval : Expr → (List Slot) → Int → (List Int) → Option Int} (ih_sl19Eval : ∀ {a0 : Expr} {a1 : (List Slot)} {a2 : Int} {a3 : (List Int)} {r : Int}, rec_sl19Eval a0 a1 a2 a3 = some r → ∀ {F0 : Nat → Prop} {w0 : World} {ca0 : List Value} (ha0 : rd F0 w0 a0 ca0) {z1 : Value} (ha1 : rdS F0 w0 a1 z1) (ha2 : I64 a2) {z3 : Value} (ha3 : rdS F0 w0 a3 z3), Ret Try.prog 91 #[.agg ca0.toArray, z1, .int .i64 a2, z3] w0 (fun _ => False) fun v w => v = .int .i64 r ∧ I64 r) {a0 : Expr} {a1 : (List Slot)} {a2 : Int} {a3 : (List Int)} {r : Int} (hr : sl19Eval_B rec_sl19Eval a0 a1 a2 a3 = some r) {F0 : Nat → Prop} {w0 : World} {ca0 : List Value} (ha0 : rd F0 w0 a0 ca0) {z1 : Value} (ha1 : rdS F0 w0 a1 z1) (ha2 : I64 a2) {z3 : Value} (ha3 : rdS F0 w0 a3 z3) :
    Ret Try.prog 91 #[.agg ca0.toArray, z1, .int .i64 a2, z3] w0 (fun _ => False) fun v w => v = .int .i64 r ∧ I64 r := by
  obtain ⟨A1', n1', c1', rfl⟩ := ha1.form3
  obtain ⟨A3', n3', c3', rfl⟩ := ha3.form3
  have H := (((HL.start F0 w0).argR ha0).argS ha1).argS ha3
  obtain ⟨A1, n1, c1, rfl, hI1, hI2, hI3, hI4, hS1, hS2, H⟩ := op_Expr H (i := 0) rfl
  refine enter Try.func91 rfl rfl rfl ?_
  refine CW.seq (CW.reg ?_)
  refine WL.boxH rfl rfl rfl rfl rfl H fun b1 w1 H => ?_
  refine WL.ev rfl rfl (Ev.as rfl rfl) (WL.nil ?_)
  refine CW.seq (CW.seq (CW.reg ?_))
  refine WL.ev rfl rfl (Ev.fa rfl fo31_0 rfl) (WL.ev rfl rfl (Ev.ld rfl ag3 rfl ((H.rB (i := 0) rfl).cell rfl)) (WL.nil ?_))
  refine CW.block (CW.seq (CW.reg ?_))
  refine WL.ev rfl rfl (Ev.bin rfl rfl rfl Bin.eql) (WL.ev rfl rfl (Ev.as rfl rfl) (WL.nil ?_))
  refine CW.condD rfl (fun h1 => ?_) (fun h1 => ?_)
  · skip
    have hr := ifp h1 hr
    refine CW.seq (CW.reg ?_)
    refine WL.ev rfl rfl (Ev.fa rfl fo31_1 rfl) (WL.ev rfl rfl (Ev.ld rfl ag3 rfl ((H.rB (i := 0) rfl).cell rfl)) (WL.ev rfl rfl (Ev.as rfl rfl) (WL.nil ?_)))
    refine CW.ret ?_
    obtain rfl := sm hr
    exact ⟨_, res1 rfl rfl rfl, H.ext0, rfl, hI2⟩
  · skip
    have hr := ifn h1 hr
    refine CW.seq (CW.reg ?_)
    refine WL.ev rfl rfl (Ev.bin rfl rfl rfl Bin.eql) (WL.ev rfl rfl (Ev.as rfl rfl) (WL.nil ?_))
    refine CW.condD rfl (fun h2 => ?_) (fun h2 => ?_)
    · skip
      have hr := ifp h2 hr
      refine CW.seq (CW.reg ?_)
      refine WL.ev rfl rfl (Ev.mv rfl rfl) (WL.ev rfl rfl (Ev.as rfl rfl) (WL.nil ?_))
      refine CW.ret ?_
      obtain rfl := sm hr
      exact ⟨_, res1 rfl rfl rfl, H.ext0, rfl, ha2⟩
    · skip
      have hr := ifn h2 hr
      refine CW.seq (CW.reg ?_)
      refine WL.ev rfl rfl (Ev.bin rfl rfl rfl Bin.eql) (WL.ev rfl rfl (Ev.as rfl rfl) (WL.nil ?_))
      refine CW.condD rfl (fun h3 => ?_) (fun h3 => ?_)
      · skip
        have hr := ifp h3 hr
        refine CW.seq (CW.reg ?_)
        refine WL.ev rfl rfl (Ev.mv rfl rfl) (WL.ev rfl rfl (Ev.fa rfl fo31_2 rfl) (WL.ev rfl rfl (Ev.ld rfl ag3 rfl ((H.rB (i := 0) rfl).cell rfl)) (WL.ev rfl rfl (Ev.fa rfl fo31_5 rfl) (WL.ev rfl rfl (Ev.ld rfl ag9 rfl ((H.rB (i := 0) rfl).cell rfl)) (WL.ev rfl rfl (Ev.build rfl pl48 ze48 rfl rfl rfl rfl) ?_)))))
        obtain ⟨y1, hy1, hr⟩ := bd hr
        refine WL.call rfl rfl rfl rfl rfl ok29 rfl (sSlotValue_ok hy1 (H.rS (i := 1) rfl) ⟨rfl, hI3, hS2⟩) ?_
        rintro _ w2 hE ⟨rfl, hI5⟩
        have H := H.ext hE
        refine WL.ev rfl rfl (Ev.as rfl rfl) (WL.nil ?_)
        refine CW.ret ?_
        obtain rfl := sm hr
        exact ⟨_, res1 rfl rfl rfl, H.ext0, rfl, hI5⟩
      · skip
        have hr := ifn h3 hr
        refine CW.seq (CW.reg ?_)
        refine WL.ev rfl rfl (Ev.bin rfl rfl rfl Bin.eql) (WL.ev rfl rfl (Ev.as rfl rfl) (WL.nil ?_))
        refine CW.condD rfl (fun h4 => ?_) (fun h4 => ?_)
        · skip
          have hr := ifp h4 hr
          refine CW.seq (CW.quiet hmix (by kernel_rfl) ?_)
          refine QL.ev rfl rfl (fun _ _ => Ev.fa rfl fo31_1 rfl) (QL.ev rfl rfl (fun _ hq => Ev.ld rfl ag3 rfl (((H.ext hq).rB (i := 0) rfl).cell rfl)) (QL.ev rfl rfl (fun _ _ => Ev.fa rfl fo31_6 rfl) (QL.ev rfl rfl (fun _ hq => Ev.ld rfl ag29 rfl (((H.ext hq).rB (i := 0) rfl).cell rfl)) ?_)))
          obtain ⟨x1, hx1, hr⟩ := bd hr
          obtain ⟨b2, ob2, cb2, A2, n2, c2, hvb2, hI6, hI7, hI8, hI9, hS3, hS4, H⟩ := ixS_Expr H (i := 3) rfl hx1
          refine QL.ev rfl rfl (fun _ _ => Ev.ixVN rfl el29 sz31 rfl hvb2 rfl (lt_of hx1)) (QL.ev rfl rfl (fun _ hq => Ev.lda rfl ag31 sz31 rfl ((H.ext hq).rA (i := 4) rfl) rfl) (QL.ev rfl rfl (fun _ _ => Ev.mv rfl rfl) (QL.ev rfl rfl (fun _ _ => Ev.mv rfl rfl) (QL.ev rfl rfl (fun _ _ => Ev.mv rfl rfl) ?_))))
          obtain ⟨y2, hy2, hr⟩ := bd hr
          refine QL.call rfl rfl rfl rfl rfl ok91 rfl (fun _ hq => (ih_sl19Eval hy2 (Expr_rd.2 ⟨_, rfl, hI6, hI7, hI8, hI9, hS3, hS4, ((H.ext hq).rS (i := 6) rfl)⟩) ((H.ext hq).rS (i := 1) rfl) ha2 ((H.ext hq).rS (i := 2) rfl)).mono fun _ _ _ h => h.1) ?_
          obtain ⟨_, _, _, hI10⟩ := (ih_sl19Eval hy2 (Expr_rd.2 ⟨_, rfl, hI6, hI7, hI8, hI9, hS3, hS4, (H.rS (i := 6) rfl)⟩) (H.rS (i := 1) rfl) ha2 (H.rS (i := 2) rfl)).get
          refine QL.ev rfl rfl (fun _ _ => Ev.fa rfl fo31_6 rfl) (QL.ev rfl rfl (fun _ hq => Ev.ld rfl ag29 rfl (((H.ext hq).rB (i := 0) rfl).cell rfl)) ?_)
          obtain ⟨x2, hx2, hr⟩ := bd hr
          obtain ⟨b3, ob3, cb3, A3, n3, c3, hvb3, hI11, hI12, hI13, hI14, hS5, hS6, H⟩ := ixS_Expr H (i := 3) rfl hx2
          refine QL.ev rfl rfl (fun _ _ => Ev.ixVN rfl el29 sz31 rfl hvb3 rfl (lt_of hx2)) (QL.ev rfl rfl (fun _ hq => Ev.lda rfl ag31 sz31 rfl ((H.ext hq).rA (i := 7) rfl) rfl) (QL.ev rfl rfl (fun _ _ => Ev.mv rfl rfl) (QL.ev rfl rfl (fun _ _ => Ev.mv rfl rfl) (QL.ev rfl rfl (fun _ _ => Ev.mv rfl rfl) ?_))))
          obtain ⟨y3, hy3, hr⟩ := bd hr
          refine QL.call rfl rfl rfl rfl rfl ok91 rfl (fun _ hq => (ih_sl19Eval hy3 (Expr_rd.2 ⟨_, rfl, hI11, hI12, hI13, hI14, hS5, hS6, ((H.ext hq).rS (i := 9) rfl)⟩) ((H.ext hq).rS (i := 1) rfl) ha2 ((H.ext hq).rS (i := 2) rfl)).mono fun _ _ _ h => h.1) ?_
          obtain ⟨_, _, _, hI15⟩ := (ih_sl19Eval hy3 (Expr_rd.2 ⟨_, rfl, hI11, hI12, hI13, hI14, hS5, hS6, (H.rS (i := 9) rfl)⟩) (H.rS (i := 1) rfl) ha2 (H.rS (i := 2) rfl)).get
          obtain ⟨y4, hy4, hr⟩ := bd hr
          refine QL.call rfl rfl rfl rfl rfl ok152 rfl (fun _ hq => (sApplyOp_ok hy4 (F0 := fun _ => False) hI2 hI10 hI15).mono fun _ _ _ h => h.1) ?_
          obtain ⟨_, _, _, hI16⟩ := (sApplyOp_ok hy4 (F0 := fun _ => False) (w0 := w0) hI2 hI10 hI15).get
          refine QL.ev rfl rfl (fun _ _ => Ev.as rfl rfl) (QL.nil (fun w3 hE => ?_))
          have H := H.ext hE
          refine CW.ret ?_
          obtain rfl := sm hr
          exact ⟨_, res1 rfl rfl rfl, H.ext0, rfl, hI16⟩
        · skip
          have hr := ifn h4 hr
          refine CW.seq (CW.reg ?_)
          refine WL.ev rfl rfl (Ev.bin rfl rfl rfl Bin.eql) (WL.ev rfl rfl (Ev.as rfl rfl) (WL.nil ?_))
          refine CW.condD rfl (fun h5 => ?_) (fun h5 => ?_)
          · skip
            have hr := ifp h5 hr
            refine CW.seq (CW.seq (CW.reg ?_))
            refine WL.ev rfl rfl (Ev.fa rfl fo31_6 rfl) (WL.ev rfl rfl (Ev.ld rfl ag29 rfl ((H.rB (i := 0) rfl).cell rfl)) ?_)
            obtain ⟨x3, hx3, hr⟩ := bd hr
            obtain ⟨b4, ob4, cb4, A4, n4, c4, hvb4, hI17, hI18, hI19, hI20, hS7, hS8, H⟩ := ixS_Expr H (i := 3) rfl hx3
            refine WL.ev rfl rfl (Ev.ixVN rfl el29 sz31 rfl hvb4 rfl (lt_of hx3)) (WL.ev rfl rfl (Ev.lda rfl ag31 sz31 rfl (H.rA (i := 4) rfl) rfl) (WL.ev rfl rfl (Ev.mv rfl rfl) (WL.ev rfl rfl (Ev.mv rfl rfl) (WL.ev rfl rfl (Ev.mv rfl rfl) ?_))))
            obtain ⟨y5, hy5, hr⟩ := bd hr
            refine WL.call rfl rfl rfl rfl rfl ok91 rfl (ih_sl19Eval hy5 (Expr_rd.2 ⟨_, rfl, hI17, hI18, hI19, hI20, hS7, hS8, (H.rS (i := 6) rfl)⟩) (H.rS (i := 1) rfl) ha2 (H.rS (i := 2) rfl)) ?_
            rintro _ w4 hE ⟨rfl, hI21⟩
            have H := H.ext hE
            refine WL.ev rfl rfl (Ev.bin rfl rfl rfl Bin.neq) (WL.nil ?_)
            refine CW.condN rfl (fun h6 => ?_) (fun h6 => ?_)
            · skip
              have hr := ifn h6 hr
              refine CW.seq ?_
              refine CW.fresh [(1, .slice A1' n1' c1'), (2, .int .i64 a2), (3, .slice A3' n3' c3'), (4, .pointer (some ⟨b1, 0, none⟩))] ⟨rfl, rfl, rfl, rfl, trivial⟩ fun σ => ?_
              have H : HL F0 [] w0 w4 [Pr.R a0 [.int .i64 a0.Kind, .int .i64 a0.N, .int .i64 a0.Pos, .int .i64 a0.Type_, .string a0.Symbol, .string a0.Name, .slice A1 n1 c1], Pr.S a1 (.slice A1' n1' c1'), Pr.S a3 (.slice A3' n3' c3'), Pr.S a0.Args (.slice A1 n1 c1), Pr.A b4 (ob4 + 0 * 7) [.int .i64 x3.Kind, .int .i64 x3.N, .int .i64 x3.Pos, .int .i64 x3.Type_, .string x3.Symbol, .string x3.Name, .slice A4 n4 c4], Pr.R x3 [.int .i64 x3.Kind, .int .i64 x3.N, .int .i64 x3.Pos, .int .i64 x3.Type_, .string x3.Symbol, .string x3.Name, .slice A4 n4 c4], Pr.S x3.Args (.slice A4 n4 c4)] [It.B b1 31 [.int .i64 a0.Kind, .int .i64 a0.N, .int .i64 a0.Pos, .int .i64 a0.Type_, .string a0.Symbol, .string a0.Name, .slice A1 n1 c1]] := H
              refine CW.reg ?_
              refine WL.ev rfl rfl (Ev.fa rfl fo31_6 rfl) (WL.ev rfl rfl (Ev.ld rfl ag29 rfl ((H.rB (i := 0) rfl).cell rfl)) ?_)
              obtain ⟨x4, hx4, hr⟩ := bd hr
              obtain ⟨b5, ob5, cb5, A5, n5, c5, hvb5, hI22, hI23, hI24, hI25, hS9, hS10, H⟩ := ixS_Expr H (i := 3) rfl hx4
              refine WL.ev rfl rfl (Ev.ixVN rfl el29 sz31 rfl hvb5 rfl (lt_of hx4)) (WL.ev rfl rfl (Ev.lda rfl ag31 sz31 rfl (H.rA (i := 7) rfl) rfl) (WL.ev rfl rfl (Ev.mv rfl rfl) (WL.ev rfl rfl (Ev.mv rfl rfl) (WL.ev rfl rfl (Ev.mv rfl rfl) ?_))))
              obtain ⟨y6, hy6, hr⟩ := bd hr
              refine WL.call rfl rfl rfl rfl rfl ok91 rfl (ih_sl19Eval hy6 (Expr_rd.2 ⟨_, rfl, hI22, hI23, hI24, hI25, hS9, hS10, (H.rS (i := 9) rfl)⟩) (H.rS (i := 1) rfl) ha2 (H.rS (i := 2) rfl)) ?_
              rintro _ w5 hE ⟨rfl, hI26⟩
              have H := H.ext hE
              refine WL.ev rfl rfl (Ev.as rfl rfl) (WL.nil ?_)
              refine CW.ret ?_
              obtain rfl := sm hr
              exact ⟨_, res1 rfl rfl rfl, H.ext0, rfl, hI26⟩
            · skip
              have hr := ifp h6 hr
              refine CW.skip ?_
              refine CW.seq ?_
              refine CW.fresh [(1, .slice A1' n1' c1'), (2, .int .i64 a2), (3, .slice A3' n3' c3'), (4, .pointer (some ⟨b1, 0, none⟩))] ⟨rfl, rfl, rfl, rfl, trivial⟩ fun σ => ?_
              have H : HL F0 [] w0 w4 [Pr.R a0 [.int .i64 a0.Kind, .int .i64 a0.N, .int .i64 a0.Pos, .int .i64 a0.Type_, .string a0.Symbol, .string a0.Name, .slice A1 n1 c1], Pr.S a1 (.slice A1' n1' c1'), Pr.S a3 (.slice A3' n3' c3'), Pr.S a0.Args (.slice A1 n1 c1), Pr.A b4 (ob4 + 0 * 7) [.int .i64 x3.Kind, .int .i64 x3.N, .int .i64 x3.Pos, .int .i64 x3.Type_, .string x3.Symbol, .string x3.Name, .slice A4 n4 c4], Pr.R x3 [.int .i64 x3.Kind, .int .i64 x3.N, .int .i64 x3.Pos, .int .i64 x3.Type_, .string x3.Symbol, .string x3.Name, .slice A4 n4 c4], Pr.S x3.Args (.slice A4 n4 c4)] [It.B b1 31 [.int .i64 a0.Kind, .int .i64 a0.N, .int .i64 a0.Pos, .int .i64 a0.Type_, .string a0.Symbol, .string a0.Name, .slice A1 n1 c1]] := H
              refine CW.reg ?_
              refine WL.ev rfl rfl (Ev.fa rfl fo31_6 rfl) (WL.ev rfl rfl (Ev.ld rfl ag29 rfl ((H.rB (i := 0) rfl).cell rfl)) ?_)
              obtain ⟨x5, hx5, hr⟩ := bd hr
              obtain ⟨b6, ob6, cb6, A6, n6, c6, hvb6, hI27, hI28, hI29, hI30, hS11, hS12, H⟩ := ixS_Expr H (i := 3) rfl hx5
              refine WL.ev rfl rfl (Ev.ixVN rfl el29 sz31 rfl hvb6 rfl (lt_of hx5)) (WL.ev rfl rfl (Ev.lda rfl ag31 sz31 rfl (H.rA (i := 7) rfl) rfl) (WL.ev rfl rfl (Ev.mv rfl rfl) (WL.ev rfl rfl (Ev.mv rfl rfl) (WL.ev rfl rfl (Ev.mv rfl rfl) ?_))))
              obtain ⟨y7, hy7, hr⟩ := bd hr
              refine WL.call rfl rfl rfl rfl rfl ok91 rfl (ih_sl19Eval hy7 (Expr_rd.2 ⟨_, rfl, hI27, hI28, hI29, hI30, hS11, hS12, (H.rS (i := 9) rfl)⟩) (H.rS (i := 1) rfl) ha2 (H.rS (i := 2) rfl)) ?_
              rintro _ w6 hE ⟨rfl, hI31⟩
              have H := H.ext hE
              refine WL.ev rfl rfl (Ev.as rfl rfl) (WL.nil ?_)
              refine CW.ret ?_
              obtain rfl := sm hr
              exact ⟨_, res1 rfl rfl rfl, H.ext0, rfl, hI31⟩
          · skip
            have hr := ifn h5 hr
            refine CW.seq (CW.reg ?_)
            refine WL.ev rfl rfl (Ev.bin rfl rfl rfl Bin.eql) (WL.ev rfl rfl (Ev.as rfl rfl) (WL.nil ?_))
            refine CW.condD rfl (fun h7 => ?_) (fun h7 => ?_)
            · skip
              have hr := ifp h7 hr
              refine CW.seq (CW.reg ?_)
              refine WL.ev rfl rfl (Ev.fa rfl fo31_2 rfl) (WL.ev rfl rfl (Ev.ld rfl ag3 rfl ((H.rB (i := 0) rfl).cell rfl)) (WL.ev rfl rfl (Ev.mv rfl rfl) ?_))
              have hl1 := (H.rS (i := 2) rfl).I
              refine WL.ev rfl rfl (Ev.lenV rfl el41 rfl (H.rS (i := 2) rfl)) (WL.ev rfl rfl (Ev.bin rfl rfl rfl (Bin.sub (i64_sub (k := 1) hl1 (by decide)))) ?_)
              obtain ⟨y8, hy8, hr⟩ := bd hr
              refine WL.call rfl rfl rfl rfl rfl ok112 rfl (sl1In_ok hy8 (F0 := fun _ => False) hI3 (by decide : I64 0) (i64_sub (k := 1) hl1 (by decide))) ?_
              rintro _ w7 hE rfl
              have H := H.ext hE
              refine WL.nil ?_
              refine CW.condB rfl (fun h8 => ?_) (fun h8 => ?_)
              · skip
                have hr := ifp h8 hr
                refine CW.seq ?_
                refine CW.fresh [(3, .slice A3' n3' c3'), (4, .pointer (some ⟨b1, 0, none⟩))] ⟨rfl, rfl, trivial⟩ fun σ => ?_
                have H : HL F0 [] w0 w7 [Pr.R a0 [.int .i64 a0.Kind, .int .i64 a0.N, .int .i64 a0.Pos, .int .i64 a0.Type_, .string a0.Symbol, .string a0.Name, .slice A1 n1 c1], Pr.S a1 (.slice A1' n1' c1'), Pr.S a3 (.slice A3' n3' c3'), Pr.S a0.Args (.slice A1 n1 c1)] [It.B b1 31 [.int .i64 a0.Kind, .int .i64 a0.N, .int .i64 a0.Pos, .int .i64 a0.Type_, .string a0.Symbol, .string a0.Name, .slice A1 n1 c1]] := H
                refine CW.reg ?_
                refine WL.ev rfl rfl (Ev.mv rfl rfl) (WL.ev rfl rfl (Ev.fa rfl fo31_2 rfl) (WL.ev rfl rfl (Ev.ld rfl ag3 rfl ((H.rB (i := 0) rfl).cell rfl)) ?_))
                obtain ⟨hg1, hr⟩ := grd_some hr
                obtain ⟨x6, hx6, hr⟩ := bd hr
                obtain ⟨b7, ob7, cb7, hvb7, hI32, H⟩ := ixS_Int H (i := 2) rfl hx6
                refine WL.ev rfl rfl (Ev.ixV rfl el41 sz3 rfl hvb7 rfl hg1 (lt_of hx6)) (WL.ev rfl rfl (Ev.ld rfl ag3 rfl ((H.rA (i := 4) rfl).cell0 rfl)) (WL.ev rfl rfl (Ev.as rfl rfl) (WL.nil ?_)))
                refine CW.ret ?_
                obtain rfl := sm hr
                exact ⟨_, res1 rfl rfl rfl, H.ext0, rfl, hI32⟩
              · skip
                have hr := ifn h8 hr
                refine CW.skip ?_
                refine CW.seq ?_
                refine CW.fresh [] trivial fun σ => ?_
                have H : HL F0 [] w0 w7 [Pr.R a0 [.int .i64 a0.Kind, .int .i64 a0.N, .int .i64 a0.Pos, .int .i64 a0.Type_, .string a0.Symbol, .string a0.Name, .slice A1 n1 c1], Pr.S a1 (.slice A1' n1' c1'), Pr.S a3 (.slice A3' n3' c3'), Pr.S a0.Args (.slice A1 n1 c1)] [It.B b1 31 [.int .i64 a0.Kind, .int .i64 a0.N, .int .i64 a0.Pos, .int .i64 a0.Type_, .string a0.Symbol, .string a0.Name, .slice A1 n1 c1]] := H
                refine CW.reg ?_
                refine WL.ev rfl rfl (Ev.as rfl rfl) (WL.nil ?_)
                refine CW.ret ?_
                obtain rfl := sm hr
                exact ⟨_, res1 rfl rfl rfl, H.ext0, rfl, (by decide : I64 0)⟩
            · skip
              have hr := ifn h7 hr
              refine CW.skip ?_
              refine CW.seq (CW.reg ?_)
              refine WL.ev rfl rfl (Ev.as rfl rfl) (WL.nil ?_)
              refine CW.ret ?_
              obtain rfl := sm hr
              exact ⟨_, res1 rfl rfl rfl, H.ext0, rfl, (by decide : I64 0)⟩
noncomputable def sl19Eval_n : Nat → Expr → (List Slot) → Int → (List Int) → Option Int
  | 0, _, _, _, _ => none
  | n + 1, a0, a1, a2, a3 => sl19Eval_B (sl19Eval_n n) a0 a1 a2 a3
noncomputable def sl19Eval_m (a0 : Expr) (a1 : (List Slot)) (a2 : Int) (a3 : (List Int)) : Option Int := recO fun n => sl19Eval_n n a0 a1 a2 a3
theorem sl19Eval_okn (n : Nat) : ∀ {a0 : Expr} {a1 : (List Slot)} {a2 : Int} {a3 : (List Int)} {r : Int}, sl19Eval_n n a0 a1 a2 a3 = some r → ∀ {F0 : Nat → Prop} {w0 : World} {ca0 : List Value} (ha0 : rd F0 w0 a0 ca0) {z1 : Value} (ha1 : rdS F0 w0 a1 z1) (ha2 : I64 a2) {z3 : Value} (ha3 : rdS F0 w0 a3 z3), Ret Try.prog 91 #[.agg ca0.toArray, z1, .int .i64 a2, z3] w0 (fun _ => False) fun v w => v = .int .i64 r ∧ I64 r := by
  induction n with
  | zero => intro a0 a1 a2 a3 r hr; exact nomatch (show (none : Option Int) = some r from hr)
  | succ n ih => intro a0 a1 a2 a3 r hr; exact sl19Eval_okB ih hr
theorem sl19Eval_ok {a0 : Expr} {a1 : (List Slot)} {a2 : Int} {a3 : (List Int)} {r : Int} (hr : sl19Eval_m a0 a1 a2 a3 = some r) {F0 : Nat → Prop} {w0 : World} {ca0 : List Value} (ha0 : rd F0 w0 a0 ca0) {z1 : Value} (ha1 : rdS F0 w0 a1 z1) (ha2 : I64 a2) {z3 : Value} (ha3 : rdS F0 w0 a3 z3) :
    Ret Try.prog 91 #[.agg ca0.toArray, z1, .int .i64 a2, z3] w0 (fun _ => False) fun v w => v = .int .i64 r ∧ I64 r := by
  obtain ⟨n, hn⟩ := recO_some hr
  exact sl19Eval_okn n hn ha0 ha1 ha2 ha3

noncomputable def sEvalLocal_m (a0 : Expr) (a1 : (List Slot)) (a2 : Int) (a3 : (List Int)) : Option Int :=
  (sIsValidExpr_m a0).bind fun y1 =>
  if y1 = true then (
  (sl19Eval_m a0 a1 a2 a3).bind fun y2 =>
  some y2
  ) else (
  some 0
  )
theorem sEvalLocal_ok {a0 : Expr} {a1 : (List Slot)} {a2 : Int} {a3 : (List Int)} {r : Int} (hr : sEvalLocal_m a0 a1 a2 a3 = some r) {F0 : Nat → Prop} {w0 : World} {ca0 : List Value} (ha0 : rd F0 w0 a0 ca0) {z1 : Value} (ha1 : rdS F0 w0 a1 z1) (ha2 : I64 a2) {z3 : Value} (ha3 : rdS F0 w0 a3 z3) :
    Ret Try.prog 24 #[.agg ca0.toArray, z1, .int .i64 a2, z3] w0 (fun _ => False) fun v w => v = .int .i64 r ∧ I64 r := by
  obtain ⟨A1', n1', c1', rfl⟩ := ha1.form3
  obtain ⟨A3', n3', c3', rfl⟩ := ha3.form3
  have H := (((HL.start F0 w0).argR ha0).argS ha1).argS ha3
  obtain ⟨A1, n1, c1, rfl, hI1, hI2, hI3, hI4, hS1, hS2, H⟩ := op_Expr H (i := 0) rfl
  refine enter Try.func24 rfl rfl rfl ?_
  refine CW.seq (CW.reg ?_)
  refine WL.boxH rfl rfl rfl rfl rfl H fun b1 w1 H => ?_
  refine WL.ev rfl rfl (Ev.as rfl rfl) (WL.nil ?_)
  refine CW.seq (CW.seq (CW.reg ?_))
  refine WL.ev rfl rfl (Ev.lda rfl ag31 sz31 rfl (At.blk (H.rB (i := 0) rfl)) rfl) ?_
  obtain ⟨y1, hy1, hr⟩ := bd hr
  refine WL.call rfl rfl rfl rfl rfl ok27 rfl (sIsValidExpr_ok hy1 (Expr_rd.2 ⟨_, rfl, hI1, hI2, hI3, hI4, hS1, hS2, (H.rS (i := 3) rfl)⟩)) ?_
  rintro _ w2 hE rfl
  have H := H.ext hE
  refine WL.ev rfl rfl (Ev.not rfl rfl) (WL.nil ?_)
  refine CW.condBN rfl (fun h1 => ?_) (fun h1 => ?_)
  · skip
    have hr := ifn h1 hr
    refine CW.seq (CW.reg ?_)
    refine WL.ev rfl rfl (Ev.as rfl rfl) (WL.nil ?_)
    refine CW.ret ?_
    obtain rfl := sm hr
    exact ⟨_, res1 rfl rfl rfl, H.ext0, rfl, (by decide : I64 0)⟩
  · skip
    have hr := ifp h1 hr
    refine CW.skip ?_
    refine CW.seq (CW.reg ?_)
    refine WL.ev rfl rfl (Ev.lda rfl ag31 sz31 rfl (At.blk (H.rB (i := 0) rfl)) rfl) (WL.ev rfl rfl (Ev.mv rfl rfl) (WL.ev rfl rfl (Ev.mv rfl rfl) (WL.ev rfl rfl (Ev.mv rfl rfl) ?_)))
    obtain ⟨y2, hy2, hr⟩ := bd hr
    refine WL.call rfl rfl rfl rfl rfl ok91 rfl (sl19Eval_ok hy2 (Expr_rd.2 ⟨_, rfl, hI1, hI2, hI3, hI4, hS1, hS2, (H.rS (i := 3) rfl)⟩) (H.rS (i := 1) rfl) ha2 (H.rS (i := 2) rfl)) ?_
    rintro _ w3 hE ⟨rfl, hI5⟩
    have H := H.ext hE
    refine WL.ev rfl rfl (Ev.as rfl rfl) (WL.nil ?_)
    refine CW.ret ?_
    obtain rfl := sm hr
    exact ⟨_, res1 rfl rfl rfl, H.ext0, rfl, hI5⟩

noncomputable def sOccurrenceIndex_L1 (a1 : Occurrence) : Nat → Occurrence → Unit → Option (Unit ⊕ Int) := fun k1 x1 _ => 
  if x1 = a1 then (
  some (.inr (k1 : Int))
  ) else (
  some (.inl ())
  )
noncomputable def sOccurrenceIndex_m (a0 : (List Occurrence)) (a1 : Occurrence) : Option Int :=
  (findL (sOccurrenceIndex_L1 a1) 0 a0 ()).bind <| onr (fun r1 => some r1) fun _ =>
  some (-1)
theorem sOccurrenceIndex_ok {a0 : (List Occurrence)} {a1 : Occurrence} {r : Int} (hr : sOccurrenceIndex_m a0 a1 = some r) {F0 : Nat → Prop} {w0 : World} {z0 : Value} (ha0 : rdS F0 w0 a0 z0) {ca1 : List Value} (ha1 : rd F0 w0 a1 ca1) :
    Ret Try.prog 93 #[z0, .agg ca1.toArray] w0 (fun _ => False) fun v w => v = .int .i64 r ∧ I64 r := by
  obtain ⟨A0', n0', c0', rfl⟩ := ha0.form3
  have H := ((HL.start F0 w0).argS ha0).argR ha1
  obtain ⟨rfl, hI1, hS1, H⟩ := op_Occurrence H (i := 1) rfl
  refine enter Try.func93 rfl rfl rfl ?_
  refine CW.seq (CW.reg ?_)
  refine WL.boxH rfl rfl rfl rfl rfl H fun b1 w1 H => ?_
  refine WL.ev rfl rfl (Ev.as rfl rfl) (WL.nil ?_)
  refine CW.seq (CW.seq (CW.reg ?_))
  refine WL.ev rfl rfl (Ev.as rfl rfl) (WL.nil ?_)
  obtain ⟨q1, hq1, hr⟩ := bd hr
  refine CW.block (CW.loop (α := Nat) (fun k1 => [(0, .slice A0' n0' c0'), (3, .pointer (some ⟨b1, 0, none⟩)), (5, .int .i64 (k1 : Int))]) (fun k1 w => k1 ≤ a0.length ∧ findL (sOccurrenceIndex_L1 a1) k1 (a0.drop k1) () = some q1 ∧ HL F0 [] w0 w [Pr.S a0 (.slice A0' n0' c0'), Pr.R a1 [.int .i64 a1.Pos, .string a1.Name]] [It.B b1 48 [.int .i64 a1.Pos, .string a1.Name]]) (fun k1 => a0.length - k1) 0 ⟨rfl, rfl, rfl, trivial⟩ ⟨Nat.zero_le _, hq1, H.keep 2 1⟩ ?_)
  rintro k1 σ w2 ⟨hk1, hq1, H⟩
  refine CW.seq (CW.seq (CW.reg ?_))
  refine WL.ev rfl rfl (Ev.mv rfl rfl) (WL.ev rfl rfl (Ev.mv rfl rfl) ?_)
  have hl1 := (H.rS (i := 0) rfl).I
  refine WL.ev rfl rfl (Ev.lenV rfl el33 rfl (H.rS (i := 0) rfl)) (WL.ev rfl rfl (Ev.bin rfl rfl rfl Bin.lss) (WL.nil ?_))
  refine CW.condD rfl (fun h1 => ?_) (fun h1 => ?_)
  · skip
    have hk2 := cast_lt h1
    obtain ⟨x1, z1, hx1, hb1, hs1, ht1⟩ := findL_go hq1 hk2
    refine CW.skip ?_
    refine CW.seq (CW.block (CW.seq (CW.quiet hmix (by kernel_rfl) ?_)))
    refine QL.ev rfl rfl (fun _ _ => Ev.mv rfl rfl) (QL.ev rfl rfl (fun _ _ => Ev.mv rfl rfl) ?_)
    obtain ⟨b2, ob2, cb2, hvb2, hI2, hS2, H⟩ := ixS_Occurrence H (i := 0) rfl hx1
    refine QL.ev rfl rfl (fun _ _ => Ev.ixVN rfl el33 sz48 rfl hvb2 rfl (lt_of hx1)) (QL.ev rfl rfl (fun _ hq => Ev.lda rfl ag48 sz48 rfl ((H.ext hq).rA (i := 2) rfl) rfl) (QL.ev rfl rfl (fun _ hq => Ev.lda rfl ag48 sz48 rfl (At.blk ((H.ext hq).rB (i := 0) rfl)) rfl) (QL.ev rfl rfl (fun _ _ => Ev.bin rfl rfl rfl (Bin.eqlF fl48 (Occurrence_eqF x1 a1))) (QL.nil (fun w3 hE => ?_)))))
    have H := H.ext hE
    refine CW.condD rfl (fun h2 => ?_) (fun h2 => ?_)
    · skip
      have hb1 := ifp h2 hb1
      refine CW.seq (CW.reg ?_)
      refine WL.ev rfl rfl (Ev.mv rfl rfl) (WL.ev rfl rfl (Ev.as rfl rfl) (WL.nil ?_))
      refine CW.ret ?_
      obtain rfl := sm hb1
      obtain rfl := ht1 _ rfl
      obtain rfl := sm hr
      exact ⟨_, res1 rfl rfl rfl, H.ext0, rfl, (i64_nat hk2 hl1)⟩
    · skip
      have hb1 := ifn h2 hb1
      refine CW.skip ?_
      refine CW.reg ?_
      refine WL.ev rfl rfl (Ev.mv rfl rfl) (WL.ev rfl rfl (Ev.bin rfl rfl rfl (Bin.addN (a := k1) (b := 1) rfl (i64_succN hk2 hl1.2))) (WL.ev rfl rfl (Ev.as rfl rfl) (WL.nil ?_)))
      obtain rfl := sm hb1
      have hq1 := hs1 _ rfl
      exact ⟨(k1 + 1), ⟨rfl, rfl, rfl, trivial⟩, ⟨hk2, hq1, H.keep 2 1⟩, Nat.sub_lt_sub_left hk2 (Nat.lt_succ_self _)⟩
  · skip
    obtain rfl := findL_end hq1 (not_cast_lt h1)
    have hr := (onr_inl _ _ _).symm.trans hr
    refine CW.exit ?_
    refine CW.seq (CW.reg ?_)
    refine WL.ev rfl rfl (Ev.as rfl rfl) (WL.nil ?_)
    refine CW.ret ?_
    obtain rfl := sm hr
    exact ⟨_, res1 rfl rfl rfl, H.ext0, rfl, (by decide : I64 (-1))⟩

noncomputable def whasOccurrence_m (a0 : (List Occurrence)) (a1 : Occurrence) : Option Bool :=
  (sOccurrenceIndex_m a0 a1).bind fun y1 =>
  some (decide (0 ≤ y1))
theorem whasOccurrence_ok {a0 : (List Occurrence)} {a1 : Occurrence} {r : Bool} (hr : whasOccurrence_m a0 a1 = some r) {F0 : Nat → Prop} {w0 : World} {z0 : Value} (ha0 : rdS F0 w0 a0 z0) {ca1 : List Value} (ha1 : rd F0 w0 a1 ca1) :
    Ret Try.prog 26 #[z0, .agg ca1.toArray] w0 (fun _ => False) fun v w => v = .bool r := by
  obtain ⟨A0', n0', c0', rfl⟩ := ha0.form3
  have H := ((HL.start F0 w0).argS ha0).argR ha1
  obtain ⟨rfl, hI1, hS1, H⟩ := op_Occurrence H (i := 1) rfl
  refine enter Try.func26 rfl rfl rfl ?_
  refine CW.seq (CW.reg ?_)
  refine WL.boxH rfl rfl rfl rfl rfl H fun b1 w1 H => ?_
  refine WL.ev rfl rfl (Ev.as rfl rfl) (WL.nil ?_)
  refine CW.seq (CW.reg ?_)
  refine WL.ev rfl rfl (Ev.mv rfl rfl) (WL.ev rfl rfl (Ev.lda rfl ag48 sz48 rfl (At.blk (H.rB (i := 0) rfl)) rfl) ?_)
  obtain ⟨y1, hy1, hr⟩ := bd hr
  refine WL.call rfl rfl rfl rfl rfl ok93 rfl (sOccurrenceIndex_ok hy1 (H.rS (i := 0) rfl) ⟨rfl, hI1, hS1⟩) ?_
  rintro _ w2 hE ⟨rfl, hI2⟩
  have H := H.ext hE
  refine WL.ev rfl rfl (Ev.bin rfl rfl rfl Bin.geq) (WL.ev rfl rfl (Ev.as rfl rfl) (WL.nil ?_))
  refine CW.ret ?_
  obtain rfl := sm hr
  exact ⟨_, res1 rfl rfl rfl, H.ext0, rfl⟩

noncomputable def sDrawConstantValue_L1 (y1 : l1Cur) : Nat → ((List Expr) × Int × Int × Int × Int × Int × Int × ByteArray × ByteArray) → Option ((List Expr) × Int × Int × Int × Int × Int × Int × ByteArray × ByteArray) := fun k1 (s1, s2, s3, s4, s5, s6, s7, s8, s9) => 
  (
  (sl1Below_m 12 (⟨y1.b, s2, s3⟩ : l1Cur)).bind fun (y7, z6) =>
  grd (I64 (1 + y7)) <|
  (sl1Below_m 5 (⟨y1.b, z6.i, z6.h⟩ : l1Cur)).bind fun (y8, z7) =>
  (sl4Const_m y8 1).bind fun y9 =>
  (sl4Op_m (1 + y7) (⟨s4, s5, s6, s7, s8, s9, s1⟩ : Expr) y9).bind fun y10 =>
  some (y10.Args, z7.i, z7.h, y10.Kind, y10.N, y10.Pos, y10.Type_, y10.Symbol, y10.Name)
  ).bind fun (s10, s11, s12, s13, s14, s15, s16, s17, s18) =>
  some (s10, s11, s12, s13, s14, s15, s16, s17, s18)
noncomputable def sDrawConstantValue_m (a0 : (List UInt8)) : Option Expr :=
  (sl1New_m a0).bind fun y1 =>
  (sl1Once_m 3 y1).bind fun (y2, z1) =>
  if y2 = true then (
  (sl4Bent_m (⟨y1.b, z1.i, z1.h⟩ : l1Cur)).bind fun (y3, z2) =>
  some y3
  ) else (
  (sl1Below_m 9 (⟨y1.b, z1.i, z1.h⟩ : l1Cur)).bind fun (y4, z3) =>
  (sl4Const_m y4 1).bind fun y5 =>
  (sl1Below_m 5 (⟨y1.b, z3.i, z3.h⟩ : l1Cur)).bind fun (y6, z4) =>
  (eachN (sDrawConstantValue_L1 y1) 0 (y6.toNat) (y5.Args, z4.i, z4.h, y5.Kind, y5.N, y5.Pos, y5.Type_, y5.Symbol, y5.Name)).bind fun (s1, s2, s3, s4, s5, s6, s7, s8, s9) =>
  some (⟨s4, s5, s6, s7, s8, s9, s1⟩ : Expr)
  )
theorem sDrawConstantValue_ok {a0 : (List UInt8)} {r : Expr} (hr : sDrawConstantValue_m a0 = some r) {F0 : Nat → Prop} {w0 : World} {z0 : Value} (ha0 : rdS F0 w0 a0 z0) :
    Ret Try.prog 30 #[z0] w0 (fun _ => False) fun v w => ∃ A0 : Option Addr, ∃ n0 c0 : Nat, v = .agg #[.int .i64 r.Kind, .int .i64 r.N, .int .i64 r.Pos, .int .i64 r.Type_, .string r.Symbol, .string r.Name, (.slice A0 n0 c0)] ∧ I64 r.Kind ∧ I64 r.N ∧ I64 r.Pos ∧ I64 r.Type_ ∧ r.Symbol.size ≤ 9223372036854775807 ∧ r.Name.size ≤ 9223372036854775807 ∧ HL F0 [] w0 w [] [It.G 31 r.Args (.slice A0 n0 c0)] := by
  obtain ⟨A0', n0', c0', rfl⟩ := ha0.form3
  have H := (HL.start F0 w0).argS ha0
  refine enter Try.func30 rfl rfl rfl ?_
  refine CW.seq (CW.reg ?_)
  refine WL.allocH rfl rfl rfl ze31 H fun b1 w1 H => ?_
  refine WL.nil ?_
  refine CW.seq (CW.reg ?_)
  refine WL.ev rfl rfl (Ev.mv rfl rfl) ?_
  obtain ⟨y1, hy1, hr⟩ := bd hr
  obtain ⟨F, hF, hcl⟩ := H.call
  refine WL.call rfl rfl rfl rfl rfl ok83 rfl (sl1New_ok hy1 (hF.get (i := 0) rfl)) ?_
  rintro _ w2 hE ⟨b2, A1, n1, c1, rfl, hI1, hI2, H'⟩
  have H : HL F0 [] w0 w2 [Pr.S a0 (.slice A0' n0' c0'), Pr.S y1.b (.slice A1 n1 c1)] [It.B b1 31 [.int .i64 0, .int .i64 0, .int .i64 0, .int .i64 0, .string (⟨#[]⟩ : ByteArray), .string (⟨#[]⟩ : ByteArray), .slice none 0 0], It.B b2 159 [.slice A1 n1 c1, .int .i64 y1.i, .int .i64 y1.h]] := hcl H'
  refine WL.ev rfl rfl (Ev.as rfl rfl) (WL.nil ?_)
  refine CW.seq (CW.seq (CW.reg ?_))
  refine WL.ev rfl rfl (Ev.mv rfl rfl) ?_
  obtain ⟨⟨y2, z1⟩, hy2, hr⟩ := bd hr
  obtain ⟨F', M', hfF, hoF, hcM⟩ := H.callN [false, true] ⟨noB, trivial⟩
  obtain ⟨H', hcN⟩ := hcM (ps := [Pr.S y1.b (.slice A1 n1 c1)]) ⟨hfF.get (i := 1) rfl, trivial⟩
  refine WL.call rfl rfl rfl rfl rfl ok97 rfl (sl1Once_ok hy2 (by decide : I64 3) hI1 hI2 H') ?_
  rintro _ w3 hE ⟨rfl, hI3, hI4, H'⟩
  have H := hcN 1 H' rfl ⟨fun _ _ _ _ _ h => h, trivial⟩
  refine WL.nil ?_
  refine CW.condB rfl (fun h1 => ?_) (fun h1 => ?_)
  · skip
    have hr := ifp h1 hr
    refine CW.seq (CW.reg ?_)
    refine WL.ev rfl rfl (Ev.mv rfl rfl) ?_
    obtain ⟨⟨y3, z2⟩, hy3, hr⟩ := bd hr
    obtain ⟨F', M', hfF, hcM⟩ := H.callW [false, true] ⟨noB, trivial⟩
    obtain ⟨H', hcN⟩ := hcM (ps := [Pr.S y1.b (.slice A1 n1 c1)]) ⟨hfF.get (i := 1) rfl, trivial⟩
    refine WL.call rfl rfl rfl rfl rfl ok84 rfl (sl4Bent_ok hy3 hI3 hI4 H') ?_
    rintro _ w4 hE ⟨A2, n2, c2, rfl, hI5, hI6, hI7, hI8, hS1, hS2, hI9, hI10, H'⟩
    have H := hcN 1 H' rfl
    refine WL.stB (i := 0) rfl rfl rfl sz31 rfl rfl rfl rfl (all1 rfl (all1 rfl (all1 rfl (all1 rfl (all1 rfl (all1 rfl (all1 rfl all0))))))) H rfl rfl rfl fun w5 H => ?_
    refine WL.nil ?_
    refine CW.ret ?_
    obtain rfl := sm hr
    exact ⟨_, resC rfl ag31 sz31 rfl rfl (At.blk (H.rB (i := 0) rfl)) rfl, H.ext0, _, _, _, rfl, hI5, hI6, hI7, hI8, hS1, hS2, H.outM (fr' := []) [false, false, true] fun _ _ => trivial⟩
  · skip
    have hr := ifn h1 hr
    refine CW.skip ?_
    refine CW.seq (CW.reg ?_)
    refine WL.ev rfl rfl (Ev.mv rfl rfl) ?_
    obtain ⟨⟨y4, z3⟩, hy4, hr⟩ := bd hr
    obtain ⟨F', M', hfF, hoF, hcM⟩ := H.callN [false, true] ⟨noB, trivial⟩
    obtain ⟨H', hcN⟩ := hcM (ps := [Pr.S y1.b (.slice A1 n1 c1)]) ⟨hfF.get (i := 1) rfl, trivial⟩
    refine WL.call rfl rfl rfl rfl rfl ok86 rfl (sl1Below_ok hy4 (by decide : I64 9) hI3 hI4 H') ?_
    rintro _ w6 hE ⟨rfl, hI11, hI12, hI13, H'⟩
    have H := hcN 1 H' rfl ⟨fun _ _ _ _ _ h => h, trivial⟩
    obtain ⟨y5, hy5, hr⟩ := bd hr
    refine WL.call rfl rfl rfl rfl rfl ok98 rfl (sl4Const_ok hy5 (F0 := fun _ => False) hI11 (by decide : I64 1)) ?_
    rintro _ w7 hE ⟨A3, n3, c3, rfl, hI14, hI15, hI16, hI17, hS3, hS4, H'⟩
    have H := H.callA H' ⟨fun _ _ _ _ _ h => h, trivial⟩
    refine WL.allocH rfl rfl rfl ze31 H fun b3 w8 H => ?_
    refine WL.stB (i := 3) rfl rfl rfl sz31 rfl rfl rfl rfl (all1 rfl (all1 rfl (all1 rfl (all1 rfl (all1 rfl (all1 rfl (all1 rfl all0))))))) H rfl rfl rfl fun w9 H => ?_
    refine WL.nil ?_
    refine CW.seq (CW.reg ?_)
    refine WL.ev rfl rfl (Ev.mv rfl rfl) ?_
    obtain ⟨⟨y6, z4⟩, hy6, hr⟩ := bd hr
    obtain ⟨F', M', hfF, hoF, hcM⟩ := H.callN [false, true, false, false] ⟨noB, trivial⟩
    obtain ⟨H', hcN⟩ := hcM (ps := [Pr.S y1.b (.slice A1 n1 c1)]) ⟨hfF.get (i := 1) rfl, trivial⟩
    refine WL.call rfl rfl rfl rfl rfl ok86 rfl (sl1Below_ok hy6 (by decide : I64 5) hI12 hI13 H') ?_
    rintro _ w10 hE ⟨rfl, hI18, hI19, hI20, H'⟩
    have H := hcN 1 H' rfl ⟨fun _ _ _ _ _ h => h, trivial⟩
    refine WL.ev rfl rfl (Ev.as rfl rfl) (WL.nil ?_)
    refine CW.seq (CW.seq (CW.reg ?_))
    refine WL.ev rfl rfl (Ev.as rfl rfl) (WL.nil ?_)
    have H := H.toG (i := 2) rfl
    obtain ⟨q1, hq1, hr⟩ := bd hr
    refine CW.block (CW.loop (α := Nat × (List Expr) × Int × Int × Int × Int × Int × Int × ByteArray × ByteArray × Value) (fun ⟨k1, s1, s2, s3, s4, s5, s6, s7, s8, s9, v1⟩ => [(2, .pointer (some ⟨b1, 0, none⟩)), (3, .pointer (some ⟨b2, 0, none⟩)), (4, .pointer (some ⟨b3, 0, none⟩)), (5, .int .i64 y6), (6, .int .i64 (k1 : Int))]) (fun ⟨k1, s1, s2, s3, s4, s5, s6, s7, s8, s9, v1⟩ w => k1 ≤ y6.toNat ∧ eachN (sDrawConstantValue_L1 y1) k1 (y6.toNat - k1) (s1, s2, s3, s4, s5, s6, s7, s8, s9) = some q1 ∧ I64 s2 ∧ I64 s3 ∧ I64 s4 ∧ I64 s5 ∧ I64 s6 ∧ I64 s7 ∧ s8.size ≤ 9223372036854775807 ∧ s9.size ≤ 9223372036854775807 ∧ HL F0 [] w0 w [Pr.S a0 (.slice A0' n0' c0'), Pr.S y1.b (.slice A1 n1 c1)] [It.B b1 31 [.int .i64 0, .int .i64 0, .int .i64 0, .int .i64 0, .string (⟨#[]⟩ : ByteArray), .string (⟨#[]⟩ : ByteArray), .slice none 0 0], It.B b2 159 [.slice A1 n1 c1, .int .i64 s2, .int .i64 s3], It.G 31 s1 v1, It.B b3 31 [.int .i64 s4, .int .i64 s5, .int .i64 s6, .int .i64 s7, .string s8, .string s9, v1]]) (fun ⟨k1, s1, s2, s3, s4, s5, s6, s7, s8, s9, v1⟩ => y6.toNat - k1) ⟨0, y5.Args, z4.i, z4.h, y5.Kind, y5.N, y5.Pos, y5.Type_, y5.Symbol, y5.Name, (.slice A3 n3 c3)⟩ ⟨rfl, rfl, rfl, rfl, rfl, trivial⟩ ⟨Nat.zero_le _, hq1, hI19, hI20, hI14, hI15, hI16, hI17, hS3, hS4, H.keep 2 4⟩ ?_)
    rintro ⟨k1, s1, s2, s3, s4, s5, s6, s7, s8, s9, v1⟩ σ w11 ⟨hk1, hq1, hI21, hI22, hI23, hI24, hI25, hI26, hS5, hS6, H⟩
    obtain ⟨A4, n4, c4, rfl⟩ := (H.rG (i := 2) rfl).form3
    refine CW.seq (CW.seq (CW.reg ?_))
    refine WL.ev rfl rfl (Ev.mv rfl rfl) (WL.ev rfl rfl (Ev.mv rfl rfl) (WL.ev rfl rfl (Ev.bin rfl rfl rfl Bin.lss) (WL.nil ?_)))
    refine CW.condD rfl (fun h2 => ?_) (fun h2 => ?_)
    · skip
      have hk2 := toNat_lt h2
      obtain ⟨z5, hb1, hq1⟩ := eachN_go hq1 hk2
      unfold sDrawConstantValue_L1 at hb1
      dsimp only at hb1
      refine CW.skip ?_
      obtain ⟨q2, hm1, hb1⟩ := bd hb1
      refine CW.seq (CW.block (CW.mid (fun ρ' w => ∃ (s10 : List Expr) (s11 : Int) (s12 : Int) (s13 : Int) (s14 : Int) (s15 : Int) (s16 : Int) (s17 : ByteArray) (s18 : ByteArray) (v2 : Value), q2 = (s10, s11, s12, s13, s14, s15, s16, s17, s18) ∧ agree ρ' [(2, .pointer (some ⟨b1, 0, none⟩)), (3, .pointer (some ⟨b2, 0, none⟩)), (4, .pointer (some ⟨b3, 0, none⟩)), (5, .int .i64 y6), (6, .int .i64 (k1 : Int))] ∧ I64 s11 ∧ I64 s12 ∧ I64 s13 ∧ I64 s14 ∧ I64 s15 ∧ I64 s16 ∧ s17.size ≤ 9223372036854775807 ∧ s18.size ≤ 9223372036854775807 ∧ HL F0 [] w0 w [Pr.S a0 (.slice A0' n0' c0'), Pr.S y1.b (.slice A1 n1 c1)] [It.B b1 31 [.int .i64 0, .int .i64 0, .int .i64 0, .int .i64 0, .string (⟨#[]⟩ : ByteArray), .string (⟨#[]⟩ : ByteArray), .slice none 0 0], It.B b2 159 [.slice A1 n1 c1, .int .i64 s11, .int .i64 s12], It.emp, It.B b3 31 [.int .i64 s13, .int .i64 s14, .int .i64 s15, .int .i64 s16, .string s17, .string s18, v2], It.G 31 s10 v2]) ?_ ?_))
      · skip
        refine CW.held (fun w => ∃ v1_1_ : Value, ∃ v1_2_ : Value, ∃ o2_ : It, ∃ v3_0_ : Value, ∃ v3_1_ : Value, ∃ v3_2_ : Value, ∃ v3_3_ : Value, ∃ v3_4_ : Value, ∃ v3_5_ : Value, ∃ v3_6_ : Value, HL F0 [] w0 w [Pr.S a0 (.slice A0' n0' c0'), Pr.S y1.b (.slice A1 n1 c1)] [It.B b1 31 [.int .i64 0, .int .i64 0, .int .i64 0, .int .i64 0, .string (⟨#[]⟩ : ByteArray), .string (⟨#[]⟩ : ByteArray), .slice none 0 0], It.B b2 159 [.slice A1 n1 c1, v1_1_, v1_2_], o2_, It.B b3 31 [v3_0_, v3_1_, v3_2_, v3_3_, v3_4_, v3_5_, v3_6_]]) hmix (fun w12 hE => ?_)
        have H : HL F0 [] w0 w12 [Pr.S a0 (.slice A0' n0' c0'), Pr.S y1.b (.slice A1 n1 c1)] [It.B b1 31 [.int .i64 0, .int .i64 0, .int .i64 0, .int .i64 0, .string (⟨#[]⟩ : ByteArray), .string (⟨#[]⟩ : ByteArray), .slice none 0 0], It.B b2 159 [.slice A1 n1 c1, .int .i64 s2, .int .i64 s3], It.G 31 s1 (.slice A4 n4 c4), It.B b3 31 [.int .i64 s4, .int .i64 s5, .int .i64 s6, .int .i64 s7, .string s8, .string s9, .slice A4 n4 c4]] := H.ext hE
        refine HW.take 0 ⟨_, _, _, _, _, _, _, _, _, _, H.keep 2 4⟩ rfl (by kernel_rfl) rfl rfl (fun _ _ => Ev.mv rfl rfl) ?_
        refine HW.take 4 ⟨_, _, _, _, _, _, _, _, _, _, H.keep 2 4⟩ rfl (by kernel_rfl) rfl rfl (fun _ _ => Ev.mv rfl rfl) ?_
        refine HW.some [1, 3] (by kernel_rfl) rfl ⟨HW.do1 rfl ?_, HW.do1 rfl ?_, trivial⟩
        · skip
          obtain ⟨⟨y7, z6⟩, hy7, hm1⟩ := bd hm1
          obtain ⟨F', M', hfF, hoF, hcM⟩ := H.callN [false, true, false, false] ⟨noB, trivial⟩
          obtain ⟨H', hcN⟩ := hcM (ps := [Pr.S y1.b (.slice A1 n1 c1)]) ⟨hfF.get (i := 1) rfl, trivial⟩
          refine WL.call rfl rfl rfl rfl rfl ok86 rfl (sl1Below_ok hy7 (by decide : I64 12) hI21 hI22 H') ?_
          rintro _ w13 hE ⟨rfl, hI33, hI34, hI35, H'⟩
          have H := hcN 1 H' rfl ⟨fun _ _ _ _ _ h => h, trivial⟩
          refine HW.next ⟨_, _, _, _, _, _, _, _, _, _, H.keep 2 4⟩ ?_
          obtain ⟨hg1, hm1⟩ := grd_some hm1
          refine HW.take 2 ⟨_, _, _, _, _, _, _, _, _, _, H.keep 2 4⟩ rfl (by kernel_rfl) rfl rfl (fun _ _ => Ev.bin rfl rfl rfl (Bin.add hg1)) ?_
          refine HW.some [3, 5] (by kernel_rfl) rfl ⟨HW.do1 rfl ?_, HW.do1 rfl ?_, trivial⟩
          · skip
            refine WL.ev rfl rfl (Ev.lda rfl ag31 sz31 rfl (At.blk (H.rB (i := 3) rfl)) rfl) ?_
            refine HW.next ⟨_, _, _, _, _, _, _, _, _, _, H.keep 2 4⟩ ?_
            refine HW.eff 5 rfl (by kernel_rfl) ?_
            obtain ⟨⟨y8, z7⟩, hy8, hm1⟩ := bd hm1
            obtain ⟨F', M', hfF, hoF, hcM⟩ := H.callN [false, true, false, false] ⟨noB, trivial⟩
            obtain ⟨H', hcN⟩ := hcM (ps := [Pr.S y1.b (.slice A1 n1 c1)]) ⟨hfF.get (i := 1) rfl, trivial⟩
            refine WL.call rfl rfl rfl rfl rfl ok86 rfl (sl1Below_ok hy8 (by decide : I64 5) hI34 hI35 H') ?_
            rintro _ w14 hE ⟨rfl, hI36, hI37, hI38, H'⟩
            have H := hcN 1 H' rfl ⟨fun _ _ _ _ _ h => h, trivial⟩
            refine HW.next ⟨_, _, _, _, _, _, _, _, _, _, H.keep 2 4⟩ ?_
            refine HW.eff 6 rfl (by kernel_rfl) ?_
            obtain ⟨y9, hy9, hm1⟩ := bd hm1
            refine WL.call rfl rfl rfl rfl rfl ok98 rfl (sl4Const_ok hy9 (F0 := fun _ => False) hI36 (by decide : I64 1)) ?_
            rintro _ w15 hE ⟨A5, n5, c5, rfl, hI39, hI40, hI41, hI42, hS9, hS10, H'⟩
            have H := H.callA H' ⟨fun _ _ _ _ _ h => h, trivial⟩
            refine HW.next ⟨_, _, _, _, _, _, _, _, _, _, H.keep 2 4⟩ ?_
            refine HW.eff 7 rfl (by kernel_rfl) ?_
            have H := H.frzG (i := 2) rfl
            have H := H.frzO (i := 4) rfl
            obtain ⟨y10, hy10, hm1⟩ := bd hm1
            obtain ⟨F, hF, hcl⟩ := H.call
            refine WL.call rfl rfl rfl rfl rfl ok99 rfl (sl4Op_ok hy10 hg1 (Expr_rd.2 ⟨_, rfl, hI23, hI24, hI25, hI26, hS5, hS6, (hF.get (i := 2) rfl)⟩) (Expr_rd.2 ⟨_, rfl, hI39, hI40, hI41, hI42, hS9, hS10, (hF.get (i := 3) rfl)⟩)) ?_
            rintro _ w16 hE ⟨A6, n6, c6, rfl, hI43, hI44, hI45, hI46, hS11, hS12, H'⟩
            have H : HL F0 [] w0 w16 [Pr.S a0 (.slice A0' n0' c0'), Pr.S y1.b (.slice A1 n1 c1), Pr.S s1 (.slice A4 n4 c4), Pr.S y9.Args (.slice A5 n5 c5)] [It.B b1 31 [.int .i64 0, .int .i64 0, .int .i64 0, .int .i64 0, .string (⟨#[]⟩ : ByteArray), .string (⟨#[]⟩ : ByteArray), .slice none 0 0], It.B b2 159 [.slice A1 n1 c1, .int .i64 z7.i, .int .i64 z7.h], It.emp, It.B b3 31 [.int .i64 s4, .int .i64 s5, .int .i64 s6, .int .i64 s7, .string s8, .string s9, .slice A4 n4 c4], It.emp, It.G 31 y10.Args (.slice A6 n6 c6)] := hcl H'
            refine HW.next ⟨_, _, _, _, _, _, _, _, _, _, H.keep 2 4⟩ ?_
            refine HW.eff 8 rfl (by kernel_rfl) ?_
            refine WL.stB (i := 3) rfl rfl rfl sz31 rfl rfl rfl rfl (all1 rfl (all1 rfl (all1 rfl (all1 rfl (all1 rfl (all1 rfl (all1 rfl all0))))))) H rfl rfl rfl fun w17 H => ?_
            refine HW.next ⟨_, _, _, _, _, _, _, _, _, _, H.keep 2 4⟩ ?_
            refine HW.done (by kernel_rfl) ?_
            have H := H.swap 4 5
            obtain rfl := sm hm1
            exact ⟨y10.Args, z7.i, z7.h, y10.Kind, y10.N, y10.Pos, y10.Type_, y10.Symbol, y10.Name, _, rfl, ⟨rfl, rfl, rfl, rfl, rfl, trivial⟩, hI37, hI38, hI43, hI44, hI45, hI46, hS11, hS12, H.keep 2 5⟩
          · skip
            obtain ⟨⟨y8, z7⟩, hy8, hm1⟩ := bd hm1
            obtain ⟨y9, hy9, hm1⟩ := bd hm1
            obtain ⟨y10, hy10, hm1⟩ := bd hm1
            obtain ⟨F', M', hfF, hoF, hcM⟩ := H.callN [false, true, false, false] ⟨noB, trivial⟩
            obtain ⟨H', hcN⟩ := hcM (ps := [Pr.S y1.b (.slice A1 n1 c1)]) ⟨hfF.get (i := 1) rfl, trivial⟩
            refine WL.call rfl rfl rfl rfl rfl ok86 rfl (sl1Below_ok hy8 (by decide : I64 5) hI34 hI35 H') ?_
            rintro _ w14 hE ⟨rfl, hI36, hI37, hI38, H'⟩
            have H := hcN 1 H' rfl ⟨fun _ _ _ _ _ h => h, trivial⟩
            refine HW.next ⟨_, _, _, _, _, _, _, _, _, _, H.keep 2 4⟩ ?_
            refine HW.some [3, 6] (by kernel_rfl) rfl ⟨HW.do1 rfl ?_, HW.do1 rfl ?_, trivial⟩
            · skip
              refine WL.ev rfl rfl (Ev.lda rfl ag31 sz31 rfl (At.blk (H.rB (i := 3) rfl)) rfl) ?_
              refine HW.next ⟨_, _, _, _, _, _, _, _, _, _, H.keep 2 4⟩ ?_
              refine HW.eff 6 rfl (by kernel_rfl) ?_
              refine WL.call rfl rfl rfl rfl rfl ok98 rfl (sl4Const_ok hy9 (F0 := fun _ => False) hI36 (by decide : I64 1)) ?_
              rintro _ w15 hE ⟨A5, n5, c5, rfl, hI39, hI40, hI41, hI42, hS9, hS10, H'⟩
              have H := H.callA H' ⟨fun _ _ _ _ _ h => h, trivial⟩
              refine HW.next ⟨_, _, _, _, _, _, _, _, _, _, H.keep 2 4⟩ ?_
              refine HW.eff 7 rfl (by kernel_rfl) ?_
              have H := H.frzG (i := 2) rfl
              have H := H.frzO (i := 4) rfl
              obtain ⟨F, hF, hcl⟩ := H.call
              refine WL.call rfl rfl rfl rfl rfl ok99 rfl (sl4Op_ok hy10 hg1 (Expr_rd.2 ⟨_, rfl, hI23, hI24, hI25, hI26, hS5, hS6, (hF.get (i := 2) rfl)⟩) (Expr_rd.2 ⟨_, rfl, hI39, hI40, hI41, hI42, hS9, hS10, (hF.get (i := 3) rfl)⟩)) ?_
              rintro _ w16 hE ⟨A6, n6, c6, rfl, hI43, hI44, hI45, hI46, hS11, hS12, H'⟩
              have H : HL F0 [] w0 w16 [Pr.S a0 (.slice A0' n0' c0'), Pr.S y1.b (.slice A1 n1 c1), Pr.S s1 (.slice A4 n4 c4), Pr.S y9.Args (.slice A5 n5 c5)] [It.B b1 31 [.int .i64 0, .int .i64 0, .int .i64 0, .int .i64 0, .string (⟨#[]⟩ : ByteArray), .string (⟨#[]⟩ : ByteArray), .slice none 0 0], It.B b2 159 [.slice A1 n1 c1, .int .i64 z7.i, .int .i64 z7.h], It.emp, It.B b3 31 [.int .i64 s4, .int .i64 s5, .int .i64 s6, .int .i64 s7, .string s8, .string s9, .slice A4 n4 c4], It.emp, It.G 31 y10.Args (.slice A6 n6 c6)] := hcl H'
              refine HW.next ⟨_, _, _, _, _, _, _, _, _, _, H.keep 2 4⟩ ?_
              refine HW.eff 8 rfl (by kernel_rfl) ?_
              refine WL.stB (i := 3) rfl rfl rfl sz31 rfl rfl rfl rfl (all1 rfl (all1 rfl (all1 rfl (all1 rfl (all1 rfl (all1 rfl (all1 rfl all0))))))) H rfl rfl rfl fun w17 H => ?_
              refine HW.next ⟨_, _, _, _, _, _, _, _, _, _, H.keep 2 4⟩ ?_
              refine HW.done (by kernel_rfl) ?_
              have H := H.swap 4 5
              obtain rfl := sm hm1
              exact ⟨y10.Args, z7.i, z7.h, y10.Kind, y10.N, y10.Pos, y10.Type_, y10.Symbol, y10.Name, _, rfl, ⟨rfl, rfl, rfl, rfl, rfl, trivial⟩, hI37, hI38, hI43, hI44, hI45, hI46, hS11, hS12, H.keep 2 5⟩
            · skip
              refine WL.call rfl rfl rfl rfl rfl ok98 rfl (sl4Const_ok hy9 (F0 := fun _ => False) hI36 (by decide : I64 1)) ?_
              rintro _ w15 hE ⟨A5, n5, c5, rfl, hI39, hI40, hI41, hI42, hS9, hS10, H'⟩
              have H := H.callA H' ⟨fun _ _ _ _ _ h => h, trivial⟩
              refine HW.next ⟨_, _, _, _, _, _, _, _, _, _, H.keep 2 4⟩ ?_
              refine HW.eff 3 rfl (by kernel_rfl) ?_
              refine WL.ev rfl rfl (Ev.lda rfl ag31 sz31 rfl (At.blk (H.rB (i := 3) rfl)) rfl) ?_
              refine HW.next ⟨_, _, _, _, _, _, _, _, _, _, H.keep 2 4⟩ ?_
              refine HW.eff 7 rfl (by kernel_rfl) ?_
              have H := H.frzG (i := 2) rfl
              have H := H.frzO (i := 4) rfl
              obtain ⟨F, hF, hcl⟩ := H.call
              refine WL.call rfl rfl rfl rfl rfl ok99 rfl (sl4Op_ok hy10 hg1 (Expr_rd.2 ⟨_, rfl, hI23, hI24, hI25, hI26, hS5, hS6, (hF.get (i := 2) rfl)⟩) (Expr_rd.2 ⟨_, rfl, hI39, hI40, hI41, hI42, hS9, hS10, (hF.get (i := 3) rfl)⟩)) ?_
              rintro _ w16 hE ⟨A6, n6, c6, rfl, hI43, hI44, hI45, hI46, hS11, hS12, H'⟩
              have H : HL F0 [] w0 w16 [Pr.S a0 (.slice A0' n0' c0'), Pr.S y1.b (.slice A1 n1 c1), Pr.S s1 (.slice A4 n4 c4), Pr.S y9.Args (.slice A5 n5 c5)] [It.B b1 31 [.int .i64 0, .int .i64 0, .int .i64 0, .int .i64 0, .string (⟨#[]⟩ : ByteArray), .string (⟨#[]⟩ : ByteArray), .slice none 0 0], It.B b2 159 [.slice A1 n1 c1, .int .i64 z7.i, .int .i64 z7.h], It.emp, It.B b3 31 [.int .i64 s4, .int .i64 s5, .int .i64 s6, .int .i64 s7, .string s8, .string s9, .slice A4 n4 c4], It.emp, It.G 31 y10.Args (.slice A6 n6 c6)] := hcl H'
              refine HW.next ⟨_, _, _, _, _, _, _, _, _, _, H.keep 2 4⟩ ?_
              refine HW.eff 8 rfl (by kernel_rfl) ?_
              refine WL.stB (i := 3) rfl rfl rfl sz31 rfl rfl rfl rfl (all1 rfl (all1 rfl (all1 rfl (all1 rfl (all1 rfl (all1 rfl (all1 rfl all0))))))) H rfl rfl rfl fun w17 H => ?_
              refine HW.next ⟨_, _, _, _, _, _, _, _, _, _, H.keep 2 4⟩ ?_
              refine HW.done (by kernel_rfl) ?_
              have H := H.swap 4 5
              obtain rfl := sm hm1
              exact ⟨y10.Args, z7.i, z7.h, y10.Kind, y10.N, y10.Pos, y10.Type_, y10.Symbol, y10.Name, _, rfl, ⟨rfl, rfl, rfl, rfl, rfl, trivial⟩, hI37, hI38, hI43, hI44, hI45, hI46, hS11, hS12, H.keep 2 5⟩
        · skip
          obtain ⟨⟨y7, z6⟩, hy7, hm1⟩ := bd hm1
          obtain ⟨hg1, hm1⟩ := grd_some hm1
          obtain ⟨⟨y8, z7⟩, hy8, hm1⟩ := bd hm1
          obtain ⟨y9, hy9, hm1⟩ := bd hm1
          obtain ⟨y10, hy10, hm1⟩ := bd hm1
          refine WL.ev rfl rfl (Ev.lda rfl ag31 sz31 rfl (At.blk (H.rB (i := 3) rfl)) rfl) ?_
          refine HW.next ⟨_, _, _, _, _, _, _, _, _, _, H.keep 2 4⟩ ?_
          refine HW.eff 1 rfl (by kernel_rfl) ?_
          obtain ⟨F', M', hfF, hoF, hcM⟩ := H.callN [false, true, false, false] ⟨noB, trivial⟩
          obtain ⟨H', hcN⟩ := hcM (ps := [Pr.S y1.b (.slice A1 n1 c1)]) ⟨hfF.get (i := 1) rfl, trivial⟩
          refine WL.call rfl rfl rfl rfl rfl ok86 rfl (sl1Below_ok hy7 (by decide : I64 12) hI21 hI22 H') ?_
          rintro _ w13 hE ⟨rfl, hI33, hI34, hI35, H'⟩
          have H := hcN 1 H' rfl ⟨fun _ _ _ _ _ h => h, trivial⟩
          refine HW.next ⟨_, _, _, _, _, _, _, _, _, _, H.keep 2 4⟩ ?_
          refine HW.take 2 ⟨_, _, _, _, _, _, _, _, _, _, H.keep 2 4⟩ rfl (by kernel_rfl) rfl rfl (fun _ _ => Ev.bin rfl rfl rfl (Bin.add hg1)) ?_
          refine HW.eff 5 rfl (by kernel_rfl) ?_
          obtain ⟨F', M', hfF, hoF, hcM⟩ := H.callN [false, true, false, false] ⟨noB, trivial⟩
          obtain ⟨H', hcN⟩ := hcM (ps := [Pr.S y1.b (.slice A1 n1 c1)]) ⟨hfF.get (i := 1) rfl, trivial⟩
          refine WL.call rfl rfl rfl rfl rfl ok86 rfl (sl1Below_ok hy8 (by decide : I64 5) hI34 hI35 H') ?_
          rintro _ w14 hE ⟨rfl, hI36, hI37, hI38, H'⟩
          have H := hcN 1 H' rfl ⟨fun _ _ _ _ _ h => h, trivial⟩
          refine HW.next ⟨_, _, _, _, _, _, _, _, _, _, H.keep 2 4⟩ ?_
          refine HW.eff 6 rfl (by kernel_rfl) ?_
          refine WL.call rfl rfl rfl rfl rfl ok98 rfl (sl4Const_ok hy9 (F0 := fun _ => False) hI36 (by decide : I64 1)) ?_
          rintro _ w15 hE ⟨A5, n5, c5, rfl, hI39, hI40, hI41, hI42, hS9, hS10, H'⟩
          have H := H.callA H' ⟨fun _ _ _ _ _ h => h, trivial⟩
          refine HW.next ⟨_, _, _, _, _, _, _, _, _, _, H.keep 2 4⟩ ?_
          refine HW.eff 7 rfl (by kernel_rfl) ?_
          have H := H.frzG (i := 2) rfl
          have H := H.frzO (i := 4) rfl
          obtain ⟨F, hF, hcl⟩ := H.call
          refine WL.call rfl rfl rfl rfl rfl ok99 rfl (sl4Op_ok hy10 hg1 (Expr_rd.2 ⟨_, rfl, hI23, hI24, hI25, hI26, hS5, hS6, (hF.get (i := 2) rfl)⟩) (Expr_rd.2 ⟨_, rfl, hI39, hI40, hI41, hI42, hS9, hS10, (hF.get (i := 3) rfl)⟩)) ?_
          rintro _ w16 hE ⟨A6, n6, c6, rfl, hI43, hI44, hI45, hI46, hS11, hS12, H'⟩
          have H : HL F0 [] w0 w16 [Pr.S a0 (.slice A0' n0' c0'), Pr.S y1.b (.slice A1 n1 c1), Pr.S s1 (.slice A4 n4 c4), Pr.S y9.Args (.slice A5 n5 c5)] [It.B b1 31 [.int .i64 0, .int .i64 0, .int .i64 0, .int .i64 0, .string (⟨#[]⟩ : ByteArray), .string (⟨#[]⟩ : ByteArray), .slice none 0 0], It.B b2 159 [.slice A1 n1 c1, .int .i64 z7.i, .int .i64 z7.h], It.emp, It.B b3 31 [.int .i64 s4, .int .i64 s5, .int .i64 s6, .int .i64 s7, .string s8, .string s9, .slice A4 n4 c4], It.emp, It.G 31 y10.Args (.slice A6 n6 c6)] := hcl H'
          refine HW.next ⟨_, _, _, _, _, _, _, _, _, _, H.keep 2 4⟩ ?_
          refine HW.eff 8 rfl (by kernel_rfl) ?_
          refine WL.stB (i := 3) rfl rfl rfl sz31 rfl rfl rfl rfl (all1 rfl (all1 rfl (all1 rfl (all1 rfl (all1 rfl (all1 rfl (all1 rfl all0))))))) H rfl rfl rfl fun w17 H => ?_
          refine HW.next ⟨_, _, _, _, _, _, _, _, _, _, H.keep 2 4⟩ ?_
          refine HW.done (by kernel_rfl) ?_
          have H := H.swap 4 5
          obtain rfl := sm hm1
          exact ⟨y10.Args, z7.i, z7.h, y10.Kind, y10.N, y10.Pos, y10.Type_, y10.Symbol, y10.Name, _, rfl, ⟨rfl, rfl, rfl, rfl, rfl, trivial⟩, hI37, hI38, hI43, hI44, hI45, hI46, hS11, hS12, H.keep 2 5⟩
      · rintro ρ' w18 ⟨s10, s11, s12, s13, s14, s15, s16, s17, s18, v2, rfl, hag, hI27, hI28, hI29, hI30, hI31, hI32, hS7, hS8, H⟩
        obtain ⟨σ, rfl⟩ := ofL_ex hag
        obtain ⟨A7, n7, c7, rfl⟩ := (H.rG (i := 4) rfl).form3
        refine CW.reg ?_
        refine WL.ev rfl rfl (Ev.mv rfl rfl) (WL.ev rfl rfl (Ev.bin rfl rfl rfl (Bin.addN (a := k1) (b := 1) rfl (i64_succNI h2 hI18.2))) (WL.ev rfl rfl (Ev.as rfl rfl) (WL.nil ?_)))
        have H := H.swap 2 4
        obtain rfl := sm hb1
        exact ⟨⟨k1 + 1, s10, s11, s12, s13, s14, s15, s16, s17, s18, (.slice A7 n7 c7)⟩, ⟨rfl, rfl, rfl, rfl, rfl, trivial⟩, ⟨hk2, hq1, hI27, hI28, hI29, hI30, hI31, hI32, hS7, hS8, H.keep 2 4⟩, Nat.sub_lt_sub_left hk2 (Nat.lt_succ_self _)⟩
    · skip
      obtain rfl := eachN_end hq1 (not_toNat_lt h2)
      refine CW.exit ?_
      refine CW.seq (CW.reg ?_)
      refine WL.ev rfl rfl (Ev.lda rfl ag31 sz31 rfl (At.blk (H.rB (i := 3) rfl)) rfl) ?_
      refine WL.stB (i := 0) rfl rfl rfl sz31 rfl rfl rfl rfl (all1 rfl (all1 rfl (all1 rfl (all1 rfl (all1 rfl (all1 rfl (all1 rfl all0))))))) H rfl rfl rfl fun w19 H => ?_
      refine WL.nil ?_
      refine CW.ret ?_
      obtain rfl := sm hr
      exact ⟨_, resC rfl ag31 sz31 rfl rfl (At.blk (H.rB (i := 0) rfl)) rfl, H.ext0, _, _, _, rfl, hI23, hI24, hI25, hI26, hS5, hS6, H.outM (fr' := []) [false, false, true, false] fun _ _ => trivial⟩

noncomputable def slices_Index_int_L1 (a1 : Int) : Nat → Int → Unit → Option (Unit ⊕ Int) := fun k1 x1 _ => 
  if a1 = x1 then (
  some (.inr (k1 : Int))
  ) else (
  some (.inl ())
  )
noncomputable def slices_Index_int_m (a0 : (List Int)) (a1 : Int) : Option Int :=
  (findL (slices_Index_int_L1 a1) 0 a0 ()).bind <| onr (fun r1 => some r1) fun _ =>
  some (-1)
theorem slices_Index_int_ok {a0 : (List Int)} {a1 : Int} {r : Int} (hr : slices_Index_int_m a0 a1 = some r) {F0 : Nat → Prop} {w0 : World} {z0 : Value} (ha0 : rdS F0 w0 a0 z0) (ha1 : I64 a1) :
    Ret Try.prog 157 #[z0, .int .i64 a1] w0 (fun _ => False) fun v w => v = .int .i64 r ∧ I64 r := by
  obtain ⟨A0', n0', c0', rfl⟩ := ha0.form3
  have H := (HL.start F0 w0).argS ha0
  refine enter Try.func157 rfl rfl rfl ?_
  refine CW.seq (CW.reg ?_)
  refine WL.ev rfl rfl (Ev.as rfl rfl) (WL.nil ?_)
  refine CW.seq (CW.seq (CW.reg ?_))
  refine WL.ev rfl rfl (Ev.mv rfl rfl) ?_
  have hl1 := (H.rS (i := 0) rfl).I
  refine WL.ev rfl rfl (Ev.lenV rfl el41 rfl (H.rS (i := 0) rfl)) (WL.ev rfl rfl (Ev.mv rfl rfl) (WL.nil ?_))
  obtain ⟨q1, hq1, hr⟩ := bd hr
  refine CW.block (CW.loop (α := Nat) (fun k1 => [(0, .slice A0' n0' c0'), (1, .int .i64 a1), (7, .int .i64 (a0.length : Int)), (8, .int .i64 (k1 : Int))]) (fun k1 w => k1 ≤ a0.length ∧ findL (slices_Index_int_L1 a1) k1 (a0.drop k1) () = some q1 ∧ HL F0 [] w0 w [Pr.S a0 (.slice A0' n0' c0')] []) (fun k1 => a0.length - k1) 0 ⟨rfl, rfl, rfl, rfl, trivial⟩ ⟨Nat.zero_le _, hq1, H.keep 1 0⟩ ?_)
  rintro k1 σ w1 ⟨hk1, hq1, H⟩
  refine CW.seq (CW.reg ?_)
  refine WL.ev rfl rfl (Ev.bin rfl rfl rfl Bin.lss) (WL.nil ?_)
  refine CW.seq (CW.condD rfl (fun h1 => ?_) (fun h1 => ?_))
  · skip
    have hk2 := cast_lt h1
    obtain ⟨x1, z1, hx1, hb1, hs1, ht1⟩ := findL_go hq1 hk2
    refine CW.skip ?_
    refine CW.seq (CW.block (CW.seq (CW.reg ?_)))
    refine WL.ev rfl rfl (Ev.mv rfl rfl) (WL.ev rfl rfl (Ev.as rfl rfl) (WL.nil ?_))
    refine CW.seq (CW.reg ?_)
    refine WL.ev rfl rfl (Ev.mv rfl rfl) (WL.ev rfl rfl (Ev.mv rfl rfl) (WL.ev rfl rfl (Ev.mv rfl rfl) ?_))
    obtain ⟨b1, ob1, cb1, hvb1, hI1, H⟩ := ixS_Int H (i := 0) rfl hx1
    refine WL.ev rfl rfl (Ev.ixVN rfl el41 sz3 rfl hvb1 rfl (lt_of hx1)) (WL.ev rfl rfl (Ev.ld rfl ag3 rfl ((H.rA (i := 1) rfl).cell0 rfl)) (WL.ev rfl rfl (Ev.bin rfl rfl rfl Bin.eql) (WL.nil ?_)))
    refine CW.condD rfl (fun h2 => ?_) (fun h2 => ?_)
    · skip
      have hb1 := ifp h2 hb1
      refine CW.seq (CW.reg ?_)
      refine WL.ev rfl rfl (Ev.mv rfl rfl) (WL.ev rfl rfl (Ev.as rfl rfl) (WL.nil ?_))
      refine CW.ret ?_
      obtain rfl := sm hb1
      obtain rfl := ht1 _ rfl
      obtain rfl := sm hr
      exact ⟨_, res1 rfl rfl rfl, H.ext0, rfl, (i64_nat hk2 hl1)⟩
    · skip
      have hb1 := ifn h2 hb1
      refine CW.skip ?_
      refine CW.reg ?_
      refine WL.ev rfl rfl (Ev.bin rfl rfl rfl (Bin.addN (a := k1) (b := 1) rfl (i64_succN hk2 hl1.2))) (WL.ev rfl rfl (Ev.mv rfl rfl) (WL.nil ?_))
      obtain rfl := sm hb1
      have hq1 := hs1 _ rfl
      exact ⟨(k1 + 1), ⟨rfl, rfl, rfl, rfl, trivial⟩, ⟨hk2, hq1, H.keep 1 0⟩, Nat.sub_lt_sub_left hk2 (Nat.lt_succ_self _)⟩
  · skip
    obtain rfl := findL_end hq1 (not_cast_lt h1)
    have hr := (onr_inl _ _ _).symm.trans hr
    refine CW.exit ?_
    refine CW.seq (CW.reg ?_)
    refine WL.ev rfl rfl (Ev.as rfl rfl) (WL.nil ?_)
    refine CW.ret ?_
    obtain rfl := sm hr
    exact ⟨_, res1 rfl rfl rfl, H.ext0, rfl, (by decide : I64 (-1))⟩

noncomputable def slices_Contains_int_m (a0 : (List Int)) (a1 : Int) : Option Bool :=
  (slices_Index_int_m a0 a1).bind fun y1 =>
  some (decide (0 ≤ y1))
theorem slices_Contains_int_ok {a0 : (List Int)} {a1 : Int} {r : Bool} (hr : slices_Contains_int_m a0 a1 = some r) {F0 : Nat → Prop} {w0 : World} {z0 : Value} (ha0 : rdS F0 w0 a0 z0) (ha1 : I64 a1) :
    Ret Try.prog 102 #[z0, .int .i64 a1] w0 (fun _ => False) fun v w => v = .bool r := by
  obtain ⟨A0', n0', c0', rfl⟩ := ha0.form3
  have H := (HL.start F0 w0).argS ha0
  refine enter Try.func102 rfl rfl rfl ?_
  refine CW.seq (CW.reg ?_)
  refine WL.ev rfl rfl (Ev.as rfl rfl) (WL.nil ?_)
  refine CW.seq (CW.reg ?_)
  refine WL.ev rfl rfl (Ev.mv rfl rfl) (WL.ev rfl rfl (Ev.mv rfl rfl) ?_)
  obtain ⟨y1, hy1, hr⟩ := bd hr
  refine WL.call rfl rfl rfl rfl rfl ok157 rfl (slices_Index_int_ok hy1 (H.rS (i := 0) rfl) ha1) ?_
  rintro _ w1 hE ⟨rfl, hI1⟩
  have H := H.ext hE
  refine WL.ev rfl rfl (Ev.bin rfl rfl rfl Bin.geq) (WL.ev rfl rfl (Ev.as rfl rfl) (WL.nil ?_))
  refine CW.ret ?_
  obtain rfl := sm hr
  exact ⟨_, res1 rfl rfl rfl, H.ext0, rfl⟩

noncomputable def iConstantValue_1_m (a0 : Expr) (a1 : (List Int)) : Option Bool :=
  (slices_Contains_int_m a1 a0.Kind).bind fun y1 =>
  some y1
theorem iConstantValue_1_ok {a0 : Expr} {a1 : (List Int)} {r : Bool} (hr : iConstantValue_1_m a0 a1 = some r) {F0 : Nat → Prop} {w0 : World} {ca0 : List Value} (ha0 : rd F0 w0 a0 ca0) {b1p : Nat} (ha1 : CapP F0 w0 b1p a1) :
    Ret Try.prog 101 #[.agg ca0.toArray, .pointer (some ⟨b1p, 0, none⟩)] w0 (fun _ => False) fun v w => v = .bool r := by
  have H := (HL.start F0 w0).argR ha0
  obtain ⟨A1, n1, c1, rfl, hI1, hI2, hI3, hI4, hS1, hS2, H⟩ := op_Expr H (i := 0) rfl
  obtain ⟨cpa1, H⟩ := H.argP ha1
  obtain ⟨A2, n2, c2, rfl, H⟩ := op_Sl H (i := 3) rfl
  refine enter Try.func101 rfl rfl rfl ?_
  refine CW.seq (CW.reg ?_)
  refine WL.boxH rfl rfl rfl rfl rfl H fun b1 w1 H => ?_
  refine WL.ev rfl rfl (Ev.as rfl rfl) (WL.nil ?_)
  refine CW.seq (CW.reg ?_)
  refine WL.ev rfl rfl (Ev.ld rfl ag41 rfl ((H.rA (i := 2) rfl).cell0 rfl)) (WL.ev rfl rfl (Ev.fa rfl fo31_0 rfl) (WL.ev rfl rfl (Ev.ld rfl ag3 rfl ((H.rB (i := 0) rfl).cell rfl)) ?_))
  obtain ⟨y1, hy1, hr⟩ := bd hr
  refine WL.call rfl rfl rfl rfl rfl ok102 rfl (slices_Contains_int_ok hy1 (H.rS (i := 4) rfl) hI1) ?_
  rintro _ w2 hE rfl
  have H := H.ext hE
  refine WL.ev rfl rfl (Ev.as rfl rfl) (WL.nil ?_)
  refine CW.ret ?_
  obtain rfl := sm hr
  exact ⟨_, res1 rfl rfl rfl, H.ext0, rfl⟩

noncomputable def ieveryNode_1_iConstantValue_1_m (rec_ieveryNode_iConstantValue_1 : Expr → (List Int) → Option Bool) (a0 : Expr) (a1_0 : (List Int)) : Option Bool :=
  (rec_ieveryNode_iConstantValue_1 a0 a1_0).bind fun y1 =>
  some (!y1)
theorem ieveryNode_1_iConstantValue_1_ok {rec_ieveryNode_iConstantValue_1 : Expr → (List Int) → Option Bool} (ih_ieveryNode_iConstantValue_1 : ∀ {a0 : Expr} {a1_0 : (List Int)} {r : Bool}, rec_ieveryNode_iConstantValue_1 a0 a1_0 = some r → ∀ {F0 : Nat → Prop} {w0 : World} {ca0 : List Value} (ha0 : rd F0 w0 a0 ca0) {b1_0p : Nat} (ha1_0 : CapP F0 w0 b1_0p a1_0), Ret Try.prog 100 #[.agg ca0.toArray, .func (.func 101) #[] #[.pointer (some ⟨b1_0p, 0, none⟩)]] w0 (fun _ => False) fun v w => v = .bool r) {a0 : Expr} {a1_0 : (List Int)} {r : Bool} (hr : ieveryNode_1_iConstantValue_1_m rec_ieveryNode_iConstantValue_1 a0 a1_0 = some r) {F0 : Nat → Prop} {w0 : World} {ca0 : List Value} (ha0 : rd F0 w0 a0 ca0) {b1_0p : Nat} (ha1_0 : CapP F0 w0 b1_0p a1_0) {b1p : Nat} (ha1 : F0 b1p ∧ At w0 b1p 0 [.func (.func 101) #[] #[.pointer (some ⟨b1_0p, 0, none⟩)]]) :
    Ret Try.prog 156 #[.agg ca0.toArray, .pointer (some ⟨b1p, 0, none⟩)] w0 (fun _ => False) fun v w => v = .bool r := by
  have H := (HL.start F0 w0).argR ha0
  obtain ⟨A1, n1, c1, rfl, hI1, hI2, hI3, hI4, hS1, hS2, H⟩ := op_Expr H (i := 0) rfl
  obtain ⟨cpa1_0, H⟩ := H.argP ha1_0
  obtain ⟨A2, n2, c2, rfl, H⟩ := op_Sl H (i := 3) rfl
  have H := H.argA ha1
  refine enter Try.func156 rfl rfl rfl ?_
  refine CW.seq (CW.reg ?_)
  refine WL.boxH rfl rfl rfl rfl rfl H fun b1 w1 H => ?_
  refine WL.ev rfl rfl (Ev.as rfl rfl) (WL.nil ?_)
  refine CW.seq (CW.reg ?_)
  refine WL.ev rfl rfl (Ev.lda rfl ag31 sz31 rfl (At.blk (H.rB (i := 0) rfl)) rfl) (WL.ev rfl rfl (Ev.ld rfl ag51 rfl ((H.rA (i := 5) rfl).cell0 rfl)) ?_)
  obtain ⟨y1, hy1, hr⟩ := bd hr
  refine WL.call rfl rfl rfl rfl rfl ok100 rfl (ih_ieveryNode_iConstantValue_1 hy1 (F0 := fun q => q < _) (Expr_rd.2 ⟨_, rfl, hI1, hI2, hI3, hI4, hS1, hS2, (H.rS (i := 1) rfl)⟩) ⟨H.rAl (i := 2) rfl, _, H.rA (i := 2) rfl, ⟨_, rfl, (H.rS (i := 4) rfl)⟩⟩) ?_
  rintro _ w2 hE rfl
  have H := H.ext hE
  refine WL.ev rfl rfl (Ev.not rfl rfl) (WL.ev rfl rfl (Ev.as rfl rfl) (WL.nil ?_))
  refine CW.ret ?_
  obtain rfl := sm hr
  exact ⟨_, res1 rfl rfl rfl, H.ext0, rfl⟩

noncomputable def slices_IndexFunc_Expr_ieveryNode_1_iConstantValue_1_L1 (rec_ieveryNode_iConstantValue_1 : Expr → (List Int) → Option Bool) (a1_0_0 : (List Int)) : Nat → Expr → Unit → Option (Unit ⊕ Int) := fun k1 x1 _ => 
  (ieveryNode_1_iConstantValue_1_m rec_ieveryNode_iConstantValue_1 x1 a1_0_0).bind fun y1 =>
  if y1 = true then (
  some (.inr (k1 : Int))
  ) else (
  some (.inl ())
  )
noncomputable def slices_IndexFunc_Expr_ieveryNode_1_iConstantValue_1_m (rec_ieveryNode_iConstantValue_1 : Expr → (List Int) → Option Bool) (a0 : (List Expr)) (a1_0_0 : (List Int)) : Option Int :=
  (findL (slices_IndexFunc_Expr_ieveryNode_1_iConstantValue_1_L1 rec_ieveryNode_iConstantValue_1 a1_0_0) 0 a0 ()).bind <| onr (fun r1 => some r1) fun _ =>
  some (-1)
theorem slices_IndexFunc_Expr_ieveryNode_1_iConstantValue_1_ok {rec_ieveryNode_iConstantValue_1 : Expr → (List Int) → Option Bool} (ih_ieveryNode_iConstantValue_1 : ∀ {a0 : Expr} {a1_0 : (List Int)} {r : Bool}, rec_ieveryNode_iConstantValue_1 a0 a1_0 = some r → ∀ {F0 : Nat → Prop} {w0 : World} {ca0 : List Value} (ha0 : rd F0 w0 a0 ca0) {b1_0p : Nat} (ha1_0 : CapP F0 w0 b1_0p a1_0), Ret Try.prog 100 #[.agg ca0.toArray, .func (.func 101) #[] #[.pointer (some ⟨b1_0p, 0, none⟩)]] w0 (fun _ => False) fun v w => v = .bool r) {a0 : (List Expr)} {a1_0_0 : (List Int)} {r : Int} (hr : slices_IndexFunc_Expr_ieveryNode_1_iConstantValue_1_m rec_ieveryNode_iConstantValue_1 a0 a1_0_0 = some r) {F0 : Nat → Prop} {w0 : World} {z0 : Value} (ha0 : rdS F0 w0 a0 z0) {b1_0_0p : Nat} (ha1_0_0 : CapP F0 w0 b1_0_0p a1_0_0) {b1_0p : Nat} (ha1_0 : F0 b1_0p ∧ At w0 b1_0p 0 [.func (.func 101) #[] #[.pointer (some ⟨b1_0_0p, 0, none⟩)]]) :
    Ret Try.prog 185 #[z0, .func (.func 156) #[] #[.pointer (some ⟨b1_0p, 0, none⟩)]] w0 (fun _ => False) fun v w => v = .int .i64 r ∧ I64 r := by
  obtain ⟨A0', n0', c0', rfl⟩ := ha0.form3
  have H := (HL.start F0 w0).argS ha0
  obtain ⟨cpa1_0_0, H⟩ := H.argP ha1_0_0
  obtain ⟨A1, n1, c1, rfl, H⟩ := op_Sl H (i := 2) rfl
  have H := H.argA ha1_0
  refine enter Try.func185 rfl rfl rfl ?_
  refine CW.seq (CW.reg ?_)
  refine WL.ev rfl rfl (Ev.as rfl rfl) (WL.nil ?_)
  refine CW.seq (CW.seq (CW.reg ?_))
  refine WL.ev rfl rfl (Ev.mv rfl rfl) ?_
  have hl1 := (H.rS (i := 0) rfl).I
  refine WL.ev rfl rfl (Ev.lenV rfl el29 rfl (H.rS (i := 0) rfl)) (WL.ev rfl rfl (Ev.mv rfl rfl) (WL.nil ?_))
  obtain ⟨q1, hq1, hr⟩ := bd hr
  refine CW.block (CW.loop (α := Nat) (fun k1 => [(0, .slice A0' n0' c0'), (1, .func (.func 156) #[] #[.pointer (some ⟨b1_0p, 0, none⟩)]), (7, .int .i64 (a0.length : Int)), (8, .int .i64 (k1 : Int))]) (fun k1 w => k1 ≤ a0.length ∧ findL (slices_IndexFunc_Expr_ieveryNode_1_iConstantValue_1_L1 rec_ieveryNode_iConstantValue_1 a1_0_0) k1 (a0.drop k1) () = some q1 ∧ HL F0 [] w0 w [Pr.S a0 (.slice A0' n0' c0'), Pr.A b1_0_0p 0 [.slice A1 n1 c1], Pr.R a1_0_0 [.slice A1 n1 c1], Pr.S a1_0_0 (.slice A1 n1 c1), Pr.A b1_0p 0 [.func (.func 101) #[] #[.pointer (some ⟨b1_0_0p, 0, none⟩)]]] []) (fun k1 => a0.length - k1) 0 ⟨rfl, rfl, rfl, rfl, trivial⟩ ⟨Nat.zero_le _, hq1, H.keep 5 0⟩ ?_)
  rintro k1 σ w1 ⟨hk1, hq1, H⟩
  refine CW.seq (CW.reg ?_)
  refine WL.ev rfl rfl (Ev.bin rfl rfl rfl Bin.lss) (WL.nil ?_)
  refine CW.seq (CW.condD rfl (fun h1 => ?_) (fun h1 => ?_))
  · skip
    have hk2 := cast_lt h1
    obtain ⟨x1, z1, hx1, hb1, hs1, ht1⟩ := findL_go hq1 hk2
    refine CW.skip ?_
    refine CW.seq (CW.block (CW.seq (CW.reg ?_)))
    refine WL.ev rfl rfl (Ev.mv rfl rfl) (WL.ev rfl rfl (Ev.as rfl rfl) (WL.nil ?_))
    refine CW.seq (CW.reg ?_)
    refine WL.ev rfl rfl (Ev.mv rfl rfl) (WL.ev rfl rfl (Ev.mv rfl rfl) (WL.ev rfl rfl (Ev.mv rfl rfl) ?_))
    obtain ⟨b1, ob1, cb1, A2, n2, c2, hvb1, hI1, hI2, hI3, hI4, hS1, hS2, H⟩ := ixS_Expr H (i := 0) rfl hx1
    refine WL.ev rfl rfl (Ev.ixVN rfl el29 sz31 rfl hvb1 rfl (lt_of hx1)) (WL.ev rfl rfl (Ev.lda rfl ag31 sz31 rfl (H.rA (i := 5) rfl) rfl) ?_)
    obtain ⟨y1, hy1, hb1⟩ := bd hb1
    refine WL.call rfl rfl rfl rfl rfl ok156 rfl (ieveryNode_1_iConstantValue_1_ok ih_ieveryNode_iConstantValue_1 hy1 (F0 := fun q => q < _) (Expr_rd.2 ⟨_, rfl, hI1, hI2, hI3, hI4, hS1, hS2, (H.rS (i := 7) rfl)⟩) ⟨H.rAl (i := 1) rfl, _, H.rA (i := 1) rfl, ⟨_, rfl, (H.rS (i := 3) rfl)⟩⟩ ⟨H.rAl (i := 4) rfl, H.rA (i := 4) rfl⟩) ?_
    rintro _ w2 hE rfl
    have H := H.ext hE
    refine WL.nil ?_
    refine CW.condB rfl (fun h2 => ?_) (fun h2 => ?_)
    · skip
      have hb1 := ifp h2 hb1
      refine CW.seq (CW.reg ?_)
      refine WL.ev rfl rfl (Ev.mv rfl rfl) (WL.ev rfl rfl (Ev.as rfl rfl) (WL.nil ?_))
      refine CW.ret ?_
      obtain rfl := sm hb1
      obtain rfl := ht1 _ rfl
      obtain rfl := sm hr
      exact ⟨_, res1 rfl rfl rfl, H.ext0, rfl, (i64_nat hk2 hl1)⟩
    · skip
      have hb1 := ifn h2 hb1
      refine CW.skip ?_
      refine CW.reg ?_
      refine WL.ev rfl rfl (Ev.bin rfl rfl rfl (Bin.addN (a := k1) (b := 1) rfl (i64_succN hk2 hl1.2))) (WL.ev rfl rfl (Ev.mv rfl rfl) (WL.nil ?_))
      obtain rfl := sm hb1
      have hq1 := hs1 _ rfl
      exact ⟨(k1 + 1), ⟨rfl, rfl, rfl, rfl, trivial⟩, ⟨hk2, hq1, H.keep 5 0⟩, Nat.sub_lt_sub_left hk2 (Nat.lt_succ_self _)⟩
  · skip
    obtain rfl := findL_end hq1 (not_cast_lt h1)
    have hr := (onr_inl _ _ _).symm.trans hr
    refine CW.exit ?_
    refine CW.seq (CW.reg ?_)
    refine WL.ev rfl rfl (Ev.as rfl rfl) (WL.nil ?_)
    refine CW.ret ?_
    obtain rfl := sm hr
    exact ⟨_, res1 rfl rfl rfl, H.ext0, rfl, (by decide : I64 (-1))⟩

noncomputable def slices_ContainsFunc_Expr_ieveryNode_1_iConstantValue_1_m (rec_ieveryNode_iConstantValue_1 : Expr → (List Int) → Option Bool) (a0 : (List Expr)) (a1_0_0 : (List Int)) : Option Bool :=
  (slices_IndexFunc_Expr_ieveryNode_1_iConstantValue_1_m rec_ieveryNode_iConstantValue_1 a0 a1_0_0).bind fun y1 =>
  some (decide (0 ≤ y1))
theorem slices_ContainsFunc_Expr_ieveryNode_1_iConstantValue_1_ok {rec_ieveryNode_iConstantValue_1 : Expr → (List Int) → Option Bool} (ih_ieveryNode_iConstantValue_1 : ∀ {a0 : Expr} {a1_0 : (List Int)} {r : Bool}, rec_ieveryNode_iConstantValue_1 a0 a1_0 = some r → ∀ {F0 : Nat → Prop} {w0 : World} {ca0 : List Value} (ha0 : rd F0 w0 a0 ca0) {b1_0p : Nat} (ha1_0 : CapP F0 w0 b1_0p a1_0), Ret Try.prog 100 #[.agg ca0.toArray, .func (.func 101) #[] #[.pointer (some ⟨b1_0p, 0, none⟩)]] w0 (fun _ => False) fun v w => v = .bool r) {a0 : (List Expr)} {a1_0_0 : (List Int)} {r : Bool} (hr : slices_ContainsFunc_Expr_ieveryNode_1_iConstantValue_1_m rec_ieveryNode_iConstantValue_1 a0 a1_0_0 = some r) {F0 : Nat → Prop} {w0 : World} {z0 : Value} (ha0 : rdS F0 w0 a0 z0) {b1_0_0p : Nat} (ha1_0_0 : CapP F0 w0 b1_0_0p a1_0_0) {b1_0p : Nat} (ha1_0 : F0 b1_0p ∧ At w0 b1_0p 0 [.func (.func 101) #[] #[.pointer (some ⟨b1_0_0p, 0, none⟩)]]) :
    Ret Try.prog 155 #[z0, .func (.func 156) #[] #[.pointer (some ⟨b1_0p, 0, none⟩)]] w0 (fun _ => False) fun v w => v = .bool r := by
  obtain ⟨A0', n0', c0', rfl⟩ := ha0.form3
  have H := (HL.start F0 w0).argS ha0
  obtain ⟨cpa1_0_0, H⟩ := H.argP ha1_0_0
  obtain ⟨A1, n1, c1, rfl, H⟩ := op_Sl H (i := 2) rfl
  have H := H.argA ha1_0
  refine enter Try.func155 rfl rfl rfl ?_
  refine CW.seq (CW.reg ?_)
  refine WL.ev rfl rfl (Ev.as rfl rfl) (WL.nil ?_)
  refine CW.seq (CW.reg ?_)
  refine WL.ev rfl rfl (Ev.mv rfl rfl) (WL.ev rfl rfl (Ev.mv rfl rfl) ?_)
  obtain ⟨y1, hy1, hr⟩ := bd hr
  refine WL.call rfl rfl rfl rfl rfl ok185 rfl (slices_IndexFunc_Expr_ieveryNode_1_iConstantValue_1_ok ih_ieveryNode_iConstantValue_1 hy1 (F0 := fun q => q < _) (H.rS (i := 0) rfl) ⟨H.rAl (i := 1) rfl, _, H.rA (i := 1) rfl, ⟨_, rfl, (H.rS (i := 3) rfl)⟩⟩ ⟨H.rAl (i := 4) rfl, H.rA (i := 4) rfl⟩) ?_
  rintro _ w1 hE ⟨rfl, hI1⟩
  have H := H.ext hE
  refine WL.ev rfl rfl (Ev.bin rfl rfl rfl Bin.geq) (WL.ev rfl rfl (Ev.as rfl rfl) (WL.nil ?_))
  refine CW.ret ?_
  obtain rfl := sm hr
  exact ⟨_, res1 rfl rfl rfl, H.ext0, rfl⟩

noncomputable def ieveryNode_iConstantValue_1_B (rec_ieveryNode_iConstantValue_1 : Expr → (List Int) → Option Bool) (a0 : Expr) (a1_0 : (List Int)) : Option Bool :=
  (iConstantValue_1_m a0 a1_0).bind fun y1 =>
  if y1 = true then (
  (slices_ContainsFunc_Expr_ieveryNode_1_iConstantValue_1_m rec_ieveryNode_iConstantValue_1 a0.Args a1_0).bind fun y2 =>
  some (!y2)
  ) else (
  some false
  )
theorem ieveryNode_iConstantValue_1_okB {rec_ieveryNode_iConstantValue_1 : Expr → (List Int) → Option Bool} (ih_ieveryNode_iConstantValue_1 : ∀ {a0 : Expr} {a1_0 : (List Int)} {r : Bool}, rec_ieveryNode_iConstantValue_1 a0 a1_0 = some r → ∀ {F0 : Nat → Prop} {w0 : World} {ca0 : List Value} (ha0 : rd F0 w0 a0 ca0) {b1_0p : Nat} (ha1_0 : CapP F0 w0 b1_0p a1_0), Ret Try.prog 100 #[.agg ca0.toArray, .func (.func 101) #[] #[.pointer (some ⟨b1_0p, 0, none⟩)]] w0 (fun _ => False) fun v w => v = .bool r) {a0 : Expr} {a1_0 : (List Int)} {r : Bool} (hr : ieveryNode_iConstantValue_1_B rec_ieveryNode_iConstantValue_1 a0 a1_0 = some r) {F0 : Nat → Prop} {w0 : World} {ca0 : List Value} (ha0 : rd F0 w0 a0 ca0) {b1_0p : Nat} (ha1_0 : CapP F0 w0 b1_0p a1_0) :
    Ret Try.prog 100 #[.agg ca0.toArray, .func (.func 101) #[] #[.pointer (some ⟨b1_0p, 0, none⟩)]] w0 (fun _ => False) fun v w => v = .bool r := by
  have H := (HL.start F0 w0).argR ha0
  obtain ⟨A1, n1, c1, rfl, hI1, hI2, hI3, hI4, hS1, hS2, H⟩ := op_Expr H (i := 0) rfl
  obtain ⟨cpa1_0, H⟩ := H.argP ha1_0
  obtain ⟨A2, n2, c2, rfl, H⟩ := op_Sl H (i := 3) rfl
  refine enter Try.func100 rfl rfl rfl ?_
  refine CW.seq (CW.reg ?_)
  refine WL.boxH rfl rfl rfl rfl rfl H fun b1 w1 H => ?_
  refine WL.boxH rfl rfl rfl rfl rfl H fun b2 w2 H => ?_
  refine WL.ev rfl rfl (Ev.as rfl rfl) (WL.nil ?_)
  refine CW.seq (CW.reg ?_)
  refine WL.ev rfl rfl (Ev.ld rfl ag51 rfl ((H.rB (i := 1) rfl).cell rfl)) (WL.ev rfl rfl (Ev.lda rfl ag31 sz31 rfl (At.blk (H.rB (i := 0) rfl)) rfl) ?_)
  obtain ⟨y1, hy1, hr⟩ := bd hr
  refine WL.call rfl rfl rfl rfl rfl ok101 rfl (iConstantValue_1_ok hy1 (F0 := fun q => q < _) (Expr_rd.2 ⟨_, rfl, hI1, hI2, hI3, hI4, hS1, hS2, (H.rS (i := 1) rfl)⟩) ⟨H.rAl (i := 2) rfl, _, H.rA (i := 2) rfl, ⟨_, rfl, (H.rS (i := 4) rfl)⟩⟩) ?_
  rintro _ w3 hE rfl
  have H := H.ext hE
  refine WL.mvB rfl rfl rfl rfl (fun h1 => ?_) (fun h1 => ?_)
  · skip
    have hr := ifp h1 hr
    refine WL.on rfl rfl (WL.ev rfl rfl (Ev.fa rfl fo31_6 rfl) (WL.on rfl rfl (WL.ev rfl rfl (Ev.ld rfl ag29 rfl ((H.rB (i := 0) rfl).cell rfl)) (WL.on rfl rfl (WL.ev rfl rfl (Ev.mkfL rfl rfl rfl) (WL.on rfl rfl ?_))))))
    obtain ⟨y2, hy2, hr⟩ := bd hr
    refine WL.call rfl rfl rfl rfl rfl ok155 rfl (slices_ContainsFunc_Expr_ieveryNode_1_iConstantValue_1_ok ih_ieveryNode_iConstantValue_1 hy2 (F0 := fun q => q < _) (H.rS (i := 1) rfl) ⟨H.rAl (i := 2) rfl, _, H.rA (i := 2) rfl, ⟨_, rfl, (H.rS (i := 4) rfl)⟩⟩ ⟨(H.rB (i := 1) rfl).lt, At.blk (H.rB (i := 1) rfl)⟩) ?_
    rintro _ w4 hE rfl
    have H := H.ext hE
    refine WL.on rfl rfl (WL.ev rfl rfl (Ev.not rfl rfl) (WL.ev rfl rfl (Ev.pickT rfl rfl rfl) (WL.ev rfl rfl (Ev.as rfl rfl) (WL.nil ?_))))
    refine CW.ret ?_
    obtain rfl := sm hr
    exact ⟨_, res1 rfl rfl rfl, H.ext0, rfl⟩
  · skip
    have hr := ifn h1 hr
    refine WL.off rfl rfl rfl (WL.off rfl rfl rfl (WL.off rfl rfl rfl (WL.off rfl rfl rfl (WL.off rfl rfl rfl (WL.ev rfl rfl (Ev.pickF rfl rfl rfl) (WL.ev rfl rfl (Ev.as rfl rfl) (WL.nil ?_)))))))
    refine CW.ret ?_
    obtain rfl := sm hr
    exact ⟨_, res1 rfl rfl rfl, H.ext0, rfl⟩
noncomputable def ieveryNode_iConstantValue_1_n : Nat → Expr → (List Int) → Option Bool
  | 0, _, _ => none
  | n + 1, a0, a1_0 => ieveryNode_iConstantValue_1_B (ieveryNode_iConstantValue_1_n n) a0 a1_0
noncomputable def ieveryNode_iConstantValue_1_m (a0 : Expr) (a1_0 : (List Int)) : Option Bool := recO fun n => ieveryNode_iConstantValue_1_n n a0 a1_0
theorem ieveryNode_iConstantValue_1_okn (n : Nat) : ∀ {a0 : Expr} {a1_0 : (List Int)} {r : Bool}, ieveryNode_iConstantValue_1_n n a0 a1_0 = some r → ∀ {F0 : Nat → Prop} {w0 : World} {ca0 : List Value} (ha0 : rd F0 w0 a0 ca0) {b1_0p : Nat} (ha1_0 : CapP F0 w0 b1_0p a1_0), Ret Try.prog 100 #[.agg ca0.toArray, .func (.func 101) #[] #[.pointer (some ⟨b1_0p, 0, none⟩)]] w0 (fun _ => False) fun v w => v = .bool r := by
  induction n with
  | zero => intro a0 a1_0 r hr; exact nomatch (show (none : Option Bool) = some r from hr)
  | succ n ih => intro a0 a1_0 r hr; exact ieveryNode_iConstantValue_1_okB ih hr
theorem ieveryNode_iConstantValue_1_ok {a0 : Expr} {a1_0 : (List Int)} {r : Bool} (hr : ieveryNode_iConstantValue_1_m a0 a1_0 = some r) {F0 : Nat → Prop} {w0 : World} {ca0 : List Value} (ha0 : rd F0 w0 a0 ca0) {b1_0p : Nat} (ha1_0 : CapP F0 w0 b1_0p a1_0) :
    Ret Try.prog 100 #[.agg ca0.toArray, .func (.func 101) #[] #[.pointer (some ⟨b1_0p, 0, none⟩)]] w0 (fun _ => False) fun v w => v = .bool r := by
  obtain ⟨n, hn⟩ := recO_some hr
  exact ieveryNode_iConstantValue_1_okn n hn ha0 ha1_0

noncomputable def iEvalLocal_v2_m (a0 : Expr) (a1 : (List Slot)) (a2 : Int) (a3 : (List Int)) : Option Int :=
  (iIsValidExpr_m a0).bind fun y1 =>
  if y1 = true then (
  (ireader_eval_iEvalLocal_1_inowhere_m a1 a2 a3 a0).bind fun y2 =>
  some y2
  ) else (
  some 0
  )
theorem iEvalLocal_v2_ok {a0 : Expr} {a1 : (List Slot)} {a2 : Int} {a3 : (List Int)} {r : Int} (hr : iEvalLocal_v2_m a0 a1 a2 a3 = some r) {F0 : Nat → Prop} {w0 : World} {ca0 : List Value} (ha0 : rd F0 w0 a0 ca0) {z1 : Value} (ha1 : rdS F0 w0 a1 z1) (ha2 : I64 a2) {z3 : Value} (ha3 : rdS F0 w0 a3 z3) :
    Ret Try.prog 23 #[.agg ca0.toArray, z1, .int .i64 a2, z3] w0 (fun _ => False) fun v w => v = .int .i64 r ∧ I64 r := by
  obtain ⟨A1', n1', c1', rfl⟩ := ha1.form3
  obtain ⟨A3', n3', c3', rfl⟩ := ha3.form3
  have H := (((HL.start F0 w0).argR ha0).argS ha1).argS ha3
  obtain ⟨A1, n1, c1, rfl, hI1, hI2, hI3, hI4, hS1, hS2, H⟩ := op_Expr H (i := 0) rfl
  refine enter Try.func23 rfl rfl rfl ?_
  refine CW.seq (CW.reg ?_)
  refine WL.boxH rfl rfl rfl rfl rfl H fun b1 w1 H => ?_
  refine WL.boxH rfl rfl rfl rfl rfl H fun b2 w2 H => ?_
  refine WL.ev rfl rfl (Ev.as rfl rfl) (WL.nil ?_)
  refine CW.seq (CW.seq (CW.reg ?_))
  refine WL.ev rfl rfl (Ev.lda rfl ag31 sz31 rfl (At.blk (H.rB (i := 0) rfl)) rfl) ?_
  obtain ⟨y1, hy1, hr⟩ := bd hr
  refine WL.call rfl rfl rfl rfl rfl ok87 rfl (iIsValidExpr_ok hy1 (Expr_rd.2 ⟨_, rfl, hI1, hI2, hI3, hI4, hS1, hS2, (H.rS (i := 3) rfl)⟩)) ?_
  rintro _ w3 hE rfl
  have H := H.ext hE
  refine WL.ev rfl rfl (Ev.not rfl rfl) (WL.nil ?_)
  refine CW.condBN rfl (fun h1 => ?_) (fun h1 => ?_)
  · skip
    have hr := ifn h1 hr
    refine CW.seq (CW.reg ?_)
    refine WL.ev rfl rfl (Ev.as rfl rfl) (WL.nil ?_)
    refine CW.ret ?_
    obtain rfl := sm hr
    exact ⟨_, res1 rfl rfl rfl, H.ext0, rfl, (by decide : I64 0)⟩
  · skip
    have hr := ifp h1 hr
    refine CW.skip ?_
    refine CW.seq (CW.reg ?_)
    refine WL.ev rfl rfl (Ev.mkfL rfl rfl rfl) (WL.ev rfl rfl (Ev.mv rfl rfl) (WL.ev rfl rfl (Ev.mv rfl rfl) (WL.ev rfl rfl (Ev.build rfl pl119 ze119 rfl rfl rfl rfl) (WL.ev rfl rfl (Ev.lda rfl ag31 sz31 rfl (At.blk (H.rB (i := 0) rfl)) rfl) ?_))))
    obtain ⟨y2, hy2, hr⟩ := bd hr
    refine WL.call rfl rfl rfl rfl rfl ok90 rfl (ireader_eval_iEvalLocal_1_inowhere_ok hy2 (F0 := fun q => q < _) ⟨(H.rB (i := 1) rfl).lt, _, At.blk (H.rB (i := 1) rfl), ⟨_, rfl, (H.rS (i := 1) rfl)⟩⟩ ha2 (H.rS (i := 2) rfl) (Expr_rd.2 ⟨_, rfl, hI1, hI2, hI3, hI4, hS1, hS2, (H.rS (i := 3) rfl)⟩)) ?_
    rintro _ w4 hE ⟨rfl, hI5⟩
    have H := H.ext hE
    refine WL.ev rfl rfl (Ev.as rfl rfl) (WL.nil ?_)
    refine CW.ret ?_
    obtain rfl := sm hr
    exact ⟨_, res1 rfl rfl rfl, H.ext0, rfl, hI5⟩

noncomputable def iConstantValue_m (a0 : Expr) : Option (Int × Bool) :=
  (iIsValidExpr_m a0).bind fun y1 =>
  if y1 = true then (
  (ieveryNode_iConstantValue_1_m a0 ([1, 4, 5] : List Int)).bind fun y2 =>
  if y2 = true then (
  (iEvalLocal_v2_m a0 [] 0 []).bind fun y3 =>
  some (y3, true)
  ) else (
  some (0, false)
  )
  ) else (
  some (0, false)
  )
theorem iConstantValue_ok {a0 : Expr} {r : (Int × Bool)} (hr : iConstantValue_m a0 = some r) {F0 : Nat → Prop} {w0 : World} {ca0 : List Value} (ha0 : rd F0 w0 a0 ca0) :
    Ret Try.prog 31 #[.agg ca0.toArray] w0 (fun _ => False) fun v w => v = .tuple #[.int .i64 r.1, .bool r.2] ∧ I64 r.1 := by
  have H := (HL.start F0 w0).argR ha0
  obtain ⟨A1, n1, c1, rfl, hI1, hI2, hI3, hI4, hS1, hS2, H⟩ := op_Expr H (i := 0) rfl
  refine enter Try.func31 rfl rfl rfl ?_
  refine CW.seq (CW.reg ?_)
  refine WL.boxH rfl rfl rfl rfl rfl H fun b1 w1 H => ?_
  refine WL.ev rfl rfl (Ev.as rfl rfl) (WL.ev rfl rfl (Ev.as rfl rfl) (WL.nil ?_))
  refine CW.seq (CW.reg ?_)
  refine WL.litN (xs := ([1, 4, 5] : List Int)) rfl rfl rfl el41 sz3 ze3 rfl (ball1 rfl (ball1 rfl (ball1 rfl ball0))) rfl rfl rfl (fun _ => (ownL.cons1 (α := Int) ⟨rfl, rfl, (by decide : I64 1)⟩ (ownL.cons1 (α := Int) ⟨rfl, rfl, (by decide : I64 4)⟩ (ownL.cons1 (α := Int) ⟨rfl, rfl, (by decide : I64 5)⟩ ⟨rfl, rfl⟩)))) rfl H fun A2 n2 c2 w2 H => ?_
  refine WL.allocH rfl rfl rfl ze41 H fun b2 w3 H => ?_
  refine WL.stB (i := 2) rfl rfl rfl sz41 rfl rfl rfl rfl (all1 rfl all0) H rfl rfl rfl fun w4 H => ?_
  refine WL.nil ?_
  refine CW.seq (CW.seq (CW.reg ?_))
  refine WL.ev rfl rfl (Ev.lda rfl ag31 sz31 rfl (At.blk (H.rB (i := 0) rfl)) rfl) ?_
  obtain ⟨y1, hy1, hr⟩ := bd hr
  refine WL.call rfl rfl rfl rfl rfl ok87 rfl (iIsValidExpr_ok hy1 (Expr_rd.2 ⟨_, rfl, hI1, hI2, hI3, hI4, hS1, hS2, (H.rS (i := 1) rfl)⟩)) ?_
  rintro _ w5 hE rfl
  have H := H.ext hE
  refine WL.ev rfl rfl (Ev.not rfl rfl) ?_
  refine WL.mvBN rfl rfl rfl rfl (fun h1 => ?_) (fun h1 => ?_)
  · skip
    have hr := ifn h1 hr
    refine WL.off rfl rfl rfl (WL.off rfl rfl rfl (WL.off rfl rfl rfl (WL.off rfl rfl rfl (WL.ev rfl rfl (Ev.pickT rfl rfl rfl) (WL.nil ?_)))))
    refine CW.condT rfl ?_
    refine CW.seq (CW.reg ?_)
    refine WL.ev rfl rfl (Ev.as rfl rfl) (WL.ev rfl rfl (Ev.as rfl rfl) (WL.nil ?_))
    refine CW.ret ?_
    obtain rfl := sm hr
    exact ⟨_, res2 rfl rfl rfl rfl rfl, H.ext0, rfl, (by decide : I64 0)⟩
  · skip
    have hr := ifp h1 hr
    refine WL.on rfl rfl (WL.ev rfl rfl (Ev.lda rfl ag31 sz31 rfl (At.blk (H.rB (i := 0) rfl)) rfl) (WL.on rfl rfl (WL.ev rfl rfl (Ev.mkfL rfl rfl rfl) (WL.on rfl rfl ?_))))
    obtain ⟨y2, hy2, hr⟩ := bd hr
    refine WL.call rfl rfl rfl rfl rfl ok100 rfl (ieveryNode_iConstantValue_1_ok hy2 (F0 := fun q => q < _) (Expr_rd.2 ⟨_, rfl, hI1, hI2, hI3, hI4, hS1, hS2, (H.rS (i := 1) rfl)⟩) ⟨(H.rB (i := 2) rfl).lt, _, At.blk (H.rB (i := 2) rfl), ⟨_, rfl, (H.rO (i := 1) rfl)⟩⟩) ?_
    rintro _ w6 hE rfl
    have H := H.ext hE
    refine WL.on rfl rfl (WL.ev rfl rfl (Ev.not rfl rfl) (WL.ev rfl rfl (Ev.pickF rfl rfl rfl) (WL.nil ?_)))
    refine CW.condBN rfl (fun h2 => ?_) (fun h2 => ?_)
    · skip
      have hr := ifn h2 hr
      refine CW.seq (CW.reg ?_)
      refine WL.ev rfl rfl (Ev.as rfl rfl) (WL.ev rfl rfl (Ev.as rfl rfl) (WL.nil ?_))
      refine CW.ret ?_
      obtain rfl := sm hr
      exact ⟨_, res2 rfl rfl rfl rfl rfl, H.ext0, rfl, (by decide : I64 0)⟩
    · skip
      have hr := ifp h2 hr
      refine CW.skip ?_
      refine CW.seq (CW.reg ?_)
      refine WL.ev rfl rfl (Ev.lda rfl ag31 sz31 rfl (At.blk (H.rB (i := 0) rfl)) rfl) ?_
      obtain ⟨y3, hy3, hr⟩ := bd hr
      refine WL.call rfl rfl rfl rfl rfl ok23 rfl (iEvalLocal_v2_ok hy3 (Expr_rd.2 ⟨_, rfl, hI1, hI2, hI3, hI4, hS1, hS2, (H.rS (i := 1) rfl)⟩) (rdS.nil (Nat.zero_le _)) (by decide : I64 0) (rdS.nil (Nat.zero_le _))) ?_
      rintro _ w7 hE ⟨rfl, hI5⟩
      have H := H.ext hE
      refine WL.ev rfl rfl (Ev.as rfl rfl) (WL.ev rfl rfl (Ev.as rfl rfl) (WL.nil ?_))
      refine CW.ret ?_
      obtain rfl := sm hr
      exact ⟨_, res2 rfl rfl rfl rfl rfl, H.ext0, rfl, hI5⟩

noncomputable def sl19Constant_L1 (rec_sl19Constant : Expr → Option Bool) : Nat → Expr → Unit → Option (Unit ⊕ Bool) := fun k1 x1 _ => 
  (rec_sl19Constant x1).bind fun y1 =>
  if y1 = true then (
  some (.inl ())
  ) else (
  some (.inr false)
  )
noncomputable def sl19Constant_B (rec_sl19Constant : Expr → Option Bool) (a0 : Expr) : Option Bool :=
  (findL (sl19Constant_L1 rec_sl19Constant) 0 a0.Args ()).bind <| onr (fun r1 => some r1) fun _ =>
  (
  if a0.Kind = 1 then (
  some true
  ) else (
  some (decide (a0.Kind = 4))
  )
  ).bind fun s1 =>
  (
  if s1 = true then (
  some true
  ) else (
  some (decide (a0.Kind = 5))
  )
  ).bind fun s2 =>
  some s2
theorem sl19Constant_okB {rec_sl19Constant : Expr → Option Bool} (ih_sl19Constant : ∀ {a0 : Expr} {r : Bool}, rec_sl19Constant a0 = some r → ∀ {F0 : Nat → Prop} {w0 : World} {ca0 : List Value} (ha0 : rd F0 w0 a0 ca0), Ret Try.prog 103 #[.agg ca0.toArray] w0 (fun _ => False) fun v w => v = .bool r) {a0 : Expr} {r : Bool} (hr : sl19Constant_B rec_sl19Constant a0 = some r) {F0 : Nat → Prop} {w0 : World} {ca0 : List Value} (ha0 : rd F0 w0 a0 ca0) :
    Ret Try.prog 103 #[.agg ca0.toArray] w0 (fun _ => False) fun v w => v = .bool r := by
  have H := (HL.start F0 w0).argR ha0
  obtain ⟨A1, n1, c1, rfl, hI1, hI2, hI3, hI4, hS1, hS2, H⟩ := op_Expr H (i := 0) rfl
  refine enter Try.func103 rfl rfl rfl ?_
  refine CW.seq (CW.reg ?_)
  refine WL.boxH rfl rfl rfl rfl rfl H fun b1 w1 H => ?_
  refine WL.ev rfl rfl (Ev.as rfl rfl) (WL.nil ?_)
  refine CW.seq (CW.seq (CW.reg ?_))
  refine WL.ev rfl rfl (Ev.as rfl rfl) (WL.nil ?_)
  obtain ⟨q1, hq1, hr⟩ := bd hr
  refine CW.block (CW.loop (α := Nat) (fun k1 => [(1, .pointer (some ⟨b1, 0, none⟩)), (3, .int .i64 (k1 : Int))]) (fun k1 w => k1 ≤ a0.Args.length ∧ findL (sl19Constant_L1 rec_sl19Constant) k1 (a0.Args.drop k1) () = some q1 ∧ HL F0 [] w0 w [Pr.R a0 [.int .i64 a0.Kind, .int .i64 a0.N, .int .i64 a0.Pos, .int .i64 a0.Type_, .string a0.Symbol, .string a0.Name, .slice A1 n1 c1], Pr.S a0.Args (.slice A1 n1 c1)] [It.B b1 31 [.int .i64 a0.Kind, .int .i64 a0.N, .int .i64 a0.Pos, .int .i64 a0.Type_, .string a0.Symbol, .string a0.Name, .slice A1 n1 c1]]) (fun k1 => a0.Args.length - k1) 0 ⟨rfl, rfl, trivial⟩ ⟨Nat.zero_le _, hq1, H.keep 2 1⟩ ?_)
  rintro k1 σ w2 ⟨hk1, hq1, H⟩
  refine CW.seq (CW.seq (CW.reg ?_))
  refine WL.ev rfl rfl (Ev.mv rfl rfl) (WL.ev rfl rfl (Ev.fa rfl fo31_6 rfl) (WL.ev rfl rfl (Ev.ld rfl ag29 rfl ((H.rB (i := 0) rfl).cell rfl)) ?_))
  have hl1 := (H.rS (i := 1) rfl).I
  refine WL.ev rfl rfl (Ev.lenV rfl el29 rfl (H.rS (i := 1) rfl)) (WL.ev rfl rfl (Ev.bin rfl rfl rfl Bin.lss) (WL.nil ?_))
  refine CW.condD rfl (fun h1 => ?_) (fun h1 => ?_)
  · skip
    have hk2 := cast_lt h1
    obtain ⟨x1, z1, hx1, hb1, hs1, ht1⟩ := findL_go hq1 hk2
    refine CW.skip ?_
    refine CW.seq (CW.block (CW.seq (CW.reg ?_)))
    refine WL.ev rfl rfl (Ev.fa rfl fo31_6 rfl) (WL.ev rfl rfl (Ev.ld rfl ag29 rfl ((H.rB (i := 0) rfl).cell rfl)) (WL.ev rfl rfl (Ev.mv rfl rfl) ?_))
    obtain ⟨b2, ob2, cb2, A2, n2, c2, hvb2, hI5, hI6, hI7, hI8, hS3, hS4, H⟩ := ixS_Expr H (i := 1) rfl hx1
    refine WL.ev rfl rfl (Ev.ixVN rfl el29 sz31 rfl hvb2 rfl (lt_of hx1)) (WL.ev rfl rfl (Ev.lda rfl ag31 sz31 rfl (H.rA (i := 2) rfl) rfl) ?_)
    obtain ⟨y1, hy1, hb1⟩ := bd hb1
    refine WL.call rfl rfl rfl rfl rfl ok103 rfl (ih_sl19Constant hy1 (Expr_rd.2 ⟨_, rfl, hI5, hI6, hI7, hI8, hS3, hS4, (H.rS (i := 4) rfl)⟩)) ?_
    rintro _ w3 hE rfl
    have H := H.ext hE
    refine WL.ev rfl rfl (Ev.not rfl rfl) (WL.nil ?_)
    refine CW.condBN rfl (fun h2 => ?_) (fun h2 => ?_)
    · skip
      have hb1 := ifn h2 hb1
      refine CW.seq (CW.reg ?_)
      refine WL.ev rfl rfl (Ev.as rfl rfl) (WL.nil ?_)
      refine CW.ret ?_
      obtain rfl := sm hb1
      obtain rfl := ht1 _ rfl
      obtain rfl := sm hr
      exact ⟨_, res1 rfl rfl rfl, H.ext0, rfl⟩
    · skip
      have hb1 := ifp h2 hb1
      refine CW.skip ?_
      refine CW.reg ?_
      refine WL.ev rfl rfl (Ev.mv rfl rfl) (WL.ev rfl rfl (Ev.bin rfl rfl rfl (Bin.addN (a := k1) (b := 1) rfl (i64_succN hk2 hl1.2))) (WL.ev rfl rfl (Ev.as rfl rfl) (WL.nil ?_)))
      obtain rfl := sm hb1
      have hq1 := hs1 _ rfl
      exact ⟨(k1 + 1), ⟨rfl, rfl, trivial⟩, ⟨hk2, hq1, H.keep 2 1⟩, Nat.sub_lt_sub_left hk2 (Nat.lt_succ_self _)⟩
  · skip
    obtain rfl := findL_end hq1 (not_cast_lt h1)
    have hr := (onr_inl _ _ _).symm.trans hr
    refine CW.exit ?_
    refine CW.seq (CW.reg ?_)
    refine WL.ev rfl rfl (Ev.fa rfl fo31_0 rfl) (WL.ev rfl rfl (Ev.ld rfl ag3 rfl ((H.rB (i := 0) rfl).cell rfl)) (WL.ev rfl rfl (Ev.bin rfl rfl rfl Bin.eql) ?_))
    obtain ⟨q2, hm1, hr⟩ := bd hr
    refine WL.cut 5 (fun ρ' w => ∃ (s1 : Bool), s1 = q2 ∧ agree ρ' [(1, .pointer (some ⟨b1, 0, none⟩)), (25, .bool s1)] ∧ HL F0 [] w0 w [Pr.R a0 [.int .i64 a0.Kind, .int .i64 a0.N, .int .i64 a0.Pos, .int .i64 a0.Type_, .string a0.Symbol, .string a0.Name, .slice A1 n1 c1], Pr.S a0.Args (.slice A1 n1 c1)] [It.B b1 31 [.int .i64 a0.Kind, .int .i64 a0.N, .int .i64 a0.Pos, .int .i64 a0.Type_, .string a0.Symbol, .string a0.Name, .slice A1 n1 c1]]) ?_ ?_
    · skip
      refine WL.mvD rfl rfl rfl rfl (fun h3 => ?_) (fun h3 => ?_)
      · skip
        have hm1 := ifp h3 hm1
        refine WL.off rfl rfl rfl (WL.off rfl rfl rfl (WL.off rfl rfl rfl (WL.ev rfl rfl (Ev.pickT rfl rfl rfl) (WL.nil ?_))))
        obtain rfl := sm hm1
        exact ⟨true, rfl, ⟨rfl, rfl, trivial⟩, H.keep 2 1⟩
      · skip
        have hm1 := ifn h3 hm1
        refine WL.on rfl rfl (WL.ev rfl rfl (Ev.fa rfl fo31_0 rfl) (WL.on rfl rfl (WL.ev rfl rfl (Ev.ld rfl ag3 rfl ((H.rB (i := 0) rfl).cell rfl)) (WL.on rfl rfl (WL.ev rfl rfl (Ev.bin rfl rfl rfl Bin.eql) (WL.ev rfl rfl (Ev.pickF rfl rfl rfl) (WL.nil ?_)))))))
        obtain rfl := sm hm1
        exact ⟨(decide (a0.Kind = 4)), rfl, ⟨rfl, rfl, trivial⟩, H.keep 2 1⟩
    · rintro ρ' w4 ⟨s1, rfl, hag, H⟩
      obtain ⟨σ, rfl⟩ := ofL_ex hag
      obtain ⟨q3, hm2, hr⟩ := bd hr
      refine WL.cut 5 (fun ρ' w => ∃ (s2 : Bool), s2 = q3 ∧ agree ρ' [(30, .bool s2)] ∧ HL F0 [] w0 w [Pr.R a0 [.int .i64 a0.Kind, .int .i64 a0.N, .int .i64 a0.Pos, .int .i64 a0.Type_, .string a0.Symbol, .string a0.Name, .slice A1 n1 c1], Pr.S a0.Args (.slice A1 n1 c1)] [It.B b1 31 [.int .i64 a0.Kind, .int .i64 a0.N, .int .i64 a0.Pos, .int .i64 a0.Type_, .string a0.Symbol, .string a0.Name, .slice A1 n1 c1]]) ?_ ?_
      · skip
        refine WL.mvB rfl rfl rfl rfl (fun h4 => ?_) (fun h4 => ?_)
        · skip
          have hm2 := ifp h4 hm2
          refine WL.off rfl rfl rfl (WL.off rfl rfl rfl (WL.off rfl rfl rfl (WL.ev rfl rfl (Ev.pickT rfl rfl rfl) (WL.nil ?_))))
          obtain rfl := sm hm2
          exact ⟨true, rfl, ⟨rfl, trivial⟩, H.keep 2 1⟩
        · skip
          have hm2 := ifn h4 hm2
          refine WL.on rfl rfl (WL.ev rfl rfl (Ev.fa rfl fo31_0 rfl) (WL.on rfl rfl (WL.ev rfl rfl (Ev.ld rfl ag3 rfl ((H.rB (i := 0) rfl).cell rfl)) (WL.on rfl rfl (WL.ev rfl rfl (Ev.bin rfl rfl rfl Bin.eql) (WL.ev rfl rfl (Ev.pickF rfl rfl rfl) (WL.nil ?_)))))))
          obtain rfl := sm hm2
          exact ⟨(decide (a0.Kind = 5)), rfl, ⟨rfl, trivial⟩, H.keep 2 1⟩
      · rintro ρ' w5 ⟨s2, rfl, hag, H⟩
        obtain ⟨σ, rfl⟩ := ofL_ex hag
        refine WL.ev rfl rfl (Ev.as rfl rfl) (WL.nil ?_)
        refine CW.ret ?_
        obtain rfl := sm hr
        exact ⟨_, res1 rfl rfl rfl, H.ext0, rfl⟩
noncomputable def sl19Constant_n : Nat → Expr → Option Bool
  | 0, _ => none
  | n + 1, a0 => sl19Constant_B (sl19Constant_n n) a0
noncomputable def sl19Constant_m (a0 : Expr) : Option Bool := recO fun n => sl19Constant_n n a0
theorem sl19Constant_okn (n : Nat) : ∀ {a0 : Expr} {r : Bool}, sl19Constant_n n a0 = some r → ∀ {F0 : Nat → Prop} {w0 : World} {ca0 : List Value} (ha0 : rd F0 w0 a0 ca0), Ret Try.prog 103 #[.agg ca0.toArray] w0 (fun _ => False) fun v w => v = .bool r := by
  induction n with
  | zero => intro a0 r hr; exact nomatch (show (none : Option Bool) = some r from hr)
  | succ n ih => intro a0 r hr; exact sl19Constant_okB ih hr
theorem sl19Constant_ok {a0 : Expr} {r : Bool} (hr : sl19Constant_m a0 = some r) {F0 : Nat → Prop} {w0 : World} {ca0 : List Value} (ha0 : rd F0 w0 a0 ca0) :
    Ret Try.prog 103 #[.agg ca0.toArray] w0 (fun _ => False) fun v w => v = .bool r := by
  obtain ⟨n, hn⟩ := recO_some hr
  exact sl19Constant_okn n hn ha0

noncomputable def sConstantValue_m (a0 : Expr) : Option (Int × Bool) :=
  (sIsValidExpr_m a0).bind fun y1 =>
  if y1 = true then (
  (sl19Constant_m a0).bind fun y2 =>
  if y2 = true then (
  (sl19Eval_m a0 [] 0 []).bind fun y3 =>
  some (y3, true)
  ) else (
  some (0, false)
  )
  ) else (
  some (0, false)
  )
theorem sConstantValue_ok {a0 : Expr} {r : (Int × Bool)} (hr : sConstantValue_m a0 = some r) {F0 : Nat → Prop} {w0 : World} {ca0 : List Value} (ha0 : rd F0 w0 a0 ca0) :
    Ret Try.prog 32 #[.agg ca0.toArray] w0 (fun _ => False) fun v w => v = .tuple #[.int .i64 r.1, .bool r.2] ∧ I64 r.1 := by
  have H := (HL.start F0 w0).argR ha0
  obtain ⟨A1, n1, c1, rfl, hI1, hI2, hI3, hI4, hS1, hS2, H⟩ := op_Expr H (i := 0) rfl
  refine enter Try.func32 rfl rfl rfl ?_
  refine CW.seq (CW.reg ?_)
  refine WL.boxH rfl rfl rfl rfl rfl H fun b1 w1 H => ?_
  refine WL.ev rfl rfl (Ev.as rfl rfl) (WL.ev rfl rfl (Ev.as rfl rfl) (WL.nil ?_))
  refine CW.seq (CW.seq (CW.reg ?_))
  refine WL.ev rfl rfl (Ev.lda rfl ag31 sz31 rfl (At.blk (H.rB (i := 0) rfl)) rfl) ?_
  obtain ⟨y1, hy1, hr⟩ := bd hr
  refine WL.call rfl rfl rfl rfl rfl ok27 rfl (sIsValidExpr_ok hy1 (Expr_rd.2 ⟨_, rfl, hI1, hI2, hI3, hI4, hS1, hS2, (H.rS (i := 1) rfl)⟩)) ?_
  rintro _ w2 hE rfl
  have H := H.ext hE
  refine WL.ev rfl rfl (Ev.not rfl rfl) ?_
  refine WL.mvBN rfl rfl rfl rfl (fun h1 => ?_) (fun h1 => ?_)
  · skip
    have hr := ifn h1 hr
    refine WL.off rfl rfl rfl (WL.off rfl rfl rfl (WL.off rfl rfl rfl (WL.ev rfl rfl (Ev.pickT rfl rfl rfl) (WL.nil ?_))))
    refine CW.condT rfl ?_
    refine CW.seq (CW.reg ?_)
    refine WL.ev rfl rfl (Ev.as rfl rfl) (WL.ev rfl rfl (Ev.as rfl rfl) (WL.nil ?_))
    refine CW.ret ?_
    obtain rfl := sm hr
    exact ⟨_, res2 rfl rfl rfl rfl rfl, H.ext0, rfl, (by decide : I64 0)⟩
  · skip
    have hr := ifp h1 hr
    refine WL.on rfl rfl (WL.ev rfl rfl (Ev.lda rfl ag31 sz31 rfl (At.blk (H.rB (i := 0) rfl)) rfl) (WL.on rfl rfl ?_))
    obtain ⟨y2, hy2, hr⟩ := bd hr
    refine WL.call rfl rfl rfl rfl rfl ok103 rfl (sl19Constant_ok hy2 (Expr_rd.2 ⟨_, rfl, hI1, hI2, hI3, hI4, hS1, hS2, (H.rS (i := 1) rfl)⟩)) ?_
    rintro _ w3 hE rfl
    have H := H.ext hE
    refine WL.on rfl rfl (WL.ev rfl rfl (Ev.not rfl rfl) (WL.ev rfl rfl (Ev.pickF rfl rfl rfl) (WL.nil ?_)))
    refine CW.condBN rfl (fun h2 => ?_) (fun h2 => ?_)
    · skip
      have hr := ifn h2 hr
      refine CW.seq (CW.reg ?_)
      refine WL.ev rfl rfl (Ev.as rfl rfl) (WL.ev rfl rfl (Ev.as rfl rfl) (WL.nil ?_))
      refine CW.ret ?_
      obtain rfl := sm hr
      exact ⟨_, res2 rfl rfl rfl rfl rfl, H.ext0, rfl, (by decide : I64 0)⟩
    · skip
      have hr := ifp h2 hr
      refine CW.skip ?_
      refine CW.seq (CW.reg ?_)
      refine WL.ev rfl rfl (Ev.lda rfl ag31 sz31 rfl (At.blk (H.rB (i := 0) rfl)) rfl) ?_
      refine WL.lit0H (α := Slot) rfl rfl rfl el40 sz50 H fun A2 n2 c2 w4 H => ?_
      refine WL.lit0H (α := Int) rfl rfl rfl el41 sz3 H fun A3 n3 c3 w5 H => ?_
      obtain ⟨y3, hy3, hr⟩ := bd hr
      refine WL.call rfl rfl rfl rfl rfl ok91 rfl (sl19Eval_ok hy3 (Expr_rd.2 ⟨_, rfl, hI1, hI2, hI3, hI4, hS1, hS2, (H.rS (i := 1) rfl)⟩) (H.rO (i := 1) rfl) (by decide : I64 0) (H.rO (i := 2) rfl)) ?_
      rintro _ w6 hE ⟨rfl, hI5⟩
      have H := H.ext hE
      refine WL.ev rfl rfl (Ev.as rfl rfl) (WL.ev rfl rfl (Ev.as rfl rfl) (WL.nil ?_))
      refine CW.ret ?_
      obtain rfl := sm hr
      exact ⟨_, res2 rfl rfl rfl rfl rfl, H.ext0, rfl, hI5⟩

noncomputable def wFnLocal_L1 (y8 : (List Occurrence)) : Nat → Slot → (List Slot) → Option (List Slot) := fun k1 x1 s1 => 
  (
  (whasOccurrence_m y8 x1.At).bind fun y9 =>
  if y9 = true then (
  grd (((s1.length : Int) + 1) * 32 ≤ 140737488355328 ∧ (s1.length : Int) + 1 ≤ 9223372036854775807) <|
  some (s1 ++ [x1])
  ) else (
  some s1
  )
  ).bind fun s2 =>
  some s2
noncomputable def wFnLocal_L2 (y3 : (List Slot)) : Nat → Slot → Unit → Option (Unit ⊕ Bool) := fun k2 x2 _ => 
  (iSlotValue_m y3 x2.At).bind fun y12 =>
  (sSlotValue_m y3 x2.At).bind fun y13 =>
  if y12 = y13 then (
  some (.inl ())
  ) else (
  some (.inr false)
  )
noncomputable def wFnLocal_m (a0 : (List UInt8)) : Option Bool :=
  (wbig_m a0).bind fun y1 =>
  if y1 = true then (
  some true
  ) else (
  (sDrawEvalLocal_m a0).bind fun (y2, y3, y4, y5) =>
  (iEvalLocal_m y2 y3 y4 y5).bind fun y6 =>
  (sEvalLocal_m y2 y3 y4 y5).bind fun y7 =>
  if y6 = y7 then (
  (sAttributeUses_m y2).bind fun y8 =>
  (eachL (wFnLocal_L1 y8) 0 y3 ([] : List Slot)).bind fun s1 =>
  (sIsValidExpr_m y2).bind fun y10 =>
  (
  if y10 = true then (
  (iEvalLocal_m y2 s1 y4 y5).bind fun y11 =>
  some (!(decide (y11 = y6)))
  ) else (
  some false
  )
  ).bind fun s3 =>
  if s3 = true then (
  some false
  ) else (
  (findL (wFnLocal_L2 y3) 0 y3 ()).bind <| onr (fun r1 => some r1) fun _ =>
  (sDrawConstantValue_m a0).bind fun y14 =>
  (iConstantValue_m y14).bind fun (y15, y16) =>
  (sConstantValue_m y14).bind fun (y17, y18) =>
  (
  if y16 = y18 then (
  some (decide (y15 = y17))
  ) else (
  some false
  )
  ).bind fun s4 =>
  (
  if s4 = true then (
  (
  if y16 = true then (
  (iEvalLocal_m y14 y3 y4 y5).bind fun y19 =>
  some (decide (y19 = y15))
  ) else (
  some true
  )
  ).bind fun s6 =>
  some s6
  ) else (
  some false
  )
  ).bind fun s5 =>
  some s5
  )
  ) else (
  some false
  )
  )
theorem wFnLocal_ok {a0 : (List UInt8)} {r : Bool} (hr : wFnLocal_m a0 = some r) {F0 : Nat → Prop} {w0 : World} {z0 : Value} (ha0 : rdS F0 w0 a0 z0) :
    Ret Try.prog 5 #[z0] w0 (fun _ => False) fun v w => v = .bool r := by
  obtain ⟨A0', n0', c0', rfl⟩ := ha0.form3
  have H := (HL.start F0 w0).argS ha0
  refine enter Try.func5 rfl rfl rfl ?_
  refine CW.seq (CW.reg ?_)
  refine WL.ev rfl rfl (Ev.as rfl rfl) (WL.nil ?_)
  refine CW.seq (CW.seq (CW.reg ?_))
  refine WL.ev rfl rfl (Ev.mv rfl rfl) ?_
  obtain ⟨y1, hy1, hr⟩ := bd hr
  refine WL.call rfl rfl rfl rfl rfl ok21 rfl (wbig_ok hy1 (H.rS (i := 0) rfl)) ?_
  rintro _ w1 hE rfl
  have H := H.ext hE
  refine WL.nil ?_
  refine CW.condB rfl (fun h1 => ?_) (fun h1 => ?_)
  · skip
    have hr := ifp h1 hr
    refine CW.seq (CW.reg ?_)
    refine WL.ev rfl rfl (Ev.as rfl rfl) (WL.nil ?_)
    refine CW.ret ?_
    obtain rfl := sm hr
    exact ⟨_, res1 rfl rfl rfl, H.ext0, rfl⟩
  · skip
    have hr := ifn h1 hr
    refine CW.skip ?_
    refine CW.seq (CW.reg ?_)
    refine WL.ev rfl rfl (Ev.mv rfl rfl) ?_
    obtain ⟨⟨y2, y3, y4, y5⟩, hy2, hr⟩ := bd hr
    obtain ⟨F, hF, hcl⟩ := H.call
    refine WL.call rfl rfl rfl rfl rfl ok22 rfl (sDrawEvalLocal_ok hy2 (hF.get (i := 0) rfl)) ?_
    rintro _ w2 hE ⟨A1, n1, c1, A2, n2, c2, A3, n3, c3, rfl, hI1, hI2, hI3, hI4, hS1, hS2, hI5, H'⟩
    have H : HL F0 [] w0 w2 [Pr.S a0 (.slice A0' n0' c0'), Pr.S y2.Args (.slice A1 n1 c1)] [It.O 50 y3 (.slice A2 n2 c2), It.O 3 y5 (.slice A3 n3 c3)] := hcl H'
    refine WL.ev rfl rfl (Ev.mv rfl rfl) (WL.ev rfl rfl (Ev.ex rfl rfl rfl) (WL.ev rfl rfl (Ev.ex rfl rfl rfl) (WL.ev rfl rfl (Ev.ex rfl rfl rfl) (WL.ev rfl rfl (Ev.ex rfl rfl rfl) ?_))))
    refine WL.allocH rfl rfl rfl ze31 H fun b1 w3 H => ?_
    refine WL.stB (i := 2) rfl rfl rfl sz31 rfl rfl rfl rfl (all1 rfl (all1 rfl (all1 rfl (all1 rfl (all1 rfl (all1 rfl (all1 rfl all0))))))) H rfl rfl rfl fun w4 H => ?_
    refine WL.ev rfl rfl (Ev.as rfl rfl) (WL.ev rfl rfl (Ev.as rfl rfl) (WL.ev rfl rfl (Ev.as rfl rfl) (WL.nil ?_)))
    refine CW.seq (CW.reg ?_)
    refine WL.ev rfl rfl (Ev.lda rfl ag31 sz31 rfl (At.blk (H.rB (i := 2) rfl)) rfl) (WL.ev rfl rfl (Ev.mv rfl rfl) (WL.ev rfl rfl (Ev.mv rfl rfl) (WL.ev rfl rfl (Ev.mv rfl rfl) ?_)))
    obtain ⟨y6, hy3, hr⟩ := bd hr
    obtain ⟨F', M', hfF, hoF, hcM⟩ := H.callN [false, true, false] ⟨noO, trivial⟩
    obtain ⟨H', hcN⟩ := hcM (ps := [Pr.S y2.Args (.slice A1 n1 c1), Pr.S y3 (.slice A2 n2 c2)]) ⟨hfF.get (i := 1) rfl, roO (hoF 0 _ rfl), trivial⟩
    refine WL.call rfl rfl rfl rfl rfl ok23 rfl (iEvalLocal_ok hy3 hI1 hI2 hI3 hI4 hS1 hS2 hI5 H') ?_
    rintro _ w5 hE ⟨rfl, hI6, H'⟩
    have H := hcN 1 H' rfl ⟨fun _ _ _ _ _ h => h, trivial⟩
    refine WL.ev rfl rfl (Ev.as rfl rfl) (WL.nil ?_)
    refine CW.seq (CW.seq (CW.reg ?_))
    refine WL.ev rfl rfl (Ev.mv rfl rfl) (WL.ev rfl rfl (Ev.lda rfl ag31 sz31 rfl (At.blk (H.rB (i := 2) rfl)) rfl) (WL.ev rfl rfl (Ev.mv rfl rfl) (WL.ev rfl rfl (Ev.mv rfl rfl) (WL.ev rfl rfl (Ev.mv rfl rfl) ?_))))
    obtain ⟨y7, hy4, hr⟩ := bd hr
    refine WL.call rfl rfl rfl rfl rfl ok24 rfl (sEvalLocal_ok hy4 (Expr_rd.2 ⟨_, rfl, hI1, hI2, hI3, hI4, hS1, hS2, (H.rS (i := 1) rfl)⟩) (H.rO (i := 0) rfl) hI5 (H.rO (i := 1) rfl)) ?_
    rintro _ w6 hE ⟨rfl, hI7⟩
    have H := H.ext hE
    refine WL.ev rfl rfl (Ev.bin rfl rfl rfl Bin.neq) (WL.nil ?_)
    refine CW.condN rfl (fun h2 => ?_) (fun h2 => ?_)
    · skip
      have hr := ifn h2 hr
      refine CW.seq ?_
      refine CW.fresh [] trivial fun σ => ?_
      have H : HL F0 [] w0 w6 [Pr.S a0 (.slice A0' n0' c0'), Pr.S y2.Args (.slice A1 n1 c1)] [It.O 50 y3 (.slice A2 n2 c2), It.O 3 y5 (.slice A3 n3 c3), It.B b1 31 [.int .i64 y2.Kind, .int .i64 y2.N, .int .i64 y2.Pos, .int .i64 y2.Type_, .string y2.Symbol, .string y2.Name, .slice A1 n1 c1]] := H
      refine CW.reg ?_
      refine WL.ev rfl rfl (Ev.as rfl rfl) (WL.nil ?_)
      refine CW.ret ?_
      obtain rfl := sm hr
      exact ⟨_, res1 rfl rfl rfl, H.ext0, rfl⟩
    · skip
      have hr := ifp h2 hr
      refine CW.skip ?_
      refine CW.seq ?_
      refine CW.fresh [(0, .slice A0' n0' c0'), (3, .pointer (some ⟨b1, 0, none⟩)), (4, .slice A2 n2 c2), (5, .int .i64 y4), (6, .slice A3 n3 c3), (7, .int .i64 y6)] ⟨rfl, rfl, rfl, rfl, rfl, rfl, trivial⟩ fun σ => ?_
      have H : HL F0 [] w0 w6 [Pr.S a0 (.slice A0' n0' c0'), Pr.S y2.Args (.slice A1 n1 c1)] [It.O 50 y3 (.slice A2 n2 c2), It.O 3 y5 (.slice A3 n3 c3), It.B b1 31 [.int .i64 y2.Kind, .int .i64 y2.N, .int .i64 y2.Pos, .int .i64 y2.Type_, .string y2.Symbol, .string y2.Name, .slice A1 n1 c1]] := H
      refine CW.reg ?_
      refine WL.ev rfl rfl (Ev.lda rfl ag31 sz31 rfl (At.blk (H.rB (i := 2) rfl)) rfl) ?_
      obtain ⟨y8, hy5, hr⟩ := bd hr
      obtain ⟨F, hF, hcl⟩ := H.call
      refine WL.call rfl rfl rfl rfl rfl ok25 rfl (sAttributeUses_ok hy5 (Expr_rd.2 ⟨_, rfl, hI1, hI2, hI3, hI4, hS1, hS2, (hF.get (i := 1) rfl)⟩)) ?_
      rintro _ w7 hE ⟨A4, n4, c4, rfl, H'⟩
      have H : HL F0 [] w0 w7 [Pr.S a0 (.slice A0' n0' c0'), Pr.S y2.Args (.slice A1 n1 c1), Pr.S y8 (.slice A4 n4 c4)] [It.O 50 y3 (.slice A2 n2 c2), It.O 3 y5 (.slice A3 n3 c3), It.B b1 31 [.int .i64 y2.Kind, .int .i64 y2.N, .int .i64 y2.Pos, .int .i64 y2.Type_, .string y2.Symbol, .string y2.Name, .slice A1 n1 c1]] := hcl H'
      refine WL.ev rfl rfl (Ev.as rfl rfl) (WL.nil ?_)
      refine CW.seq (CW.reg ?_)
      refine WL.lit0H (α := Slot) rfl rfl rfl el40 sz50 H fun A5 n5 c5 w8 H => ?_
      refine WL.ev rfl rfl (Ev.as rfl rfl) (WL.nil ?_)
      refine CW.seq (CW.seq (CW.reg ?_))
      refine WL.ev rfl rfl (Ev.as rfl rfl) (WL.nil ?_)
      obtain ⟨q1, hq1, hr⟩ := bd hr
      refine CW.block (CW.loop (α := Nat × (List Slot) × Value) (fun ⟨k1, s1, v1⟩ => [(0, .slice A0' n0' c0'), (3, .pointer (some ⟨b1, 0, none⟩)), (4, .slice A2 n2 c2), (5, .int .i64 y4), (6, .slice A3 n3 c3), (7, .int .i64 y6), (8, .slice A4 n4 c4), (9, v1), (10, .int .i64 (k1 : Int))]) (fun ⟨k1, s1, v1⟩ w => k1 ≤ y3.length ∧ eachL (wFnLocal_L1 y8) k1 (y3.drop k1) s1 = some q1 ∧ HL F0 [] w0 w [Pr.S a0 (.slice A0' n0' c0'), Pr.S y2.Args (.slice A1 n1 c1), Pr.S y8 (.slice A4 n4 c4)] [It.O 50 y3 (.slice A2 n2 c2), It.O 3 y5 (.slice A3 n3 c3), It.B b1 31 [.int .i64 y2.Kind, .int .i64 y2.N, .int .i64 y2.Pos, .int .i64 y2.Type_, .string y2.Symbol, .string y2.Name, .slice A1 n1 c1], It.O 50 s1 v1]) (fun ⟨k1, s1, v1⟩ => y3.length - k1) ⟨0, ([] : List Slot), (.slice A5 n5 c5)⟩ ⟨rfl, rfl, rfl, rfl, rfl, rfl, rfl, rfl, rfl, trivial⟩ ⟨Nat.zero_le _, hq1, H.keep 3 4⟩ ?_)
      rintro ⟨k1, s1, v1⟩ σ w9 ⟨hk1, hq1, H⟩
      obtain ⟨A6, n6, c6, rfl⟩ := (H.rO (i := 3) rfl).form3
      refine CW.seq (CW.seq (CW.reg ?_))
      refine WL.ev rfl rfl (Ev.mv rfl rfl) (WL.ev rfl rfl (Ev.mv rfl rfl) ?_)
      have hl1 := (H.rO (i := 0) rfl).I
      refine WL.ev rfl rfl (Ev.lenV rfl el40 rfl (H.rO (i := 0) rfl)) (WL.ev rfl rfl (Ev.bin rfl rfl rfl Bin.lss) (WL.nil ?_))
      refine CW.condD rfl (fun h3 => ?_) (fun h3 => ?_)
      · skip
        have hk2 := cast_lt h3
        obtain ⟨x1, z1, hx1, hb1, hq1⟩ := eachL_go hq1 hk2
        refine CW.skip ?_
        obtain ⟨q2, hm1, hb1⟩ := bd hb1
        refine CW.seq (CW.mid (fun ρ' w => ∃ (s2 : List Slot) (v2 : Value), s2 = q2 ∧ agree ρ' [(0, .slice A0' n0' c0'), (3, .pointer (some ⟨b1, 0, none⟩)), (4, .slice A2 n2 c2), (5, .int .i64 y4), (6, .slice A3 n3 c3), (7, .int .i64 y6), (8, .slice A4 n4 c4), (9, v2), (10, .int .i64 (k1 : Int))] ∧ HL F0 [] w0 w [Pr.S a0 (.slice A0' n0' c0'), Pr.S y2.Args (.slice A1 n1 c1), Pr.S y8 (.slice A4 n4 c4)] [It.O 50 y3 (.slice A2 n2 c2), It.O 3 y5 (.slice A3 n3 c3), It.B b1 31 [.int .i64 y2.Kind, .int .i64 y2.N, .int .i64 y2.Pos, .int .i64 y2.Type_, .string y2.Symbol, .string y2.Name, .slice A1 n1 c1], It.O 50 s2 v2]) ?_ ?_)
        · skip
          refine CW.block (CW.seq (CW.reg ?_))
          refine WL.ev rfl rfl (Ev.mv rfl rfl) (WL.ev rfl rfl (Ev.mv rfl rfl) (WL.ev rfl rfl (Ev.mv rfl rfl) ?_))
          obtain ⟨b2, cb2, hvb2, hbb2⟩ := H.ptO (i := 0) rfl hx1
          refine WL.ev rfl rfl (Ev.ixVN rfl el40 sz50 rfl hvb2 rfl (lt_of hx1)) (WL.ev rfl rfl (Ev.fa rfl fo50_0 rfl) ?_)
          obtain ⟨hA1, hI8, hS3, hI9, H⟩ := elO_Slot H (i := 0) rfl hx1 hbb2
          refine WL.ev rfl rfl (Ev.lda rfl ag48 sz48 rfl (hA1.part 0 2) rfl) ?_
          obtain ⟨y9, hy6, hm1⟩ := bd hm1
          refine WL.call rfl rfl rfl rfl rfl ok26 rfl (whasOccurrence_ok hy6 (H.rS (i := 2) rfl) ⟨rfl, hI8, hS3⟩) ?_
          rintro _ w10 hE rfl
          have H := H.ext hE
          refine WL.nil ?_
          refine CW.condB rfl (fun h4 => ?_) (fun h4 => ?_)
          · skip
            have hm1 := ifp h4 hm1
            refine CW.reg ?_
            refine WL.ev rfl rfl (Ev.mv rfl rfl) (WL.ev rfl rfl (Ev.mv rfl rfl) (WL.ev rfl rfl (Ev.mv rfl rfl) ?_))
            obtain ⟨b3, cb3, hvb3, hbb3⟩ := H.ptO (i := 0) rfl hx1
            refine WL.ev rfl rfl (Ev.ixVN rfl el40 sz50 rfl hvb3 rfl (lt_of hx1)) ?_
            obtain ⟨hA2, hI10, hS4, hI11, H⟩ := elO_Slot H (i := 0) rfl hx1 hbb3
            refine WL.ev rfl rfl (Ev.lda rfl ag50 sz50 rfl hA2 rfl) ?_
            refine WL.lit1 rfl rfl rfl el40 sz50 ze50 rfl rfl rfl rfl rfl rfl fun b4 w11 hE hb hB => ?_
            have H := H.newB hE hb hB
            obtain ⟨hg1, hm1⟩ := grd_some hm1
            refine WL.appO (i := 3) (ys := [x1]) rfl rfl rfl el40 sz50 by50 ze50 rfl rfl rfl H rfl (fun _ => ownL.single ⟨rfl, hI10, hS4, hI11, rfl⟩) (.inr ⟨_, _, rfl, At.blk (H.rB (i := 4) rfl)⟩) hg1 fun A7 n7 c7 w12 H => ?_
            refine WL.ev rfl rfl (Ev.as rfl rfl) (WL.nil ?_)
            obtain rfl := sm hm1
            exact ⟨(s1 ++ [x1]), _, rfl, ⟨rfl, rfl, rfl, rfl, rfl, rfl, rfl, rfl, rfl, trivial⟩, H.keep 3 4⟩
          · skip
            have hm1 := ifn h4 hm1
            refine CW.skip ?_
            obtain rfl := sm hm1
            exact ⟨s1, _, rfl, ⟨rfl, rfl, rfl, rfl, rfl, rfl, rfl, rfl, rfl, trivial⟩, H.keep 3 4⟩
        · rintro ρ' w13 ⟨s2, v2, rfl, hag, H⟩
          obtain ⟨σ, rfl⟩ := ofL_ex hag
          obtain ⟨A8, n8, c8, rfl⟩ := (H.rO (i := 3) rfl).form3
          refine CW.reg ?_
          refine WL.ev rfl rfl (Ev.mv rfl rfl) (WL.ev rfl rfl (Ev.bin rfl rfl rfl (Bin.addN (a := k1) (b := 1) rfl (i64_succN hk2 hl1.2))) (WL.ev rfl rfl (Ev.as rfl rfl) (WL.nil ?_)))
          obtain rfl := sm hb1
          exact ⟨⟨k1 + 1, s2, (.slice A8 n8 c8)⟩, ⟨rfl, rfl, rfl, rfl, rfl, rfl, rfl, rfl, rfl, trivial⟩, ⟨hk2, hq1, H.keep 3 4⟩, Nat.sub_lt_sub_left hk2 (Nat.lt_succ_self _)⟩
      · skip
        obtain rfl := eachL_end hq1 (not_cast_lt h3)
        refine CW.exit ?_
        refine CW.seq (CW.seq (CW.reg ?_))
        refine WL.ev rfl rfl (Ev.lda rfl ag31 sz31 rfl (At.blk (H.rB (i := 2) rfl)) rfl) ?_
        obtain ⟨y10, hy7, hr⟩ := bd hr
        refine WL.call rfl rfl rfl rfl rfl ok27 rfl (sIsValidExpr_ok hy7 (Expr_rd.2 ⟨_, rfl, hI1, hI2, hI3, hI4, hS1, hS2, (H.rS (i := 1) rfl)⟩)) ?_
        rintro _ w14 hE rfl
        have H := H.ext hE
        obtain ⟨q3, hm2, hr⟩ := bd hr
        refine WL.cut 9 (fun ρ' w => ∃ (s3 : Bool), s3 = q3 ∧ agree ρ' [(0, .slice A0' n0' c0'), (4, .slice A2 n2 c2), (5, .int .i64 y4), (6, .slice A3 n3 c3), (71, .bool s3)] ∧ HL F0 [] w0 w [Pr.S a0 (.slice A0' n0' c0'), Pr.S y2.Args (.slice A1 n1 c1), Pr.S y8 (.slice A4 n4 c4)] [It.O 50 y3 (.slice A2 n2 c2), It.O 3 y5 (.slice A3 n3 c3), It.B b1 31 [.int .i64 y2.Kind, .int .i64 y2.N, .int .i64 y2.Pos, .int .i64 y2.Type_, .string y2.Symbol, .string y2.Name, .slice A1 n1 c1], It.O 50 s1 (.slice A6 n6 c6)]) ?_ ?_
        · skip
          refine WL.mvB rfl rfl rfl rfl (fun h5 => ?_) (fun h5 => ?_)
          · skip
            have hm2 := ifp h5 hm2
            refine WL.on rfl rfl (WL.ev rfl rfl (Ev.lda rfl ag31 sz31 rfl (At.blk (H.rB (i := 2) rfl)) rfl) (WL.on rfl rfl (WL.ev rfl rfl (Ev.mv rfl rfl) (WL.on rfl rfl (WL.ev rfl rfl (Ev.mv rfl rfl) (WL.on rfl rfl (WL.ev rfl rfl (Ev.mv rfl rfl) (WL.on rfl rfl ?_))))))))
            obtain ⟨y11, hy8, hm2⟩ := bd hm2
            obtain ⟨F', M', hfF, hoF, hcM⟩ := H.callN [false, true, false, false] ⟨noO, trivial⟩
            obtain ⟨H', hcN⟩ := hcM (ps := [Pr.S y2.Args (.slice A1 n1 c1), Pr.S s1 (.slice A6 n6 c6)]) ⟨hfF.get (i := 1) rfl, roO (hoF 2 _ rfl), trivial⟩
            refine WL.call rfl rfl rfl rfl rfl ok23 rfl (iEvalLocal_ok hy8 hI1 hI2 hI3 hI4 hS1 hS2 hI5 H') ?_
            rintro _ w15 hE ⟨rfl, hI12, H'⟩
            have H := hcN 1 H' rfl ⟨fun _ _ _ _ _ h => h, trivial⟩
            refine WL.on rfl rfl (WL.ev rfl rfl (Ev.mv rfl rfl) (WL.on rfl rfl (WL.ev rfl rfl (Ev.bin rfl rfl rfl Bin.neq) (WL.ev rfl rfl (Ev.pickT rfl rfl rfl) (WL.nil ?_)))))
            obtain rfl := sm hm2
            exact ⟨(!(decide (y11 = y6))), rfl, ⟨rfl, rfl, rfl, rfl, rfl, trivial⟩, H.keep 3 4⟩
          · skip
            have hm2 := ifn h5 hm2
            refine WL.off rfl rfl rfl (WL.off rfl rfl rfl (WL.off rfl rfl rfl (WL.off rfl rfl rfl (WL.off rfl rfl rfl (WL.off rfl rfl rfl (WL.off rfl rfl rfl (WL.ev rfl rfl (Ev.pickF rfl rfl rfl) (WL.nil ?_))))))))
            obtain rfl := sm hm2
            exact ⟨false, rfl, ⟨rfl, rfl, rfl, rfl, rfl, trivial⟩, H.keep 3 4⟩
        · rintro ρ' w16 ⟨s3, rfl, hag, H⟩
          obtain ⟨σ, rfl⟩ := ofL_ex hag
          refine WL.nil ?_
          refine CW.condB rfl (fun h6 => ?_) (fun h6 => ?_)
          · skip
            have hr := ifp h6 hr
            refine CW.seq (CW.reg ?_)
            refine WL.ev rfl rfl (Ev.as rfl rfl) (WL.nil ?_)
            refine CW.ret ?_
            obtain rfl := sm hr
            exact ⟨_, res1 rfl rfl rfl, H.ext0, rfl⟩
          · skip
            have hr := ifn h6 hr
            refine CW.skip ?_
            refine CW.seq (CW.seq (CW.reg ?_))
            refine WL.ev rfl rfl (Ev.as rfl rfl) (WL.nil ?_)
            obtain ⟨q4, hq2, hr⟩ := bd hr
            refine CW.block (CW.loop (α := Nat) (fun k2 => [(0, .slice A0' n0' c0'), (4, .slice A2 n2 c2), (5, .int .i64 y4), (6, .slice A3 n3 c3), (11, .int .i64 (k2 : Int))]) (fun k2 w => k2 ≤ y3.length ∧ findL (wFnLocal_L2 y3) k2 (y3.drop k2) () = some q4 ∧ HL F0 [] w0 w [Pr.S a0 (.slice A0' n0' c0'), Pr.S y2.Args (.slice A1 n1 c1), Pr.S y8 (.slice A4 n4 c4)] [It.O 50 y3 (.slice A2 n2 c2), It.O 3 y5 (.slice A3 n3 c3), It.B b1 31 [.int .i64 y2.Kind, .int .i64 y2.N, .int .i64 y2.Pos, .int .i64 y2.Type_, .string y2.Symbol, .string y2.Name, .slice A1 n1 c1], It.O 50 s1 (.slice A6 n6 c6)]) (fun k2 => y3.length - k2) 0 ⟨rfl, rfl, rfl, rfl, rfl, trivial⟩ ⟨Nat.zero_le _, hq2, H.keep 3 4⟩ ?_)
            rintro k2 σ w17 ⟨hk3, hq2, H⟩
            refine CW.seq (CW.seq (CW.reg ?_))
            refine WL.ev rfl rfl (Ev.mv rfl rfl) (WL.ev rfl rfl (Ev.mv rfl rfl) (WL.ev rfl rfl (Ev.lenV rfl el40 rfl (H.rO (i := 0) rfl)) (WL.ev rfl rfl (Ev.bin rfl rfl rfl Bin.lss) (WL.nil ?_))))
            refine CW.condD rfl (fun h7 => ?_) (fun h7 => ?_)
            · skip
              have hk4 := cast_lt h7
              obtain ⟨x2, z2, hx2, hb2, hs1, ht1⟩ := findL_go hq2 hk4
              refine CW.skip ?_
              refine CW.seq (CW.block (CW.seq (CW.quiet hmix (by kernel_rfl) ?_)))
              refine QL.ev rfl rfl (fun _ _ => Ev.mv rfl rfl) (QL.ev rfl rfl (fun _ _ => Ev.mv rfl rfl) (QL.ev rfl rfl (fun _ _ => Ev.mv rfl rfl) ?_))
              obtain ⟨b5, cb5, hvb5, hbb5⟩ := H.ptO (i := 0) rfl hx2
              refine QL.ev rfl rfl (fun _ _ => Ev.ixVN rfl el40 sz50 rfl hvb5 rfl (lt_of hx2)) (QL.ev rfl rfl (fun _ _ => Ev.fa rfl fo50_0 rfl) ?_)
              obtain ⟨hA3, hI13, hS5, hI14, H⟩ := elO_Slot H (i := 0) rfl hx2 hbb5
              refine QL.ev rfl rfl (fun _ hq => Ev.lda rfl ag48 sz48 rfl ((hA3.ext hq).part 0 2) rfl) ?_
              obtain ⟨y12, hy9, hb2⟩ := bd hb2
              refine QL.call rfl rfl rfl rfl rfl ok28 rfl (fun _ hq => (iSlotValue_ok hy9 ((H.ext hq).rO (i := 0) rfl) ⟨rfl, hI13, hS5⟩).mono fun _ _ _ h => h.1) ?_
              obtain ⟨_, _, _, hI15⟩ := (iSlotValue_ok hy9 (H.rO (i := 0) rfl) ⟨rfl, hI13, hS5⟩).get
              refine QL.ev rfl rfl (fun _ _ => Ev.mv rfl rfl) (QL.ev rfl rfl (fun _ _ => Ev.mv rfl rfl) (QL.ev rfl rfl (fun _ _ => Ev.mv rfl rfl) ?_))
              obtain ⟨b6, cb6, hvb6, hbb6⟩ := H.ptO (i := 0) rfl hx2
              refine QL.ev rfl rfl (fun _ _ => Ev.ixVN rfl el40 sz50 rfl hvb6 rfl (lt_of hx2)) (QL.ev rfl rfl (fun _ _ => Ev.fa rfl fo50_0 rfl) ?_)
              obtain ⟨hA4, hI16, hS6, hI17, H⟩ := elO_Slot H (i := 0) rfl hx2 hbb6
              refine QL.ev rfl rfl (fun _ hq => Ev.lda rfl ag48 sz48 rfl ((hA4.ext hq).part 0 2) rfl) ?_
              obtain ⟨y13, hy10, hb2⟩ := bd hb2
              refine QL.call rfl rfl rfl rfl rfl ok29 rfl (fun _ hq => (sSlotValue_ok hy10 ((H.ext hq).rO (i := 0) rfl) ⟨rfl, hI16, hS6⟩).mono fun _ _ _ h => h.1) ?_
              obtain ⟨_, _, _, hI18⟩ := (sSlotValue_ok hy10 (H.rO (i := 0) rfl) ⟨rfl, hI16, hS6⟩).get
              refine QL.ev rfl rfl (fun _ _ => Ev.bin rfl rfl rfl Bin.neq) (QL.nil (fun w18 hE => ?_))
              have H := H.ext hE
              refine CW.condN rfl (fun h8 => ?_) (fun h8 => ?_)
              · skip
                have hb2 := ifn h8 hb2
                refine CW.seq (CW.reg ?_)
                refine WL.ev rfl rfl (Ev.as rfl rfl) (WL.nil ?_)
                refine CW.ret ?_
                obtain rfl := sm hb2
                obtain rfl := ht1 _ rfl
                obtain rfl := sm hr
                exact ⟨_, res1 rfl rfl rfl, H.ext0, rfl⟩
              · skip
                have hb2 := ifp h8 hb2
                refine CW.skip ?_
                refine CW.reg ?_
                refine WL.ev rfl rfl (Ev.mv rfl rfl) (WL.ev rfl rfl (Ev.bin rfl rfl rfl (Bin.addN (a := k2) (b := 1) rfl (i64_succN hk4 hl1.2))) (WL.ev rfl rfl (Ev.as rfl rfl) (WL.nil ?_)))
                obtain rfl := sm hb2
                have hq2 := hs1 _ rfl
                exact ⟨(k2 + 1), ⟨rfl, rfl, rfl, rfl, rfl, trivial⟩, ⟨hk4, hq2, H.keep 3 4⟩, Nat.sub_lt_sub_left hk4 (Nat.lt_succ_self _)⟩
            · skip
              obtain rfl := findL_end hq2 (not_cast_lt h7)
              have hr := (onr_inl _ _ _).symm.trans hr
              refine CW.exit ?_
              refine CW.seq (CW.reg ?_)
              refine WL.ev rfl rfl (Ev.mv rfl rfl) ?_
              obtain ⟨y14, hy11, hr⟩ := bd hr
              obtain ⟨F, hF, hcl⟩ := H.call
              refine WL.call rfl rfl rfl rfl rfl ok30 rfl (sDrawConstantValue_ok hy11 (hF.get (i := 0) rfl)) ?_
              rintro _ w19 hE ⟨A9, n9, c9, rfl, hI19, hI20, hI21, hI22, hS7, hS8, H'⟩
              have H : HL F0 [] w0 w19 [Pr.S a0 (.slice A0' n0' c0'), Pr.S y2.Args (.slice A1 n1 c1), Pr.S y8 (.slice A4 n4 c4)] [It.O 50 y3 (.slice A2 n2 c2), It.O 3 y5 (.slice A3 n3 c3), It.B b1 31 [.int .i64 y2.Kind, .int .i64 y2.N, .int .i64 y2.Pos, .int .i64 y2.Type_, .string y2.Symbol, .string y2.Name, .slice A1 n1 c1], It.O 50 s1 (.slice A6 n6 c6), It.G 31 y14.Args (.slice A9 n9 c9)] := hcl H'
              refine WL.allocH rfl rfl rfl ze31 H fun b7 w20 H => ?_
              refine WL.stB (i := 5) rfl rfl rfl sz31 rfl rfl rfl rfl (all1 rfl (all1 rfl (all1 rfl (all1 rfl (all1 rfl (all1 rfl (all1 rfl all0))))))) H rfl rfl rfl fun w21 H => ?_
              refine WL.nil ?_
              refine CW.seq (CW.reg ?_)
              refine WL.ev rfl rfl (Ev.lda rfl ag31 sz31 rfl (At.blk (H.rB (i := 5) rfl)) rfl) ?_
              obtain ⟨⟨y15, y16⟩, hy12, hr⟩ := bd hr
              refine WL.call rfl rfl rfl rfl rfl ok31 rfl (iConstantValue_ok hy12 (Expr_rd.2 ⟨_, rfl, hI19, hI20, hI21, hI22, hS7, hS8, (H.rG (i := 4) rfl)⟩)) ?_
              rintro _ w22 hE ⟨rfl, hI23⟩
              have H := H.ext hE
              refine WL.ev rfl rfl (Ev.mv rfl rfl) (WL.ev rfl rfl (Ev.ex rfl rfl rfl) (WL.ev rfl rfl (Ev.ex rfl rfl rfl) (WL.ev rfl rfl (Ev.as rfl rfl) (WL.ev rfl rfl (Ev.as rfl rfl) (WL.nil ?_)))))
              refine CW.seq (CW.reg ?_)
              refine WL.ev rfl rfl (Ev.lda rfl ag31 sz31 rfl (At.blk (H.rB (i := 5) rfl)) rfl) ?_
              obtain ⟨⟨y17, y18⟩, hy13, hr⟩ := bd hr
              refine WL.call rfl rfl rfl rfl rfl ok32 rfl (sConstantValue_ok hy13 (Expr_rd.2 ⟨_, rfl, hI19, hI20, hI21, hI22, hS7, hS8, (H.rG (i := 4) rfl)⟩)) ?_
              rintro _ w23 hE ⟨rfl, hI24⟩
              have H := H.ext hE
              refine WL.ev rfl rfl (Ev.mv rfl rfl) (WL.ev rfl rfl (Ev.ex rfl rfl rfl) (WL.ev rfl rfl (Ev.ex rfl rfl rfl) (WL.ev rfl rfl (Ev.as rfl rfl) (WL.ev rfl rfl (Ev.as rfl rfl) (WL.nil ?_)))))
              refine CW.seq ?_
              refine CW.fresh [(4, .slice A2 n2 c2), (5, .int .i64 y4), (6, .slice A3 n3 c3), (12, .pointer (some ⟨b7, 0, none⟩)), (13, .int .i64 y15), (14, .bool y16), (15, .int .i64 y17), (16, .bool y18)] ⟨rfl, rfl, rfl, rfl, rfl, rfl, rfl, rfl, trivial⟩ fun σ => ?_
              have H : HL F0 [] w0 w23 [Pr.S a0 (.slice A0' n0' c0'), Pr.S y2.Args (.slice A1 n1 c1), Pr.S y8 (.slice A4 n4 c4)] [It.O 50 y3 (.slice A2 n2 c2), It.O 3 y5 (.slice A3 n3 c3), It.B b1 31 [.int .i64 y2.Kind, .int .i64 y2.N, .int .i64 y2.Pos, .int .i64 y2.Type_, .string y2.Symbol, .string y2.Name, .slice A1 n1 c1], It.O 50 s1 (.slice A6 n6 c6), It.G 31 y14.Args (.slice A9 n9 c9), It.B b7 31 [.int .i64 y14.Kind, .int .i64 y14.N, .int .i64 y14.Pos, .int .i64 y14.Type_, .string y14.Symbol, .string y14.Name, .slice A9 n9 c9]] := H
              refine CW.reg ?_
              refine WL.ev rfl rfl (Ev.mv rfl rfl) (WL.ev rfl rfl (Ev.mv rfl rfl) (WL.ev rfl rfl (Ev.bin rfl rfl rfl (Bin.eqlBo Try.underlying4)) ?_))
              obtain ⟨q5, hm3, hr⟩ := bd hr
              refine WL.cut 5 (fun ρ' w => ∃ (s4 : Bool), s4 = q5 ∧ agree ρ' [(4, .slice A2 n2 c2), (5, .int .i64 y4), (6, .slice A3 n3 c3), (12, .pointer (some ⟨b7, 0, none⟩)), (13, .int .i64 y15), (14, .bool y16), (112, .bool s4)] ∧ HL F0 [] w0 w [Pr.S a0 (.slice A0' n0' c0'), Pr.S y2.Args (.slice A1 n1 c1), Pr.S y8 (.slice A4 n4 c4)] [It.O 50 y3 (.slice A2 n2 c2), It.O 3 y5 (.slice A3 n3 c3), It.B b1 31 [.int .i64 y2.Kind, .int .i64 y2.N, .int .i64 y2.Pos, .int .i64 y2.Type_, .string y2.Symbol, .string y2.Name, .slice A1 n1 c1], It.O 50 s1 (.slice A6 n6 c6), It.G 31 y14.Args (.slice A9 n9 c9), It.B b7 31 [.int .i64 y14.Kind, .int .i64 y14.N, .int .i64 y14.Pos, .int .i64 y14.Type_, .string y14.Symbol, .string y14.Name, .slice A9 n9 c9]]) ?_ ?_
              · skip
                refine WL.mvD rfl rfl rfl rfl (fun h9 => ?_) (fun h9 => ?_)
                · skip
                  have hm3 := ifp h9 hm3
                  refine WL.on rfl rfl (WL.ev rfl rfl (Ev.mv rfl rfl) (WL.on rfl rfl (WL.ev rfl rfl (Ev.mv rfl rfl) (WL.on rfl rfl (WL.ev rfl rfl (Ev.bin rfl rfl rfl Bin.eql) (WL.ev rfl rfl (Ev.pickT rfl rfl rfl) (WL.nil ?_)))))))
                  obtain rfl := sm hm3
                  exact ⟨(decide (y15 = y17)), rfl, ⟨rfl, rfl, rfl, rfl, rfl, rfl, rfl, trivial⟩, H.keep 3 6⟩
                · skip
                  have hm3 := ifn h9 hm3
                  refine WL.off rfl rfl rfl (WL.off rfl rfl rfl (WL.off rfl rfl rfl (WL.ev rfl rfl (Ev.pickF rfl rfl rfl) (WL.nil ?_))))
                  obtain rfl := sm hm3
                  exact ⟨false, rfl, ⟨rfl, rfl, rfl, rfl, rfl, rfl, rfl, trivial⟩, H.keep 3 6⟩
              · rintro ρ' w24 ⟨s4, rfl, hag, H⟩
                obtain ⟨σ, rfl⟩ := ofL_ex hag
                obtain ⟨q6, hm4, hr⟩ := bd hr
                refine WL.cut 13 (fun ρ' w => ∃ (s5 : Bool), s5 = q6 ∧ agree ρ' [(125, .bool s5)] ∧ HL F0 [] w0 w [Pr.S a0 (.slice A0' n0' c0'), Pr.S y2.Args (.slice A1 n1 c1), Pr.S y8 (.slice A4 n4 c4)] [It.O 50 y3 (.slice A2 n2 c2), It.O 3 y5 (.slice A3 n3 c3), It.B b1 31 [.int .i64 y2.Kind, .int .i64 y2.N, .int .i64 y2.Pos, .int .i64 y2.Type_, .string y2.Symbol, .string y2.Name, .slice A1 n1 c1], It.O 50 s1 (.slice A6 n6 c6), It.G 31 y14.Args (.slice A9 n9 c9), It.B b7 31 [.int .i64 y14.Kind, .int .i64 y14.N, .int .i64 y14.Pos, .int .i64 y14.Type_, .string y14.Symbol, .string y14.Name, .slice A9 n9 c9]]) ?_ ?_
                · skip
                  refine WL.mvB rfl rfl rfl rfl (fun h10 => ?_) (fun h10 => ?_)
                  · skip
                    have hm4 := ifp h10 hm4
                    refine WL.on rfl rfl (WL.ev rfl rfl (Ev.mv rfl rfl) (WL.on rfl rfl (WL.ev rfl rfl (Ev.not rfl rfl) (WL.on rfl rfl ?_))))
                    obtain ⟨q7, hm5, hm4⟩ := bd hm4
                    refine WL.cut 9 (fun ρ' w => ∃ (s6 : Bool), s6 = q7 ∧ agree ρ' [(113, .bool true), (124, .bool s6)] ∧ HL F0 [] w0 w [Pr.S a0 (.slice A0' n0' c0'), Pr.S y2.Args (.slice A1 n1 c1), Pr.S y8 (.slice A4 n4 c4)] [It.O 50 y3 (.slice A2 n2 c2), It.O 3 y5 (.slice A3 n3 c3), It.B b1 31 [.int .i64 y2.Kind, .int .i64 y2.N, .int .i64 y2.Pos, .int .i64 y2.Type_, .string y2.Symbol, .string y2.Name, .slice A1 n1 c1], It.O 50 s1 (.slice A6 n6 c6), It.G 31 y14.Args (.slice A9 n9 c9), It.B b7 31 [.int .i64 y14.Kind, .int .i64 y14.N, .int .i64 y14.Pos, .int .i64 y14.Type_, .string y14.Symbol, .string y14.Name, .slice A9 n9 c9]]) ?_ ?_
                    · skip
                      refine WL.on rfl rfl ?_
                      refine WL.mvBN rfl rfl rfl rfl (fun h11 => ?_) (fun h11 => ?_)
                      · skip
                        have hm5 := ifn h11 hm5
                        refine WL.off rfl rfl rfl (WL.off rfl rfl rfl (WL.off rfl rfl rfl (WL.off rfl rfl rfl (WL.off rfl rfl rfl (WL.off rfl rfl rfl (WL.off rfl rfl rfl (WL.on rfl rfl (WL.ev rfl rfl (Ev.pickT rfl rfl rfl) (WL.nil ?_)))))))))
                        obtain rfl := sm hm5
                        exact ⟨true, rfl, ⟨rfl, rfl, trivial⟩, H.keep 3 6⟩
                      · skip
                        have hm5 := ifp h11 hm5
                        refine WL.on rfl rfl (WL.ev rfl rfl (Ev.lda rfl ag31 sz31 rfl (At.blk (H.rB (i := 5) rfl)) rfl) (WL.on rfl rfl (WL.ev rfl rfl (Ev.mv rfl rfl) (WL.on rfl rfl (WL.ev rfl rfl (Ev.mv rfl rfl) (WL.on rfl rfl (WL.ev rfl rfl (Ev.mv rfl rfl) (WL.on rfl rfl ?_))))))))
                        obtain ⟨y19, hy14, hm5⟩ := bd hm5
                        obtain ⟨F', M', hfF, hoF, hcM⟩ := H.callN [false, true, false, false, false, false] ⟨noO, trivial⟩
                        obtain ⟨H', hcN⟩ := hcM (ps := [Pr.S y14.Args (.slice A9 n9 c9), Pr.S y3 (.slice A2 n2 c2)]) ⟨roG (hoF 3 _ rfl), roO (hoF 0 _ rfl), trivial⟩
                        refine WL.call rfl rfl rfl rfl rfl ok23 rfl (iEvalLocal_ok hy14 hI19 hI20 hI21 hI22 hS7 hS8 hI5 H') ?_
                        rintro _ w25 hE ⟨rfl, hI25, H'⟩
                        have H := hcN 1 H' rfl ⟨fun _ _ _ _ _ h => h, trivial⟩
                        refine WL.on rfl rfl (WL.ev rfl rfl (Ev.mv rfl rfl) (WL.on rfl rfl (WL.ev rfl rfl (Ev.bin rfl rfl rfl Bin.eql) (WL.on rfl rfl (WL.ev rfl rfl (Ev.pickF rfl rfl rfl) (WL.nil ?_))))))
                        obtain rfl := sm hm5
                        exact ⟨(decide (y19 = y15)), rfl, ⟨rfl, rfl, trivial⟩, H.keep 3 6⟩
                    · rintro ρ' w26 ⟨s6, rfl, hag, H⟩
                      obtain ⟨σ, rfl⟩ := ofL_ex hag
                      refine WL.ev rfl rfl (Ev.pickT rfl rfl rfl) (WL.nil ?_)
                      obtain rfl := sm hm4
                      exact ⟨s6, rfl, ⟨rfl, trivial⟩, H.keep 3 6⟩
                  · skip
                    have hm4 := ifn h10 hm4
                    refine WL.off rfl rfl rfl (WL.off rfl rfl rfl (WL.off rfl rfl rfl (WL.off rfl rfl rfl (WL.off rfl rfl rfl (WL.off rfl rfl rfl (WL.off rfl rfl rfl (WL.off rfl rfl rfl (WL.off rfl rfl rfl (WL.off rfl rfl rfl (WL.off rfl rfl rfl (WL.ev rfl rfl (Ev.pickF rfl rfl rfl) (WL.nil ?_))))))))))))
                    obtain rfl := sm hm4
                    exact ⟨false, rfl, ⟨rfl, trivial⟩, H.keep 3 6⟩
                · rintro ρ' w27 ⟨s5, rfl, hag, H⟩
                  obtain ⟨σ, rfl⟩ := ofL_ex hag
                  refine WL.ev rfl rfl (Ev.as rfl rfl) (WL.nil ?_)
                  refine CW.ret ?_
                  obtain rfl := sm hr
                  exact ⟨_, res1 rfl rfl rfl, H.ext0, rfl⟩

end Go.Proofs.Ytonnooljidombaa

