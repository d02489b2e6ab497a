/- What some functions of the program compute, as partial functions on plain data, and that they do; each lemma bears its conditions in its statement. -/
import Derived.Test.YtonnooljidombaaLiftB
set_option linter.unusedVariables false
set_option linter.unusedSimpArgs false
set_option linter.ambiguousOpen false
set_option linter.unusedSectionVars false
set_option linter.unnecessarySimpa false
set_option linter.unusedVariables false
set_option linter.unusedSimpArgs false
set_option maxRecDepth 100000
set_option maxHeartbeats 4000000
namespace Go.Proofs.Ytonnooljidombaa
open Go Go.E
open Go.E.Rep (rd)
open Go.E.Sep (own)
open Go.E.Sz (szd)
theorem sIsMonotone_okB {rec_sIsMonotone : Expr → (List Occurrence) → Option Bool} (ih_sIsMonotone : ∀ {a0 : Expr} {a1 : (List Occurrence)} {r : Bool}, rec_sIsMonotone a0 a1 = some r → ∀ {F0 : Nat → Prop} {w0 : World} {ca0 : List Value} (ha0 : rd F0 w0 a0 ca0) {z1 : Value} (ha1 : rdS F0 w0 a1 z1), Ret Try.prog 19 #[.agg ca0.toArray, z1] w0 (fun _ => False) fun v w => v = .bool r) {a0 : Expr} {a1 : (List Occurrence)} {r : Bool} (hr : sIsMonotone_B rec_sIsMonotone a0 a1 = some r) {F0 : Nat → Prop} {w0 : World} {ca0 : List Value} (ha0 : rd F0 w0 a0 ca0) {z1 : Value} (ha1 : rdS F0 w0 a1 z1) :
    Ret Try.prog 19 #[.agg ca0.toArray, z1] w0 (fun _ => False) fun v w => v = .bool r := by
  obtain ⟨A1', n1', c1', rfl⟩ := ha1.form3
  have H := ((HL.start F0 w0).argR ha0).argS ha1
  obtain ⟨A1, n1, c1, rfl, hI1, hI2, hI3, hI4, hS1, hS2, H⟩ := op_Expr H (i := 0) rfl
  refine enter Try.func19 rfl rfl rfl ?_
  refine CW.seq (CW.reg ?_)
  refine WL.boxH rfl rfl rfl rfl rfl H fun b1 w1 H => ?_
  refine WL.ev rfl rfl (Ev.as rfl rfl) (WL.nil ?_)
  refine CW.seq (CW.seq (CW.reg ?_))
  refine WL.ev rfl rfl (Ev.lda rfl ag31 sz31 rfl (At.blk (H.rB (i := 0) rfl)) rfl) (WL.ev rfl rfl (Ev.mv rfl rfl) ?_)
  obtain ⟨y1, hy1, hr⟩ := bd hr
  refine WL.call rfl rfl rfl rfl rfl ok13 rfl (sUsesAny_ok hy1 (Expr_rd.2 ⟨_, rfl, hI1, hI2, hI3, hI4, hS1, hS2, (H.rS (i := 2) rfl)⟩) (H.rS (i := 1) rfl)) ?_
  rintro _ w2 hE rfl
  have H := H.ext hE
  refine WL.ev rfl rfl (Ev.not rfl rfl) ?_
  obtain ⟨q1, hm1, hr⟩ := bd hr
  refine WL.cut 5 (fun ρ' w => ∃ (s1 : Bool), s1 = q1 ∧ agree ρ' [(1, .slice A1' n1' c1'), (2, .pointer (some ⟨b1, 0, none⟩)), (13, .bool s1)] ∧ HL F0 [] w0 w [Pr.R a0 [.int .i64 a0.Kind, .int .i64 a0.N, .int .i64 a0.Pos, .int .i64 a0.Type_, .string a0.Symbol, .string a0.Name, .slice A1 n1 c1], Pr.S a1 (.slice A1' n1' c1'), Pr.S a0.Args (.slice A1 n1 c1)] [It.B b1 31 [.int .i64 a0.Kind, .int .i64 a0.N, .int .i64 a0.Pos, .int .i64 a0.Type_, .string a0.Symbol, .string a0.Name, .slice A1 n1 c1]]) ?_ ?_
  · skip
    refine WL.mvBN rfl rfl rfl rfl (fun h1 => ?_) (fun h1 => ?_)
    · skip
      have hm1 := ifn h1 hm1
      refine WL.off rfl rfl rfl (WL.off rfl rfl rfl (WL.off rfl rfl rfl (WL.ev rfl rfl (Ev.pickT rfl rfl rfl) (WL.nil ?_))))
      obtain rfl := sm hm1
      exact ⟨true, rfl, ⟨rfl, rfl, rfl, trivial⟩, H.keep 3 1⟩
    · skip
      have hm1 := ifp h1 hm1
      refine WL.on rfl rfl (WL.ev rfl rfl (Ev.fa rfl fo31_0 rfl) (WL.on rfl rfl (WL.ev rfl rfl (Ev.ld rfl ag3 rfl ((H.rB (i := 0) rfl).cell rfl)) (WL.on rfl rfl (WL.ev rfl rfl (Ev.bin rfl rfl rfl Bin.eql) (WL.ev rfl rfl (Ev.pickF rfl rfl rfl) (WL.nil ?_)))))))
      obtain rfl := sm hm1
      exact ⟨(decide (a0.Kind = 3)), rfl, ⟨rfl, rfl, rfl, trivial⟩, H.keep 3 1⟩
  · rintro ρ' w3 ⟨s1, rfl, hag, H⟩
    obtain ⟨σ, rfl⟩ := ofL_ex hag
    refine WL.nil ?_
    refine CW.condB rfl (fun h2 => ?_) (fun h2 => ?_)
    · skip
      have hr := ifp h2 hr
      refine CW.seq (CW.reg ?_)
      refine WL.ev rfl rfl (Ev.as rfl rfl) (WL.nil ?_)
      refine CW.ret ?_
      obtain rfl := sm hr
      exact ⟨_, res1 rfl rfl rfl, H.ext0, rfl⟩
    · skip
      have hr := ifn h2 hr
      refine CW.skip ?_
      refine CW.seq (CW.block (CW.seq (CW.reg ?_)))
      refine WL.ev rfl rfl (Ev.fa rfl fo31_0 rfl) (WL.ev rfl rfl (Ev.ld rfl ag3 rfl ((H.rB (i := 0) rfl).cell rfl)) (WL.ev rfl rfl (Ev.bin rfl rfl rfl Bin.eql) ?_))
      obtain ⟨q2, hm2, hr⟩ := bd hr
      refine WL.cut 6 (fun ρ' w => ∃ (s2 : Bool), s2 = q2 ∧ agree ρ' [(1, .slice A1' n1' c1'), (2, .pointer (some ⟨b1, 0, none⟩)), (23, .bool s2)] ∧ HL F0 [] w0 w [Pr.R a0 [.int .i64 a0.Kind, .int .i64 a0.N, .int .i64 a0.Pos, .int .i64 a0.Type_, .string a0.Symbol, .string a0.Name, .slice A1 n1 c1], Pr.S a1 (.slice A1' n1' c1'), Pr.S a0.Args (.slice A1 n1 c1)] [It.B b1 31 [.int .i64 a0.Kind, .int .i64 a0.N, .int .i64 a0.Pos, .int .i64 a0.Type_, .string a0.Symbol, .string a0.Name, .slice A1 n1 c1]]) ?_ ?_
      · skip
        refine WL.mvD rfl rfl rfl rfl (fun h3 => ?_) (fun h3 => ?_)
        · skip
          have hm2 := ifp h3 hm2
          refine WL.on rfl rfl (WL.ev rfl rfl (Ev.fa rfl fo31_6 rfl) (WL.on rfl rfl (WL.ev rfl rfl (Ev.ld rfl ag29 rfl ((H.rB (i := 0) rfl).cell rfl)) (WL.on rfl rfl ?_))))
          have hl1 := (H.rS (i := 2) rfl).I
          refine WL.ev rfl rfl (Ev.lenV rfl el29 rfl (H.rS (i := 2) rfl)) (WL.on rfl rfl (WL.ev rfl rfl (Ev.bin rfl rfl rfl Bin.eql) (WL.ev rfl rfl (Ev.pickT rfl rfl rfl) (WL.nil ?_))))
          obtain rfl := sm hm2
          exact ⟨(decide ((a0.Args.length : Int) = 3)), rfl, ⟨rfl, rfl, rfl, trivial⟩, H.keep 3 1⟩
        · skip
          have hm2 := ifn h3 hm2
          refine WL.off rfl rfl rfl (WL.off rfl rfl rfl (WL.off rfl rfl rfl (WL.off rfl rfl rfl (WL.ev rfl rfl (Ev.pickF rfl rfl rfl) (WL.nil ?_)))))
          obtain rfl := sm hm2
          exact ⟨false, rfl, ⟨rfl, rfl, rfl, trivial⟩, H.keep 3 1⟩
      · rintro ρ' w4 ⟨s2, rfl, hag, H⟩
        obtain ⟨σ, rfl⟩ := ofL_ex hag
        refine WL.ev rfl rfl (Ev.as rfl rfl) (WL.nil ?_)
        refine CW.condB rfl (fun h4 => ?_) (fun h4 => ?_)
        · skip
          have hr := ifp h4 hr
          refine CW.seq (CW.reg ?_)
          refine WL.ev rfl rfl (Ev.fa rfl fo31_6 rfl) (WL.ev rfl rfl (Ev.ld rfl ag29 rfl ((H.rB (i := 0) rfl).cell rfl)) ?_)
          obtain ⟨x1, hx1, hr⟩ := bd hr
          obtain ⟨b2, ob2, cb2, A2, n2, c2, hvb2, hI5, hI6, hI7, hI8, hS3, hS4, H⟩ := ixS_Expr H (i := 2) rfl hx1
          refine WL.ev rfl rfl (Ev.ixVN rfl el29 sz31 rfl hvb2 rfl (lt_of hx1)) (WL.ev rfl rfl (Ev.lda rfl ag31 sz31 rfl (H.rA (i := 3) rfl) rfl) (WL.ev rfl rfl (Ev.mv rfl rfl) ?_))
          obtain ⟨y2, hy2, hr⟩ := bd hr
          refine WL.call rfl rfl rfl rfl rfl ok13 rfl (sUsesAny_ok hy2 (Expr_rd.2 ⟨_, rfl, hI5, hI6, hI7, hI8, hS3, hS4, (H.rS (i := 5) rfl)⟩) (H.rS (i := 1) rfl)) ?_
          rintro _ w5 hE rfl
          have H := H.ext hE
          refine WL.ev rfl rfl (Ev.not rfl rfl) ?_
          obtain ⟨q3, hm3, hr⟩ := bd hr
          refine WL.cut 8 (fun ρ' w => ∃ (s3 : Bool), s3 = q3 ∧ agree ρ' [(1, .slice A1' n1' c1'), (2, .pointer (some ⟨b1, 0, none⟩)), (38, .bool s3)] ∧ HL F0 [] w0 w [Pr.R a0 [.int .i64 a0.Kind, .int .i64 a0.N, .int .i64 a0.Pos, .int .i64 a0.Type_, .string a0.Symbol, .string a0.Name, .slice A1 n1 c1], Pr.S a1 (.slice A1' n1' c1'), Pr.S a0.Args (.slice A1 n1 c1), Pr.A b2 (ob2 + 0 * 7) [.int .i64 x1.Kind, .int .i64 x1.N, .int .i64 x1.Pos, .int .i64 x1.Type_, .string x1.Symbol, .string x1.Name, .slice A2 n2 c2], Pr.R x1 [.int .i64 x1.Kind, .int .i64 x1.N, .int .i64 x1.Pos, .int .i64 x1.Type_, .string x1.Symbol, .string x1.Name, .slice A2 n2 c2], Pr.S x1.Args (.slice A2 n2 c2)] [It.B b1 31 [.int .i64 a0.Kind, .int .i64 a0.N, .int .i64 a0.Pos, .int .i64 a0.Type_, .string a0.Symbol, .string a0.Name, .slice A1 n1 c1]]) ?_ ?_
          · skip
            refine WL.mvBN rfl rfl rfl rfl (fun h5 => ?_) (fun h5 => ?_)
            · skip
              have hm3 := ifn h5 hm3
              refine WL.on rfl rfl (WL.ev rfl rfl (Ev.fa rfl fo31_6 rfl) (WL.on rfl rfl (WL.ev rfl rfl (Ev.ld rfl ag29 rfl ((H.rB (i := 0) rfl).cell rfl)) (WL.on rfl rfl ?_))))
              obtain ⟨x2, hx2, hm3⟩ := bd hm3
              obtain ⟨b3, ob3, cb3, A3, n3, c3, hvb3, hI9, hI10, hI11, hI12, hS5, hS6, H⟩ := ixS_Expr H (i := 2) rfl hx2
              refine WL.ev rfl rfl (Ev.ixVN rfl el29 sz31 rfl hvb3 rfl (lt_of hx2)) (WL.on rfl rfl (WL.ev rfl rfl (Ev.lda rfl ag31 sz31 rfl (H.rA (i := 6) rfl) rfl) (WL.on rfl rfl (WL.ev rfl rfl (Ev.mv rfl rfl) (WL.on rfl rfl ?_)))))
              obtain ⟨y3, hy3, hm3⟩ := bd hm3
              refine WL.call rfl rfl rfl rfl rfl ok19 rfl (ih_sIsMonotone hy3 (Expr_rd.2 ⟨_, rfl, hI9, hI10, hI11, hI12, hS5, hS6, (H.rS (i := 8) rfl)⟩) (H.rS (i := 1) rfl)) ?_
              rintro _ w6 hE rfl
              have H := H.ext hE
              refine WL.ev rfl rfl (Ev.pickT rfl rfl rfl) (WL.nil ?_)
              obtain rfl := sm hm3
              exact ⟨y3, rfl, ⟨rfl, rfl, rfl, trivial⟩, H.keep 6 1⟩
            · skip
              have hm3 := ifp h5 hm3
              refine WL.off rfl rfl rfl (WL.off rfl rfl rfl (WL.off rfl rfl rfl (WL.off rfl rfl rfl (WL.off rfl rfl rfl (WL.off rfl rfl rfl (WL.ev rfl rfl (Ev.pickF rfl rfl rfl) (WL.nil ?_)))))))
              obtain rfl := sm hm3
              exact ⟨false, rfl, ⟨rfl, rfl, rfl, trivial⟩, H.keep 6 1⟩
          · rintro ρ' w7 ⟨s3, rfl, hag, H⟩
            obtain ⟨σ, rfl⟩ := ofL_ex hag
            obtain ⟨q4, hm4, hr⟩ := bd hr
            refine WL.cut 8 (fun ρ' w => ∃ (s4 : Bool), s4 = q4 ∧ agree ρ' [(46, .bool s4)] ∧ HL F0 [] w0 w [Pr.R a0 [.int .i64 a0.Kind, .int .i64 a0.N, .int .i64 a0.Pos, .int .i64 a0.Type_, .string a0.Symbol, .string a0.Name, .slice A1 n1 c1], Pr.S a1 (.slice A1' n1' c1'), Pr.S a0.Args (.slice A1 n1 c1), Pr.A b2 (ob2 + 0 * 7) [.int .i64 x1.Kind, .int .i64 x1.N, .int .i64 x1.Pos, .int .i64 x1.Type_, .string x1.Symbol, .string x1.Name, .slice A2 n2 c2], Pr.R x1 [.int .i64 x1.Kind, .int .i64 x1.N, .int .i64 x1.Pos, .int .i64 x1.Type_, .string x1.Symbol, .string x1.Name, .slice A2 n2 c2], Pr.S x1.Args (.slice A2 n2 c2)] [It.B b1 31 [.int .i64 a0.Kind, .int .i64 a0.N, .int .i64 a0.Pos, .int .i64 a0.Type_, .string a0.Symbol, .string a0.Name, .slice A1 n1 c1]]) ?_ ?_
            · skip
              refine WL.mvB rfl rfl rfl rfl (fun h6 => ?_) (fun h6 => ?_)
              · skip
                have hm4 := ifp h6 hm4
                refine WL.on rfl rfl (WL.ev rfl rfl (Ev.fa rfl fo31_6 rfl) (WL.on rfl rfl (WL.ev rfl rfl (Ev.ld rfl ag29 rfl ((H.rB (i := 0) rfl).cell rfl)) (WL.on rfl rfl ?_))))
                obtain ⟨x3, hx3, hm4⟩ := bd hm4
                obtain ⟨b4, ob4, cb4, A4, n4, c4, hvb4, hI13, hI14, hI15, hI16, hS7, hS8, H⟩ := ixS_Expr H (i := 2) rfl hx3
                refine WL.ev rfl rfl (Ev.ixVN rfl el29 sz31 rfl hvb4 rfl (lt_of hx3)) (WL.on rfl rfl (WL.ev rfl rfl (Ev.lda rfl ag31 sz31 rfl (H.rA (i := 6) rfl) rfl) (WL.on rfl rfl (WL.ev rfl rfl (Ev.mv rfl rfl) (WL.on rfl rfl ?_)))))
                obtain ⟨y4, hy4, hm4⟩ := bd hm4
                refine WL.call rfl rfl rfl rfl rfl ok19 rfl (ih_sIsMonotone hy4 (Expr_rd.2 ⟨_, rfl, hI13, hI14, hI15, hI16, hS7, hS8, (H.rS (i := 8) rfl)⟩) (H.rS (i := 1) rfl)) ?_
                rintro _ w8 hE rfl
                have H := H.ext hE
                refine WL.ev rfl rfl (Ev.pickT rfl rfl rfl) (WL.nil ?_)
                obtain rfl := sm hm4
                exact ⟨y4, rfl, ⟨rfl, trivial⟩, H.keep 6 1⟩
              · skip
                have hm4 := ifn h6 hm4
                refine WL.off rfl rfl rfl (WL.off rfl rfl rfl (WL.off rfl rfl rfl (WL.off rfl rfl rfl (WL.off rfl rfl rfl (WL.off rfl rfl rfl (WL.ev rfl rfl (Ev.pickF rfl rfl rfl) (WL.nil ?_)))))))
                obtain rfl := sm hm4
                exact ⟨false, rfl, ⟨rfl, trivial⟩, H.keep 6 1⟩
            · rintro ρ' w9 ⟨s4, rfl, hag, H⟩
              obtain ⟨σ, rfl⟩ := ofL_ex hag
              refine WL.ev rfl rfl (Ev.as rfl rfl) (WL.nil ?_)
              refine CW.ret ?_
              obtain rfl := sm hr
              exact ⟨_, res1 rfl rfl rfl, H.ext0, rfl⟩
        · skip
          have hr := ifn h4 hr
          refine CW.seq (CW.reg ?_)
          refine WL.ev rfl rfl (Ev.fa rfl fo31_0 rfl) (WL.ev rfl rfl (Ev.ld rfl ag3 rfl ((H.rB (i := 0) rfl).cell rfl)) (WL.ev rfl rfl (Ev.bin rfl rfl rfl Bin.neq) ?_))
          obtain ⟨q5, hm5, hr⟩ := bd hr
          refine WL.cut 6 (fun ρ' w => ∃ (s5 : Bool), s5 = q5 ∧ agree ρ' [(1, .slice A1' n1' c1'), (2, .pointer (some ⟨b1, 0, none⟩)), (56, .bool s5)] ∧ HL F0 [] w0 w [Pr.R a0 [.int .i64 a0.Kind, .int .i64 a0.N, .int .i64 a0.Pos, .int .i64 a0.Type_, .string a0.Symbol, .string a0.Name, .slice A1 n1 c1], Pr.S a1 (.slice A1' n1' c1'), Pr.S a0.Args (.slice A1 n1 c1)] [It.B b1 31 [.int .i64 a0.Kind, .int .i64 a0.N, .int .i64 a0.Pos, .int .i64 a0.Type_, .string a0.Symbol, .string a0.Name, .slice A1 n1 c1]]) ?_ ?_
          · skip
            refine WL.mvN rfl rfl rfl rfl (fun h7 => ?_) (fun h7 => ?_)
            · skip
              have hm5 := ifn h7 hm5
              refine WL.off rfl rfl rfl (WL.off rfl rfl rfl (WL.off rfl rfl rfl (WL.off rfl rfl rfl (WL.ev rfl rfl (Ev.pickT rfl rfl rfl) (WL.nil ?_)))))
              obtain rfl := sm hm5
              exact ⟨true, rfl, ⟨rfl, rfl, rfl, trivial⟩, H.keep 3 1⟩
            · skip
              have hm5 := ifp h7 hm5
              refine WL.on rfl rfl (WL.ev rfl rfl (Ev.fa rfl fo31_6 rfl) (WL.on rfl rfl (WL.ev rfl rfl (Ev.ld rfl ag29 rfl ((H.rB (i := 0) rfl).cell rfl)) (WL.on rfl rfl ?_))))
              have hl2 := (H.rS (i := 2) rfl).I
              refine WL.ev rfl rfl (Ev.lenV rfl el29 rfl (H.rS (i := 2) rfl)) (WL.on rfl rfl (WL.ev rfl rfl (Ev.bin rfl rfl rfl Bin.neq) (WL.ev rfl rfl (Ev.pickF rfl rfl rfl) (WL.nil ?_))))
              obtain rfl := sm hm5
              exact ⟨(!(decide ((a0.Args.length : Int) = 2))), rfl, ⟨rfl, rfl, rfl, trivial⟩, H.keep 3 1⟩
          · rintro ρ' w10 ⟨s5, rfl, hag, H⟩
            obtain ⟨σ, rfl⟩ := ofL_ex hag
            refine WL.ev rfl rfl (Ev.as rfl rfl) (WL.nil ?_)
            refine CW.condB rfl (fun h8 => ?_) (fun h8 => ?_)
            · skip
              have hr := ifp h8 hr
              refine CW.seq (CW.reg ?_)
              refine WL.ev rfl rfl (Ev.as rfl rfl) (WL.nil ?_)
              refine CW.ret ?_
              obtain rfl := sm hr
              exact ⟨_, res1 rfl rfl rfl, H.ext0, rfl⟩
            · skip
              have hr := ifn h8 hr
              refine CW.seq (CW.reg ?_)
              refine WL.ev rfl rfl (Ev.fa rfl fo31_1 rfl) (WL.ev rfl rfl (Ev.ld rfl ag3 rfl ((H.rB (i := 0) rfl).cell rfl)) (WL.ev rfl rfl (Ev.bin rfl rfl rfl Bin.eql) ?_))
              obtain ⟨q6, hm6, hr⟩ := bd hr
              refine WL.cut 5 (fun ρ' w => ∃ (s6 : Bool), s6 = q6 ∧ agree ρ' [(1, .slice A1' n1' c1'), (2, .pointer (some ⟨b1, 0, none⟩)), (65, .bool s6)] ∧ HL F0 [] w0 w [Pr.R a0 [.int .i64 a0.Kind, .int .i64 a0.N, .int .i64 a0.Pos, .int .i64 a0.Type_, .string a0.Symbol, .string a0.Name, .slice A1 n1 c1], Pr.S a1 (.slice A1' n1' c1'), Pr.S a0.Args (.slice A1 n1 c1)] [It.B b1 31 [.int .i64 a0.Kind, .int .i64 a0.N, .int .i64 a0.Pos, .int .i64 a0.Type_, .string a0.Symbol, .string a0.Name, .slice A1 n1 c1]]) ?_ ?_
              · skip
                refine WL.mvD rfl rfl rfl rfl (fun h9 => ?_) (fun h9 => ?_)
                · skip
                  have hm6 := ifp h9 hm6
                  refine WL.off rfl rfl rfl (WL.off rfl rfl rfl (WL.off rfl rfl rfl (WL.ev rfl rfl (Ev.pickT rfl rfl rfl) (WL.nil ?_))))
                  obtain rfl := sm hm6
                  exact ⟨true, rfl, ⟨rfl, rfl, rfl, trivial⟩, H.keep 3 1⟩
                · skip
                  have hm6 := ifn h9 hm6
                  refine WL.on rfl rfl (WL.ev rfl rfl (Ev.fa rfl fo31_1 rfl) (WL.on rfl rfl (WL.ev rfl rfl (Ev.ld rfl ag3 rfl ((H.rB (i := 0) rfl).cell rfl)) (WL.on rfl rfl (WL.ev rfl rfl (Ev.bin rfl rfl rfl Bin.eql) (WL.ev rfl rfl (Ev.pickF rfl rfl rfl) (WL.nil ?_)))))))
                  obtain rfl := sm hm6
                  exact ⟨(decide (a0.N = 7)), rfl, ⟨rfl, rfl, rfl, trivial⟩, H.keep 3 1⟩
              · rintro ρ' w11 ⟨s6, rfl, hag, H⟩
                obtain ⟨σ, rfl⟩ := ofL_ex hag
                refine WL.ev rfl rfl (Ev.as rfl rfl) (WL.nil ?_)
                refine CW.condB rfl (fun h10 => ?_) (fun h10 => ?_)
                · skip
                  have hr := ifp h10 hr
                  refine CW.seq (CW.reg ?_)
                  refine WL.ev rfl rfl (Ev.fa rfl fo31_6 rfl) (WL.ev rfl rfl (Ev.ld rfl ag29 rfl ((H.rB (i := 0) rfl).cell rfl)) ?_)
                  obtain ⟨x4, hx4, hr⟩ := bd hr
                  obtain ⟨b5, ob5, cb5, A5, n5, c5, hvb5, hI17, hI18, hI19, hI20, hS9, hS10, H⟩ := ixS_Expr H (i := 2) rfl hx4
                  refine WL.ev rfl rfl (Ev.ixVN rfl el29 sz31 rfl hvb5 rfl (lt_of hx4)) (WL.ev rfl rfl (Ev.lda rfl ag31 sz31 rfl (H.rA (i := 3) rfl) rfl) (WL.ev rfl rfl (Ev.mv rfl rfl) ?_))
                  obtain ⟨y5, hy5, hr⟩ := bd hr
                  refine WL.call rfl rfl rfl rfl rfl ok19 rfl (ih_sIsMonotone hy5 (Expr_rd.2 ⟨_, rfl, hI17, hI18, hI19, hI20, hS9, hS10, (H.rS (i := 5) rfl)⟩) (H.rS (i := 1) rfl)) ?_
                  rintro _ w12 hE rfl
                  have H := H.ext hE
                  obtain ⟨q7, hm7, hr⟩ := bd hr
                  refine WL.cut 8 (fun ρ' w => ∃ (s7 : Bool), s7 = q7 ∧ agree ρ' [(79, .bool s7)] ∧ HL F0 [] w0 w [Pr.R a0 [.int .i64 a0.Kind, .int .i64 a0.N, .int .i64 a0.Pos, .int .i64 a0.Type_, .string a0.Symbol, .string a0.Name, .slice A1 n1 c1], Pr.S a1 (.slice A1' n1' c1'), Pr.S a0.Args (.slice A1 n1 c1), Pr.A b5 (ob5 + 0 * 7) [.int .i64 x4.Kind, .int .i64 x4.N, .int .i64 x4.Pos, .int .i64 x4.Type_, .string x4.Symbol, .string x4.Name, .slice A5 n5 c5], Pr.R x4 [.int .i64 x4.Kind, .int .i64 x4.N, .int .i64 x4.Pos, .int .i64 x4.Type_, .string x4.Symbol, .string x4.Name, .slice A5 n5 c5], Pr.S x4.Args (.slice A5 n5 c5)] [It.B b1 31 [.int .i64 a0.Kind, .int .i64 a0.N, .int .i64 a0.Pos, .int .i64 a0.Type_, .string a0.Symbol, .string a0.Name, .slice A1 n1 c1]]) ?_ ?_
                  · skip
                    refine WL.mvB rfl rfl rfl rfl (fun h11 => ?_) (fun h11 => ?_)
                    · skip
                      have hm7 := ifp h11 hm7
                      refine WL.on rfl rfl (WL.ev rfl rfl (Ev.fa rfl fo31_6 rfl) (WL.on rfl rfl (WL.ev rfl rfl (Ev.ld rfl ag29 rfl ((H.rB (i := 0) rfl).cell rfl)) (WL.on rfl rfl ?_))))
                      obtain ⟨x5, hx5, hm7⟩ := bd hm7
                      obtain ⟨b6, ob6, cb6, A6, n6, c6, hvb6, hI21, hI22, hI23, hI24, hS11, hS12, H⟩ := ixS_Expr H (i := 2) rfl hx5
                      refine WL.ev rfl rfl (Ev.ixVN rfl el29 sz31 rfl hvb6 rfl (lt_of hx5)) (WL.on rfl rfl (WL.ev rfl rfl (Ev.lda rfl ag31 sz31 rfl (H.rA (i := 6) rfl) rfl) (WL.on rfl rfl (WL.ev rfl rfl (Ev.mv rfl rfl) (WL.on rfl rfl ?_)))))
                      obtain ⟨y6, hy6, hm7⟩ := bd hm7
                      refine WL.call rfl rfl rfl rfl rfl ok19 rfl (ih_sIsMonotone hy6 (Expr_rd.2 ⟨_, rfl, hI21, hI22, hI23, hI24, hS11, hS12, (H.rS (i := 8) rfl)⟩) (H.rS (i := 1) rfl)) ?_
                      rintro _ w13 hE rfl
                      have H := H.ext hE
                      refine WL.ev rfl rfl (Ev.pickT rfl rfl rfl) (WL.nil ?_)
                      obtain rfl := sm hm7
                      exact ⟨y6, rfl, ⟨rfl, trivial⟩, H.keep 6 1⟩
                    · skip
                      have hm7 := ifn h11 hm7
                      refine WL.off rfl rfl rfl (WL.off rfl rfl rfl (WL.off rfl rfl rfl (WL.off rfl rfl rfl (WL.off rfl rfl rfl (WL.off rfl rfl rfl (WL.ev rfl rfl (Ev.pickF rfl rfl rfl) (WL.nil ?_)))))))
                      obtain rfl := sm hm7
                      exact ⟨false, rfl, ⟨rfl, trivial⟩, H.keep 6 1⟩
                  · rintro ρ' w14 ⟨s7, rfl, hag, H⟩
                    obtain ⟨σ, rfl⟩ := ofL_ex hag
                    refine WL.ev rfl rfl (Ev.as rfl rfl) (WL.nil ?_)
                    refine CW.ret ?_
                    obtain rfl := sm hr
                    exact ⟨_, res1 rfl rfl rfl, H.ext0, rfl⟩
                · skip
                  have hr := ifn h10 hr
                  refine CW.seq (CW.reg ?_)
                  refine WL.ev rfl rfl (Ev.fa rfl fo31_1 rfl) (WL.ev rfl rfl (Ev.ld rfl ag3 rfl ((H.rB (i := 0) rfl).cell rfl)) (WL.ev rfl rfl (Ev.bin rfl rfl rfl Bin.eql) ?_))
                  obtain ⟨q8, hm8, hr⟩ := bd hr
                  refine WL.cut 5 (fun ρ' w => ∃ (s8 : Bool), s8 = q8 ∧ agree ρ' [(1, .slice A1' n1' c1'), (2, .pointer (some ⟨b1, 0, none⟩)), (88, .bool s8)] ∧ HL F0 [] w0 w [Pr.R a0 [.int .i64 a0.Kind, .int .i64 a0.N, .int .i64 a0.Pos, .int .i64 a0.Type_, .string a0.Symbol, .string a0.Name, .slice A1 n1 c1], Pr.S a1 (.slice A1' n1' c1'), Pr.S a0.Args (.slice A1 n1 c1)] [It.B b1 31 [.int .i64 a0.Kind, .int .i64 a0.N, .int .i64 a0.Pos, .int .i64 a0.Type_, .string a0.Symbol, .string a0.Name, .slice A1 n1 c1]]) ?_ ?_
                  · skip
                    refine WL.mvD rfl rfl rfl rfl (fun h12 => ?_) (fun h12 => ?_)
                    · skip
                      have hm8 := ifp h12 hm8
                      refine WL.off rfl rfl rfl (WL.off rfl rfl rfl (WL.off rfl rfl rfl (WL.ev rfl rfl (Ev.pickT rfl rfl rfl) (WL.nil ?_))))
                      obtain rfl := sm hm8
                      exact ⟨true, rfl, ⟨rfl, rfl, rfl, trivial⟩, H.keep 3 1⟩
                    · skip
                      have hm8 := ifn h12 hm8
                      refine WL.on rfl rfl (WL.ev rfl rfl (Ev.fa rfl fo31_1 rfl) (WL.on rfl rfl (WL.ev rfl rfl (Ev.ld rfl ag3 rfl ((H.rB (i := 0) rfl).cell rfl)) (WL.on rfl rfl (WL.ev rfl rfl (Ev.bin rfl rfl rfl Bin.eql) (WL.ev rfl rfl (Ev.pickF rfl rfl rfl) (WL.nil ?_)))))))
                      obtain rfl := sm hm8
                      exact ⟨(decide (a0.N = 12)), rfl, ⟨rfl, rfl, rfl, trivial⟩, H.keep 3 1⟩
                  · rintro ρ' w15 ⟨s8, rfl, hag, H⟩
                    obtain ⟨σ, rfl⟩ := ofL_ex hag
                    refine WL.ev rfl rfl (Ev.as rfl rfl) (WL.nil ?_)
                    refine CW.condB rfl (fun h13 => ?_) (fun h13 => ?_)
                    · skip
                      have hr := ifp h13 hr
                      refine CW.seq (CW.reg ?_)
                      refine WL.ev rfl rfl (Ev.fa rfl fo31_6 rfl) (WL.ev rfl rfl (Ev.ld rfl ag29 rfl ((H.rB (i := 0) rfl).cell rfl)) ?_)
                      obtain ⟨x6, hx6, hr⟩ := bd hr
                      obtain ⟨b7, ob7, cb7, A7, n7, c7, hvb7, hI25, hI26, hI27, hI28, hS13, hS14, H⟩ := ixS_Expr H (i := 2) rfl hx6
                      refine WL.ev rfl rfl (Ev.ixVN rfl el29 sz31 rfl hvb7 rfl (lt_of hx6)) (WL.ev rfl rfl (Ev.lda rfl ag31 sz31 rfl (H.rA (i := 3) rfl) rfl) (WL.ev rfl rfl (Ev.mv rfl rfl) ?_))
                      obtain ⟨y7, hy7, hr⟩ := bd hr
                      refine WL.call rfl rfl rfl rfl rfl ok19 rfl (ih_sIsMonotone hy7 (Expr_rd.2 ⟨_, rfl, hI25, hI26, hI27, hI28, hS13, hS14, (H.rS (i := 5) rfl)⟩) (H.rS (i := 1) rfl)) ?_
                      rintro _ w16 hE rfl
                      have H := H.ext hE
                      obtain ⟨q9, hm9, hr⟩ := bd hr
                      refine WL.cut 9 (fun ρ' w => ∃ (s9 : Bool), s9 = q9 ∧ agree ρ' [(103, .bool s9)] ∧ HL F0 [] w0 w [Pr.R a0 [.int .i64 a0.Kind, .int .i64 a0.N, .int .i64 a0.Pos, .int .i64 a0.Type_, .string a0.Symbol, .string a0.Name, .slice A1 n1 c1], Pr.S a1 (.slice A1' n1' c1'), Pr.S a0.Args (.slice A1 n1 c1), Pr.A b7 (ob7 + 0 * 7) [.int .i64 x6.Kind, .int .i64 x6.N, .int .i64 x6.Pos, .int .i64 x6.Type_, .string x6.Symbol, .string x6.Name, .slice A7 n7 c7], Pr.R x6 [.int .i64 x6.Kind, .int .i64 x6.N, .int .i64 x6.Pos, .int .i64 x6.Type_, .string x6.Symbol, .string x6.Name, .slice A7 n7 c7], Pr.S x6.Args (.slice A7 n7 c7)] [It.B b1 31 [.int .i64 a0.Kind, .int .i64 a0.N, .int .i64 a0.Pos, .int .i64 a0.Type_, .string a0.Symbol, .string a0.Name, .slice A1 n1 c1]]) ?_ ?_
                      · skip
                        refine WL.mvB rfl rfl rfl rfl (fun h14 => ?_) (fun h14 => ?_)
                        · skip
                          have hm9 := ifp h14 hm9
                          refine WL.on rfl rfl (WL.ev rfl rfl (Ev.fa rfl fo31_6 rfl) (WL.on rfl rfl (WL.ev rfl rfl (Ev.ld rfl ag29 rfl ((H.rB (i := 0) rfl).cell rfl)) (WL.on rfl rfl ?_))))
                          obtain ⟨x7, hx7, hm9⟩ := bd hm9
                          obtain ⟨b8, ob8, cb8, A8, n8, c8, hvb8, hI29, hI30, hI31, hI32, hS15, hS16, H⟩ := ixS_Expr H (i := 2) rfl hx7
                          refine WL.ev rfl rfl (Ev.ixVN rfl el29 sz31 rfl hvb8 rfl (lt_of hx7)) (WL.on rfl rfl (WL.ev rfl rfl (Ev.lda rfl ag31 sz31 rfl (H.rA (i := 6) rfl) rfl) (WL.on rfl rfl (WL.ev rfl rfl (Ev.mv rfl rfl) (WL.on rfl rfl ?_)))))
                          obtain ⟨y8, hy8, hm9⟩ := bd hm9
                          refine WL.call rfl rfl rfl rfl rfl ok13 rfl (sUsesAny_ok hy8 (Expr_rd.2 ⟨_, rfl, hI29, hI30, hI31, hI32, hS15, hS16, (H.rS (i := 8) rfl)⟩) (H.rS (i := 1) rfl)) ?_
                          rintro _ w17 hE rfl
                          have H := H.ext hE
                          refine WL.on rfl rfl (WL.ev rfl rfl (Ev.not rfl rfl) (WL.ev rfl rfl (Ev.pickT rfl rfl rfl) (WL.nil ?_)))
                          obtain rfl := sm hm9
                          exact ⟨(!y8), rfl, ⟨rfl, trivial⟩, H.keep 6 1⟩
                        · skip
                          have hm9 := ifn h14 hm9
                          refine WL.off rfl rfl rfl (WL.off rfl rfl rfl (WL.off rfl rfl rfl (WL.off rfl rfl rfl (WL.off rfl rfl rfl (WL.off rfl rfl rfl (WL.off rfl rfl rfl (WL.ev rfl rfl (Ev.pickF rfl rfl rfl) (WL.nil ?_))))))))
                          obtain rfl := sm hm9
                          exact ⟨false, rfl, ⟨rfl, trivial⟩, H.keep 6 1⟩
                      · rintro ρ' w18 ⟨s9, rfl, hag, H⟩
                        obtain ⟨σ, rfl⟩ := ofL_ex hag
                        refine WL.ev rfl rfl (Ev.as rfl rfl) (WL.nil ?_)
                        refine CW.ret ?_
                        obtain rfl := sm hr
                        exact ⟨_, res1 rfl rfl rfl, H.ext0, rfl⟩
                    · skip
                      have hr := ifn h13 hr
                      refine CW.skip ?_
                      refine CW.seq (CW.reg ?_)
                      refine WL.ev rfl rfl (Ev.as rfl rfl) (WL.nil ?_)
                      refine CW.ret ?_
                      obtain rfl := sm hr
                      exact ⟨_, res1 rfl rfl rfl, H.ext0, rfl⟩
noncomputable def sIsMonotone_n : Nat → Expr → (List Occurrence) → Option Bool
  | 0, _, _ => none
  | n + 1, a0, a1 => sIsMonotone_B (sIsMonotone_n n) a0 a1
noncomputable def sIsMonotone_m (a0 : Expr) (a1 : (List Occurrence)) : Option Bool := recO fun n => sIsMonotone_n n a0 a1
theorem sIsMonotone_okn (n : Nat) : ∀ {a0 : Expr} {a1 : (List Occurrence)} {r : Bool}, sIsMonotone_n n a0 a1 = some r → ∀ {F0 : Nat → Prop} {w0 : World} {ca0 : List Value} (ha0 : rd F0 w0 a0 ca0) {z1 : Value} (ha1 : rdS F0 w0 a1 z1), Ret Try.prog 19 #[.agg ca0.toArray, z1] w0 (fun _ => False) fun v w => v = .bool r := by
  induction n with
  | zero => intro a0 a1 r hr; exact nomatch (show (none : Option Bool) = some r from hr)
  | succ n ih => intro a0 a1 r hr; exact sIsMonotone_okB ih hr
theorem sIsMonotone_ok {a0 : Expr} {a1 : (List Occurrence)} {r : Bool} (hr : sIsMonotone_m a0 a1 = some r) {F0 : Nat → Prop} {w0 : World} {ca0 : List Value} (ha0 : rd F0 w0 a0 ca0) {z1 : Value} (ha1 : rdS F0 w0 a1 z1) :
    Ret Try.prog 19 #[.agg ca0.toArray, z1] w0 (fun _ => False) fun v w => v = .bool r := by
  obtain ⟨n, hn⟩ := recO_some hr
  exact sIsMonotone_okn n hn ha0 ha1

noncomputable def wat0_m (a0 : (List UInt8)) (a1 : Int) : Option Int :=
  if a1 < (a0.length : Int) then (
  grd (0 ≤ a1) <|
  (a0[a1.toNat]?).bind fun x1 =>
  some (x1.toNat : Int)
  ) else (
  grd (I64 (a1 * 7)) <|
  grd (I64 ((a1 * 7) + (a0.length : Int))) <|
  some (((a1 * 7) + (a0.length : Int)).tmod 256)
  )
theorem wat0_ok {a0 : (List UInt8)} {a1 : Int} {r : Int} (hr : wat0_m a0 a1 = some r) {F0 : Nat → Prop} {w0 : World} {z0 : Value} (ha0 : rdS F0 w0 a0 z0) (ha1 : I64 a1) :
    Ret Try.prog 34 #[z0, .int .i64 a1] w0 (fun _ => False) fun v w => v = .int .i64 r ∧ I64 r := by
  obtain ⟨A0', n0', c0', rfl⟩ := ha0.form3
  have H := (HL.start F0 w0).argS ha0
  refine enter Try.func34 rfl rfl rfl ?_
  refine CW.seq (CW.reg ?_)
  refine WL.ev rfl rfl (Ev.as rfl rfl) (WL.nil ?_)
  refine CW.seq (CW.seq (CW.reg ?_))
  refine WL.ev rfl rfl (Ev.mv rfl rfl) (WL.ev rfl rfl (Ev.mv rfl rfl) ?_)
  have hl1 := (H.rS (i := 0) rfl).I
  refine WL.ev rfl rfl (Ev.lenV rfl el38 rfl (H.rS (i := 0) rfl)) (WL.ev rfl rfl (Ev.bin rfl rfl rfl Bin.lss) (WL.nil ?_))
  refine CW.condD rfl (fun h1 => ?_) (fun h1 => ?_)
  · skip
    have hr := ifp h1 hr
    refine CW.seq (CW.reg ?_)
    refine WL.ev rfl rfl (Ev.mv rfl rfl) (WL.ev rfl rfl (Ev.mv rfl rfl) ?_)
    obtain ⟨hg1, hr⟩ := grd_some hr
    obtain ⟨x1, hx1, hr⟩ := bd hr
    obtain ⟨b1, ob1, cb1, hvb1, H⟩ := ixS_Byte H (i := 0) rfl hx1
    refine WL.ev rfl rfl (Ev.ixV rfl el38 sz5 rfl hvb1 rfl hg1 (lt_of hx1)) (WL.ev rfl rfl (Ev.ld rfl ag5 rfl ((H.rA (i := 1) rfl).cell0 rfl)) (WL.ev rfl rfl (Ev.convB rfl Try.underlying5 it3 rfl) (WL.ev rfl rfl (Ev.as rfl rfl) (WL.nil ?_))))
    refine CW.ret ?_
    obtain rfl := sm hr
    exact ⟨_, res1 rfl rfl rfl, H.ext0, rfl, (i64_u8 x1)⟩
  · skip
    have hr := ifn h1 hr
    refine CW.skip ?_
    refine CW.seq (CW.reg ?_)
    refine WL.ev rfl rfl (Ev.mv rfl rfl) ?_
    obtain ⟨hg2, hr⟩ := grd_some hr
    refine WL.ev rfl rfl (Ev.bin rfl rfl rfl (Bin.mul hg2)) (WL.ev rfl rfl (Ev.mv rfl rfl) (WL.ev rfl rfl (Ev.lenV rfl el38 rfl (H.rS (i := 0) rfl)) ?_))
    obtain ⟨hg3, hr⟩ := grd_some hr
    refine WL.ev rfl rfl (Ev.bin rfl rfl rfl (Bin.add hg3)) (WL.ev rfl rfl (Ev.bin rfl rfl rfl (Bin.remI (by decide))) (WL.ev rfl rfl (Ev.as rfl rfl) (WL.nil ?_)))
    refine CW.ret ?_
    obtain rfl := sm hr
    exact ⟨_, res1 rfl rfl rfl, H.ext0, rfl, (i64_rem hg3)⟩

noncomputable def wFnMonotone_L1 (a0 : (List UInt8)) (y3 : (List Occurrence)) : Nat → Occurrence → ((List Slot) × (List Slot)) → Option ((List Slot) × (List Slot)) := fun k1 x1 (s1, s2) => 
  (
  (wat0_m a0 (k1 : Int)).bind fun y9 =>
  grd (I64 (y9 * 16)) <|
  (whasOccurrence_m y3 x1).bind fun y10 =>
  if y10 = true then (
  (wat0_m a0 ((k1 + 1 : Nat) : Int)).bind fun y11 =>
  grd (0 ≤ ((y9 * 16).tmod 4096) ∧ 0 ≤ y11) <|
  grd (((s1.length : Int) + 1) * 32 ≤ 140737488355328 ∧ (s1.length : Int) + 1 ≤ 9223372036854775807) <|
  grd (((s2.length : Int) + 1) * 32 ≤ 140737488355328 ∧ (s2.length : Int) + 1 ≤ 9223372036854775807) <|
  some ((s1 ++ [(⟨x1, ((y9 * 16).tmod 4096)⟩ : Slot)]), (s2 ++ [(⟨x1, ((((y9 * 16).tmod 4096).toNat ||| y11.toNat : Nat) : Int)⟩ : Slot)]))
  ) else (
  grd (((s1.length : Int) + 1) * 32 ≤ 140737488355328 ∧ (s1.length : Int) + 1 ≤ 9223372036854775807) <|
  grd (((s2.length : Int) + 1) * 32 ≤ 140737488355328 ∧ (s2.length : Int) + 1 ≤ 9223372036854775807) <|
  some ((s1 ++ [(⟨x1, ((y9 * 16).tmod 4096)⟩ : Slot)]), (s2 ++ [(⟨x1, ((y9 * 16).tmod 4096)⟩ : Slot)]))
  )
  ).bind fun (s3, s4) =>
  some (s3, s4)
noncomputable def wFnMonotone_m (a0 : (List UInt8)) : Option Bool :=
  (wbig_m a0).bind fun y1 =>
  if y1 = true then (
  some true
  ) else (
  (sDrawIsMonotone_m a0).bind fun (y2, y3) =>
  (iIsMonotone_m y2 y3).bind fun y4 =>
  (sIsMonotone_m y2 y3).bind fun y5 =>
  if y4 = y5 then (
  (iUsesAny_m y2 y3).bind fun y6 =>
  (sUsesAny_m y2 y3).bind fun y7 =>
  if y6 = y7 then (
  (sAttributeUses_m y2).bind fun y8 =>
  (eachL (wFnMonotone_L1 a0 y3) 0 y8 (([] : List Slot), ([] : List Slot))).bind fun (s1, s2) =>
  (sEvalLocal_m y2 s1 3 ([1] : List Int)).bind fun y12 =>
  (sEvalLocal_m y2 s2 3 ([1] : List Int)).bind fun y13 =>
  (
  if y2.Kind = 4 then (
  (
  if 6 ≤ y2.N then (
  some (decide (y2.N ≤ 8))
  ) else (
  some false
  )
  ).bind fun s6 =>
  some s6
  ) else (
  some true
  )
  ).bind fun s5 =>
  (
  if s5 = true then (
  some true
  ) else (
  some (decide (y2.N = 12))
  )
  ).bind fun s7 =>
  (
  if y4 = true then (
  some (!s7)
  ) else (
  some true
  )
  ).bind fun s8 =>
  (
  if s8 = true then (
  some true
  ) else (
  (iUsesAny_m y2 y3).bind fun y14 =>
  some (!y14)
  )
  ).bind fun s9 =>
  (
  if s9 = true then (
  some true
  ) else (
  some (decide (y2.Kind = 5))
  )
  ).bind fun s10 =>
  (
  if s10 = true then (
  some true
  ) else (
  some (decide ((goAndNot y12 y13) = 0))
  )
  ).bind fun s11 =>
  some s11
  ) else (
  some false
  )
  ) else (
  some false
  )
  )
theorem wFnMonotone_ok {a0 : (List UInt8)} {r : Bool} (hr : wFnMonotone_m a0 = some r) {F0 : Nat → Prop} {w0 : World} {z0 : Value} (ha0 : rdS F0 w0 a0 z0) :
    Ret Try.prog 6 #[z0] w0 (fun _ => False) fun v w => v = .bool r := by
  obtain ⟨A0', n0', c0', rfl⟩ := ha0.form3
  have H := (HL.start F0 w0).argS ha0
  refine enter Try.func6 rfl rfl rfl ?_
  refine CW.seq (CW.reg ?_)
  refine WL.ev rfl rfl (Ev.as rfl rfl) (WL.nil ?_)
  refine CW.seq (CW.seq (CW.reg ?_))
  refine WL.ev rfl rfl (Ev.mv rfl rfl) ?_
  obtain ⟨y1, hy1, hr⟩ := bd hr
  refine WL.call rfl rfl rfl rfl rfl ok21 rfl (wbig_ok hy1 (H.rS (i := 0) rfl)) ?_
  rintro _ w1 hE rfl
  have H := H.ext hE
  refine WL.nil ?_
  refine CW.condB rfl (fun h1 => ?_) (fun h1 => ?_)
  · skip
    have hr := ifp h1 hr
    refine CW.seq (CW.reg ?_)
    refine WL.ev rfl rfl (Ev.as rfl rfl) (WL.nil ?_)
    refine CW.ret ?_
    obtain rfl := sm hr
    exact ⟨_, res1 rfl rfl rfl, H.ext0, rfl⟩
  · skip
    have hr := ifn h1 hr
    refine CW.skip ?_
    refine CW.seq (CW.reg ?_)
    refine WL.ev rfl rfl (Ev.mv rfl rfl) ?_
    obtain ⟨⟨y2, y3⟩, hy2, hr⟩ := bd hr
    obtain ⟨F, hF, hcl⟩ := H.call
    refine WL.call rfl rfl rfl rfl rfl ok33 rfl (sDrawIsMonotone_ok hy2 (hF.get (i := 0) rfl)) ?_
    rintro _ w2 hE ⟨A1, n1, c1, A2, n2, c2, rfl, hI1, hI2, hI3, hI4, hS1, hS2, H'⟩
    have H : HL F0 [] w0 w2 [Pr.S a0 (.slice A0' n0' c0'), Pr.S y3 (.slice A2 n2 c2)] [It.G 31 y2.Args (.slice A1 n1 c1)] := hcl H'
    refine WL.ev rfl rfl (Ev.mv rfl rfl) (WL.ev rfl rfl (Ev.ex rfl rfl rfl) (WL.ev rfl rfl (Ev.ex rfl rfl rfl) ?_))
    refine WL.allocH rfl rfl rfl ze31 H fun b1 w3 H => ?_
    refine WL.stB (i := 1) rfl rfl rfl sz31 rfl rfl rfl rfl (all1 rfl (all1 rfl (all1 rfl (all1 rfl (all1 rfl (all1 rfl (all1 rfl all0))))))) H rfl rfl rfl fun w4 H => ?_
    refine WL.ev rfl rfl (Ev.as rfl rfl) (WL.nil ?_)
    refine CW.seq (CW.reg ?_)
    refine WL.ev rfl rfl (Ev.lda rfl ag31 sz31 rfl (At.blk (H.rB (i := 1) rfl)) rfl) (WL.ev rfl rfl (Ev.mv rfl rfl) ?_)
    obtain ⟨y4, hy3, hr⟩ := bd hr
    refine WL.call rfl rfl rfl rfl rfl ok20 rfl (iIsMonotone_ok hy3 (Expr_rd.2 ⟨_, rfl, hI1, hI2, hI3, hI4, hS1, hS2, (H.rG (i := 0) rfl)⟩) (H.rS (i := 1) rfl)) ?_
    rintro _ w5 hE rfl
    have H := H.ext hE
    refine WL.ev rfl rfl (Ev.as rfl rfl) (WL.nil ?_)
    refine CW.seq (CW.seq (CW.quiet hmix (by kernel_rfl) ?_))
    refine QL.ev rfl rfl (fun _ _ => Ev.mv rfl rfl) (QL.ev rfl rfl (fun _ hq => Ev.lda rfl ag31 sz31 rfl (At.blk ((H.ext hq).rB (i := 1) rfl)) rfl) (QL.ev rfl rfl (fun _ _ => Ev.mv rfl rfl) ?_))
    obtain ⟨y5, hy4, hr⟩ := bd hr
    refine QL.call rfl rfl rfl rfl rfl ok19 rfl (fun _ hq => sIsMonotone_ok hy4 (Expr_rd.2 ⟨_, rfl, hI1, hI2, hI3, hI4, hS1, hS2, ((H.ext hq).rG (i := 0) rfl)⟩) ((H.ext hq).rS (i := 1) rfl)) ?_
    refine QL.ev rfl rfl (fun _ _ => Ev.bin rfl rfl rfl (Bin.neqBo Try.underlying4)) ?_
    refine QL.mvN rfl rfl rfl rfl (fun h2 => ?_) (fun h2 => ?_)
    · skip
      have hr := ifn h2 hr
      refine QL.off rfl rfl rfl (QL.off rfl rfl rfl (QL.off rfl rfl rfl (QL.off rfl rfl rfl (QL.off rfl rfl rfl (QL.off rfl rfl rfl (QL.off rfl rfl rfl (QL.ev rfl rfl (fun _ _ => Ev.pickT rfl rfl rfl) (QL.nil (fun w6 hE => ?_)))))))))
      have H := H.ext hE
      refine CW.condT rfl ?_
      refine CW.seq ?_
      refine CW.fresh [] trivial fun σ => ?_
      have H : HL F0 [] w0 w6 [Pr.S a0 (.slice A0' n0' c0'), Pr.S y3 (.slice A2 n2 c2)] [It.G 31 y2.Args (.slice A1 n1 c1), It.B b1 31 [.int .i64 y2.Kind, .int .i64 y2.N, .int .i64 y2.Pos, .int .i64 y2.Type_, .string y2.Symbol, .string y2.Name, .slice A1 n1 c1]] := H
      refine CW.reg ?_
      refine WL.ev rfl rfl (Ev.as rfl rfl) (WL.nil ?_)
      refine CW.ret ?_
      obtain rfl := sm hr
      exact ⟨_, res1 rfl rfl rfl, H.ext0, rfl⟩
    · skip
      have hr := ifp h2 hr
      refine QL.on rfl rfl (QL.ev rfl rfl (fun _ hq => Ev.lda rfl ag31 sz31 rfl (At.blk ((H.ext hq).rB (i := 1) rfl)) rfl) (QL.on rfl rfl (QL.ev rfl rfl (fun _ _ => Ev.mv rfl rfl) (QL.on rfl rfl ?_))))
      obtain ⟨y6, hy5, hr⟩ := bd hr
      refine QL.call rfl rfl rfl rfl rfl ok16 rfl (fun _ hq => iUsesAny_ok hy5 (Expr_rd.2 ⟨_, rfl, hI1, hI2, hI3, hI4, hS1, hS2, ((H.ext hq).rG (i := 0) rfl)⟩) ((H.ext hq).rS (i := 1) rfl)) ?_
      refine QL.on rfl rfl (QL.ev rfl rfl (fun _ hq => Ev.lda rfl ag31 sz31 rfl (At.blk ((H.ext hq).rB (i := 1) rfl)) rfl) (QL.on rfl rfl (QL.ev rfl rfl (fun _ _ => Ev.mv rfl rfl) (QL.on rfl rfl ?_))))
      obtain ⟨y7, hy6, hr⟩ := bd hr
      refine QL.call rfl rfl rfl rfl rfl ok13 rfl (fun _ hq => sUsesAny_ok hy6 (Expr_rd.2 ⟨_, rfl, hI1, hI2, hI3, hI4, hS1, hS2, ((H.ext hq).rG (i := 0) rfl)⟩) ((H.ext hq).rS (i := 1) rfl)) ?_
      refine QL.on rfl rfl (QL.ev rfl rfl (fun _ _ => Ev.bin rfl rfl rfl (Bin.neqBo Try.underlying4)) (QL.ev rfl rfl (fun _ _ => Ev.pickF rfl rfl rfl) (QL.nil (fun w7 hE => ?_))))
      have H := H.ext hE
      refine CW.condN rfl (fun h3 => ?_) (fun h3 => ?_)
      · skip
        have hr := ifn h3 hr
        refine CW.seq ?_
        refine CW.fresh [] trivial fun σ => ?_
        have H : HL F0 [] w0 w7 [Pr.S a0 (.slice A0' n0' c0'), Pr.S y3 (.slice A2 n2 c2)] [It.G 31 y2.Args (.slice A1 n1 c1), It.B b1 31 [.int .i64 y2.Kind, .int .i64 y2.N, .int .i64 y2.Pos, .int .i64 y2.Type_, .string y2.Symbol, .string y2.Name, .slice A1 n1 c1]] := H
        refine CW.reg ?_
        refine WL.ev rfl rfl (Ev.as rfl rfl) (WL.nil ?_)
        refine CW.ret ?_
        obtain rfl := sm hr
        exact ⟨_, res1 rfl rfl rfl, H.ext0, rfl⟩
      · skip
        have hr := ifp h3 hr
        refine CW.skip ?_
        refine CW.seq ?_
        refine CW.fresh [(0, .slice A0' n0' c0'), (3, .pointer (some ⟨b1, 0, none⟩)), (4, .slice A2 n2 c2), (5, .bool y4)] ⟨rfl, rfl, rfl, rfl, trivial⟩ fun σ => ?_
        have H : HL F0 [] w0 w7 [Pr.S a0 (.slice A0' n0' c0'), Pr.S y3 (.slice A2 n2 c2)] [It.G 31 y2.Args (.slice A1 n1 c1), It.B b1 31 [.int .i64 y2.Kind, .int .i64 y2.N, .int .i64 y2.Pos, .int .i64 y2.Type_, .string y2.Symbol, .string y2.Name, .slice A1 n1 c1]] := H
        refine CW.reg ?_
        refine WL.ev rfl rfl (Ev.lda rfl ag31 sz31 rfl (At.blk (H.rB (i := 1) rfl)) rfl) ?_
        have H := H.frzG (i := 0) rfl
        obtain ⟨y8, hy7, hr⟩ := bd hr
        obtain ⟨F, hF, hcl⟩ := H.call
        refine WL.call rfl rfl rfl rfl rfl ok25 rfl (sAttributeUses_ok hy7 (Expr_rd.2 ⟨_, rfl, hI1, hI2, hI3, hI4, hS1, hS2, (hF.get (i := 2) rfl)⟩)) ?_
        rintro _ w8 hE ⟨A3, n3, c3, rfl, H'⟩
        have H : HL F0 [] w0 w8 [Pr.S a0 (.slice A0' n0' c0'), Pr.S y3 (.slice A2 n2 c2), Pr.S y2.Args (.slice A1 n1 c1), Pr.S y8 (.slice A3 n3 c3)] [It.emp, It.B b1 31 [.int .i64 y2.Kind, .int .i64 y2.N, .int .i64 y2.Pos, .int .i64 y2.Type_, .string y2.Symbol, .string y2.Name, .slice A1 n1 c1]] := hcl H'
        refine WL.ev rfl rfl (Ev.as rfl rfl) (WL.nil ?_)
        refine CW.seq (CW.reg ?_)
        refine WL.lit0H (α := Slot) rfl rfl rfl el40 sz50 H fun A4 n4 c4 w9 H => ?_
        refine WL.ev rfl rfl (Ev.as rfl rfl) (WL.nil ?_)
        refine CW.seq (CW.reg ?_)
        refine WL.lit0H (α := Slot) rfl rfl rfl el40 sz50 H fun A5 n5 c5 w10 H => ?_
        refine WL.ev rfl rfl (Ev.as rfl rfl) (WL.nil ?_)
        refine CW.seq (CW.seq (CW.reg ?_))
        refine WL.ev rfl rfl (Ev.as rfl rfl) (WL.nil ?_)
        obtain ⟨q1, hq1, hr⟩ := bd hr
        refine CW.block (CW.loop (α := Nat × (List Slot) × (List Slot) × Value × Value) (fun ⟨k1, s1, s2, v1, v2⟩ => [(0, .slice A0' n0' c0'), (3, .pointer (some ⟨b1, 0, none⟩)), (4, .slice A2 n2 c2), (5, .bool y4), (6, .slice A3 n3 c3), (7, v1), (8, v2), (9, .int .i64 (k1 : Int))]) (fun ⟨k1, s1, s2, v1, v2⟩ w => k1 ≤ y8.length ∧ eachL (wFnMonotone_L1 a0 y3) k1 (y8.drop k1) (s1, s2) = some q1 ∧ HL F0 [] w0 w [Pr.S a0 (.slice A0' n0' c0'), Pr.S y3 (.slice A2 n2 c2), Pr.S y2.Args (.slice A1 n1 c1), Pr.S y8 (.slice A3 n3 c3)] [It.emp, It.B b1 31 [.int .i64 y2.Kind, .int .i64 y2.N, .int .i64 y2.Pos, .int .i64 y2.Type_, .string y2.Symbol, .string y2.Name, .slice A1 n1 c1], It.O 50 s1 v1, It.O 50 s2 v2]) (fun ⟨k1, s1, s2, v1, v2⟩ => y8.length - k1) ⟨0, ([] : List Slot), ([] : List Slot), (.slice A4 n4 c4), (.slice A5 n5 c5)⟩ ⟨rfl, rfl, rfl, rfl, rfl, rfl, rfl, rfl, trivial⟩ ⟨Nat.zero_le _, hq1, H.keep 4 4⟩ ?_)
        rintro ⟨k1, s1, s2, v1, v2⟩ σ w11 ⟨hk1, hq1, H⟩
        obtain ⟨A6, n6, c6, rfl⟩ := (H.rO (i := 2) rfl).form3
        obtain ⟨A7, n7, c7, rfl⟩ := (H.rO (i := 3) rfl).form3
        refine CW.seq (CW.seq (CW.reg ?_))
        refine WL.ev rfl rfl (Ev.mv rfl rfl) (WL.ev rfl rfl (Ev.mv rfl rfl) ?_)
        have hl1 := (H.rS (i := 3) rfl).I
        refine WL.ev rfl rfl (Ev.lenV rfl el33 rfl (H.rS (i := 3) rfl)) (WL.ev rfl rfl (Ev.bin rfl rfl rfl Bin.lss) (WL.nil ?_))
        refine CW.condD rfl (fun h4 => ?_) (fun h4 => ?_)
        · skip
          have hk2 := cast_lt h4
          obtain ⟨x1, z1, hx1, hb1, hq1⟩ := eachL_go hq1 hk2
          refine CW.skip ?_
          obtain ⟨q2, hm1, hb1⟩ := bd hb1
          refine CW.seq (CW.mid (fun ρ' w => ∃ (s3 : List Slot) (s4 : List Slot) (v3 : Value) (v4 : Value), q2 = (s3, s4) ∧ agree ρ' [(0, .slice A0' n0' c0'), (3, .pointer (some ⟨b1, 0, none⟩)), (4, .slice A2 n2 c2), (5, .bool y4), (6, .slice A3 n3 c3), (7, v3), (8, v4), (9, .int .i64 (k1 : Int))] ∧ HL F0 [] w0 w [Pr.S a0 (.slice A0' n0' c0'), Pr.S y3 (.slice A2 n2 c2), Pr.S y2.Args (.slice A1 n1 c1), Pr.S y8 (.slice A3 n3 c3)] [It.emp, It.B b1 31 [.int .i64 y2.Kind, .int .i64 y2.N, .int .i64 y2.Pos, .int .i64 y2.Type_, .string y2.Symbol, .string y2.Name, .slice A1 n1 c1], It.O 50 s3 v3, It.O 50 s4 v4]) ?_ ?_)
          · skip
            refine CW.block (CW.seq (CW.reg ?_))
            refine WL.ev rfl rfl (Ev.mv rfl rfl) (WL.ev rfl rfl (Ev.mv rfl rfl) ?_)
            obtain ⟨y9, hy8, hm1⟩ := bd hm1
            refine WL.call rfl rfl rfl rfl rfl ok34 rfl (wat0_ok hy8 (H.rS (i := 0) rfl) (i64_nat hk2 hl1)) ?_
            rintro _ w12 hE ⟨rfl, hI5⟩
            have H := H.ext hE
            obtain ⟨hg1, hm1⟩ := grd_some hm1
            refine WL.ev rfl rfl (Ev.bin rfl rfl rfl (Bin.mul hg1)) (WL.ev rfl rfl (Ev.bin rfl rfl rfl (Bin.remI (by decide))) (WL.ev rfl rfl (Ev.as rfl rfl) (WL.nil ?_)))
            refine CW.seq (CW.reg ?_)
            refine WL.ev rfl rfl (Ev.mv rfl rfl) (WL.ev rfl rfl (Ev.as rfl rfl) (WL.nil ?_))
            refine CW.seq (CW.seq (CW.reg ?_))
            refine WL.ev rfl rfl (Ev.mv rfl rfl) (WL.ev rfl rfl (Ev.mv rfl rfl) (WL.ev rfl rfl (Ev.mv rfl rfl) ?_))
            obtain ⟨b2, ob2, cb2, hvb2, hI6, hS3, H⟩ := ixS_Occurrence H (i := 3) rfl hx1
            refine WL.ev rfl rfl (Ev.ixVN rfl el33 sz48 rfl hvb2 rfl (lt_of hx1)) (WL.ev rfl rfl (Ev.lda rfl ag48 sz48 rfl (H.rA (i := 4) rfl) rfl) ?_)
            obtain ⟨y10, hy9, hm1⟩ := bd hm1
            refine WL.call rfl rfl rfl rfl rfl ok26 rfl (whasOccurrence_ok hy9 (H.rS (i := 1) rfl) ⟨rfl, hI6, hS3⟩) ?_
            rintro _ w13 hE rfl
            have H := H.ext hE
            refine WL.nil ?_
            refine CW.condB rfl (fun h5 => ?_) (fun h5 => ?_)
            · skip
              have hm1 := ifp h5 hm1
              refine CW.reg ?_
              refine WL.ev rfl rfl (Ev.mv rfl rfl) (WL.ev rfl rfl (Ev.mv rfl rfl) (WL.ev rfl rfl (Ev.mv rfl rfl) (WL.ev rfl rfl (Ev.bin rfl rfl rfl (Bin.addN (a := k1) (b := 1) rfl (i64_succN hk2 hl1.2))) ?_)))
              obtain ⟨y11, hy10, hm1⟩ := bd hm1
              refine WL.call rfl rfl rfl rfl rfl ok34 rfl (wat0_ok hy10 (H.rS (i := 0) rfl) (i64_succN hk2 hl1.2)) ?_
              rintro _ w14 hE ⟨rfl, hI7⟩
              have H := H.ext hE
              obtain ⟨hg2, hm1⟩ := grd_some hm1
              refine WL.ev rfl rfl (Ev.bin rfl rfl rfl (Bin.orI hg2.1 (i64_rem hg1).2 hg2.2 hI7.2)) (WL.ev rfl rfl (Ev.as rfl rfl) (WL.nil ?_))
              refine CW.seq ?_
              refine CW.fresh [(0, .slice A0' n0' c0'), (3, .pointer (some ⟨b1, 0, none⟩)), (4, .slice A2 n2 c2), (5, .bool y4), (6, .slice A3 n3 c3), (7, .slice A6 n6 c6), (8, .slice A7 n7 c7), (9, .int .i64 (k1 : Int)), (10, .int .i64 ((y9 * 16).tmod 4096)), (11, .int .i64 ((((y9 * 16).tmod 4096).toNat ||| y11.toNat : Nat) : Int))] ⟨rfl, rfl, rfl, rfl, rfl, rfl, rfl, rfl, rfl, rfl, trivial⟩ fun σ => ?_
              have H : HL F0 [] w0 w14 [Pr.S a0 (.slice A0' n0' c0'), Pr.S y3 (.slice A2 n2 c2), Pr.S y2.Args (.slice A1 n1 c1), Pr.S y8 (.slice A3 n3 c3), Pr.A b2 (ob2 + k1 * 2) [.int .i64 x1.Pos, .string x1.Name], Pr.R x1 [.int .i64 x1.Pos, .string x1.Name]] [It.emp, It.B b1 31 [.int .i64 y2.Kind, .int .i64 y2.N, .int .i64 y2.Pos, .int .i64 y2.Type_, .string y2.Symbol, .string y2.Name, .slice A1 n1 c1], It.O 50 s1 (.slice A6 n6 c6), It.O 50 s2 (.slice A7 n7 c7)] := H
              refine CW.reg ?_
              refine WL.ev rfl rfl (Ev.mv rfl rfl) (WL.ev rfl rfl (Ev.mv rfl rfl) (WL.ev rfl rfl (Ev.mv rfl rfl) (WL.ev rfl rfl (Ev.ixVN rfl el33 sz48 rfl hvb2 rfl (lt_of hx1)) (WL.ev rfl rfl (Ev.lda rfl ag48 sz48 rfl (H.rA (i := 4) rfl) rfl) (WL.ev rfl rfl (Ev.mv rfl rfl) (WL.ev rfl rfl (Ev.build rfl pl50 ze50 rfl rfl rfl rfl) ?_))))))
              refine WL.lit1 rfl rfl rfl el40 sz50 ze50 rfl rfl rfl rfl rfl rfl fun b3 w15 hE hb hB => ?_
              have H := H.newB hE hb hB
              obtain ⟨hg3, hm1⟩ := grd_some hm1
              refine WL.appO (i := 2) (ys := [(⟨x1, ((y9 * 16).tmod 4096)⟩ : Slot)]) rfl rfl rfl el40 sz50 by50 ze50 rfl rfl rfl H rfl (fun _ => ownL.single ⟨rfl, hI6, hS3, (i64_rem hg1), rfl⟩) (.inr ⟨_, _, rfl, At.blk (H.rB (i := 4) rfl)⟩) hg3 fun A8 n8 c8 w16 H => ?_
              refine WL.ev rfl rfl (Ev.as rfl rfl) (WL.nil ?_)
              refine CW.reg ?_
              refine WL.ev rfl rfl (Ev.mv rfl rfl) (WL.ev rfl rfl (Ev.mv rfl rfl) (WL.ev rfl rfl (Ev.mv rfl rfl) (WL.ev rfl rfl (Ev.ixVN rfl el33 sz48 rfl hvb2 rfl (lt_of hx1)) (WL.ev rfl rfl (Ev.lda rfl ag48 sz48 rfl (H.rA (i := 4) rfl) rfl) (WL.ev rfl rfl (Ev.mv rfl rfl) (WL.ev rfl rfl (Ev.build rfl pl50 ze50 rfl rfl rfl rfl) ?_))))))
              refine WL.lit1 rfl rfl rfl el40 sz50 ze50 rfl rfl rfl rfl rfl rfl fun b4 w17 hE hb hB => ?_
              have H := H.newB hE hb hB
              obtain ⟨hg4, hm1⟩ := grd_some hm1
              refine WL.appO (i := 3) (ys := [(⟨x1, ((((y9 * 16).tmod 4096).toNat ||| y11.toNat : Nat) : Int)⟩ : Slot)]) rfl rfl rfl el40 sz50 by50 ze50 rfl rfl rfl H rfl (fun _ => ownL.single ⟨rfl, hI6, hS3, (i64_or hg2 (i64_rem hg1) hI7), rfl⟩) (.inr ⟨_, _, rfl, At.blk (H.rB (i := 5) rfl)⟩) hg4 fun A9 n9 c9 w18 H => ?_
              refine WL.ev rfl rfl (Ev.as rfl rfl) (WL.nil ?_)
              obtain rfl := sm hm1
              exact ⟨(s1 ++ [(⟨x1, ((y9 * 16).tmod 4096)⟩ : Slot)]), (s2 ++ [(⟨x1, ((((y9 * 16).tmod 4096).toNat ||| y11.toNat : Nat) : Int)⟩ : Slot)]), _, _, rfl, ⟨rfl, rfl, rfl, rfl, rfl, rfl, rfl, rfl, trivial⟩, H.keep 4 4⟩
            · skip
              have hm1 := ifn h5 hm1
              refine CW.skip ?_
              refine CW.seq (CW.reg ?_)
              refine WL.ev rfl rfl (Ev.mv rfl rfl) (WL.ev rfl rfl (Ev.mv rfl rfl) (WL.ev rfl rfl (Ev.mv rfl rfl) (WL.ev rfl rfl (Ev.ixVN rfl el33 sz48 rfl hvb2 rfl (lt_of hx1)) (WL.ev rfl rfl (Ev.lda rfl ag48 sz48 rfl (H.rA (i := 4) rfl) rfl) (WL.ev rfl rfl (Ev.mv rfl rfl) (WL.ev rfl rfl (Ev.build rfl pl50 ze50 rfl rfl rfl rfl) ?_))))))
              refine WL.lit1 rfl rfl rfl el40 sz50 ze50 rfl rfl rfl rfl rfl rfl fun b5 w19 hE hb hB => ?_
              have H := H.newB hE hb hB
              obtain ⟨hg5, hm1⟩ := grd_some hm1
              refine WL.appO (i := 2) (ys := [(⟨x1, ((y9 * 16).tmod 4096)⟩ : Slot)]) rfl rfl rfl el40 sz50 by50 ze50 rfl rfl rfl H rfl (fun _ => ownL.single ⟨rfl, hI6, hS3, (i64_rem hg1), rfl⟩) (.inr ⟨_, _, rfl, At.blk (H.rB (i := 4) rfl)⟩) hg5 fun A10 n10 c10 w20 H => ?_
              refine WL.ev rfl rfl (Ev.as rfl rfl) (WL.nil ?_)
              refine CW.fresh [(0, .slice A0' n0' c0'), (3, .pointer (some ⟨b1, 0, none⟩)), (4, .slice A2 n2 c2), (5, .bool y4), (6, .slice A3 n3 c3), (7, .slice A10 n10 c10), (8, .slice A7 n7 c7), (9, .int .i64 (k1 : Int)), (11, .int .i64 ((y9 * 16).tmod 4096))] ⟨rfl, rfl, rfl, rfl, rfl, rfl, rfl, rfl, rfl, trivial⟩ fun σ => ?_
              have H : HL F0 [] w0 w20 [Pr.S a0 (.slice A0' n0' c0'), Pr.S y3 (.slice A2 n2 c2), Pr.S y2.Args (.slice A1 n1 c1), Pr.S y8 (.slice A3 n3 c3), Pr.A b2 (ob2 + k1 * 2) [.int .i64 x1.Pos, .string x1.Name], Pr.R x1 [.int .i64 x1.Pos, .string x1.Name]] [It.emp, It.B b1 31 [.int .i64 y2.Kind, .int .i64 y2.N, .int .i64 y2.Pos, .int .i64 y2.Type_, .string y2.Symbol, .string y2.Name, .slice A1 n1 c1], It.O 50 (s1 ++ [(⟨x1, ((y9 * 16).tmod 4096)⟩ : Slot)]) (.slice A10 n10 c10), It.O 50 s2 (.slice A7 n7 c7), It.B b5 50 [.int .i64 x1.Pos, .string x1.Name, .int .i64 ((y9 * 16).tmod 4096)]] := H
              refine CW.reg ?_
              refine WL.ev rfl rfl (Ev.mv rfl rfl) (WL.ev rfl rfl (Ev.mv rfl rfl) (WL.ev rfl rfl (Ev.mv rfl rfl) (WL.ev rfl rfl (Ev.ixVN rfl el33 sz48 rfl hvb2 rfl (lt_of hx1)) (WL.ev rfl rfl (Ev.lda rfl ag48 sz48 rfl (H.rA (i := 4) rfl) rfl) (WL.ev rfl rfl (Ev.mv rfl rfl) (WL.ev rfl rfl (Ev.build rfl pl50 ze50 rfl rfl rfl rfl) ?_))))))
              refine WL.lit1 rfl rfl rfl el40 sz50 ze50 rfl rfl rfl rfl rfl rfl fun b6 w21 hE hb hB => ?_
              have H := H.newB hE hb hB
              obtain ⟨hg6, hm1⟩ := grd_some hm1
              refine WL.appO (i := 3) (ys := [(⟨x1, ((y9 * 16).tmod 4096)⟩ : Slot)]) rfl rfl rfl el40 sz50 by50 ze50 rfl rfl rfl H rfl (fun _ => ownL.single ⟨rfl, hI6, hS3, (i64_rem hg1), rfl⟩) (.inr ⟨_, _, rfl, At.blk (H.rB (i := 5) rfl)⟩) hg6 fun A11 n11 c11 w22 H => ?_
              refine WL.ev rfl rfl (Ev.as rfl rfl) (WL.nil ?_)
              obtain rfl := sm hm1
              exact ⟨(s1 ++ [(⟨x1, ((y9 * 16).tmod 4096)⟩ : Slot)]), (s2 ++ [(⟨x1, ((y9 * 16).tmod 4096)⟩ : Slot)]), _, _, rfl, ⟨rfl, rfl, rfl, rfl, rfl, rfl, rfl, rfl, trivial⟩, H.keep 4 4⟩
          · rintro ρ' w23 ⟨s3, s4, v3, v4, rfl, hag, H⟩
            obtain ⟨σ, rfl⟩ := ofL_ex hag
            obtain ⟨A12, n12, c12, rfl⟩ := (H.rO (i := 2) rfl).form3
            obtain ⟨A13, n13, c13, rfl⟩ := (H.rO (i := 3) rfl).form3
            refine CW.reg ?_
            refine WL.ev rfl rfl (Ev.mv rfl rfl) (WL.ev rfl rfl (Ev.bin rfl rfl rfl (Bin.addN (a := k1) (b := 1) rfl (i64_succN hk2 hl1.2))) (WL.ev rfl rfl (Ev.as rfl rfl) (WL.nil ?_)))
            obtain rfl := sm hb1
            exact ⟨⟨k1 + 1, s3, s4, (.slice A12 n12 c12), (.slice A13 n13 c13)⟩, ⟨rfl, rfl, rfl, rfl, rfl, rfl, rfl, rfl, trivial⟩, ⟨hk2, hq1, H.keep 4 4⟩, Nat.sub_lt_sub_left hk2 (Nat.lt_succ_self _)⟩
        · skip
          obtain rfl := eachL_end hq1 (not_cast_lt h4)
          refine CW.exit ?_
          refine CW.seq (CW.reg ?_)
          refine WL.ev rfl rfl (Ev.lda rfl ag31 sz31 rfl (At.blk (H.rB (i := 1) rfl)) rfl) (WL.ev rfl rfl (Ev.mv rfl rfl) ?_)
          refine WL.litN (xs := ([1] : List Int)) rfl rfl rfl el41 sz3 ze3 rfl (ball1 rfl ball0) rfl rfl rfl (fun _ => (ownL.cons1 (α := Int) ⟨rfl, rfl, (by decide : I64 1)⟩ ⟨rfl, rfl⟩)) rfl H fun A14 n14 c14 w24 H => ?_
          obtain ⟨y12, hy11, hr⟩ := bd hr
          refine WL.call rfl rfl rfl rfl rfl ok24 rfl (sEvalLocal_ok hy11 (Expr_rd.2 ⟨_, rfl, hI1, hI2, hI3, hI4, hS1, hS2, (H.rS (i := 2) rfl)⟩) (H.rO (i := 2) rfl) (by decide : I64 3) (H.rO (i := 4) rfl)) ?_
          rintro _ w25 hE ⟨rfl, hI8⟩
          have H := H.ext hE
          refine WL.ev rfl rfl (Ev.as rfl rfl) (WL.nil ?_)
          refine CW.seq (CW.reg ?_)
          refine WL.ev rfl rfl (Ev.lda rfl ag31 sz31 rfl (At.blk (H.rB (i := 1) rfl)) rfl) (WL.ev rfl rfl (Ev.mv rfl rfl) ?_)
          refine WL.litN (xs := ([1] : List Int)) rfl rfl rfl el41 sz3 ze3 rfl (ball1 rfl ball0) rfl rfl rfl (fun _ => (ownL.cons1 (α := Int) ⟨rfl, rfl, (by decide : I64 1)⟩ ⟨rfl, rfl⟩)) rfl H fun A15 n15 c15 w26 H => ?_
          obtain ⟨y13, hy12, hr⟩ := bd hr
          refine WL.call rfl rfl rfl rfl rfl ok24 rfl (sEvalLocal_ok hy12 (Expr_rd.2 ⟨_, rfl, hI1, hI2, hI3, hI4, hS1, hS2, (H.rS (i := 2) rfl)⟩) (H.rO (i := 3) rfl) (by decide : I64 3) (H.rO (i := 5) rfl)) ?_
          rintro _ w27 hE ⟨rfl, hI9⟩
          have H := H.ext hE
          refine WL.ev rfl rfl (Ev.as rfl rfl) (WL.nil ?_)
          refine CW.seq (CW.reg ?_)
          refine WL.ev rfl rfl (Ev.fa rfl fo31_0 rfl) (WL.ev rfl rfl (Ev.ld rfl ag3 rfl ((H.rB (i := 1) rfl).cell rfl)) (WL.ev rfl rfl (Ev.bin rfl rfl rfl Bin.neq) ?_))
          obtain ⟨q3, hm2, hr⟩ := bd hr
          refine WL.cut 10 (fun ρ' w => ∃ (s5 : Bool), s5 = q3 ∧ agree ρ' [(3, .pointer (some ⟨b1, 0, none⟩)), (4, .slice A2 n2 c2), (5, .bool y4), (12, .int .i64 y12), (13, .int .i64 y13), (105, .bool s5)] ∧ HL F0 [] w0 w [Pr.S a0 (.slice A0' n0' c0'), Pr.S y3 (.slice A2 n2 c2), Pr.S y2.Args (.slice A1 n1 c1), Pr.S y8 (.slice A3 n3 c3)] [It.emp, It.B b1 31 [.int .i64 y2.Kind, .int .i64 y2.N, .int .i64 y2.Pos, .int .i64 y2.Type_, .string y2.Symbol, .string y2.Name, .slice A1 n1 c1], It.O 50 s1 (.slice A6 n6 c6), It.O 50 s2 (.slice A7 n7 c7), It.O 3 ([1] : List Int) (.slice A14 n14 c14), It.O 3 ([1] : List Int) (.slice A15 n15 c15)]) ?_ ?_
          · skip
            refine WL.mvN rfl rfl rfl rfl (fun h6 => ?_) (fun h6 => ?_)
            · skip
              have hm2 := ifn h6 hm2
              refine WL.off rfl rfl rfl (WL.off rfl rfl rfl (WL.off rfl rfl rfl (WL.off rfl rfl rfl (WL.off rfl rfl rfl (WL.off rfl rfl rfl (WL.off rfl rfl rfl (WL.off rfl rfl rfl (WL.ev rfl rfl (Ev.pickT rfl rfl rfl) (WL.nil ?_)))))))))
              obtain rfl := sm hm2
              exact ⟨true, rfl, ⟨rfl, rfl, rfl, rfl, rfl, rfl, trivial⟩, H.keep 4 6⟩
            · skip
              have hm2 := ifp h6 hm2
              refine WL.on rfl rfl (WL.ev rfl rfl (Ev.fa rfl fo31_1 rfl) (WL.on rfl rfl (WL.ev rfl rfl (Ev.ld rfl ag3 rfl ((H.rB (i := 1) rfl).cell rfl)) (WL.on rfl rfl (WL.ev rfl rfl (Ev.bin rfl rfl rfl Bin.geq) (WL.on rfl rfl ?_))))))
              obtain ⟨q4, hm3, hm2⟩ := bd hm2
              refine WL.cut 5 (fun ρ' w => ∃ (s6 : Bool), s6 = q4 ∧ agree ρ' [(3, .pointer (some ⟨b1, 0, none⟩)), (4, .slice A2 n2 c2), (5, .bool y4), (12, .int .i64 y12), (13, .int .i64 y13), (96, .bool false), (104, .bool s6)] ∧ HL F0 [] w0 w [Pr.S a0 (.slice A0' n0' c0'), Pr.S y3 (.slice A2 n2 c2), Pr.S y2.Args (.slice A1 n1 c1), Pr.S y8 (.slice A3 n3 c3)] [It.emp, It.B b1 31 [.int .i64 y2.Kind, .int .i64 y2.N, .int .i64 y2.Pos, .int .i64 y2.Type_, .string y2.Symbol, .string y2.Name, .slice A1 n1 c1], It.O 50 s1 (.slice A6 n6 c6), It.O 50 s2 (.slice A7 n7 c7), It.O 3 ([1] : List Int) (.slice A14 n14 c14), It.O 3 ([1] : List Int) (.slice A15 n15 c15)]) ?_ ?_
              · skip
                refine WL.on rfl rfl ?_
                refine WL.mvD rfl rfl rfl rfl (fun h7 => ?_) (fun h7 => ?_)
                · skip
                  have hm3 := ifp h7 hm3
                  refine WL.on rfl rfl (WL.ev rfl rfl (Ev.fa rfl fo31_1 rfl) (WL.on rfl rfl (WL.ev rfl rfl (Ev.ld rfl ag3 rfl ((H.rB (i := 1) rfl).cell rfl)) (WL.on rfl rfl (WL.ev rfl rfl (Ev.bin rfl rfl rfl Bin.leq) (WL.on rfl rfl (WL.ev rfl rfl (Ev.pickT rfl rfl rfl) (WL.nil ?_))))))))
                  obtain rfl := sm hm3
                  exact ⟨(decide (y2.N ≤ 8)), rfl, ⟨rfl, rfl, rfl, rfl, rfl, rfl, rfl, trivial⟩, H.keep 4 6⟩
                · skip
                  have hm3 := ifn h7 hm3
                  refine WL.off rfl rfl rfl (WL.off rfl rfl rfl (WL.off rfl rfl rfl (WL.on rfl rfl (WL.ev rfl rfl (Ev.pickF rfl rfl rfl) (WL.nil ?_)))))
                  obtain rfl := sm hm3
                  exact ⟨false, rfl, ⟨rfl, rfl, rfl, rfl, rfl, rfl, rfl, trivial⟩, H.keep 4 6⟩
              · rintro ρ' w28 ⟨s6, rfl, hag, H⟩
                obtain ⟨σ, rfl⟩ := ofL_ex hag
                refine WL.ev rfl rfl (Ev.pickF rfl rfl rfl) (WL.nil ?_)
                obtain rfl := sm hm2
                exact ⟨s6, rfl, ⟨rfl, rfl, rfl, rfl, rfl, rfl, trivial⟩, H.keep 4 6⟩
          · rintro ρ' w29 ⟨s5, rfl, hag, H⟩
            obtain ⟨σ, rfl⟩ := ofL_ex hag
            obtain ⟨q5, hm4, hr⟩ := bd hr
            refine WL.cut 5 (fun ρ' w => ∃ (s7 : Bool), s7 = q5 ∧ agree ρ' [(3, .pointer (some ⟨b1, 0, none⟩)), (4, .slice A2 n2 c2), (5, .bool y4), (12, .int .i64 y12), (13, .int .i64 y13), (110, .bool s7)] ∧ HL F0 [] w0 w [Pr.S a0 (.slice A0' n0' c0'), Pr.S y3 (.slice A2 n2 c2), Pr.S y2.Args (.slice A1 n1 c1), Pr.S y8 (.slice A3 n3 c3)] [It.emp, It.B b1 31 [.int .i64 y2.Kind, .int .i64 y2.N, .int .i64 y2.Pos, .int .i64 y2.Type_, .string y2.Symbol, .string y2.Name, .slice A1 n1 c1], It.O 50 s1 (.slice A6 n6 c6), It.O 50 s2 (.slice A7 n7 c7), It.O 3 ([1] : List Int) (.slice A14 n14 c14), It.O 3 ([1] : List Int) (.slice A15 n15 c15)]) ?_ ?_
            · skip
              refine WL.mvB rfl rfl rfl rfl (fun h8 => ?_) (fun h8 => ?_)
              · skip
                have hm4 := ifp h8 hm4
                refine WL.off rfl rfl rfl (WL.off rfl rfl rfl (WL.off rfl rfl rfl (WL.ev rfl rfl (Ev.pickT rfl rfl rfl) (WL.nil ?_))))
                obtain rfl := sm hm4
                exact ⟨true, rfl, ⟨rfl, rfl, rfl, rfl, rfl, rfl, trivial⟩, H.keep 4 6⟩
              · skip
                have hm4 := ifn h8 hm4
                refine WL.on rfl rfl (WL.ev rfl rfl (Ev.fa rfl fo31_1 rfl) (WL.on rfl rfl (WL.ev rfl rfl (Ev.ld rfl ag3 rfl ((H.rB (i := 1) rfl).cell rfl)) (WL.on rfl rfl (WL.ev rfl rfl (Ev.bin rfl rfl rfl Bin.eql) (WL.ev rfl rfl (Ev.pickF rfl rfl rfl) (WL.nil ?_)))))))
                obtain rfl := sm hm4
                exact ⟨(decide (y2.N = 12)), rfl, ⟨rfl, rfl, rfl, rfl, rfl, rfl, trivial⟩, H.keep 4 6⟩
            · rintro ρ' w30 ⟨s7, rfl, hag, H⟩
              obtain ⟨σ, rfl⟩ := ofL_ex hag
              refine WL.ev rfl rfl (Ev.as rfl rfl) (WL.nil ?_)
              refine CW.seq (CW.reg ?_)
              refine WL.ev rfl rfl (Ev.mv rfl rfl) (WL.ev rfl rfl (Ev.not rfl rfl) ?_)
              obtain ⟨q6, hm5, hr⟩ := bd hr
              refine WL.cut 4 (fun ρ' w => ∃ (s8 : Bool), s8 = q6 ∧ agree ρ' [(3, .pointer (some ⟨b1, 0, none⟩)), (4, .slice A2 n2 c2), (12, .int .i64 y12), (13, .int .i64 y13), (116, .bool s8)] ∧ HL F0 [] w0 w [Pr.S a0 (.slice A0' n0' c0'), Pr.S y3 (.slice A2 n2 c2), Pr.S y2.Args (.slice A1 n1 c1), Pr.S y8 (.slice A3 n3 c3)] [It.emp, It.B b1 31 [.int .i64 y2.Kind, .int .i64 y2.N, .int .i64 y2.Pos, .int .i64 y2.Type_, .string y2.Symbol, .string y2.Name, .slice A1 n1 c1], It.O 50 s1 (.slice A6 n6 c6), It.O 50 s2 (.slice A7 n7 c7), It.O 3 ([1] : List Int) (.slice A14 n14 c14), It.O 3 ([1] : List Int) (.slice A15 n15 c15)]) ?_ ?_
              · skip
                refine WL.mvBN rfl rfl rfl rfl (fun h9 => ?_) (fun h9 => ?_)
                · skip
                  have hm5 := ifn h9 hm5
                  refine WL.off rfl rfl rfl (WL.off rfl rfl rfl (WL.ev rfl rfl (Ev.pickT rfl rfl rfl) (WL.nil ?_)))
                  obtain rfl := sm hm5
                  exact ⟨true, rfl, ⟨rfl, rfl, rfl, rfl, rfl, trivial⟩, H.keep 4 6⟩
                · skip
                  have hm5 := ifp h9 hm5
                  refine WL.on rfl rfl (WL.ev rfl rfl (Ev.mv rfl rfl) (WL.on rfl rfl (WL.ev rfl rfl (Ev.not rfl rfl) (WL.ev rfl rfl (Ev.pickF rfl rfl rfl) (WL.nil ?_)))))
                  obtain rfl := sm hm5
                  exact ⟨(!s7), rfl, ⟨rfl, rfl, rfl, rfl, rfl, trivial⟩, H.keep 4 6⟩
              · rintro ρ' w31 ⟨s8, rfl, hag, H⟩
                obtain ⟨σ, rfl⟩ := ofL_ex hag
                obtain ⟨q7, hm6, hr⟩ := bd hr
                refine WL.cut 6 (fun ρ' w => ∃ (s9 : Bool), s9 = q7 ∧ agree ρ' [(3, .pointer (some ⟨b1, 0, none⟩)), (12, .int .i64 y12), (13, .int .i64 y13), (122, .bool s9)] ∧ HL F0 [] w0 w [Pr.S a0 (.slice A0' n0' c0'), Pr.S y3 (.slice A2 n2 c2), Pr.S y2.Args (.slice A1 n1 c1), Pr.S y8 (.slice A3 n3 c3)] [It.emp, It.B b1 31 [.int .i64 y2.Kind, .int .i64 y2.N, .int .i64 y2.Pos, .int .i64 y2.Type_, .string y2.Symbol, .string y2.Name, .slice A1 n1 c1], It.O 50 s1 (.slice A6 n6 c6), It.O 50 s2 (.slice A7 n7 c7), It.O 3 ([1] : List Int) (.slice A14 n14 c14), It.O 3 ([1] : List Int) (.slice A15 n15 c15)]) ?_ ?_
                · skip
                  refine WL.mvB rfl rfl rfl rfl (fun h10 => ?_) (fun h10 => ?_)
                  · skip
                    have hm6 := ifp h10 hm6
                    refine WL.off rfl rfl rfl (WL.off rfl rfl rfl (WL.off rfl rfl rfl (WL.off rfl rfl rfl (WL.ev rfl rfl (Ev.pickT rfl rfl rfl) (WL.nil ?_)))))
                    obtain rfl := sm hm6
                    exact ⟨true, rfl, ⟨rfl, rfl, rfl, rfl, trivial⟩, H.keep 4 6⟩
                  · skip
                    have hm6 := ifn h10 hm6
                    refine WL.on rfl rfl (WL.ev rfl rfl (Ev.lda rfl ag31 sz31 rfl (At.blk (H.rB (i := 1) rfl)) rfl) (WL.on rfl rfl (WL.ev rfl rfl (Ev.mv rfl rfl) (WL.on rfl rfl ?_))))
                    obtain ⟨y14, hy13, hm6⟩ := bd hm6
                    refine WL.call rfl rfl rfl rfl rfl ok16 rfl (iUsesAny_ok hy13 (Expr_rd.2 ⟨_, rfl, hI1, hI2, hI3, hI4, hS1, hS2, (H.rS (i := 2) rfl)⟩) (H.rS (i := 1) rfl)) ?_
                    rintro _ w32 hE rfl
                    have H := H.ext hE
                    refine WL.on rfl rfl (WL.ev rfl rfl (Ev.not rfl rfl) (WL.ev rfl rfl (Ev.pickF rfl rfl rfl) (WL.nil ?_)))
                    obtain rfl := sm hm6
                    exact ⟨(!y14), rfl, ⟨rfl, rfl, rfl, rfl, trivial⟩, H.keep 4 6⟩
                · rintro ρ' w33 ⟨s9, rfl, hag, H⟩
                  obtain ⟨σ, rfl⟩ := ofL_ex hag
                  obtain ⟨q8, hm7, hr⟩ := bd hr
                  refine WL.cut 5 (fun ρ' w => ∃ (s10 : Bool), s10 = q8 ∧ agree ρ' [(12, .int .i64 y12), (13, .int .i64 y13), (127, .bool s10)] ∧ HL F0 [] w0 w [Pr.S a0 (.slice A0' n0' c0'), Pr.S y3 (.slice A2 n2 c2), Pr.S y2.Args (.slice A1 n1 c1), Pr.S y8 (.slice A3 n3 c3)] [It.emp, It.B b1 31 [.int .i64 y2.Kind, .int .i64 y2.N, .int .i64 y2.Pos, .int .i64 y2.Type_, .string y2.Symbol, .string y2.Name, .slice A1 n1 c1], It.O 50 s1 (.slice A6 n6 c6), It.O 50 s2 (.slice A7 n7 c7), It.O 3 ([1] : List Int) (.slice A14 n14 c14), It.O 3 ([1] : List Int) (.slice A15 n15 c15)]) ?_ ?_
                  · skip
                    refine WL.mvB rfl rfl rfl rfl (fun h11 => ?_) (fun h11 => ?_)
                    · skip
                      have hm7 := ifp h11 hm7
                      refine WL.off rfl rfl rfl (WL.off rfl rfl rfl (WL.off rfl rfl rfl (WL.ev rfl rfl (Ev.pickT rfl rfl rfl) (WL.nil ?_))))
                      obtain rfl := sm hm7
                      exact ⟨true, rfl, ⟨rfl, rfl, rfl, trivial⟩, H.keep 4 6⟩
                    · skip
                      have hm7 := ifn h11 hm7
                      refine WL.on rfl rfl (WL.ev rfl rfl (Ev.fa rfl fo31_0 rfl) (WL.on rfl rfl (WL.ev rfl rfl (Ev.ld rfl ag3 rfl ((H.rB (i := 1) rfl).cell rfl)) (WL.on rfl rfl (WL.ev rfl rfl (Ev.bin rfl rfl rfl Bin.eql) (WL.ev rfl rfl (Ev.pickF rfl rfl rfl) (WL.nil ?_)))))))
                      obtain rfl := sm hm7
                      exact ⟨(decide (y2.Kind = 5)), rfl, ⟨rfl, rfl, rfl, trivial⟩, H.keep 4 6⟩
                  · rintro ρ' w34 ⟨s10, rfl, hag, H⟩
                    obtain ⟨σ, rfl⟩ := ofL_ex hag
                    obtain ⟨q9, hm8, hr⟩ := bd hr
                    refine WL.cut 6 (fun ρ' w => ∃ (s11 : Bool), s11 = q9 ∧ agree ρ' [(133, .bool s11)] ∧ HL F0 [] w0 w [Pr.S a0 (.slice A0' n0' c0'), Pr.S y3 (.slice A2 n2 c2), Pr.S y2.Args (.slice A1 n1 c1), Pr.S y8 (.slice A3 n3 c3)] [It.emp, It.B b1 31 [.int .i64 y2.Kind, .int .i64 y2.N, .int .i64 y2.Pos, .int .i64 y2.Type_, .string y2.Symbol, .string y2.Name, .slice A1 n1 c1], It.O 50 s1 (.slice A6 n6 c6), It.O 50 s2 (.slice A7 n7 c7), It.O 3 ([1] : List Int) (.slice A14 n14 c14), It.O 3 ([1] : List Int) (.slice A15 n15 c15)]) ?_ ?_
                    · skip
                      refine WL.mvB rfl rfl rfl rfl (fun h12 => ?_) (fun h12 => ?_)
                      · skip
                        have hm8 := ifp h12 hm8
                        refine WL.off rfl rfl rfl (WL.off rfl rfl rfl (WL.off rfl rfl rfl (WL.off rfl rfl rfl (WL.ev rfl rfl (Ev.pickT rfl rfl rfl) (WL.nil ?_)))))
                        obtain rfl := sm hm8
                        exact ⟨true, rfl, ⟨rfl, trivial⟩, H.keep 4 6⟩
                      · skip
                        have hm8 := ifn h12 hm8
                        refine WL.on rfl rfl (WL.ev rfl rfl (Ev.mv rfl rfl) (WL.on rfl rfl (WL.ev rfl rfl (Ev.mv rfl rfl) (WL.on rfl rfl (WL.ev rfl rfl (Ev.bin rfl rfl rfl Bin.andNotT) (WL.on rfl rfl (WL.ev rfl rfl (Ev.bin rfl rfl rfl Bin.eql) (WL.ev rfl rfl (Ev.pickF rfl rfl rfl) (WL.nil ?_)))))))))
                        obtain rfl := sm hm8
                        exact ⟨(decide ((goAndNot y12 y13) = 0)), rfl, ⟨rfl, trivial⟩, H.keep 4 6⟩
                    · rintro ρ' w35 ⟨s11, rfl, hag, H⟩
                      obtain ⟨σ, rfl⟩ := ofL_ex hag
                      refine WL.ev rfl rfl (Ev.as rfl rfl) (WL.nil ?_)
                      refine CW.ret ?_
                      obtain rfl := sm hr
                      exact ⟨_, res1 rfl rfl rfl, H.ext0, rfl⟩

end Go.Proofs.Ytonnooljidombaa

