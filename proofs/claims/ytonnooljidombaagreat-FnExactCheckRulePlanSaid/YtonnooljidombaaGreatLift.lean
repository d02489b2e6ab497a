/- What some functions of the program compute, as partial functions on plain data, and that they do; each lemma bears its conditions in its statement. -/
import Derived.Test.YtonnooljidombaaGreatLiftA
set_option linter.unusedVariables false
set_option linter.unusedSimpArgs false
set_option linter.ambiguousOpen false
set_option linter.unusedSectionVars false
set_option linter.unnecessarySimpa false
set_option linter.unusedVariables false
set_option linter.unusedSimpArgs false
set_option maxRecDepth 100000
set_option maxHeartbeats 1000000
namespace Go.Proofs.YtonnooljidombaaGreat
open Go Go.E
open Go.E.Rep (rd)
open Go.E.Sep (own)
open Go.E.Sz (szd)
theorem sCheckRulePlan_ok {a0 : Grammar} {a1 : (List (List Phase))} {a2 : Rule} {a3 : (List Step)} {r : Bool} (hr : sCheckRulePlan_m a0 a1 a2 a3 = some r) {F0 : Nat → Prop} {w0 : World} {ca0 : List Value} (ha0 : rd F0 w0 a0 ca0) {z1 : Value} (ha1 : rdS F0 w0 a1 z1) {ca2 : List Value} (ha2 : rd F0 w0 a2 ca2) {z3 : Value} (ha3 : rdS F0 w0 a3 z3) :
    Ret Tryz.prog 22 #[.agg ca0.toArray, z1, .agg ca2.toArray, z3] w0 (fun _ => False) fun v w => v = .bool r := by
  obtain ⟨A1', n1', c1', rfl⟩ := ha1.form3
  obtain ⟨A3', n3', c3', rfl⟩ := ha3.form3
  have H := ((((HL.start F0 w0).argR ha0).argS ha1).argR ha2).argS ha3
  obtain ⟨A1, n1, c1, A2, n2, c2, rfl, H⟩ := op_Grammar H (i := 0) rfl
  obtain ⟨A3, n3, c3, A4, n4, c4, A5, n5, c5, rfl, hS1, hS2, H⟩ := op_Rule H (i := 2) rfl
  refine enter Tryz.func22 rfl rfl rfl ?_
  refine Sreg ?_
  refine WL.boxH rfl rfl rfl rfl rfl H fun b1 w1 H => ?_
  refine WL.boxH rfl rfl rfl rfl rfl H fun b2 w2 H => ?_
  refine Wsn rfl rfl rfl rfl ?_
  have hl1 := (H.rS (i := 6) rfl).I
  refine CW.seq (CW.held (fun w => HL F0 [] w0 w [Pr.R a0 [.slice A1 n1 c1, .slice A2 n2 c2], Pr.S a1 (.slice A1' n1' c1'), Pr.R a2 [.string a2.Name, .string a2.Left, .slice A3 n3 c3, .bool a2.Literal, .slice A4 n4 c4, .slice A5 n5 c5], Pr.S a3 (.slice A3' n3' c3'), Pr.S a0.Symbols (.slice A1 n1 c1), Pr.S a0.Rules (.slice A2 n2 c2), Pr.S a2.Right (.slice A3 n3 c3), Pr.S a2.Equations (.slice A4 n4 c4), Pr.S a2.Contributions (.slice A5 n5 c5)] [It.B b1 40 [.slice A1 n1 c1, .slice A2 n2 c2], It.B b2 45 [.string a2.Name, .string a2.Left, .slice A3 n3 c3, .bool a2.Literal, .slice A4 n4 c4, .slice A5 n5 c5]]) hmix (fun w3 hE => ?_))
  have H := H.ext hE
  refine HW.take 0 (H.keep 9 2) rfl (by kernel_rfl) rfl rfl (fun _ hq => Ev.lda rfl ag40 sz40 rfl (At.blk (hq.rB (i := 0) rfl)) rfl) ?_
  refine HW.take 1 (H.keep 9 2) rfl (by kernel_rfl) rfl rfl (fun _ hq => Ev.lda rfl ag45 sz45 rfl (At.blk (hq.rB (i := 1) rfl)) rfl) ?_
  refine HW.take 2 (H.keep 9 2) rfl (by kernel_rfl) rfl rfl (fun _ _ => Ev.mv rfl rfl) ?_
  refine HW.take 3 (H.keep 9 2) rfl (by kernel_rfl) rfl rfl (fun _ _ => Ev.fa rfl fo45_2 rfl) ?_
  refine HW.take 4 (H.keep 9 2) rfl (by kernel_rfl) rfl rfl (fun _ hq => Ev.ld rfl ag26 rfl ((hq.rB (i := 1) rfl).cell rfl)) ?_
  refine HW.take 5 (H.keep 9 2) rfl (by kernel_rfl) rfl rfl (fun _ _ => Ev.lenV rfl el26 rfl (H.rS (i := 6) rfl)) ?_
  refine HW.eff 6 rfl (by kernel_rfl) ?_
  obtain ⟨hg1, hr⟩ := grd_some hr
  refine WL.mkH (x := (0 : Int)) rfl rfl rfl el33 sz3 by3 ze3 (fun _ => ⟨rfl, rfl, (by decide : I64 0)⟩) rfl rfl hg1 H fun A6 n6 c6 w4 H => ?_
  refine HW.next (H.keep 9 2) ?_
  refine HW.take 7 (H.keep 9 2) rfl (by kernel_rfl) rfl rfl (fun _ _ => Ev.build rfl pl124 ze124 rfl rfl rfl rfl) ?_
  refine HW.eff 8 rfl (by kernel_rfl) ?_
  refine WL.boxH rfl rfl rfl rfl rfl H fun b3 w5 H => ?_
  refine HW.next (H.keep 9 2) ?_
  refine HW.take 9 (H.keep 9 2) rfl (by kernel_rfl) rfl rfl (fun _ _ => Ev.as rfl rfl) ?_
  refine HW.done (by kernel_rfl) ?_
  refine Sreg ?_
  refine WL.ev rfl rfl (Ev.lda rfl ag40 sz40 rfl (At.blk (H.rB (i := 0) rfl)) rfl) (Wmv rfl rfl rfl rfl (Wfa rfl rfl rfl fo45_1 rfl (WL.ev rfl rfl (Ev.ld rfl ag9 rfl ((H.rB (i := 1) rfl).cell rfl)) ?_)))
  obtain ⟨y1, hy1, hr⟩ := bd hr
  obtain ⟨F, hF, hcl⟩ := H.call
  refine WL.call rfl rfl rfl rfl rfl ok81 rfl (sl28Phases_ok hy1 ⟨_, _, rfl, (hF.get (i := 4) rfl), (hF.get (i := 5) rfl)⟩ (hF.get (i := 1) rfl) hS2) ?_
  rintro _ w6 hE ⟨A7, n7, c7, rfl, H'⟩
  have H := hcl H'
  refine Wsn rfl rfl rfl rfl ?_
  refine SSr ?_
  refine Wmv rfl rfl rfl rfl ?_
  have hl2 := (H.rS (i := 9) rfl).I
  refine WL.ev rfl rfl (Ev.lenV rfl el125 rfl (H.rS (i := 9) rfl)) (WL.ev rfl rfl (Ev.bin rfl rfl rfl Bin.eql) (WL.nil ?_))
  refine CW.condD rfl (fun h1 => ?_) (fun h1 => ?_)
  · have hr := ifp h1 hr
    refine Sreg ?_
    refine Wsn rfl rfl rfl rfl ?_
    refine CW.ret ?_
    obtain rfl := sm hr
    exact ⟨_, res1 rfl rfl rfl, H.ext0, rfl⟩
  · have hr := ifn h1 hr
    refine CW.skip ?_
    refine Sreg ?_
    refine Wsn rfl rfl rfl rfl ?_
    refine Sreg ?_
    refine Wmv rfl rfl rfl rfl (Wmv rfl rfl rfl rfl ?_)
    obtain ⟨x1, hx1, hr⟩ := bd hr
    obtain ⟨b4, ob4, cb4, A8, n8, c8, A9, n9, c9, hvb4, H⟩ := ixS_Phase H (i := 9) rfl hx1
    refine WL.ev rfl rfl (Ev.ixVN rfl el125 sz129 rfl hvb4 rfl (lt_of hx1)) (Wfa rfl rfl rfl fo129_0 rfl (WL.ev rfl rfl (Ev.ld rfl ag26 rfl ((H.rA (i := 10) rfl).cell rfl)) ?_))
    have H := H.nil (α := Occurrence) 90
    have H := H.nil (α := Step) 130
    obtain ⟨z1, hy2, hr⟩ := bd hr
    obtain ⟨F', M', hfF, hoF, hcM⟩ := H.callN [false, false, true, true, true, true] ⟨noO, noB, noO, noO, trivial⟩
    obtain ⟨H', hcN⟩ := hcM (ps := [Pr.S x1.Inherited (.slice A8 n8 c8), Pr.S a0.Symbols (.slice A1 n1 c1), Pr.S a0.Rules (.slice A2 n2 c2), Pr.S a2.Right (.slice A3 n3 c3), Pr.S a2.Equations (.slice A4 n4 c4), Pr.S a2.Contributions (.slice A5 n5 c5), Pr.S a1 (.slice A1' n1' c1')]) ⟨hfF.get (i := 12) rfl, hfF.get (i := 4) rfl, hfF.get (i := 5) rfl, hfF.get (i := 6) rfl, hfF.get (i := 7) rfl, hfF.get (i := 8) rfl, hfF.get (i := 1) rfl, trivial⟩
    refine WL.call rfl rfl rfl rfl rfl ok82 rfl (sl28Learn_ok hy2 (by decide : I64 0) hS1 hS2 H') ?_
    rintro _ w7 hE ⟨A10, n10, c10, A11, n11, c11, A12, n12, c12, rfl, hS3, hS4, H'⟩
    have H := hcN 4 H' rfl ⟨fun _ _ _ _ _ h => h, ⟨fun _ _ _ _ _ h => h, ⟨fun _ _ _ _ _ h => h, ⟨fun _ _ _ _ _ h => h, trivial⟩⟩⟩⟩
    refine WL.nil ?_
    refine SSr ?_
    refine Wsn rfl rfl rfl rfl ?_
    obtain ⟨q1, hq1, hr⟩ := bd hr
    refine CW.block (CW.loop (α := Nat × (List Int) × ByteArray × ByteArray × Bool × (List Occurrence) × (List Step) × Int × Value × Value × Value) (fun ⟨k1, s1, s2, s3, s4, s5, s6, s7, v1, v2, v3⟩ => [(3, .slice A3' n3' c3'), (9, .pointer (some ⟨b3, 0, none⟩)), (10, .slice A7 n7 c7), (11, .int .i64 s7), (12, .int .i64 (k1 : Int))]) (fun ⟨k1, s1, s2, s3, s4, s5, s6, s7, v1, v2, v3⟩ w => k1 ≤ a3.length ∧ findL (sCheckRulePlan_L1 a0 a1 a2 y1) k1 (a3.drop k1) (s1, s2, s3, s4, s5, s6, s7) = some q1 ∧ s2.size ≤ 9223372036854775807 ∧ s3.size ≤ 9223372036854775807 ∧ I64 s7 ∧ HL F0 [] w0 w [Pr.R a0 [.slice A1 n1 c1, .slice A2 n2 c2], Pr.S a1 (.slice A1' n1' c1'), Pr.R a2 [.string a2.Name, .string a2.Left, .slice A3 n3 c3, .bool a2.Literal, .slice A4 n4 c4, .slice A5 n5 c5], Pr.S a3 (.slice A3' n3' c3'), Pr.S a0.Symbols (.slice A1 n1 c1), Pr.S a0.Rules (.slice A2 n2 c2), Pr.S a2.Right (.slice A3 n3 c3), Pr.S a2.Equations (.slice A4 n4 c4), Pr.S a2.Contributions (.slice A5 n5 c5), Pr.S y1 (.slice A7 n7 c7), Pr.A b4 (ob4 + 0 * 2) [.slice A8 n8 c8, .slice A9 n9 c9], Pr.R x1 [.slice A8 n8 c8, .slice A9 n9 c9], Pr.S x1.Inherited (.slice A8 n8 c8), Pr.S x1.Synthesized (.slice A9 n9 c9)] [It.B b1 40 [.slice A1 n1 c1, .slice A2 n2 c2], It.B b2 45 [.string a2.Name, .string a2.Left, .slice A3 n3 c3, .bool a2.Literal, .slice A4 n4 c4, .slice A5 n5 c5], It.O 3 s1 v1, It.B b3 124 [.slice A1 n1 c1, .slice A2 n2 c2, .string s2, .string s3, .slice A3 n3 c3, .bool s4, .slice A4 n4 c4, .slice A5 n5 c5, .slice A1' n1' c1', v2, v1, v3], It.O 90 s5 v2, It.O 130 s6 v3]) (fun ⟨k1, s1, s2, s3, s4, s5, s6, s7, v1, v2, v3⟩ => a3.length - k1) ⟨0, z1.visits, z1.r.Name, z1.r.Left, z1.r.Literal, z1.known, z1.steps, 0, (.slice A11 n11 c11), (.slice A10 n10 c10), (.slice A12 n12 c12)⟩ ⟨rfl, rfl, rfl, rfl, rfl, trivial⟩ ⟨Nat.zero_le _, hq1, hS3, hS4, (by decide : I64 0), H.keep 14 6⟩ ?_)
    rintro ⟨k1, s1, s2, s3, s4, s5, s6, s7, v1, v2, v3⟩ σ w8 ⟨hk1, hq1, hS5, hS6, hI1, H⟩
    obtain ⟨A13, n13, c13, rfl⟩ := (H.rO (i := 2) rfl).form3
    obtain ⟨A14, n14, c14, rfl⟩ := (H.rO (i := 4) rfl).form3
    obtain ⟨A15, n15, c15, rfl⟩ := (H.rO (i := 5) rfl).form3
    refine SSr ?_
    refine Wmv rfl rfl rfl rfl (Wmv rfl rfl rfl rfl ?_)
    have hl3 := (H.rS (i := 3) rfl).I
    refine WL.ev rfl rfl (Ev.lenV rfl el61 rfl (H.rS (i := 3) rfl)) (WL.ev rfl rfl (Ev.bin rfl rfl rfl Bin.lss) (WL.nil ?_))
    refine CW.condD rfl (fun h2 => ?_) (fun h2 => ?_)
    · have hk2 := cast_lt h2
      obtain ⟨x2, z2, hx2, hb1, hs1, ht1⟩ := findL_go hq1 hk2
      refine CW.skip ?_
      refine CW.seq (CW.block (Sreg ?_))
      refine Wmv rfl rfl rfl rfl (Wmv rfl rfl rfl rfl ?_)
      obtain ⟨b5, ob5, cb5, hvb5, hI2, hI3, hI4, hS7, H⟩ := ixS_Step H (i := 3) rfl hx2
      refine WL.ev rfl rfl (Ev.ixVN rfl el61 sz130 rfl hvb5 rfl (lt_of hx2)) (WL.ev rfl rfl (Ev.lda rfl ag130 sz130 rfl (H.rA (i := 14) rfl) rfl) ?_)
      refine WL.allocH rfl rfl rfl ze130 H fun b6 w9 H => ?_
      refine WL.stB (i := 6) rfl rfl rfl sz130 rfl rfl rfl rfl (all1 rfl (all1 rfl (all1 rfl (all1 rfl all0)))) H rfl rfl rfl fun w10 H => ?_
      refine WL.nil ?_
      refine Sreg ?_
      refine Wmv rfl rfl rfl rfl (Wmv rfl rfl rfl rfl (WL.ev rfl rfl (Ev.lenV rfl el125 rfl (H.rS (i := 9) rfl)) (WL.ev rfl rfl (Ev.bin rfl rfl rfl Bin.lss) (Wsn rfl rfl rfl rfl ?_))))
      refine SSr ?_
      refine Wfa rfl rfl rfl fo130_0 rfl (WL.ev rfl rfl (Ev.ld rfl ag3 rfl ((H.rB (i := 6) rfl).cell rfl)) (WL.nil ?_))
      refine CW.block (Sreg ?_)
      refine WL.ev rfl rfl (Ev.bin rfl rfl rfl Bin.eql) (Wsn rfl rfl rfl rfl ?_)
      refine CW.condD rfl (fun h3 => ?_) (fun h3 => ?_)
      · have hb1 := ifp h3 hb1
        refine CW.reg ?_
        refine Wmv rfl rfl rfl rfl ?_
        obtain ⟨q2, hm1, hb1⟩ := bd hb1
        refine WL.cut 5 (fun ρ' w => ∃ (s8 : Bool) (s9 : List Int) (s10 : ByteArray) (s11 : ByteArray) (s12 : Bool) (s13 : List Occurrence) (s14 : List Step) (v4 : Value) (v5 : Value) (v6 : Value), q2 = (s8, s9, s10, s11, s12, s13, s14) ∧ agree ρ' [(3, .slice A3' n3' c3'), (9, .pointer (some ⟨b3, 0, none⟩)), (10, .slice A7 n7 c7), (11, .int .i64 s7), (12, .int .i64 (k1 : Int)), (14, .bool (decide (s7 < (y1.length : Int)))), (61, .bool s8)] ∧ s10.size ≤ 9223372036854775807 ∧ s11.size ≤ 9223372036854775807 ∧ HL F0 [] w0 w [Pr.R a0 [.slice A1 n1 c1, .slice A2 n2 c2], Pr.S a1 (.slice A1' n1' c1'), Pr.R a2 [.string a2.Name, .string a2.Left, .slice A3 n3 c3, .bool a2.Literal, .slice A4 n4 c4, .slice A5 n5 c5], Pr.S a3 (.slice A3' n3' c3'), Pr.S a0.Symbols (.slice A1 n1 c1), Pr.S a0.Rules (.slice A2 n2 c2), Pr.S a2.Right (.slice A3 n3 c3), Pr.S a2.Equations (.slice A4 n4 c4), Pr.S a2.Contributions (.slice A5 n5 c5), Pr.S y1 (.slice A7 n7 c7), Pr.A b4 (ob4 + 0 * 2) [.slice A8 n8 c8, .slice A9 n9 c9], Pr.R x1 [.slice A8 n8 c8, .slice A9 n9 c9], Pr.S x1.Inherited (.slice A8 n8 c8), Pr.S x1.Synthesized (.slice A9 n9 c9), Pr.A b5 (ob5 + k1 * 4) [.int .i64 x2.Kind, .int .i64 x2.Pos, .int .i64 x2.Visit, .string x2.Name], Pr.R x2 [.int .i64 x2.Kind, .int .i64 x2.Pos, .int .i64 x2.Visit, .string x2.Name]] [It.B b1 40 [.slice A1 n1 c1, .slice A2 n2 c2], It.B b2 45 [.string a2.Name, .string a2.Left, .slice A3 n3 c3, .bool a2.Literal, .slice A4 n4 c4, .slice A5 n5 c5], It.O 3 s9 v4, It.B b3 124 [.slice A1 n1 c1, .slice A2 n2 c2, .string s10, .string s11, .slice A3 n3 c3, .bool s12, .slice A4 n4 c4, .slice A5 n5 c5, .slice A1' n1' c1', v5, v4, v6], It.O 90 s13 v5, It.O 130 s14 v6, It.B b6 130 [.int .i64 x2.Kind, .int .i64 x2.Pos, .int .i64 x2.Visit, .string x2.Name]]) ?_ ?_
        · refine WL.mvD rfl rfl rfl rfl (fun h4 => ?_) (fun h4 => ?_)
          · have hm1 := ifp h4 hm1
            refine WL.on rfl rfl (Wmv rfl rfl rfl rfl (WL.on rfl rfl (WL.ev rfl rfl (Ev.lda rfl ag130 sz130 rfl (At.blk (H.rB (i := 6) rfl)) rfl) (WL.on rfl rfl ?_))))
            obtain ⟨⟨y2, z3⟩, hy3, hm1⟩ := bd hm1
            obtain ⟨F', M', hfF, hoF, hcM⟩ := H.callN [false, false, true, true, true, true, false] ⟨noO, noB, noO, noO, trivial⟩
            obtain ⟨H', hcN⟩ := hcM (ps := [Pr.S a0.Symbols (.slice A1 n1 c1), Pr.S a0.Rules (.slice A2 n2 c2), Pr.S a2.Right (.slice A3 n3 c3), Pr.S a2.Equations (.slice A4 n4 c4), Pr.S a2.Contributions (.slice A5 n5 c5), Pr.S a1 (.slice A1' n1' c1')]) ⟨hfF.get (i := 4) rfl, hfF.get (i := 5) rfl, hfF.get (i := 6) rfl, hfF.get (i := 7) rfl, hfF.get (i := 8) rfl, hfF.get (i := 1) rfl, trivial⟩
            refine WL.call rfl rfl rfl rfl rfl ok83 rfl (sl29Eval_ok hy3 hI2 hI3 hI4 hS7 hS5 hS6 H') ?_
            rintro _ w11 hE ⟨A16, n16, c16, A17, n17, c17, A18, n18, c18, rfl, hS10, hS11, H'⟩
            have H := hcN 4 H' rfl ⟨fun _ _ _ _ _ h => h, ⟨fun _ _ _ _ _ h => h, ⟨fun _ _ _ _ _ h => h, ⟨fun _ _ _ _ _ h => h, trivial⟩⟩⟩⟩
            refine WL.ev rfl rfl (Ev.pickT rfl rfl rfl) (WL.nil ?_)
            obtain rfl := sm hm1
            exact ⟨y2, z3.visits, z3.r.Name, z3.r.Left, z3.r.Literal, z3.known, z3.steps, _, _, _, rfl, ⟨rfl, rfl, rfl, rfl, rfl, rfl, rfl, trivial⟩, hS10, hS11, H.keep 16 7⟩
          · have hm1 := ifn h4 hm1
            refine WL.off rfl rfl rfl (WL.off rfl rfl rfl (WL.off rfl rfl rfl (WL.ev rfl rfl (Ev.pickF rfl rfl rfl) (WL.nil ?_))))
            obtain rfl := sm hm1
            exact ⟨false, s1, s2, s3, s4, s5, s6, _, _, _, rfl, ⟨rfl, rfl, rfl, rfl, rfl, rfl, rfl, trivial⟩, hS5, hS6, H.keep 16 7⟩
        · rintro ρ' w12 ⟨s8, s9, s10, s11, s12, s13, s14, v4, v5, v6, rfl, hag, hS8, hS9, H⟩
          obtain ⟨σ, rfl⟩ := ofL_ex hag
          obtain ⟨A19, n19, c19, rfl⟩ := (H.rO (i := 2) rfl).form3
          obtain ⟨A20, n20, c20, rfl⟩ := (H.rO (i := 4) rfl).form3
          obtain ⟨A21, n21, c21, rfl⟩ := (H.rO (i := 5) rfl).form3
          refine Wsn rfl rfl rfl rfl ?_
          refine Sreg ?_
          refine Wmv rfl rfl rfl rfl (WL.ev rfl rfl (Ev.not rfl rfl) (WL.nil ?_))
          refine CW.condBN rfl (fun h5 => ?_) (fun h5 => ?_)
          · have hb1 := ifn h5 hb1
            refine Sreg ?_
            refine Wsn rfl rfl rfl rfl ?_
            refine CW.ret ?_
            obtain rfl := sm hb1
            obtain rfl := ht1 _ rfl
            obtain rfl := sm hr
            exact ⟨_, res1 rfl rfl rfl, H.ext0, rfl⟩
          · have hb1 := ifp h5 hb1
            refine CW.skip ?_
            refine CW.reg ?_
            refine Wmv rfl rfl rfl rfl (WL.ev rfl rfl (Ev.bin rfl rfl rfl (Bin.addN (a := k1) (b := 1) rfl (i64_succN hk2 hl3.2))) (Wsn rfl rfl rfl rfl ?_))
            obtain rfl := sm hb1
            have hq1 := hs1 _ rfl
            exact ⟨⟨k1 + 1, s9, s10, s11, s12, s13, s14, s7, (.slice A19 n19 c19), (.slice A20 n20 c20), (.slice A21 n21 c21)⟩, ⟨rfl, rfl, rfl, rfl, rfl, trivial⟩, ⟨hk2, hq1, hS8, hS9, hI1, H.keep 14 6⟩, Nat.sub_lt_sub_left hk2 (Nat.lt_succ_self _)⟩
      · have hb1 := ifn h3 hb1
        refine Sreg ?_
        refine WL.ev rfl rfl (Ev.bin rfl rfl rfl Bin.eql) (Wsn rfl rfl rfl rfl ?_)
        refine CW.condD rfl (fun h6 => ?_) (fun h6 => ?_)
        · have hb1 := ifp h6 hb1
          refine CW.reg ?_
          refine Wmv rfl rfl rfl rfl ?_
          obtain ⟨q3, hm2, hb1⟩ := bd hb1
          refine WL.cut 5 (fun ρ' w => ∃ (s15 : Bool) (s16 : List Int) (s17 : ByteArray) (s18 : ByteArray) (s19 : Bool) (s20 : List Occurrence) (s21 : List Step) (v7 : Value) (v8 : Value) (v9 : Value), q3 = (s15, s16, s17, s18, s19, s20, s21) ∧ agree ρ' [(3, .slice A3' n3' c3'), (9, .pointer (some ⟨b3, 0, none⟩)), (10, .slice A7 n7 c7), (11, .int .i64 s7), (12, .int .i64 (k1 : Int)), (14, .bool (decide (s7 < (y1.length : Int)))), (69, .bool s15)] ∧ s17.size ≤ 9223372036854775807 ∧ s18.size ≤ 9223372036854775807 ∧ HL F0 [] w0 w [Pr.R a0 [.slice A1 n1 c1, .slice A2 n2 c2], Pr.S a1 (.slice A1' n1' c1'), Pr.R a2 [.string a2.Name, .string a2.Left, .slice A3 n3 c3, .bool a2.Literal, .slice A4 n4 c4, .slice A5 n5 c5], Pr.S a3 (.slice A3' n3' c3'), Pr.S a0.Symbols (.slice A1 n1 c1), Pr.S a0.Rules (.slice A2 n2 c2), Pr.S a2.Right (.slice A3 n3 c3), Pr.S a2.Equations (.slice A4 n4 c4), Pr.S a2.Contributions (.slice A5 n5 c5), Pr.S y1 (.slice A7 n7 c7), Pr.A b4 (ob4 + 0 * 2) [.slice A8 n8 c8, .slice A9 n9 c9], Pr.R x1 [.slice A8 n8 c8, .slice A9 n9 c9], Pr.S x1.Inherited (.slice A8 n8 c8), Pr.S x1.Synthesized (.slice A9 n9 c9), Pr.A b5 (ob5 + k1 * 4) [.int .i64 x2.Kind, .int .i64 x2.Pos, .int .i64 x2.Visit, .string x2.Name], Pr.R x2 [.int .i64 x2.Kind, .int .i64 x2.Pos, .int .i64 x2.Visit, .string x2.Name]] [It.B b1 40 [.slice A1 n1 c1, .slice A2 n2 c2], It.B b2 45 [.string a2.Name, .string a2.Left, .slice A3 n3 c3, .bool a2.Literal, .slice A4 n4 c4, .slice A5 n5 c5], It.O 3 s16 v7, It.B b3 124 [.slice A1 n1 c1, .slice A2 n2 c2, .string s17, .string s18, .slice A3 n3 c3, .bool s19, .slice A4 n4 c4, .slice A5 n5 c5, .slice A1' n1' c1', v8, v7, v9], It.O 90 s20 v8, It.O 130 s21 v9, It.B b6 130 [.int .i64 x2.Kind, .int .i64 x2.Pos, .int .i64 x2.Visit, .string x2.Name]]) ?_ ?_
          · refine WL.mvD rfl rfl rfl rfl (fun h7 => ?_) (fun h7 => ?_)
            · have hm2 := ifp h7 hm2
              refine WL.on rfl rfl (Wmv rfl rfl rfl rfl (WL.on rfl rfl (WL.ev rfl rfl (Ev.lda rfl ag130 sz130 rfl (At.blk (H.rB (i := 6) rfl)) rfl) (WL.on rfl rfl ?_))))
              obtain ⟨⟨y3, z4⟩, hy4, hm2⟩ := bd hm2
              obtain ⟨F', M', hfF, hoF, hcM⟩ := H.callN [false, false, true, true, true, true, false] ⟨noO, noB, noO, noO, trivial⟩
              obtain ⟨H', hcN⟩ := hcM (ps := [Pr.S a0.Symbols (.slice A1 n1 c1), Pr.S a0.Rules (.slice A2 n2 c2), Pr.S a2.Right (.slice A3 n3 c3), Pr.S a2.Equations (.slice A4 n4 c4), Pr.S a2.Contributions (.slice A5 n5 c5), Pr.S a1 (.slice A1' n1' c1')]) ⟨hfF.get (i := 4) rfl, hfF.get (i := 5) rfl, hfF.get (i := 6) rfl, hfF.get (i := 7) rfl, hfF.get (i := 8) rfl, hfF.get (i := 1) rfl, trivial⟩
              refine WL.call rfl rfl rfl rfl rfl ok84 rfl (sl29Visit_ok hy4 hI2 hI3 hI4 hS7 hS5 hS6 H') ?_
              rintro _ w13 hE ⟨A22, n22, c22, A23, n23, c23, A24, n24, c24, rfl, hS14, hS15, H'⟩
              have H := hcN 4 H' rfl ⟨fun _ _ _ _ _ h => h, ⟨fun _ _ _ _ _ h => h, ⟨fun _ _ _ _ _ h => h, ⟨fun _ _ _ _ _ h => h, trivial⟩⟩⟩⟩
              refine WL.ev rfl rfl (Ev.pickT rfl rfl rfl) (WL.nil ?_)
              obtain rfl := sm hm2
              exact ⟨y3, z4.visits, z4.r.Name, z4.r.Left, z4.r.Literal, z4.known, z4.steps, _, _, _, rfl, ⟨rfl, rfl, rfl, rfl, rfl, rfl, rfl, trivial⟩, hS14, hS15, H.keep 16 7⟩
            · have hm2 := ifn h7 hm2
              refine WL.off rfl rfl rfl (WL.off rfl rfl rfl (WL.off rfl rfl rfl (WL.ev rfl rfl (Ev.pickF rfl rfl rfl) (WL.nil ?_))))
              obtain rfl := sm hm2
              exact ⟨false, s1, s2, s3, s4, s5, s6, _, _, _, rfl, ⟨rfl, rfl, rfl, rfl, rfl, rfl, rfl, trivial⟩, hS5, hS6, H.keep 16 7⟩
          · rintro ρ' w14 ⟨s15, s16, s17, s18, s19, s20, s21, v7, v8, v9, rfl, hag, hS12, hS13, H⟩
            obtain ⟨σ, rfl⟩ := ofL_ex hag
            obtain ⟨A25, n25, c25, rfl⟩ := (H.rO (i := 2) rfl).form3
            obtain ⟨A26, n26, c26, rfl⟩ := (H.rO (i := 4) rfl).form3
            obtain ⟨A27, n27, c27, rfl⟩ := (H.rO (i := 5) rfl).form3
            refine Wsn rfl rfl rfl rfl ?_
            refine Sreg ?_
            refine Wmv rfl rfl rfl rfl (WL.ev rfl rfl (Ev.not rfl rfl) (WL.nil ?_))
            refine CW.condBN rfl (fun h8 => ?_) (fun h8 => ?_)
            · have hb1 := ifn h8 hb1
              refine Sreg ?_
              refine Wsn rfl rfl rfl rfl ?_
              refine CW.ret ?_
              obtain rfl := sm hb1
              obtain rfl := ht1 _ rfl
              obtain rfl := sm hr
              exact ⟨_, res1 rfl rfl rfl, H.ext0, rfl⟩
            · have hb1 := ifp h8 hb1
              refine CW.skip ?_
              refine CW.reg ?_
              refine Wmv rfl rfl rfl rfl (WL.ev rfl rfl (Ev.bin rfl rfl rfl (Bin.addN (a := k1) (b := 1) rfl (i64_succN hk2 hl3.2))) (Wsn rfl rfl rfl rfl ?_))
              obtain rfl := sm hb1
              have hq1 := hs1 _ rfl
              exact ⟨⟨k1 + 1, s16, s17, s18, s19, s20, s21, s7, (.slice A25 n25 c25), (.slice A26 n26 c26), (.slice A27 n27 c27)⟩, ⟨rfl, rfl, rfl, rfl, rfl, trivial⟩, ⟨hk2, hq1, hS12, hS13, hI1, H.keep 14 6⟩, Nat.sub_lt_sub_left hk2 (Nat.lt_succ_self _)⟩
        · have hb1 := ifn h6 hb1
          refine Sreg ?_
          refine WL.ev rfl rfl (Ev.bin rfl rfl rfl Bin.eql) (Wsn rfl rfl rfl rfl ?_)
          refine CW.condD rfl (fun h9 => ?_) (fun h9 => ?_)
          · have hb1 := ifp h9 hb1
            refine Sreg ?_
            refine Wmv rfl rfl rfl rfl ?_
            obtain ⟨q4, hm3, hb1⟩ := bd hb1
            refine WL.cut 5 (fun ρ' w => ∃ (s22 : Bool), s22 = q4 ∧ agree ρ' [(3, .slice A3' n3' c3'), (9, .pointer (some ⟨b3, 0, none⟩)), (10, .slice A7 n7 c7), (11, .int .i64 s7), (12, .int .i64 (k1 : Int)), (13, .pointer (some ⟨b6, 0, none⟩)), (14, .bool (decide (s7 < (y1.length : Int)))), (77, .bool s22)] ∧ HL F0 [] w0 w [Pr.R a0 [.slice A1 n1 c1, .slice A2 n2 c2], Pr.S a1 (.slice A1' n1' c1'), Pr.R a2 [.string a2.Name, .string a2.Left, .slice A3 n3 c3, .bool a2.Literal, .slice A4 n4 c4, .slice A5 n5 c5], Pr.S a3 (.slice A3' n3' c3'), Pr.S a0.Symbols (.slice A1 n1 c1), Pr.S a0.Rules (.slice A2 n2 c2), Pr.S a2.Right (.slice A3 n3 c3), Pr.S a2.Equations (.slice A4 n4 c4), Pr.S a2.Contributions (.slice A5 n5 c5), Pr.S y1 (.slice A7 n7 c7), Pr.A b4 (ob4 + 0 * 2) [.slice A8 n8 c8, .slice A9 n9 c9], Pr.R x1 [.slice A8 n8 c8, .slice A9 n9 c9], Pr.S x1.Inherited (.slice A8 n8 c8), Pr.S x1.Synthesized (.slice A9 n9 c9), Pr.A b5 (ob5 + k1 * 4) [.int .i64 x2.Kind, .int .i64 x2.Pos, .int .i64 x2.Visit, .string x2.Name], Pr.R x2 [.int .i64 x2.Kind, .int .i64 x2.Pos, .int .i64 x2.Visit, .string x2.Name]] [It.B b1 40 [.slice A1 n1 c1, .slice A2 n2 c2], It.B b2 45 [.string a2.Name, .string a2.Left, .slice A3 n3 c3, .bool a2.Literal, .slice A4 n4 c4, .slice A5 n5 c5], It.O 3 s1 (.slice A13 n13 c13), It.B b3 124 [.slice A1 n1 c1, .slice A2 n2 c2, .string s2, .string s3, .slice A3 n3 c3, .bool s4, .slice A4 n4 c4, .slice A5 n5 c5, .slice A1' n1' c1', .slice A14 n14 c14, .slice A13 n13 c13, .slice A15 n15 c15], It.O 90 s5 (.slice A14 n14 c14), It.O 130 s6 (.slice A15 n15 c15), It.B b6 130 [.int .i64 x2.Kind, .int .i64 x2.Pos, .int .i64 x2.Visit, .string x2.Name]]) ?_ ?_
            · refine WL.mvD rfl rfl rfl rfl (fun h10 => ?_) (fun h10 => ?_)
              · have hm3 := ifp h10 hm3
                refine WL.on rfl rfl (Wfa rfl rfl rfl fo130_1 rfl (WL.on rfl rfl (WL.ev rfl rfl (Ev.ld rfl ag3 rfl ((H.rB (i := 6) rfl).cell rfl)) (WL.on rfl rfl (WL.ev rfl rfl (Ev.bin rfl rfl rfl Bin.eql) (WL.ev rfl rfl (Ev.pickT rfl rfl rfl) (WL.nil ?_)))))))
                obtain rfl := sm hm3
                exact ⟨(decide (x2.Pos = 0)), rfl, ⟨rfl, rfl, rfl, rfl, rfl, rfl, rfl, rfl, trivial⟩, H.keep 16 7⟩
              · have hm3 := ifn h10 hm3
                refine WL.off rfl rfl rfl (WL.off rfl rfl rfl (WL.off rfl rfl rfl (WL.ev rfl rfl (Ev.pickF rfl rfl rfl) (WL.nil ?_))))
                obtain rfl := sm hm3
                exact ⟨false, rfl, ⟨rfl, rfl, rfl, rfl, rfl, rfl, rfl, rfl, trivial⟩, H.keep 16 7⟩
            · rintro ρ' w15 ⟨s22, rfl, hag, H⟩
              obtain ⟨σ, rfl⟩ := ofL_ex hag
              obtain ⟨q5, hm4, hb1⟩ := bd hb1
              refine WL.cut 5 (fun ρ' w => ∃ (s23 : Bool), s23 = q5 ∧ agree ρ' [(3, .slice A3' n3' c3'), (9, .pointer (some ⟨b3, 0, none⟩)), (10, .slice A7 n7 c7), (11, .int .i64 s7), (12, .int .i64 (k1 : Int)), (13, .pointer (some ⟨b6, 0, none⟩)), (14, .bool (decide (s7 < (y1.length : Int)))), (82, .bool s23)] ∧ HL F0 [] w0 w [Pr.R a0 [.slice A1 n1 c1, .slice A2 n2 c2], Pr.S a1 (.slice A1' n1' c1'), Pr.R a2 [.string a2.Name, .string a2.Left, .slice A3 n3 c3, .bool a2.Literal, .slice A4 n4 c4, .slice A5 n5 c5], Pr.S a3 (.slice A3' n3' c3'), Pr.S a0.Symbols (.slice A1 n1 c1), Pr.S a0.Rules (.slice A2 n2 c2), Pr.S a2.Right (.slice A3 n3 c3), Pr.S a2.Equations (.slice A4 n4 c4), Pr.S a2.Contributions (.slice A5 n5 c5), Pr.S y1 (.slice A7 n7 c7), Pr.A b4 (ob4 + 0 * 2) [.slice A8 n8 c8, .slice A9 n9 c9], Pr.R x1 [.slice A8 n8 c8, .slice A9 n9 c9], Pr.S x1.Inherited (.slice A8 n8 c8), Pr.S x1.Synthesized (.slice A9 n9 c9), Pr.A b5 (ob5 + k1 * 4) [.int .i64 x2.Kind, .int .i64 x2.Pos, .int .i64 x2.Visit, .string x2.Name], Pr.R x2 [.int .i64 x2.Kind, .int .i64 x2.Pos, .int .i64 x2.Visit, .string x2.Name]] [It.B b1 40 [.slice A1 n1 c1, .slice A2 n2 c2], It.B b2 45 [.string a2.Name, .string a2.Left, .slice A3 n3 c3, .bool a2.Literal, .slice A4 n4 c4, .slice A5 n5 c5], It.O 3 s1 (.slice A13 n13 c13), It.B b3 124 [.slice A1 n1 c1, .slice A2 n2 c2, .string s2, .string s3, .slice A3 n3 c3, .bool s4, .slice A4 n4 c4, .slice A5 n5 c5, .slice A1' n1' c1', .slice A14 n14 c14, .slice A13 n13 c13, .slice A15 n15 c15], It.O 90 s5 (.slice A14 n14 c14), It.O 130 s6 (.slice A15 n15 c15), It.B b6 130 [.int .i64 x2.Kind, .int .i64 x2.Pos, .int .i64 x2.Visit, .string x2.Name]]) ?_ ?_
              · refine WL.mvB rfl rfl rfl rfl (fun h11 => ?_) (fun h11 => ?_)
                · have hm4 := ifp h11 hm4
                  refine WL.on rfl rfl (Wfa rfl rfl rfl fo130_3 rfl (WL.on rfl rfl (WL.ev rfl rfl (Ev.ld rfl ag9 rfl ((H.rB (i := 6) rfl).cell rfl)) (WL.on rfl rfl (WL.ev rfl rfl (Ev.bin rfl rfl rfl Bin.eqlS) (WL.ev rfl rfl (Ev.pickT rfl rfl rfl) (WL.nil ?_)))))))
                  obtain rfl := sm hm4
                  exact ⟨(decide (x2.Name = (⟨#[]⟩ : ByteArray))), rfl, ⟨rfl, rfl, rfl, rfl, rfl, rfl, rfl, rfl, trivial⟩, H.keep 16 7⟩
                · have hm4 := ifn h11 hm4
                  refine WL.off rfl rfl rfl (WL.off rfl rfl rfl (WL.off rfl rfl rfl (WL.ev rfl rfl (Ev.pickF rfl rfl rfl) (WL.nil ?_))))
                  obtain rfl := sm hm4
                  exact ⟨false, rfl, ⟨rfl, rfl, rfl, rfl, rfl, rfl, rfl, rfl, trivial⟩, H.keep 16 7⟩
              · rintro ρ' w16 ⟨s23, rfl, hag, H⟩
                obtain ⟨σ, rfl⟩ := ofL_ex hag
                obtain ⟨q6, hm5, hb1⟩ := bd hb1
                refine WL.cut 7 (fun ρ' w => ∃ (s24 : Bool), s24 = q6 ∧ agree ρ' [(3, .slice A3' n3' c3'), (9, .pointer (some ⟨b3, 0, none⟩)), (10, .slice A7 n7 c7), (11, .int .i64 s7), (12, .int .i64 (k1 : Int)), (14, .bool (decide (s7 < (y1.length : Int)))), (89, .bool s24)] ∧ HL F0 [] w0 w [Pr.R a0 [.slice A1 n1 c1, .slice A2 n2 c2], Pr.S a1 (.slice A1' n1' c1'), Pr.R a2 [.string a2.Name, .string a2.Left, .slice A3 n3 c3, .bool a2.Literal, .slice A4 n4 c4, .slice A5 n5 c5], Pr.S a3 (.slice A3' n3' c3'), Pr.S a0.Symbols (.slice A1 n1 c1), Pr.S a0.Rules (.slice A2 n2 c2), Pr.S a2.Right (.slice A3 n3 c3), Pr.S a2.Equations (.slice A4 n4 c4), Pr.S a2.Contributions (.slice A5 n5 c5), Pr.S y1 (.slice A7 n7 c7), Pr.A b4 (ob4 + 0 * 2) [.slice A8 n8 c8, .slice A9 n9 c9], Pr.R x1 [.slice A8 n8 c8, .slice A9 n9 c9], Pr.S x1.Inherited (.slice A8 n8 c8), Pr.S x1.Synthesized (.slice A9 n9 c9), Pr.A b5 (ob5 + k1 * 4) [.int .i64 x2.Kind, .int .i64 x2.Pos, .int .i64 x2.Visit, .string x2.Name], Pr.R x2 [.int .i64 x2.Kind, .int .i64 x2.Pos, .int .i64 x2.Visit, .string x2.Name]] [It.B b1 40 [.slice A1 n1 c1, .slice A2 n2 c2], It.B b2 45 [.string a2.Name, .string a2.Left, .slice A3 n3 c3, .bool a2.Literal, .slice A4 n4 c4, .slice A5 n5 c5], It.O 3 s1 (.slice A13 n13 c13), It.B b3 124 [.slice A1 n1 c1, .slice A2 n2 c2, .string s2, .string s3, .slice A3 n3 c3, .bool s4, .slice A4 n4 c4, .slice A5 n5 c5, .slice A1' n1' c1', .slice A14 n14 c14, .slice A13 n13 c13, .slice A15 n15 c15], It.O 90 s5 (.slice A14 n14 c14), It.O 130 s6 (.slice A15 n15 c15), It.B b6 130 [.int .i64 x2.Kind, .int .i64 x2.Pos, .int .i64 x2.Visit, .string x2.Name]]) ?_ ?_
                · refine WL.mvB rfl rfl rfl rfl (fun h12 => ?_) (fun h12 => ?_)
                  · have hm5 := ifp h12 hm5
                    refine WL.on rfl rfl (Wfa rfl rfl rfl fo130_2 rfl (WL.on rfl rfl (WL.ev rfl rfl (Ev.ld rfl ag3 rfl ((H.rB (i := 6) rfl).cell rfl)) (WL.on rfl rfl (Wmv rfl rfl rfl rfl (WL.on rfl rfl ?_))))))
                    obtain ⟨hg2, hm5⟩ := grd_some hm5
                    refine WL.ev rfl rfl (Ev.bin rfl rfl rfl (Bin.add hg2)) (WL.on rfl rfl (WL.ev rfl rfl (Ev.bin rfl rfl rfl Bin.eql) (WL.ev rfl rfl (Ev.pickT rfl rfl rfl) (WL.nil ?_))))
                    obtain rfl := sm hm5
                    exact ⟨(decide (x2.Visit = (s7 + 1))), rfl, ⟨rfl, rfl, rfl, rfl, rfl, rfl, rfl, trivial⟩, H.keep 16 7⟩
                  · have hm5 := ifn h12 hm5
                    refine WL.off rfl rfl rfl (WL.off rfl rfl rfl (WL.off rfl rfl rfl (WL.off rfl rfl rfl (WL.off rfl rfl rfl (WL.ev rfl rfl (Ev.pickF rfl rfl rfl) (WL.nil ?_))))))
                    obtain rfl := sm hm5
                    exact ⟨false, rfl, ⟨rfl, rfl, rfl, rfl, rfl, rfl, rfl, trivial⟩, H.keep 16 7⟩
                · rintro ρ' w17 ⟨s24, rfl, hag, H⟩
                  obtain ⟨σ, rfl⟩ := ofL_ex hag
                  obtain ⟨q7, hm6, hb1⟩ := bd hb1
                  refine WL.cut 9 (fun ρ' w => ∃ (s25 : Bool), s25 = q7 ∧ agree ρ' [(3, .slice A3' n3' c3'), (9, .pointer (some ⟨b3, 0, none⟩)), (10, .slice A7 n7 c7), (11, .int .i64 s7), (12, .int .i64 (k1 : Int)), (14, .bool (decide (s7 < (y1.length : Int)))), (98, .bool s25)] ∧ HL F0 [] w0 w [Pr.R a0 [.slice A1 n1 c1, .slice A2 n2 c2], Pr.S a1 (.slice A1' n1' c1'), Pr.R a2 [.string a2.Name, .string a2.Left, .slice A3 n3 c3, .bool a2.Literal, .slice A4 n4 c4, .slice A5 n5 c5], Pr.S a3 (.slice A3' n3' c3'), Pr.S a0.Symbols (.slice A1 n1 c1), Pr.S a0.Rules (.slice A2 n2 c2), Pr.S a2.Right (.slice A3 n3 c3), Pr.S a2.Equations (.slice A4 n4 c4), Pr.S a2.Contributions (.slice A5 n5 c5), Pr.S y1 (.slice A7 n7 c7), Pr.A b4 (ob4 + 0 * 2) [.slice A8 n8 c8, .slice A9 n9 c9], Pr.R x1 [.slice A8 n8 c8, .slice A9 n9 c9], Pr.S x1.Inherited (.slice A8 n8 c8), Pr.S x1.Synthesized (.slice A9 n9 c9), Pr.A b5 (ob5 + k1 * 4) [.int .i64 x2.Kind, .int .i64 x2.Pos, .int .i64 x2.Visit, .string x2.Name], Pr.R x2 [.int .i64 x2.Kind, .int .i64 x2.Pos, .int .i64 x2.Visit, .string x2.Name]] [It.B b1 40 [.slice A1 n1 c1, .slice A2 n2 c2], It.B b2 45 [.string a2.Name, .string a2.Left, .slice A3 n3 c3, .bool a2.Literal, .slice A4 n4 c4, .slice A5 n5 c5], It.O 3 s1 (.slice A13 n13 c13), It.B b3 124 [.slice A1 n1 c1, .slice A2 n2 c2, .string s2, .string s3, .slice A3 n3 c3, .bool s4, .slice A4 n4 c4, .slice A5 n5 c5, .slice A1' n1' c1', .slice A14 n14 c14, .slice A13 n13 c13, .slice A15 n15 c15], It.O 90 s5 (.slice A14 n14 c14), It.O 130 s6 (.slice A15 n15 c15), It.B b6 130 [.int .i64 x2.Kind, .int .i64 x2.Pos, .int .i64 x2.Visit, .string x2.Name]]) ?_ ?_
                  · refine WL.mvB rfl rfl rfl rfl (fun h13 => ?_) (fun h13 => ?_)
                    · have hm6 := ifp h13 hm6
                      refine WL.on rfl rfl (Wmv rfl rfl rfl rfl (WL.on rfl rfl (Wmv rfl rfl rfl rfl (WL.on rfl rfl (Wmv rfl rfl rfl rfl (WL.on rfl rfl ?_))))))
                      obtain ⟨hg3, hm6⟩ := grd_some hm6
                      obtain ⟨x3, hx3, hm6⟩ := bd hm6
                      obtain ⟨b7, ob7, cb7, A28, n28, c28, A29, n29, c29, hvb7, H⟩ := ixS_Phase H (i := 9) rfl hx3
                      refine WL.ev rfl rfl (Ev.ixV rfl el125 sz129 rfl hvb7 rfl hg3 (lt_of hx3)) (WL.on rfl rfl (Wfa rfl rfl rfl fo129_1 rfl (WL.on rfl rfl (WL.ev rfl rfl (Ev.ld rfl ag26 rfl ((H.rA (i := 16) rfl).cell rfl)) (WL.on rfl rfl ?_)))))
                      obtain ⟨y4, hy5, hm6⟩ := bd hm6
                      refine WL.call rfl rfl rfl rfl rfl ok85 rfl (sl28Knows_ok hy5 (F0 := fun q => q < _) ⟨(H.rB (i := 3) rfl).lt, _, At.blk (H.rB (i := 3) rfl), ⟨_, _, _, _, _, _, _, _, _, rfl, hS5, hS6, (H.rS (i := 4) rfl), (H.rS (i := 5) rfl), (H.rS (i := 6) rfl), (H.rS (i := 7) rfl), (H.rS (i := 8) rfl), (H.rS (i := 1) rfl), (H.rO (i := 4) rfl), (H.rO (i := 2) rfl), (H.rO (i := 5) rfl)⟩⟩ (by decide : I64 0) (H.rS (i := 19) rfl)) ?_
                      rintro _ w18 hE rfl
                      have H := H.ext hE
                      refine WL.ev rfl rfl (Ev.pickT rfl rfl rfl) (WL.nil ?_)
                      obtain rfl := sm hm6
                      exact ⟨y4, rfl, ⟨rfl, rfl, rfl, rfl, rfl, rfl, rfl, trivial⟩, H.keep 16 7⟩
                    · have hm6 := ifn h13 hm6
                      refine WL.off rfl rfl rfl (WL.off rfl rfl rfl (WL.off rfl rfl rfl (WL.off rfl rfl rfl (WL.off rfl rfl rfl (WL.off rfl rfl rfl (WL.off rfl rfl rfl (WL.ev rfl rfl (Ev.pickF rfl rfl rfl) (WL.nil ?_))))))))
                      obtain rfl := sm hm6
                      exact ⟨false, rfl, ⟨rfl, rfl, rfl, rfl, rfl, rfl, rfl, trivial⟩, H.keep 16 7⟩
                  · rintro ρ' w19 ⟨s25, rfl, hag, H⟩
                    obtain ⟨σ, rfl⟩ := ofL_ex hag
                    refine Wsn rfl rfl rfl rfl ?_
                    refine Sreg ?_
                    refine Wmv rfl rfl rfl rfl ?_
                    obtain ⟨hg4, hb1⟩ := grd_some hb1
                    refine WL.ev rfl rfl (Ev.bin rfl rfl rfl (Bin.add hg4)) (Wsn rfl rfl rfl rfl ?_)
                    refine Sreg ?_
                    refine Wmv rfl rfl rfl rfl ?_
                    obtain ⟨q8, hm7, hb1⟩ := bd hb1
                    refine WL.cut 6 (fun ρ' w => ∃ (s26 : Bool), s26 = q8 ∧ agree ρ' [(3, .slice A3' n3' c3'), (9, .pointer (some ⟨b3, 0, none⟩)), (10, .slice A7 n7 c7), (11, .int .i64 (s7 + 1)), (12, .int .i64 (k1 : Int)), (14, .bool s25), (107, .bool s26)] ∧ HL F0 [] w0 w [Pr.R a0 [.slice A1 n1 c1, .slice A2 n2 c2], Pr.S a1 (.slice A1' n1' c1'), Pr.R a2 [.string a2.Name, .string a2.Left, .slice A3 n3 c3, .bool a2.Literal, .slice A4 n4 c4, .slice A5 n5 c5], Pr.S a3 (.slice A3' n3' c3'), Pr.S a0.Symbols (.slice A1 n1 c1), Pr.S a0.Rules (.slice A2 n2 c2), Pr.S a2.Right (.slice A3 n3 c3), Pr.S a2.Equations (.slice A4 n4 c4), Pr.S a2.Contributions (.slice A5 n5 c5), Pr.S y1 (.slice A7 n7 c7), Pr.A b4 (ob4 + 0 * 2) [.slice A8 n8 c8, .slice A9 n9 c9], Pr.R x1 [.slice A8 n8 c8, .slice A9 n9 c9], Pr.S x1.Inherited (.slice A8 n8 c8), Pr.S x1.Synthesized (.slice A9 n9 c9), Pr.A b5 (ob5 + k1 * 4) [.int .i64 x2.Kind, .int .i64 x2.Pos, .int .i64 x2.Visit, .string x2.Name], Pr.R x2 [.int .i64 x2.Kind, .int .i64 x2.Pos, .int .i64 x2.Visit, .string x2.Name]] [It.B b1 40 [.slice A1 n1 c1, .slice A2 n2 c2], It.B b2 45 [.string a2.Name, .string a2.Left, .slice A3 n3 c3, .bool a2.Literal, .slice A4 n4 c4, .slice A5 n5 c5], It.O 3 s1 (.slice A13 n13 c13), It.B b3 124 [.slice A1 n1 c1, .slice A2 n2 c2, .string s2, .string s3, .slice A3 n3 c3, .bool s4, .slice A4 n4 c4, .slice A5 n5 c5, .slice A1' n1' c1', .slice A14 n14 c14, .slice A13 n13 c13, .slice A15 n15 c15], It.O 90 s5 (.slice A14 n14 c14), It.O 130 s6 (.slice A15 n15 c15), It.B b6 130 [.int .i64 x2.Kind, .int .i64 x2.Pos, .int .i64 x2.Visit, .string x2.Name]]) ?_ ?_
                    · refine WL.mvB rfl rfl rfl rfl (fun h14 => ?_) (fun h14 => ?_)
                      · have hm7 := ifp h14 hm7
                        refine WL.on rfl rfl (Wmv rfl rfl rfl rfl (WL.on rfl rfl (Wmv rfl rfl rfl rfl (WL.on rfl rfl (WL.ev rfl rfl (Ev.lenV rfl el125 rfl (H.rS (i := 9) rfl)) (WL.on rfl rfl (WL.ev rfl rfl (Ev.bin rfl rfl rfl Bin.lss) (WL.ev rfl rfl (Ev.pickT rfl rfl rfl) (WL.nil ?_)))))))))
                        obtain rfl := sm hm7
                        exact ⟨(decide ((s7 + 1) < (y1.length : Int))), rfl, ⟨rfl, rfl, rfl, rfl, rfl, rfl, rfl, trivial⟩, H.keep 16 7⟩
                      · have hm7 := ifn h14 hm7
                        refine WL.off rfl rfl rfl (WL.off rfl rfl rfl (WL.off rfl rfl rfl (WL.off rfl rfl rfl (WL.ev rfl rfl (Ev.pickF rfl rfl rfl) (WL.nil ?_)))))
                        obtain rfl := sm hm7
                        exact ⟨false, rfl, ⟨rfl, rfl, rfl, rfl, rfl, rfl, rfl, trivial⟩, H.keep 16 7⟩
                    · rintro ρ' w20 ⟨s26, rfl, hag, H⟩
                      obtain ⟨σ, rfl⟩ := ofL_ex hag
                      refine WL.nil ?_
                      refine CW.condB rfl (fun h15 => ?_) (fun h15 => ?_)
                      · have hb1 := ifp h15 hb1
                        refine CW.reg ?_
                        refine Wmv rfl rfl rfl rfl (Wmv rfl rfl rfl rfl (Wmv rfl rfl rfl rfl ?_))
                        obtain ⟨hg5, hb1⟩ := grd_some hb1
                        obtain ⟨x4, hx4, hb1⟩ := bd hb1
                        obtain ⟨b8, ob8, cb8, A30, n30, c30, A31, n31, c31, hvb8, H⟩ := ixS_Phase H (i := 9) rfl hx4
                        refine WL.ev rfl rfl (Ev.ixV rfl el125 sz129 rfl hvb8 rfl hg5 (lt_of hx4)) (Wfa rfl rfl rfl fo129_0 rfl (WL.ev rfl rfl (Ev.ld rfl ag26 rfl ((H.rA (i := 16) rfl).cell rfl)) ?_))
                        obtain ⟨z5, hy6, hb1⟩ := bd hb1
                        obtain ⟨F', M', hfF, hoF, hcM⟩ := H.callN [false, false, true, true, true, true, false] ⟨noO, noB, noO, noO, trivial⟩
                        obtain ⟨H', hcN⟩ := hcM (ps := [Pr.S x4.Inherited (.slice A30 n30 c30), Pr.S a0.Symbols (.slice A1 n1 c1), Pr.S a0.Rules (.slice A2 n2 c2), Pr.S a2.Right (.slice A3 n3 c3), Pr.S a2.Equations (.slice A4 n4 c4), Pr.S a2.Contributions (.slice A5 n5 c5), Pr.S a1 (.slice A1' n1' c1')]) ⟨hfF.get (i := 18) rfl, hfF.get (i := 4) rfl, hfF.get (i := 5) rfl, hfF.get (i := 6) rfl, hfF.get (i := 7) rfl, hfF.get (i := 8) rfl, hfF.get (i := 1) rfl, trivial⟩
                        refine WL.call rfl rfl rfl rfl rfl ok82 rfl (sl28Learn_ok hy6 (by decide : I64 0) hS5 hS6 H') ?_
                        rintro _ w21 hE ⟨A32, n32, c32, A33, n33, c33, A34, n34, c34, rfl, hS16, hS17, H'⟩
                        have H := hcN 4 H' rfl ⟨fun _ _ _ _ _ h => h, ⟨fun _ _ _ _ _ h => h, ⟨fun _ _ _ _ _ h => h, ⟨fun _ _ _ _ _ h => h, trivial⟩⟩⟩⟩
                        refine WL.nil ?_
                        refine Sreg ?_
                        refine Wmv rfl rfl rfl rfl (WL.ev rfl rfl (Ev.not rfl rfl) (WL.nil ?_))
                        refine CW.condBN rfl (fun h16 => ?_) (fun h16 => ?_)
                        · have hb1 := ifn h16 hb1
                          refine Sreg ?_
                          refine Wsn rfl rfl rfl rfl ?_
                          refine CW.ret ?_
                          obtain rfl := sm hb1
                          obtain rfl := ht1 _ rfl
                          obtain rfl := sm hr
                          exact ⟨_, res1 rfl rfl rfl, H.ext0, rfl⟩
                        · have hb1 := ifp h16 hb1
                          refine CW.skip ?_
                          refine CW.reg ?_
                          refine Wmv rfl rfl rfl rfl (WL.ev rfl rfl (Ev.bin rfl rfl rfl (Bin.addN (a := k1) (b := 1) rfl (i64_succN hk2 hl3.2))) (Wsn rfl rfl rfl rfl ?_))
                          obtain rfl := sm hb1
                          have hq1 := hs1 _ rfl
                          exact ⟨⟨k1 + 1, z5.visits, z5.r.Name, z5.r.Left, z5.r.Literal, z5.known, z5.steps, (s7 + 1), (.slice A33 n33 c33), (.slice A32 n32 c32), (.slice A34 n34 c34)⟩, ⟨rfl, rfl, rfl, rfl, rfl, trivial⟩, ⟨hk2, hq1, hS16, hS17, hg4, H.keep 14 6⟩, Nat.sub_lt_sub_left hk2 (Nat.lt_succ_self _)⟩
                      · have hb1 := ifn h15 hb1
                        refine CW.skip ?_
                        refine Sreg ?_
                        refine Wmv rfl rfl rfl rfl (WL.ev rfl rfl (Ev.not rfl rfl) (WL.nil ?_))
                        refine CW.condBN rfl (fun h17 => ?_) (fun h17 => ?_)
                        · have hb1 := ifn h17 hb1
                          refine Sreg ?_
                          refine Wsn rfl rfl rfl rfl ?_
                          refine CW.ret ?_
                          obtain rfl := sm hb1
                          obtain rfl := ht1 _ rfl
                          obtain rfl := sm hr
                          exact ⟨_, res1 rfl rfl rfl, H.ext0, rfl⟩
                        · have hb1 := ifp h17 hb1
                          refine CW.skip ?_
                          refine CW.reg ?_
                          refine Wmv rfl rfl rfl rfl (WL.ev rfl rfl (Ev.bin rfl rfl rfl (Bin.addN (a := k1) (b := 1) rfl (i64_succN hk2 hl3.2))) (Wsn rfl rfl rfl rfl ?_))
                          obtain rfl := sm hb1
                          have hq1 := hs1 _ rfl
                          exact ⟨⟨k1 + 1, s1, s2, s3, s4, s5, s6, (s7 + 1), (.slice A13 n13 c13), (.slice A14 n14 c14), (.slice A15 n15 c15)⟩, ⟨rfl, rfl, rfl, rfl, rfl, trivial⟩, ⟨hk2, hq1, hS5, hS6, hg4, H.keep 14 6⟩, Nat.sub_lt_sub_left hk2 (Nat.lt_succ_self _)⟩
          · have hb1 := ifn h9 hb1
            refine CW.reg ?_
            refine Wsn rfl rfl rfl rfl ?_
            refine Sreg ?_
            refine Wmv rfl rfl rfl rfl (WL.ev rfl rfl (Ev.not rfl rfl) (WL.nil ?_))
            refine CW.condT rfl ?_
            refine Sreg ?_
            refine Wsn rfl rfl rfl rfl ?_
            refine CW.ret ?_
            obtain rfl := sm hb1
            obtain rfl := ht1 _ rfl
            obtain rfl := sm hr
            exact ⟨_, res1 rfl rfl rfl, H.ext0, rfl⟩
    · obtain rfl := findL_end hq1 (not_cast_lt h2)
      have hr := (onr_inl _ _ _).symm.trans hr
      refine CW.exit ?_
      refine Sreg ?_
      refine Wmv rfl rfl rfl rfl (Wmv rfl rfl rfl rfl (WL.ev rfl rfl (Ev.lenV rfl el125 rfl (H.rS (i := 9) rfl)) (WL.ev rfl rfl (Ev.bin rfl rfl rfl Bin.eql) ?_)))
      obtain ⟨q9, hm8, hr⟩ := bd hr
      refine WL.cut 4 (fun ρ' w => ∃ (s27 : Bool), s27 = q9 ∧ agree ρ' [(124, .bool s27)] ∧ HL F0 [] w0 w [Pr.R a0 [.slice A1 n1 c1, .slice A2 n2 c2], Pr.S a1 (.slice A1' n1' c1'), Pr.R a2 [.string a2.Name, .string a2.Left, .slice A3 n3 c3, .bool a2.Literal, .slice A4 n4 c4, .slice A5 n5 c5], Pr.S a3 (.slice A3' n3' c3'), Pr.S a0.Symbols (.slice A1 n1 c1), Pr.S a0.Rules (.slice A2 n2 c2), Pr.S a2.Right (.slice A3 n3 c3), Pr.S a2.Equations (.slice A4 n4 c4), Pr.S a2.Contributions (.slice A5 n5 c5), Pr.S y1 (.slice A7 n7 c7), Pr.A b4 (ob4 + 0 * 2) [.slice A8 n8 c8, .slice A9 n9 c9], Pr.R x1 [.slice A8 n8 c8, .slice A9 n9 c9], Pr.S x1.Inherited (.slice A8 n8 c8), Pr.S x1.Synthesized (.slice A9 n9 c9)] [It.B b1 40 [.slice A1 n1 c1, .slice A2 n2 c2], It.B b2 45 [.string a2.Name, .string a2.Left, .slice A3 n3 c3, .bool a2.Literal, .slice A4 n4 c4, .slice A5 n5 c5], It.O 3 s1 (.slice A13 n13 c13), It.B b3 124 [.slice A1 n1 c1, .slice A2 n2 c2, .string s2, .string s3, .slice A3 n3 c3, .bool s4, .slice A4 n4 c4, .slice A5 n5 c5, .slice A1' n1' c1', .slice A14 n14 c14, .slice A13 n13 c13, .slice A15 n15 c15], It.O 90 s5 (.slice A14 n14 c14), It.O 130 s6 (.slice A15 n15 c15)]) ?_ ?_
      · refine WL.mvD rfl rfl rfl rfl (fun h18 => ?_) (fun h18 => ?_)
        · have hm8 := ifp h18 hm8
          refine WL.on rfl rfl (Wmv rfl rfl rfl rfl (WL.on rfl rfl ?_))
          obtain ⟨y5, hy7, hm8⟩ := bd hm8
          refine WL.call rfl rfl rfl rfl rfl ok86 rfl (sl28Whole_ok hy7 (F0 := fun q => q < _) ⟨(H.rB (i := 3) rfl).lt, _, At.blk (H.rB (i := 3) rfl), ⟨_, _, _, _, _, _, _, _, _, rfl, hS5, hS6, (H.rS (i := 4) rfl), (H.rS (i := 5) rfl), (H.rS (i := 6) rfl), (H.rS (i := 7) rfl), (H.rS (i := 8) rfl), (H.rS (i := 1) rfl), (H.rO (i := 4) rfl), (H.rO (i := 2) rfl), (H.rO (i := 5) rfl)⟩⟩) ?_
          rintro _ w22 hE rfl
          have H := H.ext hE
          refine WL.ev rfl rfl (Ev.pickT rfl rfl rfl) (WL.nil ?_)
          obtain rfl := sm hm8
          exact ⟨y5, rfl, ⟨rfl, trivial⟩, H.keep 14 6⟩
        · have hm8 := ifn h18 hm8
          refine WL.off rfl rfl rfl (WL.off rfl rfl rfl (WL.ev rfl rfl (Ev.pickF rfl rfl rfl) (WL.nil ?_)))
          obtain rfl := sm hm8
          exact ⟨false, rfl, ⟨rfl, trivial⟩, H.keep 14 6⟩
      · rintro ρ' w23 ⟨s27, rfl, hag, H⟩
        obtain ⟨σ, rfl⟩ := ofL_ex hag
        refine Wsn rfl rfl rfl rfl ?_
        refine CW.ret ?_
        obtain rfl := sm hr
        exact ⟨_, res1 rfl rfl rfl, H.ext0, rfl⟩

noncomputable def irequired_L2 (k1 : Nat) : Nat → Attribute → (List Occurrence) → Option (List Occurrence) := fun k2 x1 s3 => 
  (
  if x1.Mode = 2 then (
  grd (((s3.length : Int) + 1) * 24 ≤ 140737488355328 ∧ (s3.length : Int) + 1 ≤ 9223372036854775807) <|
  some (s3 ++ [(⟨(k1 : Int), x1.Name⟩ : Occurrence)])
  ) else (
  some s3
  )
  ).bind fun s4 =>
  some s4
noncomputable def irequired_L3 (k1 : Nat) : Nat → Attribute → (List Occurrence) → Option (List Occurrence) := fun k3 x2 s5 => 
  (
  if x2.Mode = 1 then (
  grd (((s5.length : Int) + 1) * 24 ≤ 140737488355328 ∧ (s5.length : Int) + 1 ≤ 9223372036854775807) <|
  some (s5 ++ [(⟨(k1 : Int), x2.Name⟩ : Occurrence)])
  ) else (
  some s5
  )
  ).bind fun s6 =>
  some s6
noncomputable def irequired_L1 (a0 : Grammar) (a1 : Rule) : Nat → (List Occurrence) → Option (List Occurrence) := fun k1 s1 => 
  (
  if (k1 : Int) = 0 then (
  (iSymbolAt_m a1 (k1 : Int)).bind fun y1 =>
  (ifindSymbol_m a0 y1).bind fun (y2, y3) =>
  (eachL (irequired_L2 k1) 0 y2.Attributes s1).bind fun s3 =>
  some s3
  ) else (
  (iSymbolAt_m a1 (k1 : Int)).bind fun y4 =>
  (ifindSymbol_m a0 y4).bind fun (y5, y6) =>
  (eachL (irequired_L3 k1) 0 y5.Attributes s1).bind fun s5 =>
  some s5
  )
  ).bind fun s2 =>
  some s2
noncomputable def irequired_m (a0 : Grammar) (a1 : Rule) : Option (List Occurrence) :=
  grd (I64 ((a1.Right.length + 1 : Nat) : Int)) <|
  (eachN (irequired_L1 a0 a1) 0 ((a1.Right.length + 1)) ([] : List Occurrence)).bind fun s1 =>
  some s1
theorem irequired_ok {a0 : Grammar} {a1 : Rule} {r : (List Occurrence)} (hr : irequired_m a0 a1 = some r) {F0 : Nat → Prop} {w0 : World} {ca0 : List Value} (ha0 : rd F0 w0 a0 ca0) {ca1 : List Value} (ha1 : rd F0 w0 a1 ca1) :
    Ret Tryz.prog 145 #[.agg ca0.toArray, .agg ca1.toArray] w0 (fun _ => False) fun v w => ∃ A0 : Option Addr, ∃ n0 c0 : Nat, v = (.slice A0 n0 c0) ∧ HL F0 [] w0 w [] [It.O 90 r (.slice A0 n0 c0)] := by
  have H := ((HL.start F0 w0).argR ha0).argR ha1
  obtain ⟨A1, n1, c1, A2, n2, c2, rfl, H⟩ := op_Grammar H (i := 0) rfl
  obtain ⟨A3, n3, c3, A4, n4, c4, A5, n5, c5, rfl, hS1, hS2, H⟩ := op_Rule H (i := 1) rfl
  refine enter Tryz.func145 rfl rfl rfl ?_
  refine Sreg ?_
  refine WL.boxH rfl rfl rfl rfl rfl H fun b1 w1 H => ?_
  refine WL.boxH rfl rfl rfl rfl rfl H fun b2 w2 H => ?_
  refine Wsn rfl rfl rfl rfl ?_
  refine Sreg ?_
  refine WL.lit0H (α := Occurrence) rfl rfl rfl el76 sz90 H fun A6 n6 c6 w3 H => ?_
  refine Wsn rfl rfl rfl rfl ?_
  refine SSr ?_
  refine Wfa rfl rfl rfl fo45_2 rfl (WL.ev rfl rfl (Ev.ld rfl ag26 rfl ((H.rB (i := 1) rfl).cell rfl)) ?_)
  have hl1 := (H.rS (i := 4) rfl).I
  refine WL.ev rfl rfl (Ev.lenV rfl el26 rfl (H.rS (i := 4) rfl)) ?_
  obtain ⟨hg1, hr⟩ := grd_some hr
  refine WL.ev rfl rfl (Ev.bin rfl rfl rfl (Bin.addN (a := a1.Right.length) (b := 1) rfl hg1)) (Wmv rfl rfl rfl rfl (WL.nil ?_))
  obtain ⟨q1, hq1, hr⟩ := bd hr
  refine CW.block (CW.loop (α := Nat × (List Occurrence) × Value) (fun ⟨k1, s1, v1⟩ => [(2, .pointer (some ⟨b1, 0, none⟩)), (3, .pointer (some ⟨b2, 0, none⟩)), (5, v1), (16, .int .i64 ((a1.Right.length + 1 : Nat) : Int)), (17, .int .i64 (k1 : Int))]) (fun ⟨k1, s1, v1⟩ w => k1 ≤ (a1.Right.length + 1) ∧ eachN (irequired_L1 a0 a1) k1 ((a1.Right.length + 1) - k1) s1 = some q1 ∧ HL F0 [] w0 w [Pr.R a0 [.slice A1 n1 c1, .slice A2 n2 c2], Pr.R a1 [.string a1.Name, .string a1.Left, .slice A3 n3 c3, .bool a1.Literal, .slice A4 n4 c4, .slice A5 n5 c5], Pr.S a0.Symbols (.slice A1 n1 c1), Pr.S a0.Rules (.slice A2 n2 c2), Pr.S a1.Right (.slice A3 n3 c3), Pr.S a1.Equations (.slice A4 n4 c4), Pr.S a1.Contributions (.slice A5 n5 c5)] [It.B b1 40 [.slice A1 n1 c1, .slice A2 n2 c2], It.B b2 45 [.string a1.Name, .string a1.Left, .slice A3 n3 c3, .bool a1.Literal, .slice A4 n4 c4, .slice A5 n5 c5], It.O 90 s1 v1]) (fun ⟨k1, s1, v1⟩ => (a1.Right.length + 1) - k1) ⟨0, ([] : List Occurrence), (.slice A6 n6 c6)⟩ ⟨rfl, rfl, rfl, rfl, rfl, trivial⟩ ⟨Nat.zero_le _, hq1, H.keep 7 3⟩ ?_)
  rintro ⟨k1, s1, v1⟩ σ w4 ⟨hk1, hq1, H⟩
  obtain ⟨A7, n7, c7, rfl⟩ := (H.rO (i := 2) rfl).form3
  refine Sreg ?_
  refine WL.ev rfl rfl (Ev.bin rfl rfl rfl Bin.lss) (WL.nil ?_)
  refine CW.seq (CW.condD rfl (fun h1 => ?_) (fun h1 => ?_))
  · have hk2 := cast_lt h1
    obtain ⟨z1, hb1, hq1⟩ := eachN_go hq1 hk2
    refine CW.skip ?_
    obtain ⟨q2, hm1, hb1⟩ := bd hb1
    refine CW.seq (CW.mid (fun ρ' w => ∃ (s2 : List Occurrence) (v2 : Value), s2 = q2 ∧ agree ρ' [(2, .pointer (some ⟨b1, 0, none⟩)), (3, .pointer (some ⟨b2, 0, none⟩)), (5, v2), (16, .int .i64 ((a1.Right.length + 1 : Nat) : Int)), (17, .int .i64 (k1 : Int))] ∧ HL F0 [] w0 w [Pr.R a0 [.slice A1 n1 c1, .slice A2 n2 c2], Pr.R a1 [.string a1.Name, .string a1.Left, .slice A3 n3 c3, .bool a1.Literal, .slice A4 n4 c4, .slice A5 n5 c5], Pr.S a0.Symbols (.slice A1 n1 c1), Pr.S a0.Rules (.slice A2 n2 c2), Pr.S a1.Right (.slice A3 n3 c3), Pr.S a1.Equations (.slice A4 n4 c4), Pr.S a1.Contributions (.slice A5 n5 c5)] [It.B b1 40 [.slice A1 n1 c1, .slice A2 n2 c2], It.B b2 45 [.string a1.Name, .string a1.Left, .slice A3 n3 c3, .bool a1.Literal, .slice A4 n4 c4, .slice A5 n5 c5], It.O 90 s2 v2]) ?_ ?_)
    · refine CW.block (Sreg ?_)
      refine Wmv rfl rfl rfl rfl (Wsn rfl rfl rfl rfl ?_)
      refine Sreg ?_
      refine Wsn rfl rfl rfl rfl ?_
      refine SSr ?_
      refine Wmv rfl rfl rfl rfl (WL.ev rfl rfl (Ev.bin rfl rfl rfl Bin.eql) (WL.nil ?_))
      refine CW.condD rfl (fun h2 => ?_) (fun h2 => ?_)
      · have hm1 := ifp h2 hm1
        refine CW.reg ?_
        refine Wsn rfl rfl rfl rfl ?_
        obtain ⟨y1, hy1, hm1⟩ := bd hm1
        obtain ⟨_, _, _, hS3⟩ := (iSymbolAt_ok hy1 ⟨_, _, _, rfl, hS1, hS2, (H.rS (i := 4) rfl), (H.rS (i := 5) rfl), (H.rS (i := 6) rfl)⟩ (i64_nat hk2 hg1)).get
        obtain ⟨⟨y2, y3⟩, hy2, hm1⟩ := bd hm1
        obtain ⟨F_G1, hFl_G1, hF_G1, hcl_G1⟩ := H.callL
        refine CW.seq (CW.any2 10 (fun ρ => [.fix (.agg #[.slice A1 n1 c1, .slice A2 n2 c2]), .fix (.agg #[.string a1.Name, .string a1.Left, .slice A3 n3 c3, .bool a1.Literal, .slice A4 n4 c4, .slice A5 n5 c5]), .fix (.int .i64 (k1 : Int)), .fix (.string y1), .free (fun S v w => ∃ A8 : Option Addr, ∃ n8 : Nat, ∃ c8 : Nat, v = .tuple #[.agg #[.string y2.Name, .slice A8 n8 c8], .bool y3] ∧ y2.Name.size ≤ 9223372036854775807 ∧ NewV F_G1 w4 S w [Pr.S y2.Attributes (.slice A8 n8 c8)] []), .dep 27 id, .dep 22 (tupAt 0), .dep 22 (tupAt 1), .free (VarB 161 2), .wr 8 28 (WrB 161)]) [[], [], [], [], [], [27], [22], [22], [], [8, 28]] NoM (fun _ _ => True) [] [none, none, none, none, none, none, none, none, none, some 8] (noM _) hmix (by kernel_rfl) rfl ⟨trivial, trivial, trivial, trivial, fun _ _ _ _ _ ⟨A8, n8, c8, hv, h0, hh⟩ hc hS hT => ⟨A8, n8, c8, hv, h0, hh.chgT hc hS hT hFl_G1⟩, trivial, trivial, trivial, fun _ _ _ _ _ h hc hS _ => h.chgT hc hS, fun _ _ _ _ _ _ h hc hS _ => h.chgT hc hS, trivial⟩ trivial (fun _ _ _ _ _ _ _ => trivial) ?_)
        refine LL2.fx rfl rfl rfl rfl rfl (fun _ hq hK => Ev.lda rfl ag40 sz40 rfl (At.blk ((H.ext hq).rB (i := 0) rfl)) rfl) ?_
        refine LL2.fx rfl rfl rfl rfl rfl (fun _ hq hK => Ev.lda rfl ag45 sz45 rfl (At.blk ((H.ext hq).rB (i := 1) rfl)) rfl) ?_
        refine LL2.fx rfl rfl rfl rfl rfl (fun _ hq hK => Ev.mv rfl rfl) ?_
        refine LL2.fixed rfl rfl rfl rfl (fun _ hq hK => OpX.call rfl rfl rfl rfl ok111 rfl (iSymbolAt_ok hy1 ⟨_, _, _, rfl, hS1, hS2, ((H.ext hq).rS (i := 4) rfl), ((H.ext hq).rS (i := 5) rfl), ((H.ext hq).rS (i := 6) rfl)⟩ (i64_nat hk2 hg1)) fun _ _ hE h => ⟨hE, h.1⟩) ?_
        refine LL2.free rfl rfl rfl rfl (fun wq hq hK => ?_) (fun v_G1_4 S_G1_4 => ?_)
        · have hF := hF_G1.ext hq
          refine OpX.call rfl rfl rfl rfl ok113 rfl (ifindSymbol_ok hy2 ⟨_, _, rfl, (hF.get (i := 2) rfl), (hF.get (i := 3) rfl)⟩ hS3) ?_
          rintro _ w hE ⟨A8, n8, c8, rfl, h0, hh⟩
          exact ⟨hE, A8, n8, c8, rfl, h0, NewV.of hFl_G1 hq hh⟩
        refine LL2.mv rfl rfl rfl rfl rfl (.inl rfl) rfl ?_
        refine LL2.ex rfl rfl rfl rfl rfl rfl rfl (fun wq hq hK => ?_) ?_
        · have hK : ∀ j' (_ : (directs _).contains j' = true), _ := hK 5 rfl
          obtain ⟨A8, n8, c8, rfl, _, _⟩ := hK 4 rfl
          exact ⟨_, _, rfl, rfl⟩
        refine LL2.ex rfl rfl rfl rfl rfl rfl rfl (fun wq hq hK => ?_) ?_
        · have hK : ∀ j' (_ : (directs _).contains j' = true), _ := hK 5 rfl
          obtain ⟨A8, n8, c8, rfl, _, _⟩ := hK 4 rfl
          exact ⟨_, _, rfl, rfl⟩
        refine LL2.free rfl rfl rfl rfl (fun wq hq hK => OpX.allocV rfl rfl ze161 rfl) (fun v_G1_8 S_G1_8 => ?_)
        refine LL2.st (k := 2) rfl rfl rfl (by decide) rfl rfl rfl rfl sz161 rfl rfl (fun wq hq hK => hK 8 rfl) (fun wq hq hK => ?_) ?_
        · obtain ⟨A8, n8, c8, rfl, _, _⟩ := hK 4 rfl
          exact ⟨_, rfl, rfl, (all1 rfl (all1 rfl all0))⟩
        intro w5 hE _ hK hap hbd
        have hE := chgNew hE
        obtain ⟨A8, n8, c8, rfl, hS4, hN1⟩ := hK 4 (by decide)
        obtain ⟨b3, rfl, hN2⟩ := wrNew (cells := [.string y2.Name, .slice A8 n8 c8]) (hK 8 (by decide)) (hK 9 (by decide)) rfl
        have H := hcl_G1 (NewV.hl (hN1.app (hN2.V ⟨fun _ _ _ _ _ h => h, trivial⟩) fun q h1 h2 => absurd (hap 4 8 q h1 h2) (by decide)) hE fun q hq => hq.elim (fun h => (hbd 4 q h).1) fun h => (hbd 8 q h).1)
        refine Wsn rfl rfl rfl rfl ?_
        refine Sreg ?_
        refine Wfa rfl rfl rfl fo161_1 rfl (WL.ev rfl rfl (Ev.ld rfl ag81 rfl ((H.rB (i := 3) rfl).cell rfl)) ?_)
        have hl2 := (H.rS (i := 7) rfl).I
        refine WL.ev rfl rfl (Ev.lenV rfl el81 rfl (H.rS (i := 7) rfl)) (Wmv rfl rfl rfl rfl (WL.nil ?_))
        obtain ⟨q3, hq2, hm1⟩ := bd hm1
        refine CW.block (CW.loop (α := Nat × (List Occurrence) × Value) (fun ⟨k2, s3, v3⟩ => [(2, .pointer (some ⟨b1, 0, none⟩)), (3, .pointer (some ⟨b2, 0, none⟩)), (5, v3), (6, .int .i64 (k1 : Int)), (7, .int .i64 2), (16, .int .i64 ((a1.Right.length + 1 : Nat) : Int)), (17, .int .i64 (k1 : Int)), (31, .slice A8 n8 c8), (32, .int .i64 (y2.Attributes.length : Int)), (33, .int .i64 (k2 : Int))]) (fun ⟨k2, s3, v3⟩ w => k2 ≤ y2.Attributes.length ∧ eachL (irequired_L2 k1) k2 (y2.Attributes.drop k2) s3 = some q3 ∧ HL F0 [] w0 w [Pr.R a0 [.slice A1 n1 c1, .slice A2 n2 c2], Pr.R a1 [.string a1.Name, .string a1.Left, .slice A3 n3 c3, .bool a1.Literal, .slice A4 n4 c4, .slice A5 n5 c5], Pr.S a0.Symbols (.slice A1 n1 c1), Pr.S a0.Rules (.slice A2 n2 c2), Pr.S a1.Right (.slice A3 n3 c3), Pr.S a1.Equations (.slice A4 n4 c4), Pr.S a1.Contributions (.slice A5 n5 c5), Pr.S y2.Attributes (.slice A8 n8 c8)] [It.B b1 40 [.slice A1 n1 c1, .slice A2 n2 c2], It.B b2 45 [.string a1.Name, .string a1.Left, .slice A3 n3 c3, .bool a1.Literal, .slice A4 n4 c4, .slice A5 n5 c5], It.O 90 s3 v3, It.B b3 161 [.string y2.Name, .slice A8 n8 c8]]) (fun ⟨k2, s3, v3⟩ => y2.Attributes.length - k2) ⟨0, s1, (.slice A7 n7 c7)⟩ ⟨rfl, rfl, rfl, rfl, rfl, rfl, rfl, rfl, rfl, rfl, trivial⟩ ⟨Nat.zero_le _, hq2, H.keep 8 4⟩ ?_)
        rintro ⟨k2, s3, v3⟩ σ w6 ⟨hk3, hq2, H⟩
        obtain ⟨A9, n9, c9, rfl⟩ := (H.rO (i := 2) rfl).form3
        refine Sreg ?_
        refine WL.ev rfl rfl (Ev.bin rfl rfl rfl Bin.lss) (WL.nil ?_)
        refine CW.seq (CW.condD rfl (fun h3 => ?_) (fun h3 => ?_))
        · have hk4 := cast_lt h3
          obtain ⟨x1, z2, hx1, hb2, hq2⟩ := eachL_go hq2 hk4
          refine CW.skip ?_
          obtain ⟨q4, hm2, hb2⟩ := bd hb2
          refine CW.seq (CW.mid (fun ρ' w => ∃ (s4 : List Occurrence) (v4 : Value), s4 = q4 ∧ agree ρ' [(2, .pointer (some ⟨b1, 0, none⟩)), (3, .pointer (some ⟨b2, 0, none⟩)), (5, v4), (6, .int .i64 (k1 : Int)), (7, .int .i64 2), (16, .int .i64 ((a1.Right.length + 1 : Nat) : Int)), (17, .int .i64 (k1 : Int)), (31, .slice A8 n8 c8), (32, .int .i64 (y2.Attributes.length : Int)), (33, .int .i64 (k2 : Int))] ∧ HL F0 [] w0 w [Pr.R a0 [.slice A1 n1 c1, .slice A2 n2 c2], Pr.R a1 [.string a1.Name, .string a1.Left, .slice A3 n3 c3, .bool a1.Literal, .slice A4 n4 c4, .slice A5 n5 c5], Pr.S a0.Symbols (.slice A1 n1 c1), Pr.S a0.Rules (.slice A2 n2 c2), Pr.S a1.Right (.slice A3 n3 c3), Pr.S a1.Equations (.slice A4 n4 c4), Pr.S a1.Contributions (.slice A5 n5 c5), Pr.S y2.Attributes (.slice A8 n8 c8)] [It.B b1 40 [.slice A1 n1 c1, .slice A2 n2 c2], It.B b2 45 [.string a1.Name, .string a1.Left, .slice A3 n3 c3, .bool a1.Literal, .slice A4 n4 c4, .slice A5 n5 c5], It.O 90 s4 v4, It.B b3 161 [.string y2.Name, .slice A8 n8 c8]]) ?_ ?_)
          · refine CW.block (Sreg ?_)
            obtain ⟨b4, ob4, cb4, hvb4, hS5, hI1, hI2, H⟩ := ixS_Attribute H (i := 7) rfl hx1
            refine WL.ev rfl rfl (Ev.ixVN rfl el81 sz156 rfl hvb4 rfl (lt_of hx1)) (WL.ev rfl rfl (Ev.lda rfl ag156 sz156 rfl (H.rA (i := 8) rfl) rfl) ?_)
            refine WL.allocH rfl rfl rfl ze156 H fun b5 w7 H => ?_
            refine WL.stB (i := 4) rfl rfl rfl sz156 rfl rfl rfl rfl (all1 rfl (all1 rfl (all1 rfl (all1 rfl all0)))) H rfl rfl rfl fun w8 H => ?_
            refine WL.nil ?_
            refine Sreg ?_
            refine Wfa rfl rfl rfl fo156_2 rfl (WL.ev rfl rfl (Ev.ld rfl ag3 rfl ((H.rB (i := 4) rfl).cell rfl)) (Wmv rfl rfl rfl rfl (WL.ev rfl rfl (Ev.bin rfl rfl rfl Bin.eql) (WL.nil ?_))))
            refine CW.condD rfl (fun h4 => ?_) (fun h4 => ?_)
            · have hm2 := ifp h4 hm2
              refine CW.reg ?_
              refine Wmv rfl rfl rfl rfl (Wmv rfl rfl rfl rfl (Wfa rfl rfl rfl fo156_0 rfl (WL.ev rfl rfl (Ev.ld rfl ag9 rfl ((H.rB (i := 4) rfl).cell rfl)) (WL.ev rfl rfl (Ev.build rfl pl90 ze90 rfl rfl rfl rfl) ?_))))
              refine WL.lit1 rfl rfl rfl el76 sz90 ze90 rfl rfl rfl rfl rfl rfl fun b6 w9 hE hb hB => ?_
              have H := H.newB hE hb hB
              obtain ⟨hg2, hm2⟩ := grd_some hm2
              refine WL.appO (i := 2) (ys := [(⟨(k1 : Int), x1.Name⟩ : Occurrence)]) rfl rfl rfl el76 sz90 by90 ze90 rfl rfl rfl H rfl (fun _ => ownL.single ⟨rfl, (i64_nat hk2 hg1), hS5, rfl⟩) (.inr ⟨_, _, rfl, At.blk (H.rB (i := 5) rfl)⟩) hg2 fun A10 n10 c10 w10 H => ?_
              refine Wsn rfl rfl rfl rfl ?_
              obtain rfl := sm hm2
              exact ⟨(s3 ++ [(⟨(k1 : Int), x1.Name⟩ : Occurrence)]), _, rfl, ⟨rfl, rfl, rfl, rfl, rfl, rfl, rfl, rfl, rfl, rfl, trivial⟩, H.keep 8 4⟩
            · have hm2 := ifn h4 hm2
              refine CW.skip ?_
              obtain rfl := sm hm2
              exact ⟨s3, _, rfl, ⟨rfl, rfl, rfl, rfl, rfl, rfl, rfl, rfl, rfl, rfl, trivial⟩, H.keep 8 4⟩
          · rintro ρ' w11 ⟨s4, v4, rfl, hag, H⟩
            obtain ⟨σ, rfl⟩ := ofL_ex hag
            obtain ⟨A11, n11, c11, rfl⟩ := (H.rO (i := 2) rfl).form3
            refine CW.reg ?_
            refine WL.ev rfl rfl (Ev.bin rfl rfl rfl (Bin.addN (a := k2) (b := 1) rfl (i64_succN hk4 hl2.2))) (Wmv rfl rfl rfl rfl (WL.nil ?_))
            obtain rfl := sm hb2
            exact ⟨⟨k2 + 1, s4, (.slice A11 n11 c11)⟩, ⟨rfl, rfl, rfl, rfl, rfl, rfl, rfl, rfl, rfl, rfl, trivial⟩, ⟨hk4, hq2, H.keep 8 4⟩, Nat.sub_lt_sub_left hk4 (Nat.lt_succ_self _)⟩
        · obtain rfl := eachL_end hq2 (not_cast_lt h3)
          refine CW.exit ?_
          obtain rfl := sm hm1
          exact ⟨s3, _, rfl, ⟨rfl, rfl, rfl, rfl, rfl, trivial⟩, H.keep 7 3⟩
      · have hm1 := ifn h2 hm1
        refine CW.skip ?_
        obtain ⟨y4, hy3, hm1⟩ := bd hm1
        obtain ⟨_, _, _, hS6⟩ := (iSymbolAt_ok hy3 ⟨_, _, _, rfl, hS1, hS2, (H.rS (i := 4) rfl), (H.rS (i := 5) rfl), (H.rS (i := 6) rfl)⟩ (i64_nat hk2 hg1)).get
        obtain ⟨⟨y5, y6⟩, hy4, hm1⟩ := bd hm1
        obtain ⟨F_G2, hFl_G2, hF_G2, hcl_G2⟩ := H.callL
        refine CW.seq (CW.any2 10 (fun ρ => [.fix (.agg #[.slice A1 n1 c1, .slice A2 n2 c2]), .fix (.agg #[.string a1.Name, .string a1.Left, .slice A3 n3 c3, .bool a1.Literal, .slice A4 n4 c4, .slice A5 n5 c5]), .fix (.int .i64 (k1 : Int)), .fix (.string y4), .free (fun S v w => ∃ A12 : Option Addr, ∃ n12 : Nat, ∃ c12 : Nat, v = .tuple #[.agg #[.string y5.Name, .slice A12 n12 c12], .bool y6] ∧ y5.Name.size ≤ 9223372036854775807 ∧ NewV F_G2 w4 S w [Pr.S y5.Attributes (.slice A12 n12 c12)] []), .dep 27 id, .dep 22 (tupAt 0), .dep 22 (tupAt 1), .free (VarB 161 2), .wr 8 28 (WrB 161)]) [[], [], [], [], [], [27], [22], [22], [], [8, 28]] NoM (fun _ _ => True) [] [none, none, none, none, none, none, none, none, none, some 8] (noM _) hmix (by kernel_rfl) rfl ⟨trivial, trivial, trivial, trivial, fun _ _ _ _ _ ⟨A12, n12, c12, hv, h0, hh⟩ hc hS hT => ⟨A12, n12, c12, hv, h0, hh.chgT hc hS hT hFl_G2⟩, trivial, trivial, trivial, fun _ _ _ _ _ h hc hS _ => h.chgT hc hS, fun _ _ _ _ _ _ h hc hS _ => h.chgT hc hS, trivial⟩ trivial (fun _ _ _ _ _ _ _ => trivial) ?_)
        refine LL2.fx rfl rfl rfl rfl rfl (fun _ hq hK => Ev.lda rfl ag40 sz40 rfl (At.blk ((H.ext hq).rB (i := 0) rfl)) rfl) ?_
        refine LL2.fx rfl rfl rfl rfl rfl (fun _ hq hK => Ev.lda rfl ag45 sz45 rfl (At.blk ((H.ext hq).rB (i := 1) rfl)) rfl) ?_
        refine LL2.fx rfl rfl rfl rfl rfl (fun _ hq hK => Ev.mv rfl rfl) ?_
        refine LL2.fixed rfl rfl rfl rfl (fun _ hq hK => OpX.call rfl rfl rfl rfl ok111 rfl (iSymbolAt_ok hy3 ⟨_, _, _, rfl, hS1, hS2, ((H.ext hq).rS (i := 4) rfl), ((H.ext hq).rS (i := 5) rfl), ((H.ext hq).rS (i := 6) rfl)⟩ (i64_nat hk2 hg1)) fun _ _ hE h => ⟨hE, h.1⟩) ?_
        refine LL2.free rfl rfl rfl rfl (fun wq hq hK => ?_) (fun v_G2_4 S_G2_4 => ?_)
        · have hF := hF_G2.ext hq
          refine OpX.call rfl rfl rfl rfl ok113 rfl (ifindSymbol_ok hy4 ⟨_, _, rfl, (hF.get (i := 2) rfl), (hF.get (i := 3) rfl)⟩ hS6) ?_
          rintro _ w hE ⟨A12, n12, c12, rfl, h0, hh⟩
          exact ⟨hE, A12, n12, c12, rfl, h0, NewV.of hFl_G2 hq hh⟩
        refine LL2.mv rfl rfl rfl rfl rfl (.inl rfl) rfl ?_
        refine LL2.ex rfl rfl rfl rfl rfl rfl rfl (fun wq hq hK => ?_) ?_
        · have hK : ∀ j' (_ : (directs _).contains j' = true), _ := hK 5 rfl
          obtain ⟨A12, n12, c12, rfl, _, _⟩ := hK 4 rfl
          exact ⟨_, _, rfl, rfl⟩
        refine LL2.ex rfl rfl rfl rfl rfl rfl rfl (fun wq hq hK => ?_) ?_
        · have hK : ∀ j' (_ : (directs _).contains j' = true), _ := hK 5 rfl
          obtain ⟨A12, n12, c12, rfl, _, _⟩ := hK 4 rfl
          exact ⟨_, _, rfl, rfl⟩
        refine LL2.free rfl rfl rfl rfl (fun wq hq hK => OpX.allocV rfl rfl ze161 rfl) (fun v_G2_8 S_G2_8 => ?_)
        refine LL2.st (k := 2) rfl rfl rfl (by decide) rfl rfl rfl rfl sz161 rfl rfl (fun wq hq hK => hK 8 rfl) (fun wq hq hK => ?_) ?_
        · obtain ⟨A12, n12, c12, rfl, _, _⟩ := hK 4 rfl
          exact ⟨_, rfl, rfl, (all1 rfl (all1 rfl all0))⟩
        intro w12 hE _ hK hap hbd
        have hE := chgNew hE
        obtain ⟨A12, n12, c12, rfl, hS7, hN3⟩ := hK 4 (by decide)
        obtain ⟨b7, rfl, hN4⟩ := wrNew (cells := [.string y5.Name, .slice A12 n12 c12]) (hK 8 (by decide)) (hK 9 (by decide)) rfl
        have H := hcl_G2 (NewV.hl (hN3.app (hN4.V ⟨fun _ _ _ _ _ h => h, trivial⟩) fun q h1 h2 => absurd (hap 4 8 q h1 h2) (by decide)) hE fun q hq => hq.elim (fun h => (hbd 4 q h).1) fun h => (hbd 8 q h).1)
        refine Wsn rfl rfl rfl rfl ?_
        refine Sreg ?_
        refine Wfa rfl rfl rfl fo161_1 rfl (WL.ev rfl rfl (Ev.ld rfl ag81 rfl ((H.rB (i := 3) rfl).cell rfl)) ?_)
        have hl3 := (H.rS (i := 7) rfl).I
        refine WL.ev rfl rfl (Ev.lenV rfl el81 rfl (H.rS (i := 7) rfl)) (Wmv rfl rfl rfl rfl (WL.nil ?_))
        obtain ⟨q5, hq3, hm1⟩ := bd hm1
        refine CW.block (CW.loop (α := Nat × (List Occurrence) × Value) (fun ⟨k3, s5, v5⟩ => [(2, .pointer (some ⟨b1, 0, none⟩)), (3, .pointer (some ⟨b2, 0, none⟩)), (5, v5), (6, .int .i64 (k1 : Int)), (7, .int .i64 1), (16, .int .i64 ((a1.Right.length + 1 : Nat) : Int)), (17, .int .i64 (k1 : Int)), (31, .slice A12 n12 c12), (32, .int .i64 (y5.Attributes.length : Int)), (33, .int .i64 (k3 : Int))]) (fun ⟨k3, s5, v5⟩ w => k3 ≤ y5.Attributes.length ∧ eachL (irequired_L3 k1) k3 (y5.Attributes.drop k3) s5 = some q5 ∧ HL F0 [] w0 w [Pr.R a0 [.slice A1 n1 c1, .slice A2 n2 c2], Pr.R a1 [.string a1.Name, .string a1.Left, .slice A3 n3 c3, .bool a1.Literal, .slice A4 n4 c4, .slice A5 n5 c5], Pr.S a0.Symbols (.slice A1 n1 c1), Pr.S a0.Rules (.slice A2 n2 c2), Pr.S a1.Right (.slice A3 n3 c3), Pr.S a1.Equations (.slice A4 n4 c4), Pr.S a1.Contributions (.slice A5 n5 c5), Pr.S y5.Attributes (.slice A12 n12 c12)] [It.B b1 40 [.slice A1 n1 c1, .slice A2 n2 c2], It.B b2 45 [.string a1.Name, .string a1.Left, .slice A3 n3 c3, .bool a1.Literal, .slice A4 n4 c4, .slice A5 n5 c5], It.O 90 s5 v5, It.B b7 161 [.string y5.Name, .slice A12 n12 c12]]) (fun ⟨k3, s5, v5⟩ => y5.Attributes.length - k3) ⟨0, s1, (.slice A7 n7 c7)⟩ ⟨rfl, rfl, rfl, rfl, rfl, rfl, rfl, rfl, rfl, rfl, trivial⟩ ⟨Nat.zero_le _, hq3, H.keep 8 4⟩ ?_)
        rintro ⟨k3, s5, v5⟩ σ w13 ⟨hk5, hq3, H⟩
        obtain ⟨A13, n13, c13, rfl⟩ := (H.rO (i := 2) rfl).form3
        refine Sreg ?_
        refine WL.ev rfl rfl (Ev.bin rfl rfl rfl Bin.lss) (WL.nil ?_)
        refine CW.seq (CW.condD rfl (fun h5 => ?_) (fun h5 => ?_))
        · have hk6 := cast_lt h5
          obtain ⟨x2, z3, hx2, hb3, hq3⟩ := eachL_go hq3 hk6
          refine CW.skip ?_
          obtain ⟨q6, hm3, hb3⟩ := bd hb3
          refine CW.seq (CW.mid (fun ρ' w => ∃ (s6 : List Occurrence) (v6 : Value), s6 = q6 ∧ agree ρ' [(2, .pointer (some ⟨b1, 0, none⟩)), (3, .pointer (some ⟨b2, 0, none⟩)), (5, v6), (6, .int .i64 (k1 : Int)), (7, .int .i64 1), (16, .int .i64 ((a1.Right.length + 1 : Nat) : Int)), (17, .int .i64 (k1 : Int)), (31, .slice A12 n12 c12), (32, .int .i64 (y5.Attributes.length : Int)), (33, .int .i64 (k3 : Int))] ∧ HL F0 [] w0 w [Pr.R a0 [.slice A1 n1 c1, .slice A2 n2 c2], Pr.R a1 [.string a1.Name, .string a1.Left, .slice A3 n3 c3, .bool a1.Literal, .slice A4 n4 c4, .slice A5 n5 c5], Pr.S a0.Symbols (.slice A1 n1 c1), Pr.S a0.Rules (.slice A2 n2 c2), Pr.S a1.Right (.slice A3 n3 c3), Pr.S a1.Equations (.slice A4 n4 c4), Pr.S a1.Contributions (.slice A5 n5 c5), Pr.S y5.Attributes (.slice A12 n12 c12)] [It.B b1 40 [.slice A1 n1 c1, .slice A2 n2 c2], It.B b2 45 [.string a1.Name, .string a1.Left, .slice A3 n3 c3, .bool a1.Literal, .slice A4 n4 c4, .slice A5 n5 c5], It.O 90 s6 v6, It.B b7 161 [.string y5.Name, .slice A12 n12 c12]]) ?_ ?_)
          · refine CW.block (Sreg ?_)
            obtain ⟨b8, ob8, cb8, hvb8, hS8, hI3, hI4, H⟩ := ixS_Attribute H (i := 7) rfl hx2
            refine WL.ev rfl rfl (Ev.ixVN rfl el81 sz156 rfl hvb8 rfl (lt_of hx2)) (WL.ev rfl rfl (Ev.lda rfl ag156 sz156 rfl (H.rA (i := 8) rfl) rfl) ?_)
            refine WL.allocH rfl rfl rfl ze156 H fun b9 w14 H => ?_
            refine WL.stB (i := 4) rfl rfl rfl sz156 rfl rfl rfl rfl (all1 rfl (all1 rfl (all1 rfl (all1 rfl all0)))) H rfl rfl rfl fun w15 H => ?_
            refine WL.nil ?_
            refine Sreg ?_
            refine Wfa rfl rfl rfl fo156_2 rfl (WL.ev rfl rfl (Ev.ld rfl ag3 rfl ((H.rB (i := 4) rfl).cell rfl)) (Wmv rfl rfl rfl rfl (WL.ev rfl rfl (Ev.bin rfl rfl rfl Bin.eql) (WL.nil ?_))))
            refine CW.condD rfl (fun h6 => ?_) (fun h6 => ?_)
            · have hm3 := ifp h6 hm3
              refine CW.reg ?_
              refine Wmv rfl rfl rfl rfl (Wmv rfl rfl rfl rfl (Wfa rfl rfl rfl fo156_0 rfl (WL.ev rfl rfl (Ev.ld rfl ag9 rfl ((H.rB (i := 4) rfl).cell rfl)) (WL.ev rfl rfl (Ev.build rfl pl90 ze90 rfl rfl rfl rfl) ?_))))
              refine WL.lit1 rfl rfl rfl el76 sz90 ze90 rfl rfl rfl rfl rfl rfl fun b10 w16 hE hb hB => ?_
              have H := H.newB hE hb hB
              obtain ⟨hg3, hm3⟩ := grd_some hm3
              refine WL.appO (i := 2) (ys := [(⟨(k1 : Int), x2.Name⟩ : Occurrence)]) rfl rfl rfl el76 sz90 by90 ze90 rfl rfl rfl H rfl (fun _ => ownL.single ⟨rfl, (i64_nat hk2 hg1), hS8, rfl⟩) (.inr ⟨_, _, rfl, At.blk (H.rB (i := 5) rfl)⟩) hg3 fun A14 n14 c14 w17 H => ?_
              refine Wsn rfl rfl rfl rfl ?_
              obtain rfl := sm hm3
              exact ⟨(s5 ++ [(⟨(k1 : Int), x2.Name⟩ : Occurrence)]), _, rfl, ⟨rfl, rfl, rfl, rfl, rfl, rfl, rfl, rfl, rfl, rfl, trivial⟩, H.keep 8 4⟩
            · have hm3 := ifn h6 hm3
              refine CW.skip ?_
              obtain rfl := sm hm3
              exact ⟨s5, _, rfl, ⟨rfl, rfl, rfl, rfl, rfl, rfl, rfl, rfl, rfl, rfl, trivial⟩, H.keep 8 4⟩
          · rintro ρ' w18 ⟨s6, v6, rfl, hag, H⟩
            obtain ⟨σ, rfl⟩ := ofL_ex hag
            obtain ⟨A15, n15, c15, rfl⟩ := (H.rO (i := 2) rfl).form3
            refine CW.reg ?_
            refine WL.ev rfl rfl (Ev.bin rfl rfl rfl (Bin.addN (a := k3) (b := 1) rfl (i64_succN hk6 hl3.2))) (Wmv rfl rfl rfl rfl (WL.nil ?_))
            obtain rfl := sm hb3
            exact ⟨⟨k3 + 1, s6, (.slice A15 n15 c15)⟩, ⟨rfl, rfl, rfl, rfl, rfl, rfl, rfl, rfl, rfl, rfl, trivial⟩, ⟨hk6, hq3, H.keep 8 4⟩, Nat.sub_lt_sub_left hk6 (Nat.lt_succ_self _)⟩
        · obtain rfl := eachL_end hq3 (not_cast_lt h5)
          refine CW.exit ?_
          obtain rfl := sm hm1
          exact ⟨s5, _, rfl, ⟨rfl, rfl, rfl, rfl, rfl, trivial⟩, H.keep 7 3⟩
    · rintro ρ' w19 ⟨s2, v2, rfl, hag, H⟩
      obtain ⟨σ, rfl⟩ := ofL_ex hag
      obtain ⟨A16, n16, c16, rfl⟩ := (H.rO (i := 2) rfl).form3
      refine CW.reg ?_
      refine WL.ev rfl rfl (Ev.bin rfl rfl rfl (Bin.addN (a := k1) (b := 1) rfl (i64_succN hk2 hg1.2))) (Wmv rfl rfl rfl rfl (WL.nil ?_))
      obtain rfl := sm hb1
      exact ⟨⟨k1 + 1, s2, (.slice A16 n16 c16)⟩, ⟨rfl, rfl, rfl, rfl, rfl, trivial⟩, ⟨hk2, hq1, H.keep 7 3⟩, Nat.sub_lt_sub_left hk2 (Nat.lt_succ_self _)⟩
  · obtain rfl := eachN_end hq1 (not_cast_lt h1)
    refine CW.exit ?_
    refine Sreg ?_
    refine Wmv rfl rfl rfl rfl (Wsn rfl rfl rfl rfl ?_)
    refine CW.ret ?_
    obtain rfl := sm hr
    exact ⟨_, res1 rfl rfl rfl, H.ext0, _, _, _, rfl, H.outM (fr' := []) [false, false, true] fun _ _ => trivial⟩

noncomputable def ivisitsOf_m (a0 : Grammar) (a1 : (List (List Phase))) (a2 : Rule) : Option visits :=
  (irequired_m a0 a2).bind fun y1 =>
  grd (I64 ((a2.Right.length + 1 : Nat) : Int)) <|
  grd (0 ≤ ((a2.Right.length + 1 : Nat) : Int) ∧ ((a2.Right.length + 1 : Nat) : Int) * 8 ≤ 281474976710656 ∧ ((a2.Right.length + 1 : Nat) : Int) ≤ 9223372036854775807) <|
  some (⟨a0, a1, a2, y1, [], (List.replicate (a2.Right.length + 1) (0 : Int))⟩ : visits)
theorem ivisitsOf_ok {a0 : Grammar} {a1 : (List (List Phase))} {a2 : Rule} {r : visits} (hr : ivisitsOf_m a0 a1 a2 = some r) {F0 : Nat → Prop} {w0 : World} {ca0 : List Value} (ha0 : rd F0 w0 a0 ca0) {z1 : Value} (ha1 : rdS F0 w0 a1 z1) {ca2 : List Value} (ha2 : rd F0 w0 a2 ca2) :
    Ret Tryz.prog 89 #[.agg ca0.toArray, z1, .agg ca2.toArray] w0 (fun _ => False) fun v w => ∃ bp0 : Nat, ∃ A0 : Option Addr, ∃ n0 c0 : Nat, ∃ A1 : Option Addr, ∃ n1 c1 : Nat, ∃ A2 : Option Addr, ∃ n2 c2 : Nat, ∃ A3 : Option Addr, ∃ n3 c3 : Nat, ∃ A4 : Option Addr, ∃ n4 c4 : Nat, ∃ A5 : Option Addr, ∃ n5 c5 : Nat, ∃ A6 : Option Addr, ∃ n6 c6 : Nat, ∃ A7 : Option Addr, ∃ n7 c7 : Nat, ∃ A8 : Option Addr, ∃ n8 c8 : Nat, v = .pointer (some ⟨bp0, 0, none⟩) ∧ r.r.Name.size ≤ 9223372036854775807 ∧ r.r.Left.size ≤ 9223372036854775807 ∧ HL F0 [] w0 w [Pr.S r.g.Symbols (.slice A0 n0 c0), Pr.S r.g.Rules (.slice A1 n1 c1), Pr.S r.phases (.slice A2 n2 c2), Pr.S r.r.Right (.slice A3 n3 c3), Pr.S r.r.Equations (.slice A4 n4 c4), Pr.S r.r.Contributions (.slice A5 n5 c5)] [It.O 90 r.due (.slice A6 n6 c6), It.O 3 r.next (.slice A8 n8 c8), It.B bp0 142 [(.slice A0 n0 c0), (.slice A1 n1 c1), (.slice A2 n2 c2), .string r.r.Name, .string r.r.Left, (.slice A3 n3 c3), .bool r.r.Literal, (.slice A4 n4 c4), (.slice A5 n5 c5), (.slice A6 n6 c6), (.slice A7 n7 c7), (.slice A8 n8 c8)], It.O 90 r.known (.slice A7 n7 c7)] := by
  obtain ⟨A1', n1', c1', rfl⟩ := ha1.form3
  have H := (((HL.start F0 w0).argR ha0).argS ha1).argR ha2
  obtain ⟨A1, n1, c1, A2, n2, c2, rfl, H⟩ := op_Grammar H (i := 0) rfl
  obtain ⟨A3, n3, c3, A4, n4, c4, A5, n5, c5, rfl, hS1, hS2, H⟩ := op_Rule H (i := 2) rfl
  refine enter Tryz.func89 rfl rfl rfl ?_
  refine Sreg ?_
  refine WL.boxH rfl rfl rfl rfl rfl H fun b1 w1 H => ?_
  refine WL.boxH rfl rfl rfl rfl rfl H fun b2 w2 H => ?_
  refine Wsn rfl rfl rfl rfl ?_
  obtain ⟨y1, hy1, hr⟩ := bd hr
  have hl1 := (H.rS (i := 5) rfl).I
  obtain ⟨hg1, hr⟩ := grd_some hr
  obtain ⟨hg2, hr⟩ := grd_some hr
  refine CW.seq (CW.any2 11 (fun ρ => [.fix (.agg #[.slice A1 n1 c1, .slice A2 n2 c2]), .fix (.slice A1' n1' c1'), .fix (.agg #[.string a2.Name, .string a2.Left, .slice A3 n3 c3, .bool a2.Literal, .slice A4 n4 c4, .slice A5 n5 c5]), .fix (.agg #[.slice A1 n1 c1, .slice A2 n2 c2]), .fix (.agg #[.string a2.Name, .string a2.Left, .slice A3 n3 c3, .bool a2.Literal, .slice A4 n4 c4, .slice A5 n5 c5]), .free (fun S v w => ∃ A6 : Option Addr, ∃ n6 : Nat, ∃ c6 : Nat, v = .slice A6 n6 c6 ∧ NewI S w [It.O 90 y1 (.slice A6 n6 c6)]), .fix (.pointer (some ⟨b2, 0 + 2, none⟩)), .fix (.slice A3 n3 c3), .fix (.int .i64 (a2.Right.length : Int)), .fix (.int .i64 ((a2.Right.length + 1 : Nat) : Int)), .free (fun S v w => ∃ A : Option Addr, ∃ m c : Nat, v = .slice A m c ∧ NewI S w [It.O 3 (List.replicate (a2.Right.length + 1) (0 : Int)) (.slice A m c)])]) [[], [], [], [], [], [], [], [], [], [], []] NoM (fun _ _ => True) [] [] (noM _) hmix (by kernel_rfl) rfl ⟨trivial, trivial, trivial, trivial, trivial, fun _ _ _ _ _ ⟨A6, n6, c6, hv, hh⟩ hc hS hT => ⟨A6, n6, c6, hv, hh.chgT hc hS⟩, trivial, trivial, trivial, trivial, fun _ _ _ _ _ ⟨A, m, c, h1, h2⟩ hc hS _ => ⟨A, m, c, h1, h2.chgT hc hS⟩, trivial⟩ trivial (fun _ _ _ _ _ _ _ => trivial) ?_)
  refine LL2.fx rfl rfl rfl rfl rfl (fun _ hq hK => Ev.lda rfl ag40 sz40 rfl (At.blk ((H.ext hq).rB (i := 0) rfl)) rfl) ?_
  refine LL2.fx rfl rfl rfl rfl rfl (fun _ hq hK => Ev.mv rfl rfl) ?_
  refine LL2.fx rfl rfl rfl rfl rfl (fun _ hq hK => Ev.lda rfl ag45 sz45 rfl (At.blk ((H.ext hq).rB (i := 1) rfl)) rfl) ?_
  refine LL2.fx rfl rfl rfl rfl rfl (fun _ hq hK => Ev.lda rfl ag40 sz40 rfl (At.blk ((H.ext hq).rB (i := 0) rfl)) rfl) ?_
  refine LL2.fx rfl rfl rfl rfl rfl (fun _ hq hK => Ev.lda rfl ag45 sz45 rfl (At.blk ((H.ext hq).rB (i := 1) rfl)) rfl) ?_
  refine LL2.free rfl rfl rfl rfl (fun wq hq hK => ?_) (fun v_G1_5 S_G1_5 => ?_)
  · refine OpX.call rfl rfl rfl rfl ok145 rfl (irequired_ok hy1 ⟨_, _, rfl, ((H.ext hq).rS (i := 3) rfl), ((H.ext hq).rS (i := 4) rfl)⟩ ⟨_, _, _, rfl, hS1, hS2, ((H.ext hq).rS (i := 5) rfl), ((H.ext hq).rS (i := 6) rfl), ((H.ext hq).rS (i := 7) rfl)⟩) ?_
    rintro _ w hE ⟨A6, n6, c6, rfl, hh⟩
    exact ⟨hE, A6, n6, c6, rfl, NewI.of hh ⟨fun _ _ _ _ _ h => h, trivial⟩⟩
  refine LL2.fx rfl rfl rfl rfl rfl (fun _ hq hK => Ev.fa rfl fo45_2 rfl) ?_
  refine LL2.fx rfl rfl rfl rfl rfl (fun _ hq hK => Ev.ld rfl ag26 rfl (((H.ext hq).rB (i := 1) rfl).cell rfl)) ?_
  refine LL2.fx rfl rfl rfl rfl rfl (fun _ hq hK => Ev.lenV rfl el26 rfl (H.rS (i := 5) rfl)) ?_
  refine LL2.fx rfl rfl rfl rfl rfl (fun _ hq hK => Ev.bin rfl rfl rfl (Bin.addN (a := a2.Right.length) (b := 1) rfl hg1)) ?_
  refine LL2.free rfl rfl rfl rfl (fun wq hq hK => OpX.mkN (x := (0 : Int)) rfl rfl el33 sz3 by3 ze3 (fun _ => ⟨rfl, rfl, (by decide : I64 0)⟩) rfl rfl hg2 fun A m c w hE h => ⟨hE, A, m, c, rfl, h⟩) (fun v_G1_10 S_G1_10 => ?_)
  intro w3 hE _ hK hap hbd
  have hE := chgNew hE
  obtain ⟨A6, n6, c6, rfl, hN1⟩ := hK 5 (by decide)
  obtain ⟨A7, n7, c7, rfl, hN2⟩ := hK 10 (by decide)
  have H := H.add hE (hN1.app hN2 fun q h1 h2 => absurd (hap 5 10 q h1 h2) (by decide)) ⟨fun _ _ _ _ _ h => h, ⟨fun _ _ _ _ _ h => h, trivial⟩⟩ (fun q hq => hq.elim (fun h => (hbd 5 q h).1) fun h => (hbd 10 q h).1)
  refine WL.ev rfl rfl (Ev.build rfl pl142 ze142 rfl rfl rfl rfl) ?_
  refine WL.boxH rfl rfl rfl rfl rfl H fun b3 w4 H => ?_
  refine Wsn rfl rfl rfl rfl ?_
  refine CW.ret ?_
  have H := H.nil (α := Occurrence) 90
  obtain rfl := sm hr
  exact ⟨_, res1 rfl rfl rfl, H.ext0, _, _, _, _, _, _, _, _, _, _, _, _, _, _, _, _, _, _, _, _, _, _, _, _, _, _, _, _, rfl, hS1, hS2, H.outM (fr' := [Pr.S a0.Symbols (.slice A1 n1 c1), Pr.S a0.Rules (.slice A2 n2 c2), Pr.S a1 (.slice A1' n1' c1'), Pr.S a2.Right (.slice A3 n3 c3), Pr.S a2.Equations (.slice A4 n4 c4), Pr.S a2.Contributions (.slice A5 n5 c5)]) [false, false, true, true, true, true] fun _ h => ⟨h.get (i := 3) rfl, h.get (i := 4) rfl, h.get (i := 1) rfl, h.get (i := 5) rfl, h.get (i := 6) rfl, h.get (i := 7) rfl, trivial⟩⟩

noncomputable def isymbolIndex_1_m (a0 : Symbol) (a1 : ByteArray) : Option Bool :=
  some (decide (a0.Name = a1))
theorem isymbolIndex_1_ok {a0 : Symbol} {a1 : ByteArray} {r : Bool} (hr : isymbolIndex_1_m a0 a1 = some r) {F0 : Nat → Prop} {w0 : World} {ca0 : List Value} (ha0 : rd F0 w0 a0 ca0) {b1p : Nat} (ha1 : CapP F0 w0 b1p a1) :
    Ret Tryz.prog 184 #[.agg ca0.toArray, .pointer (some ⟨b1p, 0, none⟩)] w0 (fun _ => False) fun v w => v = .bool r := by
  have H := (HL.start F0 w0).argR ha0
  obtain ⟨A1, n1, c1, rfl, hS1, H⟩ := op_Symbol H (i := 0) rfl
  obtain ⟨cpa1, H⟩ := H.argP ha1
  obtain ⟨rfl, hS2, H⟩ := op_Str H (i := 3) rfl
  refine enter Tryz.func184 rfl rfl rfl ?_
  refine Sreg ?_
  refine WL.boxH rfl rfl rfl rfl rfl H fun b1 w1 H => ?_
  refine Wsn rfl rfl rfl rfl ?_
  refine Sreg ?_
  refine Wfa rfl rfl rfl fo161_0 rfl (WL.ev rfl rfl (Ev.ld rfl ag9 rfl ((H.rB (i := 0) rfl).cell rfl)) (WL.ev rfl rfl (Ev.ld rfl ag9 rfl ((H.rA (i := 2) rfl).cell0 rfl)) (WL.ev rfl rfl (Ev.bin rfl rfl rfl Bin.eqlS) (Wsn rfl rfl rfl rfl ?_))))
  refine CW.ret ?_
  obtain rfl := sm hr
  exact ⟨_, res1 rfl rfl rfl, H.ext0, rfl⟩

noncomputable def slices_IndexFunc_Symbol_isymbolIndex_1_L1 (a1_0 : ByteArray) : Nat → Symbol → Unit → Option (Unit ⊕ Int) := fun k1 x1 _ => 
  (isymbolIndex_1_m x1 a1_0).bind fun y1 =>
  if y1 = true then (
  some (.inr (k1 : Int))
  ) else (
  some (.inl ())
  )
noncomputable def slices_IndexFunc_Symbol_isymbolIndex_1_m (a0 : (List Symbol)) (a1_0 : ByteArray) : Option Int :=
  (findL (slices_IndexFunc_Symbol_isymbolIndex_1_L1 a1_0) 0 a0 ()).bind <| onr (fun r1 => some r1) fun _ =>
  some (-1)
theorem slices_IndexFunc_Symbol_isymbolIndex_1_ok {a0 : (List Symbol)} {a1_0 : ByteArray} {r : Int} (hr : slices_IndexFunc_Symbol_isymbolIndex_1_m a0 a1_0 = some r) {F0 : Nat → Prop} {w0 : World} {z0 : Value} (ha0 : rdS F0 w0 a0 z0) {b1_0p : Nat} (ha1_0 : CapP F0 w0 b1_0p a1_0) :
    Ret Tryz.prog 183 #[z0, .func (.func 184) #[] #[.pointer (some ⟨b1_0p, 0, none⟩)]] w0 (fun _ => False) fun v w => v = .int .i64 r ∧ I64 r := by
  obtain ⟨A0', n0', c0', rfl⟩ := ha0.form3
  have H := (HL.start F0 w0).argS ha0
  obtain ⟨cpa1_0, H⟩ := H.argP ha1_0
  obtain ⟨rfl, hS1, H⟩ := op_Str H (i := 2) rfl
  refine enter Tryz.func183 rfl rfl rfl ?_
  refine Sreg ?_
  refine Wsn rfl rfl rfl rfl ?_
  refine SSr ?_
  refine Wmv rfl rfl rfl rfl ?_
  have hl1 := (H.rS (i := 0) rfl).I
  refine WL.ev rfl rfl (Ev.lenV rfl el37 rfl (H.rS (i := 0) rfl)) (Wmv rfl rfl rfl rfl (WL.nil ?_))
  obtain ⟨q1, hq1, hr⟩ := bd hr
  refine CW.block (CW.loop (α := Nat) (fun k1 => [(0, .slice A0' n0' c0'), (1, .func (.func 184) #[] #[.pointer (some ⟨b1_0p, 0, none⟩)]), (7, .int .i64 (a0.length : Int)), (8, .int .i64 (k1 : Int))]) (fun k1 w => k1 ≤ a0.length ∧ findL (slices_IndexFunc_Symbol_isymbolIndex_1_L1 a1_0) k1 (a0.drop k1) () = some q1 ∧ HL F0 [] w0 w [Pr.S a0 (.slice A0' n0' c0'), Pr.A b1_0p 0 [.string a1_0], Pr.R a1_0 [.string a1_0]] []) (fun k1 => a0.length - k1) 0 ⟨rfl, rfl, rfl, rfl, trivial⟩ ⟨Nat.zero_le _, hq1, H.keep 3 0⟩ ?_)
  rintro k1 σ w1 ⟨hk1, hq1, H⟩
  refine Sreg ?_
  refine WL.ev rfl rfl (Ev.bin rfl rfl rfl Bin.lss) (WL.nil ?_)
  refine CW.seq (CW.condD rfl (fun h1 => ?_) (fun h1 => ?_))
  · have hk2 := cast_lt h1
    obtain ⟨x1, z1, hx1, hb1, hs1, ht1⟩ := findL_go hq1 hk2
    refine CW.skip ?_
    refine CW.seq (CW.block (Sreg ?_))
    refine Wmv rfl rfl rfl rfl (Wsn rfl rfl rfl rfl ?_)
    refine Sreg ?_
    refine Wmv rfl rfl rfl rfl (Wmv rfl rfl rfl rfl (Wmv rfl rfl rfl rfl ?_))
    obtain ⟨b1, ob1, cb1, A1, n1, c1, hvb1, hS2, H⟩ := ixS_Symbol H (i := 0) rfl hx1
    refine WL.ev rfl rfl (Ev.ixVN rfl el37 sz161 rfl hvb1 rfl (lt_of hx1)) (WL.ev rfl rfl (Ev.lda rfl ag161 sz161 rfl (H.rA (i := 3) rfl) rfl) ?_)
    obtain ⟨y1, hy1, hb1⟩ := bd hb1
    refine WL.call rfl rfl rfl rfl rfl ok184 rfl (isymbolIndex_1_ok hy1 (F0 := fun q => q < _) ⟨_, rfl, hS2, (H.rS (i := 5) rfl)⟩ ⟨H.rAl (i := 1) rfl, _, H.rA (i := 1) rfl, ⟨rfl, hS1⟩⟩) ?_
    rintro _ w2 hE rfl
    have H := H.ext hE
    refine WL.nil ?_
    refine CW.condB rfl (fun h2 => ?_) (fun h2 => ?_)
    · have hb1 := ifp h2 hb1
      refine Sreg ?_
      refine Wmv rfl rfl rfl rfl (Wsn rfl rfl rfl rfl ?_)
      refine CW.ret ?_
      obtain rfl := sm hb1
      obtain rfl := ht1 _ rfl
      obtain rfl := sm hr
      exact ⟨_, res1 rfl rfl rfl, H.ext0, rfl, (i64_nat hk2 hl1)⟩
    · have hb1 := ifn h2 hb1
      refine CW.skip ?_
      refine CW.reg ?_
      refine WL.ev rfl rfl (Ev.bin rfl rfl rfl (Bin.addN (a := k1) (b := 1) rfl (i64_succN hk2 hl1.2))) (Wmv rfl rfl rfl rfl (WL.nil ?_))
      obtain rfl := sm hb1
      have hq1 := hs1 _ rfl
      exact ⟨(k1 + 1), ⟨rfl, rfl, rfl, rfl, trivial⟩, ⟨hk2, hq1, H.keep 3 0⟩, Nat.sub_lt_sub_left hk2 (Nat.lt_succ_self _)⟩
  · obtain rfl := findL_end hq1 (not_cast_lt h1)
    have hr := (onr_inl _ _ _).symm.trans hr
    refine CW.exit ?_
    refine Sreg ?_
    refine Wsn rfl rfl rfl rfl ?_
    refine CW.ret ?_
    obtain rfl := sm hr
    exact ⟨_, res1 rfl rfl rfl, H.ext0, rfl, (by decide : I64 (-1))⟩

noncomputable def isymbolIndex_m (a0 : Grammar) (a1 : ByteArray) : Option Int :=
  (slices_IndexFunc_Symbol_isymbolIndex_1_m a0.Symbols a1).bind fun y1 =>
  some y1
theorem isymbolIndex_ok {a0 : Grammar} {a1 : ByteArray} {r : Int} (hr : isymbolIndex_m a0 a1 = some r) {F0 : Nat → Prop} {w0 : World} {ca0 : List Value} (ha0 : rd F0 w0 a0 ca0) (ha1 : a1.size ≤ 9223372036854775807) :
    Ret Tryz.prog 146 #[.agg ca0.toArray, .string a1] w0 (fun _ => False) fun v w => v = .int .i64 r ∧ I64 r := by
  have H := (HL.start F0 w0).argR ha0
  obtain ⟨A1, n1, c1, A2, n2, c2, rfl, H⟩ := op_Grammar H (i := 0) rfl
  refine enter Tryz.func146 rfl rfl rfl ?_
  refine Sreg ?_
  refine WL.boxH rfl rfl rfl rfl rfl H fun b1 w1 H => ?_
  refine WL.boxH rfl rfl rfl rfl rfl H fun b2 w2 H => ?_
  refine Wsn rfl rfl rfl rfl ?_
  refine Sreg ?_
  refine Wfa rfl rfl rfl fo40_0 rfl (WL.ev rfl rfl (Ev.ld rfl ag37 rfl ((H.rB (i := 0) rfl).cell rfl)) (WL.ev rfl rfl (Ev.mkfL rfl rfl rfl) ?_))
  obtain ⟨y1, hy1, hr⟩ := bd hr
  refine WL.call rfl rfl rfl rfl rfl ok183 rfl (slices_IndexFunc_Symbol_isymbolIndex_1_ok hy1 (F0 := fun q => q < _) (H.rS (i := 1) rfl) ⟨(H.rB (i := 1) rfl).lt, _, At.blk (H.rB (i := 1) rfl), ⟨rfl, ha1⟩⟩) ?_
  rintro _ w3 hE ⟨rfl, hI1⟩
  have H := H.ext hE
  refine Wsn rfl rfl rfl rfl ?_
  refine CW.ret ?_
  obtain rfl := sm hr
  exact ⟨_, res1 rfl rfl rfl, H.ext0, rfl, hI1⟩

noncomputable def ivisits_phasesAt_m (a0 : visits) (a1 : Int) : Option (List Phase) :=
  (iSymbolAt_m a0.r a1).bind fun y1 =>
  (isymbolIndex_m a0.g y1).bind fun y2 =>
  (iwithin_m y2 0 ((a0.phases.length : Int) - 1)).bind fun y3 =>
  if y3 = true then (
  grd (0 ≤ y2) <|
  (a0.phases[y2.toNat]?).bind fun x1 =>
  some x1
  ) else (
  some []
  )
theorem ivisits_phasesAt_ok {a0 : visits} {a1 : Int} {r : (List Phase)} (hr : ivisits_phasesAt_m a0 a1 = some r) {F0 : Nat → Prop} {w0 : World} {b0p : Nat} (ha0 : CapP F0 w0 b0p a0) (ha1 : I64 a1) :
    Ret Tryz.prog 90 #[.pointer (some ⟨b0p, 0, none⟩), .int .i64 a1] w0 (fun _ => False) fun v w => ∃ A0 : Option Addr, ∃ n0 c0 : Nat, v = (.slice A0 n0 c0) ∧ HL F0 [] w0 w [Pr.S r (.slice A0 n0 c0)] [] := by
  have H := HL.start F0 w0
  obtain ⟨cpa0, H⟩ := H.argP ha0
  obtain ⟨A1, n1, c1, A2, n2, c2, A3, n3, c3, A4, n4, c4, A5, n5, c5, A6, n6, c6, A7, n7, c7, A8, n8, c8, A9, n9, c9, rfl, hS1, hS2, H⟩ := op_visits H (i := 1) rfl
  refine enter Tryz.func90 rfl rfl rfl ?_
  refine Sreg ?_
  refine Wsn rfl rfl rfl rfl ?_
  refine CW.seq (CW.quiet hmix (by kernel_rfl) ?_)
  refine QL.ev rfl rfl (fun _ _ => Ev.mv rfl rfl) (QL.ev rfl rfl (fun _ _ => Ev.nilc rfl rfl) (QL.ev rfl rfl (fun _ _ => Ev.fa rfl fo142_0 rfl) (QL.ev rfl rfl (fun _ hq => Ev.lda rfl ag40 sz40 rfl (((H.ext hq).rA (i := 0) rfl).part 0 2) rfl) (QL.ev rfl rfl (fun _ _ => Ev.mv rfl rfl) (QL.ev rfl rfl (fun _ _ => Ev.nilc rfl rfl) (QL.ev rfl rfl (fun _ _ => Ev.fa rfl fo142_2 rfl) (QL.ev rfl rfl (fun _ hq => Ev.lda rfl ag45 sz45 rfl (((H.ext hq).rA (i := 0) rfl).part 3 6) rfl) (QL.ev rfl rfl (fun _ _ => Ev.mv rfl rfl) ?_))))))))
  obtain ⟨y1, hy1, hr⟩ := bd hr
  refine QL.call rfl rfl rfl rfl rfl ok111 rfl (fun _ hq => (iSymbolAt_ok hy1 ⟨_, _, _, rfl, hS1, hS2, ((H.ext hq).rS (i := 5) rfl), ((H.ext hq).rS (i := 6) rfl), ((H.ext hq).rS (i := 7) rfl)⟩ ha1).mono fun _ _ _ h => h.1) ?_
  obtain ⟨_, _, _, hS3⟩ := (iSymbolAt_ok hy1 ⟨_, _, _, rfl, hS1, hS2, (H.rS (i := 5) rfl), (H.rS (i := 6) rfl), (H.rS (i := 7) rfl)⟩ ha1).get
  obtain ⟨y2, hy2, hr⟩ := bd hr
  refine QL.call rfl rfl rfl rfl rfl ok146 rfl (fun _ hq => (isymbolIndex_ok hy2 ⟨_, _, rfl, ((H.ext hq).rS (i := 2) rfl), ((H.ext hq).rS (i := 3) rfl)⟩ hS3).mono fun _ _ _ h => h.1) ?_
  obtain ⟨_, _, _, hI1⟩ := (isymbolIndex_ok hy2 ⟨_, _, rfl, (H.rS (i := 2) rfl), (H.rS (i := 3) rfl)⟩ hS3).get
  refine QL.ev rfl rfl (fun _ _ => Ev.as rfl rfl) (QL.nil (fun w1 hE => ?_))
  have H := H.ext hE
  refine SSr ?_
  refine Wmv rfl rfl rfl rfl (Wmv rfl rfl rfl rfl (WL.ev rfl rfl (Ev.nilc rfl rfl) (Wfa rfl rfl rfl fo142_1 rfl (WL.ev rfl rfl (Ev.ld rfl ag59 rfl ((H.rA (i := 0) rfl).cell rfl)) ?_))))
  have hl1 := (H.rS (i := 4) rfl).I
  refine WL.ev rfl rfl (Ev.lenV rfl el59 rfl (H.rS (i := 4) rfl)) (WL.ev rfl rfl (Ev.bin rfl rfl rfl (Bin.sub (i64_sub (k := 1) hl1 (by decide)))) ?_)
  obtain ⟨y3, hy3, hr⟩ := bd hr
  refine WL.call rfl rfl rfl rfl rfl ok117 rfl (iwithin_ok hy3 (F0 := fun _ => False) hI1 (by decide : I64 0) (i64_sub (k := 1) hl1 (by decide))) ?_
  rintro _ w2 hE rfl
  have H := H.ext hE
  refine WL.ev rfl rfl (Ev.not rfl rfl) (WL.nil ?_)
  refine CW.condBN rfl (fun h1 => ?_) (fun h1 => ?_)
  · have hr := ifn h1 hr
    refine Sreg ?_
    refine Wsn rfl rfl rfl rfl ?_
    refine CW.ret ?_
    have H := H.nilS (α := Phase)
    obtain rfl := sm hr
    exact ⟨_, res1 rfl rfl rfl, H.ext0, _, _, _, rfl, H.outM (fr' := [Pr.S ([] : List Phase) (.slice none 0 0)]) [] fun _ h => ⟨h.get (i := 11) rfl, trivial⟩⟩
  · have hr := ifp h1 hr
    refine CW.skip ?_
    refine Sreg ?_
    refine Wmv rfl rfl rfl rfl (WL.ev rfl rfl (Ev.nilc rfl rfl) (Wfa rfl rfl rfl fo142_1 rfl (WL.ev rfl rfl (Ev.ld rfl ag59 rfl ((H.rA (i := 0) rfl).cell rfl)) (Wmv rfl rfl rfl rfl ?_))))
    obtain ⟨hg1, hr⟩ := grd_some hr
    obtain ⟨x1, hx1, hr⟩ := bd hr
    obtain ⟨b1, ob1, cb1, A10, n10, c10, hvb1, H⟩ := ixS_Sl H (i := 4) rfl hx1
    refine WL.ev rfl rfl (Ev.ixV rfl el59 sz125 rfl hvb1 rfl hg1 (lt_of hx1)) (WL.ev rfl rfl (Ev.ld rfl ag125 rfl ((H.rA (i := 11) rfl).cell0 rfl)) (Wsn rfl rfl rfl rfl ?_))
    refine CW.ret ?_
    obtain rfl := sm hr
    exact ⟨_, res1 rfl rfl rfl, H.ext0, _, _, _, rfl, H.outM (fr' := [Pr.S x1 (.slice A10 n10 c10)]) [] fun _ h => ⟨h.get (i := 13) rfl, trivial⟩⟩

noncomputable def ivisits_phasesAt_v2_m (a1 : Int) (o2 : visits) : Option (List Phase) :=
  (iSymbolAt_m o2.r a1).bind fun y1 =>
  (isymbolIndex_m o2.g y1).bind fun y2 =>
  (iwithin_m y2 0 ((o2.phases.length : Int) - 1)).bind fun y3 =>
  if y3 = true then (
  grd (0 ≤ y2) <|
  (o2.phases[y2.toNat]?).bind fun x1 =>
  some x1
  ) else (
  some []
  )
theorem ivisits_phasesAt_v2_ok {a1 : Int} {o2 : visits} {r : (List Phase)} (hr : ivisits_phasesAt_v2_m a1 o2 = some r) {F0 : Nat → Prop} {M : List Nat} {w0 : World} {bo2 : Nat} {Ao2_0 : Option Addr} {no2_0 co2_0 : Nat} {Ao2_1 : Option Addr} {no2_1 co2_1 : Nat} {Ao2_2 : Option Addr} {no2_2 co2_2 : Nat} {Ao2_5 : Option Addr} {no2_5 co2_5 : Nat} {Ao2_7 : Option Addr} {no2_7 co2_7 : Nat} {Ao2_8 : Option Addr} {no2_8 co2_8 : Nat} {Ao2_9 : Option Addr} {no2_9 co2_9 : Nat} {Ao2_10 : Option Addr} {no2_10 co2_10 : Nat} {Ao2_11 : Option Addr} {no2_11 co2_11 : Nat} (hIa1 : I64 a1) (hIo2_3 : o2.r.Name.size ≤ 9223372036854775807) (hIo2_4 : o2.r.Left.size ≤ 9223372036854775807) (H : HL F0 M w0 w0 [Pr.S o2.g.Symbols (.slice Ao2_0 no2_0 co2_0), Pr.S o2.g.Rules (.slice Ao2_1 no2_1 co2_1), Pr.S o2.phases (.slice Ao2_2 no2_2 co2_2), Pr.S o2.r.Right (.slice Ao2_5 no2_5 co2_5), Pr.S o2.r.Equations (.slice Ao2_7 no2_7 co2_7), Pr.S o2.r.Contributions (.slice Ao2_8 no2_8 co2_8)] [It.O 90 o2.due (.slice Ao2_9 no2_9 co2_9), It.O 3 o2.next (.slice Ao2_11 no2_11 co2_11), It.B bo2 142 [.slice Ao2_0 no2_0 co2_0, .slice Ao2_1 no2_1 co2_1, .slice Ao2_2 no2_2 co2_2, .string o2.r.Name, .string o2.r.Left, .slice Ao2_5 no2_5 co2_5, .bool o2.r.Literal, .slice Ao2_7 no2_7 co2_7, .slice Ao2_8 no2_8 co2_8, .slice Ao2_9 no2_9 co2_9, .slice Ao2_10 no2_10 co2_10, .slice Ao2_11 no2_11 co2_11], It.O 90 o2.known (.slice Ao2_10 no2_10 co2_10)]) :
    Ret Tryz.prog 90 #[.pointer (some ⟨bo2, 0, none⟩), .int .i64 a1] w0 (· ∈ M) fun v w => ∃ A0 : Option Addr, ∃ n0 c0 : Nat, v = (.slice A0 n0 c0) ∧ HL F0 M w0 w [Pr.S r (.slice A0 n0 c0)] [It.O 90 o2.due (.slice Ao2_9 no2_9 co2_9), It.O 3 o2.next (.slice Ao2_11 no2_11 co2_11), It.B bo2 142 [.slice Ao2_0 no2_0 co2_0, .slice Ao2_1 no2_1 co2_1, .slice Ao2_2 no2_2 co2_2, .string o2.r.Name, .string o2.r.Left, .slice Ao2_5 no2_5 co2_5, .bool o2.r.Literal, .slice Ao2_7 no2_7 co2_7, .slice Ao2_8 no2_8 co2_8, .slice Ao2_9 no2_9 co2_9, .slice Ao2_10 no2_10 co2_10, .slice Ao2_11 no2_11 co2_11], It.O 90 o2.known (.slice Ao2_10 no2_10 co2_10)] := by
  refine enter Tryz.func90 rfl rfl rfl ?_
  refine Sreg ?_
  refine Wsn rfl rfl rfl rfl ?_
  refine CW.seq (CW.quiet hmix (by kernel_rfl) ?_)
  refine QL.ev rfl rfl (fun _ _ => Ev.mv rfl rfl) (QL.ev rfl rfl (fun _ _ => Ev.nilc rfl rfl) (QL.ev rfl rfl (fun _ _ => Ev.fa rfl fo142_0 rfl) (QL.ev rfl rfl (fun _ hq => Ev.lda rfl ag40 sz40 rfl (Blk.part ((H.ext hq).rB (i := 2) rfl) 0 2) rfl) (QL.ev rfl rfl (fun _ _ => Ev.mv rfl rfl) (QL.ev rfl rfl (fun _ _ => Ev.nilc rfl rfl) (QL.ev rfl rfl (fun _ _ => Ev.fa rfl fo142_2 rfl) (QL.ev rfl rfl (fun _ hq => Ev.lda rfl ag45 sz45 rfl (Blk.part ((H.ext hq).rB (i := 2) rfl) 3 6) rfl) (QL.ev rfl rfl (fun _ _ => Ev.mv rfl rfl) ?_))))))))
  obtain ⟨y1, hy1, hr⟩ := bd hr
  refine QL.call rfl rfl rfl rfl rfl ok111 rfl (fun _ hq => (iSymbolAt_ok hy1 ⟨_, _, _, rfl, hIo2_3, hIo2_4, ((H.ext hq).rS (i := 3) rfl), ((H.ext hq).rS (i := 4) rfl), ((H.ext hq).rS (i := 5) rfl)⟩ hIa1).mono fun _ _ _ h => h.1) ?_
  obtain ⟨_, _, _, hS1⟩ := (iSymbolAt_ok hy1 ⟨_, _, _, rfl, hIo2_3, hIo2_4, (H.rS (i := 3) rfl), (H.rS (i := 4) rfl), (H.rS (i := 5) rfl)⟩ hIa1).get
  obtain ⟨y2, hy2, hr⟩ := bd hr
  refine QL.call rfl rfl rfl rfl rfl ok146 rfl (fun _ hq => (isymbolIndex_ok hy2 ⟨_, _, rfl, ((H.ext hq).rS (i := 0) rfl), ((H.ext hq).rS (i := 1) rfl)⟩ hS1).mono fun _ _ _ h => h.1) ?_
  obtain ⟨_, _, _, hI1⟩ := (isymbolIndex_ok hy2 ⟨_, _, rfl, (H.rS (i := 0) rfl), (H.rS (i := 1) rfl)⟩ hS1).get
  refine QL.ev rfl rfl (fun _ _ => Ev.as rfl rfl) (QL.nil (fun w1 hE => ?_))
  have H := H.ext hE
  refine SSr ?_
  refine Wmv rfl rfl rfl rfl (Wmv rfl rfl rfl rfl (WL.ev rfl rfl (Ev.nilc rfl rfl) (Wfa rfl rfl rfl fo142_1 rfl (WL.ev rfl rfl (Ev.ld rfl ag59 rfl ((H.rB (i := 2) rfl).cell rfl)) ?_))))
  have hl1 := (H.rS (i := 2) rfl).I
  refine WL.ev rfl rfl (Ev.lenV rfl el59 rfl (H.rS (i := 2) rfl)) (WL.ev rfl rfl (Ev.bin rfl rfl rfl (Bin.sub (i64_sub (k := 1) hl1 (by decide)))) ?_)
  obtain ⟨y3, hy3, hr⟩ := bd hr
  refine WL.call rfl rfl rfl rfl rfl ok117 rfl (iwithin_ok hy3 (F0 := fun _ => False) hI1 (by decide : I64 0) (i64_sub (k := 1) hl1 (by decide))) ?_
  rintro _ w2 hE rfl
  have H := H.ext hE
  refine WL.ev rfl rfl (Ev.not rfl rfl) (WL.nil ?_)
  refine CW.condBN rfl (fun h1 => ?_) (fun h1 => ?_)
  · have hr := ifn h1 hr
    refine Sreg ?_
    refine Wsn rfl rfl rfl rfl ?_
    refine CW.ret ?_
    have H := H.nilS (α := Phase)
    obtain rfl := sm hr
    exact ⟨_, res1 rfl rfl rfl, H.chg, _, _, _, rfl, H.outM (fr' := [Pr.S ([] : List Phase) (.slice none 0 0)]) [true, true, true, true] fun _ h => ⟨h.get (i := 6) rfl, trivial⟩⟩
  · have hr := ifp h1 hr
    refine CW.skip ?_
    refine Sreg ?_
    refine Wmv rfl rfl rfl rfl (WL.ev rfl rfl (Ev.nilc rfl rfl) (Wfa rfl rfl rfl fo142_1 rfl (WL.ev rfl rfl (Ev.ld rfl ag59 rfl ((H.rB (i := 2) rfl).cell rfl)) (Wmv rfl rfl rfl rfl ?_))))
    obtain ⟨hg1, hr⟩ := grd_some hr
    obtain ⟨x1, hx1, hr⟩ := bd hr
    obtain ⟨b1, ob1, cb1, A1, n1, c1, hvb1, H⟩ := ixS_Sl H (i := 2) rfl hx1
    refine WL.ev rfl rfl (Ev.ixV rfl el59 sz125 rfl hvb1 rfl hg1 (lt_of hx1)) (WL.ev rfl rfl (Ev.ld rfl ag125 rfl ((H.rA (i := 6) rfl).cell0 rfl)) (Wsn rfl rfl rfl rfl ?_))
    refine CW.ret ?_
    obtain rfl := sm hr
    exact ⟨_, res1 rfl rfl rfl, H.chg, _, _, _, rfl, H.outM (fr' := [Pr.S x1 (.slice A1 n1 c1)]) [true, true, true, true] fun _ h => ⟨h.get (i := 8) rfl, trivial⟩⟩

noncomputable def ivisits_learn_L1 (a1 : Int) : Nat → ByteArray → (List Occurrence) → Option (List Occurrence) := fun k1 x1 s1 => 
  grd (((s1.length : Int) + 1) * 24 ≤ 140737488355328 ∧ (s1.length : Int) + 1 ≤ 9223372036854775807) <|
  some (s1 ++ [(⟨a1, x1⟩ : Occurrence)])
noncomputable def ivisits_learn_m (a1 : Int) (a2 : (List ByteArray)) (o2 : visits) : Option visits :=
  (eachL (ivisits_learn_L1 a1) 0 a2 o2.known).bind fun s1 =>
  some (⟨o2.g, o2.phases, o2.r, o2.due, s1, o2.next⟩ : visits)
theorem ivisits_learn_ok {a1 : Int} {a2 : (List ByteArray)} {o2 : visits} {r : visits} (hr : ivisits_learn_m a1 a2 o2 = some r) {F0 : Nat → Prop} {M : List Nat} {w0 : World} {bo2 : Nat} {Aa2 : Option Addr} {na2 ca2 : Nat} {Ao2_0 : Option Addr} {no2_0 co2_0 : Nat} {Ao2_1 : Option Addr} {no2_1 co2_1 : Nat} {Ao2_2 : Option Addr} {no2_2 co2_2 : Nat} {Ao2_5 : Option Addr} {no2_5 co2_5 : Nat} {Ao2_7 : Option Addr} {no2_7 co2_7 : Nat} {Ao2_8 : Option Addr} {no2_8 co2_8 : Nat} {Ao2_9 : Option Addr} {no2_9 co2_9 : Nat} {Ao2_10 : Option Addr} {no2_10 co2_10 : Nat} {Ao2_11 : Option Addr} {no2_11 co2_11 : Nat} (hIa1 : I64 a1) (hIo2_3 : o2.r.Name.size ≤ 9223372036854775807) (hIo2_4 : o2.r.Left.size ≤ 9223372036854775807) (H : HL F0 M w0 w0 [Pr.S a2 (.slice Aa2 na2 ca2), Pr.S o2.g.Symbols (.slice Ao2_0 no2_0 co2_0), Pr.S o2.g.Rules (.slice Ao2_1 no2_1 co2_1), Pr.S o2.phases (.slice Ao2_2 no2_2 co2_2), Pr.S o2.r.Right (.slice Ao2_5 no2_5 co2_5), Pr.S o2.r.Equations (.slice Ao2_7 no2_7 co2_7), Pr.S o2.r.Contributions (.slice Ao2_8 no2_8 co2_8)] [It.O 90 o2.due (.slice Ao2_9 no2_9 co2_9), It.O 3 o2.next (.slice Ao2_11 no2_11 co2_11), It.B bo2 142 [.slice Ao2_0 no2_0 co2_0, .slice Ao2_1 no2_1 co2_1, .slice Ao2_2 no2_2 co2_2, .string o2.r.Name, .string o2.r.Left, .slice Ao2_5 no2_5 co2_5, .bool o2.r.Literal, .slice Ao2_7 no2_7 co2_7, .slice Ao2_8 no2_8 co2_8, .slice Ao2_9 no2_9 co2_9, .slice Ao2_10 no2_10 co2_10, .slice Ao2_11 no2_11 co2_11], It.O 90 o2.known (.slice Ao2_10 no2_10 co2_10)]) :
    Ret Tryz.prog 91 #[.pointer (some ⟨bo2, 0, none⟩), .int .i64 a1, .slice Aa2 na2 ca2] w0 (· ∈ M) fun v w => ∃ A0 : Option Addr, ∃ n0 c0 : Nat, ∃ A1 : Option Addr, ∃ n1 c1 : Nat, ∃ A2 : Option Addr, ∃ n2 c2 : Nat, v = .tuple #[] ∧ r.r.Name.size ≤ 9223372036854775807 ∧ r.r.Left.size ≤ 9223372036854775807 ∧ HL F0 M w0 w [] [It.O 90 r.due (.slice A0 n0 c0), It.O 3 r.next (.slice A2 n2 c2), It.B bo2 142 [.slice Ao2_0 no2_0 co2_0, .slice Ao2_1 no2_1 co2_1, .slice Ao2_2 no2_2 co2_2, .string r.r.Name, .string r.r.Left, .slice Ao2_5 no2_5 co2_5, .bool r.r.Literal, .slice Ao2_7 no2_7 co2_7, .slice Ao2_8 no2_8 co2_8, (.slice A0 n0 c0), (.slice A1 n1 c1), (.slice A2 n2 c2)], It.O 90 r.known (.slice A1 n1 c1)] := by
  refine enter Tryz.func91 rfl rfl rfl ?_
  refine Sreg ?_
  refine Wmv rfl rfl rfl rfl ?_
  have hl1 := (H.rS (i := 0) rfl).I
  refine WL.ev rfl rfl (Ev.lenV rfl el26 rfl (H.rS (i := 0) rfl)) (Wmv rfl rfl rfl rfl (WL.nil ?_))
  obtain ⟨q1, hq1, hr⟩ := bd hr
  refine CW.block (CW.loop (α := Nat × (List Occurrence) × Value) (fun ⟨k1, s1, v1⟩ => [(0, .pointer (some ⟨bo2, 0, none⟩)), (1, .int .i64 a1), (8, .slice Aa2 na2 ca2), (9, .int .i64 (a2.length : Int)), (10, .int .i64 (k1 : Int))]) (fun ⟨k1, s1, v1⟩ w => k1 ≤ a2.length ∧ eachL (ivisits_learn_L1 a1) k1 (a2.drop k1) s1 = some q1 ∧ HL F0 M w0 w [Pr.S a2 (.slice Aa2 na2 ca2), Pr.S o2.g.Symbols (.slice Ao2_0 no2_0 co2_0), Pr.S o2.g.Rules (.slice Ao2_1 no2_1 co2_1), Pr.S o2.phases (.slice Ao2_2 no2_2 co2_2), Pr.S o2.r.Right (.slice Ao2_5 no2_5 co2_5), Pr.S o2.r.Equations (.slice Ao2_7 no2_7 co2_7), Pr.S o2.r.Contributions (.slice Ao2_8 no2_8 co2_8)] [It.O 90 o2.due (.slice Ao2_9 no2_9 co2_9), It.O 3 o2.next (.slice Ao2_11 no2_11 co2_11), It.B bo2 142 [.slice Ao2_0 no2_0 co2_0, .slice Ao2_1 no2_1 co2_1, .slice Ao2_2 no2_2 co2_2, .string o2.r.Name, .string o2.r.Left, .slice Ao2_5 no2_5 co2_5, .bool o2.r.Literal, .slice Ao2_7 no2_7 co2_7, .slice Ao2_8 no2_8 co2_8, .slice Ao2_9 no2_9 co2_9, v1, .slice Ao2_11 no2_11 co2_11], It.O 90 s1 v1]) (fun ⟨k1, s1, v1⟩ => a2.length - k1) ⟨0, o2.known, (.slice Ao2_10 no2_10 co2_10)⟩ ⟨rfl, rfl, rfl, rfl, rfl, trivial⟩ ⟨Nat.zero_le _, hq1, H.keep 7 4⟩ ?_)
  rintro ⟨k1, s1, v1⟩ σ w1 ⟨hk1, hq1, H⟩
  obtain ⟨A1, n1, c1, rfl⟩ := (H.rO (i := 3) rfl).form3
  refine Sreg ?_
  refine WL.ev rfl rfl (Ev.bin rfl rfl rfl Bin.lss) (WL.nil ?_)
  refine CW.seq (CW.condD rfl (fun h1 => ?_) (fun h1 => ?_))
  · have hk2 := cast_lt h1
    obtain ⟨x1, z1, hx1, hb1, hq1⟩ := eachL_go hq1 hk2
    refine CW.skip ?_
    refine CW.seq (CW.block (Sreg ?_))
    obtain ⟨b1, ob1, cb1, hvb1, hS1, H⟩ := ixS_Str H (i := 0) rfl hx1
    refine WL.ev rfl rfl (Ev.ixVN rfl el26 sz9 rfl hvb1 rfl (lt_of hx1)) (WL.ev rfl rfl (Ev.ld rfl ag9 rfl ((H.rA (i := 7) rfl).cell0 rfl)) (Wsn rfl rfl rfl rfl ?_))
    refine CW.reg ?_
    refine Wmv rfl rfl rfl rfl (Wmv rfl rfl rfl rfl (WL.ev rfl rfl (Ev.nilc rfl rfl) (Wfa rfl rfl rfl fo142_4 rfl (WL.ev rfl rfl (Ev.ld rfl ag76 rfl ((H.rB (i := 2) rfl).cell rfl)) (Wmv rfl rfl rfl rfl (Wmv rfl rfl rfl rfl (WL.ev rfl rfl (Ev.build rfl pl90 ze90 rfl rfl rfl rfl) ?_)))))))
    refine WL.lit1 rfl rfl rfl el76 sz90 ze90 rfl rfl rfl rfl rfl rfl fun b2 w2 hE hb hB => ?_
    have H := H.newB hE hb hB
    obtain ⟨hg1, hb1⟩ := grd_some hb1
    refine WL.appO (i := 3) (ys := [(⟨a1, x1⟩ : Occurrence)]) rfl rfl rfl el76 sz90 by90 ze90 rfl rfl rfl H rfl (fun _ => ownL.single ⟨rfl, hIa1, hS1, rfl⟩) (.inr ⟨_, _, rfl, At.blk (H.rB (i := 4) rfl)⟩) hg1 fun A2 n2 c2 w3 H => ?_
    refine WL.ev rfl rfl (Ev.nilc rfl rfl) (Wfa rfl rfl rfl fo142_4 rfl ?_)
    refine WL.stB (i := 2) rfl rfl rfl sz76 rfl rfl rfl rfl (all1 rfl all0) H rfl rfl rfl fun w4 H => ?_
    refine WL.nil ?_
    refine CW.reg ?_
    refine WL.ev rfl rfl (Ev.bin rfl rfl rfl (Bin.addN (a := k1) (b := 1) rfl (i64_succN hk2 hl1.2))) (Wmv rfl rfl rfl rfl (WL.nil ?_))
    obtain rfl := sm hb1
    exact ⟨⟨k1 + 1, (s1 ++ [(⟨a1, x1⟩ : Occurrence)]), (.slice A2 n2 c2)⟩, ⟨rfl, rfl, rfl, rfl, rfl, trivial⟩, ⟨hk2, hq1, H.keep 7 4⟩, Nat.sub_lt_sub_left hk2 (Nat.lt_succ_self _)⟩
  · obtain rfl := eachL_end hq1 (not_cast_lt h1)
    refine CW.exit ?_
    obtain rfl := sm hr
    exact ⟨_, res0 rfl, H.chg, _, _, _, _, _, _, _, _, _, rfl, hIo2_3, hIo2_4, H.outM (fr' := []) [true, true, true, true] fun _ _ => trivial⟩

noncomputable def slices_Contains_Occurrence_m (a0 : (List Occurrence)) (a1 : Occurrence) : Option Bool :=
  (slices_Index_Occurrence_m a0 a1).bind fun y1 =>
  some (decide (0 ≤ y1))
theorem slices_Contains_Occurrence_ok {a0 : (List Occurrence)} {a1 : Occurrence} {r : Bool} (hr : slices_Contains_Occurrence_m a0 a1 = some r) {F0 : Nat → Prop} {w0 : World} {z0 : Value} (ha0 : rdS F0 w0 a0 z0) {ca1 : List Value} (ha1 : rd F0 w0 a1 ca1) :
    Ret Tryz.prog 153 #[z0, .agg ca1.toArray] w0 (fun _ => False) fun v w => v = .bool r := by
  obtain ⟨A0', n0', c0', rfl⟩ := ha0.form3
  have H := ((HL.start F0 w0).argS ha0).argR ha1
  obtain ⟨rfl, hI1, hS1, H⟩ := op_Occurrence H (i := 1) rfl
  refine enter Tryz.func153 rfl rfl rfl ?_
  refine Sreg ?_
  refine WL.boxH rfl rfl rfl rfl rfl H fun b1 w1 H => ?_
  refine Wsn rfl rfl rfl rfl ?_
  refine Sreg ?_
  refine Wmv rfl rfl rfl rfl (WL.ev rfl rfl (Ev.lda rfl ag90 sz90 rfl (At.blk (H.rB (i := 0) rfl)) rfl) ?_)
  obtain ⟨y1, hy1, hr⟩ := bd hr
  refine WL.call rfl rfl rfl rfl rfl ok132 rfl (slices_Index_Occurrence_ok hy1 (H.rS (i := 0) rfl) ⟨rfl, hI1, hS1⟩) ?_
  rintro _ w2 hE ⟨rfl, hI2⟩
  have H := H.ext hE
  refine WL.ev rfl rfl (Ev.bin rfl rfl rfl Bin.geq) (Wsn rfl rfl rfl rfl ?_)
  refine CW.ret ?_
  obtain rfl := sm hr
  exact ⟨_, res1 rfl rfl rfl, H.ext0, rfl⟩

noncomputable def ivisits_mayEval_1_m (a0 : Occurrence) (a1_0 : visits) : Option Bool :=
  (slices_Contains_Occurrence_m a1_0.known a0).bind fun y1 =>
  some (!y1)
theorem ivisits_mayEval_1_ok {a0 : Occurrence} {a1_0 : visits} {r : Bool} (hr : ivisits_mayEval_1_m a0 a1_0 = some r) {F0 : Nat → Prop} {w0 : World} {ca0 : List Value} (ha0 : rd F0 w0 a0 ca0) {b1_0p : Nat} (ha1_0 : CapP F0 w0 b1_0p a1_0) {b1p : Nat} (ha1 : F0 b1p ∧ At w0 b1p 0 [.pointer (some ⟨b1_0p, 0, none⟩)]) :
    Ret Tryz.prog 185 #[.agg ca0.toArray, .pointer (some ⟨b1p, 0, none⟩)] w0 (fun _ => False) fun v w => v = .bool r := by
  have H := (HL.start F0 w0).argR ha0
  obtain ⟨rfl, hI1, hS1, H⟩ := op_Occurrence H (i := 0) rfl
  obtain ⟨cpa1_0, H⟩ := H.argP ha1_0
  obtain ⟨A1, n1, c1, A2, n2, c2, A3, n3, c3, A4, n4, c4, A5, n5, c5, A6, n6, c6, A7, n7, c7, A8, n8, c8, A9, n9, c9, rfl, hS2, hS3, H⟩ := op_visits H (i := 2) rfl
  have H := H.argA ha1
  refine enter Tryz.func185 rfl rfl rfl ?_
  refine Sreg ?_
  refine WL.boxH rfl rfl rfl rfl rfl H fun b1 w1 H => ?_
  refine Wsn rfl rfl rfl rfl ?_
  refine CW.seq (CW.quiet hmix (by kernel_rfl) ?_)
  refine QL.ev rfl rfl (fun _ hq => Ev.ld rfl ag136 rfl (((H.ext hq).rA (i := 12) rfl).cell0 rfl)) (QL.ev rfl rfl (fun _ _ => Ev.nilc rfl rfl) (QL.ev rfl rfl (fun _ _ => Ev.fa rfl fo142_4 rfl) (QL.ev rfl rfl (fun _ hq => Ev.ld rfl ag76 rfl (((H.ext hq).rA (i := 1) rfl).cell rfl)) (QL.ev rfl rfl (fun _ hq => Ev.lda rfl ag90 sz90 rfl (At.blk ((H.ext hq).rB (i := 0) rfl)) rfl) ?_))))
  obtain ⟨y1, hy1, hr⟩ := bd hr
  refine QL.call rfl rfl rfl rfl rfl ok153 rfl (fun _ hq => slices_Contains_Occurrence_ok hy1 ((H.ext hq).rS (i := 10) rfl) ⟨rfl, hI1, hS1⟩) ?_
  refine QL.ev rfl rfl (fun _ _ => Ev.not rfl rfl) (QL.ev rfl rfl (fun _ _ => Ev.as rfl rfl) (QL.nil (fun w2 hE => ?_)))
  have H := H.ext hE
  refine CW.ret ?_
  obtain rfl := sm hr
  exact ⟨_, res1 rfl rfl rfl, H.ext0, rfl⟩

noncomputable def slices_IndexFunc_Occurrence_ivisits_mayEval_1_L1 (a1_0_0 : visits) : Nat → Occurrence → Unit → Option (Unit ⊕ Int) := fun k1 x1 _ => 
  (ivisits_mayEval_1_m x1 a1_0_0).bind fun y1 =>
  if y1 = true then (
  some (.inr (k1 : Int))
  ) else (
  some (.inl ())
  )
noncomputable def slices_IndexFunc_Occurrence_ivisits_mayEval_1_m (a0 : (List Occurrence)) (a1_0_0 : visits) : Option Int :=
  (findL (slices_IndexFunc_Occurrence_ivisits_mayEval_1_L1 a1_0_0) 0 a0 ()).bind <| onr (fun r1 => some r1) fun _ =>
  some (-1)
theorem slices_IndexFunc_Occurrence_ivisits_mayEval_1_ok {a0 : (List Occurrence)} {a1_0_0 : visits} {r : Int} (hr : slices_IndexFunc_Occurrence_ivisits_mayEval_1_m a0 a1_0_0 = some r) {F0 : Nat → Prop} {w0 : World} {z0 : Value} (ha0 : rdS F0 w0 a0 z0) {b1_0_0p : Nat} (ha1_0_0 : CapP F0 w0 b1_0_0p a1_0_0) {b1_0p : Nat} (ha1_0 : F0 b1_0p ∧ At w0 b1_0p 0 [.pointer (some ⟨b1_0_0p, 0, none⟩)]) :
    Ret Tryz.prog 188 #[z0, .func (.func 185) #[] #[.pointer (some ⟨b1_0p, 0, none⟩)]] w0 (fun _ => False) fun v w => v = .int .i64 r ∧ I64 r := by
  obtain ⟨A0', n0', c0', rfl⟩ := ha0.form3
  have H := (HL.start F0 w0).argS ha0
  obtain ⟨cpa1_0_0, H⟩ := H.argP ha1_0_0
  obtain ⟨A1, n1, c1, A2, n2, c2, A3, n3, c3, A4, n4, c4, A5, n5, c5, A6, n6, c6, A7, n7, c7, A8, n8, c8, A9, n9, c9, rfl, hS1, hS2, H⟩ := op_visits H (i := 2) rfl
  have H := H.argA ha1_0
  refine enter Tryz.func188 rfl rfl rfl ?_
  refine Sreg ?_
  refine Wsn rfl rfl rfl rfl ?_
  refine SSr ?_
  refine Wmv rfl rfl rfl rfl ?_
  have hl1 := (H.rS (i := 0) rfl).I
  refine WL.ev rfl rfl (Ev.lenV rfl el76 rfl (H.rS (i := 0) rfl)) (Wmv rfl rfl rfl rfl (WL.nil ?_))
  obtain ⟨q1, hq1, hr⟩ := bd hr
  refine CW.block (CW.loop (α := Nat) (fun k1 => [(0, .slice A0' n0' c0'), (1, .func (.func 185) #[] #[.pointer (some ⟨b1_0p, 0, none⟩)]), (7, .int .i64 (a0.length : Int)), (8, .int .i64 (k1 : Int))]) (fun k1 w => k1 ≤ a0.length ∧ findL (slices_IndexFunc_Occurrence_ivisits_mayEval_1_L1 a1_0_0) k1 (a0.drop k1) () = some q1 ∧ HL F0 [] w0 w [Pr.S a0 (.slice A0' n0' c0'), Pr.A b1_0_0p 0 [.slice A1 n1 c1, .slice A2 n2 c2, .slice A3 n3 c3, .string a1_0_0.r.Name, .string a1_0_0.r.Left, .slice A4 n4 c4, .bool a1_0_0.r.Literal, .slice A5 n5 c5, .slice A6 n6 c6, .slice A7 n7 c7, .slice A8 n8 c8, .slice A9 n9 c9], Pr.R a1_0_0 [.slice A1 n1 c1, .slice A2 n2 c2, .slice A3 n3 c3, .string a1_0_0.r.Name, .string a1_0_0.r.Left, .slice A4 n4 c4, .bool a1_0_0.r.Literal, .slice A5 n5 c5, .slice A6 n6 c6, .slice A7 n7 c7, .slice A8 n8 c8, .slice A9 n9 c9], Pr.S a1_0_0.g.Symbols (.slice A1 n1 c1), Pr.S a1_0_0.g.Rules (.slice A2 n2 c2), Pr.S a1_0_0.phases (.slice A3 n3 c3), Pr.S a1_0_0.r.Right (.slice A4 n4 c4), Pr.S a1_0_0.r.Equations (.slice A5 n5 c5), Pr.S a1_0_0.r.Contributions (.slice A6 n6 c6), Pr.S a1_0_0.due (.slice A7 n7 c7), Pr.S a1_0_0.known (.slice A8 n8 c8), Pr.S a1_0_0.next (.slice A9 n9 c9), Pr.A b1_0p 0 [.pointer (some ⟨b1_0_0p, 0, none⟩)]] []) (fun k1 => a0.length - k1) 0 ⟨rfl, rfl, rfl, rfl, trivial⟩ ⟨Nat.zero_le _, hq1, H.keep 13 0⟩ ?_)
  rintro k1 σ w1 ⟨hk1, hq1, H⟩
  refine Sreg ?_
  refine WL.ev rfl rfl (Ev.bin rfl rfl rfl Bin.lss) (WL.nil ?_)
  refine CW.seq (CW.condD rfl (fun h1 => ?_) (fun h1 => ?_))
  · have hk2 := cast_lt h1
    obtain ⟨x1, z1, hx1, hb1, hs1, ht1⟩ := findL_go hq1 hk2
    refine CW.skip ?_
    refine CW.seq (CW.block (Sreg ?_))
    refine Wmv rfl rfl rfl rfl (Wsn rfl rfl rfl rfl ?_)
    refine Sreg ?_
    refine Wmv rfl rfl rfl rfl (Wmv rfl rfl rfl rfl (Wmv rfl rfl rfl rfl ?_))
    obtain ⟨b1, ob1, cb1, hvb1, hI1, hS3, H⟩ := ixS_Occurrence H (i := 0) rfl hx1
    refine WL.ev rfl rfl (Ev.ixVN rfl el76 sz90 rfl hvb1 rfl (lt_of hx1)) (WL.ev rfl rfl (Ev.lda rfl ag90 sz90 rfl (H.rA (i := 13) rfl) rfl) ?_)
    obtain ⟨y1, hy1, hb1⟩ := bd hb1
    refine WL.call rfl rfl rfl rfl rfl ok185 rfl (ivisits_mayEval_1_ok hy1 (F0 := fun q => q < _) ⟨rfl, hI1, hS3⟩ ⟨H.rAl (i := 1) rfl, _, H.rA (i := 1) rfl, ⟨_, _, _, _, _, _, _, _, _, rfl, hS1, hS2, (H.rS (i := 3) rfl), (H.rS (i := 4) rfl), (H.rS (i := 5) rfl), (H.rS (i := 6) rfl), (H.rS (i := 7) rfl), (H.rS (i := 8) rfl), (H.rS (i := 9) rfl), (H.rS (i := 10) rfl), (H.rS (i := 11) rfl)⟩⟩ ⟨H.rAl (i := 12) rfl, H.rA (i := 12) rfl⟩) ?_
    rintro _ w2 hE rfl
    have H := H.ext hE
    refine WL.nil ?_
    refine CW.condB rfl (fun h2 => ?_) (fun h2 => ?_)
    · have hb1 := ifp h2 hb1
      refine Sreg ?_
      refine Wmv rfl rfl rfl rfl (Wsn rfl rfl rfl rfl ?_)
      refine CW.ret ?_
      obtain rfl := sm hb1
      obtain rfl := ht1 _ rfl
      obtain rfl := sm hr
      exact ⟨_, res1 rfl rfl rfl, H.ext0, rfl, (i64_nat hk2 hl1)⟩
    · have hb1 := ifn h2 hb1
      refine CW.skip ?_
      refine CW.reg ?_
      refine WL.ev rfl rfl (Ev.bin rfl rfl rfl (Bin.addN (a := k1) (b := 1) rfl (i64_succN hk2 hl1.2))) (Wmv rfl rfl rfl rfl (WL.nil ?_))
      obtain rfl := sm hb1
      have hq1 := hs1 _ rfl
      exact ⟨(k1 + 1), ⟨rfl, rfl, rfl, rfl, trivial⟩, ⟨hk2, hq1, H.keep 13 0⟩, Nat.sub_lt_sub_left hk2 (Nat.lt_succ_self _)⟩
  · obtain rfl := findL_end hq1 (not_cast_lt h1)
    have hr := (onr_inl _ _ _).symm.trans hr
    refine CW.exit ?_
    refine Sreg ?_
    refine Wsn rfl rfl rfl rfl ?_
    refine CW.ret ?_
    obtain rfl := sm hr
    exact ⟨_, res1 rfl rfl rfl, H.ext0, rfl, (by decide : I64 (-1))⟩

noncomputable def slices_ContainsFunc_Occurrence_ivisits_mayEval_1_m (a0 : (List Occurrence)) (a1_0_0 : visits) : Option Bool :=
  (slices_IndexFunc_Occurrence_ivisits_mayEval_1_m a0 a1_0_0).bind fun y1 =>
  some (decide (0 ≤ y1))
theorem slices_ContainsFunc_Occurrence_ivisits_mayEval_1_ok {a0 : (List Occurrence)} {a1_0_0 : visits} {r : Bool} (hr : slices_ContainsFunc_Occurrence_ivisits_mayEval_1_m a0 a1_0_0 = some r) {F0 : Nat → Prop} {w0 : World} {z0 : Value} (ha0 : rdS F0 w0 a0 z0) {b1_0_0p : Nat} (ha1_0_0 : CapP F0 w0 b1_0_0p a1_0_0) {b1_0p : Nat} (ha1_0 : F0 b1_0p ∧ At w0 b1_0p 0 [.pointer (some ⟨b1_0_0p, 0, none⟩)]) :
    Ret Tryz.prog 151 #[z0, .func (.func 185) #[] #[.pointer (some ⟨b1_0p, 0, none⟩)]] w0 (fun _ => False) fun v w => v = .bool r := by
  obtain ⟨A0', n0', c0', rfl⟩ := ha0.form3
  have H := (HL.start F0 w0).argS ha0
  obtain ⟨cpa1_0_0, H⟩ := H.argP ha1_0_0
  obtain ⟨A1, n1, c1, A2, n2, c2, A3, n3, c3, A4, n4, c4, A5, n5, c5, A6, n6, c6, A7, n7, c7, A8, n8, c8, A9, n9, c9, rfl, hS1, hS2, H⟩ := op_visits H (i := 2) rfl
  have H := H.argA ha1_0
  refine enter Tryz.func151 rfl rfl rfl ?_
  refine Sreg ?_
  refine Wsn rfl rfl rfl rfl ?_
  refine Sreg ?_
  refine Wmv rfl rfl rfl rfl (Wmv rfl rfl rfl rfl ?_)
  obtain ⟨y1, hy1, hr⟩ := bd hr
  refine WL.call rfl rfl rfl rfl rfl ok188 rfl (slices_IndexFunc_Occurrence_ivisits_mayEval_1_ok hy1 (F0 := fun q => q < _) (H.rS (i := 0) rfl) ⟨H.rAl (i := 1) rfl, _, H.rA (i := 1) rfl, ⟨_, _, _, _, _, _, _, _, _, rfl, hS1, hS2, (H.rS (i := 3) rfl), (H.rS (i := 4) rfl), (H.rS (i := 5) rfl), (H.rS (i := 6) rfl), (H.rS (i := 7) rfl), (H.rS (i := 8) rfl), (H.rS (i := 9) rfl), (H.rS (i := 10) rfl), (H.rS (i := 11) rfl)⟩⟩ ⟨H.rAl (i := 12) rfl, H.rA (i := 12) rfl⟩) ?_
  rintro _ w1 hE ⟨rfl, hI1⟩
  have H := H.ext hE
  refine WL.ev rfl rfl (Ev.bin rfl rfl rfl Bin.geq) (Wsn rfl rfl rfl rfl ?_)
  refine CW.ret ?_
  obtain rfl := sm hr
  exact ⟨_, res1 rfl rfl rfl, H.ext0, rfl⟩

noncomputable def ivisits_mayEval_m (a0 : visits) (a1 : Occurrence) : Option Bool :=
  (slices_Contains_Occurrence_m a0.due a1).bind fun y1 =>
  if y1 = true then (
  (slices_Contains_Occurrence_m a0.known a1).bind fun y2 =>
  if y2 = true then (
  some false
  ) else (
  (iFindEquation_m a0.r a1).bind fun (y3, y4) =>
  if y4 = true then (
  (iAttributeUses_m y3).bind fun y5 =>
  (slices_ContainsFunc_Occurrence_ivisits_mayEval_1_m y5 a0).bind fun y6 =>
  some (!y6)
  ) else (
  some false
  )
  )
  ) else (
  some false
  )
theorem ivisits_mayEval_ok {a0 : visits} {a1 : Occurrence} {r : Bool} (hr : ivisits_mayEval_m a0 a1 = some r) {F0 : Nat → Prop} {w0 : World} {b0p : Nat} (ha0 : CapP F0 w0 b0p a0) {ca1 : List Value} (ha1 : rd F0 w0 a1 ca1) :
    Ret Tryz.prog 147 #[.pointer (some ⟨b0p, 0, none⟩), .agg ca1.toArray] w0 (fun _ => False) fun v w => v = .bool r := by
  have H := (HL.start F0 w0).argR ha1
  obtain ⟨rfl, hI1, hS1, H⟩ := op_Occurrence H (i := 0) rfl
  obtain ⟨cpa0, H⟩ := H.argP ha0
  obtain ⟨A1, n1, c1, A2, n2, c2, A3, n3, c3, A4, n4, c4, A5, n5, c5, A6, n6, c6, A7, n7, c7, A8, n8, c8, A9, n9, c9, rfl, hS2, hS3, H⟩ := op_visits H (i := 2) rfl
  refine enter Tryz.func147 rfl rfl rfl ?_
  refine Sreg ?_
  refine WL.boxH rfl rfl rfl rfl rfl H fun b1 w1 H => ?_
  refine WL.boxH rfl rfl rfl rfl rfl H fun b2 w2 H => ?_
  refine Wsn rfl rfl rfl rfl ?_
  refine CW.seq (CW.seq (CW.quiet hmix (by kernel_rfl) ?_))
  refine QL.ev rfl rfl (fun _ hq => Ev.ld rfl ag136 rfl (((H.ext hq).rB (i := 0) rfl).cell rfl)) (QL.ev rfl rfl (fun _ _ => Ev.nilc rfl rfl) (QL.ev rfl rfl (fun _ _ => Ev.fa rfl fo142_3 rfl) (QL.ev rfl rfl (fun _ hq => Ev.ld rfl ag76 rfl (((H.ext hq).rA (i := 1) rfl).cell rfl)) (QL.ev rfl rfl (fun _ hq => Ev.lda rfl ag90 sz90 rfl (At.blk ((H.ext hq).rB (i := 1) rfl)) rfl) ?_))))
  obtain ⟨y1, hy1, hr⟩ := bd hr
  refine QL.call rfl rfl rfl rfl rfl ok153 rfl (fun _ hq => slices_Contains_Occurrence_ok hy1 ((H.ext hq).rS (i := 9) rfl) ⟨rfl, hI1, hS1⟩) ?_
  refine QL.ev rfl rfl (fun _ _ => Ev.not rfl rfl) ?_
  refine QL.mvBN rfl rfl rfl rfl (fun h1 => ?_) (fun h1 => ?_)
  · have hr := ifn h1 hr
    refine QL.off rfl rfl rfl (QL.off rfl rfl rfl (QL.off rfl rfl rfl (QL.off rfl rfl rfl (QL.off rfl rfl rfl (QL.off rfl rfl rfl (QL.ev rfl rfl (fun _ _ => Ev.pickT rfl rfl rfl) (QL.nil (fun w3 hE => ?_))))))))
    have H := H.ext hE
    refine CW.condT rfl ?_
    refine Sreg ?_
    refine Wsn rfl rfl rfl rfl ?_
    refine CW.ret ?_
    obtain rfl := sm hr
    exact ⟨_, res1 rfl rfl rfl, H.ext0, rfl⟩
  · have hr := ifp h1 hr
    refine QL.on rfl rfl (QL.ev rfl rfl (fun _ hq => Ev.ld rfl ag136 rfl (((H.ext hq).rB (i := 0) rfl).cell rfl)) (QL.on rfl rfl (QL.ev rfl rfl (fun _ _ => Ev.nilc rfl rfl) (QL.on rfl rfl (QL.ev rfl rfl (fun _ _ => Ev.fa rfl fo142_4 rfl) (QL.on rfl rfl (QL.ev rfl rfl (fun _ hq => Ev.ld rfl ag76 rfl (((H.ext hq).rA (i := 1) rfl).cell rfl)) (QL.on rfl rfl (QL.ev rfl rfl (fun _ hq => Ev.lda rfl ag90 sz90 rfl (At.blk ((H.ext hq).rB (i := 1) rfl)) rfl) (QL.on rfl rfl ?_))))))))))
    obtain ⟨y2, hy2, hr⟩ := bd hr
    refine QL.call rfl rfl rfl rfl rfl ok153 rfl (fun _ hq => slices_Contains_Occurrence_ok hy2 ((H.ext hq).rS (i := 10) rfl) ⟨rfl, hI1, hS1⟩) ?_
    refine QL.ev rfl rfl (fun _ _ => Ev.pickF rfl rfl rfl) (QL.nil (fun w4 hE => ?_))
    have H := H.ext hE
    refine CW.condB rfl (fun h2 => ?_) (fun h2 => ?_)
    · have hr := ifp h2 hr
      refine Sreg ?_
      refine Wsn rfl rfl rfl rfl ?_
      refine CW.ret ?_
      obtain rfl := sm hr
      exact ⟨_, res1 rfl rfl rfl, H.ext0, rfl⟩
    · have hr := ifn h2 hr
      refine CW.skip ?_
      obtain ⟨⟨y3, y4⟩, hy3, hr⟩ := bd hr
      obtain ⟨F_G1, hFl_G1, hF_G1, hcl_G1⟩ := H.callL
      refine CW.seq (CW.any2 11 (fun ρ => [.fix (.pointer (some ⟨b0p, 0, none⟩)), .fix (.pointer (some ⟨b0p, 0, none⟩)), .fix (.pointer (some ⟨b0p, 0 + 3, none⟩)), .fix (.agg #[.string a0.r.Name, .string a0.r.Left, .slice A4 n4 c4, .bool a0.r.Literal, .slice A5 n5 c5, .slice A6 n6 c6]), .fix (.agg #[.int .i64 a1.Pos, .string a1.Name]), .free (fun S v w => ∃ A10 : Option Addr, ∃ n10 : Nat, ∃ c10 : Nat, v = .tuple #[.agg #[.int .i64 y3.Kind, .int .i64 y3.N, .int .i64 y3.Pos, .int .i64 y3.Type_, .string y3.Symbol, .string y3.Name, .slice A10 n10 c10], .bool y4] ∧ I64 y3.Kind ∧ I64 y3.N ∧ I64 y3.Pos ∧ I64 y3.Type_ ∧ y3.Symbol.size ≤ 9223372036854775807 ∧ y3.Name.size ≤ 9223372036854775807 ∧ NewV F_G1 w4 S w [Pr.S y3.Args (.slice A10 n10 c10)] []), .dep 28 id, .dep 22 (tupAt 0), .dep 22 (tupAt 1), .free (VarB 86 7), .wr 5 29 (WrB 86)]) [[], [], [], [], [], [], [28], [22], [22], [], [5, 29]] NoM (fun _ _ => True) [] [none, none, none, none, none, none, none, none, none, none, some 9] (noM _) hmix (by kernel_rfl) rfl ⟨trivial, trivial, trivial, trivial, trivial, fun _ _ _ _ _ ⟨A10, n10, c10, hv, h0, h1, h2, h3, h4, h5, hh⟩ hc hS hT => ⟨A10, n10, c10, hv, h0, h1, h2, h3, h4, h5, hh.chgT hc hS hT hFl_G1⟩, trivial, trivial, trivial, fun _ _ _ _ _ h hc hS _ => h.chgT hc hS, fun _ _ _ _ _ _ h hc hS _ => h.chgT hc hS, trivial⟩ trivial (fun _ _ _ _ _ _ _ => trivial) ?_)
      refine LL2.fx rfl rfl rfl rfl rfl (fun _ hq hK => Ev.ld rfl ag136 rfl (((H.ext hq).rB (i := 0) rfl).cell rfl)) ?_
      refine LL2.fx rfl rfl rfl rfl rfl (fun _ hq hK => Ev.nilc rfl rfl) ?_
      refine LL2.fx rfl rfl rfl rfl rfl (fun _ hq hK => Ev.fa rfl fo142_2 rfl) ?_
      refine LL2.fx rfl rfl rfl rfl rfl (fun _ hq hK => Ev.lda rfl ag45 sz45 rfl (((H.ext hq).rA (i := 1) rfl).part 3 6) rfl) ?_
      refine LL2.fx rfl rfl rfl rfl rfl (fun _ hq hK => Ev.lda rfl ag90 sz90 rfl (At.blk ((H.ext hq).rB (i := 1) rfl)) rfl) ?_
      refine LL2.free rfl rfl rfl rfl (fun wq hq hK => ?_) (fun v_G1_5 S_G1_5 => ?_)
      · have hF := hF_G1.ext hq
        refine OpX.call rfl rfl rfl rfl ok62 rfl (iFindEquation_ok hy3 ⟨_, _, _, rfl, hS2, hS3, (hF.get (i := 6) rfl), (hF.get (i := 7) rfl), (hF.get (i := 8) rfl)⟩ ⟨rfl, hI1, hS1⟩) ?_
        rintro _ w hE ⟨A10, n10, c10, rfl, h0, h1, h2, h3, h4, h5, hh⟩
        exact ⟨hE, A10, n10, c10, rfl, h0, h1, h2, h3, h4, h5, NewV.of hFl_G1 hq hh⟩
      refine LL2.mv rfl rfl rfl rfl rfl (.inl rfl) rfl ?_
      refine LL2.ex rfl rfl rfl rfl rfl rfl rfl (fun wq hq hK => ?_) ?_
      · have hK : ∀ j' (_ : (directs _).contains j' = true), _ := hK 6 rfl
        obtain ⟨A10, n10, c10, rfl, _, _, _, _, _, _, _⟩ := hK 5 rfl
        exact ⟨_, _, rfl, rfl⟩
      refine LL2.ex rfl rfl rfl rfl rfl rfl rfl (fun wq hq hK => ?_) ?_
      · have hK : ∀ j' (_ : (directs _).contains j' = true), _ := hK 6 rfl
        obtain ⟨A10, n10, c10, rfl, _, _, _, _, _, _, _⟩ := hK 5 rfl
        exact ⟨_, _, rfl, rfl⟩
      refine LL2.free rfl rfl rfl rfl (fun wq hq hK => OpX.allocV rfl rfl ze86 rfl) (fun v_G1_9 S_G1_9 => ?_)
      refine LL2.st (k := 7) rfl rfl rfl (by decide) rfl rfl rfl rfl sz86 rfl rfl (fun wq hq hK => hK 9 rfl) (fun wq hq hK => ?_) ?_
      · obtain ⟨A10, n10, c10, rfl, _, _, _, _, _, _, _⟩ := hK 5 rfl
        exact ⟨_, rfl, rfl, (all1 rfl (all1 rfl (all1 rfl (all1 rfl (all1 rfl (all1 rfl (all1 rfl all0)))))))⟩
      intro w5 hE _ hK hap hbd
      have hE := chgNew hE
      obtain ⟨A10, n10, c10, rfl, hI2, hI3, hI4, hI5, hS4, hS5, hN1⟩ := hK 5 (by decide)
      obtain ⟨b3, rfl, hN2⟩ := wrNew (cells := [.int .i64 y3.Kind, .int .i64 y3.N, .int .i64 y3.Pos, .int .i64 y3.Type_, .string y3.Symbol, .string y3.Name, .slice A10 n10 c10]) (hK 9 (by decide)) (hK 10 (by decide)) rfl
      have H := hcl_G1 (NewV.hl (hN1.app (hN2.V ⟨fun _ _ _ _ _ h => h, trivial⟩) fun q h1 h2 => absurd (hap 5 9 q h1 h2) (by decide)) hE fun q hq => hq.elim (fun h => (hbd 5 q h).1) fun h => (hbd 9 q h).1)
      refine Wsn rfl rfl rfl rfl ?_
      refine Sreg ?_
      refine Wmv rfl rfl rfl rfl ?_
      refine WL.mvB rfl rfl rfl rfl (fun h3 => ?_) (fun h3 => ?_)
      · have hr := ifp h3 hr
        refine WL.on rfl rfl (WL.ev rfl rfl (Ev.lda rfl ag86 sz86 rfl (At.blk (H.rB (i := 2) rfl)) rfl) (WL.on rfl rfl ?_))
        obtain ⟨y5, hy4, hr⟩ := bd hr
        refine WL.call rfl rfl rfl rfl rfl ok63 rfl (iAttributeUses_ok hy4 (Expr_rd.2 ⟨_, rfl, hI2, hI3, hI4, hI5, hS4, hS5, (H.rS (i := 12) rfl)⟩)) ?_
        rintro _ w6 hE ⟨A11, n11, c11, rfl, H'⟩
        have H := H.callA H' ⟨fun _ _ _ _ _ h => h, trivial⟩
        refine WL.on rfl rfl (WL.ev rfl rfl (Ev.mkfL rfl rfl rfl) (WL.on rfl rfl ?_))
        obtain ⟨y6, hy5, hr⟩ := bd hr
        refine WL.call rfl rfl rfl rfl rfl ok151 rfl (slices_ContainsFunc_Occurrence_ivisits_mayEval_1_ok hy5 (F0 := fun q => q < _) (H.rO (i := 3) rfl) ⟨H.rAl (i := 1) rfl, _, H.rA (i := 1) rfl, ⟨_, _, _, _, _, _, _, _, _, rfl, hS2, hS3, (H.rS (i := 3) rfl), (H.rS (i := 4) rfl), (H.rS (i := 5) rfl), (H.rS (i := 6) rfl), (H.rS (i := 7) rfl), (H.rS (i := 8) rfl), (H.rS (i := 9) rfl), (H.rS (i := 10) rfl), (H.rS (i := 11) rfl)⟩⟩ ⟨(H.rB (i := 0) rfl).lt, At.blk (H.rB (i := 0) rfl)⟩) ?_
        rintro _ w7 hE rfl
        have H := H.ext hE
        refine WL.on rfl rfl (WL.ev rfl rfl (Ev.not rfl rfl) (WL.ev rfl rfl (Ev.pickT rfl rfl rfl) (Wsn rfl rfl rfl rfl ?_)))
        refine CW.ret ?_
        obtain rfl := sm hr
        exact ⟨_, res1 rfl rfl rfl, H.ext0, rfl⟩
      · have hr := ifn h3 hr
        refine WL.off rfl rfl rfl (WL.off rfl rfl rfl (WL.off rfl rfl rfl (WL.off rfl rfl rfl (WL.off rfl rfl rfl (WL.ev rfl rfl (Ev.pickF rfl rfl rfl) (Wsn rfl rfl rfl rfl ?_))))))
        refine CW.ret ?_
        obtain rfl := sm hr
        exact ⟨_, res1 rfl rfl rfl, H.ext0, rfl⟩

noncomputable def ivisits_knows_1_m (a0 : ByteArray) (a1_0 : visits) (a2 : Int) : Option Bool :=
  (slices_Contains_Occurrence_m a1_0.known (⟨a2, a0⟩ : Occurrence)).bind fun y1 =>
  some (!y1)
theorem ivisits_knows_1_ok {a0 : ByteArray} {a1_0 : visits} {a2 : Int} {r : Bool} (hr : ivisits_knows_1_m a0 a1_0 a2 = some r) {F0 : Nat → Prop} {w0 : World} (ha0 : a0.size ≤ 9223372036854775807) {b1_0p : Nat} (ha1_0 : CapP F0 w0 b1_0p a1_0) {b1p : Nat} (ha1 : F0 b1p ∧ At w0 b1p 0 [.pointer (some ⟨b1_0p, 0, none⟩)]) {b2p : Nat} (ha2 : CapP F0 w0 b2p a2) :
    Ret Tryz.prog 187 #[.string a0, .pointer (some ⟨b1p, 0, none⟩), .pointer (some ⟨b2p, 0, none⟩)] w0 (fun _ => False) fun v w => v = .bool r := by
  have H := HL.start F0 w0
  obtain ⟨cpa1_0, H⟩ := H.argP ha1_0
  obtain ⟨A1, n1, c1, A2, n2, c2, A3, n3, c3, A4, n4, c4, A5, n5, c5, A6, n6, c6, A7, n7, c7, A8, n8, c8, A9, n9, c9, rfl, hS1, hS2, H⟩ := op_visits H (i := 1) rfl
  have H := H.argA ha1
  obtain ⟨cpa2, H⟩ := H.argP ha2
  obtain ⟨rfl, hI1, H⟩ := op_Int H (i := 13) rfl
  refine enter Tryz.func187 rfl rfl rfl ?_
  refine Sreg ?_
  refine Wsn rfl rfl rfl rfl ?_
  refine CW.seq (CW.quiet hmix (by kernel_rfl) ?_)
  refine QL.ev rfl rfl (fun _ hq => Ev.ld rfl ag136 rfl (((H.ext hq).rA (i := 11) rfl).cell0 rfl)) (QL.ev rfl rfl (fun _ _ => Ev.nilc rfl rfl) (QL.ev rfl rfl (fun _ _ => Ev.fa rfl fo142_4 rfl) (QL.ev rfl rfl (fun _ hq => Ev.ld rfl ag76 rfl (((H.ext hq).rA (i := 0) rfl).cell rfl)) (QL.ev rfl rfl (fun _ hq => Ev.ld rfl ag3 rfl (((H.ext hq).rA (i := 12) rfl).cell0 rfl)) (QL.ev rfl rfl (fun _ _ => Ev.mv rfl rfl) (QL.ev rfl rfl (fun _ _ => Ev.build rfl pl90 ze90 rfl rfl rfl rfl) ?_))))))
  obtain ⟨y1, hy1, hr⟩ := bd hr
  refine QL.call rfl rfl rfl rfl rfl ok153 rfl (fun _ hq => slices_Contains_Occurrence_ok hy1 ((H.ext hq).rS (i := 9) rfl) ⟨rfl, hI1, ha0⟩) ?_
  refine QL.ev rfl rfl (fun _ _ => Ev.not rfl rfl) (QL.ev rfl rfl (fun _ _ => Ev.as rfl rfl) (QL.nil (fun w1 hE => ?_)))
  have H := H.ext hE
  refine CW.ret ?_
  obtain rfl := sm hr
  exact ⟨_, res1 rfl rfl rfl, H.ext0, rfl⟩

noncomputable def slices_IndexFunc_string_ivisits_knows_1_L1 (a1_0_0 : visits) (a1_1 : Int) : Nat → ByteArray → Unit → Option (Unit ⊕ Int) := fun k1 x1 _ => 
  (ivisits_knows_1_m x1 a1_0_0 a1_1).bind fun y1 =>
  if y1 = true then (
  some (.inr (k1 : Int))
  ) else (
  some (.inl ())
  )
noncomputable def slices_IndexFunc_string_ivisits_knows_1_m (a0 : (List ByteArray)) (a1_0_0 : visits) (a1_1 : Int) : Option Int :=
  (findL (slices_IndexFunc_string_ivisits_knows_1_L1 a1_0_0 a1_1) 0 a0 ()).bind <| onr (fun r1 => some r1) fun _ =>
  some (-1)
theorem slices_IndexFunc_string_ivisits_knows_1_ok {a0 : (List ByteArray)} {a1_0_0 : visits} {a1_1 : Int} {r : Int} (hr : slices_IndexFunc_string_ivisits_knows_1_m a0 a1_0_0 a1_1 = some r) {F0 : Nat → Prop} {w0 : World} {z0 : Value} (ha0 : rdS F0 w0 a0 z0) {b1_0_0p : Nat} (ha1_0_0 : CapP F0 w0 b1_0_0p a1_0_0) {b1_0p : Nat} (ha1_0 : F0 b1_0p ∧ At w0 b1_0p 0 [.pointer (some ⟨b1_0_0p, 0, none⟩)]) {b1_1p : Nat} (ha1_1 : CapP F0 w0 b1_1p a1_1) :
    Ret Tryz.prog 224 #[z0, .func (.func 187) #[] #[.pointer (some ⟨b1_0p, 0, none⟩), .pointer (some ⟨b1_1p, 0, none⟩)]] w0 (fun _ => False) fun v w => v = .int .i64 r ∧ I64 r := by
  obtain ⟨A0', n0', c0', rfl⟩ := ha0.form3
  have H := (HL.start F0 w0).argS ha0
  obtain ⟨cpa1_0_0, H⟩ := H.argP ha1_0_0
  obtain ⟨A1, n1, c1, A2, n2, c2, A3, n3, c3, A4, n4, c4, A5, n5, c5, A6, n6, c6, A7, n7, c7, A8, n8, c8, A9, n9, c9, rfl, hS1, hS2, H⟩ := op_visits H (i := 2) rfl
  have H := H.argA ha1_0
  obtain ⟨cpa1_1, H⟩ := H.argP ha1_1
  obtain ⟨rfl, hI1, H⟩ := op_Int H (i := 14) rfl
  refine enter Tryz.func224 rfl rfl rfl ?_
  refine Sreg ?_
  refine Wsn rfl rfl rfl rfl ?_
  refine SSr ?_
  refine Wmv rfl rfl rfl rfl ?_
  have hl1 := (H.rS (i := 0) rfl).I
  refine WL.ev rfl rfl (Ev.lenV rfl el26 rfl (H.rS (i := 0) rfl)) (Wmv rfl rfl rfl rfl (WL.nil ?_))
  obtain ⟨q1, hq1, hr⟩ := bd hr
  refine CW.block (CW.loop (α := Nat) (fun k1 => [(0, .slice A0' n0' c0'), (1, .func (.func 187) #[] #[.pointer (some ⟨b1_0p, 0, none⟩), .pointer (some ⟨b1_1p, 0, none⟩)]), (7, .int .i64 (a0.length : Int)), (8, .int .i64 (k1 : Int))]) (fun k1 w => k1 ≤ a0.length ∧ findL (slices_IndexFunc_string_ivisits_knows_1_L1 a1_0_0 a1_1) k1 (a0.drop k1) () = some q1 ∧ HL F0 [] w0 w [Pr.S a0 (.slice A0' n0' c0'), Pr.A b1_0_0p 0 [.slice A1 n1 c1, .slice A2 n2 c2, .slice A3 n3 c3, .string a1_0_0.r.Name, .string a1_0_0.r.Left, .slice A4 n4 c4, .bool a1_0_0.r.Literal, .slice A5 n5 c5, .slice A6 n6 c6, .slice A7 n7 c7, .slice A8 n8 c8, .slice A9 n9 c9], Pr.R a1_0_0 [.slice A1 n1 c1, .slice A2 n2 c2, .slice A3 n3 c3, .string a1_0_0.r.Name, .string a1_0_0.r.Left, .slice A4 n4 c4, .bool a1_0_0.r.Literal, .slice A5 n5 c5, .slice A6 n6 c6, .slice A7 n7 c7, .slice A8 n8 c8, .slice A9 n9 c9], Pr.S a1_0_0.g.Symbols (.slice A1 n1 c1), Pr.S a1_0_0.g.Rules (.slice A2 n2 c2), Pr.S a1_0_0.phases (.slice A3 n3 c3), Pr.S a1_0_0.r.Right (.slice A4 n4 c4), Pr.S a1_0_0.r.Equations (.slice A5 n5 c5), Pr.S a1_0_0.r.Contributions (.slice A6 n6 c6), Pr.S a1_0_0.due (.slice A7 n7 c7), Pr.S a1_0_0.known (.slice A8 n8 c8), Pr.S a1_0_0.next (.slice A9 n9 c9), Pr.A b1_0p 0 [.pointer (some ⟨b1_0_0p, 0, none⟩)], Pr.A b1_1p 0 [.int .i64 a1_1], Pr.R a1_1 [.int .i64 a1_1]] []) (fun k1 => a0.length - k1) 0 ⟨rfl, rfl, rfl, rfl, trivial⟩ ⟨Nat.zero_le _, hq1, H.keep 15 0⟩ ?_)
  rintro k1 σ w1 ⟨hk1, hq1, H⟩
  refine Sreg ?_
  refine WL.ev rfl rfl (Ev.bin rfl rfl rfl Bin.lss) (WL.nil ?_)
  refine CW.seq (CW.condD rfl (fun h1 => ?_) (fun h1 => ?_))
  · have hk2 := cast_lt h1
    obtain ⟨x1, z1, hx1, hb1, hs1, ht1⟩ := findL_go hq1 hk2
    refine CW.skip ?_
    refine CW.seq (CW.block (Sreg ?_))
    refine Wmv rfl rfl rfl rfl (Wsn rfl rfl rfl rfl ?_)
    refine Sreg ?_
    refine Wmv rfl rfl rfl rfl (Wmv rfl rfl rfl rfl (Wmv rfl rfl rfl rfl ?_))
    obtain ⟨b1, ob1, cb1, hvb1, hS3, H⟩ := ixS_Str H (i := 0) rfl hx1
    refine WL.ev rfl rfl (Ev.ixVN rfl el26 sz9 rfl hvb1 rfl (lt_of hx1)) (WL.ev rfl rfl (Ev.ld rfl ag9 rfl ((H.rA (i := 15) rfl).cell0 rfl)) ?_)
    obtain ⟨y1, hy1, hb1⟩ := bd hb1
    refine WL.call rfl rfl rfl rfl rfl ok187 rfl (ivisits_knows_1_ok hy1 (F0 := fun q => q < _) hS3 ⟨H.rAl (i := 1) rfl, _, H.rA (i := 1) rfl, ⟨_, _, _, _, _, _, _, _, _, rfl, hS1, hS2, (H.rS (i := 3) rfl), (H.rS (i := 4) rfl), (H.rS (i := 5) rfl), (H.rS (i := 6) rfl), (H.rS (i := 7) rfl), (H.rS (i := 8) rfl), (H.rS (i := 9) rfl), (H.rS (i := 10) rfl), (H.rS (i := 11) rfl)⟩⟩ ⟨H.rAl (i := 12) rfl, H.rA (i := 12) rfl⟩ ⟨H.rAl (i := 13) rfl, _, H.rA (i := 13) rfl, ⟨rfl, hI1⟩⟩) ?_
    rintro _ w2 hE rfl
    have H := H.ext hE
    refine WL.nil ?_
    refine CW.condB rfl (fun h2 => ?_) (fun h2 => ?_)
    · have hb1 := ifp h2 hb1
      refine Sreg ?_
      refine Wmv rfl rfl rfl rfl (Wsn rfl rfl rfl rfl ?_)
      refine CW.ret ?_
      obtain rfl := sm hb1
      obtain rfl := ht1 _ rfl
      obtain rfl := sm hr
      exact ⟨_, res1 rfl rfl rfl, H.ext0, rfl, (i64_nat hk2 hl1)⟩
    · have hb1 := ifn h2 hb1
      refine CW.skip ?_
      refine CW.reg ?_
      refine WL.ev rfl rfl (Ev.bin rfl rfl rfl (Bin.addN (a := k1) (b := 1) rfl (i64_succN hk2 hl1.2))) (Wmv rfl rfl rfl rfl (WL.nil ?_))
      obtain rfl := sm hb1
      have hq1 := hs1 _ rfl
      exact ⟨(k1 + 1), ⟨rfl, rfl, rfl, rfl, trivial⟩, ⟨hk2, hq1, H.keep 15 0⟩, Nat.sub_lt_sub_left hk2 (Nat.lt_succ_self _)⟩
  · obtain rfl := findL_end hq1 (not_cast_lt h1)
    have hr := (onr_inl _ _ _).symm.trans hr
    refine CW.exit ?_
    refine Sreg ?_
    refine Wsn rfl rfl rfl rfl ?_
    refine CW.ret ?_
    obtain rfl := sm hr
    exact ⟨_, res1 rfl rfl rfl, H.ext0, rfl, (by decide : I64 (-1))⟩

noncomputable def slices_ContainsFunc_string_ivisits_knows_1_m (a0 : (List ByteArray)) (a1_0_0 : visits) (a1_1 : Int) : Option Bool :=
  (slices_IndexFunc_string_ivisits_knows_1_m a0 a1_0_0 a1_1).bind fun y1 =>
  some (decide (0 ≤ y1))
theorem slices_ContainsFunc_string_ivisits_knows_1_ok {a0 : (List ByteArray)} {a1_0_0 : visits} {a1_1 : Int} {r : Bool} (hr : slices_ContainsFunc_string_ivisits_knows_1_m a0 a1_0_0 a1_1 = some r) {F0 : Nat → Prop} {w0 : World} {z0 : Value} (ha0 : rdS F0 w0 a0 z0) {b1_0_0p : Nat} (ha1_0_0 : CapP F0 w0 b1_0_0p a1_0_0) {b1_0p : Nat} (ha1_0 : F0 b1_0p ∧ At w0 b1_0p 0 [.pointer (some ⟨b1_0_0p, 0, none⟩)]) {b1_1p : Nat} (ha1_1 : CapP F0 w0 b1_1p a1_1) :
    Ret Tryz.prog 186 #[z0, .func (.func 187) #[] #[.pointer (some ⟨b1_0p, 0, none⟩), .pointer (some ⟨b1_1p, 0, none⟩)]] w0 (fun _ => False) fun v w => v = .bool r := by
  obtain ⟨A0', n0', c0', rfl⟩ := ha0.form3
  have H := (HL.start F0 w0).argS ha0
  obtain ⟨cpa1_0_0, H⟩ := H.argP ha1_0_0
  obtain ⟨A1, n1, c1, A2, n2, c2, A3, n3, c3, A4, n4, c4, A5, n5, c5, A6, n6, c6, A7, n7, c7, A8, n8, c8, A9, n9, c9, rfl, hS1, hS2, H⟩ := op_visits H (i := 2) rfl
  have H := H.argA ha1_0
  obtain ⟨cpa1_1, H⟩ := H.argP ha1_1
  obtain ⟨rfl, hI1, H⟩ := op_Int H (i := 14) rfl
  refine enter Tryz.func186 rfl rfl rfl ?_
  refine Sreg ?_
  refine Wsn rfl rfl rfl rfl ?_
  refine Sreg ?_
  refine Wmv rfl rfl rfl rfl (Wmv rfl rfl rfl rfl ?_)
  obtain ⟨y1, hy1, hr⟩ := bd hr
  refine WL.call rfl rfl rfl rfl rfl ok224 rfl (slices_IndexFunc_string_ivisits_knows_1_ok hy1 (F0 := fun q => q < _) (H.rS (i := 0) rfl) ⟨H.rAl (i := 1) rfl, _, H.rA (i := 1) rfl, ⟨_, _, _, _, _, _, _, _, _, rfl, hS1, hS2, (H.rS (i := 3) rfl), (H.rS (i := 4) rfl), (H.rS (i := 5) rfl), (H.rS (i := 6) rfl), (H.rS (i := 7) rfl), (H.rS (i := 8) rfl), (H.rS (i := 9) rfl), (H.rS (i := 10) rfl), (H.rS (i := 11) rfl)⟩⟩ ⟨H.rAl (i := 12) rfl, H.rA (i := 12) rfl⟩ ⟨H.rAl (i := 13) rfl, _, H.rA (i := 13) rfl, ⟨rfl, hI1⟩⟩) ?_
  rintro _ w1 hE ⟨rfl, hI2⟩
  have H := H.ext hE
  refine WL.ev rfl rfl (Ev.bin rfl rfl rfl Bin.geq) (Wsn rfl rfl rfl rfl ?_)
  refine CW.ret ?_
  obtain rfl := sm hr
  exact ⟨_, res1 rfl rfl rfl, H.ext0, rfl⟩

noncomputable def ivisits_knows_m (a0 : visits) (a1 : Int) (a2 : (List ByteArray)) : Option Bool :=
  (slices_ContainsFunc_string_ivisits_knows_1_m a2 a0 a1).bind fun y1 =>
  some (!y1)
theorem ivisits_knows_ok {a0 : visits} {a1 : Int} {a2 : (List ByteArray)} {r : Bool} (hr : ivisits_knows_m a0 a1 a2 = some r) {F0 : Nat → Prop} {w0 : World} {b0p : Nat} (ha0 : CapP F0 w0 b0p a0) (ha1 : I64 a1) {z2 : Value} (ha2 : rdS F0 w0 a2 z2) :
    Ret Tryz.prog 150 #[.pointer (some ⟨b0p, 0, none⟩), .int .i64 a1, z2] w0 (fun _ => False) fun v w => v = .bool r := by
  obtain ⟨A2', n2', c2', rfl⟩ := ha2.form3
  have H := (HL.start F0 w0).argS ha2
  obtain ⟨cpa0, H⟩ := H.argP ha0
  obtain ⟨A1, n1, c1, A2, n2, c2, A3, n3, c3, A4, n4, c4, A5, n5, c5, A6, n6, c6, A7, n7, c7, A8, n8, c8, A9, n9, c9, rfl, hS1, hS2, H⟩ := op_visits H (i := 2) rfl
  refine enter Tryz.func150 rfl rfl rfl ?_
  refine Sreg ?_
  refine WL.boxH rfl rfl rfl rfl rfl H fun b1 w1 H => ?_
  refine WL.boxH rfl rfl rfl rfl rfl H fun b2 w2 H => ?_
  refine Wsn rfl rfl rfl rfl ?_
  refine Sreg ?_
  refine Wmv rfl rfl rfl rfl (WL.ev rfl rfl (Ev.mkfL rfl rfl rfl) ?_)
  obtain ⟨y1, hy1, hr⟩ := bd hr
  refine WL.call rfl rfl rfl rfl rfl ok186 rfl (slices_ContainsFunc_string_ivisits_knows_1_ok hy1 (F0 := fun q => q < _) (H.rS (i := 0) rfl) ⟨H.rAl (i := 1) rfl, _, H.rA (i := 1) rfl, ⟨_, _, _, _, _, _, _, _, _, rfl, hS1, hS2, (H.rS (i := 3) rfl), (H.rS (i := 4) rfl), (H.rS (i := 5) rfl), (H.rS (i := 6) rfl), (H.rS (i := 7) rfl), (H.rS (i := 8) rfl), (H.rS (i := 9) rfl), (H.rS (i := 10) rfl), (H.rS (i := 11) rfl)⟩⟩ ⟨(H.rB (i := 0) rfl).lt, At.blk (H.rB (i := 0) rfl)⟩ ⟨(H.rB (i := 1) rfl).lt, _, At.blk (H.rB (i := 1) rfl), ⟨rfl, ha1⟩⟩) ?_
  rintro _ w3 hE rfl
  have H := H.ext hE
  refine WL.ev rfl rfl (Ev.not rfl rfl) (Wsn rfl rfl rfl rfl ?_)
  refine CW.ret ?_
  obtain rfl := sm hr
  exact ⟨_, res1 rfl rfl rfl, H.ext0, rfl⟩

noncomputable def ivisits_mayVisit_m (a0 : visits) (a1 : Int) : Option Bool :=
  (ivisits_phasesAt_m a0 a1).bind fun y1 =>
  (iwithin_m a1 1 (a0.r.Right.length : Int)).bind fun y2 =>
  (
  if y2 = true then (
  grd (0 ≤ a1) <|
  (a0.next[a1.toNat]?).bind fun x1 =>
  some (decide (x1 < (y1.length : Int)))
  ) else (
  some false
  )
  ).bind fun s1 =>
  (
  if s1 = true then (
  grd (0 ≤ a1) <|
  (a0.next[a1.toNat]?).bind fun x2 =>
  grd (0 ≤ x2) <|
  (y1[x2.toNat]?).bind fun x3 =>
  (ivisits_knows_m a0 a1 x3.Inherited).bind fun y3 =>
  some y3
  ) else (
  some false
  )
  ).bind fun s2 =>
  some s2
theorem ivisits_mayVisit_ok {a0 : visits} {a1 : Int} {r : Bool} (hr : ivisits_mayVisit_m a0 a1 = some r) {F0 : Nat → Prop} {w0 : World} {b0p : Nat} (ha0 : CapP F0 w0 b0p a0) (ha1 : I64 a1) :
    Ret Tryz.prog 148 #[.pointer (some ⟨b0p, 0, none⟩), .int .i64 a1] w0 (fun _ => False) fun v w => v = .bool r := by
  have H := HL.start F0 w0
  obtain ⟨cpa0, H⟩ := H.argP ha0
  obtain ⟨A1, n1, c1, A2, n2, c2, A3, n3, c3, A4, n4, c4, A5, n5, c5, A6, n6, c6, A7, n7, c7, A8, n8, c8, A9, n9, c9, rfl, hS1, hS2, H⟩ := op_visits H (i := 1) rfl
  refine enter Tryz.func148 rfl rfl rfl ?_
  refine Sreg ?_
  refine Wsn rfl rfl rfl rfl ?_
  refine Sreg ?_
  refine Wmv rfl rfl rfl rfl (Wmv rfl rfl rfl rfl ?_)
  obtain ⟨y1, hy1, hr⟩ := bd hr
  obtain ⟨F, hF, hcl⟩ := H.call
  refine WL.call rfl rfl rfl rfl rfl ok90 rfl (ivisits_phasesAt_ok hy1 ⟨(hF.get (i := 0) rfl).1, _, (hF.get (i := 0) rfl).2, ⟨_, _, _, _, _, _, _, _, _, rfl, hS1, hS2, (hF.get (i := 2) rfl), (hF.get (i := 3) rfl), (hF.get (i := 4) rfl), (hF.get (i := 5) rfl), (hF.get (i := 6) rfl), (hF.get (i := 7) rfl), (hF.get (i := 8) rfl), (hF.get (i := 9) rfl), (hF.get (i := 10) rfl)⟩⟩ ha1) ?_
  rintro _ w1 hE ⟨A10, n10, c10, rfl, H'⟩
  have H := hcl H'
  refine Wsn rfl rfl rfl rfl ?_
  refine Sreg ?_
  refine Wmv rfl rfl rfl rfl (Wmv rfl rfl rfl rfl (WL.ev rfl rfl (Ev.nilc rfl rfl) (Wfa rfl rfl rfl fo142_2 rfl (Wfa rfl rfl rfl fo45_2 rfl (WL.ev rfl rfl (Ev.ld rfl ag26 rfl ((H.rA (i := 0) rfl).cellK (k := 5) rfl rfl)) ?_)))))
  have hl1 := (H.rS (i := 5) rfl).I
  refine WL.ev rfl rfl (Ev.lenV rfl el26 rfl (H.rS (i := 5) rfl)) ?_
  obtain ⟨y2, hy2, hr⟩ := bd hr
  refine WL.call rfl rfl rfl rfl rfl ok117 rfl (iwithin_ok hy2 (F0 := fun _ => False) ha1 (by decide : I64 1) hl1) ?_
  rintro _ w2 hE rfl
  have H := H.ext hE
  obtain ⟨q1, hm1, hr⟩ := bd hr
  refine WL.cut 12 (fun ρ' w => ∃ (s1 : Bool), s1 = q1 ∧ agree ρ' [(0, .pointer (some ⟨b0p, 0, none⟩)), (1, .int .i64 a1), (4, .bool false), (5, .slice A10 n10 c10), (28, .bool s1)] ∧ HL F0 [] w0 w [Pr.A b0p 0 [.slice A1 n1 c1, .slice A2 n2 c2, .slice A3 n3 c3, .string a0.r.Name, .string a0.r.Left, .slice A4 n4 c4, .bool a0.r.Literal, .slice A5 n5 c5, .slice A6 n6 c6, .slice A7 n7 c7, .slice A8 n8 c8, .slice A9 n9 c9], Pr.R a0 [.slice A1 n1 c1, .slice A2 n2 c2, .slice A3 n3 c3, .string a0.r.Name, .string a0.r.Left, .slice A4 n4 c4, .bool a0.r.Literal, .slice A5 n5 c5, .slice A6 n6 c6, .slice A7 n7 c7, .slice A8 n8 c8, .slice A9 n9 c9], Pr.S a0.g.Symbols (.slice A1 n1 c1), Pr.S a0.g.Rules (.slice A2 n2 c2), Pr.S a0.phases (.slice A3 n3 c3), Pr.S a0.r.Right (.slice A4 n4 c4), Pr.S a0.r.Equations (.slice A5 n5 c5), Pr.S a0.r.Contributions (.slice A6 n6 c6), Pr.S a0.due (.slice A7 n7 c7), Pr.S a0.known (.slice A8 n8 c8), Pr.S a0.next (.slice A9 n9 c9), Pr.S y1 (.slice A10 n10 c10)] []) ?_ ?_
  · refine WL.mvB rfl rfl rfl rfl (fun h1 => ?_) (fun h1 => ?_)
    · have hm1 := ifp h1 hm1
      refine WL.on rfl rfl (Wmv rfl rfl rfl rfl (WL.on rfl rfl (WL.ev rfl rfl (Ev.nilc rfl rfl) (WL.on rfl rfl (Wfa rfl rfl rfl fo142_5 rfl (WL.on rfl rfl (WL.ev rfl rfl (Ev.ld rfl ag33 rfl ((H.rA (i := 0) rfl).cell rfl)) (WL.on rfl rfl (Wmv rfl rfl rfl rfl (WL.on rfl rfl ?_))))))))))
      obtain ⟨hg1, hm1⟩ := grd_some hm1
      obtain ⟨x1, hx1, hm1⟩ := bd hm1
      obtain ⟨b1, ob1, cb1, hvb1, hI1, H⟩ := ixS_Int H (i := 10) rfl hx1
      refine WL.ev rfl rfl (Ev.ixV rfl el33 sz3 rfl hvb1 rfl hg1 (lt_of hx1)) (WL.on rfl rfl (WL.ev rfl rfl (Ev.ld rfl ag3 rfl ((H.rA (i := 12) rfl).cell0 rfl)) (WL.on rfl rfl (Wmv rfl rfl rfl rfl (WL.on rfl rfl ?_)))))
      have hl2 := (H.rS (i := 11) rfl).I
      refine WL.ev rfl rfl (Ev.lenV rfl el125 rfl (H.rS (i := 11) rfl)) (WL.on rfl rfl (WL.ev rfl rfl (Ev.bin rfl rfl rfl Bin.lss) (WL.ev rfl rfl (Ev.pickT rfl rfl rfl) (WL.nil ?_))))
      obtain rfl := sm hm1
      exact ⟨(decide (x1 < (y1.length : Int))), rfl, ⟨rfl, rfl, rfl, rfl, rfl, trivial⟩, H.keep 12 0⟩
    · have hm1 := ifn h1 hm1
      refine WL.off rfl rfl rfl (WL.off rfl rfl rfl (WL.off rfl rfl rfl (WL.off rfl rfl rfl (WL.off rfl rfl rfl (WL.off rfl rfl rfl (WL.off rfl rfl rfl (WL.off rfl rfl rfl (WL.off rfl rfl rfl (WL.off rfl rfl rfl (WL.ev rfl rfl (Ev.pickF rfl rfl rfl) (WL.nil ?_)))))))))))
      obtain rfl := sm hm1
      exact ⟨false, rfl, ⟨rfl, rfl, rfl, rfl, rfl, trivial⟩, H.keep 12 0⟩
  · rintro ρ' w3 ⟨s1, rfl, hag, H⟩
    obtain ⟨σ, rfl⟩ := ofL_ex hag
    obtain ⟨q2, hm2, hr⟩ := bd hr
    refine WL.cut 16 (fun ρ' w => ∃ (s2 : Bool), s2 = q2 ∧ agree ρ' [(4, .bool false), (44, .bool s2)] ∧ HL F0 [] w0 w [Pr.A b0p 0 [.slice A1 n1 c1, .slice A2 n2 c2, .slice A3 n3 c3, .string a0.r.Name, .string a0.r.Left, .slice A4 n4 c4, .bool a0.r.Literal, .slice A5 n5 c5, .slice A6 n6 c6, .slice A7 n7 c7, .slice A8 n8 c8, .slice A9 n9 c9], Pr.R a0 [.slice A1 n1 c1, .slice A2 n2 c2, .slice A3 n3 c3, .string a0.r.Name, .string a0.r.Left, .slice A4 n4 c4, .bool a0.r.Literal, .slice A5 n5 c5, .slice A6 n6 c6, .slice A7 n7 c7, .slice A8 n8 c8, .slice A9 n9 c9], Pr.S a0.g.Symbols (.slice A1 n1 c1), Pr.S a0.g.Rules (.slice A2 n2 c2), Pr.S a0.phases (.slice A3 n3 c3), Pr.S a0.r.Right (.slice A4 n4 c4), Pr.S a0.r.Equations (.slice A5 n5 c5), Pr.S a0.r.Contributions (.slice A6 n6 c6), Pr.S a0.due (.slice A7 n7 c7), Pr.S a0.known (.slice A8 n8 c8), Pr.S a0.next (.slice A9 n9 c9), Pr.S y1 (.slice A10 n10 c10)] []) ?_ ?_
    · refine WL.mvB rfl rfl rfl rfl (fun h2 => ?_) (fun h2 => ?_)
      · have hm2 := ifp h2 hm2
        refine WL.on rfl rfl (Wmv rfl rfl rfl rfl (WL.on rfl rfl (Wmv rfl rfl rfl rfl (WL.on rfl rfl (Wmv rfl rfl rfl rfl (WL.on rfl rfl (Wmv rfl rfl rfl rfl (WL.on rfl rfl (WL.ev rfl rfl (Ev.nilc rfl rfl) (WL.on rfl rfl (Wfa rfl rfl rfl fo142_5 rfl (WL.on rfl rfl (WL.ev rfl rfl (Ev.ld rfl ag33 rfl ((H.rA (i := 0) rfl).cell rfl)) (WL.on rfl rfl (Wmv rfl rfl rfl rfl (WL.on rfl rfl ?_))))))))))))))))
        obtain ⟨hg2, hm2⟩ := grd_some hm2
        obtain ⟨x2, hx2, hm2⟩ := bd hm2
        obtain ⟨b2, ob2, cb2, hvb2, hI2, H⟩ := ixS_Int H (i := 10) rfl hx2
        refine WL.ev rfl rfl (Ev.ixV rfl el33 sz3 rfl hvb2 rfl hg2 (lt_of hx2)) (WL.on rfl rfl (WL.ev rfl rfl (Ev.ld rfl ag3 rfl ((H.rA (i := 12) rfl).cell0 rfl)) (WL.on rfl rfl ?_)))
        obtain ⟨hg3, hm2⟩ := grd_some hm2
        obtain ⟨x3, hx3, hm2⟩ := bd hm2
        obtain ⟨b3, ob3, cb3, A11, n11, c11, A12, n12, c12, hvb3, H⟩ := ixS_Phase H (i := 11) rfl hx3
        refine WL.ev rfl rfl (Ev.ixV rfl el125 sz129 rfl hvb3 rfl hg3 (lt_of hx3)) (WL.on rfl rfl (Wfa rfl rfl rfl fo129_0 rfl (WL.on rfl rfl (WL.ev rfl rfl (Ev.ld rfl ag26 rfl ((H.rA (i := 14) rfl).cell rfl)) (WL.on rfl rfl ?_)))))
        obtain ⟨y3, hy3, hm2⟩ := bd hm2
        refine WL.call rfl rfl rfl rfl rfl ok150 rfl (ivisits_knows_ok hy3 (F0 := fun q => q < _) ⟨H.rAl (i := 0) rfl, _, H.rA (i := 0) rfl, ⟨_, _, _, _, _, _, _, _, _, rfl, hS1, hS2, (H.rS (i := 2) rfl), (H.rS (i := 3) rfl), (H.rS (i := 4) rfl), (H.rS (i := 5) rfl), (H.rS (i := 6) rfl), (H.rS (i := 7) rfl), (H.rS (i := 8) rfl), (H.rS (i := 9) rfl), (H.rS (i := 10) rfl)⟩⟩ ha1 (H.rS (i := 16) rfl)) ?_
        rintro _ w4 hE rfl
        have H := H.ext hE
        refine WL.ev rfl rfl (Ev.pickT rfl rfl rfl) (WL.nil ?_)
        obtain rfl := sm hm2
        exact ⟨y3, rfl, ⟨rfl, rfl, trivial⟩, H.keep 12 0⟩
      · have hm2 := ifn h2 hm2
        refine WL.off rfl rfl rfl (WL.off rfl rfl rfl (WL.off rfl rfl rfl (WL.off rfl rfl rfl (WL.off rfl rfl rfl (WL.off rfl rfl rfl (WL.off rfl rfl rfl (WL.off rfl rfl rfl (WL.off rfl rfl rfl (WL.off rfl rfl rfl (WL.off rfl rfl rfl (WL.off rfl rfl rfl (WL.off rfl rfl rfl (WL.off rfl rfl rfl (WL.ev rfl rfl (Ev.pickF rfl rfl rfl) (WL.nil ?_)))))))))))))))
        obtain rfl := sm hm2
        exact ⟨false, rfl, ⟨rfl, rfl, trivial⟩, H.keep 12 0⟩
    · rintro ρ' w5 ⟨s2, rfl, hag, H⟩
      obtain ⟨σ, rfl⟩ := ofL_ex hag
      refine Wsn rfl rfl rfl rfl ?_
      refine CW.ret ?_
      obtain rfl := sm hr
      exact ⟨_, res1 rfl rfl rfl, H.ext0, rfl⟩

noncomputable def ivisits_visit_m (a1 : Int) (o2 : visits) : Option visits :=
  (
  (ivisits_phasesAt_v2_m a1 o2).bind fun y1 =>
  grd (0 ≤ a1) <|
  (o2.next[a1.toNat]?).bind fun x1 =>
  grd (0 ≤ x1) <|
  (y1[x1.toNat]?).bind fun x2 =>
  (ivisits_learn_m a1 x2.Synthesized o2).bind fun z1 =>
  some (z1.due, z1.next, z1.r.Name, z1.r.Left, z1.r.Literal, z1.known)
  ).bind fun (s1, s2, s3, s4, s5, s6) =>
  grd (0 ≤ a1) <|
  (s2[a1.toNat]?).bind fun x3 =>
  grd (I64 (x3 + 1)) <|
  some (⟨o2.g, o2.phases, (⟨s3, s4, o2.r.Right, s5, o2.r.Equations, o2.r.Contributions⟩ : Rule), s1, s6, (List.set s2 a1.toNat (x3 + 1))⟩ : visits)
theorem ivisits_visit_ok {a1 : Int} {o2 : visits} {r : visits} (hr : ivisits_visit_m a1 o2 = some r) {F0 : Nat → Prop} {M : List Nat} {w0 : World} {bo2 : Nat} {Ao2_0 : Option Addr} {no2_0 co2_0 : Nat} {Ao2_1 : Option Addr} {no2_1 co2_1 : Nat} {Ao2_2 : Option Addr} {no2_2 co2_2 : Nat} {Ao2_5 : Option Addr} {no2_5 co2_5 : Nat} {Ao2_7 : Option Addr} {no2_7 co2_7 : Nat} {Ao2_8 : Option Addr} {no2_8 co2_8 : Nat} {Ao2_9 : Option Addr} {no2_9 co2_9 : Nat} {Ao2_10 : Option Addr} {no2_10 co2_10 : Nat} {Ao2_11 : Option Addr} {no2_11 co2_11 : Nat} (hIa1 : I64 a1) (hIo2_3 : o2.r.Name.size ≤ 9223372036854775807) (hIo2_4 : o2.r.Left.size ≤ 9223372036854775807) (H : HL F0 M w0 w0 [Pr.S o2.g.Symbols (.slice Ao2_0 no2_0 co2_0), Pr.S o2.g.Rules (.slice Ao2_1 no2_1 co2_1), Pr.S o2.phases (.slice Ao2_2 no2_2 co2_2), Pr.S o2.r.Right (.slice Ao2_5 no2_5 co2_5), Pr.S o2.r.Equations (.slice Ao2_7 no2_7 co2_7), Pr.S o2.r.Contributions (.slice Ao2_8 no2_8 co2_8)] [It.O 90 o2.due (.slice Ao2_9 no2_9 co2_9), It.O 3 o2.next (.slice Ao2_11 no2_11 co2_11), It.B bo2 142 [.slice Ao2_0 no2_0 co2_0, .slice Ao2_1 no2_1 co2_1, .slice Ao2_2 no2_2 co2_2, .string o2.r.Name, .string o2.r.Left, .slice Ao2_5 no2_5 co2_5, .bool o2.r.Literal, .slice Ao2_7 no2_7 co2_7, .slice Ao2_8 no2_8 co2_8, .slice Ao2_9 no2_9 co2_9, .slice Ao2_10 no2_10 co2_10, .slice Ao2_11 no2_11 co2_11], It.O 90 o2.known (.slice Ao2_10 no2_10 co2_10)]) :
    Ret Tryz.prog 149 #[.pointer (some ⟨bo2, 0, none⟩), .int .i64 a1] w0 (· ∈ M) fun v w => ∃ A0 : Option Addr, ∃ n0 c0 : Nat, ∃ A1 : Option Addr, ∃ n1 c1 : Nat, ∃ A2 : Option Addr, ∃ n2 c2 : Nat, v = .tuple #[] ∧ r.r.Name.size ≤ 9223372036854775807 ∧ r.r.Left.size ≤ 9223372036854775807 ∧ HL F0 M w0 w [] [It.O 90 r.due (.slice A0 n0 c0), It.O 3 r.next (.slice A2 n2 c2), It.B bo2 142 [.slice Ao2_0 no2_0 co2_0, .slice Ao2_1 no2_1 co2_1, .slice Ao2_2 no2_2 co2_2, .string r.r.Name, .string r.r.Left, .slice Ao2_5 no2_5 co2_5, .bool r.r.Literal, .slice Ao2_7 no2_7 co2_7, .slice Ao2_8 no2_8 co2_8, (.slice A0 n0 c0), (.slice A1 n1 c1), (.slice A2 n2 c2)], It.O 90 r.known (.slice A1 n1 c1)] := by
  refine enter Tryz.func149 rfl rfl rfl ?_
  obtain ⟨q1, hm1, hr⟩ := bd hr
  refine CW.seq (CW.mid (fun ρ' w => ∃ (s1 : List Occurrence) (s2 : List Int) (s3 : ByteArray) (s4 : ByteArray) (s5 : Bool) (s6 : List Occurrence) (v1 : Value) (v2 : Value) (v3 : Value), q1 = (s1, s2, s3, s4, s5, s6) ∧ agree ρ' [(0, .pointer (some ⟨bo2, 0, none⟩)), (1, .int .i64 a1)] ∧ s3.size ≤ 9223372036854775807 ∧ s4.size ≤ 9223372036854775807 ∧ HL F0 M w0 w [Pr.S o2.g.Symbols (.slice Ao2_0 no2_0 co2_0), Pr.S o2.g.Rules (.slice Ao2_1 no2_1 co2_1), Pr.S o2.phases (.slice Ao2_2 no2_2 co2_2), Pr.S o2.r.Right (.slice Ao2_5 no2_5 co2_5), Pr.S o2.r.Equations (.slice Ao2_7 no2_7 co2_7), Pr.S o2.r.Contributions (.slice Ao2_8 no2_8 co2_8)] [It.O 90 s1 v1, It.O 3 s2 v2, It.B bo2 142 [.slice Ao2_0 no2_0 co2_0, .slice Ao2_1 no2_1 co2_1, .slice Ao2_2 no2_2 co2_2, .string s3, .string s4, .slice Ao2_5 no2_5 co2_5, .bool s5, .slice Ao2_7 no2_7 co2_7, .slice Ao2_8 no2_8 co2_8, v1, v3, v2], It.O 90 s6 v3]) ?_ ?_)
  · refine CW.held (fun w => ∃ o0_ : It, ∃ o1_ : It, ∃ v2_3_ : Value, ∃ v2_4_ : Value, ∃ v2_6_ : Value, ∃ v2_9_ : Value, ∃ v2_10_ : Value, ∃ v2_11_ : Value, ∃ o3_ : It, HL F0 M w0 w [Pr.S o2.g.Symbols (.slice Ao2_0 no2_0 co2_0), Pr.S o2.g.Rules (.slice Ao2_1 no2_1 co2_1), Pr.S o2.phases (.slice Ao2_2 no2_2 co2_2), Pr.S o2.r.Right (.slice Ao2_5 no2_5 co2_5), Pr.S o2.r.Equations (.slice Ao2_7 no2_7 co2_7), Pr.S o2.r.Contributions (.slice Ao2_8 no2_8 co2_8)] [o0_, o1_, It.B bo2 142 [.slice Ao2_0 no2_0 co2_0, .slice Ao2_1 no2_1 co2_1, .slice Ao2_2 no2_2 co2_2, v2_3_, v2_4_, .slice Ao2_5 no2_5 co2_5, v2_6_, .slice Ao2_7 no2_7 co2_7, .slice Ao2_8 no2_8 co2_8, v2_9_, v2_10_, v2_11_], o3_]) hmix (fun w1 hE => ?_)
    have H := H.ext hE
    refine HW.take 0 ⟨_, _, _, _, _, _, _, _, _, H.keep 6 4⟩ rfl (by kernel_rfl) rfl rfl (fun _ _ => Ev.mv rfl rfl) ?_
    refine HW.take 1 ⟨_, _, _, _, _, _, _, _, _, H.keep 6 4⟩ rfl (by kernel_rfl) rfl rfl (fun _ _ => Ev.mv rfl rfl) ?_
    refine HW.take 2 ⟨_, _, _, _, _, _, _, _, _, H.keep 6 4⟩ rfl (by kernel_rfl) rfl rfl (fun _ _ => Ev.mv rfl rfl) ?_
    refine HW.take 3 ⟨_, _, _, _, _, _, _, _, _, H.keep 6 4⟩ rfl (by kernel_rfl) rfl rfl (fun _ _ => Ev.mv rfl rfl) ?_
    refine HW.take 5 ⟨_, _, _, _, _, _, _, _, _, H.keep 6 4⟩ rfl (by kernel_rfl) rfl rfl (fun _ _ => Ev.mv rfl rfl) ?_
    refine HW.take 6 ⟨_, _, _, _, _, _, _, _, _, H.keep 6 4⟩ rfl (by kernel_rfl) rfl rfl (fun _ _ => Ev.nilc rfl rfl) ?_
    refine HW.take 7 ⟨_, _, _, _, _, _, _, _, _, H.keep 6 4⟩ rfl (by kernel_rfl) rfl rfl (fun _ _ => Ev.fa rfl fo142_5 rfl) ?_
    refine HW.take 9 ⟨_, _, _, _, _, _, _, _, _, H.keep 6 4⟩ rfl (by kernel_rfl) rfl rfl (fun _ _ => Ev.mv rfl rfl) ?_
    refine HW.some [4, 8] (by kernel_rfl) rfl ⟨HW.do1 rfl ?_, HW.do1 rfl ?_, trivial⟩
    · obtain ⟨y1, hy1, hm1⟩ := bd hm1
      obtain ⟨F', M', hfF, hcM⟩ := H.callV [true, true, true, true] ⟨noO, noO, noB, noO, trivial⟩
      obtain ⟨H', hcN⟩ := hcM (ps := [Pr.S o2.g.Symbols (.slice Ao2_0 no2_0 co2_0), Pr.S o2.g.Rules (.slice Ao2_1 no2_1 co2_1), Pr.S o2.phases (.slice Ao2_2 no2_2 co2_2), Pr.S o2.r.Right (.slice Ao2_5 no2_5 co2_5), Pr.S o2.r.Equations (.slice Ao2_7 no2_7 co2_7), Pr.S o2.r.Contributions (.slice Ao2_8 no2_8 co2_8)]) ⟨hfF.get (i := 0) rfl, hfF.get (i := 1) rfl, hfF.get (i := 2) rfl, hfF.get (i := 3) rfl, hfF.get (i := 4) rfl, hfF.get (i := 5) rfl, trivial⟩
      refine WL.call rfl rfl rfl rfl rfl ok90 rfl (ivisits_phasesAt_v2_ok hy1 hIa1 hIo2_3 hIo2_4 H') ?_
      rintro _ w2 hE ⟨A1, n1, c1, rfl, H'⟩
      have H := hcN 4 H' rfl ⟨fun _ _ _ _ _ h => h, ⟨fun _ _ _ _ _ h => h, ⟨fun _ _ _ _ _ h => h, ⟨fun _ _ _ _ _ h => h, trivial⟩⟩⟩⟩
      refine HW.next ⟨_, _, _, _, _, _, _, _, _, H.keep 6 4⟩ ?_
      refine HW.eff 8 rfl (by kernel_rfl) ?_
      refine WL.ev rfl rfl (Ev.ld rfl ag33 rfl ((H.rB (i := 2) rfl).cell rfl)) ?_
      refine HW.next ⟨_, _, _, _, _, _, _, _, _, H.keep 6 4⟩ ?_
      obtain ⟨hg1, hm1⟩ := grd_some hm1
      obtain ⟨x1, hx1, hm1⟩ := bd hm1
      obtain ⟨b1, cb1, hvb1, hbb1⟩ := H.ptO (i := 1) rfl hx1
      refine HW.take 10 ⟨_, _, _, _, _, _, _, _, _, H.keep 6 4⟩ rfl (by kernel_rfl) rfl rfl (fun _ _ => Ev.ixV rfl el33 sz3 rfl hvb1 rfl hg1 (lt_of hx1)) ?_
      refine HW.eff 11 rfl (by kernel_rfl) ?_
      obtain ⟨hA1, hI1, H⟩ := elO_Int H (i := 1) rfl hx1 hbb1
      refine WL.ev rfl rfl (Ev.ld rfl ag3 rfl (hA1.cell0 rfl)) ?_
      refine HW.next ⟨_, _, _, _, _, _, _, _, _, H.keep 6 4⟩ ?_
      obtain ⟨hg2, hm1⟩ := grd_some hm1
      obtain ⟨x2, hx2, hm1⟩ := bd hm1
      obtain ⟨b2, ob2, cb2, A2, n2, c2, A3, n3, c3, hvb2, H⟩ := ixS_Phase H (i := 6) rfl hx2
      refine HW.take 12 ⟨_, _, _, _, _, _, _, _, _, H.keep 6 4⟩ rfl (by kernel_rfl) rfl rfl (fun _ _ => Ev.ixV rfl el125 sz129 rfl hvb2 rfl hg2 (lt_of hx2)) ?_
      refine HW.take 13 ⟨_, _, _, _, _, _, _, _, _, H.keep 6 4⟩ rfl (by kernel_rfl) rfl rfl (fun _ _ => Ev.fa rfl fo129_1 rfl) ?_
      refine HW.eff 14 rfl (by kernel_rfl) ?_
      refine WL.ev rfl rfl (Ev.ld rfl ag26 rfl ((H.rA (i := 8) rfl).cell rfl)) ?_
      refine HW.next ⟨_, _, _, _, _, _, _, _, _, H.keep 6 4⟩ ?_
      refine HW.eff 15 rfl (by kernel_rfl) ?_
      obtain ⟨z1, hy2, hm1⟩ := bd hm1
      obtain ⟨F', M', hfF, hoF, hcM⟩ := H.callN [true, true, true, true] ⟨noO, noO, noB, noO, trivial⟩
      obtain ⟨H', hcN⟩ := hcM (ps := [Pr.S x2.Synthesized (.slice A3 n3 c3), Pr.S o2.g.Symbols (.slice Ao2_0 no2_0 co2_0), Pr.S o2.g.Rules (.slice Ao2_1 no2_1 co2_1), Pr.S o2.phases (.slice Ao2_2 no2_2 co2_2), Pr.S o2.r.Right (.slice Ao2_5 no2_5 co2_5), Pr.S o2.r.Equations (.slice Ao2_7 no2_7 co2_7), Pr.S o2.r.Contributions (.slice Ao2_8 no2_8 co2_8)]) ⟨hfF.get (i := 11) rfl, hfF.get (i := 0) rfl, hfF.get (i := 1) rfl, hfF.get (i := 2) rfl, hfF.get (i := 3) rfl, hfF.get (i := 4) rfl, hfF.get (i := 5) rfl, trivial⟩
      refine WL.call rfl rfl rfl rfl rfl ok91 rfl (ivisits_learn_ok hy2 hIa1 hIo2_3 hIo2_4 H') ?_
      rintro _ w3 hE ⟨A4, n4, c4, A5, n5, c5, A6, n6, c6, rfl, hS3, hS4, H'⟩
      have H := hcN 4 H' rfl ⟨fun _ _ _ _ _ h => h, ⟨fun _ _ _ _ _ h => h, ⟨fun _ _ _ _ _ h => h, ⟨fun _ _ _ _ _ h => h, trivial⟩⟩⟩⟩
      refine HW.next ⟨_, _, _, _, _, _, _, _, _, H.keep 6 4⟩ ?_
      refine HW.done (by kernel_rfl) ?_
      obtain rfl := sm hm1
      exact ⟨z1.due, z1.next, z1.r.Name, z1.r.Left, z1.r.Literal, z1.known, _, _, _, rfl, ⟨rfl, rfl, trivial⟩, hS3, hS4, H.keep 6 4⟩
    · obtain ⟨y1, hy1, hm1⟩ := bd hm1
      obtain ⟨hg1, hm1⟩ := grd_some hm1
      obtain ⟨x1, hx1, hm1⟩ := bd hm1
      obtain ⟨hg2, hm1⟩ := grd_some hm1
      obtain ⟨x2, hx2, hm1⟩ := bd hm1
      obtain ⟨z1, hy2, hm1⟩ := bd hm1
      refine WL.ev rfl rfl (Ev.ld rfl ag33 rfl ((H.rB (i := 2) rfl).cell rfl)) ?_
      refine HW.next ⟨_, _, _, _, _, _, _, _, _, H.keep 6 4⟩ ?_
      obtain ⟨b1, cb1, hvb1, hbb1⟩ := H.ptO (i := 1) rfl hx1
      refine HW.take 10 ⟨_, _, _, _, _, _, _, _, _, H.keep 6 4⟩ rfl (by kernel_rfl) rfl rfl (fun _ _ => Ev.ixV rfl el33 sz3 rfl hvb1 rfl hg1 (lt_of hx1)) ?_
      refine HW.some [4, 11] (by kernel_rfl) rfl ⟨HW.do1 rfl ?_, HW.do1 rfl ?_, trivial⟩
      · obtain ⟨F', M', hfF, hcM⟩ := H.callV [true, true, true, true] ⟨noO, noO, noB, noO, trivial⟩
        obtain ⟨H', hcN⟩ := hcM (ps := [Pr.S o2.g.Symbols (.slice Ao2_0 no2_0 co2_0), Pr.S o2.g.Rules (.slice Ao2_1 no2_1 co2_1), Pr.S o2.phases (.slice Ao2_2 no2_2 co2_2), Pr.S o2.r.Right (.slice Ao2_5 no2_5 co2_5), Pr.S o2.r.Equations (.slice Ao2_7 no2_7 co2_7), Pr.S o2.r.Contributions (.slice Ao2_8 no2_8 co2_8)]) ⟨hfF.get (i := 0) rfl, hfF.get (i := 1) rfl, hfF.get (i := 2) rfl, hfF.get (i := 3) rfl, hfF.get (i := 4) rfl, hfF.get (i := 5) rfl, trivial⟩
        refine WL.call rfl rfl rfl rfl rfl ok90 rfl (ivisits_phasesAt_v2_ok hy1 hIa1 hIo2_3 hIo2_4 H') ?_
        rintro _ w2 hE ⟨A1, n1, c1, rfl, H'⟩
        have H := hcN 4 H' rfl ⟨fun _ _ _ _ _ h => h, ⟨fun _ _ _ _ _ h => h, ⟨fun _ _ _ _ _ h => h, ⟨fun _ _ _ _ _ h => h, trivial⟩⟩⟩⟩
        refine HW.next ⟨_, _, _, _, _, _, _, _, _, H.keep 6 4⟩ ?_
        refine HW.eff 11 rfl (by kernel_rfl) ?_
        obtain ⟨hA1, hI1, H⟩ := elO_Int H (i := 1) rfl hx1 hbb1
        refine WL.ev rfl rfl (Ev.ld rfl ag3 rfl (hA1.cell0 rfl)) ?_
        refine HW.next ⟨_, _, _, _, _, _, _, _, _, H.keep 6 4⟩ ?_
        obtain ⟨b2, ob2, cb2, A2, n2, c2, A3, n3, c3, hvb2, H⟩ := ixS_Phase H (i := 6) rfl hx2
        refine HW.take 12 ⟨_, _, _, _, _, _, _, _, _, H.keep 6 4⟩ rfl (by kernel_rfl) rfl rfl (fun _ _ => Ev.ixV rfl el125 sz129 rfl hvb2 rfl hg2 (lt_of hx2)) ?_
        refine HW.take 13 ⟨_, _, _, _, _, _, _, _, _, H.keep 6 4⟩ rfl (by kernel_rfl) rfl rfl (fun _ _ => Ev.fa rfl fo129_1 rfl) ?_
        refine HW.eff 14 rfl (by kernel_rfl) ?_
        refine WL.ev rfl rfl (Ev.ld rfl ag26 rfl ((H.rA (i := 8) rfl).cell rfl)) ?_
        refine HW.next ⟨_, _, _, _, _, _, _, _, _, H.keep 6 4⟩ ?_
        refine HW.eff 15 rfl (by kernel_rfl) ?_
        obtain ⟨F', M', hfF, hoF, hcM⟩ := H.callN [true, true, true, true] ⟨noO, noO, noB, noO, trivial⟩
        obtain ⟨H', hcN⟩ := hcM (ps := [Pr.S x2.Synthesized (.slice A3 n3 c3), Pr.S o2.g.Symbols (.slice Ao2_0 no2_0 co2_0), Pr.S o2.g.Rules (.slice Ao2_1 no2_1 co2_1), Pr.S o2.phases (.slice Ao2_2 no2_2 co2_2), Pr.S o2.r.Right (.slice Ao2_5 no2_5 co2_5), Pr.S o2.r.Equations (.slice Ao2_7 no2_7 co2_7), Pr.S o2.r.Contributions (.slice Ao2_8 no2_8 co2_8)]) ⟨hfF.get (i := 11) rfl, hfF.get (i := 0) rfl, hfF.get (i := 1) rfl, hfF.get (i := 2) rfl, hfF.get (i := 3) rfl, hfF.get (i := 4) rfl, hfF.get (i := 5) rfl, trivial⟩
        refine WL.call rfl rfl rfl rfl rfl ok91 rfl (ivisits_learn_ok hy2 hIa1 hIo2_3 hIo2_4 H') ?_
        rintro _ w3 hE ⟨A4, n4, c4, A5, n5, c5, A6, n6, c6, rfl, hS3, hS4, H'⟩
        have H := hcN 4 H' rfl ⟨fun _ _ _ _ _ h => h, ⟨fun _ _ _ _ _ h => h, ⟨fun _ _ _ _ _ h => h, ⟨fun _ _ _ _ _ h => h, trivial⟩⟩⟩⟩
        refine HW.next ⟨_, _, _, _, _, _, _, _, _, H.keep 6 4⟩ ?_
        refine HW.done (by kernel_rfl) ?_
        obtain rfl := sm hm1
        exact ⟨z1.due, z1.next, z1.r.Name, z1.r.Left, z1.r.Literal, z1.known, _, _, _, rfl, ⟨rfl, rfl, trivial⟩, hS3, hS4, H.keep 6 4⟩
      · obtain ⟨hA1, hI1, H⟩ := elO_Int H (i := 1) rfl hx1 hbb1
        refine WL.ev rfl rfl (Ev.ld rfl ag3 rfl (hA1.cell0 rfl)) ?_
        refine HW.next ⟨_, _, _, _, _, _, _, _, _, H.keep 6 4⟩ ?_
        refine HW.eff 4 rfl (by kernel_rfl) ?_
        obtain ⟨F', M', hfF, hcM⟩ := H.callV [true, true, true, true] ⟨noO, noO, noB, noO, trivial⟩
        obtain ⟨H', hcN⟩ := hcM (ps := [Pr.S o2.g.Symbols (.slice Ao2_0 no2_0 co2_0), Pr.S o2.g.Rules (.slice Ao2_1 no2_1 co2_1), Pr.S o2.phases (.slice Ao2_2 no2_2 co2_2), Pr.S o2.r.Right (.slice Ao2_5 no2_5 co2_5), Pr.S o2.r.Equations (.slice Ao2_7 no2_7 co2_7), Pr.S o2.r.Contributions (.slice Ao2_8 no2_8 co2_8)]) ⟨hfF.get (i := 0) rfl, hfF.get (i := 1) rfl, hfF.get (i := 2) rfl, hfF.get (i := 3) rfl, hfF.get (i := 4) rfl, hfF.get (i := 5) rfl, trivial⟩
        refine WL.call rfl rfl rfl rfl rfl ok90 rfl (ivisits_phasesAt_v2_ok hy1 hIa1 hIo2_3 hIo2_4 H') ?_
        rintro _ w2 hE ⟨A1, n1, c1, rfl, H'⟩
        have H := hcN 4 H' rfl ⟨fun _ _ _ _ _ h => h, ⟨fun _ _ _ _ _ h => h, ⟨fun _ _ _ _ _ h => h, ⟨fun _ _ _ _ _ h => h, trivial⟩⟩⟩⟩
        refine HW.next ⟨_, _, _, _, _, _, _, _, _, H.keep 6 4⟩ ?_
        obtain ⟨b2, ob2, cb2, A2, n2, c2, A3, n3, c3, hvb2, H⟩ := ixS_Phase H (i := 7) rfl hx2
        refine HW.take 12 ⟨_, _, _, _, _, _, _, _, _, H.keep 6 4⟩ rfl (by kernel_rfl) rfl rfl (fun _ _ => Ev.ixV rfl el125 sz129 rfl hvb2 rfl hg2 (lt_of hx2)) ?_
        refine HW.take 13 ⟨_, _, _, _, _, _, _, _, _, H.keep 6 4⟩ rfl (by kernel_rfl) rfl rfl (fun _ _ => Ev.fa rfl fo129_1 rfl) ?_
        refine HW.eff 14 rfl (by kernel_rfl) ?_
        refine WL.ev rfl rfl (Ev.ld rfl ag26 rfl ((H.rA (i := 8) rfl).cell rfl)) ?_
        refine HW.next ⟨_, _, _, _, _, _, _, _, _, H.keep 6 4⟩ ?_
        refine HW.eff 15 rfl (by kernel_rfl) ?_
        obtain ⟨F', M', hfF, hoF, hcM⟩ := H.callN [true, true, true, true] ⟨noO, noO, noB, noO, trivial⟩
        obtain ⟨H', hcN⟩ := hcM (ps := [Pr.S x2.Synthesized (.slice A3 n3 c3), Pr.S o2.g.Symbols (.slice Ao2_0 no2_0 co2_0), Pr.S o2.g.Rules (.slice Ao2_1 no2_1 co2_1), Pr.S o2.phases (.slice Ao2_2 no2_2 co2_2), Pr.S o2.r.Right (.slice Ao2_5 no2_5 co2_5), Pr.S o2.r.Equations (.slice Ao2_7 no2_7 co2_7), Pr.S o2.r.Contributions (.slice Ao2_8 no2_8 co2_8)]) ⟨hfF.get (i := 11) rfl, hfF.get (i := 0) rfl, hfF.get (i := 1) rfl, hfF.get (i := 2) rfl, hfF.get (i := 3) rfl, hfF.get (i := 4) rfl, hfF.get (i := 5) rfl, trivial⟩
        refine WL.call rfl rfl rfl rfl rfl ok91 rfl (ivisits_learn_ok hy2 hIa1 hIo2_3 hIo2_4 H') ?_
        rintro _ w3 hE ⟨A4, n4, c4, A5, n5, c5, A6, n6, c6, rfl, hS3, hS4, H'⟩
        have H := hcN 4 H' rfl ⟨fun _ _ _ _ _ h => h, ⟨fun _ _ _ _ _ h => h, ⟨fun _ _ _ _ _ h => h, ⟨fun _ _ _ _ _ h => h, trivial⟩⟩⟩⟩
        refine HW.next ⟨_, _, _, _, _, _, _, _, _, H.keep 6 4⟩ ?_
        refine HW.done (by kernel_rfl) ?_
        obtain rfl := sm hm1
        exact ⟨z1.due, z1.next, z1.r.Name, z1.r.Left, z1.r.Literal, z1.known, _, _, _, rfl, ⟨rfl, rfl, trivial⟩, hS3, hS4, H.keep 6 4⟩
  · rintro ρ' w4 ⟨s1, s2, s3, s4, s5, s6, v1, v2, v3, rfl, hag, hS1, hS2, H⟩
    obtain ⟨σ, rfl⟩ := ofL_ex hag
    obtain ⟨A7, n7, c7, rfl⟩ := (H.rO (i := 0) rfl).form3
    obtain ⟨A8, n8, c8, rfl⟩ := (H.rO (i := 1) rfl).form3
    obtain ⟨A9, n9, c9, rfl⟩ := (H.rO (i := 3) rfl).form3
    refine CW.reg ?_
    refine Wmv rfl rfl rfl rfl (WL.ev rfl rfl (Ev.nilc rfl rfl) (Wfa rfl rfl rfl fo142_5 rfl (WL.ev rfl rfl (Ev.ld rfl ag33 rfl ((H.rB (i := 2) rfl).cell rfl)) (Wmv rfl rfl rfl rfl ?_))))
    obtain ⟨hg3, hr⟩ := grd_some hr
    obtain ⟨x3, hx3, hr⟩ := bd hr
    obtain ⟨b3, cb3, hvb3, hbb3⟩ := H.ptO (i := 1) rfl hx3
    refine WL.ev rfl rfl (Ev.ixV rfl el33 sz3 rfl hvb3 rfl hg3 (lt_of hx3)) ?_
    obtain ⟨hA2, hI2, H⟩ := elO_Int H (i := 1) rfl hx3 hbb3
    refine WL.ev rfl rfl (Ev.ld rfl ag3 rfl (hA2.cell0 rfl)) ?_
    obtain ⟨hg4, hr⟩ := grd_some hr
    refine WL.ev rfl rfl (Ev.bin rfl rfl rfl (Bin.add hg4)) ?_
    obtain ⟨b4, cb4, hvb4, hbb4⟩ := H.ptO (i := 1) rfl hx3
    refine WL.ev rfl rfl (Ev.ixV rfl el33 sz3 rfl hvb4 rfl hg3 (lt_of hx3)) ?_
    refine WL.stOf (i := 1) (z := (x3 + 1)) rfl rfl rfl sz3 rfl rfl rfl (fun _ => ⟨rfl, rfl, hg4⟩) H rfl hbb4 (by simpa using lt_of hx3) fun w5 H => ?_
    refine WL.nil ?_
    obtain rfl := sm hr
    exact ⟨_, res0 rfl, H.chg, _, _, _, _, _, _, _, _, _, rfl, hS1, hS2, H.outM (fr' := []) [true, true, true, true] fun _ _ => trivial⟩

noncomputable def ivisits_accepts_m (a1 : Step) (o2 : visits) : Option (Bool × visits) :=
  if a1.Kind = 1 then (
  if a1.Visit = 0 then (
  (ivisits_mayEval_m o2 (⟨a1.Pos, a1.Name⟩ : Occurrence)).bind fun y1 =>
  if y1 = true then (
  (
  grd (((o2.known.length : Int) + 1) * 24 ≤ 140737488355328 ∧ (o2.known.length : Int) + 1 ≤ 9223372036854775807) <|
  some (o2.known ++ [(⟨a1.Pos, a1.Name⟩ : Occurrence)])
  ).bind fun s1 =>
  some (true, (⟨o2.g, o2.phases, o2.r, o2.due, s1, o2.next⟩ : visits))
  ) else (
  some (false, o2)
  )
  ) else (
  some (false, o2)
  )
  ) else (
  if a1.Kind = 2 then (
  if a1.Name = (⟨#[]⟩ : ByteArray) then (
  (ivisits_mayVisit_m o2 a1.Pos).bind fun y2 =>
  if y2 = true then (
  grd (0 ≤ a1.Pos) <|
  (o2.next[a1.Pos.toNat]?).bind fun x1 =>
  grd (I64 (x1 + 1)) <|
  if a1.Visit = (x1 + 1) then (
  (ivisits_visit_m a1.Pos o2).bind fun z1 =>
  some (true, (⟨o2.g, o2.phases, (⟨z1.r.Name, z1.r.Left, o2.r.Right, z1.r.Literal, o2.r.Equations, o2.r.Contributions⟩ : Rule), z1.due, z1.known, z1.next⟩ : visits))
  ) else (
  some (false, o2)
  )
  ) else (
  some (false, o2)
  )
  ) else (
  some (false, o2)
  )
  ) else (
  if a1.Kind = 3 then (
  (ivisits_phasesAt_v2_m 0 o2).bind fun y3 =>
  if a1.Pos = 0 then (
  if a1.Name = (⟨#[]⟩ : ByteArray) then (
  (o2.next[0]?).bind fun x2 =>
  if (y3.length : Int) ≤ x2 then (
  some (false, o2)
  ) else (
  grd (I64 (x2 + 1)) <|
  if a1.Visit = (x2 + 1) then (
  grd (0 ≤ x2) <|
  (y3[x2.toNat]?).bind fun x3 =>
  (ivisits_knows_m o2 0 x3.Synthesized).bind fun y4 =>
  if y4 = true then (
  grd (I64 (x2 + 1)) <|
  ((List.set o2.next 0 (x2 + 1))[0]?).bind fun x4 =>
  if x4 < (y3.length : Int) then (
  grd (0 ≤ x4) <|
  (y3[x4.toNat]?).bind fun x5 =>
  (ivisits_learn_m 0 x5.Inherited (⟨o2.g, o2.phases, o2.r, o2.due, o2.known, (List.set o2.next 0 (x2 + 1))⟩ : visits)).bind fun z2 =>
  some (true, (⟨o2.g, o2.phases, (⟨z2.r.Name, z2.r.Left, o2.r.Right, z2.r.Literal, o2.r.Equations, o2.r.Contributions⟩ : Rule), z2.due, z2.known, z2.next⟩ : visits))
  ) else (
  some (true, (⟨o2.g, o2.phases, o2.r, o2.due, o2.known, (List.set o2.next 0 (x2 + 1))⟩ : visits))
  )
  ) else (
  some (false, o2)
  )
  ) else (
  some (false, o2)
  )
  )
  ) else (
  some (false, o2)
  )
  ) else (
  some (false, o2)
  )
  ) else (
  some (false, o2)
  )
  )
  )
theorem ivisits_accepts_ok {a1 : Step} {o2 : visits} {r : (Bool × visits)} (hr : ivisits_accepts_m a1 o2 = some r) {F0 : Nat → Prop} {M : List Nat} {w0 : World} {bo2 : Nat} {Ao2_0 : Option Addr} {no2_0 co2_0 : Nat} {Ao2_1 : Option Addr} {no2_1 co2_1 : Nat} {Ao2_2 : Option Addr} {no2_2 co2_2 : Nat} {Ao2_5 : Option Addr} {no2_5 co2_5 : Nat} {Ao2_7 : Option Addr} {no2_7 co2_7 : Nat} {Ao2_8 : Option Addr} {no2_8 co2_8 : Nat} {Ao2_9 : Option Addr} {no2_9 co2_9 : Nat} {Ao2_10 : Option Addr} {no2_10 co2_10 : Nat} {Ao2_11 : Option Addr} {no2_11 co2_11 : Nat} (hIa1_0 : I64 a1.Kind) (hIa1_1 : I64 a1.Pos) (hIa1_2 : I64 a1.Visit) (hIa1_3 : a1.Name.size ≤ 9223372036854775807) (hIo2_3 : o2.r.Name.size ≤ 9223372036854775807) (hIo2_4 : o2.r.Left.size ≤ 9223372036854775807) (H : HL F0 M w0 w0 [Pr.S o2.g.Symbols (.slice Ao2_0 no2_0 co2_0), Pr.S o2.g.Rules (.slice Ao2_1 no2_1 co2_1), Pr.S o2.phases (.slice Ao2_2 no2_2 co2_2), Pr.S o2.r.Right (.slice Ao2_5 no2_5 co2_5), Pr.S o2.r.Equations (.slice Ao2_7 no2_7 co2_7), Pr.S o2.r.Contributions (.slice Ao2_8 no2_8 co2_8)] [It.O 90 o2.due (.slice Ao2_9 no2_9 co2_9), It.O 3 o2.next (.slice Ao2_11 no2_11 co2_11), It.B bo2 142 [.slice Ao2_0 no2_0 co2_0, .slice Ao2_1 no2_1 co2_1, .slice Ao2_2 no2_2 co2_2, .string o2.r.Name, .string o2.r.Left, .slice Ao2_5 no2_5 co2_5, .bool o2.r.Literal, .slice Ao2_7 no2_7 co2_7, .slice Ao2_8 no2_8 co2_8, .slice Ao2_9 no2_9 co2_9, .slice Ao2_10 no2_10 co2_10, .slice Ao2_11 no2_11 co2_11], It.O 90 o2.known (.slice Ao2_10 no2_10 co2_10)]) :
    Ret Tryz.prog 92 #[.pointer (some ⟨bo2, 0, none⟩), .agg #[.int .i64 a1.Kind, .int .i64 a1.Pos, .int .i64 a1.Visit, .string a1.Name]] w0 (· ∈ M) fun v w => ∃ A0 : Option Addr, ∃ n0 c0 : Nat, ∃ A1 : Option Addr, ∃ n1 c1 : Nat, ∃ A2 : Option Addr, ∃ n2 c2 : Nat, v = .bool r.1 ∧ r.2.r.Name.size ≤ 9223372036854775807 ∧ r.2.r.Left.size ≤ 9223372036854775807 ∧ HL F0 M w0 w [] [It.O 90 r.2.due (.slice A0 n0 c0), It.O 3 r.2.next (.slice A2 n2 c2), It.B bo2 142 [.slice Ao2_0 no2_0 co2_0, .slice Ao2_1 no2_1 co2_1, .slice Ao2_2 no2_2 co2_2, .string r.2.r.Name, .string r.2.r.Left, .slice Ao2_5 no2_5 co2_5, .bool r.2.r.Literal, .slice Ao2_7 no2_7 co2_7, .slice Ao2_8 no2_8 co2_8, (.slice A0 n0 c0), (.slice A1 n1 c1), (.slice A2 n2 c2)], It.O 90 r.2.known (.slice A1 n1 c1)] := by
  refine enter Tryz.func92 rfl rfl rfl ?_
  refine Sreg ?_
  refine WL.boxH rfl rfl rfl rfl rfl H fun b1 w1 H => ?_
  refine Wsn rfl rfl rfl rfl ?_
  refine SSr ?_
  refine Wfa rfl rfl rfl fo130_0 rfl (WL.ev rfl rfl (Ev.ld rfl ag3 rfl ((H.rB (i := 4) rfl).cell rfl)) (WL.nil ?_))
  refine CW.block (Sreg ?_)
  refine WL.ev rfl rfl (Ev.bin rfl rfl rfl Bin.eql) (Wsn rfl rfl rfl rfl ?_)
  refine CW.condD rfl (fun h1 => ?_) (fun h1 => ?_)
  · have hr := ifp h1 hr
    refine Sreg ?_
    refine Wfa rfl rfl rfl fo130_1 rfl (WL.ev rfl rfl (Ev.ld rfl ag3 rfl ((H.rB (i := 4) rfl).cell rfl)) (Wfa rfl rfl rfl fo130_3 rfl (WL.ev rfl rfl (Ev.ld rfl ag9 rfl ((H.rB (i := 4) rfl).cell rfl)) (WL.ev rfl rfl (Ev.build rfl pl90 ze90 rfl rfl rfl rfl) ?_))))
    refine WL.allocH rfl rfl rfl ze90 H fun b2 w2 H => ?_
    refine WL.stB (i := 5) rfl rfl rfl sz90 rfl rfl rfl rfl (all1 rfl (all1 rfl all0)) H rfl rfl rfl fun w3 H => ?_
    refine WL.nil ?_
    refine SSr ?_
    refine Wfa rfl rfl rfl fo130_2 rfl (WL.ev rfl rfl (Ev.ld rfl ag3 rfl ((H.rB (i := 4) rfl).cell rfl)) (WL.ev rfl rfl (Ev.bin rfl rfl rfl Bin.neq) ?_))
    refine WL.mvN rfl rfl rfl rfl (fun h2 => ?_) (fun h2 => ?_)
    · have hr := ifn h2 hr
      refine WL.off rfl rfl rfl (WL.off rfl rfl rfl (WL.off rfl rfl rfl (WL.off rfl rfl rfl (WL.ev rfl rfl (Ev.pickT rfl rfl rfl) (WL.nil ?_)))))
      refine CW.condT rfl ?_
      refine Sreg ?_
      refine Wsn rfl rfl rfl rfl ?_
      refine CW.ret ?_
      obtain rfl := sm hr
      exact ⟨_, res1 rfl rfl rfl, H.chg, _, _, _, _, _, _, _, _, _, rfl, hIo2_3, hIo2_4, H.outM (fr' := []) [true, true, true, true, false, false] fun _ _ => trivial⟩
    · have hr := ifp h2 hr
      refine WL.on rfl rfl (Wmv rfl rfl rfl rfl (WL.on rfl rfl (WL.ev rfl rfl (Ev.lda rfl ag90 sz90 rfl (At.blk (H.rB (i := 5) rfl)) rfl) (WL.on rfl rfl ?_))))
      obtain ⟨y1, hy1, hr⟩ := bd hr
      refine WL.call rfl rfl rfl rfl rfl ok147 rfl (ivisits_mayEval_ok hy1 (F0 := fun q => q < _) ⟨(H.rB (i := 2) rfl).lt, _, At.blk (H.rB (i := 2) rfl), ⟨_, _, _, _, _, _, _, _, _, rfl, hIo2_3, hIo2_4, (H.rS (i := 0) rfl), (H.rS (i := 1) rfl), (H.rS (i := 2) rfl), (H.rS (i := 3) rfl), (H.rS (i := 4) rfl), (H.rS (i := 5) rfl), (H.rO (i := 0) rfl), (H.rO (i := 3) rfl), (H.rO (i := 1) rfl)⟩⟩ ⟨rfl, hIa1_1, hIa1_3⟩) ?_
      rintro _ w4 hE rfl
      have H := H.ext hE
      refine WL.on rfl rfl (WL.ev rfl rfl (Ev.not rfl rfl) (WL.ev rfl rfl (Ev.pickF rfl rfl rfl) (WL.nil ?_)))
      refine CW.condBN rfl (fun h3 => ?_) (fun h3 => ?_)
      · have hr := ifn h3 hr
        refine Sreg ?_
        refine Wsn rfl rfl rfl rfl ?_
        refine CW.ret ?_
        obtain rfl := sm hr
        exact ⟨_, res1 rfl rfl rfl, H.chg, _, _, _, _, _, _, _, _, _, rfl, hIo2_3, hIo2_4, H.outM (fr' := []) [true, true, true, true, false, false] fun _ _ => trivial⟩
      · have hr := ifp h3 hr
        refine CW.skip ?_
        obtain ⟨q1, hm1, hr⟩ := bd hr
        refine CW.seq (CW.mid (fun ρ' w => ∃ (s1 : List Occurrence) (v1 : Value), s1 = q1 ∧ agree ρ' [] ∧ HL F0 M w0 w [Pr.S o2.g.Symbols (.slice Ao2_0 no2_0 co2_0), Pr.S o2.g.Rules (.slice Ao2_1 no2_1 co2_1), Pr.S o2.phases (.slice Ao2_2 no2_2 co2_2), Pr.S o2.r.Right (.slice Ao2_5 no2_5 co2_5), Pr.S o2.r.Equations (.slice Ao2_7 no2_7 co2_7), Pr.S o2.r.Contributions (.slice Ao2_8 no2_8 co2_8)] [It.O 90 o2.due (.slice Ao2_9 no2_9 co2_9), It.O 3 o2.next (.slice Ao2_11 no2_11 co2_11), It.B bo2 142 [.slice Ao2_0 no2_0 co2_0, .slice Ao2_1 no2_1 co2_1, .slice Ao2_2 no2_2 co2_2, .string o2.r.Name, .string o2.r.Left, .slice Ao2_5 no2_5 co2_5, .bool o2.r.Literal, .slice Ao2_7 no2_7 co2_7, .slice Ao2_8 no2_8 co2_8, .slice Ao2_9 no2_9 co2_9, v1, .slice Ao2_11 no2_11 co2_11], It.O 90 s1 v1, It.B b1 130 [.int .i64 a1.Kind, .int .i64 a1.Pos, .int .i64 a1.Visit, .string a1.Name], It.B b2 90 [.int .i64 a1.Pos, .string a1.Name]]) ?_ ?_)
        · refine CW.held (fun w => ∃ v2_10_ : Value, ∃ o3_ : It, HL F0 M w0 w [Pr.S o2.g.Symbols (.slice Ao2_0 no2_0 co2_0), Pr.S o2.g.Rules (.slice Ao2_1 no2_1 co2_1), Pr.S o2.phases (.slice Ao2_2 no2_2 co2_2), Pr.S o2.r.Right (.slice Ao2_5 no2_5 co2_5), Pr.S o2.r.Equations (.slice Ao2_7 no2_7 co2_7), Pr.S o2.r.Contributions (.slice Ao2_8 no2_8 co2_8)] [It.O 90 o2.due (.slice Ao2_9 no2_9 co2_9), It.O 3 o2.next (.slice Ao2_11 no2_11 co2_11), It.B bo2 142 [.slice Ao2_0 no2_0 co2_0, .slice Ao2_1 no2_1 co2_1, .slice Ao2_2 no2_2 co2_2, .string o2.r.Name, .string o2.r.Left, .slice Ao2_5 no2_5 co2_5, .bool o2.r.Literal, .slice Ao2_7 no2_7 co2_7, .slice Ao2_8 no2_8 co2_8, .slice Ao2_9 no2_9 co2_9, v2_10_, .slice Ao2_11 no2_11 co2_11], o3_, It.B b1 130 [.int .i64 a1.Kind, .int .i64 a1.Pos, .int .i64 a1.Visit, .string a1.Name], It.B b2 90 [.int .i64 a1.Pos, .string a1.Name]]) hmix (fun w5 hE => ?_)
          have H := H.ext hE
          refine HW.take 0 ⟨_, _, H.keep 6 6⟩ rfl (by kernel_rfl) rfl rfl (fun _ _ => Ev.mv rfl rfl) ?_
          refine HW.take 1 ⟨_, _, H.keep 6 6⟩ rfl (by kernel_rfl) rfl rfl (fun _ _ => Ev.mv rfl rfl) ?_
          refine HW.take 2 ⟨_, _, H.keep 6 6⟩ rfl (by kernel_rfl) rfl rfl (fun _ _ => Ev.nilc rfl rfl) ?_
          refine HW.take 3 ⟨_, _, H.keep 6 6⟩ rfl (by kernel_rfl) rfl rfl (fun _ _ => Ev.fa rfl fo142_4 rfl) ?_
          refine HW.take 5 ⟨_, _, H.keep 6 6⟩ rfl (by kernel_rfl) rfl rfl (fun _ ⟨_, _, hq⟩ => Ev.lda rfl ag90 sz90 rfl (At.blk (hq.rB (i := 5) rfl)) rfl) ?_
          refine HW.some [4, 6] (by kernel_rfl) rfl ⟨HW.do1 rfl ?_, HW.do1 rfl ?_, trivial⟩
          · refine WL.ev rfl rfl (Ev.ld rfl ag76 rfl ((H.rB (i := 2) rfl).cell rfl)) ?_
            refine HW.next ⟨_, _, H.keep 6 6⟩ ?_
            refine HW.eff 6 rfl (by kernel_rfl) ?_
            refine WL.lit1 rfl rfl rfl el76 sz90 ze90 rfl rfl rfl rfl rfl rfl fun b3 w6 hE hb hB => ?_
            have H := H.newB hE hb hB
            refine HW.next ⟨_, _, H.keep 6 6⟩ ?_
            refine HW.eff 7 rfl (by kernel_rfl) ?_
            obtain ⟨hg1, hm1⟩ := grd_some hm1
            refine WL.appO (i := 3) (ys := [(⟨a1.Pos, a1.Name⟩ : Occurrence)]) rfl rfl rfl el76 sz90 by90 ze90 rfl rfl rfl H rfl (fun _ => ownL.single ⟨rfl, hIa1_1, hIa1_3, rfl⟩) (.inr ⟨_, _, rfl, At.blk (H.rB (i := 6) rfl)⟩) hg1 fun A1 n1 c1 w7 H => ?_
            refine HW.next ⟨_, _, H.keep 6 6⟩ ?_
            refine HW.take 8 ⟨_, _, H.keep 6 6⟩ rfl (by kernel_rfl) rfl rfl (fun _ _ => Ev.nilc rfl rfl) ?_
            refine HW.take 9 ⟨_, _, H.keep 6 6⟩ rfl (by kernel_rfl) rfl rfl (fun _ _ => Ev.fa rfl fo142_4 rfl) ?_
            refine HW.eff 10 rfl (by kernel_rfl) ?_
            refine WL.stB (i := 2) rfl rfl rfl sz76 rfl rfl rfl rfl (all1 rfl all0) H rfl rfl rfl fun w8 H => ?_
            refine HW.next ⟨_, _, H.keep 6 6⟩ ?_
            refine HW.done (by kernel_rfl) ?_
            obtain rfl := sm hm1
            exact ⟨(o2.known ++ [(⟨a1.Pos, a1.Name⟩ : Occurrence)]), _, rfl, trivial, H.keep 6 6⟩
          · obtain ⟨hg1, hm1⟩ := grd_some hm1
            refine WL.lit1 rfl rfl rfl el76 sz90 ze90 rfl rfl rfl rfl rfl rfl fun b3 w6 hE hb hB => ?_
            have H := H.newB hE hb hB
            refine HW.next ⟨_, _, H.keep 6 6⟩ ?_
            refine HW.eff 4 rfl (by kernel_rfl) ?_
            refine WL.ev rfl rfl (Ev.ld rfl ag76 rfl ((H.rB (i := 2) rfl).cell rfl)) ?_
            refine HW.next ⟨_, _, H.keep 6 6⟩ ?_
            refine HW.eff 7 rfl (by kernel_rfl) ?_
            refine WL.appO (i := 3) (ys := [(⟨a1.Pos, a1.Name⟩ : Occurrence)]) rfl rfl rfl el76 sz90 by90 ze90 rfl rfl rfl H rfl (fun _ => ownL.single ⟨rfl, hIa1_1, hIa1_3, rfl⟩) (.inr ⟨_, _, rfl, At.blk (H.rB (i := 6) rfl)⟩) hg1 fun A1 n1 c1 w7 H => ?_
            refine HW.next ⟨_, _, H.keep 6 6⟩ ?_
            refine HW.take 8 ⟨_, _, H.keep 6 6⟩ rfl (by kernel_rfl) rfl rfl (fun _ _ => Ev.nilc rfl rfl) ?_
            refine HW.take 9 ⟨_, _, H.keep 6 6⟩ rfl (by kernel_rfl) rfl rfl (fun _ _ => Ev.fa rfl fo142_4 rfl) ?_
            refine HW.eff 10 rfl (by kernel_rfl) ?_
            refine WL.stB (i := 2) rfl rfl rfl sz76 rfl rfl rfl rfl (all1 rfl all0) H rfl rfl rfl fun w8 H => ?_
            refine HW.next ⟨_, _, H.keep 6 6⟩ ?_
            refine HW.done (by kernel_rfl) ?_
            obtain rfl := sm hm1
            exact ⟨(o2.known ++ [(⟨a1.Pos, a1.Name⟩ : Occurrence)]), _, rfl, trivial, H.keep 6 6⟩
        · rintro ρ' w9 ⟨s1, v1, rfl, hag, H⟩
          obtain ⟨σ, rfl⟩ := ofL_ex hag
          obtain ⟨A2, n2, c2, rfl⟩ := (H.rO (i := 3) rfl).form3
          refine Sreg ?_
          refine Wsn rfl rfl rfl rfl ?_
          refine CW.ret ?_
          obtain rfl := sm hr
          exact ⟨_, res1 rfl rfl rfl, H.chg, _, _, _, _, _, _, _, _, _, rfl, hIo2_3, hIo2_4, H.outM (fr' := []) [true, true, true, true, false, false] fun _ _ => trivial⟩
  · have hr := ifn h1 hr
    refine Sreg ?_
    refine WL.ev rfl rfl (Ev.bin rfl rfl rfl Bin.eql) (Wsn rfl rfl rfl rfl ?_)
    refine CW.condD rfl (fun h4 => ?_) (fun h4 => ?_)
    · have hr := ifp h4 hr
      refine CW.seq (CW.seq (CW.quiet hmix (by kernel_rfl) ?_))
      refine QL.ev rfl rfl (fun _ _ => Ev.fa rfl fo130_3 rfl) (QL.ev rfl rfl (fun _ hq => Ev.ld rfl ag9 rfl (((H.ext hq).rB (i := 4) rfl).cell rfl)) (QL.ev rfl rfl (fun _ _ => Ev.bin rfl rfl rfl Bin.neqS) ?_))
      refine QL.mvN rfl rfl rfl rfl (fun h5 => ?_) (fun h5 => ?_)
      · have hr := ifn h5 hr
        refine QL.off rfl rfl rfl (QL.off rfl rfl rfl (QL.off rfl rfl rfl (QL.off rfl rfl rfl (QL.off rfl rfl rfl (QL.ev rfl rfl (fun _ _ => Ev.pickT rfl rfl rfl) (QL.ev rfl rfl (fun _ _ => Ev.mv rfl rfl) (QL.off rfl rfl rfl (QL.off rfl rfl rfl (QL.off rfl rfl rfl (QL.off rfl rfl rfl (QL.off rfl rfl rfl (QL.off rfl rfl rfl (QL.off rfl rfl rfl (QL.off rfl rfl rfl (QL.off rfl rfl rfl (QL.off rfl rfl rfl (QL.off rfl rfl rfl (QL.off rfl rfl rfl (QL.ev rfl rfl (fun _ _ => Ev.pickT rfl rfl rfl) (QL.nil (fun w10 hE => ?_)))))))))))))))))))))
        have H := H.ext hE
        refine CW.condT rfl ?_
        refine Sreg ?_
        refine Wsn rfl rfl rfl rfl ?_
        refine CW.ret ?_
        obtain rfl := sm hr
        exact ⟨_, res1 rfl rfl rfl, H.chg, _, _, _, _, _, _, _, _, _, rfl, hIo2_3, hIo2_4, H.outM (fr' := []) [true, true, true, true, false] fun _ _ => trivial⟩
      · have hr := ifp h5 hr
        refine QL.on rfl rfl (QL.ev rfl rfl (fun _ _ => Ev.mv rfl rfl) (QL.on rfl rfl (QL.ev rfl rfl (fun _ _ => Ev.fa rfl fo130_1 rfl) (QL.on rfl rfl (QL.ev rfl rfl (fun _ hq => Ev.ld rfl ag3 rfl (((H.ext hq).rB (i := 4) rfl).cell rfl)) (QL.on rfl rfl ?_))))))
        obtain ⟨y2, hy2, hr⟩ := bd hr
        refine QL.call rfl rfl rfl rfl rfl ok148 rfl (fun _ hq => ivisits_mayVisit_ok hy2 (F0 := fun q => q < _) ⟨((H.ext hq).rB (i := 2) rfl).lt, _, At.blk ((H.ext hq).rB (i := 2) rfl), ⟨_, _, _, _, _, _, _, _, _, rfl, hIo2_3, hIo2_4, ((H.ext hq).rS (i := 0) rfl), ((H.ext hq).rS (i := 1) rfl), ((H.ext hq).rS (i := 2) rfl), ((H.ext hq).rS (i := 3) rfl), ((H.ext hq).rS (i := 4) rfl), ((H.ext hq).rS (i := 5) rfl), ((H.ext hq).rO (i := 0) rfl), ((H.ext hq).rO (i := 3) rfl), ((H.ext hq).rO (i := 1) rfl)⟩⟩ hIa1_1) ?_
        refine QL.on rfl rfl (QL.ev rfl rfl (fun _ _ => Ev.not rfl rfl) (QL.ev rfl rfl (fun _ _ => Ev.pickF rfl rfl rfl) ?_))
        refine QL.mvBN rfl rfl rfl rfl (fun h6 => ?_) (fun h6 => ?_)
        · have hr := ifn h6 hr
          refine QL.off rfl rfl rfl (QL.off rfl rfl rfl (QL.off rfl rfl rfl (QL.off rfl rfl rfl (QL.off rfl rfl rfl (QL.off rfl rfl rfl (QL.off rfl rfl rfl (QL.off rfl rfl rfl (QL.off rfl rfl rfl (QL.off rfl rfl rfl (QL.off rfl rfl rfl (QL.off rfl rfl rfl (QL.ev rfl rfl (fun _ _ => Ev.pickT rfl rfl rfl) (QL.nil (fun w11 hE => ?_))))))))))))))
          have H := H.ext hE
          refine CW.condT rfl ?_
          refine Sreg ?_
          refine Wsn rfl rfl rfl rfl ?_
          refine CW.ret ?_
          obtain rfl := sm hr
          exact ⟨_, res1 rfl rfl rfl, H.chg, _, _, _, _, _, _, _, _, _, rfl, hIo2_3, hIo2_4, H.outM (fr' := []) [true, true, true, true, false] fun _ _ => trivial⟩
        · have hr := ifp h6 hr
          refine QL.on rfl rfl (QL.ev rfl rfl (fun _ _ => Ev.fa rfl fo130_2 rfl) (QL.on rfl rfl (QL.ev rfl rfl (fun _ hq => Ev.ld rfl ag3 rfl (((H.ext hq).rB (i := 4) rfl).cell rfl)) (QL.on rfl rfl (QL.ev rfl rfl (fun _ _ => Ev.mv rfl rfl) (QL.on rfl rfl (QL.ev rfl rfl (fun _ _ => Ev.nilc rfl rfl) (QL.on rfl rfl (QL.ev rfl rfl (fun _ _ => Ev.fa rfl fo142_5 rfl) (QL.on rfl rfl (QL.ev rfl rfl (fun _ hq => Ev.ld rfl ag33 rfl (((H.ext hq).rB (i := 2) rfl).cell rfl)) (QL.on rfl rfl (QL.ev rfl rfl (fun _ _ => Ev.fa rfl fo130_1 rfl) (QL.on rfl rfl (QL.ev rfl rfl (fun _ hq => Ev.ld rfl ag3 rfl (((H.ext hq).rB (i := 4) rfl).cell rfl)) (QL.on rfl rfl ?_))))))))))))))))
          obtain ⟨hg2, hr⟩ := grd_some hr
          obtain ⟨x1, hx1, hr⟩ := bd hr
          obtain ⟨b4, cb4, hvb4, hbb4⟩ := H.ptO (i := 1) rfl hx1
          refine QL.ev rfl rfl (fun _ _ => Ev.ixV rfl el33 sz3 rfl hvb4 rfl hg2 (lt_of hx1)) (QL.on rfl rfl ?_)
          obtain ⟨hA1, hI1, H⟩ := elO_Int H (i := 1) rfl hx1 hbb4
          refine QL.ev rfl rfl (fun _ hq => Ev.ld rfl ag3 rfl ((hA1.ext hq).cell0 rfl)) (QL.on rfl rfl ?_)
          obtain ⟨hg3, hr⟩ := grd_some hr
          refine QL.ev rfl rfl (fun _ _ => Ev.bin rfl rfl rfl (Bin.add hg3)) (QL.on rfl rfl (QL.ev rfl rfl (fun _ _ => Ev.bin rfl rfl rfl Bin.neq) (QL.ev rfl rfl (fun _ _ => Ev.pickF rfl rfl rfl) (QL.nil (fun w12 hE => ?_)))))
          have H := H.ext hE
          refine CW.condN rfl (fun h7 => ?_) (fun h7 => ?_)
          · have hr := ifn h7 hr
            refine Sreg ?_
            refine Wsn rfl rfl rfl rfl ?_
            refine CW.ret ?_
            obtain rfl := sm hr
            exact ⟨_, res1 rfl rfl rfl, H.chg, _, _, _, _, _, _, _, _, _, rfl, hIo2_3, hIo2_4, H.outM (fr' := []) [true, true, true, true, false] fun _ _ => trivial⟩
          · have hr := ifp h7 hr
            refine CW.skip ?_
            refine Sreg ?_
            refine Wmv rfl rfl rfl rfl (Wfa rfl rfl rfl fo130_1 rfl (WL.ev rfl rfl (Ev.ld rfl ag3 rfl ((H.rB (i := 4) rfl).cell rfl)) ?_))
            obtain ⟨z1, hy3, hr⟩ := bd hr
            obtain ⟨F', M', hfF, hoF, hcM⟩ := H.callN [true, true, true, true, false] ⟨noO, noO, noB, noO, trivial⟩
            obtain ⟨H', hcN⟩ := hcM (ps := [Pr.S o2.g.Symbols (.slice Ao2_0 no2_0 co2_0), Pr.S o2.g.Rules (.slice Ao2_1 no2_1 co2_1), Pr.S o2.phases (.slice Ao2_2 no2_2 co2_2), Pr.S o2.r.Right (.slice Ao2_5 no2_5 co2_5), Pr.S o2.r.Equations (.slice Ao2_7 no2_7 co2_7), Pr.S o2.r.Contributions (.slice Ao2_8 no2_8 co2_8)]) ⟨hfF.get (i := 0) rfl, hfF.get (i := 1) rfl, hfF.get (i := 2) rfl, hfF.get (i := 3) rfl, hfF.get (i := 4) rfl, hfF.get (i := 5) rfl, trivial⟩
            refine WL.call rfl rfl rfl rfl rfl ok149 rfl (ivisits_visit_ok hy3 hIa1_1 hIo2_3 hIo2_4 H') ?_
            rintro _ w13 hE ⟨A3, n3, c3, A4, n4, c4, A5, n5, c5, rfl, hS1, hS2, H'⟩
            have H := hcN 4 H' rfl ⟨fun _ _ _ _ _ h => h, ⟨fun _ _ _ _ _ h => h, ⟨fun _ _ _ _ _ h => h, ⟨fun _ _ _ _ _ h => h, trivial⟩⟩⟩⟩
            refine WL.nil ?_
            refine Sreg ?_
            refine Wsn rfl rfl rfl rfl ?_
            refine CW.ret ?_
            obtain rfl := sm hr
            exact ⟨_, res1 rfl rfl rfl, H.chg, _, _, _, _, _, _, _, _, _, rfl, hS1, hS2, H.outM (fr' := []) [true, true, true, true, false] fun _ _ => trivial⟩
    · have hr := ifn h4 hr
      refine Sreg ?_
      refine WL.ev rfl rfl (Ev.bin rfl rfl rfl Bin.eql) (Wsn rfl rfl rfl rfl ?_)
      refine CW.condD rfl (fun h8 => ?_) (fun h8 => ?_)
      · have hr := ifp h8 hr
        refine Sreg ?_
        refine Wmv rfl rfl rfl rfl ?_
        obtain ⟨y3, hy4, hr⟩ := bd hr
        obtain ⟨F', M', hfF, hcM⟩ := H.callV [true, true, true, true, false] ⟨noO, noO, noB, noO, trivial⟩
        obtain ⟨H', hcN⟩ := hcM (ps := [Pr.S o2.g.Symbols (.slice Ao2_0 no2_0 co2_0), Pr.S o2.g.Rules (.slice Ao2_1 no2_1 co2_1), Pr.S o2.phases (.slice Ao2_2 no2_2 co2_2), Pr.S o2.r.Right (.slice Ao2_5 no2_5 co2_5), Pr.S o2.r.Equations (.slice Ao2_7 no2_7 co2_7), Pr.S o2.r.Contributions (.slice Ao2_8 no2_8 co2_8)]) ⟨hfF.get (i := 0) rfl, hfF.get (i := 1) rfl, hfF.get (i := 2) rfl, hfF.get (i := 3) rfl, hfF.get (i := 4) rfl, hfF.get (i := 5) rfl, trivial⟩
        refine WL.call rfl rfl rfl rfl rfl ok90 rfl (ivisits_phasesAt_v2_ok hy4 (by decide : I64 0) hIo2_3 hIo2_4 H') ?_
        rintro _ w14 hE ⟨A6, n6, c6, rfl, H'⟩
        have H := hcN 4 H' rfl ⟨fun _ _ _ _ _ h => h, ⟨fun _ _ _ _ _ h => h, ⟨fun _ _ _ _ _ h => h, ⟨fun _ _ _ _ _ h => h, trivial⟩⟩⟩⟩
        refine Wsn rfl rfl rfl rfl ?_
        refine CW.seq (CW.seq (CW.quiet hmix (by kernel_rfl) ?_))
        refine QL.ev rfl rfl (fun _ _ => Ev.fa rfl fo130_1 rfl) (QL.ev rfl rfl (fun _ hq => Ev.ld rfl ag3 rfl (((H.ext hq).rB (i := 4) rfl).cell rfl)) (QL.ev rfl rfl (fun _ _ => Ev.bin rfl rfl rfl Bin.neq) ?_))
        refine QL.mvN rfl rfl rfl rfl (fun h9 => ?_) (fun h9 => ?_)
        · have hr := ifn h9 hr
          refine QL.off rfl rfl rfl (QL.off rfl rfl rfl (QL.off rfl rfl rfl (QL.ev rfl rfl (fun _ _ => Ev.pickT rfl rfl rfl) (QL.ev rfl rfl (fun _ _ => Ev.mv rfl rfl) (QL.off rfl rfl rfl (QL.off rfl rfl rfl (QL.off rfl rfl rfl (QL.off rfl rfl rfl (QL.off rfl rfl rfl (QL.off rfl rfl rfl (QL.off rfl rfl rfl (QL.off rfl rfl rfl (QL.off rfl rfl rfl (QL.ev rfl rfl (fun _ _ => Ev.pickT rfl rfl rfl) (QL.ev rfl rfl (fun _ _ => Ev.mv rfl rfl) (QL.off rfl rfl rfl (QL.off rfl rfl rfl (QL.off rfl rfl rfl (QL.off rfl rfl rfl (QL.off rfl rfl rfl (QL.off rfl rfl rfl (QL.off rfl rfl rfl (QL.off rfl rfl rfl (QL.off rfl rfl rfl (QL.off rfl rfl rfl (QL.ev rfl rfl (fun _ _ => Ev.pickT rfl rfl rfl) (QL.ev rfl rfl (fun _ _ => Ev.mv rfl rfl) (QL.off rfl rfl rfl (QL.off rfl rfl rfl (QL.off rfl rfl rfl (QL.off rfl rfl rfl (QL.off rfl rfl rfl (QL.off rfl rfl rfl (QL.off rfl rfl rfl (QL.off rfl rfl rfl (QL.off rfl rfl rfl (QL.off rfl rfl rfl (QL.off rfl rfl rfl (QL.off rfl rfl rfl (QL.off rfl rfl rfl (QL.ev rfl rfl (fun _ _ => Ev.pickT rfl rfl rfl) (QL.nil (fun w15 hE => ?_)))))))))))))))))))))))))))))))))))))))))))
          have H := H.ext hE
          refine CW.condT rfl ?_
          refine Sreg ?_
          refine Wsn rfl rfl rfl rfl ?_
          refine CW.ret ?_
          obtain rfl := sm hr
          exact ⟨_, res1 rfl rfl rfl, H.chg, _, _, _, _, _, _, _, _, _, rfl, hIo2_3, hIo2_4, H.outM (fr' := []) [true, true, true, true, false] fun _ _ => trivial⟩
        · have hr := ifp h9 hr
          refine QL.on rfl rfl (QL.ev rfl rfl (fun _ _ => Ev.fa rfl fo130_3 rfl) (QL.on rfl rfl (QL.ev rfl rfl (fun _ hq => Ev.ld rfl ag9 rfl (((H.ext hq).rB (i := 4) rfl).cell rfl)) (QL.on rfl rfl (QL.ev rfl rfl (fun _ _ => Ev.bin rfl rfl rfl Bin.neqS) (QL.ev rfl rfl (fun _ _ => Ev.pickF rfl rfl rfl) ?_))))))
          refine QL.mvN rfl rfl rfl rfl (fun h10 => ?_) (fun h10 => ?_)
          · have hr := ifn h10 hr
            refine QL.off rfl rfl rfl (QL.off rfl rfl rfl (QL.off rfl rfl rfl (QL.off rfl rfl rfl (QL.off rfl rfl rfl (QL.off rfl rfl rfl (QL.off rfl rfl rfl (QL.off rfl rfl rfl (QL.off rfl rfl rfl (QL.ev rfl rfl (fun _ _ => Ev.pickT rfl rfl rfl) (QL.ev rfl rfl (fun _ _ => Ev.mv rfl rfl) (QL.off rfl rfl rfl (QL.off rfl rfl rfl (QL.off rfl rfl rfl (QL.off rfl rfl rfl (QL.off rfl rfl rfl (QL.off rfl rfl rfl (QL.off rfl rfl rfl (QL.off rfl rfl rfl (QL.off rfl rfl rfl (QL.off rfl rfl rfl (QL.ev rfl rfl (fun _ _ => Ev.pickT rfl rfl rfl) (QL.ev rfl rfl (fun _ _ => Ev.mv rfl rfl) (QL.off rfl rfl rfl (QL.off rfl rfl rfl (QL.off rfl rfl rfl (QL.off rfl rfl rfl (QL.off rfl rfl rfl (QL.off rfl rfl rfl (QL.off rfl rfl rfl (QL.off rfl rfl rfl (QL.off rfl rfl rfl (QL.off rfl rfl rfl (QL.off rfl rfl rfl (QL.off rfl rfl rfl (QL.off rfl rfl rfl (QL.ev rfl rfl (fun _ _ => Ev.pickT rfl rfl rfl) (QL.nil (fun w16 hE => ?_))))))))))))))))))))))))))))))))))))))
            have H := H.ext hE
            refine CW.condT rfl ?_
            refine Sreg ?_
            refine Wsn rfl rfl rfl rfl ?_
            refine CW.ret ?_
            obtain rfl := sm hr
            exact ⟨_, res1 rfl rfl rfl, H.chg, _, _, _, _, _, _, _, _, _, rfl, hIo2_3, hIo2_4, H.outM (fr' := []) [true, true, true, true, false] fun _ _ => trivial⟩
          · have hr := ifp h10 hr
            refine QL.on rfl rfl (QL.ev rfl rfl (fun _ _ => Ev.mv rfl rfl) (QL.on rfl rfl (QL.ev rfl rfl (fun _ _ => Ev.nilc rfl rfl) (QL.on rfl rfl (QL.ev rfl rfl (fun _ _ => Ev.fa rfl fo142_5 rfl) (QL.on rfl rfl (QL.ev rfl rfl (fun _ hq => Ev.ld rfl ag33 rfl (((H.ext hq).rB (i := 2) rfl).cell rfl)) (QL.on rfl rfl ?_))))))))
            obtain ⟨x2, hx2, hr⟩ := bd hr
            obtain ⟨b5, cb5, hvb5, hbb5⟩ := H.ptO (i := 1) rfl hx2
            refine QL.ev rfl rfl (fun _ _ => Ev.ixVN rfl el33 sz3 rfl hvb5 rfl (lt_of hx2)) (QL.on rfl rfl ?_)
            obtain ⟨hA2, hI2, H⟩ := elO_Int H (i := 1) rfl hx2 hbb5
            refine QL.ev rfl rfl (fun _ hq => Ev.ld rfl ag3 rfl ((hA2.ext hq).cell0 rfl)) (QL.on rfl rfl (QL.ev rfl rfl (fun _ _ => Ev.mv rfl rfl) (QL.on rfl rfl ?_)))
            have hl1 := (H.rS (i := 6) rfl).I
            refine QL.ev rfl rfl (fun _ _ => Ev.lenV rfl el125 rfl (H.rS (i := 6) rfl)) (QL.on rfl rfl (QL.ev rfl rfl (fun _ _ => Ev.bin rfl rfl rfl Bin.geq) (QL.ev rfl rfl (fun _ _ => Ev.pickF rfl rfl rfl) ?_)))
            refine QL.mvD rfl rfl rfl rfl (fun h11 => ?_) (fun h11 => ?_)
            · have hr := ifp h11 hr
              refine QL.off rfl rfl rfl (QL.off rfl rfl rfl (QL.off rfl rfl rfl (QL.off rfl rfl rfl (QL.off rfl rfl rfl (QL.off rfl rfl rfl (QL.off rfl rfl rfl (QL.off rfl rfl rfl (QL.off rfl rfl rfl (QL.off rfl rfl rfl (QL.ev rfl rfl (fun _ _ => Ev.pickT rfl rfl rfl) (QL.ev rfl rfl (fun _ _ => Ev.mv rfl rfl) (QL.off rfl rfl rfl (QL.off rfl rfl rfl (QL.off rfl rfl rfl (QL.off rfl rfl rfl (QL.off rfl rfl rfl (QL.off rfl rfl rfl (QL.off rfl rfl rfl (QL.off rfl rfl rfl (QL.off rfl rfl rfl (QL.off rfl rfl rfl (QL.off rfl rfl rfl (QL.off rfl rfl rfl (QL.off rfl rfl rfl (QL.ev rfl rfl (fun _ _ => Ev.pickT rfl rfl rfl) (QL.nil (fun w17 hE => ?_)))))))))))))))))))))))))))
              have H := H.ext hE
              refine CW.condT rfl ?_
              refine Sreg ?_
              refine Wsn rfl rfl rfl rfl ?_
              refine CW.ret ?_
              obtain rfl := sm hr
              exact ⟨_, res1 rfl rfl rfl, H.chg, _, _, _, _, _, _, _, _, _, rfl, hIo2_3, hIo2_4, H.outM (fr' := []) [true, true, true, true, false] fun _ _ => trivial⟩
            · have hr := ifn h11 hr
              refine QL.on rfl rfl (QL.ev rfl rfl (fun _ _ => Ev.fa rfl fo130_2 rfl) (QL.on rfl rfl (QL.ev rfl rfl (fun _ hq => Ev.ld rfl ag3 rfl (((H.ext hq).rB (i := 4) rfl).cell rfl)) (QL.on rfl rfl (QL.ev rfl rfl (fun _ _ => Ev.mv rfl rfl) (QL.on rfl rfl (QL.ev rfl rfl (fun _ _ => Ev.nilc rfl rfl) (QL.on rfl rfl (QL.ev rfl rfl (fun _ _ => Ev.fa rfl fo142_5 rfl) (QL.on rfl rfl (QL.ev rfl rfl (fun _ hq => Ev.ld rfl ag33 rfl (((H.ext hq).rB (i := 2) rfl).cell rfl)) (QL.on rfl rfl ?_))))))))))))
              obtain ⟨b6, cb6, hvb6, hbb6⟩ := H.ptO (i := 1) rfl hx2
              refine QL.ev rfl rfl (fun _ _ => Ev.ixVN rfl el33 sz3 rfl hvb6 rfl (lt_of hx2)) (QL.on rfl rfl ?_)
              obtain ⟨hA3, hI3, H⟩ := elO_Int H (i := 1) rfl hx2 hbb6
              refine QL.ev rfl rfl (fun _ hq => Ev.ld rfl ag3 rfl ((hA3.ext hq).cell0 rfl)) (QL.on rfl rfl ?_)
              obtain ⟨hg4, hr⟩ := grd_some hr
              refine QL.ev rfl rfl (fun _ _ => Ev.bin rfl rfl rfl (Bin.add hg4)) (QL.on rfl rfl (QL.ev rfl rfl (fun _ _ => Ev.bin rfl rfl rfl Bin.neq) (QL.ev rfl rfl (fun _ _ => Ev.pickF rfl rfl rfl) ?_)))
              refine QL.mvN rfl rfl rfl rfl (fun h12 => ?_) (fun h12 => ?_)
              · have hr := ifn h12 hr
                refine QL.off rfl rfl rfl (QL.off rfl rfl rfl (QL.off rfl rfl rfl (QL.off rfl rfl rfl (QL.off rfl rfl rfl (QL.off rfl rfl rfl (QL.off rfl rfl rfl (QL.off rfl rfl rfl (QL.off rfl rfl rfl (QL.off rfl rfl rfl (QL.off rfl rfl rfl (QL.off rfl rfl rfl (QL.off rfl rfl rfl (QL.ev rfl rfl (fun _ _ => Ev.pickT rfl rfl rfl) (QL.nil (fun w18 hE => ?_)))))))))))))))
                have H := H.ext hE
                refine CW.condT rfl ?_
                refine CW.seq ?_
                refine CW.fresh [] trivial fun σ => ?_
                have H : HL F0 M w0 w18 [Pr.S o2.g.Symbols (.slice Ao2_0 no2_0 co2_0), Pr.S o2.g.Rules (.slice Ao2_1 no2_1 co2_1), Pr.S o2.phases (.slice Ao2_2 no2_2 co2_2), Pr.S o2.r.Right (.slice Ao2_5 no2_5 co2_5), Pr.S o2.r.Equations (.slice Ao2_7 no2_7 co2_7), Pr.S o2.r.Contributions (.slice Ao2_8 no2_8 co2_8), Pr.S y3 (.slice A6 n6 c6), Pr.R x2 [.int .i64 x2], Pr.R x2 [.int .i64 x2]] [It.O 90 o2.due (.slice Ao2_9 no2_9 co2_9), It.O 3 o2.next (.slice Ao2_11 no2_11 co2_11), It.B bo2 142 [.slice Ao2_0 no2_0 co2_0, .slice Ao2_1 no2_1 co2_1, .slice Ao2_2 no2_2 co2_2, .string o2.r.Name, .string o2.r.Left, .slice Ao2_5 no2_5 co2_5, .bool o2.r.Literal, .slice Ao2_7 no2_7 co2_7, .slice Ao2_8 no2_8 co2_8, .slice Ao2_9 no2_9 co2_9, .slice Ao2_10 no2_10 co2_10, .slice Ao2_11 no2_11 co2_11], It.O 90 o2.known (.slice Ao2_10 no2_10 co2_10), It.B b1 130 [.int .i64 a1.Kind, .int .i64 a1.Pos, .int .i64 a1.Visit, .string a1.Name]] := H
                refine CW.reg ?_
                refine Wsn rfl rfl rfl rfl ?_
                refine CW.ret ?_
                obtain rfl := sm hr
                exact ⟨_, res1 rfl rfl rfl, H.chg, _, _, _, _, _, _, _, _, _, rfl, hIo2_3, hIo2_4, H.outM (fr' := []) [true, true, true, true, false] fun _ _ => trivial⟩
              · have hr := ifp h12 hr
                refine QL.on rfl rfl (QL.ev rfl rfl (fun _ _ => Ev.mv rfl rfl) (QL.on rfl rfl (QL.ev rfl rfl (fun _ _ => Ev.mv rfl rfl) (QL.on rfl rfl (QL.ev rfl rfl (fun _ _ => Ev.mv rfl rfl) (QL.on rfl rfl (QL.ev rfl rfl (fun _ _ => Ev.nilc rfl rfl) (QL.on rfl rfl (QL.ev rfl rfl (fun _ _ => Ev.fa rfl fo142_5 rfl) (QL.on rfl rfl (QL.ev rfl rfl (fun _ hq => Ev.ld rfl ag33 rfl (((H.ext hq).rB (i := 2) rfl).cell rfl)) (QL.on rfl rfl ?_))))))))))))
                obtain ⟨b7, cb7, hvb7, hbb7⟩ := H.ptO (i := 1) rfl hx2
                refine QL.ev rfl rfl (fun _ _ => Ev.ixVN rfl el33 sz3 rfl hvb7 rfl (lt_of hx2)) (QL.on rfl rfl ?_)
                obtain ⟨hA4, hI4, H⟩ := elO_Int H (i := 1) rfl hx2 hbb7
                refine QL.ev rfl rfl (fun _ hq => Ev.ld rfl ag3 rfl ((hA4.ext hq).cell0 rfl)) (QL.on rfl rfl ?_)
                obtain ⟨hg5, hr⟩ := grd_some hr
                obtain ⟨x3, hx3, hr⟩ := bd hr
                obtain ⟨b8, ob8, cb8, A7, n7, c7, A8, n8, c8, hvb8, H⟩ := ixS_Phase H (i := 6) rfl hx3
                refine QL.ev rfl rfl (fun _ _ => Ev.ixV rfl el125 sz129 rfl hvb8 rfl hg5 (lt_of hx3)) (QL.on rfl rfl (QL.ev rfl rfl (fun _ _ => Ev.fa rfl fo129_1 rfl) (QL.on rfl rfl (QL.ev rfl rfl (fun _ hq => Ev.ld rfl ag26 rfl (((H.ext hq).rA (i := 10) rfl).cell rfl)) (QL.on rfl rfl ?_)))))
                obtain ⟨y4, hy5, hr⟩ := bd hr
                refine QL.call rfl rfl rfl rfl rfl ok150 rfl (fun _ hq => ivisits_knows_ok hy5 (F0 := fun q => q < _) ⟨((H.ext hq).rB (i := 2) rfl).lt, _, At.blk ((H.ext hq).rB (i := 2) rfl), ⟨_, _, _, _, _, _, _, _, _, rfl, hIo2_3, hIo2_4, ((H.ext hq).rS (i := 0) rfl), ((H.ext hq).rS (i := 1) rfl), ((H.ext hq).rS (i := 2) rfl), ((H.ext hq).rS (i := 3) rfl), ((H.ext hq).rS (i := 4) rfl), ((H.ext hq).rS (i := 5) rfl), ((H.ext hq).rO (i := 0) rfl), ((H.ext hq).rO (i := 3) rfl), ((H.ext hq).rO (i := 1) rfl)⟩⟩ (by decide : I64 0) ((H.ext hq).rS (i := 13) rfl)) ?_
                refine QL.on rfl rfl (QL.ev rfl rfl (fun _ _ => Ev.not rfl rfl) (QL.ev rfl rfl (fun _ _ => Ev.pickF rfl rfl rfl) (QL.nil (fun w19 hE => ?_))))
                have H := H.ext hE
                refine CW.condBN rfl (fun h13 => ?_) (fun h13 => ?_)
                · have hr := ifn h13 hr
                  refine CW.seq ?_
                  refine CW.fresh [] trivial fun σ => ?_
                  have H : HL F0 M w0 w19 [Pr.S o2.g.Symbols (.slice Ao2_0 no2_0 co2_0), Pr.S o2.g.Rules (.slice Ao2_1 no2_1 co2_1), Pr.S o2.phases (.slice Ao2_2 no2_2 co2_2), Pr.S o2.r.Right (.slice Ao2_5 no2_5 co2_5), Pr.S o2.r.Equations (.slice Ao2_7 no2_7 co2_7), Pr.S o2.r.Contributions (.slice Ao2_8 no2_8 co2_8), Pr.S y3 (.slice A6 n6 c6), Pr.R x2 [.int .i64 x2], Pr.R x2 [.int .i64 x2], Pr.R x2 [.int .i64 x2], Pr.A b8 (ob8 + x2.toNat * 2) [.slice A7 n7 c7, .slice A8 n8 c8], Pr.R x3 [.slice A7 n7 c7, .slice A8 n8 c8], Pr.S x3.Inherited (.slice A7 n7 c7), Pr.S x3.Synthesized (.slice A8 n8 c8)] [It.O 90 o2.due (.slice Ao2_9 no2_9 co2_9), It.O 3 o2.next (.slice Ao2_11 no2_11 co2_11), It.B bo2 142 [.slice Ao2_0 no2_0 co2_0, .slice Ao2_1 no2_1 co2_1, .slice Ao2_2 no2_2 co2_2, .string o2.r.Name, .string o2.r.Left, .slice Ao2_5 no2_5 co2_5, .bool o2.r.Literal, .slice Ao2_7 no2_7 co2_7, .slice Ao2_8 no2_8 co2_8, .slice Ao2_9 no2_9 co2_9, .slice Ao2_10 no2_10 co2_10, .slice Ao2_11 no2_11 co2_11], It.O 90 o2.known (.slice Ao2_10 no2_10 co2_10), It.B b1 130 [.int .i64 a1.Kind, .int .i64 a1.Pos, .int .i64 a1.Visit, .string a1.Name]] := H
                  refine CW.reg ?_
                  refine Wsn rfl rfl rfl rfl ?_
                  refine CW.ret ?_
                  obtain rfl := sm hr
                  exact ⟨_, res1 rfl rfl rfl, H.chg, _, _, _, _, _, _, _, _, _, rfl, hIo2_3, hIo2_4, H.outM (fr' := []) [true, true, true, true, false] fun _ _ => trivial⟩
                · have hr := ifp h13 hr
                  refine CW.skip ?_
                  refine CW.seq ?_
                  refine CW.fresh [(0, .pointer (some ⟨bo2, 0, none⟩)), (6, .slice A6 n6 c6)] ⟨rfl, rfl, trivial⟩ fun σ => ?_
                  have H : HL F0 M w0 w19 [Pr.S o2.g.Symbols (.slice Ao2_0 no2_0 co2_0), Pr.S o2.g.Rules (.slice Ao2_1 no2_1 co2_1), Pr.S o2.phases (.slice Ao2_2 no2_2 co2_2), Pr.S o2.r.Right (.slice Ao2_5 no2_5 co2_5), Pr.S o2.r.Equations (.slice Ao2_7 no2_7 co2_7), Pr.S o2.r.Contributions (.slice Ao2_8 no2_8 co2_8), Pr.S y3 (.slice A6 n6 c6), Pr.R x2 [.int .i64 x2], Pr.R x2 [.int .i64 x2], Pr.R x2 [.int .i64 x2], Pr.A b8 (ob8 + x2.toNat * 2) [.slice A7 n7 c7, .slice A8 n8 c8], Pr.R x3 [.slice A7 n7 c7, .slice A8 n8 c8], Pr.S x3.Inherited (.slice A7 n7 c7), Pr.S x3.Synthesized (.slice A8 n8 c8)] [It.O 90 o2.due (.slice Ao2_9 no2_9 co2_9), It.O 3 o2.next (.slice Ao2_11 no2_11 co2_11), It.B bo2 142 [.slice Ao2_0 no2_0 co2_0, .slice Ao2_1 no2_1 co2_1, .slice Ao2_2 no2_2 co2_2, .string o2.r.Name, .string o2.r.Left, .slice Ao2_5 no2_5 co2_5, .bool o2.r.Literal, .slice Ao2_7 no2_7 co2_7, .slice Ao2_8 no2_8 co2_8, .slice Ao2_9 no2_9 co2_9, .slice Ao2_10 no2_10 co2_10, .slice Ao2_11 no2_11 co2_11], It.O 90 o2.known (.slice Ao2_10 no2_10 co2_10), It.B b1 130 [.int .i64 a1.Kind, .int .i64 a1.Pos, .int .i64 a1.Visit, .string a1.Name]] := H
                  refine CW.reg ?_
                  refine Wmv rfl rfl rfl rfl (WL.ev rfl rfl (Ev.nilc rfl rfl) (Wfa rfl rfl rfl fo142_5 rfl (WL.ev rfl rfl (Ev.ld rfl ag33 rfl ((H.rB (i := 2) rfl).cell rfl)) ?_)))
                  obtain ⟨b9, cb9, hvb9, hbb9⟩ := H.ptO (i := 1) rfl hx2
                  refine WL.ev rfl rfl (Ev.ixVN rfl el33 sz3 rfl hvb9 rfl (lt_of hx2)) ?_
                  obtain ⟨hA5, hI5, H⟩ := elO_Int H (i := 1) rfl hx2 hbb9
                  refine WL.ev rfl rfl (Ev.ld rfl ag3 rfl (hA5.cell0 rfl)) ?_
                  obtain ⟨hg6, hr⟩ := grd_some hr
                  refine WL.ev rfl rfl (Ev.bin rfl rfl rfl (Bin.add hg6)) ?_
                  obtain ⟨b10, cb10, hvb10, hbb10⟩ := H.ptO (i := 1) rfl hx2
                  refine WL.ev rfl rfl (Ev.ixVN rfl el33 sz3 rfl hvb10 rfl (lt_of hx2)) ?_
                  refine WL.stOf (i := 1) (z := (x2 + 1)) rfl rfl rfl sz3 rfl rfl rfl (fun _ => ⟨rfl, rfl, hg6⟩) H rfl hbb10 (by simpa using lt_of hx2) fun w20 H => ?_
                  refine WL.nil ?_
                  refine SSr ?_
                  refine Wmv rfl rfl rfl rfl (WL.ev rfl rfl (Ev.nilc rfl rfl) (Wfa rfl rfl rfl fo142_5 rfl (WL.ev rfl rfl (Ev.ld rfl ag33 rfl ((H.rB (i := 2) rfl).cell rfl)) ?_)))
                  obtain ⟨x4, hx4, hr⟩ := bd hr
                  obtain ⟨b11, cb11, hvb11, hbb11⟩ := H.ptO (i := 1) rfl hx4
                  refine WL.ev rfl rfl (Ev.ixVN rfl el33 sz3 rfl hvb11 rfl (lt_of hx4)) ?_
                  obtain ⟨hA6, hI6, H⟩ := elO_Int H (i := 1) rfl hx4 hbb11
                  refine WL.ev rfl rfl (Ev.ld rfl ag3 rfl (hA6.cell0 rfl)) (Wmv rfl rfl rfl rfl (WL.ev rfl rfl (Ev.lenV rfl el125 rfl (H.rS (i := 6) rfl)) (WL.ev rfl rfl (Ev.bin rfl rfl rfl Bin.lss) (WL.nil ?_))))
                  refine CW.condD rfl (fun h14 => ?_) (fun h14 => ?_)
                  · have hr := ifp h14 hr
                    refine CW.reg ?_
                    refine Wmv rfl rfl rfl rfl (Wmv rfl rfl rfl rfl (Wmv rfl rfl rfl rfl (WL.ev rfl rfl (Ev.nilc rfl rfl) (Wfa rfl rfl rfl fo142_5 rfl (WL.ev rfl rfl (Ev.ld rfl ag33 rfl ((H.rB (i := 2) rfl).cell rfl)) ?_)))))
                    obtain ⟨b12, cb12, hvb12, hbb12⟩ := H.ptO (i := 1) rfl hx4
                    refine WL.ev rfl rfl (Ev.ixVN rfl el33 sz3 rfl hvb12 rfl (lt_of hx4)) ?_
                    obtain ⟨hA7, hI7, H⟩ := elO_Int H (i := 1) rfl hx4 hbb12
                    refine WL.ev rfl rfl (Ev.ld rfl ag3 rfl (hA7.cell0 rfl)) ?_
                    obtain ⟨hg7, hr⟩ := grd_some hr
                    obtain ⟨x5, hx5, hr⟩ := bd hr
                    obtain ⟨b13, ob13, cb13, A9, n9, c9, A10, n10, c10, hvb13, H⟩ := ixS_Phase H (i := 6) rfl hx5
                    refine WL.ev rfl rfl (Ev.ixV rfl el125 sz129 rfl hvb13 rfl hg7 (lt_of hx5)) (Wfa rfl rfl rfl fo129_0 rfl (WL.ev rfl rfl (Ev.ld rfl ag26 rfl ((H.rA (i := 17) rfl).cell rfl)) ?_))
                    obtain ⟨z2, hy6, hr⟩ := bd hr
                    obtain ⟨F', M', hfF, hoF, hcM⟩ := H.callN [true, true, true, true, false] ⟨noO, noO, noB, noO, trivial⟩
                    obtain ⟨H', hcN⟩ := hcM (ps := [Pr.S x5.Inherited (.slice A9 n9 c9), Pr.S o2.g.Symbols (.slice Ao2_0 no2_0 co2_0), Pr.S o2.g.Rules (.slice Ao2_1 no2_1 co2_1), Pr.S o2.phases (.slice Ao2_2 no2_2 co2_2), Pr.S o2.r.Right (.slice Ao2_5 no2_5 co2_5), Pr.S o2.r.Equations (.slice Ao2_7 no2_7 co2_7), Pr.S o2.r.Contributions (.slice Ao2_8 no2_8 co2_8)]) ⟨hfF.get (i := 19) rfl, hfF.get (i := 0) rfl, hfF.get (i := 1) rfl, hfF.get (i := 2) rfl, hfF.get (i := 3) rfl, hfF.get (i := 4) rfl, hfF.get (i := 5) rfl, trivial⟩
                    refine WL.call rfl rfl rfl rfl rfl ok91 rfl (ivisits_learn_ok hy6 (by decide : I64 0) hIo2_3 hIo2_4 H') ?_
                    rintro _ w21 hE ⟨A11, n11, c11, A12, n12, c12, A13, n13, c13, rfl, hS3, hS4, H'⟩
                    have H := hcN 4 H' rfl ⟨fun _ _ _ _ _ h => h, ⟨fun _ _ _ _ _ h => h, ⟨fun _ _ _ _ _ h => h, ⟨fun _ _ _ _ _ h => h, trivial⟩⟩⟩⟩
                    refine WL.nil ?_
                    refine Sreg ?_
                    refine Wsn rfl rfl rfl rfl ?_
                    refine CW.ret ?_
                    obtain rfl := sm hr
                    exact ⟨_, res1 rfl rfl rfl, H.chg, _, _, _, _, _, _, _, _, _, rfl, hS3, hS4, H.outM (fr' := []) [true, true, true, true, false] fun _ _ => trivial⟩
                  · have hr := ifn h14 hr
                    refine CW.skip ?_
                    refine Sreg ?_
                    refine Wsn rfl rfl rfl rfl ?_
                    refine CW.ret ?_
                    obtain rfl := sm hr
                    exact ⟨_, res1 rfl rfl rfl, H.chg, _, _, _, _, _, _, _, _, _, rfl, hIo2_3, hIo2_4, H.outM (fr' := []) [true, true, true, true, false] fun _ _ => trivial⟩
      · have hr := ifn h8 hr
        refine CW.skip ?_
        refine Sreg ?_
        refine Wsn rfl rfl rfl rfl ?_
        refine CW.ret ?_
        obtain rfl := sm hr
        exact ⟨_, res1 rfl rfl rfl, H.chg, _, _, _, _, _, _, _, _, _, rfl, hIo2_3, hIo2_4, H.outM (fr' := []) [true, true, true, true, false] fun _ _ => trivial⟩

noncomputable def ivisits_complete_1_m (a0 : Occurrence) (a1_0 : visits) : Option Bool :=
  (slices_Contains_Occurrence_m a1_0.known a0).bind fun y1 =>
  some (!y1)
theorem ivisits_complete_1_ok {a0 : Occurrence} {a1_0 : visits} {r : Bool} (hr : ivisits_complete_1_m a0 a1_0 = some r) {F0 : Nat → Prop} {w0 : World} {ca0 : List Value} (ha0 : rd F0 w0 a0 ca0) {b1_0p : Nat} (ha1_0 : CapP F0 w0 b1_0p a1_0) {b1p : Nat} (ha1 : F0 b1p ∧ At w0 b1p 0 [.pointer (some ⟨b1_0p, 0, none⟩)]) :
    Ret Tryz.prog 152 #[.agg ca0.toArray, .pointer (some ⟨b1p, 0, none⟩)] w0 (fun _ => False) fun v w => v = .bool r := by
  have H := (HL.start F0 w0).argR ha0
  obtain ⟨rfl, hI1, hS1, H⟩ := op_Occurrence H (i := 0) rfl
  obtain ⟨cpa1_0, H⟩ := H.argP ha1_0
  obtain ⟨A1, n1, c1, A2, n2, c2, A3, n3, c3, A4, n4, c4, A5, n5, c5, A6, n6, c6, A7, n7, c7, A8, n8, c8, A9, n9, c9, rfl, hS2, hS3, H⟩ := op_visits H (i := 2) rfl
  have H := H.argA ha1
  refine enter Tryz.func152 rfl rfl rfl ?_
  refine Sreg ?_
  refine WL.boxH rfl rfl rfl rfl rfl H fun b1 w1 H => ?_
  refine Wsn rfl rfl rfl rfl ?_
  refine CW.seq (CW.quiet hmix (by kernel_rfl) ?_)
  refine QL.ev rfl rfl (fun _ hq => Ev.ld rfl ag136 rfl (((H.ext hq).rA (i := 12) rfl).cell0 rfl)) (QL.ev rfl rfl (fun _ _ => Ev.nilc rfl rfl) (QL.ev rfl rfl (fun _ _ => Ev.fa rfl fo142_4 rfl) (QL.ev rfl rfl (fun _ hq => Ev.ld rfl ag76 rfl (((H.ext hq).rA (i := 1) rfl).cell rfl)) (QL.ev rfl rfl (fun _ hq => Ev.lda rfl ag90 sz90 rfl (At.blk ((H.ext hq).rB (i := 0) rfl)) rfl) ?_))))
  obtain ⟨y1, hy1, hr⟩ := bd hr
  refine QL.call rfl rfl rfl rfl rfl ok153 rfl (fun _ hq => slices_Contains_Occurrence_ok hy1 ((H.ext hq).rS (i := 10) rfl) ⟨rfl, hI1, hS1⟩) ?_
  refine QL.ev rfl rfl (fun _ _ => Ev.not rfl rfl) (QL.ev rfl rfl (fun _ _ => Ev.as rfl rfl) (QL.nil (fun w2 hE => ?_)))
  have H := H.ext hE
  refine CW.ret ?_
  obtain rfl := sm hr
  exact ⟨_, res1 rfl rfl rfl, H.ext0, rfl⟩

noncomputable def slices_IndexFunc_Occurrence_ivisits_complete_1_L1 (a1_0_0 : visits) : Nat → Occurrence → Unit → Option (Unit ⊕ Int) := fun k1 x1 _ => 
  (ivisits_complete_1_m x1 a1_0_0).bind fun y1 =>
  if y1 = true then (
  some (.inr (k1 : Int))
  ) else (
  some (.inl ())
  )
noncomputable def slices_IndexFunc_Occurrence_ivisits_complete_1_m (a0 : (List Occurrence)) (a1_0_0 : visits) : Option Int :=
  (findL (slices_IndexFunc_Occurrence_ivisits_complete_1_L1 a1_0_0) 0 a0 ()).bind <| onr (fun r1 => some r1) fun _ =>
  some (-1)
theorem slices_IndexFunc_Occurrence_ivisits_complete_1_ok {a0 : (List Occurrence)} {a1_0_0 : visits} {r : Int} (hr : slices_IndexFunc_Occurrence_ivisits_complete_1_m a0 a1_0_0 = some r) {F0 : Nat → Prop} {w0 : World} {z0 : Value} (ha0 : rdS F0 w0 a0 z0) {b1_0_0p : Nat} (ha1_0_0 : CapP F0 w0 b1_0_0p a1_0_0) {b1_0p : Nat} (ha1_0 : F0 b1_0p ∧ At w0 b1_0p 0 [.pointer (some ⟨b1_0_0p, 0, none⟩)]) :
    Ret Tryz.prog 188 #[z0, .func (.func 152) #[] #[.pointer (some ⟨b1_0p, 0, none⟩)]] w0 (fun _ => False) fun v w => v = .int .i64 r ∧ I64 r := by
  obtain ⟨A0', n0', c0', rfl⟩ := ha0.form3
  have H := (HL.start F0 w0).argS ha0
  obtain ⟨cpa1_0_0, H⟩ := H.argP ha1_0_0
  obtain ⟨A1, n1, c1, A2, n2, c2, A3, n3, c3, A4, n4, c4, A5, n5, c5, A6, n6, c6, A7, n7, c7, A8, n8, c8, A9, n9, c9, rfl, hS1, hS2, H⟩ := op_visits H (i := 2) rfl
  have H := H.argA ha1_0
  refine enter Tryz.func188 rfl rfl rfl ?_
  refine Sreg ?_
  refine Wsn rfl rfl rfl rfl ?_
  refine SSr ?_
  refine Wmv rfl rfl rfl rfl ?_
  have hl1 := (H.rS (i := 0) rfl).I
  refine WL.ev rfl rfl (Ev.lenV rfl el76 rfl (H.rS (i := 0) rfl)) (Wmv rfl rfl rfl rfl (WL.nil ?_))
  obtain ⟨q1, hq1, hr⟩ := bd hr
  refine CW.block (CW.loop (α := Nat) (fun k1 => [(0, .slice A0' n0' c0'), (1, .func (.func 152) #[] #[.pointer (some ⟨b1_0p, 0, none⟩)]), (7, .int .i64 (a0.length : Int)), (8, .int .i64 (k1 : Int))]) (fun k1 w => k1 ≤ a0.length ∧ findL (slices_IndexFunc_Occurrence_ivisits_complete_1_L1 a1_0_0) k1 (a0.drop k1) () = some q1 ∧ HL F0 [] w0 w [Pr.S a0 (.slice A0' n0' c0'), Pr.A b1_0_0p 0 [.slice A1 n1 c1, .slice A2 n2 c2, .slice A3 n3 c3, .string a1_0_0.r.Name, .string a1_0_0.r.Left, .slice A4 n4 c4, .bool a1_0_0.r.Literal, .slice A5 n5 c5, .slice A6 n6 c6, .slice A7 n7 c7, .slice A8 n8 c8, .slice A9 n9 c9], Pr.R a1_0_0 [.slice A1 n1 c1, .slice A2 n2 c2, .slice A3 n3 c3, .string a1_0_0.r.Name, .string a1_0_0.r.Left, .slice A4 n4 c4, .bool a1_0_0.r.Literal, .slice A5 n5 c5, .slice A6 n6 c6, .slice A7 n7 c7, .slice A8 n8 c8, .slice A9 n9 c9], Pr.S a1_0_0.g.Symbols (.slice A1 n1 c1), Pr.S a1_0_0.g.Rules (.slice A2 n2 c2), Pr.S a1_0_0.phases (.slice A3 n3 c3), Pr.S a1_0_0.r.Right (.slice A4 n4 c4), Pr.S a1_0_0.r.Equations (.slice A5 n5 c5), Pr.S a1_0_0.r.Contributions (.slice A6 n6 c6), Pr.S a1_0_0.due (.slice A7 n7 c7), Pr.S a1_0_0.known (.slice A8 n8 c8), Pr.S a1_0_0.next (.slice A9 n9 c9), Pr.A b1_0p 0 [.pointer (some ⟨b1_0_0p, 0, none⟩)]] []) (fun k1 => a0.length - k1) 0 ⟨rfl, rfl, rfl, rfl, trivial⟩ ⟨Nat.zero_le _, hq1, H.keep 13 0⟩ ?_)
  rintro k1 σ w1 ⟨hk1, hq1, H⟩
  refine Sreg ?_
  refine WL.ev rfl rfl (Ev.bin rfl rfl rfl Bin.lss) (WL.nil ?_)
  refine CW.seq (CW.condD rfl (fun h1 => ?_) (fun h1 => ?_))
  · have hk2 := cast_lt h1
    obtain ⟨x1, z1, hx1, hb1, hs1, ht1⟩ := findL_go hq1 hk2
    refine CW.skip ?_
    refine CW.seq (CW.block (Sreg ?_))
    refine Wmv rfl rfl rfl rfl (Wsn rfl rfl rfl rfl ?_)
    refine Sreg ?_
    refine Wmv rfl rfl rfl rfl (Wmv rfl rfl rfl rfl (Wmv rfl rfl rfl rfl ?_))
    obtain ⟨b1, ob1, cb1, hvb1, hI1, hS3, H⟩ := ixS_Occurrence H (i := 0) rfl hx1
    refine WL.ev rfl rfl (Ev.ixVN rfl el76 sz90 rfl hvb1 rfl (lt_of hx1)) (WL.ev rfl rfl (Ev.lda rfl ag90 sz90 rfl (H.rA (i := 13) rfl) rfl) ?_)
    obtain ⟨y1, hy1, hb1⟩ := bd hb1
    refine WL.call rfl rfl rfl rfl rfl ok152 rfl (ivisits_complete_1_ok hy1 (F0 := fun q => q < _) ⟨rfl, hI1, hS3⟩ ⟨H.rAl (i := 1) rfl, _, H.rA (i := 1) rfl, ⟨_, _, _, _, _, _, _, _, _, rfl, hS1, hS2, (H.rS (i := 3) rfl), (H.rS (i := 4) rfl), (H.rS (i := 5) rfl), (H.rS (i := 6) rfl), (H.rS (i := 7) rfl), (H.rS (i := 8) rfl), (H.rS (i := 9) rfl), (H.rS (i := 10) rfl), (H.rS (i := 11) rfl)⟩⟩ ⟨H.rAl (i := 12) rfl, H.rA (i := 12) rfl⟩) ?_
    rintro _ w2 hE rfl
    have H := H.ext hE
    refine WL.nil ?_
    refine CW.condB rfl (fun h2 => ?_) (fun h2 => ?_)
    · have hb1 := ifp h2 hb1
      refine Sreg ?_
      refine Wmv rfl rfl rfl rfl (Wsn rfl rfl rfl rfl ?_)
      refine CW.ret ?_
      obtain rfl := sm hb1
      obtain rfl := ht1 _ rfl
      obtain rfl := sm hr
      exact ⟨_, res1 rfl rfl rfl, H.ext0, rfl, (i64_nat hk2 hl1)⟩
    · have hb1 := ifn h2 hb1
      refine CW.skip ?_
      refine CW.reg ?_
      refine WL.ev rfl rfl (Ev.bin rfl rfl rfl (Bin.addN (a := k1) (b := 1) rfl (i64_succN hk2 hl1.2))) (Wmv rfl rfl rfl rfl (WL.nil ?_))
      obtain rfl := sm hb1
      have hq1 := hs1 _ rfl
      exact ⟨(k1 + 1), ⟨rfl, rfl, rfl, rfl, trivial⟩, ⟨hk2, hq1, H.keep 13 0⟩, Nat.sub_lt_sub_left hk2 (Nat.lt_succ_self _)⟩
  · obtain rfl := findL_end hq1 (not_cast_lt h1)
    have hr := (onr_inl _ _ _).symm.trans hr
    refine CW.exit ?_
    refine Sreg ?_
    refine Wsn rfl rfl rfl rfl ?_
    refine CW.ret ?_
    obtain rfl := sm hr
    exact ⟨_, res1 rfl rfl rfl, H.ext0, rfl, (by decide : I64 (-1))⟩

noncomputable def slices_ContainsFunc_Occurrence_ivisits_complete_1_m (a0 : (List Occurrence)) (a1_0_0 : visits) : Option Bool :=
  (slices_IndexFunc_Occurrence_ivisits_complete_1_m a0 a1_0_0).bind fun y1 =>
  some (decide (0 ≤ y1))
theorem slices_ContainsFunc_Occurrence_ivisits_complete_1_ok {a0 : (List Occurrence)} {a1_0_0 : visits} {r : Bool} (hr : slices_ContainsFunc_Occurrence_ivisits_complete_1_m a0 a1_0_0 = some r) {F0 : Nat → Prop} {w0 : World} {z0 : Value} (ha0 : rdS F0 w0 a0 z0) {b1_0_0p : Nat} (ha1_0_0 : CapP F0 w0 b1_0_0p a1_0_0) {b1_0p : Nat} (ha1_0 : F0 b1_0p ∧ At w0 b1_0p 0 [.pointer (some ⟨b1_0_0p, 0, none⟩)]) :
    Ret Tryz.prog 151 #[z0, .func (.func 152) #[] #[.pointer (some ⟨b1_0p, 0, none⟩)]] w0 (fun _ => False) fun v w => v = .bool r := by
  obtain ⟨A0', n0', c0', rfl⟩ := ha0.form3
  have H := (HL.start F0 w0).argS ha0
  obtain ⟨cpa1_0_0, H⟩ := H.argP ha1_0_0
  obtain ⟨A1, n1, c1, A2, n2, c2, A3, n3, c3, A4, n4, c4, A5, n5, c5, A6, n6, c6, A7, n7, c7, A8, n8, c8, A9, n9, c9, rfl, hS1, hS2, H⟩ := op_visits H (i := 2) rfl
  have H := H.argA ha1_0
  refine enter Tryz.func151 rfl rfl rfl ?_
  refine Sreg ?_
  refine Wsn rfl rfl rfl rfl ?_
  refine Sreg ?_
  refine Wmv rfl rfl rfl rfl (Wmv rfl rfl rfl rfl ?_)
  obtain ⟨y1, hy1, hr⟩ := bd hr
  refine WL.call rfl rfl rfl rfl rfl ok188 rfl (slices_IndexFunc_Occurrence_ivisits_complete_1_ok hy1 (F0 := fun q => q < _) (H.rS (i := 0) rfl) ⟨H.rAl (i := 1) rfl, _, H.rA (i := 1) rfl, ⟨_, _, _, _, _, _, _, _, _, rfl, hS1, hS2, (H.rS (i := 3) rfl), (H.rS (i := 4) rfl), (H.rS (i := 5) rfl), (H.rS (i := 6) rfl), (H.rS (i := 7) rfl), (H.rS (i := 8) rfl), (H.rS (i := 9) rfl), (H.rS (i := 10) rfl), (H.rS (i := 11) rfl)⟩⟩ ⟨H.rAl (i := 12) rfl, H.rA (i := 12) rfl⟩) ?_
  rintro _ w1 hE ⟨rfl, hI1⟩
  have H := H.ext hE
  refine WL.ev rfl rfl (Ev.bin rfl rfl rfl Bin.geq) (Wsn rfl rfl rfl rfl ?_)
  refine CW.ret ?_
  obtain rfl := sm hr
  exact ⟨_, res1 rfl rfl rfl, H.ext0, rfl⟩

noncomputable def ivisits_complete_L1 (a0 : visits) : Int → Option (Int ⊕ (Unit ⊕ Bool)) := fun s1 => 
  if s1 ≤ (a0.r.Right.length : Int) then (
  grd (0 ≤ s1) <|
  (a0.next[s1.toNat]?).bind fun x1 =>
  (ivisits_phasesAt_m a0 s1).bind fun y1 =>
  if x1 < (y1.length : Int) then (
  some (.inr (.inr false))
  ) else (
  grd (I64 (s1 + 1)) <|
  some (.inl (s1 + 1))
  )
  ) else (
  some (.inr (.inl ()))
  )
noncomputable def ivisits_complete_m (a0 : visits) : Option Bool :=
  (
  iterO (ivisits_complete_L1 a0) 1
  ).bind <| onr (fun r1 => some r1) fun () =>
  (slices_ContainsFunc_Occurrence_ivisits_complete_1_m a0.due a0).bind fun y2 =>
  some (!y2)
theorem ivisits_complete_ok {a0 : visits} {r : Bool} (hr : ivisits_complete_m a0 = some r) {F0 : Nat → Prop} {w0 : World} {b0p : Nat} (ha0 : CapP F0 w0 b0p a0) :
    Ret Tryz.prog 93 #[.pointer (some ⟨b0p, 0, none⟩)] w0 (fun _ => False) fun v w => v = .bool r := by
  have H := HL.start F0 w0
  obtain ⟨cpa0, H⟩ := H.argP ha0
  obtain ⟨A1, n1, c1, A2, n2, c2, A3, n3, c3, A4, n4, c4, A5, n5, c5, A6, n6, c6, A7, n7, c7, A8, n8, c8, A9, n9, c9, rfl, hS1, hS2, H⟩ := op_visits H (i := 1) rfl
  refine enter Tryz.func93 rfl rfl rfl ?_
  refine Sreg ?_
  refine WL.boxH rfl rfl rfl rfl rfl H fun b1 w1 H => ?_
  refine Wsn rfl rfl rfl rfl ?_
  refine SSr ?_
  refine Wsn rfl rfl rfl rfl ?_
  obtain ⟨q1, hm1, hr⟩ := bd hr
  refine CW.mid (fun ρ' w => q1 = .inl () ∧ agree ρ' [(1, .pointer (some ⟨b1, 0, none⟩))] ∧ HL F0 [] w0 w [Pr.A b0p 0 [.slice A1 n1 c1, .slice A2 n2 c2, .slice A3 n3 c3, .string a0.r.Name, .string a0.r.Left, .slice A4 n4 c4, .bool a0.r.Literal, .slice A5 n5 c5, .slice A6 n6 c6, .slice A7 n7 c7, .slice A8 n8 c8, .slice A9 n9 c9], Pr.R a0 [.slice A1 n1 c1, .slice A2 n2 c2, .slice A3 n3 c3, .string a0.r.Name, .string a0.r.Left, .slice A4 n4 c4, .bool a0.r.Literal, .slice A5 n5 c5, .slice A6 n6 c6, .slice A7 n7 c7, .slice A8 n8 c8, .slice A9 n9 c9], Pr.S a0.g.Symbols (.slice A1 n1 c1), Pr.S a0.g.Rules (.slice A2 n2 c2), Pr.S a0.phases (.slice A3 n3 c3), Pr.S a0.r.Right (.slice A4 n4 c4), Pr.S a0.r.Equations (.slice A5 n5 c5), Pr.S a0.r.Contributions (.slice A6 n6 c6), Pr.S a0.due (.slice A7 n7 c7), Pr.S a0.known (.slice A8 n8 c8), Pr.S a0.next (.slice A9 n9 c9)] [It.B b1 136 [.pointer (some ⟨b0p, 0, none⟩)]]) ?_ ?_
  · obtain ⟨m1, hq1⟩ := iterO_some.1 hm1
    refine CW.block (CW.loop (α := Nat × Int) (fun ⟨m1, s1⟩ => [(1, .pointer (some ⟨b1, 0, none⟩)), (3, .int .i64 s1)]) (fun ⟨m1, s1⟩ w => iterN (ivisits_complete_L1 a0) m1 s1 = some q1 ∧ I64 s1 ∧ HL F0 [] w0 w [Pr.A b0p 0 [.slice A1 n1 c1, .slice A2 n2 c2, .slice A3 n3 c3, .string a0.r.Name, .string a0.r.Left, .slice A4 n4 c4, .bool a0.r.Literal, .slice A5 n5 c5, .slice A6 n6 c6, .slice A7 n7 c7, .slice A8 n8 c8, .slice A9 n9 c9], Pr.R a0 [.slice A1 n1 c1, .slice A2 n2 c2, .slice A3 n3 c3, .string a0.r.Name, .string a0.r.Left, .slice A4 n4 c4, .bool a0.r.Literal, .slice A5 n5 c5, .slice A6 n6 c6, .slice A7 n7 c7, .slice A8 n8 c8, .slice A9 n9 c9], Pr.S a0.g.Symbols (.slice A1 n1 c1), Pr.S a0.g.Rules (.slice A2 n2 c2), Pr.S a0.phases (.slice A3 n3 c3), Pr.S a0.r.Right (.slice A4 n4 c4), Pr.S a0.r.Equations (.slice A5 n5 c5), Pr.S a0.r.Contributions (.slice A6 n6 c6), Pr.S a0.due (.slice A7 n7 c7), Pr.S a0.known (.slice A8 n8 c8), Pr.S a0.next (.slice A9 n9 c9)] [It.B b1 136 [.pointer (some ⟨b0p, 0, none⟩)]]) (fun ⟨m1, s1⟩ => m1) ⟨m1, 1⟩ ⟨rfl, rfl, trivial⟩ ⟨hq1, (by decide : I64 1), H.keep 11 1⟩ ?_)
    rintro ⟨m1, s1⟩ σ w2 ⟨hq1, hI1, H⟩
    obtain ⟨m2, z1, rfl, hb1, hs1, ht1⟩ := iterN_go hq1
    refine SSr ?_
    refine Wmv rfl rfl rfl rfl (WL.ev rfl rfl (Ev.ld rfl ag136 rfl ((H.rB (i := 0) rfl).cell rfl)) (WL.ev rfl rfl (Ev.nilc rfl rfl) (Wfa rfl rfl rfl fo142_2 rfl (Wfa rfl rfl rfl fo45_2 rfl (WL.ev rfl rfl (Ev.ld rfl ag26 rfl ((H.rA (i := 0) rfl).cellK (k := 5) rfl rfl)) ?_)))))
    have hl1 := (H.rS (i := 5) rfl).I
    refine WL.ev rfl rfl (Ev.lenV rfl el26 rfl (H.rS (i := 5) rfl)) (WL.ev rfl rfl (Ev.bin rfl rfl rfl Bin.leq) (WL.nil ?_))
    refine CW.condD rfl (fun h1 => ?_) (fun h1 => ?_)
    · have hb1 := ifp h1 hb1
      refine CW.skip ?_
      obtain ⟨hg1, hb1⟩ := grd_some hb1
      obtain ⟨x1, hx1, hb1⟩ := bd hb1
      obtain ⟨b2, ob2, cb2, hvb2, hI2, H⟩ := ixS_Int H (i := 10) rfl hx1
      refine CW.seq (CW.block (CW.seq (CW.held (fun w => HL F0 [] w0 w [Pr.A b0p 0 [.slice A1 n1 c1, .slice A2 n2 c2, .slice A3 n3 c3, .string a0.r.Name, .string a0.r.Left, .slice A4 n4 c4, .bool a0.r.Literal, .slice A5 n5 c5, .slice A6 n6 c6, .slice A7 n7 c7, .slice A8 n8 c8, .slice A9 n9 c9], Pr.R a0 [.slice A1 n1 c1, .slice A2 n2 c2, .slice A3 n3 c3, .string a0.r.Name, .string a0.r.Left, .slice A4 n4 c4, .bool a0.r.Literal, .slice A5 n5 c5, .slice A6 n6 c6, .slice A7 n7 c7, .slice A8 n8 c8, .slice A9 n9 c9], Pr.S a0.g.Symbols (.slice A1 n1 c1), Pr.S a0.g.Rules (.slice A2 n2 c2), Pr.S a0.phases (.slice A3 n3 c3), Pr.S a0.r.Right (.slice A4 n4 c4), Pr.S a0.r.Equations (.slice A5 n5 c5), Pr.S a0.r.Contributions (.slice A6 n6 c6), Pr.S a0.due (.slice A7 n7 c7), Pr.S a0.known (.slice A8 n8 c8), Pr.S a0.next (.slice A9 n9 c9), Pr.A b2 (ob2 + s1.toNat * 1) [.int .i64 x1], Pr.R x1 [.int .i64 x1]] [It.B b1 136 [.pointer (some ⟨b0p, 0, none⟩)]]) hmix (fun w3 hE => ?_))))
      have H := H.ext hE
      refine HW.take 0 (H.keep 13 1) rfl (by kernel_rfl) rfl rfl (fun _ hq => Ev.ld rfl ag136 rfl ((hq.rB (i := 0) rfl).cell rfl)) ?_
      refine HW.take 1 (H.keep 13 1) rfl (by kernel_rfl) rfl rfl (fun _ _ => Ev.nilc rfl rfl) ?_
      refine HW.take 2 (H.keep 13 1) rfl (by kernel_rfl) rfl rfl (fun _ _ => Ev.fa rfl fo142_5 rfl) ?_
      refine HW.take 3 (H.keep 13 1) rfl (by kernel_rfl) rfl rfl (fun _ hq => Ev.ld rfl ag33 rfl ((hq.rA (i := 0) rfl).cell rfl)) ?_
      refine HW.take 4 (H.keep 13 1) rfl (by kernel_rfl) rfl rfl (fun _ _ => Ev.mv rfl rfl) ?_
      refine HW.take 5 (H.keep 13 1) rfl (by kernel_rfl) rfl rfl (fun _ _ => Ev.ixV rfl el33 sz3 rfl hvb2 rfl hg1 (lt_of hx1)) ?_
      refine HW.take 6 (H.keep 13 1) rfl (by kernel_rfl) rfl rfl (fun _ hq => Ev.ld rfl ag3 rfl ((hq.rA (i := 11) rfl).cell0 rfl)) ?_
      refine HW.take 7 (H.keep 13 1) rfl (by kernel_rfl) rfl rfl (fun _ hq => Ev.ld rfl ag136 rfl ((hq.rB (i := 0) rfl).cell rfl)) ?_
      refine HW.take 8 (H.keep 13 1) rfl (by kernel_rfl) rfl rfl (fun _ _ => Ev.mv rfl rfl) ?_
      refine HW.eff 9 rfl (by kernel_rfl) ?_
      obtain ⟨y1, hy1, hb1⟩ := bd hb1
      obtain ⟨F, hF, hcl⟩ := H.call
      refine WL.call rfl rfl rfl rfl rfl ok90 rfl (ivisits_phasesAt_ok hy1 ⟨(hF.get (i := 0) rfl).1, _, (hF.get (i := 0) rfl).2, ⟨_, _, _, _, _, _, _, _, _, rfl, hS1, hS2, (hF.get (i := 2) rfl), (hF.get (i := 3) rfl), (hF.get (i := 4) rfl), (hF.get (i := 5) rfl), (hF.get (i := 6) rfl), (hF.get (i := 7) rfl), (hF.get (i := 8) rfl), (hF.get (i := 9) rfl), (hF.get (i := 10) rfl)⟩⟩ hI1) ?_
      rintro _ w4 hE ⟨A10, n10, c10, rfl, H'⟩
      have H := hcl H'
      refine HW.next (H.keep 13 1) ?_
      have hl2 := (H.rS (i := 13) rfl).I
      refine HW.take 10 (H.keep 13 1) rfl (by kernel_rfl) rfl rfl (fun _ _ => Ev.lenV rfl el125 rfl (H.rS (i := 13) rfl)) ?_
      refine HW.take 11 (H.keep 13 1) rfl (by kernel_rfl) rfl rfl (fun _ _ => Ev.bin rfl rfl rfl Bin.lss) ?_
      refine HW.done (by kernel_rfl) ?_
      refine CW.condD rfl (fun h2 => ?_) (fun h2 => ?_)
      · have hb1 := ifp h2 hb1
        refine Sreg ?_
        refine Wsn rfl rfl rfl rfl ?_
        refine CW.ret ?_
        obtain rfl := sm hb1
        obtain rfl := ht1 _ rfl
        obtain rfl := sm hr
        exact ⟨_, res1 rfl rfl rfl, H.ext0, rfl⟩
      · have hb1 := ifn h2 hb1
        refine CW.skip ?_
        refine CW.reg ?_
        refine Wmv rfl rfl rfl rfl ?_
        obtain ⟨hg2, hb1⟩ := grd_some hb1
        refine WL.ev rfl rfl (Ev.bin rfl rfl rfl (Bin.add hg2)) (Wsn rfl rfl rfl rfl ?_)
        obtain rfl := sm hb1
        exact ⟨⟨m2, (s1 + 1)⟩, ⟨rfl, rfl, trivial⟩, ⟨hs1 _ rfl, hg2, H.keep 11 1⟩, Nat.lt_succ_self _⟩
    · have hb1 := ifn h1 hb1
      refine CW.exit ?_
      obtain rfl := sm hb1
      obtain rfl := ht1 _ rfl
      exact ⟨rfl, ⟨rfl, trivial⟩, H.keep 11 1⟩
  · rintro ρ' w5 ⟨rfl, hag, H⟩
    obtain ⟨σ, rfl⟩ := ofL_ex hag
    refine Sreg ?_
    refine WL.ev rfl rfl (Ev.ld rfl ag136 rfl ((H.rB (i := 0) rfl).cell rfl)) (WL.ev rfl rfl (Ev.nilc rfl rfl) (Wfa rfl rfl rfl fo142_3 rfl (WL.ev rfl rfl (Ev.ld rfl ag76 rfl ((H.rA (i := 0) rfl).cell rfl)) (WL.ev rfl rfl (Ev.mkfL rfl rfl rfl) ?_))))
    obtain ⟨y2, hy2, hr⟩ := bd hr
    refine WL.call rfl rfl rfl rfl rfl ok151 rfl (slices_ContainsFunc_Occurrence_ivisits_complete_1_ok hy2 (F0 := fun q => q < _) (H.rS (i := 8) rfl) ⟨H.rAl (i := 0) rfl, _, H.rA (i := 0) rfl, ⟨_, _, _, _, _, _, _, _, _, rfl, hS1, hS2, (H.rS (i := 2) rfl), (H.rS (i := 3) rfl), (H.rS (i := 4) rfl), (H.rS (i := 5) rfl), (H.rS (i := 6) rfl), (H.rS (i := 7) rfl), (H.rS (i := 8) rfl), (H.rS (i := 9) rfl), (H.rS (i := 10) rfl)⟩⟩ ⟨(H.rB (i := 0) rfl).lt, At.blk (H.rB (i := 0) rfl)⟩) ?_
    rintro _ w6 hE rfl
    have H := H.ext hE
    refine WL.ev rfl rfl (Ev.not rfl rfl) (Wsn rfl rfl rfl rfl ?_)
    refine CW.ret ?_
    obtain rfl := sm hr
    exact ⟨_, res1 rfl rfl rfl, H.ext0, rfl⟩

noncomputable def iCheckRulePlan_L1 (a3 : (List Step)) (y1 : visits) (y2 : (List Phase)) : Nat → Step → ((List Occurrence) × (List Int) × ByteArray × ByteArray × Bool × (List Occurrence)) → Option (((List Occurrence) × (List Int) × ByteArray × ByteArray × Bool × (List Occurrence)) ⊕ Bool) := fun k1 x2 (s2, s3, s4, s5, s6, s7) => 
  (ivisits_accepts_m x2 (⟨y1.g, y1.phases, (⟨s4, s5, y1.r.Right, s6, y1.r.Equations, y1.r.Contributions⟩ : Rule), s2, s7, s3⟩ : visits)).bind fun (y3, z3) =>
  (
  if y3 = true then (
  (z3.next[0]?).bind fun x3 =>
  (
  if x3 = (y2.length : Int) then (
  some (true, decide ((k1 : Int) < ((a3.length : Int) - 1)))
  ) else (
  some (false, false)
  )
  ).bind fun (s9, s10) =>
  some s10
  ) else (
  some true
  )
  ).bind fun s8 =>
  if s8 = true then (
  some (.inr false)
  ) else (
  some (.inl (z3.due, z3.next, z3.r.Name, z3.r.Left, z3.r.Literal, z3.known))
  )
noncomputable def iCheckRulePlan_m (a0 : Grammar) (a1 : (List (List Phase))) (a2 : Rule) (a3 : (List Step)) : Option Bool :=
  (ivisitsOf_m a0 a1 a2).bind fun y1 =>
  (ivisits_phasesAt_v2_m 0 y1).bind fun y2 =>
  (
  if (y2.length : Int) = 0 then (
  some true
  ) else (
  some (decide ((a3.length : Int) = 0))
  )
  ).bind fun s1 =>
  if s1 = true then (
  some false
  ) else (
  (y2[0]?).bind fun x1 =>
  (ivisits_learn_m 0 x1.Inherited y1).bind fun z1 =>
  (findL (iCheckRulePlan_L1 a3 y1 y2) 0 a3 (z1.due, z1.next, z1.r.Name, z1.r.Left, z1.r.Literal, z1.known)).bind <| onr (fun r1 => some r1) fun (s2, s3, s4, s5, s6, s7) =>
  (s3[0]?).bind fun x4 =>
  (
  if x4 = (y2.length : Int) then (
  (ivisits_complete_m (⟨y1.g, y1.phases, (⟨s4, s5, y1.r.Right, s6, y1.r.Equations, y1.r.Contributions⟩ : Rule), s2, s7, s3⟩ : visits)).bind fun y4 =>
  some y4
  ) else (
  some false
  )
  ).bind fun s11 =>
  some s11
  )
theorem iCheckRulePlan_ok {a0 : Grammar} {a1 : (List (List Phase))} {a2 : Rule} {a3 : (List Step)} {r : Bool} (hr : iCheckRulePlan_m a0 a1 a2 a3 = some r) {F0 : Nat → Prop} {w0 : World} {ca0 : List Value} (ha0 : rd F0 w0 a0 ca0) {z1 : Value} (ha1 : rdS F0 w0 a1 z1) {ca2 : List Value} (ha2 : rd F0 w0 a2 ca2) {z3 : Value} (ha3 : rdS F0 w0 a3 z3) :
    Ret Tryz.prog 25 #[.agg ca0.toArray, z1, .agg ca2.toArray, z3] w0 (fun _ => False) fun v w => v = .bool r := by
  obtain ⟨A1', n1', c1', rfl⟩ := ha1.form3
  obtain ⟨A3', n3', c3', rfl⟩ := ha3.form3
  have H := ((((HL.start F0 w0).argR ha0).argS ha1).argR ha2).argS ha3
  obtain ⟨A1, n1, c1, A2, n2, c2, rfl, H⟩ := op_Grammar H (i := 0) rfl
  obtain ⟨A3, n3, c3, A4, n4, c4, A5, n5, c5, rfl, hS1, hS2, H⟩ := op_Rule H (i := 2) rfl
  refine enter Tryz.func25 rfl rfl rfl ?_
  refine Sreg ?_
  refine WL.boxH rfl rfl rfl rfl rfl H fun b1 w1 H => ?_
  refine WL.boxH rfl rfl rfl rfl rfl H fun b2 w2 H => ?_
  refine Wsn rfl rfl rfl rfl ?_
  refine Sreg ?_
  refine WL.ev rfl rfl (Ev.lda rfl ag40 sz40 rfl (At.blk (H.rB (i := 0) rfl)) rfl) (Wmv rfl rfl rfl rfl (WL.ev rfl rfl (Ev.lda rfl ag45 sz45 rfl (At.blk (H.rB (i := 1) rfl)) rfl) ?_))
  obtain ⟨y1, hy1, hr⟩ := bd hr
  obtain ⟨F, hF, hcl⟩ := H.call
  refine WL.call rfl rfl rfl rfl rfl ok89 rfl (ivisitsOf_ok hy1 ⟨_, _, rfl, (hF.get (i := 4) rfl), (hF.get (i := 5) rfl)⟩ (hF.get (i := 1) rfl) ⟨_, _, _, rfl, hS1, hS2, (hF.get (i := 6) rfl), (hF.get (i := 7) rfl), (hF.get (i := 8) rfl)⟩) ?_
  rintro _ w3 hE ⟨b3, A6, n6, c6, A7, n7, c7, A8, n8, c8, A9, n9, c9, A10, n10, c10, A11, n11, c11, A12, n12, c12, A13, n13, c13, A14, n14, c14, rfl, hS3, hS4, H'⟩
  have H := hcl H'
  refine Wsn rfl rfl rfl rfl ?_
  refine Sreg ?_
  refine Wmv rfl rfl rfl rfl ?_
  obtain ⟨y2, hy2, hr⟩ := bd hr
  obtain ⟨F', M', hfF, hcM⟩ := H.callV [false, false, true, true, true, true] ⟨noO, noO, noB, noO, trivial⟩
  obtain ⟨H', hcN⟩ := hcM (ps := [Pr.S y1.g.Symbols (.slice A6 n6 c6), Pr.S y1.g.Rules (.slice A7 n7 c7), Pr.S y1.phases (.slice A8 n8 c8), Pr.S y1.r.Right (.slice A9 n9 c9), Pr.S y1.r.Equations (.slice A10 n10 c10), Pr.S y1.r.Contributions (.slice A11 n11 c11)]) ⟨hfF.get (i := 9) rfl, hfF.get (i := 10) rfl, hfF.get (i := 11) rfl, hfF.get (i := 12) rfl, hfF.get (i := 13) rfl, hfF.get (i := 14) rfl, trivial⟩
  refine WL.call rfl rfl rfl rfl rfl ok90 rfl (ivisits_phasesAt_v2_ok hy2 (by decide : I64 0) hS3 hS4 H') ?_
  rintro _ w4 hE ⟨A15, n15, c15, rfl, H'⟩
  have H := hcN 4 H' rfl ⟨fun _ _ _ _ _ h => h, ⟨fun _ _ _ _ _ h => h, ⟨fun _ _ _ _ _ h => h, ⟨fun _ _ _ _ _ h => h, trivial⟩⟩⟩⟩
  refine Wsn rfl rfl rfl rfl ?_
  refine SSr ?_
  refine Wmv rfl rfl rfl rfl ?_
  have hl1 := (H.rS (i := 15) rfl).I
  refine WL.ev rfl rfl (Ev.lenV rfl el125 rfl (H.rS (i := 15) rfl)) (WL.ev rfl rfl (Ev.bin rfl rfl rfl Bin.eql) ?_)
  obtain ⟨q1, hm1, hr⟩ := bd hr
  refine WL.cut 5 (fun ρ' w => ∃ (s1 : Bool), s1 = q1 ∧ agree ρ' [(3, .slice A3' n3' c3'), (9, .pointer (some ⟨b3, 0, none⟩)), (10, .slice A15 n15 c15), (26, .bool s1)] ∧ HL F0 [] w0 w [Pr.R a0 [.slice A1 n1 c1, .slice A2 n2 c2], Pr.S a1 (.slice A1' n1' c1'), Pr.R a2 [.string a2.Name, .string a2.Left, .slice A3 n3 c3, .bool a2.Literal, .slice A4 n4 c4, .slice A5 n5 c5], Pr.S a3 (.slice A3' n3' c3'), Pr.S a0.Symbols (.slice A1 n1 c1), Pr.S a0.Rules (.slice A2 n2 c2), Pr.S a2.Right (.slice A3 n3 c3), Pr.S a2.Equations (.slice A4 n4 c4), Pr.S a2.Contributions (.slice A5 n5 c5), Pr.S y1.g.Symbols (.slice A6 n6 c6), Pr.S y1.g.Rules (.slice A7 n7 c7), Pr.S y1.phases (.slice A8 n8 c8), Pr.S y1.r.Right (.slice A9 n9 c9), Pr.S y1.r.Equations (.slice A10 n10 c10), Pr.S y1.r.Contributions (.slice A11 n11 c11), Pr.S y2 (.slice A15 n15 c15)] [It.B b1 40 [.slice A1 n1 c1, .slice A2 n2 c2], It.B b2 45 [.string a2.Name, .string a2.Left, .slice A3 n3 c3, .bool a2.Literal, .slice A4 n4 c4, .slice A5 n5 c5], It.O 90 y1.due (.slice A12 n12 c12), It.O 3 y1.next (.slice A14 n14 c14), It.B b3 142 [.slice A6 n6 c6, .slice A7 n7 c7, .slice A8 n8 c8, .string y1.r.Name, .string y1.r.Left, .slice A9 n9 c9, .bool y1.r.Literal, .slice A10 n10 c10, .slice A11 n11 c11, .slice A12 n12 c12, .slice A13 n13 c13, .slice A14 n14 c14], It.O 90 y1.known (.slice A13 n13 c13)]) ?_ ?_
  · refine WL.mvD rfl rfl rfl rfl (fun h1 => ?_) (fun h1 => ?_)
    · have hm1 := ifp h1 hm1
      refine WL.off rfl rfl rfl (WL.off rfl rfl rfl (WL.off rfl rfl rfl (WL.ev rfl rfl (Ev.pickT rfl rfl rfl) (WL.nil ?_))))
      obtain rfl := sm hm1
      exact ⟨true, rfl, ⟨rfl, rfl, rfl, rfl, trivial⟩, H.keep 16 6⟩
    · have hm1 := ifn h1 hm1
      refine WL.on rfl rfl (Wmv rfl rfl rfl rfl (WL.on rfl rfl ?_))
      have hl2 := (H.rS (i := 3) rfl).I
      refine WL.ev rfl rfl (Ev.lenV rfl el61 rfl (H.rS (i := 3) rfl)) (WL.on rfl rfl (WL.ev rfl rfl (Ev.bin rfl rfl rfl Bin.eql) (WL.ev rfl rfl (Ev.pickF rfl rfl rfl) (WL.nil ?_))))
      obtain rfl := sm hm1
      exact ⟨(decide ((a3.length : Int) = 0)), rfl, ⟨rfl, rfl, rfl, rfl, trivial⟩, H.keep 16 6⟩
  · rintro ρ' w5 ⟨s1, rfl, hag, H⟩
    obtain ⟨σ, rfl⟩ := ofL_ex hag
    refine WL.nil ?_
    refine CW.condB rfl (fun h2 => ?_) (fun h2 => ?_)
    · have hr := ifp h2 hr
      refine Sreg ?_
      refine Wsn rfl rfl rfl rfl ?_
      refine CW.ret ?_
      obtain rfl := sm hr
      exact ⟨_, res1 rfl rfl rfl, H.ext0, rfl⟩
    · have hr := ifn h2 hr
      refine CW.skip ?_
      refine Sreg ?_
      refine Wmv rfl rfl rfl rfl (Wmv rfl rfl rfl rfl ?_)
      obtain ⟨x1, hx1, hr⟩ := bd hr
      obtain ⟨b4, ob4, cb4, A16, n16, c16, A17, n17, c17, hvb4, H⟩ := ixS_Phase H (i := 15) rfl hx1
      refine WL.ev rfl rfl (Ev.ixVN rfl el125 sz129 rfl hvb4 rfl (lt_of hx1)) (Wfa rfl rfl rfl fo129_0 rfl (WL.ev rfl rfl (Ev.ld rfl ag26 rfl ((H.rA (i := 16) rfl).cell rfl)) ?_))
      obtain ⟨z1, hy3, hr⟩ := bd hr
      obtain ⟨F', M', hfF, hoF, hcM⟩ := H.callN [false, false, true, true, true, true] ⟨noO, noO, noB, noO, trivial⟩
      obtain ⟨H', hcN⟩ := hcM (ps := [Pr.S x1.Inherited (.slice A16 n16 c16), Pr.S y1.g.Symbols (.slice A6 n6 c6), Pr.S y1.g.Rules (.slice A7 n7 c7), Pr.S y1.phases (.slice A8 n8 c8), Pr.S y1.r.Right (.slice A9 n9 c9), Pr.S y1.r.Equations (.slice A10 n10 c10), Pr.S y1.r.Contributions (.slice A11 n11 c11)]) ⟨hfF.get (i := 18) rfl, hfF.get (i := 9) rfl, hfF.get (i := 10) rfl, hfF.get (i := 11) rfl, hfF.get (i := 12) rfl, hfF.get (i := 13) rfl, hfF.get (i := 14) rfl, trivial⟩
      refine WL.call rfl rfl rfl rfl rfl ok91 rfl (ivisits_learn_ok hy3 (by decide : I64 0) hS3 hS4 H') ?_
      rintro _ w6 hE ⟨A18, n18, c18, A19, n19, c19, A20, n20, c20, rfl, hS5, hS6, H'⟩
      have H := hcN 4 H' rfl ⟨fun _ _ _ _ _ h => h, ⟨fun _ _ _ _ _ h => h, ⟨fun _ _ _ _ _ h => h, ⟨fun _ _ _ _ _ h => h, trivial⟩⟩⟩⟩
      refine WL.nil ?_
      refine SSr ?_
      refine Wmv rfl rfl rfl rfl ?_
      have hl3 := (H.rS (i := 3) rfl).I
      refine WL.ev rfl rfl (Ev.lenV rfl el61 rfl (H.rS (i := 3) rfl)) (Wmv rfl rfl rfl rfl (WL.nil ?_))
      obtain ⟨q2, hq1, hr⟩ := bd hr
      refine CW.block (CW.loop (α := Nat × (List Occurrence) × (List Int) × ByteArray × ByteArray × Bool × (List Occurrence) × Value × Value × Value) (fun ⟨k1, s2, s3, s4, s5, s6, s7, v1, v2, v3⟩ => [(3, .slice A3' n3' c3'), (9, .pointer (some ⟨b3, 0, none⟩)), (10, .slice A15 n15 c15), (33, .slice A3' n3' c3'), (34, .int .i64 (a3.length : Int)), (35, .int .i64 (k1 : Int))]) (fun ⟨k1, s2, s3, s4, s5, s6, s7, v1, v2, v3⟩ w => k1 ≤ a3.length ∧ findL (iCheckRulePlan_L1 a3 y1 y2) k1 (a3.drop k1) (s2, s3, s4, s5, s6, s7) = some q2 ∧ s4.size ≤ 9223372036854775807 ∧ s5.size ≤ 9223372036854775807 ∧ HL F0 [] w0 w [Pr.R a0 [.slice A1 n1 c1, .slice A2 n2 c2], Pr.S a1 (.slice A1' n1' c1'), Pr.R a2 [.string a2.Name, .string a2.Left, .slice A3 n3 c3, .bool a2.Literal, .slice A4 n4 c4, .slice A5 n5 c5], Pr.S a3 (.slice A3' n3' c3'), Pr.S a0.Symbols (.slice A1 n1 c1), Pr.S a0.Rules (.slice A2 n2 c2), Pr.S a2.Right (.slice A3 n3 c3), Pr.S a2.Equations (.slice A4 n4 c4), Pr.S a2.Contributions (.slice A5 n5 c5), Pr.S y1.g.Symbols (.slice A6 n6 c6), Pr.S y1.g.Rules (.slice A7 n7 c7), Pr.S y1.phases (.slice A8 n8 c8), Pr.S y1.r.Right (.slice A9 n9 c9), Pr.S y1.r.Equations (.slice A10 n10 c10), Pr.S y1.r.Contributions (.slice A11 n11 c11), Pr.S y2 (.slice A15 n15 c15), Pr.A b4 (ob4 + 0 * 2) [.slice A16 n16 c16, .slice A17 n17 c17], Pr.R x1 [.slice A16 n16 c16, .slice A17 n17 c17], Pr.S x1.Inherited (.slice A16 n16 c16), Pr.S x1.Synthesized (.slice A17 n17 c17)] [It.B b1 40 [.slice A1 n1 c1, .slice A2 n2 c2], It.B b2 45 [.string a2.Name, .string a2.Left, .slice A3 n3 c3, .bool a2.Literal, .slice A4 n4 c4, .slice A5 n5 c5], It.O 90 s2 v1, It.O 3 s3 v2, It.B b3 142 [.slice A6 n6 c6, .slice A7 n7 c7, .slice A8 n8 c8, .string s4, .string s5, .slice A9 n9 c9, .bool s6, .slice A10 n10 c10, .slice A11 n11 c11, v1, v3, v2], It.O 90 s7 v3]) (fun ⟨k1, s2, s3, s4, s5, s6, s7, v1, v2, v3⟩ => a3.length - k1) ⟨0, z1.due, z1.next, z1.r.Name, z1.r.Left, z1.r.Literal, z1.known, (.slice A18 n18 c18), (.slice A20 n20 c20), (.slice A19 n19 c19)⟩ ⟨rfl, rfl, rfl, rfl, rfl, rfl, trivial⟩ ⟨Nat.zero_le _, hq1, hS5, hS6, H.keep 20 6⟩ ?_)
      rintro ⟨k1, s2, s3, s4, s5, s6, s7, v1, v2, v3⟩ σ w7 ⟨hk1, hq1, hS7, hS8, H⟩
      obtain ⟨A21, n21, c21, rfl⟩ := (H.rO (i := 2) rfl).form3
      obtain ⟨A22, n22, c22, rfl⟩ := (H.rO (i := 3) rfl).form3
      obtain ⟨A23, n23, c23, rfl⟩ := (H.rO (i := 5) rfl).form3
      refine Sreg ?_
      refine WL.ev rfl rfl (Ev.bin rfl rfl rfl Bin.lss) (WL.nil ?_)
      refine CW.seq (CW.condD rfl (fun h3 => ?_) (fun h3 => ?_))
      · have hk2 := cast_lt h3
        obtain ⟨x2, z2, hx2, hb1, hs1, ht1⟩ := findL_go hq1 hk2
        refine CW.skip ?_
        refine CW.seq (CW.block (Sreg ?_))
        refine Wmv rfl rfl rfl rfl ?_
        obtain ⟨b5, ob5, cb5, hvb5, hI1, hI2, hI3, hS9, H⟩ := ixS_Step H (i := 3) rfl hx2
        refine WL.ev rfl rfl (Ev.ixVN rfl el61 sz130 rfl hvb5 rfl (lt_of hx2)) (WL.ev rfl rfl (Ev.lda rfl ag130 sz130 rfl (H.rA (i := 20) rfl) rfl) ?_)
        refine WL.allocH rfl rfl rfl ze130 H fun b6 w8 H => ?_
        refine Was rfl rfl rfl rfl ?_
        refine WL.stB (i := 6) rfl rfl rfl sz130 rfl rfl rfl rfl (all1 rfl (all1 rfl (all1 rfl (all1 rfl all0)))) H rfl rfl rfl fun w9 H => ?_
        refine WL.nil ?_
        refine Sreg ?_
        refine Wmv rfl rfl rfl rfl (WL.ev rfl rfl (Ev.lda rfl ag130 sz130 rfl (At.blk (H.rB (i := 6) rfl)) rfl) ?_)
        obtain ⟨⟨y3, z3⟩, hy4, hb1⟩ := bd hb1
        obtain ⟨F', M', hfF, hoF, hcM⟩ := H.callN [false, false, true, true, true, true, false] ⟨noO, noO, noB, noO, trivial⟩
        obtain ⟨H', hcN⟩ := hcM (ps := [Pr.S y1.g.Symbols (.slice A6 n6 c6), Pr.S y1.g.Rules (.slice A7 n7 c7), Pr.S y1.phases (.slice A8 n8 c8), Pr.S y1.r.Right (.slice A9 n9 c9), Pr.S y1.r.Equations (.slice A10 n10 c10), Pr.S y1.r.Contributions (.slice A11 n11 c11)]) ⟨hfF.get (i := 9) rfl, hfF.get (i := 10) rfl, hfF.get (i := 11) rfl, hfF.get (i := 12) rfl, hfF.get (i := 13) rfl, hfF.get (i := 14) rfl, trivial⟩
        refine WL.call rfl rfl rfl rfl rfl ok92 rfl (ivisits_accepts_ok hy4 hI1 hI2 hI3 hS9 hS7 hS8 H') ?_
        rintro _ w10 hE ⟨A24, n24, c24, A25, n25, c25, A26, n26, c26, rfl, hS10, hS11, H'⟩
        have H := hcN 4 H' rfl ⟨fun _ _ _ _ _ h => h, ⟨fun _ _ _ _ _ h => h, ⟨fun _ _ _ _ _ h => h, ⟨fun _ _ _ _ _ h => h, trivial⟩⟩⟩⟩
        refine WL.ev rfl rfl (Ev.not rfl rfl) ?_
        obtain ⟨q3, hm2, hb1⟩ := bd hb1
        refine WL.cut 18 (fun ρ' w => ∃ (s8 : Bool), s8 = q3 ∧ agree ρ' [(3, .slice A3' n3' c3'), (9, .pointer (some ⟨b3, 0, none⟩)), (10, .slice A15 n15 c15), (33, .slice A3' n3' c3'), (34, .int .i64 (a3.length : Int)), (35, .int .i64 (k1 : Int)), (61, .bool s8)] ∧ HL F0 [] w0 w [Pr.R a0 [.slice A1 n1 c1, .slice A2 n2 c2], Pr.S a1 (.slice A1' n1' c1'), Pr.R a2 [.string a2.Name, .string a2.Left, .slice A3 n3 c3, .bool a2.Literal, .slice A4 n4 c4, .slice A5 n5 c5], Pr.S a3 (.slice A3' n3' c3'), Pr.S a0.Symbols (.slice A1 n1 c1), Pr.S a0.Rules (.slice A2 n2 c2), Pr.S a2.Right (.slice A3 n3 c3), Pr.S a2.Equations (.slice A4 n4 c4), Pr.S a2.Contributions (.slice A5 n5 c5), Pr.S y1.g.Symbols (.slice A6 n6 c6), Pr.S y1.g.Rules (.slice A7 n7 c7), Pr.S y1.phases (.slice A8 n8 c8), Pr.S y1.r.Right (.slice A9 n9 c9), Pr.S y1.r.Equations (.slice A10 n10 c10), Pr.S y1.r.Contributions (.slice A11 n11 c11), Pr.S y2 (.slice A15 n15 c15), Pr.A b4 (ob4 + 0 * 2) [.slice A16 n16 c16, .slice A17 n17 c17], Pr.R x1 [.slice A16 n16 c16, .slice A17 n17 c17], Pr.S x1.Inherited (.slice A16 n16 c16), Pr.S x1.Synthesized (.slice A17 n17 c17), Pr.A b5 (ob5 + k1 * 4) [.int .i64 x2.Kind, .int .i64 x2.Pos, .int .i64 x2.Visit, .string x2.Name], Pr.R x2 [.int .i64 x2.Kind, .int .i64 x2.Pos, .int .i64 x2.Visit, .string x2.Name]] [It.B b1 40 [.slice A1 n1 c1, .slice A2 n2 c2], It.B b2 45 [.string a2.Name, .string a2.Left, .slice A3 n3 c3, .bool a2.Literal, .slice A4 n4 c4, .slice A5 n5 c5], It.O 90 z3.due (.slice A24 n24 c24), It.O 3 z3.next (.slice A26 n26 c26), It.B b3 142 [.slice A6 n6 c6, .slice A7 n7 c7, .slice A8 n8 c8, .string z3.r.Name, .string z3.r.Left, .slice A9 n9 c9, .bool z3.r.Literal, .slice A10 n10 c10, .slice A11 n11 c11, .slice A24 n24 c24, .slice A25 n25 c25, .slice A26 n26 c26], It.O 90 z3.known (.slice A25 n25 c25), It.B b6 130 [.int .i64 x2.Kind, .int .i64 x2.Pos, .int .i64 x2.Visit, .string x2.Name]]) ?_ ?_
        · refine WL.mvBN rfl rfl rfl rfl (fun h4 => ?_) (fun h4 => ?_)
          · have hm2 := ifn h4 hm2
            refine WL.off rfl rfl rfl (WL.off rfl rfl rfl (WL.off rfl rfl rfl (WL.off rfl rfl rfl (WL.off rfl rfl rfl (WL.off rfl rfl rfl (WL.off rfl rfl rfl (WL.off rfl rfl rfl (WL.off rfl rfl rfl (WL.off rfl rfl rfl (WL.off rfl rfl rfl (WL.off rfl rfl rfl (WL.off rfl rfl rfl (WL.off rfl rfl rfl (WL.off rfl rfl rfl (WL.off rfl rfl rfl (WL.ev rfl rfl (Ev.pickT rfl rfl rfl) (WL.nil ?_)))))))))))))))))
            obtain rfl := sm hm2
            exact ⟨true, rfl, ⟨rfl, rfl, rfl, rfl, rfl, rfl, rfl, trivial⟩, H.keep 22 7⟩
          · have hm2 := ifp h4 hm2
            refine WL.on rfl rfl (Wmv rfl rfl rfl rfl (WL.on rfl rfl (WL.ev rfl rfl (Ev.nilc rfl rfl) (WL.on rfl rfl (Wfa rfl rfl rfl fo142_5 rfl (WL.on rfl rfl (WL.ev rfl rfl (Ev.ld rfl ag33 rfl ((H.rB (i := 4) rfl).cell rfl)) (WL.on rfl rfl ?_))))))))
            obtain ⟨x3, hx3, hm2⟩ := bd hm2
            obtain ⟨b7, cb7, hvb7, hbb7⟩ := H.ptO (i := 3) rfl hx3
            refine WL.ev rfl rfl (Ev.ixVN rfl el33 sz3 rfl hvb7 rfl (lt_of hx3)) (WL.on rfl rfl ?_)
            obtain ⟨hA1, hI4, H⟩ := elO_Int H (i := 3) rfl hx3 hbb7
            refine WL.ev rfl rfl (Ev.ld rfl ag3 rfl (hA1.cell0 rfl)) (WL.on rfl rfl (Wmv rfl rfl rfl rfl (WL.on rfl rfl (WL.ev rfl rfl (Ev.lenV rfl el125 rfl (H.rS (i := 15) rfl)) (WL.on rfl rfl (WL.ev rfl rfl (Ev.bin rfl rfl rfl Bin.eql) (WL.on rfl rfl ?_)))))))
            obtain ⟨q4, hm3, hm2⟩ := bd hm2
            refine WL.cut 7 (fun ρ' w => ∃ (s9 : Bool) (s10 : Bool), q4 = (s9, s10) ∧ agree ρ' [(3, .slice A3' n3' c3'), (9, .pointer (some ⟨b3, 0, none⟩)), (10, .slice A15 n15 c15), (33, .slice A3' n3' c3'), (34, .int .i64 (a3.length : Int)), (35, .int .i64 (k1 : Int)), (44, .bool false), (45, .pointer (some ⟨b3, 0, none⟩)), (46, .pointer (some ⟨b3, 0, none⟩)), (47, .pointer (some ⟨b3, 0 + 11, none⟩)), (48, .slice A26 n26 c26), (49, .pointer (some ⟨b7, 0 + 0 * 1, none⟩)), (50, .int .i64 x3), (51, .slice A15 n15 c15), (52, .int .i64 (y2.length : Int)), (53, .bool (decide (x3 = (y2.length : Int)))), (54, .bool s9), (60, .bool s10)] ∧ HL F0 [] w0 w [Pr.R a0 [.slice A1 n1 c1, .slice A2 n2 c2], Pr.S a1 (.slice A1' n1' c1'), Pr.R a2 [.string a2.Name, .string a2.Left, .slice A3 n3 c3, .bool a2.Literal, .slice A4 n4 c4, .slice A5 n5 c5], Pr.S a3 (.slice A3' n3' c3'), Pr.S a0.Symbols (.slice A1 n1 c1), Pr.S a0.Rules (.slice A2 n2 c2), Pr.S a2.Right (.slice A3 n3 c3), Pr.S a2.Equations (.slice A4 n4 c4), Pr.S a2.Contributions (.slice A5 n5 c5), Pr.S y1.g.Symbols (.slice A6 n6 c6), Pr.S y1.g.Rules (.slice A7 n7 c7), Pr.S y1.phases (.slice A8 n8 c8), Pr.S y1.r.Right (.slice A9 n9 c9), Pr.S y1.r.Equations (.slice A10 n10 c10), Pr.S y1.r.Contributions (.slice A11 n11 c11), Pr.S y2 (.slice A15 n15 c15), Pr.A b4 (ob4 + 0 * 2) [.slice A16 n16 c16, .slice A17 n17 c17], Pr.R x1 [.slice A16 n16 c16, .slice A17 n17 c17], Pr.S x1.Inherited (.slice A16 n16 c16), Pr.S x1.Synthesized (.slice A17 n17 c17), Pr.A b5 (ob5 + k1 * 4) [.int .i64 x2.Kind, .int .i64 x2.Pos, .int .i64 x2.Visit, .string x2.Name], Pr.R x2 [.int .i64 x2.Kind, .int .i64 x2.Pos, .int .i64 x2.Visit, .string x2.Name], Pr.R x3 [.int .i64 x3]] [It.B b1 40 [.slice A1 n1 c1, .slice A2 n2 c2], It.B b2 45 [.string a2.Name, .string a2.Left, .slice A3 n3 c3, .bool a2.Literal, .slice A4 n4 c4, .slice A5 n5 c5], It.O 90 z3.due (.slice A24 n24 c24), It.O 3 z3.next (.slice A26 n26 c26), It.B b3 142 [.slice A6 n6 c6, .slice A7 n7 c7, .slice A8 n8 c8, .string z3.r.Name, .string z3.r.Left, .slice A9 n9 c9, .bool z3.r.Literal, .slice A10 n10 c10, .slice A11 n11 c11, .slice A24 n24 c24, .slice A25 n25 c25, .slice A26 n26 c26], It.O 90 z3.known (.slice A25 n25 c25), It.B b6 130 [.int .i64 x2.Kind, .int .i64 x2.Pos, .int .i64 x2.Visit, .string x2.Name]]) ?_ ?_
            · refine WL.on rfl rfl ?_
              refine WL.mvD rfl rfl rfl rfl (fun h5 => ?_) (fun h5 => ?_)
              · have hm3 := ifp h5 hm3
                refine WL.on rfl rfl (Wmv rfl rfl rfl rfl (WL.on rfl rfl (Wmv rfl rfl rfl rfl (WL.on rfl rfl (WL.ev rfl rfl (Ev.lenV rfl el61 rfl (H.rS (i := 3) rfl)) (WL.on rfl rfl (WL.ev rfl rfl (Ev.bin rfl rfl rfl (Bin.sub (i64_sub (k := 1) hl3 (by decide)))) (WL.on rfl rfl (WL.ev rfl rfl (Ev.bin rfl rfl rfl Bin.lss) (WL.on rfl rfl (WL.ev rfl rfl (Ev.pickT rfl rfl rfl) (WL.nil ?_))))))))))))
                obtain rfl := sm hm3
                exact ⟨true, (decide ((k1 : Int) < ((a3.length : Int) - 1))), rfl, ⟨rfl, rfl, rfl, rfl, rfl, rfl, rfl, rfl, rfl, rfl, rfl, rfl, rfl, rfl, rfl, rfl, rfl, rfl, trivial⟩, H.keep 23 7⟩
              · have hm3 := ifn h5 hm3
                refine WL.off rfl rfl rfl (WL.off rfl rfl rfl (WL.off rfl rfl rfl (WL.off rfl rfl rfl (WL.off rfl rfl rfl (WL.on rfl rfl (WL.ev rfl rfl (Ev.pickF rfl rfl rfl) (WL.nil ?_)))))))
                obtain rfl := sm hm3
                exact ⟨false, false, rfl, ⟨rfl, rfl, rfl, rfl, rfl, rfl, rfl, rfl, rfl, rfl, rfl, rfl, rfl, rfl, rfl, rfl, rfl, rfl, trivial⟩, H.keep 23 7⟩
            · rintro ρ' w11 ⟨s9, s10, rfl, hag, H⟩
              obtain ⟨σ, rfl⟩ := ofL_ex hag
              refine WL.ev rfl rfl (Ev.pickF rfl rfl rfl) (WL.nil ?_)
              obtain rfl := sm hm2
              exact ⟨s10, rfl, ⟨rfl, rfl, rfl, rfl, rfl, rfl, rfl, trivial⟩, H.keep 22 7⟩
        · rintro ρ' w12 ⟨s8, rfl, hag, H⟩
          obtain ⟨σ, rfl⟩ := ofL_ex hag
          refine WL.nil ?_
          refine CW.condB rfl (fun h6 => ?_) (fun h6 => ?_)
          · have hb1 := ifp h6 hb1
            refine Sreg ?_
            refine Wsn rfl rfl rfl rfl ?_
            refine CW.ret ?_
            obtain rfl := sm hb1
            obtain rfl := ht1 _ rfl
            obtain rfl := sm hr
            exact ⟨_, res1 rfl rfl rfl, H.ext0, rfl⟩
          · have hb1 := ifn h6 hb1
            refine CW.skip ?_
            refine CW.reg ?_
            refine WL.ev rfl rfl (Ev.bin rfl rfl rfl (Bin.addN (a := k1) (b := 1) rfl (i64_succN hk2 hl3.2))) (Wmv rfl rfl rfl rfl (WL.nil ?_))
            obtain rfl := sm hb1
            have hq1 := hs1 _ rfl
            exact ⟨⟨k1 + 1, z3.due, z3.next, z3.r.Name, z3.r.Left, z3.r.Literal, z3.known, (.slice A24 n24 c24), (.slice A26 n26 c26), (.slice A25 n25 c25)⟩, ⟨rfl, rfl, rfl, rfl, rfl, rfl, trivial⟩, ⟨hk2, hq1, hS10, hS11, H.keep 20 6⟩, Nat.sub_lt_sub_left hk2 (Nat.lt_succ_self _)⟩
      · obtain rfl := findL_end hq1 (not_cast_lt h3)
        have hr := (onr_inl _ _ _).symm.trans hr
        refine CW.exit ?_
        refine Sreg ?_
        refine Wmv rfl rfl rfl rfl (WL.ev rfl rfl (Ev.nilc rfl rfl) (Wfa rfl rfl rfl fo142_5 rfl (WL.ev rfl rfl (Ev.ld rfl ag33 rfl ((H.rB (i := 4) rfl).cell rfl)) ?_)))
        obtain ⟨x4, hx4, hr⟩ := bd hr
        obtain ⟨b8, cb8, hvb8, hbb8⟩ := H.ptO (i := 3) rfl hx4
        refine WL.ev rfl rfl (Ev.ixVN rfl el33 sz3 rfl hvb8 rfl (lt_of hx4)) ?_
        obtain ⟨hA2, hI5, H⟩ := elO_Int H (i := 3) rfl hx4 hbb8
        refine WL.ev rfl rfl (Ev.ld rfl ag3 rfl (hA2.cell0 rfl)) (Wmv rfl rfl rfl rfl (WL.ev rfl rfl (Ev.lenV rfl el125 rfl (H.rS (i := 15) rfl)) (WL.ev rfl rfl (Ev.bin rfl rfl rfl Bin.eql) ?_)))
        obtain ⟨q5, hm4, hr⟩ := bd hr
        refine WL.cut 4 (fun ρ' w => ∃ (s11 : Bool), s11 = q5 ∧ agree ρ' [(75, .bool s11)] ∧ HL F0 [] w0 w [Pr.R a0 [.slice A1 n1 c1, .slice A2 n2 c2], Pr.S a1 (.slice A1' n1' c1'), Pr.R a2 [.string a2.Name, .string a2.Left, .slice A3 n3 c3, .bool a2.Literal, .slice A4 n4 c4, .slice A5 n5 c5], Pr.S a3 (.slice A3' n3' c3'), Pr.S a0.Symbols (.slice A1 n1 c1), Pr.S a0.Rules (.slice A2 n2 c2), Pr.S a2.Right (.slice A3 n3 c3), Pr.S a2.Equations (.slice A4 n4 c4), Pr.S a2.Contributions (.slice A5 n5 c5), Pr.S y1.g.Symbols (.slice A6 n6 c6), Pr.S y1.g.Rules (.slice A7 n7 c7), Pr.S y1.phases (.slice A8 n8 c8), Pr.S y1.r.Right (.slice A9 n9 c9), Pr.S y1.r.Equations (.slice A10 n10 c10), Pr.S y1.r.Contributions (.slice A11 n11 c11), Pr.S y2 (.slice A15 n15 c15), Pr.A b4 (ob4 + 0 * 2) [.slice A16 n16 c16, .slice A17 n17 c17], Pr.R x1 [.slice A16 n16 c16, .slice A17 n17 c17], Pr.S x1.Inherited (.slice A16 n16 c16), Pr.S x1.Synthesized (.slice A17 n17 c17), Pr.R x4 [.int .i64 x4]] [It.B b1 40 [.slice A1 n1 c1, .slice A2 n2 c2], It.B b2 45 [.string a2.Name, .string a2.Left, .slice A3 n3 c3, .bool a2.Literal, .slice A4 n4 c4, .slice A5 n5 c5], It.O 90 s2 (.slice A21 n21 c21), It.O 3 s3 (.slice A22 n22 c22), It.B b3 142 [.slice A6 n6 c6, .slice A7 n7 c7, .slice A8 n8 c8, .string s4, .string s5, .slice A9 n9 c9, .bool s6, .slice A10 n10 c10, .slice A11 n11 c11, .slice A21 n21 c21, .slice A23 n23 c23, .slice A22 n22 c22], It.O 90 s7 (.slice A23 n23 c23)]) ?_ ?_
        · refine WL.mvD rfl rfl rfl rfl (fun h7 => ?_) (fun h7 => ?_)
          · have hm4 := ifp h7 hm4
            refine WL.on rfl rfl (Wmv rfl rfl rfl rfl (WL.on rfl rfl ?_))
            obtain ⟨y4, hy5, hm4⟩ := bd hm4
            refine WL.call rfl rfl rfl rfl rfl ok93 rfl (ivisits_complete_ok hy5 (F0 := fun q => q < _) ⟨(H.rB (i := 4) rfl).lt, _, At.blk (H.rB (i := 4) rfl), ⟨_, _, _, _, _, _, _, _, _, rfl, hS7, hS8, (H.rS (i := 9) rfl), (H.rS (i := 10) rfl), (H.rS (i := 11) rfl), (H.rS (i := 12) rfl), (H.rS (i := 13) rfl), (H.rS (i := 14) rfl), (H.rO (i := 2) rfl), (H.rO (i := 5) rfl), (H.rO (i := 3) rfl)⟩⟩) ?_
            rintro _ w13 hE rfl
            have H := H.ext hE
            refine WL.ev rfl rfl (Ev.pickT rfl rfl rfl) (WL.nil ?_)
            obtain rfl := sm hm4
            exact ⟨y4, rfl, ⟨rfl, trivial⟩, H.keep 21 6⟩
          · have hm4 := ifn h7 hm4
            refine WL.off rfl rfl rfl (WL.off rfl rfl rfl (WL.ev rfl rfl (Ev.pickF rfl rfl rfl) (WL.nil ?_)))
            obtain rfl := sm hm4
            exact ⟨false, rfl, ⟨rfl, trivial⟩, H.keep 21 6⟩
        · rintro ρ' w14 ⟨s11, rfl, hag, H⟩
          obtain ⟨σ, rfl⟩ := ofL_ex hag
          refine Wsn rfl rfl rfl rfl ?_
          refine CW.ret ?_
          obtain rfl := sm hr
          exact ⟨_, res1 rfl rfl rfl, H.ext0, rfl⟩

end Go.Proofs.YtonnooljidombaaGreat

