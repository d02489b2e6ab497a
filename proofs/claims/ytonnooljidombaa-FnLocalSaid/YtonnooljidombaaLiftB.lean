/- What some functions of the program compute, as partial functions on plain data, and that they do; each lemma bears its conditions in its statement. -/
import Derived.Test.YtonnooljidombaaLiftA
set_option linter.unusedVariables false
set_option linter.unusedSimpArgs false
set_option linter.ambiguousOpen false
set_option linter.unusedSectionVars false
set_option linter.unnecessarySimpa false
set_option linter.unusedVariables false
set_option linter.unusedSimpArgs false
set_option maxRecDepth 100000
set_option maxHeartbeats 4000000
namespace Go.Proofs.Ytonnooljidombaa
open Go Go.E
open Go.E.Rep (rd)
open Go.E.Sep (own)
open Go.E.Sz (szd)
theorem sAttributeUses_ok {a0 : Expr} {r : (List Occurrence)} (hr : sAttributeUses_m a0 = some r) {F0 : Nat → Prop} {w0 : World} {ca0 : List Value} (ha0 : rd F0 w0 a0 ca0) :
    Ret Try.prog 25 #[.agg ca0.toArray] w0 (fun _ => False) fun v w => ∃ A0 : Option Addr, ∃ n0 c0 : Nat, v = (.slice A0 n0 c0) ∧ HL F0 [] w0 w [Pr.S r (.slice A0 n0 c0)] [] := by
  have H := (HL.start F0 w0).argR ha0
  obtain ⟨A1, n1, c1, rfl, hI1, hI2, hI3, hI4, hS1, hS2, H⟩ := op_Expr H (i := 0) rfl
  refine enter Try.func25 rfl rfl rfl ?_
  refine CW.seq (CW.reg ?_)
  refine WL.boxH rfl rfl rfl rfl rfl H fun b1 w1 H => ?_
  refine WL.ev rfl rfl (Ev.as rfl rfl) (WL.nil ?_)
  refine CW.seq (CW.reg ?_)
  refine WL.ev rfl rfl (Ev.lda rfl ag31 sz31 rfl (At.blk (H.rB (i := 0) rfl)) rfl) ?_
  refine WL.lit0H (α := Occurrence) rfl rfl rfl el33 sz48 H fun A2 n2 c2 w2 H => ?_
  have H := H.frzO (i := 1) rfl
  obtain ⟨y1, hy1, hr⟩ := bd hr
  obtain ⟨F, hF, hcl⟩ := H.call
  refine WL.call rfl rfl rfl rfl rfl ok92 rfl (sl4Uses_ok hy1 (Expr_rd.2 ⟨_, rfl, hI1, hI2, hI3, hI4, hS1, hS2, (hF.get (i := 1) rfl)⟩) (hF.get (i := 2) rfl)) ?_
  rintro _ w3 hE ⟨A3, n3, c3, rfl, H'⟩
  have H : HL F0 [] w0 w3 [Pr.R a0 [.int .i64 a0.Kind, .int .i64 a0.N, .int .i64 a0.Pos, .int .i64 a0.Type_, .string a0.Symbol, .string a0.Name, .slice A1 n1 c1], Pr.S a0.Args (.slice A1 n1 c1), Pr.S ([] : List Occurrence) (.slice A2 n2 c2), Pr.S y1 (.slice A3 n3 c3)] [It.B b1 31 [.int .i64 a0.Kind, .int .i64 a0.N, .int .i64 a0.Pos, .int .i64 a0.Type_, .string a0.Symbol, .string a0.Name, .slice A1 n1 c1], It.emp] := hcl H'
  refine WL.ev rfl rfl (Ev.as rfl rfl) (WL.nil ?_)
  refine CW.ret ?_
  obtain rfl := sm hr
  exact ⟨_, res1 rfl rfl rfl, H.ext0, _, _, _, rfl, H.outM (fr' := [Pr.S y1 (.slice A3 n3 c3)]) [false, false] fun _ h => ⟨h.get (i := 3) rfl, trivial⟩⟩

noncomputable def sDrawEvalLocal_L1 (y1 : l1Cur) : Nat → Occurrence → ((List Slot) × Int × Int) → Option ((List Slot) × Int × Int) := fun k1 x1 (s1, s2, s3) => 
  (sl1Below_m 9 (⟨y1.b, s2, s3⟩ : l1Cur)).bind fun (y5, z4) =>
  grd (((s1.length : Int) + 1) * 32 ≤ 140737488355328 ∧ (s1.length : Int) + 1 ≤ 9223372036854775807) <|
  some ((s1 ++ [(⟨x1, y5⟩ : Slot)]), z4.i, z4.h)
noncomputable def sDrawEvalLocal_m (a0 : (List UInt8)) : Option (Expr × (List Slot) × Int × (List Int)) :=
  (sl1New_m a0).bind fun y1 =>
  (sl4Bent_m y1).bind fun (y2, z1) =>
  (sl19Slots_m (⟨y1.b, z1.i, z1.h⟩ : l1Cur)).bind fun (y3, z2) =>
  (sAttributeUses_m y2).bind fun y4 =>
  (eachL (sDrawEvalLocal_L1 y1) 0 y4 (y3, z2.i, z2.h)).bind fun (s1, s2, s3) =>
  (
  (sl1Below_m 9 (⟨y1.b, s2, s3⟩ : l1Cur)).bind fun (y6, z5) =>
  (sl1Below_m 4 (⟨y1.b, z5.i, z5.h⟩ : l1Cur)).bind fun (y7, z6) =>
  grd (0 ≤ y7) <|
  grd (y7.toNat ≤ ([4, 5, 6] : List Int).length) <|
  some ((([4, 5, 6] : List Int).take y7.toNat), y6, z6.i, z6.h)
  ).bind fun (s4, s5, s6, s7) =>
  some (y2, s1, s5, s4)
theorem sDrawEvalLocal_ok {a0 : (List UInt8)} {r : (Expr × (List Slot) × Int × (List Int))} (hr : sDrawEvalLocal_m a0 = some r) {F0 : Nat → Prop} {w0 : World} {z0 : Value} (ha0 : rdS F0 w0 a0 z0) :
    Ret Try.prog 22 #[z0] w0 (fun _ => False) fun v w => ∃ A0 : Option Addr, ∃ n0 c0 : Nat, ∃ A1 : Option Addr, ∃ n1 c1 : Nat, ∃ A2 : Option Addr, ∃ n2 c2 : Nat, v = .tuple #[.agg #[.int .i64 r.1.Kind, .int .i64 r.1.N, .int .i64 r.1.Pos, .int .i64 r.1.Type_, .string r.1.Symbol, .string r.1.Name, (.slice A0 n0 c0)], (.slice A1 n1 c1), .int .i64 r.2.2.1, (.slice A2 n2 c2)] ∧ I64 r.1.Kind ∧ I64 r.1.N ∧ I64 r.1.Pos ∧ I64 r.1.Type_ ∧ r.1.Symbol.size ≤ 9223372036854775807 ∧ r.1.Name.size ≤ 9223372036854775807 ∧ I64 r.2.2.1 ∧ HL F0 [] w0 w [Pr.S r.1.Args (.slice A0 n0 c0)] [It.O 50 r.2.1 (.slice A1 n1 c1), It.O 3 r.2.2.2 (.slice A2 n2 c2)] := by
  obtain ⟨A0', n0', c0', rfl⟩ := ha0.form3
  have H := (HL.start F0 w0).argS ha0
  refine enter Try.func22 rfl rfl rfl ?_
  refine CW.seq (CW.reg ?_)
  refine WL.allocH rfl rfl rfl ze31 H fun b1 w1 H => ?_
  refine WL.ev rfl rfl (Ev.as rfl rfl) (WL.ev rfl rfl (Ev.as rfl rfl) (WL.ev rfl rfl (Ev.as rfl rfl) (WL.nil ?_)))
  refine CW.seq (CW.reg ?_)
  refine WL.ev rfl rfl (Ev.mv rfl rfl) ?_
  obtain ⟨y1, hy1, hr⟩ := bd hr
  obtain ⟨F, hF, hcl⟩ := H.call
  refine WL.call rfl rfl rfl rfl rfl ok83 rfl (sl1New_ok hy1 (hF.get (i := 0) rfl)) ?_
  rintro _ w2 hE ⟨b2, A1, n1, c1, rfl, hI1, hI2, H'⟩
  have H : HL F0 [] w0 w2 [Pr.S a0 (.slice A0' n0' c0'), Pr.S y1.b (.slice A1 n1 c1)] [It.B b1 31 [.int .i64 0, .int .i64 0, .int .i64 0, .int .i64 0, .string (⟨#[]⟩ : ByteArray), .string (⟨#[]⟩ : ByteArray), .slice none 0 0], It.B b2 159 [.slice A1 n1 c1, .int .i64 y1.i, .int .i64 y1.h]] := hcl H'
  refine WL.ev rfl rfl (Ev.as rfl rfl) (WL.nil ?_)
  refine CW.seq (CW.reg ?_)
  refine WL.ev rfl rfl (Ev.mv rfl rfl) ?_
  obtain ⟨⟨y2, z1⟩, hy2, hr⟩ := bd hr
  obtain ⟨F', M', hfF, hcM⟩ := H.callW [false, true] ⟨noB, trivial⟩
  obtain ⟨H', hcN⟩ := hcM (ps := [Pr.S y1.b (.slice A1 n1 c1)]) ⟨hfF.get (i := 1) rfl, trivial⟩
  refine WL.call rfl rfl rfl rfl rfl ok84 rfl (sl4Bent_ok hy2 hI1 hI2 H') ?_
  rintro _ w3 hE ⟨A2, n2, c2, rfl, hI3, hI4, hI5, hI6, hS1, hS2, hI7, hI8, H'⟩
  have H := hcN 1 H' rfl
  refine WL.allocH rfl rfl rfl ze31 H fun b3 w4 H => ?_
  refine WL.stB (i := 3) rfl rfl rfl sz31 rfl rfl rfl rfl (all1 rfl (all1 rfl (all1 rfl (all1 rfl (all1 rfl (all1 rfl (all1 rfl all0))))))) H rfl rfl rfl fun w5 H => ?_
  refine WL.nil ?_
  refine CW.seq (CW.reg ?_)
  refine WL.ev rfl rfl (Ev.mv rfl rfl) ?_
  obtain ⟨⟨y3, z2⟩, hy3, hr⟩ := bd hr
  obtain ⟨F', M', hfF, hoF, hcM⟩ := H.callN [false, true, false, false] ⟨noB, trivial⟩
  obtain ⟨H', hcN⟩ := hcM (ps := [Pr.S y1.b (.slice A1 n1 c1)]) ⟨hfF.get (i := 1) rfl, trivial⟩
  refine WL.call rfl rfl rfl rfl rfl ok85 rfl (sl19Slots_ok hy3 hI7 hI8 H') ?_
  rintro _ w6 hE ⟨A3, n3, c3, rfl, hI9, hI10, H'⟩
  have H := hcN 1 H' rfl ⟨fun _ _ _ _ _ h => h, ⟨fun _ _ _ _ _ h => h, trivial⟩⟩
  refine WL.ev rfl rfl (Ev.as rfl rfl) (WL.nil ?_)
  refine CW.seq (CW.reg ?_)
  refine WL.ev rfl rfl (Ev.lda rfl ag31 sz31 rfl (At.blk (H.rB (i := 3) rfl)) rfl) ?_
  have H := H.frzG (i := 2) rfl
  obtain ⟨y4, hy4, hr⟩ := bd hr
  obtain ⟨F, hF, hcl⟩ := H.call
  refine WL.call rfl rfl rfl rfl rfl ok25 rfl (sAttributeUses_ok hy4 (Expr_rd.2 ⟨_, rfl, hI3, hI4, hI5, hI6, hS1, hS2, (hF.get (i := 2) rfl)⟩)) ?_
  rintro _ w7 hE ⟨A4, n4, c4, rfl, H'⟩
  have H : HL F0 [] w0 w7 [Pr.S a0 (.slice A0' n0' c0'), Pr.S y1.b (.slice A1 n1 c1), Pr.S y2.Args (.slice A2 n2 c2), Pr.S y4 (.slice A4 n4 c4)] [It.B b1 31 [.int .i64 0, .int .i64 0, .int .i64 0, .int .i64 0, .string (⟨#[]⟩ : ByteArray), .string (⟨#[]⟩ : ByteArray), .slice none 0 0], It.B b2 159 [.slice A1 n1 c1, .int .i64 z2.i, .int .i64 z2.h], It.emp, It.B b3 31 [.int .i64 y2.Kind, .int .i64 y2.N, .int .i64 y2.Pos, .int .i64 y2.Type_, .string y2.Symbol, .string y2.Name, .slice A2 n2 c2], It.O 50 y3 (.slice A3 n3 c3)] := hcl H'
  refine WL.ev rfl rfl (Ev.as rfl rfl) (WL.nil ?_)
  refine CW.seq (CW.seq (CW.reg ?_))
  refine WL.ev rfl rfl (Ev.as rfl rfl) (WL.nil ?_)
  obtain ⟨q1, hq1, hr⟩ := bd hr
  refine CW.block (CW.loop (α := Nat × (List Slot) × Int × Int × Value) (fun ⟨k1, s1, s2, s3, v1⟩ => [(2, .pointer (some ⟨b1, 0, none⟩)), (6, .pointer (some ⟨b2, 0, none⟩)), (7, .pointer (some ⟨b3, 0, none⟩)), (8, v1), (9, .slice A4 n4 c4), (10, .int .i64 (k1 : Int))]) (fun ⟨k1, s1, s2, s3, v1⟩ w => k1 ≤ y4.length ∧ eachL (sDrawEvalLocal_L1 y1) k1 (y4.drop k1) (s1, s2, s3) = some q1 ∧ I64 s2 ∧ I64 s3 ∧ HL F0 [] w0 w [Pr.S a0 (.slice A0' n0' c0'), Pr.S y1.b (.slice A1 n1 c1), Pr.S y2.Args (.slice A2 n2 c2), Pr.S y4 (.slice A4 n4 c4)] [It.B b1 31 [.int .i64 0, .int .i64 0, .int .i64 0, .int .i64 0, .string (⟨#[]⟩ : ByteArray), .string (⟨#[]⟩ : ByteArray), .slice none 0 0], It.B b2 159 [.slice A1 n1 c1, .int .i64 s2, .int .i64 s3], It.emp, It.B b3 31 [.int .i64 y2.Kind, .int .i64 y2.N, .int .i64 y2.Pos, .int .i64 y2.Type_, .string y2.Symbol, .string y2.Name, .slice A2 n2 c2], It.O 50 s1 v1]) (fun ⟨k1, s1, s2, s3, v1⟩ => y4.length - k1) ⟨0, y3, z2.i, z2.h, (.slice A3 n3 c3)⟩ ⟨rfl, rfl, rfl, rfl, rfl, rfl, trivial⟩ ⟨Nat.zero_le _, hq1, hI9, hI10, H.keep 4 5⟩ ?_)
  rintro ⟨k1, s1, s2, s3, v1⟩ σ w8 ⟨hk1, hq1, hI11, hI12, H⟩
  obtain ⟨A5, n5, c5, rfl⟩ := (H.rO (i := 4) rfl).form3
  refine CW.seq (CW.seq (CW.reg ?_))
  refine WL.ev rfl rfl (Ev.mv rfl rfl) (WL.ev rfl rfl (Ev.mv rfl rfl) ?_)
  have hl1 := (H.rS (i := 3) rfl).I
  refine WL.ev rfl rfl (Ev.lenV rfl el33 rfl (H.rS (i := 3) rfl)) (WL.ev rfl rfl (Ev.bin rfl rfl rfl Bin.lss) (WL.nil ?_))
  refine CW.condD rfl (fun h1 => ?_) (fun h1 => ?_)
  · skip
    have hk2 := cast_lt h1
    obtain ⟨x1, z3, hx1, hb1, hq1⟩ := eachL_go hq1 hk2
    refine CW.skip ?_
    obtain ⟨b4, ob4, cb4, hvb4, hI13, hS3, H⟩ := ixS_Occurrence H (i := 3) rfl hx1
    refine CW.seq (CW.block (CW.held (fun w => ∃ v1_1_ : Value, ∃ v1_2_ : Value, ∃ o4_ : It, HL F0 [] w0 w [Pr.S a0 (.slice A0' n0' c0'), Pr.S y1.b (.slice A1 n1 c1), Pr.S y2.Args (.slice A2 n2 c2), Pr.S y4 (.slice A4 n4 c4), Pr.A b4 (ob4 + k1 * 2) [.int .i64 x1.Pos, .string x1.Name], Pr.R x1 [.int .i64 x1.Pos, .string x1.Name]] [It.B b1 31 [.int .i64 0, .int .i64 0, .int .i64 0, .int .i64 0, .string (⟨#[]⟩ : ByteArray), .string (⟨#[]⟩ : ByteArray), .slice none 0 0], It.B b2 159 [.slice A1 n1 c1, v1_1_, v1_2_], It.emp, It.B b3 31 [.int .i64 y2.Kind, .int .i64 y2.N, .int .i64 y2.Pos, .int .i64 y2.Type_, .string y2.Symbol, .string y2.Name, .slice A2 n2 c2], o4_]) hmix (fun w9 hE => ?_)))
    have H : HL F0 [] w0 w9 [Pr.S a0 (.slice A0' n0' c0'), Pr.S y1.b (.slice A1 n1 c1), Pr.S y2.Args (.slice A2 n2 c2), Pr.S y4 (.slice A4 n4 c4), Pr.A b4 (ob4 + k1 * 2) [.int .i64 x1.Pos, .string x1.Name], Pr.R x1 [.int .i64 x1.Pos, .string x1.Name]] [It.B b1 31 [.int .i64 0, .int .i64 0, .int .i64 0, .int .i64 0, .string (⟨#[]⟩ : ByteArray), .string (⟨#[]⟩ : ByteArray), .slice none 0 0], It.B b2 159 [.slice A1 n1 c1, .int .i64 s2, .int .i64 s3], It.emp, It.B b3 31 [.int .i64 y2.Kind, .int .i64 y2.N, .int .i64 y2.Pos, .int .i64 y2.Type_, .string y2.Symbol, .string y2.Name, .slice A2 n2 c2], It.O 50 s1 (.slice A5 n5 c5)] := H.ext hE
    refine HW.take 0 ⟨_, _, _, H.keep 6 5⟩ rfl (by kernel_rfl) rfl rfl (fun _ _ => Ev.mv rfl rfl) ?_
    refine HW.take 1 ⟨_, _, _, H.keep 6 5⟩ rfl (by kernel_rfl) rfl rfl (fun _ _ => Ev.mv rfl rfl) ?_
    refine HW.take 2 ⟨_, _, _, H.keep 6 5⟩ rfl (by kernel_rfl) rfl rfl (fun _ _ => Ev.mv rfl rfl) ?_
    refine HW.take 3 ⟨_, _, _, H.keep 6 5⟩ rfl (by kernel_rfl) rfl rfl (fun _ _ => Ev.ixVN rfl el33 sz48 rfl hvb4 rfl (lt_of hx1)) ?_
    refine HW.take 4 ⟨_, _, _, H.keep 6 5⟩ rfl (by kernel_rfl) rfl rfl (fun _ ⟨_, _, _, hq⟩ => Ev.lda rfl ag48 sz48 rfl (hq.rA (i := 4) rfl) rfl) ?_
    refine HW.take 5 ⟨_, _, _, H.keep 6 5⟩ rfl (by kernel_rfl) rfl rfl (fun _ _ => Ev.mv rfl rfl) ?_
    refine HW.eff 6 rfl (by kernel_rfl) ?_
    obtain ⟨⟨y5, z4⟩, hy5, hb1⟩ := bd hb1
    obtain ⟨F', M', hfF, hoF, hcM⟩ := H.callN [false, true, false, false, false] ⟨noB, trivial⟩
    obtain ⟨H', hcN⟩ := hcM (ps := [Pr.S y1.b (.slice A1 n1 c1)]) ⟨hfF.get (i := 1) rfl, trivial⟩
    refine WL.call rfl rfl rfl rfl rfl ok86 rfl (sl1Below_ok hy5 (by decide : I64 9) hI11 hI12 H') ?_
    rintro _ w10 hE ⟨rfl, hI14, hI15, hI16, H'⟩
    have H := hcN 1 H' rfl ⟨fun _ _ _ _ _ h => h, trivial⟩
    refine HW.next ⟨_, _, _, H.keep 6 5⟩ ?_
    refine HW.take 7 ⟨_, _, _, H.keep 6 5⟩ rfl (by kernel_rfl) rfl rfl (fun _ _ => Ev.build rfl pl50 ze50 rfl rfl rfl rfl) ?_
    refine HW.eff 8 rfl (by kernel_rfl) ?_
    refine WL.lit1 rfl rfl rfl el40 sz50 ze50 rfl rfl rfl rfl rfl rfl fun b5 w11 hE hb hB => ?_
    have H := H.newB hE hb hB
    refine HW.next ⟨_, _, _, H.keep 6 5⟩ ?_
    refine HW.eff 9 rfl (by kernel_rfl) ?_
    obtain ⟨hg1, hb1⟩ := grd_some hb1
    refine WL.appO (i := 4) (ys := [(⟨x1, y5⟩ : Slot)]) rfl rfl rfl el40 sz50 by50 ze50 rfl rfl rfl H rfl (fun _ => ownL.single ⟨rfl, hI13, hS3, hI14, rfl⟩) (.inr ⟨_, _, rfl, At.blk (H.rB (i := 5) rfl)⟩) hg1 fun A6 n6 c6 w12 H => ?_
    refine HW.next ⟨_, _, _, H.keep 6 5⟩ ?_
    refine HW.take 10 ⟨_, _, _, H.keep 6 5⟩ rfl (by kernel_rfl) rfl rfl (fun _ _ => Ev.as rfl rfl) ?_
    refine HW.done (by kernel_rfl) ?_
    refine CW.reg ?_
    refine WL.ev rfl rfl (Ev.mv rfl rfl) (WL.ev rfl rfl (Ev.bin rfl rfl rfl (Bin.addN (a := k1) (b := 1) rfl (i64_succN hk2 hl1.2))) (WL.ev rfl rfl (Ev.as rfl rfl) (WL.nil ?_)))
    obtain rfl := sm hb1
    exact ⟨⟨k1 + 1, (s1 ++ [(⟨x1, y5⟩ : Slot)]), z4.i, z4.h, (.slice A6 n6 c6)⟩, ⟨rfl, rfl, rfl, rfl, rfl, rfl, trivial⟩, ⟨hk2, hq1, hI15, hI16, H.keep 4 5⟩, Nat.sub_lt_sub_left hk2 (Nat.lt_succ_self _)⟩
  · skip
    obtain rfl := eachL_end hq1 (not_cast_lt h1)
    refine CW.exit ?_
    obtain ⟨q2, hm1, hr⟩ := bd hr
    refine CW.seq (CW.mid (fun ρ' w => ∃ (s4 : List Int) (s5 : Int) (s6 : Int) (s7 : Int) (v2 : Value), q2 = (s4, s5, s6, s7) ∧ agree ρ' [(2, .pointer (some ⟨b1, 0, none⟩)), (3, .slice A5 n5 c5), (4, .int .i64 s5), (5, v2)] ∧ I64 s5 ∧ I64 s6 ∧ I64 s7 ∧ HL F0 [] w0 w [Pr.S a0 (.slice A0' n0' c0'), Pr.S y1.b (.slice A1 n1 c1), Pr.S y2.Args (.slice A2 n2 c2), Pr.S y4 (.slice A4 n4 c4)] [It.B b1 31 [.int .i64 y2.Kind, .int .i64 y2.N, .int .i64 y2.Pos, .int .i64 y2.Type_, .string y2.Symbol, .string y2.Name, .slice A2 n2 c2], It.B b2 159 [.slice A1 n1 c1, .int .i64 s6, .int .i64 s7], It.emp, It.B b3 31 [.int .i64 y2.Kind, .int .i64 y2.N, .int .i64 y2.Pos, .int .i64 y2.Type_, .string y2.Symbol, .string y2.Name, .slice A2 n2 c2], It.O 50 s1 (.slice A5 n5 c5), It.O 3 s4 v2]) ?_ ?_)
    · skip
      refine CW.held (fun w => ∃ v0_0_ : Value, ∃ v0_1_ : Value, ∃ v0_2_ : Value, ∃ v0_3_ : Value, ∃ v0_4_ : Value, ∃ v0_5_ : Value, ∃ v0_6_ : Value, ∃ v1_1_ : Value, ∃ v1_2_ : Value, HL F0 [] w0 w [Pr.S a0 (.slice A0' n0' c0'), Pr.S y1.b (.slice A1 n1 c1), Pr.S y2.Args (.slice A2 n2 c2), Pr.S y4 (.slice A4 n4 c4)] [It.B b1 31 [v0_0_, v0_1_, v0_2_, v0_3_, v0_4_, v0_5_, v0_6_], It.B b2 159 [.slice A1 n1 c1, v1_1_, v1_2_], It.emp, It.B b3 31 [.int .i64 y2.Kind, .int .i64 y2.N, .int .i64 y2.Pos, .int .i64 y2.Type_, .string y2.Symbol, .string y2.Name, .slice A2 n2 c2], It.O 50 s1 (.slice A5 n5 c5)]) hmix (fun w13 hE => ?_)
      have H : HL F0 [] w0 w13 [Pr.S a0 (.slice A0' n0' c0'), Pr.S y1.b (.slice A1 n1 c1), Pr.S y2.Args (.slice A2 n2 c2), Pr.S y4 (.slice A4 n4 c4)] [It.B b1 31 [.int .i64 0, .int .i64 0, .int .i64 0, .int .i64 0, .string (⟨#[]⟩ : ByteArray), .string (⟨#[]⟩ : ByteArray), .slice none 0 0], It.B b2 159 [.slice A1 n1 c1, .int .i64 s2, .int .i64 s3], It.emp, It.B b3 31 [.int .i64 y2.Kind, .int .i64 y2.N, .int .i64 y2.Pos, .int .i64 y2.Type_, .string y2.Symbol, .string y2.Name, .slice A2 n2 c2], It.O 50 s1 (.slice A5 n5 c5)] := H.ext hE
      refine HW.take 0 ⟨_, _, _, _, _, _, _, _, _, H.keep 4 5⟩ rfl (by kernel_rfl) rfl rfl (fun _ ⟨_, _, _, _, _, _, _, _, _, hq⟩ => Ev.lda rfl ag31 sz31 rfl (At.blk (hq.rB (i := 3) rfl)) rfl) ?_
      refine HW.take 1 ⟨_, _, _, _, _, _, _, _, _, H.keep 4 5⟩ rfl (by kernel_rfl) rfl rfl (fun _ _ => Ev.mv rfl rfl) ?_
      refine HW.take 2 ⟨_, _, _, _, _, _, _, _, _, H.keep 4 5⟩ rfl (by kernel_rfl) rfl rfl (fun _ _ => Ev.mv rfl rfl) ?_
      refine HW.take 5 ⟨_, _, _, _, _, _, _, _, _, H.keep 4 5⟩ rfl (by kernel_rfl) rfl rfl (fun _ _ => Ev.mv rfl rfl) ?_
      refine HW.some [3, 4] (by kernel_rfl) rfl ⟨HW.do1 rfl ?_, HW.do1 rfl ?_, trivial⟩
      · skip
        obtain ⟨⟨y6, z5⟩, hy6, hm1⟩ := bd hm1
        obtain ⟨F', M', hfF, hoF, hcM⟩ := H.callN [false, true, false, false, false] ⟨noB, trivial⟩
        obtain ⟨H', hcN⟩ := hcM (ps := [Pr.S y1.b (.slice A1 n1 c1)]) ⟨hfF.get (i := 1) rfl, trivial⟩
        refine WL.call rfl rfl rfl rfl rfl ok86 rfl (sl1Below_ok hy6 (by decide : I64 9) hI11 hI12 H') ?_
        rintro _ w14 hE ⟨rfl, hI20, hI21, hI22, H'⟩
        have H := hcN 1 H' rfl ⟨fun _ _ _ _ _ h => h, trivial⟩
        refine HW.next ⟨_, _, _, _, _, _, _, _, _, H.keep 4 5⟩ ?_
        refine HW.some [4, 6] (by kernel_rfl) rfl ⟨HW.do1 rfl ?_, HW.do1 rfl ?_, trivial⟩
        · skip
          refine WL.litN (xs := ([4, 5, 6] : List Int)) rfl rfl rfl el41 sz3 ze3 rfl (ball1 rfl (ball1 rfl (ball1 rfl ball0))) rfl rfl rfl (fun _ => (ownL.cons1 (α := Int) ⟨rfl, rfl, (by decide : I64 4)⟩ (ownL.cons1 (α := Int) ⟨rfl, rfl, (by decide : I64 5)⟩ (ownL.cons1 (α := Int) ⟨rfl, rfl, (by decide : I64 6)⟩ ⟨rfl, rfl⟩)))) rfl H fun A7 n7 c7 w15 H => ?_
          refine HW.next ⟨_, _, _, _, _, _, _, _, _, H.keep 4 5⟩ ?_
          refine HW.eff 6 rfl (by kernel_rfl) ?_
          obtain ⟨⟨y7, z6⟩, hy7, hm1⟩ := bd hm1
          obtain ⟨F', M', hfF, hoF, hcM⟩ := H.callN [false, true, false, false, false, false] ⟨noB, trivial⟩
          obtain ⟨H', hcN⟩ := hcM (ps := [Pr.S y1.b (.slice A1 n1 c1)]) ⟨hfF.get (i := 1) rfl, trivial⟩
          refine WL.call rfl rfl rfl rfl rfl ok86 rfl (sl1Below_ok hy7 (by decide : I64 4) hI21 hI22 H') ?_
          rintro _ w16 hE ⟨rfl, hI23, hI24, hI25, H'⟩
          have H := hcN 1 H' rfl ⟨fun _ _ _ _ _ h => h, trivial⟩
          refine HW.next ⟨_, _, _, _, _, _, _, _, _, H.keep 4 5⟩ ?_
          refine HW.some [7, 8] (by kernel_rfl) rfl ⟨HW.do1 rfl ?_, HW.do1 rfl ?_, trivial⟩
          · skip
            obtain ⟨hg2, hm1⟩ := grd_some hm1
            obtain ⟨hg3, hm1⟩ := grd_some hm1
            obtain ⟨A8, n8, c8, e1, hc1, H⟩ := H.cutO (i := 5) rfl hg3
            refine WL.ev rfl rfl (Ev.slHV rfl el41 sz3 rfl rfl ((Int.toNat_of_nonneg hg2).symm) hc1 e1) ?_
            refine HW.next ⟨_, _, _, _, _, _, _, _, _, H.keep 4 5⟩ ?_
            refine HW.eff 8 rfl (by kernel_rfl) ?_
            refine WL.stB (i := 0) rfl rfl rfl sz31 rfl rfl rfl rfl (all1 rfl (all1 rfl (all1 rfl (all1 rfl (all1 rfl (all1 rfl (all1 rfl all0))))))) H rfl rfl rfl fun w17 H => ?_
            refine HW.next ⟨_, _, _, _, _, _, _, _, _, H.keep 4 5⟩ ?_
            refine HW.take 9 ⟨_, _, _, _, _, _, _, _, _, H.keep 4 5⟩ rfl (by kernel_rfl) rfl rfl (fun _ _ => Ev.as rfl rfl) ?_
            refine HW.take 10 ⟨_, _, _, _, _, _, _, _, _, H.keep 4 5⟩ rfl (by kernel_rfl) rfl rfl (fun _ _ => Ev.as rfl rfl) ?_
            refine HW.take 11 ⟨_, _, _, _, _, _, _, _, _, H.keep 4 5⟩ rfl (by kernel_rfl) rfl rfl (fun _ _ => Ev.as rfl rfl) ?_
            refine HW.done (by kernel_rfl) ?_
            obtain rfl := sm hm1
            exact ⟨(([4, 5, 6] : List Int).take y7.toNat), y6, z6.i, z6.h, _, rfl, ⟨rfl, rfl, rfl, rfl, trivial⟩, hI20, hI24, hI25, H.keep 4 6⟩
          · skip
            obtain ⟨hg2, hm1⟩ := grd_some hm1
            obtain ⟨hg3, hm1⟩ := grd_some hm1
            refine WL.stB (i := 0) rfl rfl rfl sz31 rfl rfl rfl rfl (all1 rfl (all1 rfl (all1 rfl (all1 rfl (all1 rfl (all1 rfl (all1 rfl all0))))))) H rfl rfl rfl fun w17 H => ?_
            refine HW.next ⟨_, _, _, _, _, _, _, _, _, H.keep 4 5⟩ ?_
            refine HW.take 9 ⟨_, _, _, _, _, _, _, _, _, H.keep 4 5⟩ rfl (by kernel_rfl) rfl rfl (fun _ _ => Ev.as rfl rfl) ?_
            refine HW.take 10 ⟨_, _, _, _, _, _, _, _, _, H.keep 4 5⟩ rfl (by kernel_rfl) rfl rfl (fun _ _ => Ev.as rfl rfl) ?_
            refine HW.eff 7 rfl (by kernel_rfl) ?_
            obtain ⟨A8, n8, c8, e1, hc1, H⟩ := H.cutO (i := 5) rfl hg3
            refine WL.ev rfl rfl (Ev.slHV rfl el41 sz3 rfl rfl ((Int.toNat_of_nonneg hg2).symm) hc1 e1) ?_
            refine HW.next ⟨_, _, _, _, _, _, _, _, _, H.keep 4 5⟩ ?_
            refine HW.take 11 ⟨_, _, _, _, _, _, _, _, _, H.keep 4 5⟩ rfl (by kernel_rfl) rfl rfl (fun _ _ => Ev.as rfl rfl) ?_
            refine HW.done (by kernel_rfl) ?_
            obtain rfl := sm hm1
            exact ⟨(([4, 5, 6] : List Int).take y7.toNat), y6, z6.i, z6.h, _, rfl, ⟨rfl, rfl, rfl, rfl, trivial⟩, hI20, hI24, hI25, H.keep 4 6⟩
        · skip
          obtain ⟨⟨y7, z6⟩, hy7, hm1⟩ := bd hm1
          obtain ⟨hg2, hm1⟩ := grd_some hm1
          obtain ⟨hg3, hm1⟩ := grd_some hm1
          obtain ⟨F', M', hfF, hoF, hcM⟩ := H.callN [false, true, false, false, false] ⟨noB, trivial⟩
          obtain ⟨H', hcN⟩ := hcM (ps := [Pr.S y1.b (.slice A1 n1 c1)]) ⟨hfF.get (i := 1) rfl, trivial⟩
          refine WL.call rfl rfl rfl rfl rfl ok86 rfl (sl1Below_ok hy7 (by decide : I64 4) hI21 hI22 H') ?_
          rintro _ w16 hE ⟨rfl, hI23, hI24, hI25, H'⟩
          have H := hcN 1 H' rfl ⟨fun _ _ _ _ _ h => h, trivial⟩
          refine HW.next ⟨_, _, _, _, _, _, _, _, _, H.keep 4 5⟩ ?_
          refine HW.some [4, 8] (by kernel_rfl) rfl ⟨HW.do1 rfl ?_, HW.do1 rfl ?_, trivial⟩
          · skip
            refine WL.litN (xs := ([4, 5, 6] : List Int)) rfl rfl rfl el41 sz3 ze3 rfl (ball1 rfl (ball1 rfl (ball1 rfl ball0))) rfl rfl rfl (fun _ => (ownL.cons1 (α := Int) ⟨rfl, rfl, (by decide : I64 4)⟩ (ownL.cons1 (α := Int) ⟨rfl, rfl, (by decide : I64 5)⟩ (ownL.cons1 (α := Int) ⟨rfl, rfl, (by decide : I64 6)⟩ ⟨rfl, rfl⟩)))) rfl H fun A7 n7 c7 w15 H => ?_
            refine HW.next ⟨_, _, _, _, _, _, _, _, _, H.keep 4 5⟩ ?_
            refine HW.some [7, 8] (by kernel_rfl) rfl ⟨HW.do1 rfl ?_, HW.do1 rfl ?_, trivial⟩
            · skip
              obtain ⟨A8, n8, c8, e1, hc1, H⟩ := H.cutO (i := 5) rfl hg3
              refine WL.ev rfl rfl (Ev.slHV rfl el41 sz3 rfl rfl ((Int.toNat_of_nonneg hg2).symm) hc1 e1) ?_
              refine HW.next ⟨_, _, _, _, _, _, _, _, _, H.keep 4 5⟩ ?_
              refine HW.eff 8 rfl (by kernel_rfl) ?_
              refine WL.stB (i := 0) rfl rfl rfl sz31 rfl rfl rfl rfl (all1 rfl (all1 rfl (all1 rfl (all1 rfl (all1 rfl (all1 rfl (all1 rfl all0))))))) H rfl rfl rfl fun w17 H => ?_
              refine HW.next ⟨_, _, _, _, _, _, _, _, _, H.keep 4 5⟩ ?_
              refine HW.take 9 ⟨_, _, _, _, _, _, _, _, _, H.keep 4 5⟩ rfl (by kernel_rfl) rfl rfl (fun _ _ => Ev.as rfl rfl) ?_
              refine HW.take 10 ⟨_, _, _, _, _, _, _, _, _, H.keep 4 5⟩ rfl (by kernel_rfl) rfl rfl (fun _ _ => Ev.as rfl rfl) ?_
              refine HW.take 11 ⟨_, _, _, _, _, _, _, _, _, H.keep 4 5⟩ rfl (by kernel_rfl) rfl rfl (fun _ _ => Ev.as rfl rfl) ?_
              refine HW.done (by kernel_rfl) ?_
              obtain rfl := sm hm1
              exact ⟨(([4, 5, 6] : List Int).take y7.toNat), y6, z6.i, z6.h, _, rfl, ⟨rfl, rfl, rfl, rfl, trivial⟩, hI20, hI24, hI25, H.keep 4 6⟩
            · skip
              refine WL.stB (i := 0) rfl rfl rfl sz31 rfl rfl rfl rfl (all1 rfl (all1 rfl (all1 rfl (all1 rfl (all1 rfl (all1 rfl (all1 rfl all0))))))) H rfl rfl rfl fun w17 H => ?_
              refine HW.next ⟨_, _, _, _, _, _, _, _, _, H.keep 4 5⟩ ?_
              refine HW.take 9 ⟨_, _, _, _, _, _, _, _, _, H.keep 4 5⟩ rfl (by kernel_rfl) rfl rfl (fun _ _ => Ev.as rfl rfl) ?_
              refine HW.take 10 ⟨_, _, _, _, _, _, _, _, _, H.keep 4 5⟩ rfl (by kernel_rfl) rfl rfl (fun _ _ => Ev.as rfl rfl) ?_
              refine HW.eff 7 rfl (by kernel_rfl) ?_
              obtain ⟨A8, n8, c8, e1, hc1, H⟩ := H.cutO (i := 5) rfl hg3
              refine WL.ev rfl rfl (Ev.slHV rfl el41 sz3 rfl rfl ((Int.toNat_of_nonneg hg2).symm) hc1 e1) ?_
              refine HW.next ⟨_, _, _, _, _, _, _, _, _, H.keep 4 5⟩ ?_
              refine HW.take 11 ⟨_, _, _, _, _, _, _, _, _, H.keep 4 5⟩ rfl (by kernel_rfl) rfl rfl (fun _ _ => Ev.as rfl rfl) ?_
              refine HW.done (by kernel_rfl) ?_
              obtain rfl := sm hm1
              exact ⟨(([4, 5, 6] : List Int).take y7.toNat), y6, z6.i, z6.h, _, rfl, ⟨rfl, rfl, rfl, rfl, trivial⟩, hI20, hI24, hI25, H.keep 4 6⟩
          · skip
            refine WL.stB (i := 0) rfl rfl rfl sz31 rfl rfl rfl rfl (all1 rfl (all1 rfl (all1 rfl (all1 rfl (all1 rfl (all1 rfl (all1 rfl all0))))))) H rfl rfl rfl fun w17 H => ?_
            refine HW.next ⟨_, _, _, _, _, _, _, _, _, H.keep 4 5⟩ ?_
            refine HW.take 9 ⟨_, _, _, _, _, _, _, _, _, H.keep 4 5⟩ rfl (by kernel_rfl) rfl rfl (fun _ _ => Ev.as rfl rfl) ?_
            refine HW.take 10 ⟨_, _, _, _, _, _, _, _, _, H.keep 4 5⟩ rfl (by kernel_rfl) rfl rfl (fun _ _ => Ev.as rfl rfl) ?_
            refine HW.eff 4 rfl (by kernel_rfl) ?_
            refine WL.litN (xs := ([4, 5, 6] : List Int)) rfl rfl rfl el41 sz3 ze3 rfl (ball1 rfl (ball1 rfl (ball1 rfl ball0))) rfl rfl rfl (fun _ => (ownL.cons1 (α := Int) ⟨rfl, rfl, (by decide : I64 4)⟩ (ownL.cons1 (α := Int) ⟨rfl, rfl, (by decide : I64 5)⟩ (ownL.cons1 (α := Int) ⟨rfl, rfl, (by decide : I64 6)⟩ ⟨rfl, rfl⟩)))) rfl H fun A7 n7 c7 w15 H => ?_
            refine HW.next ⟨_, _, _, _, _, _, _, _, _, H.keep 4 5⟩ ?_
            refine HW.eff 7 rfl (by kernel_rfl) ?_
            obtain ⟨A8, n8, c8, e1, hc1, H⟩ := H.cutO (i := 5) rfl hg3
            refine WL.ev rfl rfl (Ev.slHV rfl el41 sz3 rfl rfl ((Int.toNat_of_nonneg hg2).symm) hc1 e1) ?_
            refine HW.next ⟨_, _, _, _, _, _, _, _, _, H.keep 4 5⟩ ?_
            refine HW.take 11 ⟨_, _, _, _, _, _, _, _, _, H.keep 4 5⟩ rfl (by kernel_rfl) rfl rfl (fun _ _ => Ev.as rfl rfl) ?_
            refine HW.done (by kernel_rfl) ?_
            obtain rfl := sm hm1
            exact ⟨(([4, 5, 6] : List Int).take y7.toNat), y6, z6.i, z6.h, _, rfl, ⟨rfl, rfl, rfl, rfl, trivial⟩, hI20, hI24, hI25, H.keep 4 6⟩
      · skip
        obtain ⟨⟨y6, z5⟩, hy6, hm1⟩ := bd hm1
        obtain ⟨⟨y7, z6⟩, hy7, hm1⟩ := bd hm1
        obtain ⟨hg2, hm1⟩ := grd_some hm1
        obtain ⟨hg3, hm1⟩ := grd_some hm1
        refine WL.litN (xs := ([4, 5, 6] : List Int)) rfl rfl rfl el41 sz3 ze3 rfl (ball1 rfl (ball1 rfl (ball1 rfl ball0))) rfl rfl rfl (fun _ => (ownL.cons1 (α := Int) ⟨rfl, rfl, (by decide : I64 4)⟩ (ownL.cons1 (α := Int) ⟨rfl, rfl, (by decide : I64 5)⟩ (ownL.cons1 (α := Int) ⟨rfl, rfl, (by decide : I64 6)⟩ ⟨rfl, rfl⟩)))) rfl H fun A7 n7 c7 w15 H => ?_
        refine HW.next ⟨_, _, _, _, _, _, _, _, _, H.keep 4 5⟩ ?_
        refine HW.eff 3 rfl (by kernel_rfl) ?_
        obtain ⟨F', M', hfF, hoF, hcM⟩ := H.callN [false, true, false, false, false, false] ⟨noB, trivial⟩
        obtain ⟨H', hcN⟩ := hcM (ps := [Pr.S y1.b (.slice A1 n1 c1)]) ⟨hfF.get (i := 1) rfl, trivial⟩
        refine WL.call rfl rfl rfl rfl rfl ok86 rfl (sl1Below_ok hy6 (by decide : I64 9) hI11 hI12 H') ?_
        rintro _ w14 hE ⟨rfl, hI20, hI21, hI22, H'⟩
        have H := hcN 1 H' rfl ⟨fun _ _ _ _ _ h => h, trivial⟩
        refine HW.next ⟨_, _, _, _, _, _, _, _, _, H.keep 4 5⟩ ?_
        refine HW.eff 6 rfl (by kernel_rfl) ?_
        obtain ⟨F', M', hfF, hoF, hcM⟩ := H.callN [false, true, false, false, false, false] ⟨noB, trivial⟩
        obtain ⟨H', hcN⟩ := hcM (ps := [Pr.S y1.b (.slice A1 n1 c1)]) ⟨hfF.get (i := 1) rfl, trivial⟩
        refine WL.call rfl rfl rfl rfl rfl ok86 rfl (sl1Below_ok hy7 (by decide : I64 4) hI21 hI22 H') ?_
        rintro _ w16 hE ⟨rfl, hI23, hI24, hI25, H'⟩
        have H := hcN 1 H' rfl ⟨fun _ _ _ _ _ h => h, trivial⟩
        refine HW.next ⟨_, _, _, _, _, _, _, _, _, H.keep 4 5⟩ ?_
        refine HW.some [7, 8] (by kernel_rfl) rfl ⟨HW.do1 rfl ?_, HW.do1 rfl ?_, trivial⟩
        · skip
          obtain ⟨A8, n8, c8, e1, hc1, H⟩ := H.cutO (i := 5) rfl hg3
          refine WL.ev rfl rfl (Ev.slHV rfl el41 sz3 rfl rfl ((Int.toNat_of_nonneg hg2).symm) hc1 e1) ?_
          refine HW.next ⟨_, _, _, _, _, _, _, _, _, H.keep 4 5⟩ ?_
          refine HW.eff 8 rfl (by kernel_rfl) ?_
          refine WL.stB (i := 0) rfl rfl rfl sz31 rfl rfl rfl rfl (all1 rfl (all1 rfl (all1 rfl (all1 rfl (all1 rfl (all1 rfl (all1 rfl all0))))))) H rfl rfl rfl fun w17 H => ?_
          refine HW.next ⟨_, _, _, _, _, _, _, _, _, H.keep 4 5⟩ ?_
          refine HW.take 9 ⟨_, _, _, _, _, _, _, _, _, H.keep 4 5⟩ rfl (by kernel_rfl) rfl rfl (fun _ _ => Ev.as rfl rfl) ?_
          refine HW.take 10 ⟨_, _, _, _, _, _, _, _, _, H.keep 4 5⟩ rfl (by kernel_rfl) rfl rfl (fun _ _ => Ev.as rfl rfl) ?_
          refine HW.take 11 ⟨_, _, _, _, _, _, _, _, _, H.keep 4 5⟩ rfl (by kernel_rfl) rfl rfl (fun _ _ => Ev.as rfl rfl) ?_
          refine HW.done (by kernel_rfl) ?_
          obtain rfl := sm hm1
          exact ⟨(([4, 5, 6] : List Int).take y7.toNat), y6, z6.i, z6.h, _, rfl, ⟨rfl, rfl, rfl, rfl, trivial⟩, hI20, hI24, hI25, H.keep 4 6⟩
        · skip
          refine WL.stB (i := 0) rfl rfl rfl sz31 rfl rfl rfl rfl (all1 rfl (all1 rfl (all1 rfl (all1 rfl (all1 rfl (all1 rfl (all1 rfl all0))))))) H rfl rfl rfl fun w17 H => ?_
          refine HW.next ⟨_, _, _, _, _, _, _, _, _, H.keep 4 5⟩ ?_
          refine HW.take 9 ⟨_, _, _, _, _, _, _, _, _, H.keep 4 5⟩ rfl (by kernel_rfl) rfl rfl (fun _ _ => Ev.as rfl rfl) ?_
          refine HW.take 10 ⟨_, _, _, _, _, _, _, _, _, H.keep 4 5⟩ rfl (by kernel_rfl) rfl rfl (fun _ _ => Ev.as rfl rfl) ?_
          refine HW.eff 7 rfl (by kernel_rfl) ?_
          obtain ⟨A8, n8, c8, e1, hc1, H⟩ := H.cutO (i := 5) rfl hg3
          refine WL.ev rfl rfl (Ev.slHV rfl el41 sz3 rfl rfl ((Int.toNat_of_nonneg hg2).symm) hc1 e1) ?_
          refine HW.next ⟨_, _, _, _, _, _, _, _, _, H.keep 4 5⟩ ?_
          refine HW.take 11 ⟨_, _, _, _, _, _, _, _, _, H.keep 4 5⟩ rfl (by kernel_rfl) rfl rfl (fun _ _ => Ev.as rfl rfl) ?_
          refine HW.done (by kernel_rfl) ?_
          obtain rfl := sm hm1
          exact ⟨(([4, 5, 6] : List Int).take y7.toNat), y6, z6.i, z6.h, _, rfl, ⟨rfl, rfl, rfl, rfl, trivial⟩, hI20, hI24, hI25, H.keep 4 6⟩
    · rintro ρ' w18 ⟨s4, s5, s6, s7, v2, rfl, hag, hI17, hI18, hI19, H⟩
      obtain ⟨σ, rfl⟩ := ofL_ex hag
      obtain ⟨A9, n9, c9, rfl⟩ := (H.rO (i := 5) rfl).form3
      refine CW.ret ?_
      obtain rfl := sm hr
      exact ⟨_, res_cttt rfl ag31 sz31 rfl rfl (At.blk (H.rB (i := 0) rfl)) rfl rfl rfl rfl rfl rfl rfl, H.ext0, _, _, _, _, _, _, _, _, _, rfl, hI3, hI4, hI5, hI6, hS1, hS2, hI17, H.outM (fr' := [Pr.S y2.Args (.slice A2 n2 c2)]) [false, false, false, false, true, true] fun _ h => ⟨h.get (i := 2) rfl, trivial⟩⟩

noncomputable def iCountExpr_L1 (rec_iCountExpr : Expr → Option Int) : Nat → Expr → Int → Option Int := fun k1 x1 s1 => 
  (rec_iCountExpr x1).bind fun y1 =>
  grd (I64 (s1 + y1)) <|
  some (s1 + y1)
noncomputable def iCountExpr_B (rec_iCountExpr : Expr → Option Int) (a0 : Expr) : Option Int :=
  (eachL (iCountExpr_L1 rec_iCountExpr) 0 a0.Args 1).bind fun s1 =>
  some s1
theorem iCountExpr_okB {rec_iCountExpr : Expr → Option Int} (ih_iCountExpr : ∀ {a0 : Expr} {r : Int}, rec_iCountExpr a0 = some r → ∀ {F0 : Nat → Prop} {w0 : World} {ca0 : List Value} (ha0 : rd F0 w0 a0 ca0), Ret Try.prog 148 #[.agg ca0.toArray] w0 (fun _ => False) fun v w => v = .int .i64 r ∧ I64 r) {a0 : Expr} {r : Int} (hr : iCountExpr_B rec_iCountExpr a0 = some r) {F0 : Nat → Prop} {w0 : World} {ca0 : List Value} (ha0 : rd F0 w0 a0 ca0) :
    Ret Try.prog 148 #[.agg ca0.toArray] w0 (fun _ => False) fun v w => v = .int .i64 r ∧ I64 r := by
  have H := (HL.start F0 w0).argR ha0
  obtain ⟨A1, n1, c1, rfl, hI1, hI2, hI3, hI4, hS1, hS2, H⟩ := op_Expr H (i := 0) rfl
  refine enter Try.func148 rfl rfl rfl ?_
  refine CW.seq (CW.reg ?_)
  refine WL.boxH rfl rfl rfl rfl rfl H fun b1 w1 H => ?_
  refine WL.ev rfl rfl (Ev.as rfl rfl) (WL.nil ?_)
  refine CW.seq (CW.reg ?_)
  refine WL.ev rfl rfl (Ev.as rfl rfl) (WL.nil ?_)
  refine CW.seq (CW.seq (CW.reg ?_))
  refine WL.ev rfl rfl (Ev.fa rfl fo31_6 rfl) (WL.ev rfl rfl (Ev.ld rfl ag29 rfl ((H.rB (i := 0) rfl).cell rfl)) ?_)
  have hl1 := (H.rS (i := 1) rfl).I
  refine WL.ev rfl rfl (Ev.lenV rfl el29 rfl (H.rS (i := 1) rfl)) (WL.ev rfl rfl (Ev.mv rfl rfl) (WL.nil ?_))
  obtain ⟨q1, hq1, hr⟩ := bd hr
  refine CW.block (CW.loop (α := Nat × Int) (fun ⟨k1, s1⟩ => [(3, .int .i64 s1), (7, .slice A1 n1 c1), (8, .int .i64 (a0.Args.length : Int)), (9, .int .i64 (k1 : Int))]) (fun ⟨k1, s1⟩ w => k1 ≤ a0.Args.length ∧ eachL (iCountExpr_L1 rec_iCountExpr) k1 (a0.Args.drop k1) s1 = some q1 ∧ I64 s1 ∧ HL F0 [] w0 w [Pr.R a0 [.int .i64 a0.Kind, .int .i64 a0.N, .int .i64 a0.Pos, .int .i64 a0.Type_, .string a0.Symbol, .string a0.Name, .slice A1 n1 c1], Pr.S a0.Args (.slice A1 n1 c1)] [It.B b1 31 [.int .i64 a0.Kind, .int .i64 a0.N, .int .i64 a0.Pos, .int .i64 a0.Type_, .string a0.Symbol, .string a0.Name, .slice A1 n1 c1]]) (fun ⟨k1, s1⟩ => a0.Args.length - k1) ⟨0, 1⟩ ⟨rfl, rfl, rfl, rfl, trivial⟩ ⟨Nat.zero_le _, hq1, (by decide : I64 1), H.keep 2 1⟩ ?_)
  rintro ⟨k1, s1⟩ σ w2 ⟨hk1, hq1, hI5, H⟩
  refine CW.seq (CW.reg ?_)
  refine WL.ev rfl rfl (Ev.bin rfl rfl rfl Bin.lss) (WL.nil ?_)
  refine CW.seq (CW.condD rfl (fun h1 => ?_) (fun h1 => ?_))
  · skip
    have hk2 := cast_lt h1
    obtain ⟨x1, z1, hx1, hb1, hq1⟩ := eachL_go hq1 hk2
    refine CW.skip ?_
    refine CW.seq (CW.block (CW.seq (CW.reg ?_)))
    obtain ⟨b2, ob2, cb2, A2, n2, c2, hvb2, hI6, hI7, hI8, hI9, hS3, hS4, H⟩ := ixS_Expr H (i := 1) rfl hx1
    refine WL.ev rfl rfl (Ev.ixVN rfl el29 sz31 rfl hvb2 rfl (lt_of hx1)) (WL.ev rfl rfl (Ev.lda rfl ag31 sz31 rfl (H.rA (i := 2) rfl) rfl) ?_)
    refine WL.allocH rfl rfl rfl ze31 H fun b3 w3 H => ?_
    refine WL.stB (i := 1) rfl rfl rfl sz31 rfl rfl rfl rfl (all1 rfl (all1 rfl (all1 rfl (all1 rfl (all1 rfl (all1 rfl (all1 rfl all0))))))) H rfl rfl rfl fun w4 H => ?_
    refine WL.nil ?_
    refine CW.reg ?_
    refine WL.ev rfl rfl (Ev.mv rfl rfl) (WL.ev rfl rfl (Ev.lda rfl ag31 sz31 rfl (At.blk (H.rB (i := 1) rfl)) rfl) ?_)
    obtain ⟨y1, hy1, hb1⟩ := bd hb1
    refine WL.call rfl rfl rfl rfl rfl ok148 rfl (ih_iCountExpr hy1 (Expr_rd.2 ⟨_, rfl, hI6, hI7, hI8, hI9, hS3, hS4, (H.rS (i := 4) rfl)⟩)) ?_
    rintro _ w5 hE ⟨rfl, hI10⟩
    have H := H.ext hE
    obtain ⟨hg1, hb1⟩ := grd_some hb1
    refine WL.ev rfl rfl (Ev.bin rfl rfl rfl (Bin.add hg1)) (WL.ev rfl rfl (Ev.as rfl rfl) (WL.nil ?_))
    refine CW.reg ?_
    refine WL.ev rfl rfl (Ev.bin rfl rfl rfl (Bin.addN (a := k1) (b := 1) rfl (i64_succN hk2 hl1.2))) (WL.ev rfl rfl (Ev.mv rfl rfl) (WL.nil ?_))
    obtain rfl := sm hb1
    exact ⟨⟨k1 + 1, (s1 + y1)⟩, ⟨rfl, rfl, rfl, rfl, trivial⟩, ⟨hk2, hq1, hg1, H.keep 2 1⟩, Nat.sub_lt_sub_left hk2 (Nat.lt_succ_self _)⟩
  · skip
    obtain rfl := eachL_end hq1 (not_cast_lt h1)
    refine CW.exit ?_
    refine CW.seq (CW.reg ?_)
    refine WL.ev rfl rfl (Ev.mv rfl rfl) (WL.ev rfl rfl (Ev.as rfl rfl) (WL.nil ?_))
    refine CW.ret ?_
    obtain rfl := sm hr
    exact ⟨_, res1 rfl rfl rfl, H.ext0, rfl, hI5⟩
noncomputable def iCountExpr_n : Nat → Expr → Option Int
  | 0, _ => none
  | n + 1, a0 => iCountExpr_B (iCountExpr_n n) a0
noncomputable def iCountExpr_m (a0 : Expr) : Option Int := recO fun n => iCountExpr_n n a0
theorem iCountExpr_okn (n : Nat) : ∀ {a0 : Expr} {r : Int}, iCountExpr_n n a0 = some r → ∀ {F0 : Nat → Prop} {w0 : World} {ca0 : List Value} (ha0 : rd F0 w0 a0 ca0), Ret Try.prog 148 #[.agg ca0.toArray] w0 (fun _ => False) fun v w => v = .int .i64 r ∧ I64 r := by
  induction n with
  | zero => intro a0 r hr; exact nomatch (show (none : Option Int) = some r from hr)
  | succ n ih => intro a0 r hr; exact iCountExpr_okB ih hr
theorem iCountExpr_ok {a0 : Expr} {r : Int} (hr : iCountExpr_m a0 = some r) {F0 : Nat → Prop} {w0 : World} {ca0 : List Value} (ha0 : rd F0 w0 a0 ca0) :
    Ret Try.prog 148 #[.agg ca0.toArray] w0 (fun _ => False) fun v w => v = .int .i64 r ∧ I64 r := by
  obtain ⟨n, hn⟩ := recO_some hr
  exact iCountExpr_okn n hn ha0

noncomputable def iDepthOfExpr_L1 (rec_iDepthOfExpr : Expr → Option Int) : Nat → Expr → Int → Option Int := fun k1 x1 s1 => 
  (rec_iDepthOfExpr x1).bind fun y1 =>
  some (if y1 > s1 then y1 else s1)
noncomputable def iDepthOfExpr_B (rec_iDepthOfExpr : Expr → Option Int) (a0 : Expr) : Option Int :=
  (eachL (iDepthOfExpr_L1 rec_iDepthOfExpr) 0 a0.Args 0).bind fun s1 =>
  grd (I64 (s1 + 1)) <|
  some (s1 + 1)
theorem iDepthOfExpr_okB {rec_iDepthOfExpr : Expr → Option Int} (ih_iDepthOfExpr : ∀ {a0 : Expr} {r : Int}, rec_iDepthOfExpr a0 = some r → ∀ {F0 : Nat → Prop} {w0 : World} {ca0 : List Value} (ha0 : rd F0 w0 a0 ca0), Ret Try.prog 149 #[.agg ca0.toArray] w0 (fun _ => False) fun v w => v = .int .i64 r ∧ I64 r) {a0 : Expr} {r : Int} (hr : iDepthOfExpr_B rec_iDepthOfExpr a0 = some r) {F0 : Nat → Prop} {w0 : World} {ca0 : List Value} (ha0 : rd F0 w0 a0 ca0) :
    Ret Try.prog 149 #[.agg ca0.toArray] w0 (fun _ => False) fun v w => v = .int .i64 r ∧ I64 r := by
  have H := (HL.start F0 w0).argR ha0
  obtain ⟨A1, n1, c1, rfl, hI1, hI2, hI3, hI4, hS1, hS2, H⟩ := op_Expr H (i := 0) rfl
  refine enter Try.func149 rfl rfl rfl ?_
  refine CW.seq (CW.reg ?_)
  refine WL.boxH rfl rfl rfl rfl rfl H fun b1 w1 H => ?_
  refine WL.ev rfl rfl (Ev.as rfl rfl) (WL.nil ?_)
  refine CW.seq (CW.reg ?_)
  refine WL.ev rfl rfl (Ev.as rfl rfl) (WL.nil ?_)
  refine CW.seq (CW.seq (CW.reg ?_))
  refine WL.ev rfl rfl (Ev.fa rfl fo31_6 rfl) (WL.ev rfl rfl (Ev.ld rfl ag29 rfl ((H.rB (i := 0) rfl).cell rfl)) ?_)
  have hl1 := (H.rS (i := 1) rfl).I
  refine WL.ev rfl rfl (Ev.lenV rfl el29 rfl (H.rS (i := 1) rfl)) (WL.ev rfl rfl (Ev.mv rfl rfl) (WL.nil ?_))
  obtain ⟨q1, hq1, hr⟩ := bd hr
  refine CW.block (CW.loop (α := Nat × Int) (fun ⟨k1, s1⟩ => [(3, .int .i64 s1), (7, .slice A1 n1 c1), (8, .int .i64 (a0.Args.length : Int)), (9, .int .i64 (k1 : Int))]) (fun ⟨k1, s1⟩ w => k1 ≤ a0.Args.length ∧ eachL (iDepthOfExpr_L1 rec_iDepthOfExpr) k1 (a0.Args.drop k1) s1 = some q1 ∧ I64 s1 ∧ HL F0 [] w0 w [Pr.R a0 [.int .i64 a0.Kind, .int .i64 a0.N, .int .i64 a0.Pos, .int .i64 a0.Type_, .string a0.Symbol, .string a0.Name, .slice A1 n1 c1], Pr.S a0.Args (.slice A1 n1 c1)] [It.B b1 31 [.int .i64 a0.Kind, .int .i64 a0.N, .int .i64 a0.Pos, .int .i64 a0.Type_, .string a0.Symbol, .string a0.Name, .slice A1 n1 c1]]) (fun ⟨k1, s1⟩ => a0.Args.length - k1) ⟨0, 0⟩ ⟨rfl, rfl, rfl, rfl, trivial⟩ ⟨Nat.zero_le _, hq1, (by decide : I64 0), H.keep 2 1⟩ ?_)
  rintro ⟨k1, s1⟩ σ w2 ⟨hk1, hq1, hI5, H⟩
  refine CW.seq (CW.reg ?_)
  refine WL.ev rfl rfl (Ev.bin rfl rfl rfl Bin.lss) (WL.nil ?_)
  refine CW.seq (CW.condD rfl (fun h1 => ?_) (fun h1 => ?_))
  · skip
    have hk2 := cast_lt h1
    obtain ⟨x1, z1, hx1, hb1, hq1⟩ := eachL_go hq1 hk2
    refine CW.skip ?_
    refine CW.seq (CW.block (CW.seq (CW.reg ?_)))
    obtain ⟨b2, ob2, cb2, A2, n2, c2, hvb2, hI6, hI7, hI8, hI9, hS3, hS4, H⟩ := ixS_Expr H (i := 1) rfl hx1
    refine WL.ev rfl rfl (Ev.ixVN rfl el29 sz31 rfl hvb2 rfl (lt_of hx1)) (WL.ev rfl rfl (Ev.lda rfl ag31 sz31 rfl (H.rA (i := 2) rfl) rfl) ?_)
    refine WL.allocH rfl rfl rfl ze31 H fun b3 w3 H => ?_
    refine WL.stB (i := 1) rfl rfl rfl sz31 rfl rfl rfl rfl (all1 rfl (all1 rfl (all1 rfl (all1 rfl (all1 rfl (all1 rfl (all1 rfl all0))))))) H rfl rfl rfl fun w4 H => ?_
    refine WL.nil ?_
    refine CW.reg ?_
    refine WL.ev rfl rfl (Ev.mv rfl rfl) (WL.ev rfl rfl (Ev.lda rfl ag31 sz31 rfl (At.blk (H.rB (i := 1) rfl)) rfl) ?_)
    obtain ⟨y1, hy1, hb1⟩ := bd hb1
    refine WL.call rfl rfl rfl rfl rfl ok149 rfl (ih_iDepthOfExpr hy1 (Expr_rd.2 ⟨_, rfl, hI6, hI7, hI8, hI9, hS3, hS4, (H.rS (i := 4) rfl)⟩)) ?_
    rintro _ w5 hE ⟨rfl, hI10⟩
    have H := H.ext hE
    refine WL.ev rfl rfl (Ev.maxI rfl rfl rfl) (WL.ev rfl rfl (Ev.as rfl rfl) (WL.nil ?_))
    refine CW.reg ?_
    refine WL.ev rfl rfl (Ev.bin rfl rfl rfl (Bin.addN (a := k1) (b := 1) rfl (i64_succN hk2 hl1.2))) (WL.ev rfl rfl (Ev.mv rfl rfl) (WL.nil ?_))
    obtain rfl := sm hb1
    exact ⟨⟨k1 + 1, (if y1 > s1 then y1 else s1)⟩, ⟨rfl, rfl, rfl, rfl, trivial⟩, ⟨hk2, hq1, (i64_ite hI5 hI10), H.keep 2 1⟩, Nat.sub_lt_sub_left hk2 (Nat.lt_succ_self _)⟩
  · skip
    obtain rfl := eachL_end hq1 (not_cast_lt h1)
    refine CW.exit ?_
    refine CW.seq (CW.reg ?_)
    refine WL.ev rfl rfl (Ev.mv rfl rfl) ?_
    obtain ⟨hg1, hr⟩ := grd_some hr
    refine WL.ev rfl rfl (Ev.bin rfl rfl rfl (Bin.add hg1)) (WL.ev rfl rfl (Ev.as rfl rfl) (WL.nil ?_))
    refine CW.ret ?_
    obtain rfl := sm hr
    exact ⟨_, res1 rfl rfl rfl, H.ext0, rfl, hg1⟩
noncomputable def iDepthOfExpr_n : Nat → Expr → Option Int
  | 0, _ => none
  | n + 1, a0 => iDepthOfExpr_B (iDepthOfExpr_n n) a0
noncomputable def iDepthOfExpr_m (a0 : Expr) : Option Int := recO fun n => iDepthOfExpr_n n a0
theorem iDepthOfExpr_okn (n : Nat) : ∀ {a0 : Expr} {r : Int}, iDepthOfExpr_n n a0 = some r → ∀ {F0 : Nat → Prop} {w0 : World} {ca0 : List Value} (ha0 : rd F0 w0 a0 ca0), Ret Try.prog 149 #[.agg ca0.toArray] w0 (fun _ => False) fun v w => v = .int .i64 r ∧ I64 r := by
  induction n with
  | zero => intro a0 r hr; exact nomatch (show (none : Option Int) = some r from hr)
  | succ n ih => intro a0 r hr; exact iDepthOfExpr_okB ih hr
theorem iDepthOfExpr_ok {a0 : Expr} {r : Int} (hr : iDepthOfExpr_m a0 = some r) {F0 : Nat → Prop} {w0 : World} {ca0 : List Value} (ha0 : rd F0 w0 a0 ca0) :
    Ret Try.prog 149 #[.agg ca0.toArray] w0 (fun _ => False) fun v w => v = .int .i64 r ∧ I64 r := by
  obtain ⟨n, hn⟩ := recO_some hr
  exact iDepthOfExpr_okn n hn ha0

noncomputable def iwithin_m (a0 : Int) (a1 : Int) (a2 : Int) : Option Bool :=
  if a1 ≤ a0 then (
  some (decide (a0 ≤ a2))
  ) else (
  some false
  )
theorem iwithin_ok {a0 : Int} {a1 : Int} {a2 : Int} {r : Bool} (hr : iwithin_m a0 a1 a2 = some r) {F0 : Nat → Prop} {w0 : World} (ha0 : I64 a0) (ha1 : I64 a1) (ha2 : I64 a2) :
    Ret Try.prog 109 #[.int .i64 a0, .int .i64 a1, .int .i64 a2] w0 (fun _ => False) fun v w => v = .bool r := by
  have H := HL.start F0 w0
  refine enter Try.func109 rfl rfl rfl ?_
  refine CW.seq (CW.reg ?_)
  refine WL.ev rfl rfl (Ev.as rfl rfl) (WL.nil ?_)
  refine CW.seq (CW.reg ?_)
  refine WL.ev rfl rfl (Ev.mv rfl rfl) (WL.ev rfl rfl (Ev.mv rfl rfl) (WL.ev rfl rfl (Ev.bin rfl rfl rfl Bin.geq) ?_))
  refine WL.mvD rfl rfl rfl rfl (fun h1 => ?_) (fun h1 => ?_)
  · skip
    have hr := ifp h1 hr
    refine WL.on rfl rfl (WL.ev rfl rfl (Ev.mv rfl rfl) (WL.on rfl rfl (WL.ev rfl rfl (Ev.mv rfl rfl) (WL.on rfl rfl (WL.ev rfl rfl (Ev.bin rfl rfl rfl Bin.leq) (WL.ev rfl rfl (Ev.pickT rfl rfl rfl) (WL.ev rfl rfl (Ev.as rfl rfl) (WL.nil ?_))))))))
    refine CW.ret ?_
    obtain rfl := sm hr
    exact ⟨_, res1 rfl rfl rfl, H.ext0, rfl⟩
  · skip
    have hr := ifn h1 hr
    refine WL.off rfl rfl rfl (WL.off rfl rfl rfl (WL.off rfl rfl rfl (WL.ev rfl rfl (Ev.pickF rfl rfl rfl) (WL.ev rfl rfl (Ev.as rfl rfl) (WL.nil ?_)))))
    refine CW.ret ?_
    obtain rfl := sm hr
    exact ⟨_, res1 rfl rfl rfl, H.ext0, rfl⟩

noncomputable def iisType_m (a0 : Int) : Option Bool :=
  (iwithin_m a0 1 4).bind fun y1 =>
  some y1
theorem iisType_ok {a0 : Int} {r : Bool} (hr : iisType_m a0 = some r) {F0 : Nat → Prop} {w0 : World} (ha0 : I64 a0) :
    Ret Try.prog 199 #[.int .i64 a0] w0 (fun _ => False) fun v w => v = .bool r := by
  have H := HL.start F0 w0
  refine enter Try.func199 rfl rfl rfl ?_
  refine CW.seq (CW.reg ?_)
  refine WL.ev rfl rfl (Ev.as rfl rfl) (WL.nil ?_)
  refine CW.seq (CW.reg ?_)
  refine WL.ev rfl rfl (Ev.mv rfl rfl) ?_
  obtain ⟨y1, hy1, hr⟩ := bd hr
  refine WL.call rfl rfl rfl rfl rfl ok109 rfl (iwithin_ok hy1 (F0 := fun _ => False) ha0 (by decide : I64 1) (by decide : I64 4)) ?_
  rintro _ w1 hE rfl
  have H := H.ext hE
  refine WL.ev rfl rfl (Ev.as rfl rfl) (WL.nil ?_)
  refine CW.ret ?_
  obtain rfl := sm hr
  exact ⟨_, res1 rfl rfl rfl, H.ext0, rfl⟩

noncomputable def iSaturate_m (a0 : Int) : Option Int :=
  some (if ((-1000000) : Int) > (if (1000000 : Int) < a0 then (1000000 : Int) else a0) then ((-1000000) : Int) else (if (1000000 : Int) < a0 then (1000000 : Int) else a0))
theorem iSaturate_ok {a0 : Int} {r : Int} (hr : iSaturate_m a0 = some r) {F0 : Nat → Prop} {w0 : World} (ha0 : I64 a0) :
    Ret Try.prog 175 #[.int .i64 a0] w0 (fun _ => False) fun v w => v = .int .i64 r ∧ I64 r := by
  have H := HL.start F0 w0
  refine enter Try.func175 rfl rfl rfl ?_
  refine CW.seq (CW.reg ?_)
  refine WL.ev rfl rfl (Ev.as rfl rfl) (WL.nil ?_)
  refine CW.seq (CW.reg ?_)
  refine WL.ev rfl rfl (Ev.mv rfl rfl) (WL.ev rfl rfl (Ev.minI rfl rfl rfl) (WL.ev rfl rfl (Ev.maxI rfl rfl rfl) (WL.ev rfl rfl (Ev.as rfl rfl) (WL.nil ?_))))
  refine CW.ret ?_
  obtain rfl := sm hr
  exact ⟨_, res1 rfl rfl rfl, H.ext0, rfl, (i64_ite (i64_ite ha0 (by decide : I64 1000000)) (by decide : I64 (-1000000)))⟩

noncomputable def iflag_m (a0 : Bool) : Option Int :=
  if a0 = true then (
  some 1
  ) else (
  some 0
  )
theorem iflag_ok {a0 : Bool} {r : Int} (hr : iflag_m a0 = some r) {F0 : Nat → Prop} {w0 : World} :
    Ret Try.prog 176 #[.bool a0] w0 (fun _ => False) fun v w => v = .int .i64 r ∧ I64 r := by
  have H := HL.start F0 w0
  refine enter Try.func176 rfl rfl rfl ?_
  refine CW.seq (CW.reg ?_)
  refine WL.ev rfl rfl (Ev.as rfl rfl) (WL.nil ?_)
  refine CW.seq (CW.seq (CW.reg ?_))
  refine WL.ev rfl rfl (Ev.mv rfl rfl) (WL.nil ?_)
  refine CW.condB rfl (fun h1 => ?_) (fun h1 => ?_)
  · skip
    have hr := ifp h1 hr
    refine CW.seq (CW.reg ?_)
    refine WL.ev rfl rfl (Ev.as rfl rfl) (WL.nil ?_)
    refine CW.ret ?_
    obtain rfl := sm hr
    exact ⟨_, res1 rfl rfl rfl, H.ext0, rfl, (by decide : I64 1)⟩
  · skip
    have hr := ifn h1 hr
    refine CW.skip ?_
    refine CW.seq (CW.reg ?_)
    refine WL.ev rfl rfl (Ev.as rfl rfl) (WL.nil ?_)
    refine CW.ret ?_
    obtain rfl := sm hr
    exact ⟨_, res1 rfl rfl rfl, H.ext0, rfl, (by decide : I64 0)⟩

noncomputable def iCoerce_m (a0 : Int) (a1 : Int) : Option Int :=
  if a1 = 1 then (
  (iSaturate_m a0).bind fun y1 =>
  some y1
  ) else (
  if a1 = 2 then (
  some (goAnd a0 4095)
  ) else (
  if a1 = 3 then (
  (iflag_m (!(decide (a0 = 0)))).bind fun y2 =>
  some y2
  ) else (
  if a1 = 4 then (
  (iwithin_m a0 0 999).bind fun y3 =>
  if y3 = true then (
  some a0
  ) else (
  some 0
  )
  ) else (
  some 0
  )
  )
  )
  )
theorem iCoerce_ok {a0 : Int} {a1 : Int} {r : Int} (hr : iCoerce_m a0 a1 = some r) {F0 : Nat → Prop} {w0 : World} (ha0 : I64 a0) (ha1 : I64 a1) :
    Ret Try.prog 174 #[.int .i64 a0, .int .i64 a1] w0 (fun _ => False) fun v w => v = .int .i64 r ∧ I64 r := by
  have H := HL.start F0 w0
  refine enter Try.func174 rfl rfl rfl ?_
  refine CW.seq (CW.reg ?_)
  refine WL.ev rfl rfl (Ev.as rfl rfl) (WL.nil ?_)
  refine CW.seq (CW.block (CW.seq (CW.reg ?_)))
  refine WL.ev rfl rfl (Ev.mv rfl rfl) (WL.ev rfl rfl (Ev.bin rfl rfl rfl Bin.eql) (WL.ev rfl rfl (Ev.as rfl rfl) (WL.nil ?_)))
  refine CW.condD rfl (fun h1 => ?_) (fun h1 => ?_)
  · skip
    have hr := ifp h1 hr
    refine CW.seq (CW.reg ?_)
    refine WL.ev rfl rfl (Ev.mv rfl rfl) ?_
    obtain ⟨y1, hy1, hr⟩ := bd hr
    refine WL.call rfl rfl rfl rfl rfl ok175 rfl (iSaturate_ok hy1 (F0 := fun _ => False) ha0) ?_
    rintro _ w1 hE ⟨rfl, hI1⟩
    have H := H.ext hE
    refine WL.ev rfl rfl (Ev.as rfl rfl) (WL.nil ?_)
    refine CW.ret ?_
    obtain rfl := sm hr
    exact ⟨_, res1 rfl rfl rfl, H.ext0, rfl, hI1⟩
  · skip
    have hr := ifn h1 hr
    refine CW.seq (CW.reg ?_)
    refine WL.ev rfl rfl (Ev.mv rfl rfl) (WL.ev rfl rfl (Ev.bin rfl rfl rfl Bin.eql) (WL.ev rfl rfl (Ev.as rfl rfl) (WL.nil ?_)))
    refine CW.condD rfl (fun h2 => ?_) (fun h2 => ?_)
    · skip
      have hr := ifp h2 hr
      refine CW.seq (CW.reg ?_)
      refine WL.ev rfl rfl (Ev.mv rfl rfl) (WL.ev rfl rfl (Ev.bin rfl rfl rfl Bin.andT) (WL.ev rfl rfl (Ev.as rfl rfl) (WL.nil ?_)))
      refine CW.ret ?_
      obtain rfl := sm hr
      exact ⟨_, res1 rfl rfl rfl, H.ext0, rfl, (i64_wrap _)⟩
    · skip
      have hr := ifn h2 hr
      refine CW.seq (CW.reg ?_)
      refine WL.ev rfl rfl (Ev.mv rfl rfl) (WL.ev rfl rfl (Ev.bin rfl rfl rfl Bin.eql) (WL.ev rfl rfl (Ev.as rfl rfl) (WL.nil ?_)))
      refine CW.condD rfl (fun h3 => ?_) (fun h3 => ?_)
      · skip
        have hr := ifp h3 hr
        refine CW.seq (CW.reg ?_)
        refine WL.ev rfl rfl (Ev.mv rfl rfl) (WL.ev rfl rfl (Ev.bin rfl rfl rfl Bin.neq) ?_)
        obtain ⟨y2, hy2, hr⟩ := bd hr
        refine WL.call rfl rfl rfl rfl rfl ok176 rfl (iflag_ok hy2 (F0 := fun _ => False)) ?_
        rintro _ w2 hE ⟨rfl, hI2⟩
        have H := H.ext hE
        refine WL.ev rfl rfl (Ev.as rfl rfl) (WL.nil ?_)
        refine CW.ret ?_
        obtain rfl := sm hr
        exact ⟨_, res1 rfl rfl rfl, H.ext0, rfl, hI2⟩
      · skip
        have hr := ifn h3 hr
        refine CW.seq (CW.reg ?_)
        refine WL.ev rfl rfl (Ev.mv rfl rfl) (WL.ev rfl rfl (Ev.bin rfl rfl rfl Bin.eql) ?_)
        refine WL.mvD rfl rfl rfl rfl (fun h4 => ?_) (fun h4 => ?_)
        · skip
          have hr := ifp h4 hr
          refine WL.on rfl rfl (WL.ev rfl rfl (Ev.mv rfl rfl) (WL.on rfl rfl ?_))
          obtain ⟨y3, hy3, hr⟩ := bd hr
          refine WL.call rfl rfl rfl rfl rfl ok109 rfl (iwithin_ok hy3 (F0 := fun _ => False) ha0 (by decide : I64 0) (by decide : I64 999)) ?_
          rintro _ w3 hE rfl
          have H := H.ext hE
          refine WL.ev rfl rfl (Ev.pickT rfl rfl rfl) (WL.ev rfl rfl (Ev.as rfl rfl) (WL.nil ?_))
          refine CW.condB rfl (fun h5 => ?_) (fun h5 => ?_)
          · skip
            have hr := ifp h5 hr
            refine CW.seq (CW.reg ?_)
            refine WL.ev rfl rfl (Ev.mv rfl rfl) (WL.ev rfl rfl (Ev.as rfl rfl) (WL.nil ?_))
            refine CW.ret ?_
            obtain rfl := sm hr
            exact ⟨_, res1 rfl rfl rfl, H.ext0, rfl, ha0⟩
          · skip
            have hr := ifn h5 hr
            refine CW.skip ?_
            refine CW.seq (CW.reg ?_)
            refine WL.ev rfl rfl (Ev.as rfl rfl) (WL.nil ?_)
            refine CW.ret ?_
            obtain rfl := sm hr
            exact ⟨_, res1 rfl rfl rfl, H.ext0, rfl, (by decide : I64 0)⟩
        · skip
          have hr := ifn h4 hr
          refine WL.off rfl rfl rfl (WL.off rfl rfl rfl (WL.ev rfl rfl (Ev.pickF rfl rfl rfl) (WL.ev rfl rfl (Ev.as rfl rfl) (WL.nil ?_))))
          refine CW.condF rfl ?_
          refine CW.skip ?_
          refine CW.seq (CW.reg ?_)
          refine WL.ev rfl rfl (Ev.as rfl rfl) (WL.nil ?_)
          refine CW.ret ?_
          obtain rfl := sm hr
          exact ⟨_, res1 rfl rfl rfl, H.ext0, rfl, (by decide : I64 0)⟩

noncomputable def iIsOfType_m (a0 : Int) (a1 : Int) : Option Bool :=
  (iisType_m a1).bind fun y1 =>
  if y1 = true then (
  (iCoerce_m a0 a1).bind fun y2 =>
  some (decide (y2 = a0))
  ) else (
  some false
  )
theorem iIsOfType_ok {a0 : Int} {a1 : Int} {r : Bool} (hr : iIsOfType_m a0 a1 = some r) {F0 : Nat → Prop} {w0 : World} (ha0 : I64 a0) (ha1 : I64 a1) :
    Ret Try.prog 170 #[.int .i64 a0, .int .i64 a1] w0 (fun _ => False) fun v w => v = .bool r := by
  have H := HL.start F0 w0
  refine enter Try.func170 rfl rfl rfl ?_
  refine CW.seq (CW.reg ?_)
  refine WL.ev rfl rfl (Ev.as rfl rfl) (WL.nil ?_)
  refine CW.seq (CW.reg ?_)
  refine WL.ev rfl rfl (Ev.mv rfl rfl) ?_
  obtain ⟨y1, hy1, hr⟩ := bd hr
  refine WL.call rfl rfl rfl rfl rfl ok199 rfl (iisType_ok hy1 (F0 := fun _ => False) ha1) ?_
  rintro _ w1 hE rfl
  have H := H.ext hE
  refine WL.mvB rfl rfl rfl rfl (fun h1 => ?_) (fun h1 => ?_)
  · skip
    have hr := ifp h1 hr
    refine WL.on rfl rfl (WL.ev rfl rfl (Ev.mv rfl rfl) (WL.on rfl rfl (WL.ev rfl rfl (Ev.mv rfl rfl) (WL.on rfl rfl ?_))))
    obtain ⟨y2, hy2, hr⟩ := bd hr
    refine WL.call rfl rfl rfl rfl rfl ok174 rfl (iCoerce_ok hy2 (F0 := fun _ => False) ha0 ha1) ?_
    rintro _ w2 hE ⟨rfl, hI1⟩
    have H := H.ext hE
    refine WL.on rfl rfl (WL.ev rfl rfl (Ev.mv rfl rfl) (WL.on rfl rfl (WL.ev rfl rfl (Ev.bin rfl rfl rfl Bin.eql) (WL.ev rfl rfl (Ev.pickT rfl rfl rfl) (WL.ev rfl rfl (Ev.as rfl rfl) (WL.nil ?_))))))
    refine CW.ret ?_
    obtain rfl := sm hr
    exact ⟨_, res1 rfl rfl rfl, H.ext0, rfl⟩
  · skip
    have hr := ifn h1 hr
    refine WL.off rfl rfl rfl (WL.off rfl rfl rfl (WL.off rfl rfl rfl (WL.off rfl rfl rfl (WL.off rfl rfl rfl (WL.ev rfl rfl (Ev.pickF rfl rfl rfl) (WL.ev rfl rfl (Ev.as rfl rfl) (WL.nil ?_)))))))
    refine CW.ret ?_
    obtain rfl := sm hr
    exact ⟨_, res1 rfl rfl rfl, H.ext0, rfl⟩

noncomputable def isameNode_m (a0 : Expr) (a1 : Expr) : Option Bool :=
  (
  if a0.Kind = a1.Kind then (
  some (decide (a0.N = a1.N))
  ) else (
  some false
  )
  ).bind fun s1 =>
  (
  if s1 = true then (
  some (decide (a0.Pos = a1.Pos))
  ) else (
  some false
  )
  ).bind fun s2 =>
  (
  if s2 = true then (
  some (decide (a0.Type_ = a1.Type_))
  ) else (
  some false
  )
  ).bind fun s3 =>
  (
  if s3 = true then (
  some (decide (a0.Symbol = a1.Symbol))
  ) else (
  some false
  )
  ).bind fun s4 =>
  (
  if s4 = true then (
  some (decide (a0.Name = a1.Name))
  ) else (
  some false
  )
  ).bind fun s5 =>
  some s5
theorem isameNode_ok {a0 : Expr} {a1 : Expr} {r : Bool} (hr : isameNode_m a0 a1 = some r) {F0 : Nat → Prop} {w0 : World} {ca0 : List Value} (ha0 : rd F0 w0 a0 ca0) {ca1 : List Value} (ha1 : rd F0 w0 a1 ca1) :
    Ret Try.prog 172 #[.agg ca0.toArray, .agg ca1.toArray] w0 (fun _ => False) fun v w => v = .bool r := by
  have H := ((HL.start F0 w0).argR ha0).argR ha1
  obtain ⟨A1, n1, c1, rfl, hI1, hI2, hI3, hI4, hS1, hS2, H⟩ := op_Expr H (i := 0) rfl
  obtain ⟨A2, n2, c2, rfl, hI5, hI6, hI7, hI8, hS3, hS4, H⟩ := op_Expr H (i := 1) rfl
  refine enter Try.func172 rfl rfl rfl ?_
  refine CW.seq (CW.reg ?_)
  refine WL.boxH rfl rfl rfl rfl rfl H fun b1 w1 H => ?_
  refine WL.boxH rfl rfl rfl rfl rfl H fun b2 w2 H => ?_
  refine WL.ev rfl rfl (Ev.as rfl rfl) (WL.nil ?_)
  refine CW.seq (CW.reg ?_)
  refine WL.ev rfl rfl (Ev.fa rfl fo31_0 rfl) (WL.ev rfl rfl (Ev.ld rfl ag3 rfl ((H.rB (i := 0) rfl).cell rfl)) (WL.ev rfl rfl (Ev.fa rfl fo31_0 rfl) (WL.ev rfl rfl (Ev.ld rfl ag3 rfl ((H.rB (i := 1) rfl).cell rfl)) (WL.ev rfl rfl (Ev.bin rfl rfl rfl Bin.eql) ?_))))
  obtain ⟨q1, hm1, hr⟩ := bd hr
  refine WL.cut 7 (fun ρ' w => ∃ (s1 : Bool), s1 = q1 ∧ agree ρ' [(2, .pointer (some ⟨b1, 0, none⟩)), (3, .pointer (some ⟨b2, 0, none⟩)), (4, .bool false), (16, .bool s1)] ∧ HL F0 [] w0 w [Pr.R a0 [.int .i64 a0.Kind, .int .i64 a0.N, .int .i64 a0.Pos, .int .i64 a0.Type_, .string a0.Symbol, .string a0.Name, .slice A1 n1 c1], Pr.R a1 [.int .i64 a1.Kind, .int .i64 a1.N, .int .i64 a1.Pos, .int .i64 a1.Type_, .string a1.Symbol, .string a1.Name, .slice A2 n2 c2], Pr.S a0.Args (.slice A1 n1 c1), Pr.S a1.Args (.slice A2 n2 c2)] [It.B b1 31 [.int .i64 a0.Kind, .int .i64 a0.N, .int .i64 a0.Pos, .int .i64 a0.Type_, .string a0.Symbol, .string a0.Name, .slice A1 n1 c1], It.B b2 31 [.int .i64 a1.Kind, .int .i64 a1.N, .int .i64 a1.Pos, .int .i64 a1.Type_, .string a1.Symbol, .string a1.Name, .slice A2 n2 c2]]) ?_ ?_
  · skip
    refine WL.mvD rfl rfl rfl rfl (fun h1 => ?_) (fun h1 => ?_)
    · skip
      have hm1 := ifp h1 hm1
      refine WL.on rfl rfl (WL.ev rfl rfl (Ev.fa rfl fo31_1 rfl) (WL.on rfl rfl (WL.ev rfl rfl (Ev.ld rfl ag3 rfl ((H.rB (i := 0) rfl).cell rfl)) (WL.on rfl rfl (WL.ev rfl rfl (Ev.fa rfl fo31_1 rfl) (WL.on rfl rfl (WL.ev rfl rfl (Ev.ld rfl ag3 rfl ((H.rB (i := 1) rfl).cell rfl)) (WL.on rfl rfl (WL.ev rfl rfl (Ev.bin rfl rfl rfl Bin.eql) (WL.ev rfl rfl (Ev.pickT rfl rfl rfl) (WL.nil ?_)))))))))))
      obtain rfl := sm hm1
      exact ⟨(decide (a0.N = a1.N)), rfl, ⟨rfl, rfl, rfl, rfl, trivial⟩, H.keep 4 2⟩
    · skip
      have hm1 := ifn h1 hm1
      refine WL.off rfl rfl rfl (WL.off rfl rfl rfl (WL.off rfl rfl rfl (WL.off rfl rfl rfl (WL.off rfl rfl rfl (WL.ev rfl rfl (Ev.pickF rfl rfl rfl) (WL.nil ?_))))))
      obtain rfl := sm hm1
      exact ⟨false, rfl, ⟨rfl, rfl, rfl, rfl, trivial⟩, H.keep 4 2⟩
  · rintro ρ' w3 ⟨s1, rfl, hag, H⟩
    obtain ⟨σ, rfl⟩ := ofL_ex hag
    obtain ⟨q2, hm2, hr⟩ := bd hr
    refine WL.cut 7 (fun ρ' w => ∃ (s2 : Bool), s2 = q2 ∧ agree ρ' [(2, .pointer (some ⟨b1, 0, none⟩)), (3, .pointer (some ⟨b2, 0, none⟩)), (4, .bool false), (23, .bool s2)] ∧ HL F0 [] w0 w [Pr.R a0 [.int .i64 a0.Kind, .int .i64 a0.N, .int .i64 a0.Pos, .int .i64 a0.Type_, .string a0.Symbol, .string a0.Name, .slice A1 n1 c1], Pr.R a1 [.int .i64 a1.Kind, .int .i64 a1.N, .int .i64 a1.Pos, .int .i64 a1.Type_, .string a1.Symbol, .string a1.Name, .slice A2 n2 c2], Pr.S a0.Args (.slice A1 n1 c1), Pr.S a1.Args (.slice A2 n2 c2)] [It.B b1 31 [.int .i64 a0.Kind, .int .i64 a0.N, .int .i64 a0.Pos, .int .i64 a0.Type_, .string a0.Symbol, .string a0.Name, .slice A1 n1 c1], It.B b2 31 [.int .i64 a1.Kind, .int .i64 a1.N, .int .i64 a1.Pos, .int .i64 a1.Type_, .string a1.Symbol, .string a1.Name, .slice A2 n2 c2]]) ?_ ?_
    · skip
      refine WL.mvB rfl rfl rfl rfl (fun h2 => ?_) (fun h2 => ?_)
      · skip
        have hm2 := ifp h2 hm2
        refine WL.on rfl rfl (WL.ev rfl rfl (Ev.fa rfl fo31_2 rfl) (WL.on rfl rfl (WL.ev rfl rfl (Ev.ld rfl ag3 rfl ((H.rB (i := 0) rfl).cell rfl)) (WL.on rfl rfl (WL.ev rfl rfl (Ev.fa rfl fo31_2 rfl) (WL.on rfl rfl (WL.ev rfl rfl (Ev.ld rfl ag3 rfl ((H.rB (i := 1) rfl).cell rfl)) (WL.on rfl rfl (WL.ev rfl rfl (Ev.bin rfl rfl rfl Bin.eql) (WL.ev rfl rfl (Ev.pickT rfl rfl rfl) (WL.nil ?_)))))))))))
        obtain rfl := sm hm2
        exact ⟨(decide (a0.Pos = a1.Pos)), rfl, ⟨rfl, rfl, rfl, rfl, trivial⟩, H.keep 4 2⟩
      · skip
        have hm2 := ifn h2 hm2
        refine WL.off rfl rfl rfl (WL.off rfl rfl rfl (WL.off rfl rfl rfl (WL.off rfl rfl rfl (WL.off rfl rfl rfl (WL.ev rfl rfl (Ev.pickF rfl rfl rfl) (WL.nil ?_))))))
        obtain rfl := sm hm2
        exact ⟨false, rfl, ⟨rfl, rfl, rfl, rfl, trivial⟩, H.keep 4 2⟩
    · rintro ρ' w4 ⟨s2, rfl, hag, H⟩
      obtain ⟨σ, rfl⟩ := ofL_ex hag
      obtain ⟨q3, hm3, hr⟩ := bd hr
      refine WL.cut 7 (fun ρ' w => ∃ (s3 : Bool), s3 = q3 ∧ agree ρ' [(2, .pointer (some ⟨b1, 0, none⟩)), (3, .pointer (some ⟨b2, 0, none⟩)), (4, .bool false), (30, .bool s3)] ∧ HL F0 [] w0 w [Pr.R a0 [.int .i64 a0.Kind, .int .i64 a0.N, .int .i64 a0.Pos, .int .i64 a0.Type_, .string a0.Symbol, .string a0.Name, .slice A1 n1 c1], Pr.R a1 [.int .i64 a1.Kind, .int .i64 a1.N, .int .i64 a1.Pos, .int .i64 a1.Type_, .string a1.Symbol, .string a1.Name, .slice A2 n2 c2], Pr.S a0.Args (.slice A1 n1 c1), Pr.S a1.Args (.slice A2 n2 c2)] [It.B b1 31 [.int .i64 a0.Kind, .int .i64 a0.N, .int .i64 a0.Pos, .int .i64 a0.Type_, .string a0.Symbol, .string a0.Name, .slice A1 n1 c1], It.B b2 31 [.int .i64 a1.Kind, .int .i64 a1.N, .int .i64 a1.Pos, .int .i64 a1.Type_, .string a1.Symbol, .string a1.Name, .slice A2 n2 c2]]) ?_ ?_
      · skip
        refine WL.mvB rfl rfl rfl rfl (fun h3 => ?_) (fun h3 => ?_)
        · skip
          have hm3 := ifp h3 hm3
          refine WL.on rfl rfl (WL.ev rfl rfl (Ev.fa rfl fo31_3 rfl) (WL.on rfl rfl (WL.ev rfl rfl (Ev.ld rfl ag3 rfl ((H.rB (i := 0) rfl).cell rfl)) (WL.on rfl rfl (WL.ev rfl rfl (Ev.fa rfl fo31_3 rfl) (WL.on rfl rfl (WL.ev rfl rfl (Ev.ld rfl ag3 rfl ((H.rB (i := 1) rfl).cell rfl)) (WL.on rfl rfl (WL.ev rfl rfl (Ev.bin rfl rfl rfl Bin.eql) (WL.ev rfl rfl (Ev.pickT rfl rfl rfl) (WL.nil ?_)))))))))))
          obtain rfl := sm hm3
          exact ⟨(decide (a0.Type_ = a1.Type_)), rfl, ⟨rfl, rfl, rfl, rfl, trivial⟩, H.keep 4 2⟩
        · skip
          have hm3 := ifn h3 hm3
          refine WL.off rfl rfl rfl (WL.off rfl rfl rfl (WL.off rfl rfl rfl (WL.off rfl rfl rfl (WL.off rfl rfl rfl (WL.ev rfl rfl (Ev.pickF rfl rfl rfl) (WL.nil ?_))))))
          obtain rfl := sm hm3
          exact ⟨false, rfl, ⟨rfl, rfl, rfl, rfl, trivial⟩, H.keep 4 2⟩
      · rintro ρ' w5 ⟨s3, rfl, hag, H⟩
        obtain ⟨σ, rfl⟩ := ofL_ex hag
        obtain ⟨q4, hm4, hr⟩ := bd hr
        refine WL.cut 7 (fun ρ' w => ∃ (s4 : Bool), s4 = q4 ∧ agree ρ' [(2, .pointer (some ⟨b1, 0, none⟩)), (3, .pointer (some ⟨b2, 0, none⟩)), (4, .bool false), (37, .bool s4)] ∧ HL F0 [] w0 w [Pr.R a0 [.int .i64 a0.Kind, .int .i64 a0.N, .int .i64 a0.Pos, .int .i64 a0.Type_, .string a0.Symbol, .string a0.Name, .slice A1 n1 c1], Pr.R a1 [.int .i64 a1.Kind, .int .i64 a1.N, .int .i64 a1.Pos, .int .i64 a1.Type_, .string a1.Symbol, .string a1.Name, .slice A2 n2 c2], Pr.S a0.Args (.slice A1 n1 c1), Pr.S a1.Args (.slice A2 n2 c2)] [It.B b1 31 [.int .i64 a0.Kind, .int .i64 a0.N, .int .i64 a0.Pos, .int .i64 a0.Type_, .string a0.Symbol, .string a0.Name, .slice A1 n1 c1], It.B b2 31 [.int .i64 a1.Kind, .int .i64 a1.N, .int .i64 a1.Pos, .int .i64 a1.Type_, .string a1.Symbol, .string a1.Name, .slice A2 n2 c2]]) ?_ ?_
        · skip
          refine WL.mvB rfl rfl rfl rfl (fun h4 => ?_) (fun h4 => ?_)
          · skip
            have hm4 := ifp h4 hm4
            refine WL.on rfl rfl (WL.ev rfl rfl (Ev.fa rfl fo31_4 rfl) (WL.on rfl rfl (WL.ev rfl rfl (Ev.ld rfl ag9 rfl ((H.rB (i := 0) rfl).cell rfl)) (WL.on rfl rfl (WL.ev rfl rfl (Ev.fa rfl fo31_4 rfl) (WL.on rfl rfl (WL.ev rfl rfl (Ev.ld rfl ag9 rfl ((H.rB (i := 1) rfl).cell rfl)) (WL.on rfl rfl (WL.ev rfl rfl (Ev.bin rfl rfl rfl Bin.eqlS) (WL.ev rfl rfl (Ev.pickT rfl rfl rfl) (WL.nil ?_)))))))))))
            obtain rfl := sm hm4
            exact ⟨(decide (a0.Symbol = a1.Symbol)), rfl, ⟨rfl, rfl, rfl, rfl, trivial⟩, H.keep 4 2⟩
          · skip
            have hm4 := ifn h4 hm4
            refine WL.off rfl rfl rfl (WL.off rfl rfl rfl (WL.off rfl rfl rfl (WL.off rfl rfl rfl (WL.off rfl rfl rfl (WL.ev rfl rfl (Ev.pickF rfl rfl rfl) (WL.nil ?_))))))
            obtain rfl := sm hm4
            exact ⟨false, rfl, ⟨rfl, rfl, rfl, rfl, trivial⟩, H.keep 4 2⟩
        · rintro ρ' w6 ⟨s4, rfl, hag, H⟩
          obtain ⟨σ, rfl⟩ := ofL_ex hag
          obtain ⟨q5, hm5, hr⟩ := bd hr
          refine WL.cut 7 (fun ρ' w => ∃ (s5 : Bool), s5 = q5 ∧ agree ρ' [(4, .bool false), (44, .bool s5)] ∧ HL F0 [] w0 w [Pr.R a0 [.int .i64 a0.Kind, .int .i64 a0.N, .int .i64 a0.Pos, .int .i64 a0.Type_, .string a0.Symbol, .string a0.Name, .slice A1 n1 c1], Pr.R a1 [.int .i64 a1.Kind, .int .i64 a1.N, .int .i64 a1.Pos, .int .i64 a1.Type_, .string a1.Symbol, .string a1.Name, .slice A2 n2 c2], Pr.S a0.Args (.slice A1 n1 c1), Pr.S a1.Args (.slice A2 n2 c2)] [It.B b1 31 [.int .i64 a0.Kind, .int .i64 a0.N, .int .i64 a0.Pos, .int .i64 a0.Type_, .string a0.Symbol, .string a0.Name, .slice A1 n1 c1], It.B b2 31 [.int .i64 a1.Kind, .int .i64 a1.N, .int .i64 a1.Pos, .int .i64 a1.Type_, .string a1.Symbol, .string a1.Name, .slice A2 n2 c2]]) ?_ ?_
          · skip
            refine WL.mvB rfl rfl rfl rfl (fun h5 => ?_) (fun h5 => ?_)
            · skip
              have hm5 := ifp h5 hm5
              refine WL.on rfl rfl (WL.ev rfl rfl (Ev.fa rfl fo31_5 rfl) (WL.on rfl rfl (WL.ev rfl rfl (Ev.ld rfl ag9 rfl ((H.rB (i := 0) rfl).cell rfl)) (WL.on rfl rfl (WL.ev rfl rfl (Ev.fa rfl fo31_5 rfl) (WL.on rfl rfl (WL.ev rfl rfl (Ev.ld rfl ag9 rfl ((H.rB (i := 1) rfl).cell rfl)) (WL.on rfl rfl (WL.ev rfl rfl (Ev.bin rfl rfl rfl Bin.eqlS) (WL.ev rfl rfl (Ev.pickT rfl rfl rfl) (WL.nil ?_)))))))))))
              obtain rfl := sm hm5
              exact ⟨(decide (a0.Name = a1.Name)), rfl, ⟨rfl, rfl, trivial⟩, H.keep 4 2⟩
            · skip
              have hm5 := ifn h5 hm5
              refine WL.off rfl rfl rfl (WL.off rfl rfl rfl (WL.off rfl rfl rfl (WL.off rfl rfl rfl (WL.off rfl rfl rfl (WL.ev rfl rfl (Ev.pickF rfl rfl rfl) (WL.nil ?_))))))
              obtain rfl := sm hm5
              exact ⟨false, rfl, ⟨rfl, rfl, trivial⟩, H.keep 4 2⟩
          · rintro ρ' w7 ⟨s5, rfl, hag, H⟩
            obtain ⟨σ, rfl⟩ := ofL_ex hag
            refine WL.ev rfl rfl (Ev.as rfl rfl) (WL.nil ?_)
            refine CW.ret ?_
            obtain rfl := sm hr
            exact ⟨_, res1 rfl rfl rfl, H.ext0, rfl⟩

noncomputable def iisLower_m (a0 : UInt8) : Option Bool :=
  if 97 ≤ (a0.toNat : Int) then (
  some (decide ((a0.toNat : Int) ≤ 122))
  ) else (
  some false
  )
theorem iisLower_ok {a0 : UInt8} {r : Bool} (hr : iisLower_m a0 = some r) {F0 : Nat → Prop} {w0 : World} :
    Ret Try.prog 200 #[.int .u8 (a0.toNat : Int)] w0 (fun _ => False) fun v w => v = .bool r := by
  have H := HL.start F0 w0
  refine enter Try.func200 rfl rfl rfl ?_
  refine CW.seq (CW.reg ?_)
  refine WL.ev rfl rfl (Ev.as rfl rfl) (WL.nil ?_)
  refine CW.seq (CW.reg ?_)
  refine WL.ev rfl rfl (Ev.mv rfl rfl) (WL.ev rfl rfl (Ev.bin rfl rfl rfl Bin.geq) ?_)
  refine WL.mvD rfl rfl rfl rfl (fun h1 => ?_) (fun h1 => ?_)
  · skip
    have hr := ifp h1 hr
    refine WL.on rfl rfl (WL.ev rfl rfl (Ev.mv rfl rfl) (WL.on rfl rfl (WL.ev rfl rfl (Ev.bin rfl rfl rfl Bin.leq) (WL.ev rfl rfl (Ev.pickT rfl rfl rfl) (WL.ev rfl rfl (Ev.as rfl rfl) (WL.nil ?_))))))
    refine CW.ret ?_
    obtain rfl := sm hr
    exact ⟨_, res1 rfl rfl rfl, H.ext0, rfl⟩
  · skip
    have hr := ifn h1 hr
    refine WL.off rfl rfl rfl (WL.off rfl rfl rfl (WL.ev rfl rfl (Ev.pickF rfl rfl rfl) (WL.ev rfl rfl (Ev.as rfl rfl) (WL.nil ?_))))
    refine CW.ret ?_
    obtain rfl := sm hr
    exact ⟨_, res1 rfl rfl rfl, H.ext0, rfl⟩

noncomputable def iisDigit_m (a0 : UInt8) : Option Bool :=
  if 48 ≤ (a0.toNat : Int) then (
  some (decide ((a0.toNat : Int) ≤ 57))
  ) else (
  some false
  )
theorem iisDigit_ok {a0 : UInt8} {r : Bool} (hr : iisDigit_m a0 = some r) {F0 : Nat → Prop} {w0 : World} :
    Ret Try.prog 201 #[.int .u8 (a0.toNat : Int)] w0 (fun _ => False) fun v w => v = .bool r := by
  have H := HL.start F0 w0
  refine enter Try.func201 rfl rfl rfl ?_
  refine CW.seq (CW.reg ?_)
  refine WL.ev rfl rfl (Ev.as rfl rfl) (WL.nil ?_)
  refine CW.seq (CW.reg ?_)
  refine WL.ev rfl rfl (Ev.mv rfl rfl) (WL.ev rfl rfl (Ev.bin rfl rfl rfl Bin.geq) ?_)
  refine WL.mvD rfl rfl rfl rfl (fun h1 => ?_) (fun h1 => ?_)
  · skip
    have hr := ifp h1 hr
    refine WL.on rfl rfl (WL.ev rfl rfl (Ev.mv rfl rfl) (WL.on rfl rfl (WL.ev rfl rfl (Ev.bin rfl rfl rfl Bin.leq) (WL.ev rfl rfl (Ev.pickT rfl rfl rfl) (WL.ev rfl rfl (Ev.as rfl rfl) (WL.nil ?_))))))
    refine CW.ret ?_
    obtain rfl := sm hr
    exact ⟨_, res1 rfl rfl rfl, H.ext0, rfl⟩
  · skip
    have hr := ifn h1 hr
    refine WL.off rfl rfl rfl (WL.off rfl rfl rfl (WL.ev rfl rfl (Ev.pickF rfl rfl rfl) (WL.ev rfl rfl (Ev.as rfl rfl) (WL.nil ?_))))
    refine CW.ret ?_
    obtain rfl := sm hr
    exact ⟨_, res1 rfl rfl rfl, H.ext0, rfl⟩

noncomputable def iIsReserved_m (a0 : ByteArray) : Option Bool :=
  if a0 = (⟨#[105, 102]⟩ : ByteArray) then (
  if a0 = (⟨#[105, 102]⟩ : ByteArray) then (
  some true
  ) else (
  some false
  )
  ) else (
  if a0 = (⟨#[116, 104, 101, 110]⟩ : ByteArray) then (
  if a0 = (⟨#[116, 104, 101, 110]⟩ : ByteArray) then (
  some true
  ) else (
  some false
  )
  ) else (
  if a0 = (⟨#[101, 108, 115, 101]⟩ : ByteArray) then (
  if a0 = (⟨#[101, 108, 115, 101]⟩ : ByteArray) then (
  some true
  ) else (
  some false
  )
  ) else (
  if a0 = (⟨#[116, 114, 117, 101]⟩ : ByteArray) then (
  if a0 = (⟨#[116, 114, 117, 101]⟩ : ByteArray) then (
  some true
  ) else (
  some false
  )
  ) else (
  if a0 = (⟨#[102, 97, 108, 115, 101]⟩ : ByteArray) then (
  if a0 = (⟨#[102, 97, 108, 115, 101]⟩ : ByteArray) then (
  some true
  ) else (
  some false
  )
  ) else (
  if a0 = (⟨#[108, 105, 116]⟩ : ByteArray) then (
  if a0 = (⟨#[108, 105, 116]⟩ : ByteArray) then (
  some true
  ) else (
  some false
  )
  ) else (
  if a0 = (⟨#[110, 111, 110, 101]⟩ : ByteArray) then (
  if a0 = (⟨#[110, 111, 110, 101]⟩ : ByteArray) then (
  some true
  ) else (
  some false
  )
  ) else (
  if a0 = (⟨#[115, 101, 108, 102]⟩ : ByteArray) then (
  if a0 = (⟨#[115, 101, 108, 102]⟩ : ByteArray) then (
  some true
  ) else (
  some false
  )
  ) else (
  if a0 = (⟨#[111, 102]⟩ : ByteArray) then (
  if a0 = (⟨#[111, 102]⟩ : ByteArray) then (
  some true
  ) else (
  some false
  )
  ) else (
  if a0 = (⟨#[109, 97, 120]⟩ : ByteArray) then (
  if a0 = (⟨#[109, 97, 120]⟩ : ByteArray) then (
  some true
  ) else (
  some false
  )
  ) else (
  if a0 = (⟨#[109, 105, 110]⟩ : ByteArray) then (
  if a0 = (⟨#[109, 105, 110]⟩ : ByteArray) then (
  some true
  ) else (
  some false
  )
  ) else (
  if a0 = (⟨#[119, 105, 116, 104]⟩ : ByteArray) then (
  if a0 = (⟨#[119, 105, 116, 104]⟩ : ByteArray) then (
  some true
  ) else (
  some false
  )
  ) else (
  if a0 = (⟨#[104, 97, 115]⟩ : ByteArray) then (
  some true
  ) else (
  some false
  )
  )
  )
  )
  )
  )
  )
  )
  )
  )
  )
  )
  )
theorem iIsReserved_ok {a0 : ByteArray} {r : Bool} (hr : iIsReserved_m a0 = some r) {F0 : Nat → Prop} {w0 : World} (ha0 : a0.size ≤ 9223372036854775807) :
    Ret Try.prog 202 #[.string a0] w0 (fun _ => False) fun v w => v = .bool r := by
  have H := HL.start F0 w0
  refine enter Try.func202 rfl rfl rfl ?_
  refine CW.seq (CW.reg ?_)
  refine WL.ev rfl rfl (Ev.as rfl rfl) (WL.nil ?_)
  refine CW.seq (CW.seq (CW.reg ?_))
  refine WL.ev rfl rfl (Ev.mv rfl rfl) (WL.nil ?_)
  refine CW.block (CW.seq (CW.seq (CW.reg ?_)))
  refine WL.ev rfl rfl (Ev.bin rfl rfl rfl Bin.eqlS) (WL.ev rfl rfl (Ev.as rfl rfl) (WL.nil ?_))
  refine CW.condD rfl (fun h1 => ?_) (fun h1 => ?_)
  · skip
    have hr := ifp h1 hr
    refine CW.skip ?_
    refine CW.condD rfl (fun h2 => ?_) (fun h2 => ?_)
    · skip
      have hr := ifp h2 hr
      refine CW.seq (CW.reg ?_)
      refine WL.ev rfl rfl (Ev.as rfl rfl) (WL.nil ?_)
      refine CW.ret ?_
      obtain rfl := sm hr
      exact ⟨_, res1 rfl rfl rfl, H.ext0, rfl⟩
    · skip
      have hr := ifn h2 hr
      refine CW.skip ?_
      refine CW.seq (CW.reg ?_)
      refine WL.ev rfl rfl (Ev.as rfl rfl) (WL.nil ?_)
      refine CW.ret ?_
      obtain rfl := sm hr
      exact ⟨_, res1 rfl rfl rfl, H.ext0, rfl⟩
  · skip
    have hr := ifn h1 hr
    refine CW.seq (CW.reg ?_)
    refine WL.ev rfl rfl (Ev.bin rfl rfl rfl Bin.eqlS) (WL.ev rfl rfl (Ev.as rfl rfl) (WL.nil ?_))
    refine CW.condD rfl (fun h3 => ?_) (fun h3 => ?_)
    · skip
      have hr := ifp h3 hr
      refine CW.skip ?_
      refine CW.condD rfl (fun h4 => ?_) (fun h4 => ?_)
      · skip
        have hr := ifp h4 hr
        refine CW.seq (CW.reg ?_)
        refine WL.ev rfl rfl (Ev.as rfl rfl) (WL.nil ?_)
        refine CW.ret ?_
        obtain rfl := sm hr
        exact ⟨_, res1 rfl rfl rfl, H.ext0, rfl⟩
      · skip
        have hr := ifn h4 hr
        refine CW.skip ?_
        refine CW.seq (CW.reg ?_)
        refine WL.ev rfl rfl (Ev.as rfl rfl) (WL.nil ?_)
        refine CW.ret ?_
        obtain rfl := sm hr
        exact ⟨_, res1 rfl rfl rfl, H.ext0, rfl⟩
    · skip
      have hr := ifn h3 hr
      refine CW.seq (CW.reg ?_)
      refine WL.ev rfl rfl (Ev.bin rfl rfl rfl Bin.eqlS) (WL.ev rfl rfl (Ev.as rfl rfl) (WL.nil ?_))
      refine CW.condD rfl (fun h5 => ?_) (fun h5 => ?_)
      · skip
        have hr := ifp h5 hr
        refine CW.skip ?_
        refine CW.condD rfl (fun h6 => ?_) (fun h6 => ?_)
        · skip
          have hr := ifp h6 hr
          refine CW.seq (CW.reg ?_)
          refine WL.ev rfl rfl (Ev.as rfl rfl) (WL.nil ?_)
          refine CW.ret ?_
          obtain rfl := sm hr
          exact ⟨_, res1 rfl rfl rfl, H.ext0, rfl⟩
        · skip
          have hr := ifn h6 hr
          refine CW.skip ?_
          refine CW.seq (CW.reg ?_)
          refine WL.ev rfl rfl (Ev.as rfl rfl) (WL.nil ?_)
          refine CW.ret ?_
          obtain rfl := sm hr
          exact ⟨_, res1 rfl rfl rfl, H.ext0, rfl⟩
      · skip
        have hr := ifn h5 hr
        refine CW.seq (CW.reg ?_)
        refine WL.ev rfl rfl (Ev.bin rfl rfl rfl Bin.eqlS) (WL.ev rfl rfl (Ev.as rfl rfl) (WL.nil ?_))
        refine CW.condD rfl (fun h7 => ?_) (fun h7 => ?_)
        · skip
          have hr := ifp h7 hr
          refine CW.skip ?_
          refine CW.condD rfl (fun h8 => ?_) (fun h8 => ?_)
          · skip
            have hr := ifp h8 hr
            refine CW.seq (CW.reg ?_)
            refine WL.ev rfl rfl (Ev.as rfl rfl) (WL.nil ?_)
            refine CW.ret ?_
            obtain rfl := sm hr
            exact ⟨_, res1 rfl rfl rfl, H.ext0, rfl⟩
          · skip
            have hr := ifn h8 hr
            refine CW.skip ?_
            refine CW.seq (CW.reg ?_)
            refine WL.ev rfl rfl (Ev.as rfl rfl) (WL.nil ?_)
            refine CW.ret ?_
            obtain rfl := sm hr
            exact ⟨_, res1 rfl rfl rfl, H.ext0, rfl⟩
        · skip
          have hr := ifn h7 hr
          refine CW.seq (CW.reg ?_)
          refine WL.ev rfl rfl (Ev.bin rfl rfl rfl Bin.eqlS) (WL.ev rfl rfl (Ev.as rfl rfl) (WL.nil ?_))
          refine CW.condD rfl (fun h9 => ?_) (fun h9 => ?_)
          · skip
            have hr := ifp h9 hr
            refine CW.skip ?_
            refine CW.condD rfl (fun h10 => ?_) (fun h10 => ?_)
            · skip
              have hr := ifp h10 hr
              refine CW.seq (CW.reg ?_)
              refine WL.ev rfl rfl (Ev.as rfl rfl) (WL.nil ?_)
              refine CW.ret ?_
              obtain rfl := sm hr
              exact ⟨_, res1 rfl rfl rfl, H.ext0, rfl⟩
            · skip
              have hr := ifn h10 hr
              refine CW.skip ?_
              refine CW.seq (CW.reg ?_)
              refine WL.ev rfl rfl (Ev.as rfl rfl) (WL.nil ?_)
              refine CW.ret ?_
              obtain rfl := sm hr
              exact ⟨_, res1 rfl rfl rfl, H.ext0, rfl⟩
          · skip
            have hr := ifn h9 hr
            refine CW.seq (CW.reg ?_)
            refine WL.ev rfl rfl (Ev.bin rfl rfl rfl Bin.eqlS) (WL.ev rfl rfl (Ev.as rfl rfl) (WL.nil ?_))
            refine CW.condD rfl (fun h11 => ?_) (fun h11 => ?_)
            · skip
              have hr := ifp h11 hr
              refine CW.skip ?_
              refine CW.condD rfl (fun h12 => ?_) (fun h12 => ?_)
              · skip
                have hr := ifp h12 hr
                refine CW.seq (CW.reg ?_)
                refine WL.ev rfl rfl (Ev.as rfl rfl) (WL.nil ?_)
                refine CW.ret ?_
                obtain rfl := sm hr
                exact ⟨_, res1 rfl rfl rfl, H.ext0, rfl⟩
              · skip
                have hr := ifn h12 hr
                refine CW.skip ?_
                refine CW.seq (CW.reg ?_)
                refine WL.ev rfl rfl (Ev.as rfl rfl) (WL.nil ?_)
                refine CW.ret ?_
                obtain rfl := sm hr
                exact ⟨_, res1 rfl rfl rfl, H.ext0, rfl⟩
            · skip
              have hr := ifn h11 hr
              refine CW.seq (CW.reg ?_)
              refine WL.ev rfl rfl (Ev.bin rfl rfl rfl Bin.eqlS) (WL.ev rfl rfl (Ev.as rfl rfl) (WL.nil ?_))
              refine CW.condD rfl (fun h13 => ?_) (fun h13 => ?_)
              · skip
                have hr := ifp h13 hr
                refine CW.skip ?_
                refine CW.condD rfl (fun h14 => ?_) (fun h14 => ?_)
                · skip
                  have hr := ifp h14 hr
                  refine CW.seq (CW.reg ?_)
                  refine WL.ev rfl rfl (Ev.as rfl rfl) (WL.nil ?_)
                  refine CW.ret ?_
                  obtain rfl := sm hr
                  exact ⟨_, res1 rfl rfl rfl, H.ext0, rfl⟩
                · skip
                  have hr := ifn h14 hr
                  refine CW.skip ?_
                  refine CW.seq (CW.reg ?_)
                  refine WL.ev rfl rfl (Ev.as rfl rfl) (WL.nil ?_)
                  refine CW.ret ?_
                  obtain rfl := sm hr
                  exact ⟨_, res1 rfl rfl rfl, H.ext0, rfl⟩
              · skip
                have hr := ifn h13 hr
                refine CW.seq (CW.reg ?_)
                refine WL.ev rfl rfl (Ev.bin rfl rfl rfl Bin.eqlS) (WL.ev rfl rfl (Ev.as rfl rfl) (WL.nil ?_))
                refine CW.condD rfl (fun h15 => ?_) (fun h15 => ?_)
                · skip
                  have hr := ifp h15 hr
                  refine CW.skip ?_
                  refine CW.condD rfl (fun h16 => ?_) (fun h16 => ?_)
                  · skip
                    have hr := ifp h16 hr
                    refine CW.seq (CW.reg ?_)
                    refine WL.ev rfl rfl (Ev.as rfl rfl) (WL.nil ?_)
                    refine CW.ret ?_
                    obtain rfl := sm hr
                    exact ⟨_, res1 rfl rfl rfl, H.ext0, rfl⟩
                  · skip
                    have hr := ifn h16 hr
                    refine CW.skip ?_
                    refine CW.seq (CW.reg ?_)
                    refine WL.ev rfl rfl (Ev.as rfl rfl) (WL.nil ?_)
                    refine CW.ret ?_
                    obtain rfl := sm hr
                    exact ⟨_, res1 rfl rfl rfl, H.ext0, rfl⟩
                · skip
                  have hr := ifn h15 hr
                  refine CW.seq (CW.reg ?_)
                  refine WL.ev rfl rfl (Ev.bin rfl rfl rfl Bin.eqlS) (WL.ev rfl rfl (Ev.as rfl rfl) (WL.nil ?_))
                  refine CW.condD rfl (fun h17 => ?_) (fun h17 => ?_)
                  · skip
                    have hr := ifp h17 hr
                    refine CW.skip ?_
                    refine CW.condD rfl (fun h18 => ?_) (fun h18 => ?_)
                    · skip
                      have hr := ifp h18 hr
                      refine CW.seq (CW.reg ?_)
                      refine WL.ev rfl rfl (Ev.as rfl rfl) (WL.nil ?_)
                      refine CW.ret ?_
                      obtain rfl := sm hr
                      exact ⟨_, res1 rfl rfl rfl, H.ext0, rfl⟩
                    · skip
                      have hr := ifn h18 hr
                      refine CW.skip ?_
                      refine CW.seq (CW.reg ?_)
                      refine WL.ev rfl rfl (Ev.as rfl rfl) (WL.nil ?_)
                      refine CW.ret ?_
                      obtain rfl := sm hr
                      exact ⟨_, res1 rfl rfl rfl, H.ext0, rfl⟩
                  · skip
                    have hr := ifn h17 hr
                    refine CW.seq (CW.reg ?_)
                    refine WL.ev rfl rfl (Ev.bin rfl rfl rfl Bin.eqlS) (WL.ev rfl rfl (Ev.as rfl rfl) (WL.nil ?_))
                    refine CW.condD rfl (fun h19 => ?_) (fun h19 => ?_)
                    · skip
                      have hr := ifp h19 hr
                      refine CW.skip ?_
                      refine CW.condD rfl (fun h20 => ?_) (fun h20 => ?_)
                      · skip
                        have hr := ifp h20 hr
                        refine CW.seq ?_
                        refine CW.fresh [] trivial fun σ => ?_
                        have H : HL F0 [] w0 w0 [] [] := H
                        refine CW.reg ?_
                        refine WL.ev rfl rfl (Ev.as rfl rfl) (WL.nil ?_)
                        refine CW.ret ?_
                        obtain rfl := sm hr
                        exact ⟨_, res1 rfl rfl rfl, H.ext0, rfl⟩
                      · skip
                        have hr := ifn h20 hr
                        refine CW.skip ?_
                        refine CW.seq ?_
                        refine CW.fresh [] trivial fun σ => ?_
                        have H : HL F0 [] w0 w0 [] [] := H
                        refine CW.reg ?_
                        refine WL.ev rfl rfl (Ev.as rfl rfl) (WL.nil ?_)
                        refine CW.ret ?_
                        obtain rfl := sm hr
                        exact ⟨_, res1 rfl rfl rfl, H.ext0, rfl⟩
                    · skip
                      have hr := ifn h19 hr
                      refine CW.seq ?_
                      refine CW.fresh [(3, .string a0)] ⟨rfl, trivial⟩ fun σ => ?_
                      have H : HL F0 [] w0 w0 [] [] := H
                      refine CW.reg ?_
                      refine WL.ev rfl rfl (Ev.bin rfl rfl rfl Bin.eqlS) (WL.ev rfl rfl (Ev.as rfl rfl) (WL.nil ?_))
                      refine CW.condD rfl (fun h21 => ?_) (fun h21 => ?_)
                      · skip
                        have hr := ifp h21 hr
                        refine CW.skip ?_
                        refine CW.condD rfl (fun h22 => ?_) (fun h22 => ?_)
                        · skip
                          have hr := ifp h22 hr
                          refine CW.seq (CW.reg ?_)
                          refine WL.ev rfl rfl (Ev.as rfl rfl) (WL.nil ?_)
                          refine CW.ret ?_
                          obtain rfl := sm hr
                          exact ⟨_, res1 rfl rfl rfl, H.ext0, rfl⟩
                        · skip
                          have hr := ifn h22 hr
                          refine CW.skip ?_
                          refine CW.seq (CW.reg ?_)
                          refine WL.ev rfl rfl (Ev.as rfl rfl) (WL.nil ?_)
                          refine CW.ret ?_
                          obtain rfl := sm hr
                          exact ⟨_, res1 rfl rfl rfl, H.ext0, rfl⟩
                      · skip
                        have hr := ifn h21 hr
                        refine CW.seq (CW.reg ?_)
                        refine WL.ev rfl rfl (Ev.bin rfl rfl rfl Bin.eqlS) (WL.ev rfl rfl (Ev.as rfl rfl) (WL.nil ?_))
                        refine CW.condD rfl (fun h23 => ?_) (fun h23 => ?_)
                        · skip
                          have hr := ifp h23 hr
                          refine CW.skip ?_
                          refine CW.condD rfl (fun h24 => ?_) (fun h24 => ?_)
                          · skip
                            have hr := ifp h24 hr
                            refine CW.seq (CW.reg ?_)
                            refine WL.ev rfl rfl (Ev.as rfl rfl) (WL.nil ?_)
                            refine CW.ret ?_
                            obtain rfl := sm hr
                            exact ⟨_, res1 rfl rfl rfl, H.ext0, rfl⟩
                          · skip
                            have hr := ifn h24 hr
                            refine CW.skip ?_
                            refine CW.seq (CW.reg ?_)
                            refine WL.ev rfl rfl (Ev.as rfl rfl) (WL.nil ?_)
                            refine CW.ret ?_
                            obtain rfl := sm hr
                            exact ⟨_, res1 rfl rfl rfl, H.ext0, rfl⟩
                        · skip
                          have hr := ifn h23 hr
                          refine CW.reg ?_
                          refine WL.ev rfl rfl (Ev.bin rfl rfl rfl Bin.eqlS) (WL.ev rfl rfl (Ev.as rfl rfl) (WL.nil ?_))
                          refine CW.condD rfl (fun h25 => ?_) (fun h25 => ?_)
                          · skip
                            have hr := ifp h25 hr
                            refine CW.seq (CW.reg ?_)
                            refine WL.ev rfl rfl (Ev.as rfl rfl) (WL.nil ?_)
                            refine CW.ret ?_
                            obtain rfl := sm hr
                            exact ⟨_, res1 rfl rfl rfl, H.ext0, rfl⟩
                          · skip
                            have hr := ifn h25 hr
                            refine CW.skip ?_
                            refine CW.seq (CW.reg ?_)
                            refine WL.ev rfl rfl (Ev.as rfl rfl) (WL.nil ?_)
                            refine CW.ret ?_
                            obtain rfl := sm hr
                            exact ⟨_, res1 rfl rfl rfl, H.ext0, rfl⟩

noncomputable def iIsValidName_L1 (a0 : ByteArray) : Nat → Unit → Option (Unit ⊕ Bool) := fun k1 _ => 
  (a0.data[k1]?).bind fun x1 =>
  (iisLower_m x1).bind fun y1 =>
  if y1 = true then (
  some (.inl ())
  ) else (
  (iisDigit_m x1).bind fun y2 =>
  if y2 = true then (
  some (.inl ())
  ) else (
  some (.inr false)
  )
  )
noncomputable def iIsValidName_m (a0 : ByteArray) : Option Bool :=
  (findN (iIsValidName_L1 a0) 0 (a0.size) ()).bind <| onr (fun r1 => some r1) fun _ =>
  (iwithin_m (a0.size : Int) 1 8).bind fun y3 =>
  (
  if y3 = true then (
  (a0.data[0]?).bind fun x2 =>
  (iisLower_m x2).bind fun y4 =>
  some y4
  ) else (
  some false
  )
  ).bind fun s1 =>
  (
  if s1 = true then (
  (iIsReserved_m a0).bind fun y5 =>
  some (!y5)
  ) else (
  some false
  )
  ).bind fun s2 =>
  some s2
theorem iIsValidName_ok {a0 : ByteArray} {r : Bool} (hr : iIsValidName_m a0 = some r) {F0 : Nat → Prop} {w0 : World} (ha0 : a0.size ≤ 9223372036854775807) :
    Ret Try.prog 171 #[.string a0] w0 (fun _ => False) fun v w => v = .bool r := by
  have H := HL.start F0 w0
  refine enter Try.func171 rfl rfl rfl ?_
  refine CW.seq (CW.reg ?_)
  refine WL.ev rfl rfl (Ev.as rfl rfl) (WL.nil ?_)
  refine CW.seq (CW.seq (CW.reg ?_))
  refine WL.ev rfl rfl (Ev.mv rfl rfl) (WL.ev rfl rfl (Ev.lenB rfl Try.underlying9 rfl) (WL.ev rfl rfl (Ev.mv rfl rfl) (WL.nil ?_)))
  obtain ⟨q1, hq1, hr⟩ := bd hr
  refine CW.block (CW.loop (α := Nat) (fun k1 => [(0, .string a0), (5, .int .i64 (a0.size : Int)), (6, .int .i64 (k1 : Int))]) (fun k1 w => k1 ≤ a0.size ∧ findN (iIsValidName_L1 a0) k1 (a0.size - k1) () = some q1 ∧ HL F0 [] w0 w [] []) (fun k1 => a0.size - k1) 0 ⟨rfl, rfl, rfl, trivial⟩ ⟨Nat.zero_le _, hq1, H.keep 0 0⟩ ?_)
  rintro k1 σ w1 ⟨hk1, hq1, H⟩
  refine CW.seq (CW.reg ?_)
  refine WL.ev rfl rfl (Ev.bin rfl rfl rfl Bin.lss) (WL.nil ?_)
  refine CW.seq (CW.condD rfl (fun h1 => ?_) (fun h1 => ?_))
  · skip
    have hk2 := cast_lt h1
    obtain ⟨z1, hb1, hs1, ht1⟩ := findN_go hq1 hk2
    refine CW.skip ?_
    refine CW.seq (CW.block (CW.seq (CW.reg ?_)))
    refine WL.ev rfl rfl (Ev.mv rfl rfl) (WL.ev rfl rfl (Ev.as rfl rfl) (WL.nil ?_))
    refine CW.seq (CW.reg ?_)
    refine WL.ev rfl rfl (Ev.mv rfl rfl) (WL.ev rfl rfl (Ev.mv rfl rfl) ?_)
    obtain ⟨x1, hx1, hb1⟩ := bd hb1
    refine WL.ev rfl rfl (Ev.sIx rfl Try.underlying9 rfl rfl hx1) ?_
    obtain ⟨y1, hy1, hb1⟩ := bd hb1
    refine WL.call rfl rfl rfl rfl rfl ok200 rfl (iisLower_ok hy1 (F0 := fun _ => False)) ?_
    rintro _ w2 hE rfl
    have H := H.ext hE
    refine WL.ev rfl rfl (Ev.not rfl rfl) ?_
    refine WL.mvBN rfl rfl rfl rfl (fun h2 => ?_) (fun h2 => ?_)
    · skip
      have hb1 := ifn h2 hb1
      refine WL.on rfl rfl (WL.ev rfl rfl (Ev.mv rfl rfl) (WL.on rfl rfl (WL.ev rfl rfl (Ev.mv rfl rfl) (WL.on rfl rfl (WL.ev rfl rfl (Ev.sIx rfl Try.underlying9 rfl rfl hx1) (WL.on rfl rfl ?_))))))
      obtain ⟨y2, hy2, hb1⟩ := bd hb1
      refine WL.call rfl rfl rfl rfl rfl ok201 rfl (iisDigit_ok hy2 (F0 := fun _ => False)) ?_
      rintro _ w3 hE rfl
      have H := H.ext hE
      refine WL.on rfl rfl (WL.ev rfl rfl (Ev.not rfl rfl) (WL.ev rfl rfl (Ev.pickT rfl rfl rfl) (WL.nil ?_)))
      refine CW.condBN rfl (fun h3 => ?_) (fun h3 => ?_)
      · skip
        have hb1 := ifn h3 hb1
        refine CW.seq (CW.reg ?_)
        refine WL.ev rfl rfl (Ev.as rfl rfl) (WL.nil ?_)
        refine CW.ret ?_
        obtain rfl := sm hb1
        obtain rfl := ht1 _ rfl
        obtain rfl := sm hr
        exact ⟨_, res1 rfl rfl rfl, H.ext0, rfl⟩
      · skip
        have hb1 := ifp h3 hb1
        refine CW.skip ?_
        refine CW.reg ?_
        refine WL.ev rfl rfl (Ev.bin rfl rfl rfl (Bin.addN (a := k1) (b := 1) rfl (i64_succN hk2 (i64_size ha0).2))) (WL.ev rfl rfl (Ev.mv rfl rfl) (WL.nil ?_))
        obtain rfl := sm hb1
        have hq1 := hs1 _ rfl
        exact ⟨(k1 + 1), ⟨rfl, rfl, rfl, trivial⟩, ⟨hk2, hq1, H.keep 0 0⟩, Nat.sub_lt_sub_left hk2 (Nat.lt_succ_self _)⟩
    · skip
      have hb1 := ifp h2 hb1
      refine WL.off rfl rfl rfl (WL.off rfl rfl rfl (WL.off rfl rfl rfl (WL.off rfl rfl rfl (WL.off rfl rfl rfl (WL.ev rfl rfl (Ev.pickF rfl rfl rfl) (WL.nil ?_))))))
      refine CW.condF rfl ?_
      refine CW.skip ?_
      refine CW.reg ?_
      refine WL.ev rfl rfl (Ev.bin rfl rfl rfl (Bin.addN (a := k1) (b := 1) rfl (i64_succN hk2 (i64_size ha0).2))) (WL.ev rfl rfl (Ev.mv rfl rfl) (WL.nil ?_))
      obtain rfl := sm hb1
      have hq1 := hs1 _ rfl
      exact ⟨(k1 + 1), ⟨rfl, rfl, rfl, trivial⟩, ⟨hk2, hq1, H.keep 0 0⟩, Nat.sub_lt_sub_left hk2 (Nat.lt_succ_self _)⟩
  · skip
    obtain rfl := findN_end hq1 (not_cast_lt h1)
    have hr := (onr_inl _ _ _).symm.trans hr
    refine CW.exit ?_
    refine CW.seq (CW.reg ?_)
    refine WL.ev rfl rfl (Ev.mv rfl rfl) (WL.ev rfl rfl (Ev.lenB rfl Try.underlying9 rfl) ?_)
    obtain ⟨y3, hy3, hr⟩ := bd hr
    refine WL.call rfl rfl rfl rfl rfl ok109 rfl (iwithin_ok hy3 (F0 := fun _ => False) (i64_size ha0) (by decide : I64 1) (by decide : I64 8)) ?_
    rintro _ w4 hE rfl
    have H := H.ext hE
    obtain ⟨q2, hm1, hr⟩ := bd hr
    refine WL.cut 5 (fun ρ' w => ∃ (s1 : Bool), s1 = q2 ∧ agree ρ' [(0, .string a0), (29, .bool s1)] ∧ HL F0 [] w0 w [] []) ?_ ?_
    · skip
      refine WL.mvB rfl rfl rfl rfl (fun h4 => ?_) (fun h4 => ?_)
      · skip
        have hm1 := ifp h4 hm1
        refine WL.on rfl rfl (WL.ev rfl rfl (Ev.mv rfl rfl) (WL.on rfl rfl ?_))
        obtain ⟨x2, hx2, hm1⟩ := bd hm1
        refine WL.ev rfl rfl (Ev.sIx rfl Try.underlying9 rfl rfl hx2) (WL.on rfl rfl ?_)
        obtain ⟨y4, hy4, hm1⟩ := bd hm1
        refine WL.call rfl rfl rfl rfl rfl ok200 rfl (iisLower_ok hy4 (F0 := fun _ => False)) ?_
        rintro _ w5 hE rfl
        have H := H.ext hE
        refine WL.ev rfl rfl (Ev.pickT rfl rfl rfl) (WL.nil ?_)
        obtain rfl := sm hm1
        exact ⟨y4, rfl, ⟨rfl, rfl, trivial⟩, H.keep 0 0⟩
      · skip
        have hm1 := ifn h4 hm1
        refine WL.off rfl rfl rfl (WL.off rfl rfl rfl (WL.off rfl rfl rfl (WL.ev rfl rfl (Ev.pickF rfl rfl rfl) (WL.nil ?_))))
        obtain rfl := sm hm1
        exact ⟨false, rfl, ⟨rfl, rfl, trivial⟩, H.keep 0 0⟩
    · rintro ρ' w6 ⟨s1, rfl, hag, H⟩
      obtain ⟨σ, rfl⟩ := ofL_ex hag
      obtain ⟨q3, hm2, hr⟩ := bd hr
      refine WL.cut 5 (fun ρ' w => ∃ (s2 : Bool), s2 = q3 ∧ agree ρ' [(34, .bool s2)] ∧ HL F0 [] w0 w [] []) ?_ ?_
      · skip
        refine WL.mvB rfl rfl rfl rfl (fun h5 => ?_) (fun h5 => ?_)
        · skip
          have hm2 := ifp h5 hm2
          refine WL.on rfl rfl (WL.ev rfl rfl (Ev.mv rfl rfl) (WL.on rfl rfl ?_))
          obtain ⟨y5, hy5, hm2⟩ := bd hm2
          refine WL.call rfl rfl rfl rfl rfl ok202 rfl (iIsReserved_ok hy5 (F0 := fun _ => False) ha0) ?_
          rintro _ w7 hE rfl
          have H := H.ext hE
          refine WL.on rfl rfl (WL.ev rfl rfl (Ev.not rfl rfl) (WL.ev rfl rfl (Ev.pickT rfl rfl rfl) (WL.nil ?_)))
          obtain rfl := sm hm2
          exact ⟨(!y5), rfl, ⟨rfl, trivial⟩, H.keep 0 0⟩
        · skip
          have hm2 := ifn h5 hm2
          refine WL.off rfl rfl rfl (WL.off rfl rfl rfl (WL.off rfl rfl rfl (WL.ev rfl rfl (Ev.pickF rfl rfl rfl) (WL.nil ?_))))
          obtain rfl := sm hm2
          exact ⟨false, rfl, ⟨rfl, trivial⟩, H.keep 0 0⟩
      · rintro ρ' w8 ⟨s2, rfl, hag, H⟩
        obtain ⟨σ, rfl⟩ := ofL_ex hag
        refine WL.ev rfl rfl (Ev.as rfl rfl) (WL.nil ?_)
        refine CW.ret ?_
        obtain rfl := sm hr
        exact ⟨_, res1 rfl rfl rfl, H.ext0, rfl⟩

noncomputable def iexprNodeOk_m (a0 : Expr) : Option Bool :=
  if a0.Kind = 1 then (
  (
  if a0.Type_ = 4 then (
  some true
  ) else (
  (iIsOfType_m a0.N a0.Type_).bind fun y1 =>
  some (!y1)
  )
  ).bind fun s1 =>
  (
  if s1 = true then (
  some true
  ) else (
  some (decide (a0.N < 0))
  )
  ).bind fun s2 =>
  if s2 = true then (
  some false
  ) else (
  (
  if (a0.Args.length : Int) = 0 then (
  (iwithin_m a0.Pos 0 3).bind fun y2 =>
  some y2
  ) else (
  some false
  )
  ).bind fun s3 =>
  (
  if s3 = true then (
  (isameNode_m a0 (⟨a0.Kind, a0.N, 0, a0.Type_, (⟨#[]⟩ : ByteArray), (⟨#[]⟩ : ByteArray), a0.Args⟩ : Expr)).bind fun y3 =>
  some y3
  ) else (
  some false
  )
  ).bind fun s4 =>
  some s4
  )
  ) else (
  if a0.Kind = 3 then (
  (iIsValidName_m a0.Name).bind fun y4 =>
  if y4 = true then (
  (
  if (a0.Args.length : Int) = 0 then (
  (iwithin_m a0.Pos 0 3).bind fun y5 =>
  some y5
  ) else (
  some false
  )
  ).bind fun s5 =>
  (
  if s5 = true then (
  (isameNode_m a0 (⟨a0.Kind, 0, a0.Pos, 0, (⟨#[]⟩ : ByteArray), a0.Name, a0.Args⟩ : Expr)).bind fun y6 =>
  some y6
  ) else (
  some false
  )
  ).bind fun s6 =>
  some s6
  ) else (
  some false
  )
  ) else (
  if a0.Kind = 4 then (
  (iwithin_m a0.N 1 12).bind fun y7 =>
  if y7 = true then (
  (
  if (a0.Args.length : Int) = 2 then (
  (iwithin_m a0.Pos 0 3).bind fun y8 =>
  some y8
  ) else (
  some false
  )
  ).bind fun s7 =>
  (
  if s7 = true then (
  (isameNode_m a0 (⟨a0.Kind, a0.N, 0, 0, (⟨#[]⟩ : ByteArray), (⟨#[]⟩ : ByteArray), a0.Args⟩ : Expr)).bind fun y9 =>
  some y9
  ) else (
  some false
  )
  ).bind fun s8 =>
  some s8
  ) else (
  some false
  )
  ) else (
  if a0.Kind = 5 then (
  (
  if (a0.Args.length : Int) = 3 then (
  (iwithin_m a0.Pos 0 3).bind fun y10 =>
  some y10
  ) else (
  some false
  )
  ).bind fun s9 =>
  (
  if s9 = true then (
  (isameNode_m a0 (⟨a0.Kind, 0, 0, 0, (⟨#[]⟩ : ByteArray), (⟨#[]⟩ : ByteArray), a0.Args⟩ : Expr)).bind fun y11 =>
  some y11
  ) else (
  some false
  )
  ).bind fun s10 =>
  some s10
  ) else (
  if a0.Kind = 6 then (
  (
  if (a0.Args.length : Int) = 0 then (
  (iwithin_m a0.Pos 0 3).bind fun y12 =>
  some y12
  ) else (
  some false
  )
  ).bind fun s11 =>
  (
  if s11 = true then (
  (isameNode_m a0 (⟨a0.Kind, 0, a0.Pos, 0, (⟨#[]⟩ : ByteArray), (⟨#[]⟩ : ByteArray), a0.Args⟩ : Expr)).bind fun y13 =>
  some y13
  ) else (
  some false
  )
  ).bind fun s12 =>
  some s12
  ) else (
  if a0.Kind = 8 then (
  (iIsValidName_m a0.Symbol).bind fun y14 =>
  (
  if y14 = true then (
  (iIsValidName_m a0.Name).bind fun y15 =>
  some (!y15)
  ) else (
  some true
  )
  ).bind fun s13 =>
  if s13 = true then (
  some false
  ) else (
  (
  if (a0.Args.length : Int) = 1 then (
  (iwithin_m a0.Pos 0 3).bind fun y16 =>
  some y16
  ) else (
  some false
  )
  ).bind fun s14 =>
  (
  if s14 = true then (
  (isameNode_m a0 (⟨a0.Kind, 0, 0, 0, a0.Symbol, a0.Name, a0.Args⟩ : Expr)).bind fun y17 =>
  some y17
  ) else (
  some false
  )
  ).bind fun s15 =>
  some s15
  )
  ) else (
  if a0.Kind = 2 then (
  if a0.Kind = 2 then (
  (
  if (a0.Args.length : Int) = 0 then (
  (iwithin_m a0.Pos 0 3).bind fun y18 =>
  some y18
  ) else (
  some false
  )
  ).bind fun s16 =>
  (
  if s16 = true then (
  (isameNode_m a0 (⟨a0.Kind, 0, 0, 0, (⟨#[]⟩ : ByteArray), (⟨#[]⟩ : ByteArray), a0.Args⟩ : Expr)).bind fun y19 =>
  some y19
  ) else (
  some false
  )
  ).bind fun s17 =>
  some s17
  ) else (
  some false
  )
  ) else (
  if a0.Kind = 7 then (
  (
  if (a0.Args.length : Int) = 0 then (
  (iwithin_m a0.Pos 0 3).bind fun y20 =>
  some y20
  ) else (
  some false
  )
  ).bind fun s18 =>
  (
  if s18 = true then (
  (isameNode_m a0 (⟨a0.Kind, 0, 0, 0, (⟨#[]⟩ : ByteArray), (⟨#[]⟩ : ByteArray), a0.Args⟩ : Expr)).bind fun y21 =>
  some y21
  ) else (
  some false
  )
  ).bind fun s19 =>
  some s19
  ) else (
  some false
  )
  )
  )
  )
  )
  )
  )
  )
theorem iexprNodeOk_ok {a0 : Expr} {r : Bool} (hr : iexprNodeOk_m a0 = some r) {F0 : Nat → Prop} {w0 : World} {ca0 : List Value} (ha0 : rd F0 w0 a0 ca0) :
    Ret Try.prog 150 #[.agg ca0.toArray] w0 (fun _ => False) fun v w => v = .bool r := by
  have H := (HL.start F0 w0).argR ha0
  obtain ⟨A1, n1, c1, rfl, hI1, hI2, hI3, hI4, hS1, hS2, H⟩ := op_Expr H (i := 0) rfl
  refine enter Try.func150 rfl rfl rfl ?_
  refine CW.seq (CW.reg ?_)
  refine WL.boxH rfl rfl rfl rfl rfl H fun b1 w1 H => ?_
  refine WL.ev rfl rfl (Ev.as rfl rfl) (WL.nil ?_)
  refine CW.seq (CW.reg ?_)
  refine WL.ev rfl rfl (Ev.fa rfl fo31_0 rfl) (WL.ev rfl rfl (Ev.ld rfl ag3 rfl ((H.rB (i := 0) rfl).cell rfl)) (WL.ev rfl rfl (Ev.fa rfl fo31_6 rfl) (WL.ev rfl rfl (Ev.ld rfl ag29 rfl ((H.rB (i := 0) rfl).cell rfl)) (WL.ev rfl rfl (Ev.build rfl pl31 ze31 rfl rfl rfl rfl) ?_))))
  refine WL.allocH rfl rfl rfl ze31 H fun b2 w2 H => ?_
  refine WL.stB (i := 1) rfl rfl rfl sz31 rfl rfl rfl rfl (all1 rfl (all1 rfl (all1 rfl (all1 rfl (all1 rfl (all1 rfl (all1 rfl all0))))))) H rfl rfl rfl fun w3 H => ?_
  refine WL.nil ?_
  refine CW.seq (CW.reg ?_)
  refine WL.ev rfl rfl (Ev.as rfl rfl) (WL.nil ?_)
  refine CW.seq (CW.seq (CW.reg ?_))
  refine WL.ev rfl rfl (Ev.fa rfl fo31_0 rfl) (WL.ev rfl rfl (Ev.ld rfl ag3 rfl ((H.rB (i := 0) rfl).cell rfl)) (WL.nil ?_))
  refine CW.block (CW.seq (CW.reg ?_))
  refine WL.ev rfl rfl (Ev.bin rfl rfl rfl Bin.eql) (WL.ev rfl rfl (Ev.as rfl rfl) (WL.nil ?_))
  refine CW.condD rfl (fun h1 => ?_) (fun h1 => ?_)
  · skip
    have hr := ifp h1 hr
    refine CW.seq (CW.held (fun w => ∃ v1_1_ : Value, ∃ v1_3_ : Value, HL F0 [] w0 w [Pr.R a0 [.int .i64 a0.Kind, .int .i64 a0.N, .int .i64 a0.Pos, .int .i64 a0.Type_, .string a0.Symbol, .string a0.Name, .slice A1 n1 c1], Pr.S a0.Args (.slice A1 n1 c1)] [It.B b1 31 [.int .i64 a0.Kind, .int .i64 a0.N, .int .i64 a0.Pos, .int .i64 a0.Type_, .string a0.Symbol, .string a0.Name, .slice A1 n1 c1], It.B b2 31 [.int .i64 a0.Kind, v1_1_, .int .i64 0, v1_3_, .string (⟨#[]⟩ : ByteArray), .string (⟨#[]⟩ : ByteArray), .slice A1 n1 c1]]) hmix (fun w4 hE => ?_))
    have H : HL F0 [] w0 w4 [Pr.R a0 [.int .i64 a0.Kind, .int .i64 a0.N, .int .i64 a0.Pos, .int .i64 a0.Type_, .string a0.Symbol, .string a0.Name, .slice A1 n1 c1], Pr.S a0.Args (.slice A1 n1 c1)] [It.B b1 31 [.int .i64 a0.Kind, .int .i64 a0.N, .int .i64 a0.Pos, .int .i64 a0.Type_, .string a0.Symbol, .string a0.Name, .slice A1 n1 c1], It.B b2 31 [.int .i64 a0.Kind, .int .i64 0, .int .i64 0, .int .i64 0, .string (⟨#[]⟩ : ByteArray), .string (⟨#[]⟩ : ByteArray), .slice A1 n1 c1]] := H.ext hE
    refine HW.take 0 ⟨_, _, H.keep 2 2⟩ rfl (by kernel_rfl) rfl rfl (fun _ _ => Ev.fa rfl fo31_1 rfl) ?_
    refine HW.take 1 ⟨_, _, H.keep 2 2⟩ rfl (by kernel_rfl) rfl rfl (fun _ ⟨_, _, hq⟩ => Ev.ld rfl ag3 rfl ((hq.rB (i := 0) rfl).cell rfl)) ?_
    refine HW.take 2 ⟨_, _, H.keep 2 2⟩ rfl (by kernel_rfl) rfl rfl (fun _ _ => Ev.fa rfl fo31_3 rfl) ?_
    refine HW.take 3 ⟨_, _, H.keep 2 2⟩ rfl (by kernel_rfl) rfl rfl (fun _ ⟨_, _, hq⟩ => Ev.ld rfl ag3 rfl ((hq.rB (i := 0) rfl).cell rfl)) ?_
    refine HW.take 4 ⟨_, _, H.keep 2 2⟩ rfl (by kernel_rfl) rfl rfl (fun _ _ => Ev.fa rfl fo31_1 rfl) ?_
    refine HW.eff 5 rfl (by kernel_rfl) ?_
    refine WL.stB (i := 1) rfl rfl rfl sz3 rfl rfl rfl rfl (all1 rfl all0) H rfl rfl rfl fun w5 H => ?_
    refine HW.next ⟨_, _, H.keep 2 2⟩ ?_
    refine HW.take 6 ⟨_, _, H.keep 2 2⟩ rfl (by kernel_rfl) rfl rfl (fun _ _ => Ev.fa rfl fo31_3 rfl) ?_
    refine HW.eff 7 rfl (by kernel_rfl) ?_
    refine WL.stB (i := 1) rfl rfl rfl sz3 rfl rfl rfl rfl (all1 rfl all0) H rfl rfl rfl fun w6 H => ?_
    refine HW.next ⟨_, _, H.keep 2 2⟩ ?_
    refine HW.done (by kernel_rfl) ?_
    refine CW.seq (CW.reg ?_)
    refine WL.ev rfl rfl (Ev.fa rfl fo31_3 rfl) (WL.ev rfl rfl (Ev.ld rfl ag3 rfl ((H.rB (i := 0) rfl).cell rfl)) (WL.ev rfl rfl (Ev.bin rfl rfl rfl Bin.eql) ?_))
    obtain ⟨q1, hm1, hr⟩ := bd hr
    refine WL.cut 8 (fun ρ' w => ∃ (s1 : Bool), s1 = q1 ∧ agree ρ' [(1, .pointer (some ⟨b1, 0, none⟩)), (3, .pointer (some ⟨b2, 0, none⟩)), (4, .int .i64 0), (30, .bool s1)] ∧ HL F0 [] w0 w [Pr.R a0 [.int .i64 a0.Kind, .int .i64 a0.N, .int .i64 a0.Pos, .int .i64 a0.Type_, .string a0.Symbol, .string a0.Name, .slice A1 n1 c1], Pr.S a0.Args (.slice A1 n1 c1)] [It.B b1 31 [.int .i64 a0.Kind, .int .i64 a0.N, .int .i64 a0.Pos, .int .i64 a0.Type_, .string a0.Symbol, .string a0.Name, .slice A1 n1 c1], It.B b2 31 [.int .i64 a0.Kind, .int .i64 a0.N, .int .i64 0, .int .i64 a0.Type_, .string (⟨#[]⟩ : ByteArray), .string (⟨#[]⟩ : ByteArray), .slice A1 n1 c1]]) ?_ ?_
    · skip
      refine WL.mvD rfl rfl rfl rfl (fun h2 => ?_) (fun h2 => ?_)
      · skip
        have hm1 := ifp h2 hm1
        refine WL.off rfl rfl rfl (WL.off rfl rfl rfl (WL.off rfl rfl rfl (WL.off rfl rfl rfl (WL.off rfl rfl rfl (WL.off rfl rfl rfl (WL.ev rfl rfl (Ev.pickT rfl rfl rfl) (WL.nil ?_)))))))
        obtain rfl := sm hm1
        exact ⟨true, rfl, ⟨rfl, rfl, rfl, rfl, trivial⟩, H.keep 2 2⟩
      · skip
        have hm1 := ifn h2 hm1
        refine WL.on rfl rfl (WL.ev rfl rfl (Ev.fa rfl fo31_1 rfl) (WL.on rfl rfl (WL.ev rfl rfl (Ev.ld rfl ag3 rfl ((H.rB (i := 0) rfl).cell rfl)) (WL.on rfl rfl (WL.ev rfl rfl (Ev.fa rfl fo31_3 rfl) (WL.on rfl rfl (WL.ev rfl rfl (Ev.ld rfl ag3 rfl ((H.rB (i := 0) rfl).cell rfl)) (WL.on rfl rfl ?_))))))))
        obtain ⟨y1, hy1, hm1⟩ := bd hm1
        refine WL.call rfl rfl rfl rfl rfl ok170 rfl (iIsOfType_ok hy1 (F0 := fun _ => False) hI2 hI4) ?_
        rintro _ w7 hE rfl
        have H := H.ext hE
        refine WL.on rfl rfl (WL.ev rfl rfl (Ev.not rfl rfl) (WL.ev rfl rfl (Ev.pickF rfl rfl rfl) (WL.nil ?_)))
        obtain rfl := sm hm1
        exact ⟨(!y1), rfl, ⟨rfl, rfl, rfl, rfl, trivial⟩, H.keep 2 2⟩
    · rintro ρ' w8 ⟨s1, rfl, hag, H⟩
      obtain ⟨σ, rfl⟩ := ofL_ex hag
      obtain ⟨q2, hm2, hr⟩ := bd hr
      refine WL.cut 5 (fun ρ' w => ∃ (s2 : Bool), s2 = q2 ∧ agree ρ' [(1, .pointer (some ⟨b1, 0, none⟩)), (3, .pointer (some ⟨b2, 0, none⟩)), (4, .int .i64 0), (35, .bool s2)] ∧ HL F0 [] w0 w [Pr.R a0 [.int .i64 a0.Kind, .int .i64 a0.N, .int .i64 a0.Pos, .int .i64 a0.Type_, .string a0.Symbol, .string a0.Name, .slice A1 n1 c1], Pr.S a0.Args (.slice A1 n1 c1)] [It.B b1 31 [.int .i64 a0.Kind, .int .i64 a0.N, .int .i64 a0.Pos, .int .i64 a0.Type_, .string a0.Symbol, .string a0.Name, .slice A1 n1 c1], It.B b2 31 [.int .i64 a0.Kind, .int .i64 a0.N, .int .i64 0, .int .i64 a0.Type_, .string (⟨#[]⟩ : ByteArray), .string (⟨#[]⟩ : ByteArray), .slice A1 n1 c1]]) ?_ ?_
      · skip
        refine WL.mvB rfl rfl rfl rfl (fun h3 => ?_) (fun h3 => ?_)
        · skip
          have hm2 := ifp h3 hm2
          refine WL.off rfl rfl rfl (WL.off rfl rfl rfl (WL.off rfl rfl rfl (WL.ev rfl rfl (Ev.pickT rfl rfl rfl) (WL.nil ?_))))
          obtain rfl := sm hm2
          exact ⟨true, rfl, ⟨rfl, rfl, rfl, rfl, trivial⟩, H.keep 2 2⟩
        · skip
          have hm2 := ifn h3 hm2
          refine WL.on rfl rfl (WL.ev rfl rfl (Ev.fa rfl fo31_1 rfl) (WL.on rfl rfl (WL.ev rfl rfl (Ev.ld rfl ag3 rfl ((H.rB (i := 0) rfl).cell rfl)) (WL.on rfl rfl (WL.ev rfl rfl (Ev.bin rfl rfl rfl Bin.lss) (WL.ev rfl rfl (Ev.pickF rfl rfl rfl) (WL.nil ?_)))))))
          obtain rfl := sm hm2
          exact ⟨(decide (a0.N < 0)), rfl, ⟨rfl, rfl, rfl, rfl, trivial⟩, H.keep 2 2⟩
      · rintro ρ' w9 ⟨s2, rfl, hag, H⟩
        obtain ⟨σ, rfl⟩ := ofL_ex hag
        refine WL.nil ?_
        refine CW.condB rfl (fun h4 => ?_) (fun h4 => ?_)
        · skip
          have hr := ifp h4 hr
          refine CW.seq (CW.reg ?_)
          refine WL.ev rfl rfl (Ev.as rfl rfl) (WL.nil ?_)
          refine CW.ret ?_
          obtain rfl := sm hr
          exact ⟨_, res1 rfl rfl rfl, H.ext0, rfl⟩
        · skip
          have hr := ifn h4 hr
          refine CW.skip ?_
          refine CW.seq (CW.reg ?_)
          refine WL.ev rfl rfl (Ev.fa rfl fo31_6 rfl) (WL.ev rfl rfl (Ev.ld rfl ag29 rfl ((H.rB (i := 0) rfl).cell rfl)) ?_)
          have hl1 := (H.rS (i := 1) rfl).I
          refine WL.ev rfl rfl (Ev.lenV rfl el29 rfl (H.rS (i := 1) rfl)) (WL.ev rfl rfl (Ev.mv rfl rfl) (WL.ev rfl rfl (Ev.bin rfl rfl rfl Bin.eql) ?_))
          obtain ⟨q3, hm3, hr⟩ := bd hr
          refine WL.cut 5 (fun ρ' w => ∃ (s3 : Bool), s3 = q3 ∧ agree ρ' [(1, .pointer (some ⟨b1, 0, none⟩)), (3, .pointer (some ⟨b2, 0, none⟩)), (94, .bool s3)] ∧ HL F0 [] w0 w [Pr.R a0 [.int .i64 a0.Kind, .int .i64 a0.N, .int .i64 a0.Pos, .int .i64 a0.Type_, .string a0.Symbol, .string a0.Name, .slice A1 n1 c1], Pr.S a0.Args (.slice A1 n1 c1)] [It.B b1 31 [.int .i64 a0.Kind, .int .i64 a0.N, .int .i64 a0.Pos, .int .i64 a0.Type_, .string a0.Symbol, .string a0.Name, .slice A1 n1 c1], It.B b2 31 [.int .i64 a0.Kind, .int .i64 a0.N, .int .i64 0, .int .i64 a0.Type_, .string (⟨#[]⟩ : ByteArray), .string (⟨#[]⟩ : ByteArray), .slice A1 n1 c1]]) ?_ ?_
          · skip
            refine WL.mvD rfl rfl rfl rfl (fun h5 => ?_) (fun h5 => ?_)
            · skip
              have hm3 := ifp h5 hm3
              refine WL.on rfl rfl (WL.ev rfl rfl (Ev.fa rfl fo31_2 rfl) (WL.on rfl rfl (WL.ev rfl rfl (Ev.ld rfl ag3 rfl ((H.rB (i := 0) rfl).cell rfl)) (WL.on rfl rfl ?_))))
              obtain ⟨y2, hy2, hm3⟩ := bd hm3
              refine WL.call rfl rfl rfl rfl rfl ok109 rfl (iwithin_ok hy2 (F0 := fun _ => False) hI3 (by decide : I64 0) (by decide : I64 3)) ?_
              rintro _ w10 hE rfl
              have H := H.ext hE
              refine WL.ev rfl rfl (Ev.pickT rfl rfl rfl) (WL.nil ?_)
              obtain rfl := sm hm3
              exact ⟨y2, rfl, ⟨rfl, rfl, rfl, trivial⟩, H.keep 2 2⟩
            · skip
              have hm3 := ifn h5 hm3
              refine WL.off rfl rfl rfl (WL.off rfl rfl rfl (WL.off rfl rfl rfl (WL.ev rfl rfl (Ev.pickF rfl rfl rfl) (WL.nil ?_))))
              obtain rfl := sm hm3
              exact ⟨false, rfl, ⟨rfl, rfl, rfl, trivial⟩, H.keep 2 2⟩
          · rintro ρ' w11 ⟨s3, rfl, hag, H⟩
            obtain ⟨σ, rfl⟩ := ofL_ex hag
            obtain ⟨q4, hm4, hr⟩ := bd hr
            refine WL.cut 5 (fun ρ' w => ∃ (s4 : Bool), s4 = q4 ∧ agree ρ' [(99, .bool s4)] ∧ HL F0 [] w0 w [Pr.R a0 [.int .i64 a0.Kind, .int .i64 a0.N, .int .i64 a0.Pos, .int .i64 a0.Type_, .string a0.Symbol, .string a0.Name, .slice A1 n1 c1], Pr.S a0.Args (.slice A1 n1 c1)] [It.B b1 31 [.int .i64 a0.Kind, .int .i64 a0.N, .int .i64 a0.Pos, .int .i64 a0.Type_, .string a0.Symbol, .string a0.Name, .slice A1 n1 c1], It.B b2 31 [.int .i64 a0.Kind, .int .i64 a0.N, .int .i64 0, .int .i64 a0.Type_, .string (⟨#[]⟩ : ByteArray), .string (⟨#[]⟩ : ByteArray), .slice A1 n1 c1]]) ?_ ?_
            · skip
              refine WL.mvB rfl rfl rfl rfl (fun h6 => ?_) (fun h6 => ?_)
              · skip
                have hm4 := ifp h6 hm4
                refine WL.on rfl rfl (WL.ev rfl rfl (Ev.lda rfl ag31 sz31 rfl (At.blk (H.rB (i := 0) rfl)) rfl) (WL.on rfl rfl (WL.ev rfl rfl (Ev.lda rfl ag31 sz31 rfl (At.blk (H.rB (i := 1) rfl)) rfl) (WL.on rfl rfl ?_))))
                obtain ⟨y3, hy3, hm4⟩ := bd hm4
                refine WL.call rfl rfl rfl rfl rfl ok172 rfl (isameNode_ok hy3 (Expr_rd.2 ⟨_, rfl, hI1, hI2, hI3, hI4, hS1, hS2, (H.rS (i := 1) rfl)⟩) (Expr_rd.2 ⟨_, rfl, hI1, hI2, (by decide : I64 0), hI4, (by decide : (⟨#[]⟩ : ByteArray).size ≤ 9223372036854775807), (by decide : (⟨#[]⟩ : ByteArray).size ≤ 9223372036854775807), (H.rS (i := 1) rfl)⟩)) ?_
                rintro _ w12 hE rfl
                have H := H.ext hE
                refine WL.ev rfl rfl (Ev.pickT rfl rfl rfl) (WL.nil ?_)
                obtain rfl := sm hm4
                exact ⟨y3, rfl, ⟨rfl, trivial⟩, H.keep 2 2⟩
              · skip
                have hm4 := ifn h6 hm4
                refine WL.off rfl rfl rfl (WL.off rfl rfl rfl (WL.off rfl rfl rfl (WL.ev rfl rfl (Ev.pickF rfl rfl rfl) (WL.nil ?_))))
                obtain rfl := sm hm4
                exact ⟨false, rfl, ⟨rfl, trivial⟩, H.keep 2 2⟩
            · rintro ρ' w13 ⟨s4, rfl, hag, H⟩
              obtain ⟨σ, rfl⟩ := ofL_ex hag
              refine WL.ev rfl rfl (Ev.as rfl rfl) (WL.nil ?_)
              refine CW.ret ?_
              obtain rfl := sm hr
              exact ⟨_, res1 rfl rfl rfl, H.ext0, rfl⟩
  · skip
    have hr := ifn h1 hr
    refine CW.seq (CW.reg ?_)
    refine WL.ev rfl rfl (Ev.bin rfl rfl rfl Bin.eql) (WL.ev rfl rfl (Ev.as rfl rfl) (WL.nil ?_))
    refine CW.condD rfl (fun h7 => ?_) (fun h7 => ?_)
    · skip
      have hr := ifp h7 hr
      refine CW.seq (CW.held (fun w => ∃ v1_2_ : Value, ∃ v1_5_ : Value, HL F0 [] w0 w [Pr.R a0 [.int .i64 a0.Kind, .int .i64 a0.N, .int .i64 a0.Pos, .int .i64 a0.Type_, .string a0.Symbol, .string a0.Name, .slice A1 n1 c1], Pr.S a0.Args (.slice A1 n1 c1)] [It.B b1 31 [.int .i64 a0.Kind, .int .i64 a0.N, .int .i64 a0.Pos, .int .i64 a0.Type_, .string a0.Symbol, .string a0.Name, .slice A1 n1 c1], It.B b2 31 [.int .i64 a0.Kind, .int .i64 0, v1_2_, .int .i64 0, .string (⟨#[]⟩ : ByteArray), v1_5_, .slice A1 n1 c1]]) hmix (fun w14 hE => ?_))
      have H : HL F0 [] w0 w14 [Pr.R a0 [.int .i64 a0.Kind, .int .i64 a0.N, .int .i64 a0.Pos, .int .i64 a0.Type_, .string a0.Symbol, .string a0.Name, .slice A1 n1 c1], Pr.S a0.Args (.slice A1 n1 c1)] [It.B b1 31 [.int .i64 a0.Kind, .int .i64 a0.N, .int .i64 a0.Pos, .int .i64 a0.Type_, .string a0.Symbol, .string a0.Name, .slice A1 n1 c1], It.B b2 31 [.int .i64 a0.Kind, .int .i64 0, .int .i64 0, .int .i64 0, .string (⟨#[]⟩ : ByteArray), .string (⟨#[]⟩ : ByteArray), .slice A1 n1 c1]] := H.ext hE
      refine HW.take 0 ⟨_, _, H.keep 2 2⟩ rfl (by kernel_rfl) rfl rfl (fun _ _ => Ev.fa rfl fo31_2 rfl) ?_
      refine HW.take 1 ⟨_, _, H.keep 2 2⟩ rfl (by kernel_rfl) rfl rfl (fun _ ⟨_, _, hq⟩ => Ev.ld rfl ag3 rfl ((hq.rB (i := 0) rfl).cell rfl)) ?_
      refine HW.take 2 ⟨_, _, H.keep 2 2⟩ rfl (by kernel_rfl) rfl rfl (fun _ _ => Ev.fa rfl fo31_5 rfl) ?_
      refine HW.take 3 ⟨_, _, H.keep 2 2⟩ rfl (by kernel_rfl) rfl rfl (fun _ ⟨_, _, hq⟩ => Ev.ld rfl ag9 rfl ((hq.rB (i := 0) rfl).cell rfl)) ?_
      refine HW.take 4 ⟨_, _, H.keep 2 2⟩ rfl (by kernel_rfl) rfl rfl (fun _ _ => Ev.fa rfl fo31_2 rfl) ?_
      refine HW.eff 5 rfl (by kernel_rfl) ?_
      refine WL.stB (i := 1) rfl rfl rfl sz3 rfl rfl rfl rfl (all1 rfl all0) H rfl rfl rfl fun w15 H => ?_
      refine HW.next ⟨_, _, H.keep 2 2⟩ ?_
      refine HW.take 6 ⟨_, _, H.keep 2 2⟩ rfl (by kernel_rfl) rfl rfl (fun _ _ => Ev.fa rfl fo31_5 rfl) ?_
      refine HW.eff 7 rfl (by kernel_rfl) ?_
      refine WL.stB (i := 1) rfl rfl rfl sz9 rfl rfl rfl rfl (all1 rfl all0) H rfl rfl rfl fun w16 H => ?_
      refine HW.next ⟨_, _, H.keep 2 2⟩ ?_
      refine HW.done (by kernel_rfl) ?_
      refine CW.seq ?_
      refine CW.fresh [(1, .pointer (some ⟨b1, 0, none⟩)), (3, .pointer (some ⟨b2, 0, none⟩)), (4, .int .i64 0)] ⟨rfl, rfl, rfl, trivial⟩ fun σ => ?_
      have H : HL F0 [] w0 w16 [Pr.R a0 [.int .i64 a0.Kind, .int .i64 a0.N, .int .i64 a0.Pos, .int .i64 a0.Type_, .string a0.Symbol, .string a0.Name, .slice A1 n1 c1], Pr.S a0.Args (.slice A1 n1 c1)] [It.B b1 31 [.int .i64 a0.Kind, .int .i64 a0.N, .int .i64 a0.Pos, .int .i64 a0.Type_, .string a0.Symbol, .string a0.Name, .slice A1 n1 c1], It.B b2 31 [.int .i64 a0.Kind, .int .i64 0, .int .i64 a0.Pos, .int .i64 0, .string (⟨#[]⟩ : ByteArray), .string a0.Name, .slice A1 n1 c1]] := H
      refine CW.reg ?_
      refine WL.ev rfl rfl (Ev.fa rfl fo31_5 rfl) (WL.ev rfl rfl (Ev.ld rfl ag9 rfl ((H.rB (i := 0) rfl).cell rfl)) ?_)
      obtain ⟨y4, hy4, hr⟩ := bd hr
      refine WL.call rfl rfl rfl rfl rfl ok171 rfl (iIsValidName_ok hy4 (F0 := fun _ => False) hS2) ?_
      rintro _ w17 hE rfl
      have H := H.ext hE
      refine WL.ev rfl rfl (Ev.not rfl rfl) (WL.nil ?_)
      refine CW.condBN rfl (fun h8 => ?_) (fun h8 => ?_)
      · skip
        have hr := ifn h8 hr
        refine CW.seq (CW.reg ?_)
        refine WL.ev rfl rfl (Ev.as rfl rfl) (WL.nil ?_)
        refine CW.ret ?_
        obtain rfl := sm hr
        exact ⟨_, res1 rfl rfl rfl, H.ext0, rfl⟩
      · skip
        have hr := ifp h8 hr
        refine CW.skip ?_
        refine CW.seq (CW.reg ?_)
        refine WL.ev rfl rfl (Ev.fa rfl fo31_6 rfl) (WL.ev rfl rfl (Ev.ld rfl ag29 rfl ((H.rB (i := 0) rfl).cell rfl)) ?_)
        have hl2 := (H.rS (i := 1) rfl).I
        refine WL.ev rfl rfl (Ev.lenV rfl el29 rfl (H.rS (i := 1) rfl)) (WL.ev rfl rfl (Ev.mv rfl rfl) (WL.ev rfl rfl (Ev.bin rfl rfl rfl Bin.eql) ?_))
        obtain ⟨q5, hm5, hr⟩ := bd hr
        refine WL.cut 5 (fun ρ' w => ∃ (s5 : Bool), s5 = q5 ∧ agree ρ' [(1, .pointer (some ⟨b1, 0, none⟩)), (3, .pointer (some ⟨b2, 0, none⟩)), (94, .bool s5)] ∧ HL F0 [] w0 w [Pr.R a0 [.int .i64 a0.Kind, .int .i64 a0.N, .int .i64 a0.Pos, .int .i64 a0.Type_, .string a0.Symbol, .string a0.Name, .slice A1 n1 c1], Pr.S a0.Args (.slice A1 n1 c1)] [It.B b1 31 [.int .i64 a0.Kind, .int .i64 a0.N, .int .i64 a0.Pos, .int .i64 a0.Type_, .string a0.Symbol, .string a0.Name, .slice A1 n1 c1], It.B b2 31 [.int .i64 a0.Kind, .int .i64 0, .int .i64 a0.Pos, .int .i64 0, .string (⟨#[]⟩ : ByteArray), .string a0.Name, .slice A1 n1 c1]]) ?_ ?_
        · skip
          refine WL.mvD rfl rfl rfl rfl (fun h9 => ?_) (fun h9 => ?_)
          · skip
            have hm5 := ifp h9 hm5
            refine WL.on rfl rfl (WL.ev rfl rfl (Ev.fa rfl fo31_2 rfl) (WL.on rfl rfl (WL.ev rfl rfl (Ev.ld rfl ag3 rfl ((H.rB (i := 0) rfl).cell rfl)) (WL.on rfl rfl ?_))))
            obtain ⟨y5, hy5, hm5⟩ := bd hm5
            refine WL.call rfl rfl rfl rfl rfl ok109 rfl (iwithin_ok hy5 (F0 := fun _ => False) hI3 (by decide : I64 0) (by decide : I64 3)) ?_
            rintro _ w18 hE rfl
            have H := H.ext hE
            refine WL.ev rfl rfl (Ev.pickT rfl rfl rfl) (WL.nil ?_)
            obtain rfl := sm hm5
            exact ⟨y5, rfl, ⟨rfl, rfl, rfl, trivial⟩, H.keep 2 2⟩
          · skip
            have hm5 := ifn h9 hm5
            refine WL.off rfl rfl rfl (WL.off rfl rfl rfl (WL.off rfl rfl rfl (WL.ev rfl rfl (Ev.pickF rfl rfl rfl) (WL.nil ?_))))
            obtain rfl := sm hm5
            exact ⟨false, rfl, ⟨rfl, rfl, rfl, trivial⟩, H.keep 2 2⟩
        · rintro ρ' w19 ⟨s5, rfl, hag, H⟩
          obtain ⟨σ, rfl⟩ := ofL_ex hag
          obtain ⟨q6, hm6, hr⟩ := bd hr
          refine WL.cut 5 (fun ρ' w => ∃ (s6 : Bool), s6 = q6 ∧ agree ρ' [(99, .bool s6)] ∧ HL F0 [] w0 w [Pr.R a0 [.int .i64 a0.Kind, .int .i64 a0.N, .int .i64 a0.Pos, .int .i64 a0.Type_, .string a0.Symbol, .string a0.Name, .slice A1 n1 c1], Pr.S a0.Args (.slice A1 n1 c1)] [It.B b1 31 [.int .i64 a0.Kind, .int .i64 a0.N, .int .i64 a0.Pos, .int .i64 a0.Type_, .string a0.Symbol, .string a0.Name, .slice A1 n1 c1], It.B b2 31 [.int .i64 a0.Kind, .int .i64 0, .int .i64 a0.Pos, .int .i64 0, .string (⟨#[]⟩ : ByteArray), .string a0.Name, .slice A1 n1 c1]]) ?_ ?_
          · skip
            refine WL.mvB rfl rfl rfl rfl (fun h10 => ?_) (fun h10 => ?_)
            · skip
              have hm6 := ifp h10 hm6
              refine WL.on rfl rfl (WL.ev rfl rfl (Ev.lda rfl ag31 sz31 rfl (At.blk (H.rB (i := 0) rfl)) rfl) (WL.on rfl rfl (WL.ev rfl rfl (Ev.lda rfl ag31 sz31 rfl (At.blk (H.rB (i := 1) rfl)) rfl) (WL.on rfl rfl ?_))))
              obtain ⟨y6, hy6, hm6⟩ := bd hm6
              refine WL.call rfl rfl rfl rfl rfl ok172 rfl (isameNode_ok hy6 (Expr_rd.2 ⟨_, rfl, hI1, hI2, hI3, hI4, hS1, hS2, (H.rS (i := 1) rfl)⟩) (Expr_rd.2 ⟨_, rfl, hI1, (by decide : I64 0), hI3, (by decide : I64 0), (by decide : (⟨#[]⟩ : ByteArray).size ≤ 9223372036854775807), hS2, (H.rS (i := 1) rfl)⟩)) ?_
              rintro _ w20 hE rfl
              have H := H.ext hE
              refine WL.ev rfl rfl (Ev.pickT rfl rfl rfl) (WL.nil ?_)
              obtain rfl := sm hm6
              exact ⟨y6, rfl, ⟨rfl, trivial⟩, H.keep 2 2⟩
            · skip
              have hm6 := ifn h10 hm6
              refine WL.off rfl rfl rfl (WL.off rfl rfl rfl (WL.off rfl rfl rfl (WL.ev rfl rfl (Ev.pickF rfl rfl rfl) (WL.nil ?_))))
              obtain rfl := sm hm6
              exact ⟨false, rfl, ⟨rfl, trivial⟩, H.keep 2 2⟩
          · rintro ρ' w21 ⟨s6, rfl, hag, H⟩
            obtain ⟨σ, rfl⟩ := ofL_ex hag
            refine WL.ev rfl rfl (Ev.as rfl rfl) (WL.nil ?_)
            refine CW.ret ?_
            obtain rfl := sm hr
            exact ⟨_, res1 rfl rfl rfl, H.ext0, rfl⟩
    · skip
      have hr := ifn h7 hr
      refine CW.seq (CW.reg ?_)
      refine WL.ev rfl rfl (Ev.bin rfl rfl rfl Bin.eql) (WL.ev rfl rfl (Ev.as rfl rfl) (WL.nil ?_))
      refine CW.condD rfl (fun h11 => ?_) (fun h11 => ?_)
      · skip
        have hr := ifp h11 hr
        refine CW.seq (CW.reg ?_)
        refine WL.ev rfl rfl (Ev.fa rfl fo31_1 rfl) (WL.ev rfl rfl (Ev.ld rfl ag3 rfl ((H.rB (i := 0) rfl).cell rfl)) (WL.ev rfl rfl (Ev.fa rfl fo31_1 rfl) ?_))
        refine WL.stB (i := 1) rfl rfl rfl sz3 rfl rfl rfl rfl (all1 rfl all0) H rfl rfl rfl fun w22 H => ?_
        refine WL.ev rfl rfl (Ev.as rfl rfl) (WL.nil ?_)
        refine CW.seq ?_
        refine CW.fresh [(1, .pointer (some ⟨b1, 0, none⟩)), (3, .pointer (some ⟨b2, 0, none⟩)), (4, .int .i64 2)] ⟨rfl, rfl, rfl, trivial⟩ fun σ => ?_
        have H : HL F0 [] w0 w22 [Pr.R a0 [.int .i64 a0.Kind, .int .i64 a0.N, .int .i64 a0.Pos, .int .i64 a0.Type_, .string a0.Symbol, .string a0.Name, .slice A1 n1 c1], Pr.S a0.Args (.slice A1 n1 c1)] [It.B b1 31 [.int .i64 a0.Kind, .int .i64 a0.N, .int .i64 a0.Pos, .int .i64 a0.Type_, .string a0.Symbol, .string a0.Name, .slice A1 n1 c1], It.B b2 31 [.int .i64 a0.Kind, .int .i64 a0.N, .int .i64 0, .int .i64 0, .string (⟨#[]⟩ : ByteArray), .string (⟨#[]⟩ : ByteArray), .slice A1 n1 c1]] := H
        refine CW.reg ?_
        refine WL.ev rfl rfl (Ev.fa rfl fo31_1 rfl) (WL.ev rfl rfl (Ev.ld rfl ag3 rfl ((H.rB (i := 0) rfl).cell rfl)) ?_)
        obtain ⟨y7, hy7, hr⟩ := bd hr
        refine WL.call rfl rfl rfl rfl rfl ok109 rfl (iwithin_ok hy7 (F0 := fun _ => False) hI2 (by decide : I64 1) (by decide : I64 12)) ?_
        rintro _ w23 hE rfl
        have H := H.ext hE
        refine WL.ev rfl rfl (Ev.not rfl rfl) (WL.nil ?_)
        refine CW.condBN rfl (fun h12 => ?_) (fun h12 => ?_)
        · skip
          have hr := ifn h12 hr
          refine CW.seq (CW.reg ?_)
          refine WL.ev rfl rfl (Ev.as rfl rfl) (WL.nil ?_)
          refine CW.ret ?_
          obtain rfl := sm hr
          exact ⟨_, res1 rfl rfl rfl, H.ext0, rfl⟩
        · skip
          have hr := ifp h12 hr
          refine CW.skip ?_
          refine CW.seq (CW.reg ?_)
          refine WL.ev rfl rfl (Ev.fa rfl fo31_6 rfl) (WL.ev rfl rfl (Ev.ld rfl ag29 rfl ((H.rB (i := 0) rfl).cell rfl)) ?_)
          have hl3 := (H.rS (i := 1) rfl).I
          refine WL.ev rfl rfl (Ev.lenV rfl el29 rfl (H.rS (i := 1) rfl)) (WL.ev rfl rfl (Ev.mv rfl rfl) (WL.ev rfl rfl (Ev.bin rfl rfl rfl Bin.eql) ?_))
          obtain ⟨q7, hm7, hr⟩ := bd hr
          refine WL.cut 5 (fun ρ' w => ∃ (s7 : Bool), s7 = q7 ∧ agree ρ' [(1, .pointer (some ⟨b1, 0, none⟩)), (3, .pointer (some ⟨b2, 0, none⟩)), (94, .bool s7)] ∧ HL F0 [] w0 w [Pr.R a0 [.int .i64 a0.Kind, .int .i64 a0.N, .int .i64 a0.Pos, .int .i64 a0.Type_, .string a0.Symbol, .string a0.Name, .slice A1 n1 c1], Pr.S a0.Args (.slice A1 n1 c1)] [It.B b1 31 [.int .i64 a0.Kind, .int .i64 a0.N, .int .i64 a0.Pos, .int .i64 a0.Type_, .string a0.Symbol, .string a0.Name, .slice A1 n1 c1], It.B b2 31 [.int .i64 a0.Kind, .int .i64 a0.N, .int .i64 0, .int .i64 0, .string (⟨#[]⟩ : ByteArray), .string (⟨#[]⟩ : ByteArray), .slice A1 n1 c1]]) ?_ ?_
          · skip
            refine WL.mvD rfl rfl rfl rfl (fun h13 => ?_) (fun h13 => ?_)
            · skip
              have hm7 := ifp h13 hm7
              refine WL.on rfl rfl (WL.ev rfl rfl (Ev.fa rfl fo31_2 rfl) (WL.on rfl rfl (WL.ev rfl rfl (Ev.ld rfl ag3 rfl ((H.rB (i := 0) rfl).cell rfl)) (WL.on rfl rfl ?_))))
              obtain ⟨y8, hy8, hm7⟩ := bd hm7
              refine WL.call rfl rfl rfl rfl rfl ok109 rfl (iwithin_ok hy8 (F0 := fun _ => False) hI3 (by decide : I64 0) (by decide : I64 3)) ?_
              rintro _ w24 hE rfl
              have H := H.ext hE
              refine WL.ev rfl rfl (Ev.pickT rfl rfl rfl) (WL.nil ?_)
              obtain rfl := sm hm7
              exact ⟨y8, rfl, ⟨rfl, rfl, rfl, trivial⟩, H.keep 2 2⟩
            · skip
              have hm7 := ifn h13 hm7
              refine WL.off rfl rfl rfl (WL.off rfl rfl rfl (WL.off rfl rfl rfl (WL.ev rfl rfl (Ev.pickF rfl rfl rfl) (WL.nil ?_))))
              obtain rfl := sm hm7
              exact ⟨false, rfl, ⟨rfl, rfl, rfl, trivial⟩, H.keep 2 2⟩
          · rintro ρ' w25 ⟨s7, rfl, hag, H⟩
            obtain ⟨σ, rfl⟩ := ofL_ex hag
            obtain ⟨q8, hm8, hr⟩ := bd hr
            refine WL.cut 5 (fun ρ' w => ∃ (s8 : Bool), s8 = q8 ∧ agree ρ' [(99, .bool s8)] ∧ HL F0 [] w0 w [Pr.R a0 [.int .i64 a0.Kind, .int .i64 a0.N, .int .i64 a0.Pos, .int .i64 a0.Type_, .string a0.Symbol, .string a0.Name, .slice A1 n1 c1], Pr.S a0.Args (.slice A1 n1 c1)] [It.B b1 31 [.int .i64 a0.Kind, .int .i64 a0.N, .int .i64 a0.Pos, .int .i64 a0.Type_, .string a0.Symbol, .string a0.Name, .slice A1 n1 c1], It.B b2 31 [.int .i64 a0.Kind, .int .i64 a0.N, .int .i64 0, .int .i64 0, .string (⟨#[]⟩ : ByteArray), .string (⟨#[]⟩ : ByteArray), .slice A1 n1 c1]]) ?_ ?_
            · skip
              refine WL.mvB rfl rfl rfl rfl (fun h14 => ?_) (fun h14 => ?_)
              · skip
                have hm8 := ifp h14 hm8
                refine WL.on rfl rfl (WL.ev rfl rfl (Ev.lda rfl ag31 sz31 rfl (At.blk (H.rB (i := 0) rfl)) rfl) (WL.on rfl rfl (WL.ev rfl rfl (Ev.lda rfl ag31 sz31 rfl (At.blk (H.rB (i := 1) rfl)) rfl) (WL.on rfl rfl ?_))))
                obtain ⟨y9, hy9, hm8⟩ := bd hm8
                refine WL.call rfl rfl rfl rfl rfl ok172 rfl (isameNode_ok hy9 (Expr_rd.2 ⟨_, rfl, hI1, hI2, hI3, hI4, hS1, hS2, (H.rS (i := 1) rfl)⟩) (Expr_rd.2 ⟨_, rfl, hI1, hI2, (by decide : I64 0), (by decide : I64 0), (by decide : (⟨#[]⟩ : ByteArray).size ≤ 9223372036854775807), (by decide : (⟨#[]⟩ : ByteArray).size ≤ 9223372036854775807), (H.rS (i := 1) rfl)⟩)) ?_
                rintro _ w26 hE rfl
                have H := H.ext hE
                refine WL.ev rfl rfl (Ev.pickT rfl rfl rfl) (WL.nil ?_)
                obtain rfl := sm hm8
                exact ⟨y9, rfl, ⟨rfl, trivial⟩, H.keep 2 2⟩
              · skip
                have hm8 := ifn h14 hm8
                refine WL.off rfl rfl rfl (WL.off rfl rfl rfl (WL.off rfl rfl rfl (WL.ev rfl rfl (Ev.pickF rfl rfl rfl) (WL.nil ?_))))
                obtain rfl := sm hm8
                exact ⟨false, rfl, ⟨rfl, trivial⟩, H.keep 2 2⟩
            · rintro ρ' w27 ⟨s8, rfl, hag, H⟩
              obtain ⟨σ, rfl⟩ := ofL_ex hag
              refine WL.ev rfl rfl (Ev.as rfl rfl) (WL.nil ?_)
              refine CW.ret ?_
              obtain rfl := sm hr
              exact ⟨_, res1 rfl rfl rfl, H.ext0, rfl⟩
      · skip
        have hr := ifn h11 hr
        refine CW.seq (CW.reg ?_)
        refine WL.ev rfl rfl (Ev.bin rfl rfl rfl Bin.eql) (WL.ev rfl rfl (Ev.as rfl rfl) (WL.nil ?_))
        refine CW.condD rfl (fun h15 => ?_) (fun h15 => ?_)
        · skip
          have hr := ifp h15 hr
          refine CW.reg ?_
          refine WL.ev rfl rfl (Ev.as rfl rfl) (WL.nil ?_)
          refine CW.seq (CW.reg ?_)
          refine WL.ev rfl rfl (Ev.fa rfl fo31_6 rfl) (WL.ev rfl rfl (Ev.ld rfl ag29 rfl ((H.rB (i := 0) rfl).cell rfl)) ?_)
          have hl4 := (H.rS (i := 1) rfl).I
          refine WL.ev rfl rfl (Ev.lenV rfl el29 rfl (H.rS (i := 1) rfl)) (WL.ev rfl rfl (Ev.mv rfl rfl) (WL.ev rfl rfl (Ev.bin rfl rfl rfl Bin.eql) ?_))
          obtain ⟨q9, hm9, hr⟩ := bd hr
          refine WL.cut 5 (fun ρ' w => ∃ (s9 : Bool), s9 = q9 ∧ agree ρ' [(1, .pointer (some ⟨b1, 0, none⟩)), (2, .bool false), (3, .pointer (some ⟨b2, 0, none⟩)), (94, .bool s9)] ∧ HL F0 [] w0 w [Pr.R a0 [.int .i64 a0.Kind, .int .i64 a0.N, .int .i64 a0.Pos, .int .i64 a0.Type_, .string a0.Symbol, .string a0.Name, .slice A1 n1 c1], Pr.S a0.Args (.slice A1 n1 c1)] [It.B b1 31 [.int .i64 a0.Kind, .int .i64 a0.N, .int .i64 a0.Pos, .int .i64 a0.Type_, .string a0.Symbol, .string a0.Name, .slice A1 n1 c1], It.B b2 31 [.int .i64 a0.Kind, .int .i64 0, .int .i64 0, .int .i64 0, .string (⟨#[]⟩ : ByteArray), .string (⟨#[]⟩ : ByteArray), .slice A1 n1 c1]]) ?_ ?_
          · skip
            refine WL.mvD rfl rfl rfl rfl (fun h16 => ?_) (fun h16 => ?_)
            · skip
              have hm9 := ifp h16 hm9
              refine WL.on rfl rfl (WL.ev rfl rfl (Ev.fa rfl fo31_2 rfl) (WL.on rfl rfl (WL.ev rfl rfl (Ev.ld rfl ag3 rfl ((H.rB (i := 0) rfl).cell rfl)) (WL.on rfl rfl ?_))))
              obtain ⟨y10, hy10, hm9⟩ := bd hm9
              refine WL.call rfl rfl rfl rfl rfl ok109 rfl (iwithin_ok hy10 (F0 := fun _ => False) hI3 (by decide : I64 0) (by decide : I64 3)) ?_
              rintro _ w28 hE rfl
              have H := H.ext hE
              refine WL.ev rfl rfl (Ev.pickT rfl rfl rfl) (WL.nil ?_)
              obtain rfl := sm hm9
              exact ⟨y10, rfl, ⟨rfl, rfl, rfl, rfl, trivial⟩, H.keep 2 2⟩
            · skip
              have hm9 := ifn h16 hm9
              refine WL.off rfl rfl rfl (WL.off rfl rfl rfl (WL.off rfl rfl rfl (WL.ev rfl rfl (Ev.pickF rfl rfl rfl) (WL.nil ?_))))
              obtain rfl := sm hm9
              exact ⟨false, rfl, ⟨rfl, rfl, rfl, rfl, trivial⟩, H.keep 2 2⟩
          · rintro ρ' w29 ⟨s9, rfl, hag, H⟩
            obtain ⟨σ, rfl⟩ := ofL_ex hag
            obtain ⟨q10, hm10, hr⟩ := bd hr
            refine WL.cut 5 (fun ρ' w => ∃ (s10 : Bool), s10 = q10 ∧ agree ρ' [(2, .bool false), (99, .bool s10)] ∧ HL F0 [] w0 w [Pr.R a0 [.int .i64 a0.Kind, .int .i64 a0.N, .int .i64 a0.Pos, .int .i64 a0.Type_, .string a0.Symbol, .string a0.Name, .slice A1 n1 c1], Pr.S a0.Args (.slice A1 n1 c1)] [It.B b1 31 [.int .i64 a0.Kind, .int .i64 a0.N, .int .i64 a0.Pos, .int .i64 a0.Type_, .string a0.Symbol, .string a0.Name, .slice A1 n1 c1], It.B b2 31 [.int .i64 a0.Kind, .int .i64 0, .int .i64 0, .int .i64 0, .string (⟨#[]⟩ : ByteArray), .string (⟨#[]⟩ : ByteArray), .slice A1 n1 c1]]) ?_ ?_
            · skip
              refine WL.mvB rfl rfl rfl rfl (fun h17 => ?_) (fun h17 => ?_)
              · skip
                have hm10 := ifp h17 hm10
                refine WL.on rfl rfl (WL.ev rfl rfl (Ev.lda rfl ag31 sz31 rfl (At.blk (H.rB (i := 0) rfl)) rfl) (WL.on rfl rfl (WL.ev rfl rfl (Ev.lda rfl ag31 sz31 rfl (At.blk (H.rB (i := 1) rfl)) rfl) (WL.on rfl rfl ?_))))
                obtain ⟨y11, hy11, hm10⟩ := bd hm10
                refine WL.call rfl rfl rfl rfl rfl ok172 rfl (isameNode_ok hy11 (Expr_rd.2 ⟨_, rfl, hI1, hI2, hI3, hI4, hS1, hS2, (H.rS (i := 1) rfl)⟩) (Expr_rd.2 ⟨_, rfl, hI1, (by decide : I64 0), (by decide : I64 0), (by decide : I64 0), (by decide : (⟨#[]⟩ : ByteArray).size ≤ 9223372036854775807), (by decide : (⟨#[]⟩ : ByteArray).size ≤ 9223372036854775807), (H.rS (i := 1) rfl)⟩)) ?_
                rintro _ w30 hE rfl
                have H := H.ext hE
                refine WL.ev rfl rfl (Ev.pickT rfl rfl rfl) (WL.nil ?_)
                obtain rfl := sm hm10
                exact ⟨y11, rfl, ⟨rfl, rfl, trivial⟩, H.keep 2 2⟩
              · skip
                have hm10 := ifn h17 hm10
                refine WL.off rfl rfl rfl (WL.off rfl rfl rfl (WL.off rfl rfl rfl (WL.ev rfl rfl (Ev.pickF rfl rfl rfl) (WL.nil ?_))))
                obtain rfl := sm hm10
                exact ⟨false, rfl, ⟨rfl, rfl, trivial⟩, H.keep 2 2⟩
            · rintro ρ' w31 ⟨s10, rfl, hag, H⟩
              obtain ⟨σ, rfl⟩ := ofL_ex hag
              refine WL.ev rfl rfl (Ev.as rfl rfl) (WL.nil ?_)
              refine CW.ret ?_
              obtain rfl := sm hr
              exact ⟨_, res1 rfl rfl rfl, H.ext0, rfl⟩
        · skip
          have hr := ifn h15 hr
          refine CW.seq (CW.reg ?_)
          refine WL.ev rfl rfl (Ev.bin rfl rfl rfl Bin.eql) (WL.ev rfl rfl (Ev.as rfl rfl) (WL.nil ?_))
          refine CW.condD rfl (fun h18 => ?_) (fun h18 => ?_)
          · skip
            have hr := ifp h18 hr
            refine CW.fresh [(1, .pointer (some ⟨b1, 0, none⟩)), (3, .pointer (some ⟨b2, 0, none⟩)), (4, .int .i64 0)] ⟨rfl, rfl, rfl, trivial⟩ fun σ => ?_
            have H : HL F0 [] w0 w3 [Pr.R a0 [.int .i64 a0.Kind, .int .i64 a0.N, .int .i64 a0.Pos, .int .i64 a0.Type_, .string a0.Symbol, .string a0.Name, .slice A1 n1 c1], Pr.S a0.Args (.slice A1 n1 c1)] [It.B b1 31 [.int .i64 a0.Kind, .int .i64 a0.N, .int .i64 a0.Pos, .int .i64 a0.Type_, .string a0.Symbol, .string a0.Name, .slice A1 n1 c1], It.B b2 31 [.int .i64 a0.Kind, .int .i64 0, .int .i64 0, .int .i64 0, .string (⟨#[]⟩ : ByteArray), .string (⟨#[]⟩ : ByteArray), .slice A1 n1 c1]] := H
            refine CW.reg ?_
            refine WL.ev rfl rfl (Ev.fa rfl fo31_2 rfl) (WL.ev rfl rfl (Ev.ld rfl ag3 rfl ((H.rB (i := 0) rfl).cell rfl)) (WL.ev rfl rfl (Ev.fa rfl fo31_2 rfl) ?_))
            refine WL.stB (i := 1) rfl rfl rfl sz3 rfl rfl rfl rfl (all1 rfl all0) H rfl rfl rfl fun w32 H => ?_
            refine WL.nil ?_
            refine CW.seq (CW.reg ?_)
            refine WL.ev rfl rfl (Ev.fa rfl fo31_6 rfl) (WL.ev rfl rfl (Ev.ld rfl ag29 rfl ((H.rB (i := 0) rfl).cell rfl)) ?_)
            have hl5 := (H.rS (i := 1) rfl).I
            refine WL.ev rfl rfl (Ev.lenV rfl el29 rfl (H.rS (i := 1) rfl)) (WL.ev rfl rfl (Ev.mv rfl rfl) (WL.ev rfl rfl (Ev.bin rfl rfl rfl Bin.eql) ?_))
            obtain ⟨q11, hm11, hr⟩ := bd hr
            refine WL.cut 5 (fun ρ' w => ∃ (s11 : Bool), s11 = q11 ∧ agree ρ' [(1, .pointer (some ⟨b1, 0, none⟩)), (3, .pointer (some ⟨b2, 0, none⟩)), (94, .bool s11)] ∧ HL F0 [] w0 w [Pr.R a0 [.int .i64 a0.Kind, .int .i64 a0.N, .int .i64 a0.Pos, .int .i64 a0.Type_, .string a0.Symbol, .string a0.Name, .slice A1 n1 c1], Pr.S a0.Args (.slice A1 n1 c1)] [It.B b1 31 [.int .i64 a0.Kind, .int .i64 a0.N, .int .i64 a0.Pos, .int .i64 a0.Type_, .string a0.Symbol, .string a0.Name, .slice A1 n1 c1], It.B b2 31 [.int .i64 a0.Kind, .int .i64 0, .int .i64 a0.Pos, .int .i64 0, .string (⟨#[]⟩ : ByteArray), .string (⟨#[]⟩ : ByteArray), .slice A1 n1 c1]]) ?_ ?_
            · skip
              refine WL.mvD rfl rfl rfl rfl (fun h19 => ?_) (fun h19 => ?_)
              · skip
                have hm11 := ifp h19 hm11
                refine WL.on rfl rfl (WL.ev rfl rfl (Ev.fa rfl fo31_2 rfl) (WL.on rfl rfl (WL.ev rfl rfl (Ev.ld rfl ag3 rfl ((H.rB (i := 0) rfl).cell rfl)) (WL.on rfl rfl ?_))))
                obtain ⟨y12, hy12, hm11⟩ := bd hm11
                refine WL.call rfl rfl rfl rfl rfl ok109 rfl (iwithin_ok hy12 (F0 := fun _ => False) hI3 (by decide : I64 0) (by decide : I64 3)) ?_
                rintro _ w33 hE rfl
                have H := H.ext hE
                refine WL.ev rfl rfl (Ev.pickT rfl rfl rfl) (WL.nil ?_)
                obtain rfl := sm hm11
                exact ⟨y12, rfl, ⟨rfl, rfl, rfl, trivial⟩, H.keep 2 2⟩
              · skip
                have hm11 := ifn h19 hm11
                refine WL.off rfl rfl rfl (WL.off rfl rfl rfl (WL.off rfl rfl rfl (WL.ev rfl rfl (Ev.pickF rfl rfl rfl) (WL.nil ?_))))
                obtain rfl := sm hm11
                exact ⟨false, rfl, ⟨rfl, rfl, rfl, trivial⟩, H.keep 2 2⟩
            · rintro ρ' w34 ⟨s11, rfl, hag, H⟩
              obtain ⟨σ, rfl⟩ := ofL_ex hag
              obtain ⟨q12, hm12, hr⟩ := bd hr
              refine WL.cut 5 (fun ρ' w => ∃ (s12 : Bool), s12 = q12 ∧ agree ρ' [(99, .bool s12)] ∧ HL F0 [] w0 w [Pr.R a0 [.int .i64 a0.Kind, .int .i64 a0.N, .int .i64 a0.Pos, .int .i64 a0.Type_, .string a0.Symbol, .string a0.Name, .slice A1 n1 c1], Pr.S a0.Args (.slice A1 n1 c1)] [It.B b1 31 [.int .i64 a0.Kind, .int .i64 a0.N, .int .i64 a0.Pos, .int .i64 a0.Type_, .string a0.Symbol, .string a0.Name, .slice A1 n1 c1], It.B b2 31 [.int .i64 a0.Kind, .int .i64 0, .int .i64 a0.Pos, .int .i64 0, .string (⟨#[]⟩ : ByteArray), .string (⟨#[]⟩ : ByteArray), .slice A1 n1 c1]]) ?_ ?_
              · skip
                refine WL.mvB rfl rfl rfl rfl (fun h20 => ?_) (fun h20 => ?_)
                · skip
                  have hm12 := ifp h20 hm12
                  refine WL.on rfl rfl (WL.ev rfl rfl (Ev.lda rfl ag31 sz31 rfl (At.blk (H.rB (i := 0) rfl)) rfl) (WL.on rfl rfl (WL.ev rfl rfl (Ev.lda rfl ag31 sz31 rfl (At.blk (H.rB (i := 1) rfl)) rfl) (WL.on rfl rfl ?_))))
                  obtain ⟨y13, hy13, hm12⟩ := bd hm12
                  refine WL.call rfl rfl rfl rfl rfl ok172 rfl (isameNode_ok hy13 (Expr_rd.2 ⟨_, rfl, hI1, hI2, hI3, hI4, hS1, hS2, (H.rS (i := 1) rfl)⟩) (Expr_rd.2 ⟨_, rfl, hI1, (by decide : I64 0), hI3, (by decide : I64 0), (by decide : (⟨#[]⟩ : ByteArray).size ≤ 9223372036854775807), (by decide : (⟨#[]⟩ : ByteArray).size ≤ 9223372036854775807), (H.rS (i := 1) rfl)⟩)) ?_
                  rintro _ w35 hE rfl
                  have H := H.ext hE
                  refine WL.ev rfl rfl (Ev.pickT rfl rfl rfl) (WL.nil ?_)
                  obtain rfl := sm hm12
                  exact ⟨y13, rfl, ⟨rfl, trivial⟩, H.keep 2 2⟩
                · skip
                  have hm12 := ifn h20 hm12
                  refine WL.off rfl rfl rfl (WL.off rfl rfl rfl (WL.off rfl rfl rfl (WL.ev rfl rfl (Ev.pickF rfl rfl rfl) (WL.nil ?_))))
                  obtain rfl := sm hm12
                  exact ⟨false, rfl, ⟨rfl, trivial⟩, H.keep 2 2⟩
              · rintro ρ' w36 ⟨s12, rfl, hag, H⟩
                obtain ⟨σ, rfl⟩ := ofL_ex hag
                refine WL.ev rfl rfl (Ev.as rfl rfl) (WL.nil ?_)
                refine CW.ret ?_
                obtain rfl := sm hr
                exact ⟨_, res1 rfl rfl rfl, H.ext0, rfl⟩
          · skip
            have hr := ifn h18 hr
            refine CW.seq ?_
            refine CW.fresh [(1, .pointer (some ⟨b1, 0, none⟩)), (3, .pointer (some ⟨b2, 0, none⟩)), (4, .int .i64 0), (11, .int .i64 a0.Kind)] ⟨rfl, rfl, rfl, rfl, trivial⟩ fun σ => ?_
            have H : HL F0 [] w0 w3 [Pr.R a0 [.int .i64 a0.Kind, .int .i64 a0.N, .int .i64 a0.Pos, .int .i64 a0.Type_, .string a0.Symbol, .string a0.Name, .slice A1 n1 c1], Pr.S a0.Args (.slice A1 n1 c1)] [It.B b1 31 [.int .i64 a0.Kind, .int .i64 a0.N, .int .i64 a0.Pos, .int .i64 a0.Type_, .string a0.Symbol, .string a0.Name, .slice A1 n1 c1], It.B b2 31 [.int .i64 a0.Kind, .int .i64 0, .int .i64 0, .int .i64 0, .string (⟨#[]⟩ : ByteArray), .string (⟨#[]⟩ : ByteArray), .slice A1 n1 c1]] := H
            refine CW.reg ?_
            refine WL.ev rfl rfl (Ev.bin rfl rfl rfl Bin.eql) (WL.ev rfl rfl (Ev.as rfl rfl) (WL.nil ?_))
            refine CW.condD rfl (fun h21 => ?_) (fun h21 => ?_)
            · skip
              have hr := ifp h21 hr
              refine CW.seq (CW.held (fun w => ∃ v1_4_ : Value, ∃ v1_5_ : Value, HL F0 [] w0 w [Pr.R a0 [.int .i64 a0.Kind, .int .i64 a0.N, .int .i64 a0.Pos, .int .i64 a0.Type_, .string a0.Symbol, .string a0.Name, .slice A1 n1 c1], Pr.S a0.Args (.slice A1 n1 c1)] [It.B b1 31 [.int .i64 a0.Kind, .int .i64 a0.N, .int .i64 a0.Pos, .int .i64 a0.Type_, .string a0.Symbol, .string a0.Name, .slice A1 n1 c1], It.B b2 31 [.int .i64 a0.Kind, .int .i64 0, .int .i64 0, .int .i64 0, v1_4_, v1_5_, .slice A1 n1 c1]]) hmix (fun w37 hE => ?_))
              have H : HL F0 [] w0 w37 [Pr.R a0 [.int .i64 a0.Kind, .int .i64 a0.N, .int .i64 a0.Pos, .int .i64 a0.Type_, .string a0.Symbol, .string a0.Name, .slice A1 n1 c1], Pr.S a0.Args (.slice A1 n1 c1)] [It.B b1 31 [.int .i64 a0.Kind, .int .i64 a0.N, .int .i64 a0.Pos, .int .i64 a0.Type_, .string a0.Symbol, .string a0.Name, .slice A1 n1 c1], It.B b2 31 [.int .i64 a0.Kind, .int .i64 0, .int .i64 0, .int .i64 0, .string (⟨#[]⟩ : ByteArray), .string (⟨#[]⟩ : ByteArray), .slice A1 n1 c1]] := H.ext hE
              refine HW.take 0 ⟨_, _, H.keep 2 2⟩ rfl (by kernel_rfl) rfl rfl (fun _ _ => Ev.fa rfl fo31_4 rfl) ?_
              refine HW.take 1 ⟨_, _, H.keep 2 2⟩ rfl (by kernel_rfl) rfl rfl (fun _ ⟨_, _, hq⟩ => Ev.ld rfl ag9 rfl ((hq.rB (i := 0) rfl).cell rfl)) ?_
              refine HW.take 2 ⟨_, _, H.keep 2 2⟩ rfl (by kernel_rfl) rfl rfl (fun _ _ => Ev.fa rfl fo31_5 rfl) ?_
              refine HW.take 3 ⟨_, _, H.keep 2 2⟩ rfl (by kernel_rfl) rfl rfl (fun _ ⟨_, _, hq⟩ => Ev.ld rfl ag9 rfl ((hq.rB (i := 0) rfl).cell rfl)) ?_
              refine HW.take 4 ⟨_, _, H.keep 2 2⟩ rfl (by kernel_rfl) rfl rfl (fun _ _ => Ev.fa rfl fo31_4 rfl) ?_
              refine HW.eff 5 rfl (by kernel_rfl) ?_
              refine WL.stB (i := 1) rfl rfl rfl sz9 rfl rfl rfl rfl (all1 rfl all0) H rfl rfl rfl fun w38 H => ?_
              refine HW.next ⟨_, _, H.keep 2 2⟩ ?_
              refine HW.take 6 ⟨_, _, H.keep 2 2⟩ rfl (by kernel_rfl) rfl rfl (fun _ _ => Ev.fa rfl fo31_5 rfl) ?_
              refine HW.eff 7 rfl (by kernel_rfl) ?_
              refine WL.stB (i := 1) rfl rfl rfl sz9 rfl rfl rfl rfl (all1 rfl all0) H rfl rfl rfl fun w39 H => ?_
              refine HW.next ⟨_, _, H.keep 2 2⟩ ?_
              refine HW.take 8 ⟨_, _, H.keep 2 2⟩ rfl (by kernel_rfl) rfl rfl (fun _ _ => Ev.as rfl rfl) ?_
              refine HW.done (by kernel_rfl) ?_
              refine CW.seq (CW.reg ?_)
              refine WL.ev rfl rfl (Ev.fa rfl fo31_4 rfl) (WL.ev rfl rfl (Ev.ld rfl ag9 rfl ((H.rB (i := 0) rfl).cell rfl)) ?_)
              obtain ⟨y14, hy14, hr⟩ := bd hr
              refine WL.call rfl rfl rfl rfl rfl ok171 rfl (iIsValidName_ok hy14 (F0 := fun _ => False) hS1) ?_
              rintro _ w40 hE rfl
              have H := H.ext hE
              refine WL.ev rfl rfl (Ev.not rfl rfl) ?_
              obtain ⟨q13, hm13, hr⟩ := bd hr
              refine WL.cut 6 (fun ρ' w => ∃ (s13 : Bool), s13 = q13 ∧ agree ρ' [(1, .pointer (some ⟨b1, 0, none⟩)), (3, .pointer (some ⟨b2, 0, none⟩)), (4, .int .i64 1), (81, .bool s13)] ∧ HL F0 [] w0 w [Pr.R a0 [.int .i64 a0.Kind, .int .i64 a0.N, .int .i64 a0.Pos, .int .i64 a0.Type_, .string a0.Symbol, .string a0.Name, .slice A1 n1 c1], Pr.S a0.Args (.slice A1 n1 c1)] [It.B b1 31 [.int .i64 a0.Kind, .int .i64 a0.N, .int .i64 a0.Pos, .int .i64 a0.Type_, .string a0.Symbol, .string a0.Name, .slice A1 n1 c1], It.B b2 31 [.int .i64 a0.Kind, .int .i64 0, .int .i64 0, .int .i64 0, .string a0.Symbol, .string a0.Name, .slice A1 n1 c1]]) ?_ ?_
              · skip
                refine WL.mvBN rfl rfl rfl rfl (fun h22 => ?_) (fun h22 => ?_)
                · skip
                  have hm13 := ifn h22 hm13
                  refine WL.off rfl rfl rfl (WL.off rfl rfl rfl (WL.off rfl rfl rfl (WL.off rfl rfl rfl (WL.ev rfl rfl (Ev.pickT rfl rfl rfl) (WL.nil ?_)))))
                  obtain rfl := sm hm13
                  exact ⟨true, rfl, ⟨rfl, rfl, rfl, rfl, trivial⟩, H.keep 2 2⟩
                · skip
                  have hm13 := ifp h22 hm13
                  refine WL.on rfl rfl (WL.ev rfl rfl (Ev.fa rfl fo31_5 rfl) (WL.on rfl rfl (WL.ev rfl rfl (Ev.ld rfl ag9 rfl ((H.rB (i := 0) rfl).cell rfl)) (WL.on rfl rfl ?_))))
                  obtain ⟨y15, hy15, hm13⟩ := bd hm13
                  refine WL.call rfl rfl rfl rfl rfl ok171 rfl (iIsValidName_ok hy15 (F0 := fun _ => False) hS2) ?_
                  rintro _ w41 hE rfl
                  have H := H.ext hE
                  refine WL.on rfl rfl (WL.ev rfl rfl (Ev.not rfl rfl) (WL.ev rfl rfl (Ev.pickF rfl rfl rfl) (WL.nil ?_)))
                  obtain rfl := sm hm13
                  exact ⟨(!y15), rfl, ⟨rfl, rfl, rfl, rfl, trivial⟩, H.keep 2 2⟩
              · rintro ρ' w42 ⟨s13, rfl, hag, H⟩
                obtain ⟨σ, rfl⟩ := ofL_ex hag
                refine WL.nil ?_
                refine CW.condB rfl (fun h23 => ?_) (fun h23 => ?_)
                · skip
                  have hr := ifp h23 hr
                  refine CW.seq (CW.reg ?_)
                  refine WL.ev rfl rfl (Ev.as rfl rfl) (WL.nil ?_)
                  refine CW.ret ?_
                  obtain rfl := sm hr
                  exact ⟨_, res1 rfl rfl rfl, H.ext0, rfl⟩
                · skip
                  have hr := ifn h23 hr
                  refine CW.skip ?_
                  refine CW.seq (CW.reg ?_)
                  refine WL.ev rfl rfl (Ev.fa rfl fo31_6 rfl) (WL.ev rfl rfl (Ev.ld rfl ag29 rfl ((H.rB (i := 0) rfl).cell rfl)) ?_)
                  have hl6 := (H.rS (i := 1) rfl).I
                  refine WL.ev rfl rfl (Ev.lenV rfl el29 rfl (H.rS (i := 1) rfl)) (WL.ev rfl rfl (Ev.mv rfl rfl) (WL.ev rfl rfl (Ev.bin rfl rfl rfl Bin.eql) ?_))
                  obtain ⟨q14, hm14, hr⟩ := bd hr
                  refine WL.cut 5 (fun ρ' w => ∃ (s14 : Bool), s14 = q14 ∧ agree ρ' [(1, .pointer (some ⟨b1, 0, none⟩)), (3, .pointer (some ⟨b2, 0, none⟩)), (94, .bool s14)] ∧ HL F0 [] w0 w [Pr.R a0 [.int .i64 a0.Kind, .int .i64 a0.N, .int .i64 a0.Pos, .int .i64 a0.Type_, .string a0.Symbol, .string a0.Name, .slice A1 n1 c1], Pr.S a0.Args (.slice A1 n1 c1)] [It.B b1 31 [.int .i64 a0.Kind, .int .i64 a0.N, .int .i64 a0.Pos, .int .i64 a0.Type_, .string a0.Symbol, .string a0.Name, .slice A1 n1 c1], It.B b2 31 [.int .i64 a0.Kind, .int .i64 0, .int .i64 0, .int .i64 0, .string a0.Symbol, .string a0.Name, .slice A1 n1 c1]]) ?_ ?_
                  · skip
                    refine WL.mvD rfl rfl rfl rfl (fun h24 => ?_) (fun h24 => ?_)
                    · skip
                      have hm14 := ifp h24 hm14
                      refine WL.on rfl rfl (WL.ev rfl rfl (Ev.fa rfl fo31_2 rfl) (WL.on rfl rfl (WL.ev rfl rfl (Ev.ld rfl ag3 rfl ((H.rB (i := 0) rfl).cell rfl)) (WL.on rfl rfl ?_))))
                      obtain ⟨y16, hy16, hm14⟩ := bd hm14
                      refine WL.call rfl rfl rfl rfl rfl ok109 rfl (iwithin_ok hy16 (F0 := fun _ => False) hI3 (by decide : I64 0) (by decide : I64 3)) ?_
                      rintro _ w43 hE rfl
                      have H := H.ext hE
                      refine WL.ev rfl rfl (Ev.pickT rfl rfl rfl) (WL.nil ?_)
                      obtain rfl := sm hm14
                      exact ⟨y16, rfl, ⟨rfl, rfl, rfl, trivial⟩, H.keep 2 2⟩
                    · skip
                      have hm14 := ifn h24 hm14
                      refine WL.off rfl rfl rfl (WL.off rfl rfl rfl (WL.off rfl rfl rfl (WL.ev rfl rfl (Ev.pickF rfl rfl rfl) (WL.nil ?_))))
                      obtain rfl := sm hm14
                      exact ⟨false, rfl, ⟨rfl, rfl, rfl, trivial⟩, H.keep 2 2⟩
                  · rintro ρ' w44 ⟨s14, rfl, hag, H⟩
                    obtain ⟨σ, rfl⟩ := ofL_ex hag
                    obtain ⟨q15, hm15, hr⟩ := bd hr
                    refine WL.cut 5 (fun ρ' w => ∃ (s15 : Bool), s15 = q15 ∧ agree ρ' [(99, .bool s15)] ∧ HL F0 [] w0 w [Pr.R a0 [.int .i64 a0.Kind, .int .i64 a0.N, .int .i64 a0.Pos, .int .i64 a0.Type_, .string a0.Symbol, .string a0.Name, .slice A1 n1 c1], Pr.S a0.Args (.slice A1 n1 c1)] [It.B b1 31 [.int .i64 a0.Kind, .int .i64 a0.N, .int .i64 a0.Pos, .int .i64 a0.Type_, .string a0.Symbol, .string a0.Name, .slice A1 n1 c1], It.B b2 31 [.int .i64 a0.Kind, .int .i64 0, .int .i64 0, .int .i64 0, .string a0.Symbol, .string a0.Name, .slice A1 n1 c1]]) ?_ ?_
                    · skip
                      refine WL.mvB rfl rfl rfl rfl (fun h25 => ?_) (fun h25 => ?_)
                      · skip
                        have hm15 := ifp h25 hm15
                        refine WL.on rfl rfl (WL.ev rfl rfl (Ev.lda rfl ag31 sz31 rfl (At.blk (H.rB (i := 0) rfl)) rfl) (WL.on rfl rfl (WL.ev rfl rfl (Ev.lda rfl ag31 sz31 rfl (At.blk (H.rB (i := 1) rfl)) rfl) (WL.on rfl rfl ?_))))
                        obtain ⟨y17, hy17, hm15⟩ := bd hm15
                        refine WL.call rfl rfl rfl rfl rfl ok172 rfl (isameNode_ok hy17 (Expr_rd.2 ⟨_, rfl, hI1, hI2, hI3, hI4, hS1, hS2, (H.rS (i := 1) rfl)⟩) (Expr_rd.2 ⟨_, rfl, hI1, (by decide : I64 0), (by decide : I64 0), (by decide : I64 0), hS1, hS2, (H.rS (i := 1) rfl)⟩)) ?_
                        rintro _ w45 hE rfl
                        have H := H.ext hE
                        refine WL.ev rfl rfl (Ev.pickT rfl rfl rfl) (WL.nil ?_)
                        obtain rfl := sm hm15
                        exact ⟨y17, rfl, ⟨rfl, trivial⟩, H.keep 2 2⟩
                      · skip
                        have hm15 := ifn h25 hm15
                        refine WL.off rfl rfl rfl (WL.off rfl rfl rfl (WL.off rfl rfl rfl (WL.ev rfl rfl (Ev.pickF rfl rfl rfl) (WL.nil ?_))))
                        obtain rfl := sm hm15
                        exact ⟨false, rfl, ⟨rfl, trivial⟩, H.keep 2 2⟩
                    · rintro ρ' w46 ⟨s15, rfl, hag, H⟩
                      obtain ⟨σ, rfl⟩ := ofL_ex hag
                      refine WL.ev rfl rfl (Ev.as rfl rfl) (WL.nil ?_)
                      refine CW.ret ?_
                      obtain rfl := sm hr
                      exact ⟨_, res1 rfl rfl rfl, H.ext0, rfl⟩
            · skip
              have hr := ifn h21 hr
              refine CW.seq (CW.seq (CW.reg ?_))
              refine WL.ev rfl rfl (Ev.bin rfl rfl rfl Bin.eql) (WL.ev rfl rfl (Ev.as rfl rfl) (WL.nil ?_))
              refine CW.condD rfl (fun h26 => ?_) (fun h26 => ?_)
              · skip
                have hr := ifp h26 hr
                refine CW.skip ?_
                refine CW.condD rfl (fun h27 => ?_) (fun h27 => ?_)
                · skip
                  have hr := ifp h27 hr
                  refine CW.skip ?_
                  refine CW.seq (CW.reg ?_)
                  refine WL.ev rfl rfl (Ev.fa rfl fo31_6 rfl) (WL.ev rfl rfl (Ev.ld rfl ag29 rfl ((H.rB (i := 0) rfl).cell rfl)) ?_)
                  have hl7 := (H.rS (i := 1) rfl).I
                  refine WL.ev rfl rfl (Ev.lenV rfl el29 rfl (H.rS (i := 1) rfl)) (WL.ev rfl rfl (Ev.mv rfl rfl) (WL.ev rfl rfl (Ev.bin rfl rfl rfl Bin.eql) ?_))
                  obtain ⟨q16, hm16, hr⟩ := bd hr
                  refine WL.cut 5 (fun ρ' w => ∃ (s16 : Bool), s16 = q16 ∧ agree ρ' [(1, .pointer (some ⟨b1, 0, none⟩)), (3, .pointer (some ⟨b2, 0, none⟩)), (94, .bool s16)] ∧ HL F0 [] w0 w [Pr.R a0 [.int .i64 a0.Kind, .int .i64 a0.N, .int .i64 a0.Pos, .int .i64 a0.Type_, .string a0.Symbol, .string a0.Name, .slice A1 n1 c1], Pr.S a0.Args (.slice A1 n1 c1)] [It.B b1 31 [.int .i64 a0.Kind, .int .i64 a0.N, .int .i64 a0.Pos, .int .i64 a0.Type_, .string a0.Symbol, .string a0.Name, .slice A1 n1 c1], It.B b2 31 [.int .i64 a0.Kind, .int .i64 0, .int .i64 0, .int .i64 0, .string (⟨#[]⟩ : ByteArray), .string (⟨#[]⟩ : ByteArray), .slice A1 n1 c1]]) ?_ ?_
                  · skip
                    refine WL.mvD rfl rfl rfl rfl (fun h28 => ?_) (fun h28 => ?_)
                    · skip
                      have hm16 := ifp h28 hm16
                      refine WL.on rfl rfl (WL.ev rfl rfl (Ev.fa rfl fo31_2 rfl) (WL.on rfl rfl (WL.ev rfl rfl (Ev.ld rfl ag3 rfl ((H.rB (i := 0) rfl).cell rfl)) (WL.on rfl rfl ?_))))
                      obtain ⟨y18, hy18, hm16⟩ := bd hm16
                      refine WL.call rfl rfl rfl rfl rfl ok109 rfl (iwithin_ok hy18 (F0 := fun _ => False) hI3 (by decide : I64 0) (by decide : I64 3)) ?_
                      rintro _ w47 hE rfl
                      have H := H.ext hE
                      refine WL.ev rfl rfl (Ev.pickT rfl rfl rfl) (WL.nil ?_)
                      obtain rfl := sm hm16
                      exact ⟨y18, rfl, ⟨rfl, rfl, rfl, trivial⟩, H.keep 2 2⟩
                    · skip
                      have hm16 := ifn h28 hm16
                      refine WL.off rfl rfl rfl (WL.off rfl rfl rfl (WL.off rfl rfl rfl (WL.ev rfl rfl (Ev.pickF rfl rfl rfl) (WL.nil ?_))))
                      obtain rfl := sm hm16
                      exact ⟨false, rfl, ⟨rfl, rfl, rfl, trivial⟩, H.keep 2 2⟩
                  · rintro ρ' w48 ⟨s16, rfl, hag, H⟩
                    obtain ⟨σ, rfl⟩ := ofL_ex hag
                    obtain ⟨q17, hm17, hr⟩ := bd hr
                    refine WL.cut 5 (fun ρ' w => ∃ (s17 : Bool), s17 = q17 ∧ agree ρ' [(99, .bool s17)] ∧ HL F0 [] w0 w [Pr.R a0 [.int .i64 a0.Kind, .int .i64 a0.N, .int .i64 a0.Pos, .int .i64 a0.Type_, .string a0.Symbol, .string a0.Name, .slice A1 n1 c1], Pr.S a0.Args (.slice A1 n1 c1)] [It.B b1 31 [.int .i64 a0.Kind, .int .i64 a0.N, .int .i64 a0.Pos, .int .i64 a0.Type_, .string a0.Symbol, .string a0.Name, .slice A1 n1 c1], It.B b2 31 [.int .i64 a0.Kind, .int .i64 0, .int .i64 0, .int .i64 0, .string (⟨#[]⟩ : ByteArray), .string (⟨#[]⟩ : ByteArray), .slice A1 n1 c1]]) ?_ ?_
                    · skip
                      refine WL.mvB rfl rfl rfl rfl (fun h29 => ?_) (fun h29 => ?_)
                      · skip
                        have hm17 := ifp h29 hm17
                        refine WL.on rfl rfl (WL.ev rfl rfl (Ev.lda rfl ag31 sz31 rfl (At.blk (H.rB (i := 0) rfl)) rfl) (WL.on rfl rfl (WL.ev rfl rfl (Ev.lda rfl ag31 sz31 rfl (At.blk (H.rB (i := 1) rfl)) rfl) (WL.on rfl rfl ?_))))
                        obtain ⟨y19, hy19, hm17⟩ := bd hm17
                        refine WL.call rfl rfl rfl rfl rfl ok172 rfl (isameNode_ok hy19 (Expr_rd.2 ⟨_, rfl, hI1, hI2, hI3, hI4, hS1, hS2, (H.rS (i := 1) rfl)⟩) (Expr_rd.2 ⟨_, rfl, hI1, (by decide : I64 0), (by decide : I64 0), (by decide : I64 0), (by decide : (⟨#[]⟩ : ByteArray).size ≤ 9223372036854775807), (by decide : (⟨#[]⟩ : ByteArray).size ≤ 9223372036854775807), (H.rS (i := 1) rfl)⟩)) ?_
                        rintro _ w49 hE rfl
                        have H := H.ext hE
                        refine WL.ev rfl rfl (Ev.pickT rfl rfl rfl) (WL.nil ?_)
                        obtain rfl := sm hm17
                        exact ⟨y19, rfl, ⟨rfl, trivial⟩, H.keep 2 2⟩
                      · skip
                        have hm17 := ifn h29 hm17
                        refine WL.off rfl rfl rfl (WL.off rfl rfl rfl (WL.off rfl rfl rfl (WL.ev rfl rfl (Ev.pickF rfl rfl rfl) (WL.nil ?_))))
                        obtain rfl := sm hm17
                        exact ⟨false, rfl, ⟨rfl, trivial⟩, H.keep 2 2⟩
                    · rintro ρ' w50 ⟨s17, rfl, hag, H⟩
                      obtain ⟨σ, rfl⟩ := ofL_ex hag
                      refine WL.ev rfl rfl (Ev.as rfl rfl) (WL.nil ?_)
                      refine CW.ret ?_
                      obtain rfl := sm hr
                      exact ⟨_, res1 rfl rfl rfl, H.ext0, rfl⟩
                · skip
                  have hr := ifn h27 hr
                  refine CW.seq (CW.reg ?_)
                  refine WL.ev rfl rfl (Ev.as rfl rfl) (WL.nil ?_)
                  refine CW.ret ?_
                  obtain rfl := sm hr
                  exact ⟨_, res1 rfl rfl rfl, H.ext0, rfl⟩
              · skip
                have hr := ifn h26 hr
                refine CW.reg ?_
                refine WL.ev rfl rfl (Ev.bin rfl rfl rfl Bin.eql) (WL.ev rfl rfl (Ev.as rfl rfl) (WL.nil ?_))
                refine CW.condD rfl (fun h30 => ?_) (fun h30 => ?_)
                · skip
                  have hr := ifp h30 hr
                  refine CW.skip ?_
                  refine CW.seq (CW.reg ?_)
                  refine WL.ev rfl rfl (Ev.fa rfl fo31_6 rfl) (WL.ev rfl rfl (Ev.ld rfl ag29 rfl ((H.rB (i := 0) rfl).cell rfl)) ?_)
                  have hl8 := (H.rS (i := 1) rfl).I
                  refine WL.ev rfl rfl (Ev.lenV rfl el29 rfl (H.rS (i := 1) rfl)) (WL.ev rfl rfl (Ev.mv rfl rfl) (WL.ev rfl rfl (Ev.bin rfl rfl rfl Bin.eql) ?_))
                  obtain ⟨q18, hm18, hr⟩ := bd hr
                  refine WL.cut 5 (fun ρ' w => ∃ (s18 : Bool), s18 = q18 ∧ agree ρ' [(1, .pointer (some ⟨b1, 0, none⟩)), (3, .pointer (some ⟨b2, 0, none⟩)), (94, .bool s18)] ∧ HL F0 [] w0 w [Pr.R a0 [.int .i64 a0.Kind, .int .i64 a0.N, .int .i64 a0.Pos, .int .i64 a0.Type_, .string a0.Symbol, .string a0.Name, .slice A1 n1 c1], Pr.S a0.Args (.slice A1 n1 c1)] [It.B b1 31 [.int .i64 a0.Kind, .int .i64 a0.N, .int .i64 a0.Pos, .int .i64 a0.Type_, .string a0.Symbol, .string a0.Name, .slice A1 n1 c1], It.B b2 31 [.int .i64 a0.Kind, .int .i64 0, .int .i64 0, .int .i64 0, .string (⟨#[]⟩ : ByteArray), .string (⟨#[]⟩ : ByteArray), .slice A1 n1 c1]]) ?_ ?_
                  · skip
                    refine WL.mvD rfl rfl rfl rfl (fun h31 => ?_) (fun h31 => ?_)
                    · skip
                      have hm18 := ifp h31 hm18
                      refine WL.on rfl rfl (WL.ev rfl rfl (Ev.fa rfl fo31_2 rfl) (WL.on rfl rfl (WL.ev rfl rfl (Ev.ld rfl ag3 rfl ((H.rB (i := 0) rfl).cell rfl)) (WL.on rfl rfl ?_))))
                      obtain ⟨y20, hy20, hm18⟩ := bd hm18
                      refine WL.call rfl rfl rfl rfl rfl ok109 rfl (iwithin_ok hy20 (F0 := fun _ => False) hI3 (by decide : I64 0) (by decide : I64 3)) ?_
                      rintro _ w51 hE rfl
                      have H := H.ext hE
                      refine WL.ev rfl rfl (Ev.pickT rfl rfl rfl) (WL.nil ?_)
                      obtain rfl := sm hm18
                      exact ⟨y20, rfl, ⟨rfl, rfl, rfl, trivial⟩, H.keep 2 2⟩
                    · skip
                      have hm18 := ifn h31 hm18
                      refine WL.off rfl rfl rfl (WL.off rfl rfl rfl (WL.off rfl rfl rfl (WL.ev rfl rfl (Ev.pickF rfl rfl rfl) (WL.nil ?_))))
                      obtain rfl := sm hm18
                      exact ⟨false, rfl, ⟨rfl, rfl, rfl, trivial⟩, H.keep 2 2⟩
                  · rintro ρ' w52 ⟨s18, rfl, hag, H⟩
                    obtain ⟨σ, rfl⟩ := ofL_ex hag
                    obtain ⟨q19, hm19, hr⟩ := bd hr
                    refine WL.cut 5 (fun ρ' w => ∃ (s19 : Bool), s19 = q19 ∧ agree ρ' [(99, .bool s19)] ∧ HL F0 [] w0 w [Pr.R a0 [.int .i64 a0.Kind, .int .i64 a0.N, .int .i64 a0.Pos, .int .i64 a0.Type_, .string a0.Symbol, .string a0.Name, .slice A1 n1 c1], Pr.S a0.Args (.slice A1 n1 c1)] [It.B b1 31 [.int .i64 a0.Kind, .int .i64 a0.N, .int .i64 a0.Pos, .int .i64 a0.Type_, .string a0.Symbol, .string a0.Name, .slice A1 n1 c1], It.B b2 31 [.int .i64 a0.Kind, .int .i64 0, .int .i64 0, .int .i64 0, .string (⟨#[]⟩ : ByteArray), .string (⟨#[]⟩ : ByteArray), .slice A1 n1 c1]]) ?_ ?_
                    · skip
                      refine WL.mvB rfl rfl rfl rfl (fun h32 => ?_) (fun h32 => ?_)
                      · skip
                        have hm19 := ifp h32 hm19
                        refine WL.on rfl rfl (WL.ev rfl rfl (Ev.lda rfl ag31 sz31 rfl (At.blk (H.rB (i := 0) rfl)) rfl) (WL.on rfl rfl (WL.ev rfl rfl (Ev.lda rfl ag31 sz31 rfl (At.blk (H.rB (i := 1) rfl)) rfl) (WL.on rfl rfl ?_))))
                        obtain ⟨y21, hy21, hm19⟩ := bd hm19
                        refine WL.call rfl rfl rfl rfl rfl ok172 rfl (isameNode_ok hy21 (Expr_rd.2 ⟨_, rfl, hI1, hI2, hI3, hI4, hS1, hS2, (H.rS (i := 1) rfl)⟩) (Expr_rd.2 ⟨_, rfl, hI1, (by decide : I64 0), (by decide : I64 0), (by decide : I64 0), (by decide : (⟨#[]⟩ : ByteArray).size ≤ 9223372036854775807), (by decide : (⟨#[]⟩ : ByteArray).size ≤ 9223372036854775807), (H.rS (i := 1) rfl)⟩)) ?_
                        rintro _ w53 hE rfl
                        have H := H.ext hE
                        refine WL.ev rfl rfl (Ev.pickT rfl rfl rfl) (WL.nil ?_)
                        obtain rfl := sm hm19
                        exact ⟨y21, rfl, ⟨rfl, trivial⟩, H.keep 2 2⟩
                      · skip
                        have hm19 := ifn h32 hm19
                        refine WL.off rfl rfl rfl (WL.off rfl rfl rfl (WL.off rfl rfl rfl (WL.ev rfl rfl (Ev.pickF rfl rfl rfl) (WL.nil ?_))))
                        obtain rfl := sm hm19
                        exact ⟨false, rfl, ⟨rfl, trivial⟩, H.keep 2 2⟩
                    · rintro ρ' w54 ⟨s19, rfl, hag, H⟩
                      obtain ⟨σ, rfl⟩ := ofL_ex hag
                      refine WL.ev rfl rfl (Ev.as rfl rfl) (WL.nil ?_)
                      refine CW.ret ?_
                      obtain rfl := sm hr
                      exact ⟨_, res1 rfl rfl rfl, H.ext0, rfl⟩
                · skip
                  have hr := ifn h30 hr
                  refine CW.seq (CW.reg ?_)
                  refine WL.ev rfl rfl (Ev.as rfl rfl) (WL.nil ?_)
                  refine CW.ret ?_
                  obtain rfl := sm hr
                  exact ⟨_, res1 rfl rfl rfl, H.ext0, rfl⟩

noncomputable def ieveryNode_1_iexprNodeOk_m (rec_ieveryNode_iexprNodeOk : Expr → Option Bool) (a0 : Expr) : Option Bool :=
  (rec_ieveryNode_iexprNodeOk a0).bind fun y1 =>
  some (!y1)
theorem ieveryNode_1_iexprNodeOk_ok {rec_ieveryNode_iexprNodeOk : Expr → Option Bool} (ih_ieveryNode_iexprNodeOk : ∀ {a0 : Expr} {r : Bool}, rec_ieveryNode_iexprNodeOk a0 = some r → ∀ {F0 : Nat → Prop} {w0 : World} {ca0 : List Value} (ha0 : rd F0 w0 a0 ca0), Ret Try.prog 100 #[.agg ca0.toArray, .func (.func 150) #[] #[]] w0 (fun _ => False) fun v w => v = .bool r) {a0 : Expr} {r : Bool} (hr : ieveryNode_1_iexprNodeOk_m rec_ieveryNode_iexprNodeOk a0 = some r) {F0 : Nat → Prop} {w0 : World} {ca0 : List Value} (ha0 : rd F0 w0 a0 ca0) {b1p : Nat} (ha1 : F0 b1p ∧ At w0 b1p 0 [.func (.func 150) #[] #[]]) :
    Ret Try.prog 156 #[.agg ca0.toArray, .pointer (some ⟨b1p, 0, none⟩)] w0 (fun _ => False) fun v w => v = .bool r := by
  have H := (HL.start F0 w0).argR ha0
  obtain ⟨A1, n1, c1, rfl, hI1, hI2, hI3, hI4, hS1, hS2, H⟩ := op_Expr H (i := 0) rfl
  have H := H.argA ha1
  refine enter Try.func156 rfl rfl rfl ?_
  refine CW.seq (CW.reg ?_)
  refine WL.boxH rfl rfl rfl rfl rfl H fun b1 w1 H => ?_
  refine WL.ev rfl rfl (Ev.as rfl rfl) (WL.nil ?_)
  refine CW.seq (CW.reg ?_)
  refine WL.ev rfl rfl (Ev.lda rfl ag31 sz31 rfl (At.blk (H.rB (i := 0) rfl)) rfl) (WL.ev rfl rfl (Ev.ld rfl ag51 rfl ((H.rA (i := 2) rfl).cell0 rfl)) ?_)
  obtain ⟨y1, hy1, hr⟩ := bd hr
  refine WL.call rfl rfl rfl rfl rfl ok100 rfl (ih_ieveryNode_iexprNodeOk hy1 (F0 := fun q => q < _) (Expr_rd.2 ⟨_, rfl, hI1, hI2, hI3, hI4, hS1, hS2, (H.rS (i := 1) rfl)⟩)) ?_
  rintro _ w2 hE rfl
  have H := H.ext hE
  refine WL.ev rfl rfl (Ev.not rfl rfl) (WL.ev rfl rfl (Ev.as rfl rfl) (WL.nil ?_))
  refine CW.ret ?_
  obtain rfl := sm hr
  exact ⟨_, res1 rfl rfl rfl, H.ext0, rfl⟩

noncomputable def slices_IndexFunc_Expr_ieveryNode_1_iexprNodeOk_L1 (rec_ieveryNode_iexprNodeOk : Expr → Option Bool) : Nat → Expr → Unit → Option (Unit ⊕ Int) := fun k1 x1 _ => 
  (ieveryNode_1_iexprNodeOk_m rec_ieveryNode_iexprNodeOk x1).bind fun y1 =>
  if y1 = true then (
  some (.inr (k1 : Int))
  ) else (
  some (.inl ())
  )
noncomputable def slices_IndexFunc_Expr_ieveryNode_1_iexprNodeOk_m (rec_ieveryNode_iexprNodeOk : Expr → Option Bool) (a0 : (List Expr)) : Option Int :=
  (findL (slices_IndexFunc_Expr_ieveryNode_1_iexprNodeOk_L1 rec_ieveryNode_iexprNodeOk) 0 a0 ()).bind <| onr (fun r1 => some r1) fun _ =>
  some (-1)
theorem slices_IndexFunc_Expr_ieveryNode_1_iexprNodeOk_ok {rec_ieveryNode_iexprNodeOk : Expr → Option Bool} (ih_ieveryNode_iexprNodeOk : ∀ {a0 : Expr} {r : Bool}, rec_ieveryNode_iexprNodeOk a0 = some r → ∀ {F0 : Nat → Prop} {w0 : World} {ca0 : List Value} (ha0 : rd F0 w0 a0 ca0), Ret Try.prog 100 #[.agg ca0.toArray, .func (.func 150) #[] #[]] w0 (fun _ => False) fun v w => v = .bool r) {a0 : (List Expr)} {r : Int} (hr : slices_IndexFunc_Expr_ieveryNode_1_iexprNodeOk_m rec_ieveryNode_iexprNodeOk a0 = some r) {F0 : Nat → Prop} {w0 : World} {z0 : Value} (ha0 : rdS F0 w0 a0 z0) {b1_0p : Nat} (ha1_0 : F0 b1_0p ∧ At w0 b1_0p 0 [.func (.func 150) #[] #[]]) :
    Ret Try.prog 185 #[z0, .func (.func 156) #[] #[.pointer (some ⟨b1_0p, 0, none⟩)]] w0 (fun _ => False) fun v w => v = .int .i64 r ∧ I64 r := by
  obtain ⟨A0', n0', c0', rfl⟩ := ha0.form3
  have H := (HL.start F0 w0).argS ha0
  have H := H.argA ha1_0
  refine enter Try.func185 rfl rfl rfl ?_
  refine CW.seq (CW.reg ?_)
  refine WL.ev rfl rfl (Ev.as rfl rfl) (WL.nil ?_)
  refine CW.seq (CW.seq (CW.reg ?_))
  refine WL.ev rfl rfl (Ev.mv rfl rfl) ?_
  have hl1 := (H.rS (i := 0) rfl).I
  refine WL.ev rfl rfl (Ev.lenV rfl el29 rfl (H.rS (i := 0) rfl)) (WL.ev rfl rfl (Ev.mv rfl rfl) (WL.nil ?_))
  obtain ⟨q1, hq1, hr⟩ := bd hr
  refine CW.block (CW.loop (α := Nat) (fun k1 => [(0, .slice A0' n0' c0'), (1, .func (.func 156) #[] #[.pointer (some ⟨b1_0p, 0, none⟩)]), (7, .int .i64 (a0.length : Int)), (8, .int .i64 (k1 : Int))]) (fun k1 w => k1 ≤ a0.length ∧ findL (slices_IndexFunc_Expr_ieveryNode_1_iexprNodeOk_L1 rec_ieveryNode_iexprNodeOk) k1 (a0.drop k1) () = some q1 ∧ HL F0 [] w0 w [Pr.S a0 (.slice A0' n0' c0'), Pr.A b1_0p 0 [.func (.func 150) #[] #[]]] []) (fun k1 => a0.length - k1) 0 ⟨rfl, rfl, rfl, rfl, trivial⟩ ⟨Nat.zero_le _, hq1, H.keep 2 0⟩ ?_)
  rintro k1 σ w1 ⟨hk1, hq1, H⟩
  refine CW.seq (CW.reg ?_)
  refine WL.ev rfl rfl (Ev.bin rfl rfl rfl Bin.lss) (WL.nil ?_)
  refine CW.seq (CW.condD rfl (fun h1 => ?_) (fun h1 => ?_))
  · skip
    have hk2 := cast_lt h1
    obtain ⟨x1, z1, hx1, hb1, hs1, ht1⟩ := findL_go hq1 hk2
    refine CW.skip ?_
    refine CW.seq (CW.block (CW.seq (CW.reg ?_)))
    refine WL.ev rfl rfl (Ev.mv rfl rfl) (WL.ev rfl rfl (Ev.as rfl rfl) (WL.nil ?_))
    refine CW.seq (CW.reg ?_)
    refine WL.ev rfl rfl (Ev.mv rfl rfl) (WL.ev rfl rfl (Ev.mv rfl rfl) (WL.ev rfl rfl (Ev.mv rfl rfl) ?_))
    obtain ⟨b1, ob1, cb1, A1, n1, c1, hvb1, hI1, hI2, hI3, hI4, hS1, hS2, H⟩ := ixS_Expr H (i := 0) rfl hx1
    refine WL.ev rfl rfl (Ev.ixVN rfl el29 sz31 rfl hvb1 rfl (lt_of hx1)) (WL.ev rfl rfl (Ev.lda rfl ag31 sz31 rfl (H.rA (i := 2) rfl) rfl) ?_)
    obtain ⟨y1, hy1, hb1⟩ := bd hb1
    refine WL.call rfl rfl rfl rfl rfl ok156 rfl (ieveryNode_1_iexprNodeOk_ok ih_ieveryNode_iexprNodeOk hy1 (F0 := fun q => q < _) (Expr_rd.2 ⟨_, rfl, hI1, hI2, hI3, hI4, hS1, hS2, (H.rS (i := 4) rfl)⟩) ⟨H.rAl (i := 1) rfl, H.rA (i := 1) rfl⟩) ?_
    rintro _ w2 hE rfl
    have H := H.ext hE
    refine WL.nil ?_
    refine CW.condB rfl (fun h2 => ?_) (fun h2 => ?_)
    · skip
      have hb1 := ifp h2 hb1
      refine CW.seq (CW.reg ?_)
      refine WL.ev rfl rfl (Ev.mv rfl rfl) (WL.ev rfl rfl (Ev.as rfl rfl) (WL.nil ?_))
      refine CW.ret ?_
      obtain rfl := sm hb1
      obtain rfl := ht1 _ rfl
      obtain rfl := sm hr
      exact ⟨_, res1 rfl rfl rfl, H.ext0, rfl, (i64_nat hk2 hl1)⟩
    · skip
      have hb1 := ifn h2 hb1
      refine CW.skip ?_
      refine CW.reg ?_
      refine WL.ev rfl rfl (Ev.bin rfl rfl rfl (Bin.addN (a := k1) (b := 1) rfl (i64_succN hk2 hl1.2))) (WL.ev rfl rfl (Ev.mv rfl rfl) (WL.nil ?_))
      obtain rfl := sm hb1
      have hq1 := hs1 _ rfl
      exact ⟨(k1 + 1), ⟨rfl, rfl, rfl, rfl, trivial⟩, ⟨hk2, hq1, H.keep 2 0⟩, Nat.sub_lt_sub_left hk2 (Nat.lt_succ_self _)⟩
  · skip
    obtain rfl := findL_end hq1 (not_cast_lt h1)
    have hr := (onr_inl _ _ _).symm.trans hr
    refine CW.exit ?_
    refine CW.seq (CW.reg ?_)
    refine WL.ev rfl rfl (Ev.as rfl rfl) (WL.nil ?_)
    refine CW.ret ?_
    obtain rfl := sm hr
    exact ⟨_, res1 rfl rfl rfl, H.ext0, rfl, (by decide : I64 (-1))⟩

noncomputable def slices_ContainsFunc_Expr_ieveryNode_1_iexprNodeOk_m (rec_ieveryNode_iexprNodeOk : Expr → Option Bool) (a0 : (List Expr)) : Option Bool :=
  (slices_IndexFunc_Expr_ieveryNode_1_iexprNodeOk_m rec_ieveryNode_iexprNodeOk a0).bind fun y1 =>
  some (decide (0 ≤ y1))
theorem slices_ContainsFunc_Expr_ieveryNode_1_iexprNodeOk_ok {rec_ieveryNode_iexprNodeOk : Expr → Option Bool} (ih_ieveryNode_iexprNodeOk : ∀ {a0 : Expr} {r : Bool}, rec_ieveryNode_iexprNodeOk a0 = some r → ∀ {F0 : Nat → Prop} {w0 : World} {ca0 : List Value} (ha0 : rd F0 w0 a0 ca0), Ret Try.prog 100 #[.agg ca0.toArray, .func (.func 150) #[] #[]] w0 (fun _ => False) fun v w => v = .bool r) {a0 : (List Expr)} {r : Bool} (hr : slices_ContainsFunc_Expr_ieveryNode_1_iexprNodeOk_m rec_ieveryNode_iexprNodeOk a0 = some r) {F0 : Nat → Prop} {w0 : World} {z0 : Value} (ha0 : rdS F0 w0 a0 z0) {b1_0p : Nat} (ha1_0 : F0 b1_0p ∧ At w0 b1_0p 0 [.func (.func 150) #[] #[]]) :
    Ret Try.prog 155 #[z0, .func (.func 156) #[] #[.pointer (some ⟨b1_0p, 0, none⟩)]] w0 (fun _ => False) fun v w => v = .bool r := by
  obtain ⟨A0', n0', c0', rfl⟩ := ha0.form3
  have H := (HL.start F0 w0).argS ha0
  have H := H.argA ha1_0
  refine enter Try.func155 rfl rfl rfl ?_
  refine CW.seq (CW.reg ?_)
  refine WL.ev rfl rfl (Ev.as rfl rfl) (WL.nil ?_)
  refine CW.seq (CW.reg ?_)
  refine WL.ev rfl rfl (Ev.mv rfl rfl) (WL.ev rfl rfl (Ev.mv rfl rfl) ?_)
  obtain ⟨y1, hy1, hr⟩ := bd hr
  refine WL.call rfl rfl rfl rfl rfl ok185 rfl (slices_IndexFunc_Expr_ieveryNode_1_iexprNodeOk_ok ih_ieveryNode_iexprNodeOk hy1 (F0 := fun q => q < _) (H.rS (i := 0) rfl) ⟨H.rAl (i := 1) rfl, H.rA (i := 1) rfl⟩) ?_
  rintro _ w1 hE ⟨rfl, hI1⟩
  have H := H.ext hE
  refine WL.ev rfl rfl (Ev.bin rfl rfl rfl Bin.geq) (WL.ev rfl rfl (Ev.as rfl rfl) (WL.nil ?_))
  refine CW.ret ?_
  obtain rfl := sm hr
  exact ⟨_, res1 rfl rfl rfl, H.ext0, rfl⟩

noncomputable def ieveryNode_iexprNodeOk_B (rec_ieveryNode_iexprNodeOk : Expr → Option Bool) (a0 : Expr) : Option Bool :=
  (iexprNodeOk_m a0).bind fun y1 =>
  if y1 = true then (
  (slices_ContainsFunc_Expr_ieveryNode_1_iexprNodeOk_m rec_ieveryNode_iexprNodeOk a0.Args).bind fun y2 =>
  some (!y2)
  ) else (
  some false
  )
theorem ieveryNode_iexprNodeOk_okB {rec_ieveryNode_iexprNodeOk : Expr → Option Bool} (ih_ieveryNode_iexprNodeOk : ∀ {a0 : Expr} {r : Bool}, rec_ieveryNode_iexprNodeOk a0 = some r → ∀ {F0 : Nat → Prop} {w0 : World} {ca0 : List Value} (ha0 : rd F0 w0 a0 ca0), Ret Try.prog 100 #[.agg ca0.toArray, .func (.func 150) #[] #[]] w0 (fun _ => False) fun v w => v = .bool r) {a0 : Expr} {r : Bool} (hr : ieveryNode_iexprNodeOk_B rec_ieveryNode_iexprNodeOk a0 = some r) {F0 : Nat → Prop} {w0 : World} {ca0 : List Value} (ha0 : rd F0 w0 a0 ca0) :
    Ret Try.prog 100 #[.agg ca0.toArray, .func (.func 150) #[] #[]] w0 (fun _ => False) fun v w => v = .bool r := by
  have H := (HL.start F0 w0).argR ha0
  obtain ⟨A1, n1, c1, rfl, hI1, hI2, hI3, hI4, hS1, hS2, H⟩ := op_Expr H (i := 0) rfl
  refine enter Try.func100 rfl rfl rfl ?_
  refine CW.seq (CW.reg ?_)
  refine WL.boxH rfl rfl rfl rfl rfl H fun b1 w1 H => ?_
  refine WL.boxH rfl rfl rfl rfl rfl H fun b2 w2 H => ?_
  refine WL.ev rfl rfl (Ev.as rfl rfl) (WL.nil ?_)
  refine CW.seq (CW.reg ?_)
  refine WL.ev rfl rfl (Ev.ld rfl ag51 rfl ((H.rB (i := 1) rfl).cell rfl)) (WL.ev rfl rfl (Ev.lda rfl ag31 sz31 rfl (At.blk (H.rB (i := 0) rfl)) rfl) ?_)
  obtain ⟨y1, hy1, hr⟩ := bd hr
  refine WL.call rfl rfl rfl rfl rfl ok150 rfl (iexprNodeOk_ok hy1 (Expr_rd.2 ⟨_, rfl, hI1, hI2, hI3, hI4, hS1, hS2, (H.rS (i := 1) rfl)⟩)) ?_
  rintro _ w3 hE rfl
  have H := H.ext hE
  refine WL.mvB rfl rfl rfl rfl (fun h1 => ?_) (fun h1 => ?_)
  · skip
    have hr := ifp h1 hr
    refine WL.on rfl rfl (WL.ev rfl rfl (Ev.fa rfl fo31_6 rfl) (WL.on rfl rfl (WL.ev rfl rfl (Ev.ld rfl ag29 rfl ((H.rB (i := 0) rfl).cell rfl)) (WL.on rfl rfl (WL.ev rfl rfl (Ev.mkfL rfl rfl rfl) (WL.on rfl rfl ?_))))))
    obtain ⟨y2, hy2, hr⟩ := bd hr
    refine WL.call rfl rfl rfl rfl rfl ok155 rfl (slices_ContainsFunc_Expr_ieveryNode_1_iexprNodeOk_ok ih_ieveryNode_iexprNodeOk hy2 (F0 := fun q => q < _) (H.rS (i := 1) rfl) ⟨(H.rB (i := 1) rfl).lt, At.blk (H.rB (i := 1) rfl)⟩) ?_
    rintro _ w4 hE rfl
    have H := H.ext hE
    refine WL.on rfl rfl (WL.ev rfl rfl (Ev.not rfl rfl) (WL.ev rfl rfl (Ev.pickT rfl rfl rfl) (WL.ev rfl rfl (Ev.as rfl rfl) (WL.nil ?_))))
    refine CW.ret ?_
    obtain rfl := sm hr
    exact ⟨_, res1 rfl rfl rfl, H.ext0, rfl⟩
  · skip
    have hr := ifn h1 hr
    refine WL.off rfl rfl rfl (WL.off rfl rfl rfl (WL.off rfl rfl rfl (WL.off rfl rfl rfl (WL.off rfl rfl rfl (WL.ev rfl rfl (Ev.pickF rfl rfl rfl) (WL.ev rfl rfl (Ev.as rfl rfl) (WL.nil ?_)))))))
    refine CW.ret ?_
    obtain rfl := sm hr
    exact ⟨_, res1 rfl rfl rfl, H.ext0, rfl⟩
noncomputable def ieveryNode_iexprNodeOk_n : Nat → Expr → Option Bool
  | 0, _ => none
  | n + 1, a0 => ieveryNode_iexprNodeOk_B (ieveryNode_iexprNodeOk_n n) a0
noncomputable def ieveryNode_iexprNodeOk_m (a0 : Expr) : Option Bool := recO fun n => ieveryNode_iexprNodeOk_n n a0
theorem ieveryNode_iexprNodeOk_okn (n : Nat) : ∀ {a0 : Expr} {r : Bool}, ieveryNode_iexprNodeOk_n n a0 = some r → ∀ {F0 : Nat → Prop} {w0 : World} {ca0 : List Value} (ha0 : rd F0 w0 a0 ca0), Ret Try.prog 100 #[.agg ca0.toArray, .func (.func 150) #[] #[]] w0 (fun _ => False) fun v w => v = .bool r := by
  induction n with
  | zero => intro a0 r hr; exact nomatch (show (none : Option Bool) = some r from hr)
  | succ n ih => intro a0 r hr; exact ieveryNode_iexprNodeOk_okB ih hr
theorem ieveryNode_iexprNodeOk_ok {a0 : Expr} {r : Bool} (hr : ieveryNode_iexprNodeOk_m a0 = some r) {F0 : Nat → Prop} {w0 : World} {ca0 : List Value} (ha0 : rd F0 w0 a0 ca0) :
    Ret Try.prog 100 #[.agg ca0.toArray, .func (.func 150) #[] #[]] w0 (fun _ => False) fun v w => v = .bool r := by
  obtain ⟨n, hn⟩ := recO_some hr
  exact ieveryNode_iexprNodeOk_okn n hn ha0

noncomputable def iIsValidExpr_m (a0 : Expr) : Option Bool :=
  (iCountExpr_m a0).bind fun y1 =>
  (
  if y1 ≤ 24 then (
  (iDepthOfExpr_m a0).bind fun y2 =>
  some (decide (y2 ≤ 6))
  ) else (
  some false
  )
  ).bind fun s1 =>
  (
  if s1 = true then (
  (ieveryNode_iexprNodeOk_m a0).bind fun y3 =>
  some y3
  ) else (
  some false
  )
  ).bind fun s2 =>
  some s2
theorem iIsValidExpr_ok {a0 : Expr} {r : Bool} (hr : iIsValidExpr_m a0 = some r) {F0 : Nat → Prop} {w0 : World} {ca0 : List Value} (ha0 : rd F0 w0 a0 ca0) :
    Ret Try.prog 87 #[.agg ca0.toArray] w0 (fun _ => False) fun v w => v = .bool r := by
  have H := (HL.start F0 w0).argR ha0
  obtain ⟨A1, n1, c1, rfl, hI1, hI2, hI3, hI4, hS1, hS2, H⟩ := op_Expr H (i := 0) rfl
  refine enter Try.func87 rfl rfl rfl ?_
  refine CW.seq (CW.reg ?_)
  refine WL.boxH rfl rfl rfl rfl rfl H fun b1 w1 H => ?_
  refine WL.ev rfl rfl (Ev.as rfl rfl) (WL.nil ?_)
  refine CW.seq (CW.reg ?_)
  refine WL.ev rfl rfl (Ev.lda rfl ag31 sz31 rfl (At.blk (H.rB (i := 0) rfl)) rfl) ?_
  obtain ⟨y1, hy1, hr⟩ := bd hr
  refine WL.call rfl rfl rfl rfl rfl ok148 rfl (iCountExpr_ok hy1 (Expr_rd.2 ⟨_, rfl, hI1, hI2, hI3, hI4, hS1, hS2, (H.rS (i := 1) rfl)⟩)) ?_
  rintro _ w2 hE ⟨rfl, hI5⟩
  have H := H.ext hE
  refine WL.ev rfl rfl (Ev.bin rfl rfl rfl Bin.leq) ?_
  obtain ⟨q1, hm1, hr⟩ := bd hr
  refine WL.cut 5 (fun ρ' w => ∃ (s1 : Bool), s1 = q1 ∧ agree ρ' [(1, .pointer (some ⟨b1, 0, none⟩)), (2, .bool false), (10, .bool s1)] ∧ HL F0 [] w0 w [Pr.R a0 [.int .i64 a0.Kind, .int .i64 a0.N, .int .i64 a0.Pos, .int .i64 a0.Type_, .string a0.Symbol, .string a0.Name, .slice A1 n1 c1], Pr.S a0.Args (.slice A1 n1 c1)] [It.B b1 31 [.int .i64 a0.Kind, .int .i64 a0.N, .int .i64 a0.Pos, .int .i64 a0.Type_, .string a0.Symbol, .string a0.Name, .slice A1 n1 c1]]) ?_ ?_
  · skip
    refine WL.mvD rfl rfl rfl rfl (fun h1 => ?_) (fun h1 => ?_)
    · skip
      have hm1 := ifp h1 hm1
      refine WL.on rfl rfl (WL.ev rfl rfl (Ev.lda rfl ag31 sz31 rfl (At.blk (H.rB (i := 0) rfl)) rfl) (WL.on rfl rfl ?_))
      obtain ⟨y2, hy2, hm1⟩ := bd hm1
      refine WL.call rfl rfl rfl rfl rfl ok149 rfl (iDepthOfExpr_ok hy2 (Expr_rd.2 ⟨_, rfl, hI1, hI2, hI3, hI4, hS1, hS2, (H.rS (i := 1) rfl)⟩)) ?_
      rintro _ w3 hE ⟨rfl, hI6⟩
      have H := H.ext hE
      refine WL.on rfl rfl (WL.ev rfl rfl (Ev.bin rfl rfl rfl Bin.leq) (WL.ev rfl rfl (Ev.pickT rfl rfl rfl) (WL.nil ?_)))
      obtain rfl := sm hm1
      exact ⟨(decide (y2 ≤ 6)), rfl, ⟨rfl, rfl, rfl, trivial⟩, H.keep 2 1⟩
    · skip
      have hm1 := ifn h1 hm1
      refine WL.off rfl rfl rfl (WL.off rfl rfl rfl (WL.off rfl rfl rfl (WL.ev rfl rfl (Ev.pickF rfl rfl rfl) (WL.nil ?_))))
      obtain rfl := sm hm1
      exact ⟨false, rfl, ⟨rfl, rfl, rfl, trivial⟩, H.keep 2 1⟩
  · rintro ρ' w4 ⟨s1, rfl, hag, H⟩
    obtain ⟨σ, rfl⟩ := ofL_ex hag
    obtain ⟨q2, hm2, hr⟩ := bd hr
    refine WL.cut 4 (fun ρ' w => ∃ (s2 : Bool), s2 = q2 ∧ agree ρ' [(2, .bool false), (14, .bool s2)] ∧ HL F0 [] w0 w [Pr.R a0 [.int .i64 a0.Kind, .int .i64 a0.N, .int .i64 a0.Pos, .int .i64 a0.Type_, .string a0.Symbol, .string a0.Name, .slice A1 n1 c1], Pr.S a0.Args (.slice A1 n1 c1)] [It.B b1 31 [.int .i64 a0.Kind, .int .i64 a0.N, .int .i64 a0.Pos, .int .i64 a0.Type_, .string a0.Symbol, .string a0.Name, .slice A1 n1 c1]]) ?_ ?_
    · skip
      refine WL.mvB rfl rfl rfl rfl (fun h2 => ?_) (fun h2 => ?_)
      · skip
        have hm2 := ifp h2 hm2
        refine WL.on rfl rfl (WL.ev rfl rfl (Ev.lda rfl ag31 sz31 rfl (At.blk (H.rB (i := 0) rfl)) rfl) (WL.on rfl rfl ?_))
        obtain ⟨y3, hy3, hm2⟩ := bd hm2
        refine WL.call rfl rfl rfl rfl rfl ok100 rfl (ieveryNode_iexprNodeOk_ok hy3 (F0 := fun q => q < _) (Expr_rd.2 ⟨_, rfl, hI1, hI2, hI3, hI4, hS1, hS2, (H.rS (i := 1) rfl)⟩)) ?_
        rintro _ w5 hE rfl
        have H := H.ext hE
        refine WL.ev rfl rfl (Ev.pickT rfl rfl rfl) (WL.nil ?_)
        obtain rfl := sm hm2
        exact ⟨y3, rfl, ⟨rfl, rfl, trivial⟩, H.keep 2 1⟩
      · skip
        have hm2 := ifn h2 hm2
        refine WL.off rfl rfl rfl (WL.off rfl rfl rfl (WL.ev rfl rfl (Ev.pickF rfl rfl rfl) (WL.nil ?_)))
        obtain rfl := sm hm2
        exact ⟨false, rfl, ⟨rfl, rfl, trivial⟩, H.keep 2 1⟩
    · rintro ρ' w6 ⟨s2, rfl, hag, H⟩
      obtain ⟨σ, rfl⟩ := ofL_ex hag
      refine WL.ev rfl rfl (Ev.as rfl rfl) (WL.nil ?_)
      refine CW.ret ?_
      obtain rfl := sm hr
      exact ⟨_, res1 rfl rfl rfl, H.ext0, rfl⟩

noncomputable def iSlotValue_L1 (a1 : Occurrence) : Nat → Slot → Unit → Option (Unit ⊕ Int) := fun k1 x1 _ => 
  if x1.At = a1 then (
  some (.inr x1.Value)
  ) else (
  some (.inl ())
  )
noncomputable def iSlotValue_m (a0 : (List Slot)) (a1 : Occurrence) : Option Int :=
  (findL (iSlotValue_L1 a1) 0 a0 ()).bind <| onr (fun r1 => some r1) fun _ =>
  some 0
theorem iSlotValue_ok {a0 : (List Slot)} {a1 : Occurrence} {r : Int} (hr : iSlotValue_m a0 a1 = some r) {F0 : Nat → Prop} {w0 : World} {z0 : Value} (ha0 : rdS F0 w0 a0 z0) {ca1 : List Value} (ha1 : rd F0 w0 a1 ca1) :
    Ret Try.prog 28 #[z0, .agg ca1.toArray] w0 (fun _ => False) fun v w => v = .int .i64 r ∧ I64 r := by
  obtain ⟨A0', n0', c0', rfl⟩ := ha0.form3
  have H := ((HL.start F0 w0).argS ha0).argR ha1
  obtain ⟨rfl, hI1, hS1, H⟩ := op_Occurrence H (i := 1) rfl
  refine enter Try.func28 rfl rfl rfl ?_
  refine CW.seq (CW.reg ?_)
  refine WL.boxH rfl rfl rfl rfl rfl H fun b1 w1 H => ?_
  refine WL.ev rfl rfl (Ev.as rfl rfl) (WL.nil ?_)
  refine CW.seq (CW.seq (CW.reg ?_))
  refine WL.ev rfl rfl (Ev.mv rfl rfl) ?_
  have hl1 := (H.rS (i := 0) rfl).I
  refine WL.ev rfl rfl (Ev.lenV rfl el40 rfl (H.rS (i := 0) rfl)) (WL.ev rfl rfl (Ev.mv rfl rfl) (WL.nil ?_))
  obtain ⟨q1, hq1, hr⟩ := bd hr
  refine CW.block (CW.loop (α := Nat) (fun k1 => [(3, .pointer (some ⟨b1, 0, none⟩)), (7, .slice A0' n0' c0'), (8, .int .i64 (a0.length : Int)), (9, .int .i64 (k1 : Int))]) (fun k1 w => k1 ≤ a0.length ∧ findL (iSlotValue_L1 a1) k1 (a0.drop k1) () = some q1 ∧ HL F0 [] w0 w [Pr.S a0 (.slice A0' n0' c0'), Pr.R a1 [.int .i64 a1.Pos, .string a1.Name]] [It.B b1 48 [.int .i64 a1.Pos, .string a1.Name]]) (fun k1 => a0.length - k1) 0 ⟨rfl, rfl, rfl, rfl, trivial⟩ ⟨Nat.zero_le _, hq1, H.keep 2 1⟩ ?_)
  rintro k1 σ w2 ⟨hk1, hq1, H⟩
  refine CW.seq (CW.reg ?_)
  refine WL.ev rfl rfl (Ev.bin rfl rfl rfl Bin.lss) (WL.nil ?_)
  refine CW.seq (CW.condD rfl (fun h1 => ?_) (fun h1 => ?_))
  · skip
    have hk2 := cast_lt h1
    obtain ⟨x1, z1, hx1, hb1, hs1, ht1⟩ := findL_go hq1 hk2
    refine CW.skip ?_
    refine CW.seq (CW.block (CW.seq (CW.reg ?_)))
    obtain ⟨b2, ob2, cb2, hvb2, hI2, hS2, hI3, H⟩ := ixS_Slot H (i := 0) rfl hx1
    refine WL.ev rfl rfl (Ev.ixVN rfl el40 sz50 rfl hvb2 rfl (lt_of hx1)) (WL.ev rfl rfl (Ev.lda rfl ag50 sz50 rfl (H.rA (i := 2) rfl) rfl) ?_)
    refine WL.allocH rfl rfl rfl ze50 H fun b3 w3 H => ?_
    refine WL.stB (i := 1) rfl rfl rfl sz50 rfl rfl rfl rfl (all1 rfl (all1 rfl (all1 rfl all0))) H rfl rfl rfl fun w4 H => ?_
    refine WL.nil ?_
    refine CW.seq (CW.reg ?_)
    refine WL.ev rfl rfl (Ev.fa rfl fo50_0 rfl) (WL.ev rfl rfl (Ev.lda rfl ag48 sz48 rfl (Blk.part (H.rB (i := 1) rfl) 0 2) rfl) (WL.ev rfl rfl (Ev.lda rfl ag48 sz48 rfl (At.blk (H.rB (i := 0) rfl)) rfl) (WL.ev rfl rfl (Ev.bin rfl rfl rfl (Bin.eqlF fl48 (Occurrence_eqF x1.At a1))) (WL.nil ?_))))
    refine CW.condD rfl (fun h2 => ?_) (fun h2 => ?_)
    · skip
      have hb1 := ifp h2 hb1
      refine CW.seq (CW.reg ?_)
      refine WL.ev rfl rfl (Ev.fa rfl fo50_1 rfl) (WL.ev rfl rfl (Ev.ld rfl ag3 rfl ((H.rB (i := 1) rfl).cell rfl)) (WL.ev rfl rfl (Ev.as rfl rfl) (WL.nil ?_)))
      refine CW.ret ?_
      obtain rfl := sm hb1
      obtain rfl := ht1 _ rfl
      obtain rfl := sm hr
      exact ⟨_, res1 rfl rfl rfl, H.ext0, rfl, hI3⟩
    · skip
      have hb1 := ifn h2 hb1
      refine CW.skip ?_
      refine CW.reg ?_
      refine WL.ev rfl rfl (Ev.bin rfl rfl rfl (Bin.addN (a := k1) (b := 1) rfl (i64_succN hk2 hl1.2))) (WL.ev rfl rfl (Ev.mv rfl rfl) (WL.nil ?_))
      obtain rfl := sm hb1
      have hq1 := hs1 _ rfl
      exact ⟨(k1 + 1), ⟨rfl, rfl, rfl, rfl, trivial⟩, ⟨hk2, hq1, H.keep 2 1⟩, Nat.sub_lt_sub_left hk2 (Nat.lt_succ_self _)⟩
  · skip
    obtain rfl := findL_end hq1 (not_cast_lt h1)
    have hr := (onr_inl _ _ _).symm.trans hr
    refine CW.exit ?_
    refine CW.seq (CW.reg ?_)
    refine WL.ev rfl rfl (Ev.as rfl rfl) (WL.nil ?_)
    refine CW.ret ?_
    obtain rfl := sm hr
    exact ⟨_, res1 rfl rfl rfl, H.ext0, rfl, (by decide : I64 0)⟩

noncomputable def iEvalLocal_1_m (a0 : Occurrence) (a1 : (List Slot)) : Option Int :=
  (iSlotValue_m a1 a0).bind fun y1 =>
  some y1
theorem iEvalLocal_1_ok {a0 : Occurrence} {a1 : (List Slot)} {r : Int} (hr : iEvalLocal_1_m a0 a1 = some r) {F0 : Nat → Prop} {w0 : World} {ca0 : List Value} (ha0 : rd F0 w0 a0 ca0) {b1p : Nat} (ha1 : CapP F0 w0 b1p a1) :
    Ret Try.prog 88 #[.agg ca0.toArray, .pointer (some ⟨b1p, 0, none⟩)] w0 (fun _ => False) fun v w => v = .int .i64 r ∧ I64 r := by
  have H := (HL.start F0 w0).argR ha0
  obtain ⟨rfl, hI1, hS1, H⟩ := op_Occurrence H (i := 0) rfl
  obtain ⟨cpa1, H⟩ := H.argP ha1
  obtain ⟨A1, n1, c1, rfl, H⟩ := op_Sl H (i := 2) rfl
  refine enter Try.func88 rfl rfl rfl ?_
  refine CW.seq (CW.reg ?_)
  refine WL.boxH rfl rfl rfl rfl rfl H fun b1 w1 H => ?_
  refine WL.ev rfl rfl (Ev.as rfl rfl) (WL.nil ?_)
  refine CW.seq (CW.reg ?_)
  refine WL.ev rfl rfl (Ev.ld rfl ag40 rfl ((H.rA (i := 1) rfl).cell0 rfl)) (WL.ev rfl rfl (Ev.lda rfl ag48 sz48 rfl (At.blk (H.rB (i := 0) rfl)) rfl) ?_)
  obtain ⟨y1, hy1, hr⟩ := bd hr
  refine WL.call rfl rfl rfl rfl rfl ok28 rfl (iSlotValue_ok hy1 (H.rS (i := 3) rfl) ⟨rfl, hI1, hS1⟩) ?_
  rintro _ w2 hE ⟨rfl, hI2⟩
  have H := H.ext hE
  refine WL.ev rfl rfl (Ev.as rfl rfl) (WL.nil ?_)
  refine CW.ret ?_
  obtain rfl := sm hr
  exact ⟨_, res1 rfl rfl rfl, H.ext0, rfl, hI2⟩

noncomputable def iOperandTypes_m (a0 : Int) : Option (Int × Int × Int) :=
  (
  if a0 = 1 then (
  some (decide (a0 = 1))
  ) else (
  if a0 = 2 then (
  some (decide (a0 = 2))
  ) else (
  if a0 = 3 then (
  some (decide (a0 = 3))
  ) else (
  if a0 = 4 then (
  some (decide (a0 = 4))
  ) else (
  some (decide (a0 = 5))
  )
  )
  )
  )
  ).bind fun s1 =>
  if s1 = true then (
  some (1, 1, 1)
  ) else (
  (
  if a0 = 6 then (
  some (decide (a0 = 6))
  ) else (
  if a0 = 7 then (
  some (decide (a0 = 7))
  ) else (
  some (decide (a0 = 8))
  )
  )
  ).bind fun s2 =>
  if s2 = true then (
  some (2, 2, 2)
  ) else (
  if a0 = 9 then (
  if a0 = 9 then (
  some (1, 1, 3)
  ) else (
  if a0 = 11 then (
  some (2, 1, 3)
  ) else (
  if a0 = 12 then (
  some (2, 1, 2)
  ) else (
  some (0, 0, 0)
  )
  )
  )
  ) else (
  if a0 = 10 then (
  some (1, 1, 3)
  ) else (
  if a0 = 11 then (
  some (2, 1, 3)
  ) else (
  if a0 = 12 then (
  some (2, 1, 2)
  ) else (
  some (0, 0, 0)
  )
  )
  )
  )
  )
  )
theorem iOperandTypes_ok {a0 : Int} {r : (Int × Int × Int)} (hr : iOperandTypes_m a0 = some r) {F0 : Nat → Prop} {w0 : World} (ha0 : I64 a0) :
    Ret Try.prog 173 #[.int .i64 a0] w0 (fun _ => False) fun v w => v = .tuple #[.int .i64 r.1, .int .i64 r.2.1, .int .i64 r.2.2] ∧ I64 r.1 ∧ I64 r.2.1 ∧ I64 r.2.2 := by
  have H := HL.start F0 w0
  refine enter Try.func173 rfl rfl rfl ?_
  refine CW.seq (CW.reg ?_)
  refine WL.ev rfl rfl (Ev.as rfl rfl) (WL.ev rfl rfl (Ev.as rfl rfl) (WL.ev rfl rfl (Ev.as rfl rfl) (WL.nil ?_)))
  refine CW.seq (CW.seq (CW.reg ?_))
  refine WL.ev rfl rfl (Ev.mv rfl rfl) (WL.nil ?_)
  refine CW.block (CW.seq (CW.seq (CW.reg ?_)))
  refine WL.ev rfl rfl (Ev.bin rfl rfl rfl Bin.eql) (WL.ev rfl rfl (Ev.as rfl rfl) (WL.nil ?_))
  obtain ⟨q1, hm1, hr⟩ := bd hr
  refine CW.mid (fun ρ' w => ∃ (s1 : Bool), s1 = q1 ∧ agree ρ' [(5, .int .i64 a0), (6, .bool s1)] ∧ HL F0 [] w0 w [] []) ?_ ?_
  · skip
    refine CW.condD rfl (fun h1 => ?_) (fun h1 => ?_)
    · skip
      have hm1 := ifp h1 hm1
      refine CW.skip ?_
      obtain rfl := sm hm1
      exact ⟨(decide (a0 = 1)), rfl, ⟨rfl, rfl, trivial⟩, H.keep 0 0⟩
    · skip
      have hm1 := ifn h1 hm1
      refine CW.seq (CW.reg ?_)
      refine WL.ev rfl rfl (Ev.bin rfl rfl rfl Bin.eql) (WL.ev rfl rfl (Ev.as rfl rfl) (WL.nil ?_))
      refine CW.condD rfl (fun h2 => ?_) (fun h2 => ?_)
      · skip
        have hm1 := ifp h2 hm1
        refine CW.skip ?_
        obtain rfl := sm hm1
        exact ⟨(decide (a0 = 2)), rfl, ⟨rfl, rfl, trivial⟩, H.keep 0 0⟩
      · skip
        have hm1 := ifn h2 hm1
        refine CW.seq (CW.reg ?_)
        refine WL.ev rfl rfl (Ev.bin rfl rfl rfl Bin.eql) (WL.ev rfl rfl (Ev.as rfl rfl) (WL.nil ?_))
        refine CW.condD rfl (fun h3 => ?_) (fun h3 => ?_)
        · skip
          have hm1 := ifp h3 hm1
          refine CW.skip ?_
          obtain rfl := sm hm1
          exact ⟨(decide (a0 = 3)), rfl, ⟨rfl, rfl, trivial⟩, H.keep 0 0⟩
        · skip
          have hm1 := ifn h3 hm1
          refine CW.seq (CW.reg ?_)
          refine WL.ev rfl rfl (Ev.bin rfl rfl rfl Bin.eql) (WL.ev rfl rfl (Ev.as rfl rfl) (WL.nil ?_))
          refine CW.condD rfl (fun h4 => ?_) (fun h4 => ?_)
          · skip
            have hm1 := ifp h4 hm1
            refine CW.skip ?_
            obtain rfl := sm hm1
            exact ⟨(decide (a0 = 4)), rfl, ⟨rfl, rfl, trivial⟩, H.keep 0 0⟩
          · skip
            have hm1 := ifn h4 hm1
            refine CW.reg ?_
            refine WL.ev rfl rfl (Ev.bin rfl rfl rfl Bin.eql) (WL.ev rfl rfl (Ev.as rfl rfl) (WL.nil ?_))
            obtain rfl := sm hm1
            exact ⟨(decide (a0 = 5)), rfl, ⟨rfl, rfl, trivial⟩, H.keep 0 0⟩
  · rintro ρ' w1 ⟨s1, rfl, hag, H⟩
    obtain ⟨σ, rfl⟩ := ofL_ex hag
    refine CW.condB rfl (fun h5 => ?_) (fun h5 => ?_)
    · skip
      have hr := ifp h5 hr
      refine CW.seq (CW.reg ?_)
      refine WL.ev rfl rfl (Ev.as rfl rfl) (WL.ev rfl rfl (Ev.as rfl rfl) (WL.ev rfl rfl (Ev.as rfl rfl) (WL.nil ?_)))
      refine CW.ret ?_
      obtain rfl := sm hr
      exact ⟨_, res_ttt rfl rfl rfl rfl rfl rfl rfl, H.ext0, rfl, (by decide : I64 1), (by decide : I64 1), (by decide : I64 1)⟩
    · skip
      have hr := ifn h5 hr
      refine CW.seq (CW.seq (CW.reg ?_))
      refine WL.ev rfl rfl (Ev.bin rfl rfl rfl Bin.eql) (WL.ev rfl rfl (Ev.as rfl rfl) (WL.nil ?_))
      obtain ⟨q2, hm2, hr⟩ := bd hr
      refine CW.mid (fun ρ' w => ∃ (s2 : Bool), s2 = q2 ∧ agree ρ' [(5, .int .i64 a0), (12, .bool s2)] ∧ HL F0 [] w0 w [] []) ?_ ?_
      · skip
        refine CW.condD rfl (fun h6 => ?_) (fun h6 => ?_)
        · skip
          have hm2 := ifp h6 hm2
          refine CW.skip ?_
          obtain rfl := sm hm2
          exact ⟨(decide (a0 = 6)), rfl, ⟨rfl, rfl, trivial⟩, H.keep 0 0⟩
        · skip
          have hm2 := ifn h6 hm2
          refine CW.seq (CW.reg ?_)
          refine WL.ev rfl rfl (Ev.bin rfl rfl rfl Bin.eql) (WL.ev rfl rfl (Ev.as rfl rfl) (WL.nil ?_))
          refine CW.condD rfl (fun h7 => ?_) (fun h7 => ?_)
          · skip
            have hm2 := ifp h7 hm2
            refine CW.skip ?_
            obtain rfl := sm hm2
            exact ⟨(decide (a0 = 7)), rfl, ⟨rfl, rfl, trivial⟩, H.keep 0 0⟩
          · skip
            have hm2 := ifn h7 hm2
            refine CW.reg ?_
            refine WL.ev rfl rfl (Ev.bin rfl rfl rfl Bin.eql) (WL.ev rfl rfl (Ev.as rfl rfl) (WL.nil ?_))
            obtain rfl := sm hm2
            exact ⟨(decide (a0 = 8)), rfl, ⟨rfl, rfl, trivial⟩, H.keep 0 0⟩
      · rintro ρ' w2 ⟨s2, rfl, hag, H⟩
        obtain ⟨σ, rfl⟩ := ofL_ex hag
        refine CW.condB rfl (fun h8 => ?_) (fun h8 => ?_)
        · skip
          have hr := ifp h8 hr
          refine CW.seq (CW.reg ?_)
          refine WL.ev rfl rfl (Ev.as rfl rfl) (WL.ev rfl rfl (Ev.as rfl rfl) (WL.ev rfl rfl (Ev.as rfl rfl) (WL.nil ?_)))
          refine CW.ret ?_
          obtain rfl := sm hr
          exact ⟨_, res_ttt rfl rfl rfl rfl rfl rfl rfl, H.ext0, rfl, (by decide : I64 2), (by decide : I64 2), (by decide : I64 2)⟩
        · skip
          have hr := ifn h8 hr
          refine CW.seq (CW.seq (CW.reg ?_))
          refine WL.ev rfl rfl (Ev.bin rfl rfl rfl Bin.eql) (WL.ev rfl rfl (Ev.as rfl rfl) (WL.nil ?_))
          refine CW.condD rfl (fun h9 => ?_) (fun h9 => ?_)
          · skip
            have hr := ifp h9 hr
            refine CW.skip ?_
            refine CW.condD rfl (fun h10 => ?_) (fun h10 => ?_)
            · skip
              have hr := ifp h10 hr
              refine CW.seq (CW.reg ?_)
              refine WL.ev rfl rfl (Ev.as rfl rfl) (WL.ev rfl rfl (Ev.as rfl rfl) (WL.ev rfl rfl (Ev.as rfl rfl) (WL.nil ?_)))
              refine CW.ret ?_
              obtain rfl := sm hr
              exact ⟨_, res_ttt rfl rfl rfl rfl rfl rfl rfl, H.ext0, rfl, (by decide : I64 1), (by decide : I64 1), (by decide : I64 3)⟩
            · skip
              have hr := ifn h10 hr
              refine CW.seq (CW.reg ?_)
              refine WL.ev rfl rfl (Ev.bin rfl rfl rfl Bin.eql) (WL.ev rfl rfl (Ev.as rfl rfl) (WL.nil ?_))
              refine CW.condD rfl (fun h11 => ?_) (fun h11 => ?_)
              · skip
                have hr := ifp h11 hr
                refine CW.seq (CW.reg ?_)
                refine WL.ev rfl rfl (Ev.as rfl rfl) (WL.ev rfl rfl (Ev.as rfl rfl) (WL.ev rfl rfl (Ev.as rfl rfl) (WL.nil ?_)))
                refine CW.ret ?_
                obtain rfl := sm hr
                exact ⟨_, res_ttt rfl rfl rfl rfl rfl rfl rfl, H.ext0, rfl, (by decide : I64 2), (by decide : I64 1), (by decide : I64 3)⟩
              · skip
                have hr := ifn h11 hr
                refine CW.seq (CW.reg ?_)
                refine WL.ev rfl rfl (Ev.bin rfl rfl rfl Bin.eql) (WL.ev rfl rfl (Ev.as rfl rfl) (WL.nil ?_))
                refine CW.condD rfl (fun h12 => ?_) (fun h12 => ?_)
                · skip
                  have hr := ifp h12 hr
                  refine CW.seq (CW.reg ?_)
                  refine WL.ev rfl rfl (Ev.as rfl rfl) (WL.ev rfl rfl (Ev.as rfl rfl) (WL.ev rfl rfl (Ev.as rfl rfl) (WL.nil ?_)))
                  refine CW.ret ?_
                  obtain rfl := sm hr
                  exact ⟨_, res_ttt rfl rfl rfl rfl rfl rfl rfl, H.ext0, rfl, (by decide : I64 2), (by decide : I64 1), (by decide : I64 2)⟩
                · skip
                  have hr := ifn h12 hr
                  refine CW.skip ?_
                  refine CW.seq (CW.reg ?_)
                  refine WL.ev rfl rfl (Ev.as rfl rfl) (WL.ev rfl rfl (Ev.as rfl rfl) (WL.ev rfl rfl (Ev.as rfl rfl) (WL.nil ?_)))
                  refine CW.ret ?_
                  obtain rfl := sm hr
                  exact ⟨_, res_ttt rfl rfl rfl rfl rfl rfl rfl, H.ext0, rfl, (by decide : I64 0), (by decide : I64 0), (by decide : I64 0)⟩
          · skip
            have hr := ifn h9 hr
            refine CW.reg ?_
            refine WL.ev rfl rfl (Ev.bin rfl rfl rfl Bin.eql) (WL.ev rfl rfl (Ev.as rfl rfl) (WL.nil ?_))
            refine CW.condD rfl (fun h13 => ?_) (fun h13 => ?_)
            · skip
              have hr := ifp h13 hr
              refine CW.seq (CW.reg ?_)
              refine WL.ev rfl rfl (Ev.as rfl rfl) (WL.ev rfl rfl (Ev.as rfl rfl) (WL.ev rfl rfl (Ev.as rfl rfl) (WL.nil ?_)))
              refine CW.ret ?_
              obtain rfl := sm hr
              exact ⟨_, res_ttt rfl rfl rfl rfl rfl rfl rfl, H.ext0, rfl, (by decide : I64 1), (by decide : I64 1), (by decide : I64 3)⟩
            · skip
              have hr := ifn h13 hr
              refine CW.seq (CW.reg ?_)
              refine WL.ev rfl rfl (Ev.bin rfl rfl rfl Bin.eql) (WL.ev rfl rfl (Ev.as rfl rfl) (WL.nil ?_))
              refine CW.condD rfl (fun h14 => ?_) (fun h14 => ?_)
              · skip
                have hr := ifp h14 hr
                refine CW.seq (CW.reg ?_)
                refine WL.ev rfl rfl (Ev.as rfl rfl) (WL.ev rfl rfl (Ev.as rfl rfl) (WL.ev rfl rfl (Ev.as rfl rfl) (WL.nil ?_)))
                refine CW.ret ?_
                obtain rfl := sm hr
                exact ⟨_, res_ttt rfl rfl rfl rfl rfl rfl rfl, H.ext0, rfl, (by decide : I64 2), (by decide : I64 1), (by decide : I64 3)⟩
              · skip
                have hr := ifn h14 hr
                refine CW.seq (CW.reg ?_)
                refine WL.ev rfl rfl (Ev.bin rfl rfl rfl Bin.eql) (WL.ev rfl rfl (Ev.as rfl rfl) (WL.nil ?_))
                refine CW.condD rfl (fun h15 => ?_) (fun h15 => ?_)
                · skip
                  have hr := ifp h15 hr
                  refine CW.seq (CW.reg ?_)
                  refine WL.ev rfl rfl (Ev.as rfl rfl) (WL.ev rfl rfl (Ev.as rfl rfl) (WL.ev rfl rfl (Ev.as rfl rfl) (WL.nil ?_)))
                  refine CW.ret ?_
                  obtain rfl := sm hr
                  exact ⟨_, res_ttt rfl rfl rfl rfl rfl rfl rfl, H.ext0, rfl, (by decide : I64 2), (by decide : I64 1), (by decide : I64 2)⟩
                · skip
                  have hr := ifn h15 hr
                  refine CW.skip ?_
                  refine CW.seq (CW.reg ?_)
                  refine WL.ev rfl rfl (Ev.as rfl rfl) (WL.ev rfl rfl (Ev.as rfl rfl) (WL.ev rfl rfl (Ev.as rfl rfl) (WL.nil ?_)))
                  refine CW.ret ?_
                  obtain rfl := sm hr
                  exact ⟨_, res_ttt rfl rfl rfl rfl rfl rfl rfl, H.ext0, rfl, (by decide : I64 0), (by decide : I64 0), (by decide : I64 0)⟩

noncomputable def iApplyOp_m (a0 : Int) (a1 : Int) (a2 : Int) : Option Int :=
  (iOperandTypes_m a0).bind fun (y1, y2, y3) =>
  (iCoerce_m a1 y1).bind fun y4 =>
  (iCoerce_m a2 y2).bind fun y5 =>
  if a0 = 1 then (
  grd (I64 (y4 + y5)) <|
  (iSaturate_m (y4 + y5)).bind fun y6 =>
  some y6
  ) else (
  if a0 = 2 then (
  grd (I64 (y4 - y5)) <|
  (iSaturate_m (y4 - y5)).bind fun y7 =>
  some y7
  ) else (
  if a0 = 3 then (
  grd (I64 (y4 * y5)) <|
  (iSaturate_m (y4 * y5)).bind fun y8 =>
  some y8
  ) else (
  if a0 = 4 then (
  some (if y5 > y4 then y5 else y4)
  ) else (
  if a0 = 5 then (
  some (if y5 < y4 then y5 else y4)
  ) else (
  if a0 = 6 then (
  grd (0 ≤ y4 ∧ 0 ≤ y5) <|
  some ((y4.toNat ||| y5.toNat : Nat) : Int)
  ) else (
  if a0 = 7 then (
  grd (0 ≤ y4 ∧ 0 ≤ y5) <|
  some ((y4.toNat &&& y5.toNat : Nat) : Int)
  ) else (
  if a0 = 8 then (
  some (goAndNot y4 y5)
  ) else (
  if a0 = 9 then (
  (iflag_m (decide (y4 < y5))).bind fun y9 =>
  some y9
  ) else (
  if a0 = 10 then (
  (iflag_m (decide (y4 = y5))).bind fun y10 =>
  some y10
  ) else (
  if a0 = 11 then (
  (iwithin_m y5 0 11).bind fun y11 =>
  if y11 = true then (
  grd (0 ≤ y5) <|
  grd (0 ≤ y4 ∧ 0 ≤ y5 ∧ y5 < 64) <|
  grd (0 ≤ ((y4.toNat >>> y5.toNat : Nat) : Int) ∧ 0 ≤ (1 : Int)) <|
  (iflag_m (decide (((((y4.toNat >>> y5.toNat : Nat) : Int).toNat &&& (1 : Int).toNat : Nat) : Int) = 1))).bind fun y12 =>
  some y12
  ) else (
  (iflag_m false).bind fun y13 =>
  some y13
  )
  ) else (
  if a0 = 12 then (
  (iwithin_m y5 0 11).bind fun y14 =>
  if y14 = true then (
  grd (0 ≤ y5) <|
  grd (0 ≤ y5 ∧ y5 < 63) <|
  grd (0 ≤ y4 ∧ 0 ≤ ((2 ^ y5.toNat : Nat) : Int)) <|
  some ((y4.toNat ||| ((2 ^ y5.toNat : Nat) : Int).toNat : Nat) : Int)
  ) else (
  some y4
  )
  ) else (
  some 0
  )
  )
  )
  )
  )
  )
  )
  )
  )
  )
  )
  )
theorem iApplyOp_ok {a0 : Int} {a1 : Int} {a2 : Int} {r : Int} (hr : iApplyOp_m a0 a1 a2 = some r) {F0 : Nat → Prop} {w0 : World} (ha0 : I64 a0) (ha1 : I64 a1) (ha2 : I64 a2) :
    Ret Try.prog 151 #[.int .i64 a0, .int .i64 a1, .int .i64 a2] w0 (fun _ => False) fun v w => v = .int .i64 r ∧ I64 r := by
  have H := HL.start F0 w0
  refine enter Try.func151 rfl rfl rfl ?_
  refine CW.seq (CW.reg ?_)
  refine WL.ev rfl rfl (Ev.as rfl rfl) (WL.nil ?_)
  refine CW.seq (CW.reg ?_)
  refine WL.ev rfl rfl (Ev.mv rfl rfl) ?_
  obtain ⟨⟨y1, y2, y3⟩, hy1, hr⟩ := bd hr
  refine WL.call rfl rfl rfl rfl rfl ok173 rfl (iOperandTypes_ok hy1 (F0 := fun _ => False) ha0) ?_
  rintro _ w1 hE ⟨rfl, hI1, hI2, hI3⟩
  have H := H.ext hE
  refine WL.ev rfl rfl (Ev.mv rfl rfl) (WL.ev rfl rfl (Ev.ex rfl rfl rfl) (WL.ev rfl rfl (Ev.ex rfl rfl rfl) (WL.ev rfl rfl (Ev.ex rfl rfl rfl) (WL.ev rfl rfl (Ev.as rfl rfl) (WL.ev rfl rfl (Ev.as rfl rfl) (WL.ev rfl rfl (Ev.as rfl rfl) (WL.nil ?_)))))))
  refine CW.seq (CW.reg ?_)
  refine WL.ev rfl rfl (Ev.mv rfl rfl) (WL.ev rfl rfl (Ev.mv rfl rfl) ?_)
  obtain ⟨y4, hy2, hr⟩ := bd hr
  refine WL.call rfl rfl rfl rfl rfl ok174 rfl (iCoerce_ok hy2 (F0 := fun _ => False) ha1 hI1) ?_
  rintro _ w2 hE ⟨rfl, hI4⟩
  have H := H.ext hE
  refine WL.ev rfl rfl (Ev.mv rfl rfl) (WL.ev rfl rfl (Ev.mv rfl rfl) ?_)
  obtain ⟨y5, hy3, hr⟩ := bd hr
  refine WL.call rfl rfl rfl rfl rfl ok174 rfl (iCoerce_ok hy3 (F0 := fun _ => False) ha2 hI2) ?_
  rintro _ w3 hE ⟨rfl, hI5⟩
  have H := H.ext hE
  refine WL.ev rfl rfl (Ev.as rfl rfl) (WL.ev rfl rfl (Ev.as rfl rfl) (WL.nil ?_))
  refine CW.seq (CW.seq (CW.reg ?_))
  refine WL.ev rfl rfl (Ev.mv rfl rfl) (WL.nil ?_)
  refine CW.block (CW.seq (CW.reg ?_))
  refine WL.ev rfl rfl (Ev.bin rfl rfl rfl Bin.eql) (WL.ev rfl rfl (Ev.as rfl rfl) (WL.nil ?_))
  refine CW.condD rfl (fun h1 => ?_) (fun h1 => ?_)
  · skip
    have hr := ifp h1 hr
    refine CW.seq ?_
    refine CW.fresh [(1, .int .i64 y4), (2, .int .i64 y5)] ⟨rfl, rfl, trivial⟩ fun σ => ?_
    have H : HL F0 [] w0 w3 [] [] := H
    refine CW.reg ?_
    refine WL.ev rfl rfl (Ev.mv rfl rfl) (WL.ev rfl rfl (Ev.mv rfl rfl) ?_)
    obtain ⟨hg1, hr⟩ := grd_some hr
    refine WL.ev rfl rfl (Ev.bin rfl rfl rfl (Bin.add hg1)) ?_
    obtain ⟨y6, hy4, hr⟩ := bd hr
    refine WL.call rfl rfl rfl rfl rfl ok175 rfl (iSaturate_ok hy4 (F0 := fun _ => False) hg1) ?_
    rintro _ w4 hE ⟨rfl, hI6⟩
    have H := H.ext hE
    refine WL.ev rfl rfl (Ev.as rfl rfl) (WL.nil ?_)
    refine CW.ret ?_
    obtain rfl := sm hr
    exact ⟨_, res1 rfl rfl rfl, H.ext0, rfl, hI6⟩
  · skip
    have hr := ifn h1 hr
    refine CW.seq ?_
    refine CW.fresh [(1, .int .i64 y4), (2, .int .i64 y5), (22, .int .i64 a0)] ⟨rfl, rfl, rfl, trivial⟩ fun σ => ?_
    have H : HL F0 [] w0 w3 [] [] := H
    refine CW.reg ?_
    refine WL.ev rfl rfl (Ev.bin rfl rfl rfl Bin.eql) (WL.ev rfl rfl (Ev.as rfl rfl) (WL.nil ?_))
    refine CW.condD rfl (fun h2 => ?_) (fun h2 => ?_)
    · skip
      have hr := ifp h2 hr
      refine CW.seq (CW.reg ?_)
      refine WL.ev rfl rfl (Ev.mv rfl rfl) (WL.ev rfl rfl (Ev.mv rfl rfl) ?_)
      obtain ⟨hg2, hr⟩ := grd_some hr
      refine WL.ev rfl rfl (Ev.bin rfl rfl rfl (Bin.sub hg2)) ?_
      obtain ⟨y7, hy5, hr⟩ := bd hr
      refine WL.call rfl rfl rfl rfl rfl ok175 rfl (iSaturate_ok hy5 (F0 := fun _ => False) hg2) ?_
      rintro _ w5 hE ⟨rfl, hI7⟩
      have H := H.ext hE
      refine WL.ev rfl rfl (Ev.as rfl rfl) (WL.nil ?_)
      refine CW.ret ?_
      obtain rfl := sm hr
      exact ⟨_, res1 rfl rfl rfl, H.ext0, rfl, hI7⟩
    · skip
      have hr := ifn h2 hr
      refine CW.seq (CW.reg ?_)
      refine WL.ev rfl rfl (Ev.bin rfl rfl rfl Bin.eql) (WL.ev rfl rfl (Ev.as rfl rfl) (WL.nil ?_))
      refine CW.condD rfl (fun h3 => ?_) (fun h3 => ?_)
      · skip
        have hr := ifp h3 hr
        refine CW.seq (CW.reg ?_)
        refine WL.ev rfl rfl (Ev.mv rfl rfl) (WL.ev rfl rfl (Ev.mv rfl rfl) ?_)
        obtain ⟨hg3, hr⟩ := grd_some hr
        refine WL.ev rfl rfl (Ev.bin rfl rfl rfl (Bin.mul hg3)) ?_
        obtain ⟨y8, hy6, hr⟩ := bd hr
        refine WL.call rfl rfl rfl rfl rfl ok175 rfl (iSaturate_ok hy6 (F0 := fun _ => False) hg3) ?_
        rintro _ w6 hE ⟨rfl, hI8⟩
        have H := H.ext hE
        refine WL.ev rfl rfl (Ev.as rfl rfl) (WL.nil ?_)
        refine CW.ret ?_
        obtain rfl := sm hr
        exact ⟨_, res1 rfl rfl rfl, H.ext0, rfl, hI8⟩
      · skip
        have hr := ifn h3 hr
        refine CW.seq (CW.reg ?_)
        refine WL.ev rfl rfl (Ev.bin rfl rfl rfl Bin.eql) (WL.ev rfl rfl (Ev.as rfl rfl) (WL.nil ?_))
        refine CW.condD rfl (fun h4 => ?_) (fun h4 => ?_)
        · skip
          have hr := ifp h4 hr
          refine CW.seq (CW.reg ?_)
          refine WL.ev rfl rfl (Ev.mv rfl rfl) (WL.ev rfl rfl (Ev.mv rfl rfl) (WL.ev rfl rfl (Ev.maxI rfl rfl rfl) (WL.ev rfl rfl (Ev.as rfl rfl) (WL.nil ?_))))
          refine CW.ret ?_
          obtain rfl := sm hr
          exact ⟨_, res1 rfl rfl rfl, H.ext0, rfl, (i64_ite hI4 hI5)⟩
        · skip
          have hr := ifn h4 hr
          refine CW.seq (CW.reg ?_)
          refine WL.ev rfl rfl (Ev.bin rfl rfl rfl Bin.eql) (WL.ev rfl rfl (Ev.as rfl rfl) (WL.nil ?_))
          refine CW.condD rfl (fun h5 => ?_) (fun h5 => ?_)
          · skip
            have hr := ifp h5 hr
            refine CW.seq (CW.reg ?_)
            refine WL.ev rfl rfl (Ev.mv rfl rfl) (WL.ev rfl rfl (Ev.mv rfl rfl) (WL.ev rfl rfl (Ev.minI rfl rfl rfl) (WL.ev rfl rfl (Ev.as rfl rfl) (WL.nil ?_))))
            refine CW.ret ?_
            obtain rfl := sm hr
            exact ⟨_, res1 rfl rfl rfl, H.ext0, rfl, (i64_ite hI4 hI5)⟩
          · skip
            have hr := ifn h5 hr
            refine CW.seq (CW.reg ?_)
            refine WL.ev rfl rfl (Ev.bin rfl rfl rfl Bin.eql) (WL.ev rfl rfl (Ev.as rfl rfl) (WL.nil ?_))
            refine CW.condD rfl (fun h6 => ?_) (fun h6 => ?_)
            · skip
              have hr := ifp h6 hr
              refine CW.seq (CW.reg ?_)
              refine WL.ev rfl rfl (Ev.mv rfl rfl) (WL.ev rfl rfl (Ev.mv rfl rfl) ?_)
              obtain ⟨hg4, hr⟩ := grd_some hr
              refine WL.ev rfl rfl (Ev.bin rfl rfl rfl (Bin.orI hg4.1 hI4.2 hg4.2 hI5.2)) (WL.ev rfl rfl (Ev.as rfl rfl) (WL.nil ?_))
              refine CW.ret ?_
              obtain rfl := sm hr
              exact ⟨_, res1 rfl rfl rfl, H.ext0, rfl, (i64_or hg4 hI4 hI5)⟩
            · skip
              have hr := ifn h6 hr
              refine CW.seq (CW.reg ?_)
              refine WL.ev rfl rfl (Ev.bin rfl rfl rfl Bin.eql) (WL.ev rfl rfl (Ev.as rfl rfl) (WL.nil ?_))
              refine CW.condD rfl (fun h7 => ?_) (fun h7 => ?_)
              · skip
                have hr := ifp h7 hr
                refine CW.seq (CW.reg ?_)
                refine WL.ev rfl rfl (Ev.mv rfl rfl) (WL.ev rfl rfl (Ev.mv rfl rfl) ?_)
                obtain ⟨hg5, hr⟩ := grd_some hr
                refine WL.ev rfl rfl (Ev.bin rfl rfl rfl (Bin.andI hg5.1 hI4.2 hg5.2 hI5.2)) (WL.ev rfl rfl (Ev.as rfl rfl) (WL.nil ?_))
                refine CW.ret ?_
                obtain rfl := sm hr
                exact ⟨_, res1 rfl rfl rfl, H.ext0, rfl, (i64_and hg5 hI4 hI5)⟩
              · skip
                have hr := ifn h7 hr
                refine CW.seq (CW.reg ?_)
                refine WL.ev rfl rfl (Ev.bin rfl rfl rfl Bin.eql) (WL.ev rfl rfl (Ev.as rfl rfl) (WL.nil ?_))
                refine CW.condD rfl (fun h8 => ?_) (fun h8 => ?_)
                · skip
                  have hr := ifp h8 hr
                  refine CW.seq (CW.reg ?_)
                  refine WL.ev rfl rfl (Ev.mv rfl rfl) (WL.ev rfl rfl (Ev.mv rfl rfl) (WL.ev rfl rfl (Ev.bin rfl rfl rfl Bin.andNotT) (WL.ev rfl rfl (Ev.as rfl rfl) (WL.nil ?_))))
                  refine CW.ret ?_
                  obtain rfl := sm hr
                  exact ⟨_, res1 rfl rfl rfl, H.ext0, rfl, (i64_wrap _)⟩
                · skip
                  have hr := ifn h8 hr
                  refine CW.seq (CW.reg ?_)
                  refine WL.ev rfl rfl (Ev.bin rfl rfl rfl Bin.eql) (WL.ev rfl rfl (Ev.as rfl rfl) (WL.nil ?_))
                  refine CW.condD rfl (fun h9 => ?_) (fun h9 => ?_)
                  · skip
                    have hr := ifp h9 hr
                    refine CW.seq (CW.reg ?_)
                    refine WL.ev rfl rfl (Ev.mv rfl rfl) (WL.ev rfl rfl (Ev.mv rfl rfl) (WL.ev rfl rfl (Ev.bin rfl rfl rfl Bin.lss) ?_))
                    obtain ⟨y9, hy7, hr⟩ := bd hr
                    refine WL.call rfl rfl rfl rfl rfl ok176 rfl (iflag_ok hy7 (F0 := fun _ => False)) ?_
                    rintro _ w7 hE ⟨rfl, hI9⟩
                    have H := H.ext hE
                    refine WL.ev rfl rfl (Ev.as rfl rfl) (WL.nil ?_)
                    refine CW.ret ?_
                    obtain rfl := sm hr
                    exact ⟨_, res1 rfl rfl rfl, H.ext0, rfl, hI9⟩
                  · skip
                    have hr := ifn h9 hr
                    refine CW.seq (CW.reg ?_)
                    refine WL.ev rfl rfl (Ev.bin rfl rfl rfl Bin.eql) (WL.ev rfl rfl (Ev.as rfl rfl) (WL.nil ?_))
                    refine CW.condD rfl (fun h10 => ?_) (fun h10 => ?_)
                    · skip
                      have hr := ifp h10 hr
                      refine CW.seq (CW.reg ?_)
                      refine WL.ev rfl rfl (Ev.mv rfl rfl) (WL.ev rfl rfl (Ev.mv rfl rfl) (WL.ev rfl rfl (Ev.bin rfl rfl rfl Bin.eql) ?_))
                      obtain ⟨y10, hy8, hr⟩ := bd hr
                      refine WL.call rfl rfl rfl rfl rfl ok176 rfl (iflag_ok hy8 (F0 := fun _ => False)) ?_
                      rintro _ w8 hE ⟨rfl, hI10⟩
                      have H := H.ext hE
                      refine WL.ev rfl rfl (Ev.as rfl rfl) (WL.nil ?_)
                      refine CW.ret ?_
                      obtain rfl := sm hr
                      exact ⟨_, res1 rfl rfl rfl, H.ext0, rfl, hI10⟩
                    · skip
                      have hr := ifn h10 hr
                      refine CW.seq (CW.reg ?_)
                      refine WL.ev rfl rfl (Ev.bin rfl rfl rfl Bin.eql) (WL.ev rfl rfl (Ev.as rfl rfl) (WL.nil ?_))
                      refine CW.condD rfl (fun h11 => ?_) (fun h11 => ?_)
                      · skip
                        have hr := ifp h11 hr
                        refine CW.seq (CW.reg ?_)
                        refine WL.ev rfl rfl (Ev.mv rfl rfl) ?_
                        obtain ⟨y11, hy9, hr⟩ := bd hr
                        refine WL.call rfl rfl rfl rfl rfl ok109 rfl (iwithin_ok hy9 (F0 := fun _ => False) hI5 (by decide : I64 0) (by decide : I64 11)) ?_
                        rintro _ w9 hE rfl
                        have H := H.ext hE
                        refine WL.mvB rfl rfl rfl rfl (fun h12 => ?_) (fun h12 => ?_)
                        · skip
                          have hr := ifp h12 hr
                          refine WL.on rfl rfl (WL.ev rfl rfl (Ev.mv rfl rfl) (WL.on rfl rfl (WL.ev rfl rfl (Ev.mv rfl rfl) (WL.on rfl rfl ?_))))
                          obtain ⟨hg6, hr⟩ := grd_some hr
                          refine WL.ev rfl rfl (Ev.convUI rfl Try.underlying3 it130 rfl hg6 hI5.2) (WL.on rfl rfl ?_)
                          obtain ⟨hg7, hr⟩ := grd_some hr
                          refine WL.ev rfl rfl (Ev.bin rfl rfl rfl (Bin.shrI hg7.1 hg7.2.1 hg7.2.2)) (WL.on rfl rfl ?_)
                          obtain ⟨hg8, hr⟩ := grd_some hr
                          refine WL.ev rfl rfl (Ev.bin rfl rfl rfl (Bin.andI hg8.1 (i64_shr hI4).2 hg8.2 (by decide : I64 1).2)) (WL.on rfl rfl (WL.ev rfl rfl (Ev.bin rfl rfl rfl Bin.eql) (WL.ev rfl rfl (Ev.pickT rfl rfl rfl) ?_)))
                          obtain ⟨y12, hy10, hr⟩ := bd hr
                          refine WL.call rfl rfl rfl rfl rfl ok176 rfl (iflag_ok hy10 (F0 := fun _ => False)) ?_
                          rintro _ w10 hE ⟨rfl, hI11⟩
                          have H := H.ext hE
                          refine WL.ev rfl rfl (Ev.as rfl rfl) (WL.nil ?_)
                          refine CW.ret ?_
                          obtain rfl := sm hr
                          exact ⟨_, res1 rfl rfl rfl, H.ext0, rfl, hI11⟩
                        · skip
                          have hr := ifn h12 hr
                          refine WL.off rfl rfl rfl (WL.off rfl rfl rfl (WL.off rfl rfl rfl (WL.off rfl rfl rfl (WL.off rfl rfl rfl (WL.off rfl rfl rfl (WL.ev rfl rfl (Ev.pickF rfl rfl rfl) ?_))))))
                          obtain ⟨y13, hy11, hr⟩ := bd hr
                          refine WL.call rfl rfl rfl rfl rfl ok176 rfl (iflag_ok hy11 (F0 := fun _ => False)) ?_
                          rintro _ w11 hE ⟨rfl, hI12⟩
                          have H := H.ext hE
                          refine WL.ev rfl rfl (Ev.as rfl rfl) (WL.nil ?_)
                          refine CW.ret ?_
                          obtain rfl := sm hr
                          exact ⟨_, res1 rfl rfl rfl, H.ext0, rfl, hI12⟩
                      · skip
                        have hr := ifn h11 hr
                        refine CW.seq (CW.reg ?_)
                        refine WL.ev rfl rfl (Ev.bin rfl rfl rfl Bin.eql) (WL.ev rfl rfl (Ev.as rfl rfl) (WL.nil ?_))
                        refine CW.condD rfl (fun h13 => ?_) (fun h13 => ?_)
                        · skip
                          have hr := ifp h13 hr
                          refine CW.seq (CW.seq ?_)
                          refine CW.fresh [(1, .int .i64 y4), (2, .int .i64 y5)] ⟨rfl, rfl, trivial⟩ fun σ => ?_
                          have H : HL F0 [] w0 w3 [] [] := H
                          refine CW.reg ?_
                          refine WL.ev rfl rfl (Ev.mv rfl rfl) ?_
                          obtain ⟨y14, hy12, hr⟩ := bd hr
                          refine WL.call rfl rfl rfl rfl rfl ok109 rfl (iwithin_ok hy12 (F0 := fun _ => False) hI5 (by decide : I64 0) (by decide : I64 11)) ?_
                          rintro _ w12 hE rfl
                          have H := H.ext hE
                          refine WL.nil ?_
                          refine CW.condB rfl (fun h14 => ?_) (fun h14 => ?_)
                          · skip
                            have hr := ifp h14 hr
                            refine CW.seq (CW.reg ?_)
                            refine WL.ev rfl rfl (Ev.mv rfl rfl) (WL.ev rfl rfl (Ev.mv rfl rfl) ?_)
                            obtain ⟨hg9, hr⟩ := grd_some hr
                            refine WL.ev rfl rfl (Ev.convUI rfl Try.underlying3 it130 rfl hg9 hI5.2) ?_
                            obtain ⟨hg10, hr⟩ := grd_some hr
                            refine WL.ev rfl rfl (Ev.bin rfl rfl rfl (Bin.shlI hg10.1 hg10.2)) ?_
                            obtain ⟨hg11, hr⟩ := grd_some hr
                            refine WL.ev rfl rfl (Ev.bin rfl rfl rfl (Bin.orI hg11.1 hI4.2 hg11.2 (i64_pow hg10.2).2)) (WL.ev rfl rfl (Ev.as rfl rfl) (WL.nil ?_))
                            refine CW.ret ?_
                            obtain rfl := sm hr
                            exact ⟨_, res1 rfl rfl rfl, H.ext0, rfl, (i64_or hg11 hI4 (i64_pow hg10.2))⟩
                          · skip
                            have hr := ifn h14 hr
                            refine CW.skip ?_
                            refine CW.seq (CW.reg ?_)
                            refine WL.ev rfl rfl (Ev.mv rfl rfl) (WL.ev rfl rfl (Ev.as rfl rfl) (WL.nil ?_))
                            refine CW.ret ?_
                            obtain rfl := sm hr
                            exact ⟨_, res1 rfl rfl rfl, H.ext0, rfl, hI4⟩
                        · skip
                          have hr := ifn h13 hr
                          refine CW.skip ?_
                          refine CW.seq ?_
                          refine CW.fresh [] trivial fun σ => ?_
                          have H : HL F0 [] w0 w3 [] [] := H
                          refine CW.reg ?_
                          refine WL.ev rfl rfl (Ev.as rfl rfl) (WL.nil ?_)
                          refine CW.ret ?_
                          obtain rfl := sm hr
                          exact ⟨_, res1 rfl rfl rfl, H.ext0, rfl, (by decide : I64 0)⟩

noncomputable def inowhere_m (a0 : Int) (a1 : Expr) : Option Int :=
  some 0
theorem inowhere_ok {a0 : Int} {a1 : Expr} {r : Int} (hr : inowhere_m a0 a1 = some r) {F0 : Nat → Prop} {w0 : World} (ha0 : I64 a0) {ca1 : List Value} (ha1 : rd F0 w0 a1 ca1) :
    Ret Try.prog 89 #[.int .i64 a0, .agg ca1.toArray] w0 (fun _ => False) fun v w => v = .int .i64 r ∧ I64 r := by
  have H := (HL.start F0 w0).argR ha1
  obtain ⟨A1, n1, c1, rfl, hI1, hI2, hI3, hI4, hS1, hS2, H⟩ := op_Expr H (i := 0) rfl
  refine enter Try.func89 rfl rfl rfl ?_
  refine CW.seq (CW.reg ?_)
  refine WL.boxH rfl rfl rfl rfl rfl H fun b1 w1 H => ?_
  refine WL.ev rfl rfl (Ev.as rfl rfl) (WL.nil ?_)
  refine CW.seq (CW.reg ?_)
  refine WL.ev rfl rfl (Ev.as rfl rfl) (WL.nil ?_)
  refine CW.ret ?_
  obtain rfl := sm hr
  exact ⟨_, res1 rfl rfl rfl, H.ext0, rfl, (by decide : I64 0)⟩

noncomputable def ireader_eval_iEvalLocal_1_inowhere_B (rec_ireader_eval_iEvalLocal_1_inowhere : (List Slot) → Int → (List Int) → Expr → Option Int) (a0_0_0 : (List Slot)) (a0_2 : Int) (a0_3 : (List Int)) (a1 : Expr) : Option Int :=
  if a1.Kind = 1 then (
  some a1.N
  ) else (
  if a1.Kind = 2 then (
  some a0_2
  ) else (
  if a1.Kind = 3 then (
  (iEvalLocal_1_m (⟨a1.Pos, a1.Name⟩ : Occurrence) a0_0_0).bind fun y1 =>
  some y1
  ) else (
  if a1.Kind = 4 then (
  (a1.Args[0]?).bind fun x1 =>
  (rec_ireader_eval_iEvalLocal_1_inowhere a0_0_0 a0_2 a0_3 x1).bind fun y2 =>
  (a1.Args[1]?).bind fun x2 =>
  (rec_ireader_eval_iEvalLocal_1_inowhere a0_0_0 a0_2 a0_3 x2).bind fun y3 =>
  (iApplyOp_m a1.N y2 y3).bind fun y4 =>
  some y4
  ) else (
  if a1.Kind = 5 then (
  (a1.Args[0]?).bind fun x3 =>
  (rec_ireader_eval_iEvalLocal_1_inowhere a0_0_0 a0_2 a0_3 x3).bind fun y5 =>
  if y5 = 0 then (
  (a1.Args[2]?).bind fun x5 =>
  (rec_ireader_eval_iEvalLocal_1_inowhere a0_0_0 a0_2 a0_3 x5).bind fun y7 =>
  some y7
  ) else (
  (a1.Args[1]?).bind fun x4 =>
  (rec_ireader_eval_iEvalLocal_1_inowhere a0_0_0 a0_2 a0_3 x4).bind fun y6 =>
  some y6
  )
  ) else (
  if a1.Kind = 6 then (
  if a1.Pos < (a0_3.length : Int) then (
  grd (0 ≤ a1.Pos) <|
  (a0_3[a1.Pos.toNat]?).bind fun x6 =>
  some x6
  ) else (
  some 0
  )
  ) else (
  if a1.Kind = 8 then (
  (a1.Args[0]?).bind fun x7 =>
  (rec_ireader_eval_iEvalLocal_1_inowhere a0_0_0 a0_2 a0_3 x7).bind fun y8 =>
  (inowhere_m y8 a1).bind fun y9 =>
  some y9
  ) else (
  some 0
  )
  )
  )
  )
  )
  )
  )
theorem ireader_eval_iEvalLocal_1_inowhere_okB {rec_ireader_eval_iEvalLocal_1_inowhere : (List Slot) → Int → (List Int) → Expr → Option Int} (ih_ireader_eval_iEvalLocal_1_inowhere : ∀ {a0_0_0 : (List Slot)} {a0_2 : Int} {a0_3 : (List Int)} {a1 : Expr} {r : Int}, rec_ireader_eval_iEvalLocal_1_inowhere a0_0_0 a0_2 a0_3 a1 = some r → ∀ {F0 : Nat → Prop} {w0 : World} {b0_0_0p : Nat} (ha0_0_0 : CapP F0 w0 b0_0_0p a0_0_0) (ha0_2 : I64 a0_2) {z0_3 : Value} (ha0_3 : rdS F0 w0 a0_3 z0_3) {ca1 : List Value} (ha1 : rd F0 w0 a1 ca1), Ret Try.prog 90 #[.agg #[.func (.func 88) #[] #[.pointer (some ⟨b0_0_0p, 0, none⟩)], .func (.func 89) #[] #[], .int .i64 a0_2, z0_3], .agg ca1.toArray] w0 (fun _ => False) fun v w => v = .int .i64 r ∧ I64 r) {a0_0_0 : (List Slot)} {a0_2 : Int} {a0_3 : (List Int)} {a1 : Expr} {r : Int} (hr : ireader_eval_iEvalLocal_1_inowhere_B rec_ireader_eval_iEvalLocal_1_inowhere a0_0_0 a0_2 a0_3 a1 = some r) {F0 : Nat → Prop} {w0 : World} {b0_0_0p : Nat} (ha0_0_0 : CapP F0 w0 b0_0_0p a0_0_0) (ha0_2 : I64 a0_2) {z0_3 : Value} (ha0_3 : rdS F0 w0 a0_3 z0_3) {ca1 : List Value} (ha1 : rd F0 w0 a1 ca1) :
    Ret Try.prog 90 #[.agg #[.func (.func 88) #[] #[.pointer (some ⟨b0_0_0p, 0, none⟩)], .func (.func 89) #[] #[], .int .i64 a0_2, z0_3], .agg ca1.toArray] w0 (fun _ => False) fun v w => v = .int .i64 r ∧ I64 r := by
  obtain ⟨A0_3', n0_3', c0_3', rfl⟩ := ha0_3.form3
  have H := ((HL.start F0 w0).argS ha0_3).argR ha1
  obtain ⟨A1, n1, c1, rfl, hI1, hI2, hI3, hI4, hS1, hS2, H⟩ := op_Expr H (i := 1) rfl
  obtain ⟨cpa0_0_0, H⟩ := H.argP ha0_0_0
  obtain ⟨A2, n2, c2, rfl, H⟩ := op_Sl H (i := 4) rfl
  refine enter Try.func90 rfl rfl rfl ?_
  refine CW.seq (CW.reg ?_)
  refine WL.boxH rfl rfl rfl rfl rfl H fun b1 w1 H => ?_
  refine WL.boxH rfl rfl rfl rfl rfl H fun b2 w2 H => ?_
  refine WL.ev rfl rfl (Ev.as rfl rfl) (WL.nil ?_)
  refine CW.seq (CW.seq (CW.reg ?_))
  refine WL.ev rfl rfl (Ev.fa rfl fo31_0 rfl) (WL.ev rfl rfl (Ev.ld rfl ag3 rfl ((H.rB (i := 1) rfl).cell rfl)) (WL.nil ?_))
  refine CW.block (CW.seq (CW.reg ?_))
  refine WL.ev rfl rfl (Ev.bin rfl rfl rfl Bin.eql) (WL.ev rfl rfl (Ev.as rfl rfl) (WL.nil ?_))
  refine CW.condD rfl (fun h1 => ?_) (fun h1 => ?_)
  · skip
    have hr := ifp h1 hr
    refine CW.seq (CW.reg ?_)
    refine WL.ev rfl rfl (Ev.fa rfl fo31_1 rfl) (WL.ev rfl rfl (Ev.ld rfl ag3 rfl ((H.rB (i := 1) rfl).cell rfl)) (WL.ev rfl rfl (Ev.as rfl rfl) (WL.nil ?_)))
    refine CW.ret ?_
    obtain rfl := sm hr
    exact ⟨_, res1 rfl rfl rfl, H.ext0, rfl, hI2⟩
  · skip
    have hr := ifn h1 hr
    refine CW.seq (CW.reg ?_)
    refine WL.ev rfl rfl (Ev.bin rfl rfl rfl Bin.eql) (WL.ev rfl rfl (Ev.as rfl rfl) (WL.nil ?_))
    refine CW.condD rfl (fun h2 => ?_) (fun h2 => ?_)
    · skip
      have hr := ifp h2 hr
      refine CW.seq (CW.reg ?_)
      refine WL.ev rfl rfl (Ev.fa rfl fo119_2 rfl) (WL.ev rfl rfl (Ev.ld rfl ag3 rfl ((H.rB (i := 0) rfl).cell rfl)) (WL.ev rfl rfl (Ev.as rfl rfl) (WL.nil ?_)))
      refine CW.ret ?_
      obtain rfl := sm hr
      exact ⟨_, res1 rfl rfl rfl, H.ext0, rfl, ha0_2⟩
    · skip
      have hr := ifn h2 hr
      refine CW.seq (CW.reg ?_)
      refine WL.ev rfl rfl (Ev.bin rfl rfl rfl Bin.eql) (WL.ev rfl rfl (Ev.as rfl rfl) (WL.nil ?_))
      refine CW.condD rfl (fun h3 => ?_) (fun h3 => ?_)
      · skip
        have hr := ifp h3 hr
        refine CW.seq (CW.reg ?_)
        refine WL.ev rfl rfl (Ev.fa rfl fo119_0 rfl) (WL.ev rfl rfl (Ev.ld rfl ag116 rfl ((H.rB (i := 0) rfl).cell rfl)) (WL.ev rfl rfl (Ev.fa rfl fo31_2 rfl) (WL.ev rfl rfl (Ev.ld rfl ag3 rfl ((H.rB (i := 1) rfl).cell rfl)) (WL.ev rfl rfl (Ev.fa rfl fo31_5 rfl) (WL.ev rfl rfl (Ev.ld rfl ag9 rfl ((H.rB (i := 1) rfl).cell rfl)) (WL.ev rfl rfl (Ev.build rfl pl48 ze48 rfl rfl rfl rfl) ?_))))))
        obtain ⟨y1, hy1, hr⟩ := bd hr
        refine WL.call rfl rfl rfl rfl rfl ok88 rfl (iEvalLocal_1_ok hy1 (F0 := fun q => q < _) ⟨rfl, hI3, hS2⟩ ⟨H.rAl (i := 3) rfl, _, H.rA (i := 3) rfl, ⟨_, rfl, (H.rS (i := 5) rfl)⟩⟩) ?_
        rintro _ w3 hE ⟨rfl, hI5⟩
        have H := H.ext hE
        refine WL.ev rfl rfl (Ev.as rfl rfl) (WL.nil ?_)
        refine CW.ret ?_
        obtain rfl := sm hr
        exact ⟨_, res1 rfl rfl rfl, H.ext0, rfl, hI5⟩
      · skip
        have hr := ifn h3 hr
        refine CW.seq (CW.reg ?_)
        refine WL.ev rfl rfl (Ev.bin rfl rfl rfl Bin.eql) (WL.ev rfl rfl (Ev.as rfl rfl) (WL.nil ?_))
        refine CW.condD rfl (fun h4 => ?_) (fun h4 => ?_)
        · skip
          have hr := ifp h4 hr
          refine CW.seq (CW.quiet hmix (by kernel_rfl) ?_)
          refine QL.ev rfl rfl (fun _ hq => Ev.lda rfl ag119 sz119 rfl (At.blk ((H.ext hq).rB (i := 0) rfl)) rfl) (QL.ev rfl rfl (fun _ _ => Ev.fa rfl fo31_6 rfl) (QL.ev rfl rfl (fun _ hq => Ev.ld rfl ag29 rfl (((H.ext hq).rB (i := 1) rfl).cell rfl)) ?_))
          obtain ⟨x1, hx1, hr⟩ := bd hr
          obtain ⟨b3, ob3, cb3, A3, n3, c3, hvb3, hI6, hI7, hI8, hI9, hS3, hS4, H⟩ := ixS_Expr H (i := 2) rfl hx1
          refine QL.ev rfl rfl (fun _ _ => Ev.ixVN rfl el29 sz31 rfl hvb3 rfl (lt_of hx1)) (QL.ev rfl rfl (fun _ hq => Ev.lda rfl ag31 sz31 rfl ((H.ext hq).rA (i := 6) rfl) rfl) ?_)
          obtain ⟨y2, hy2, hr⟩ := bd hr
          refine QL.call rfl rfl rfl rfl rfl ok90 rfl (fun _ hq => (ih_ireader_eval_iEvalLocal_1_inowhere hy2 (F0 := fun q => q < _) ⟨(H.ext hq).rAl (i := 3) rfl, _, (H.ext hq).rA (i := 3) rfl, ⟨_, rfl, ((H.ext hq).rS (i := 5) rfl)⟩⟩ ha0_2 ((H.ext hq).rS (i := 0) rfl) (Expr_rd.2 ⟨_, rfl, hI6, hI7, hI8, hI9, hS3, hS4, ((H.ext hq).rS (i := 8) rfl)⟩)).mono fun _ _ _ h => h.1) ?_
          obtain ⟨_, _, _, hI10⟩ := (ih_ireader_eval_iEvalLocal_1_inowhere hy2 (F0 := fun q => q < _) ⟨H.rAl (i := 3) rfl, _, H.rA (i := 3) rfl, ⟨_, rfl, (H.rS (i := 5) rfl)⟩⟩ ha0_2 (H.rS (i := 0) rfl) (Expr_rd.2 ⟨_, rfl, hI6, hI7, hI8, hI9, hS3, hS4, (H.rS (i := 8) rfl)⟩)).get
          refine QL.ev rfl rfl (fun _ _ => Ev.as rfl rfl) (QL.nil (fun w4 hE => ?_))
          have H := H.ext hE
          refine CW.seq (CW.quiet hmix (by kernel_rfl) ?_)
          refine QL.ev rfl rfl (fun _ _ => Ev.fa rfl fo31_1 rfl) (QL.ev rfl rfl (fun _ hq => Ev.ld rfl ag3 rfl (((H.ext hq).rB (i := 1) rfl).cell rfl)) (QL.ev rfl rfl (fun _ _ => Ev.mv rfl rfl) (QL.ev rfl rfl (fun _ hq => Ev.lda rfl ag119 sz119 rfl (At.blk ((H.ext hq).rB (i := 0) rfl)) rfl) (QL.ev rfl rfl (fun _ _ => Ev.fa rfl fo31_6 rfl) (QL.ev rfl rfl (fun _ hq => Ev.ld rfl ag29 rfl (((H.ext hq).rB (i := 1) rfl).cell rfl)) ?_)))))
          obtain ⟨x2, hx2, hr⟩ := bd hr
          obtain ⟨b4, ob4, cb4, A4, n4, c4, hvb4, hI11, hI12, hI13, hI14, hS5, hS6, H⟩ := ixS_Expr H (i := 2) rfl hx2
          refine QL.ev rfl rfl (fun _ _ => Ev.ixVN rfl el29 sz31 rfl hvb4 rfl (lt_of hx2)) (QL.ev rfl rfl (fun _ hq => Ev.lda rfl ag31 sz31 rfl ((H.ext hq).rA (i := 9) rfl) rfl) ?_)
          obtain ⟨y3, hy3, hr⟩ := bd hr
          refine QL.call rfl rfl rfl rfl rfl ok90 rfl (fun _ hq => (ih_ireader_eval_iEvalLocal_1_inowhere hy3 (F0 := fun q => q < _) ⟨(H.ext hq).rAl (i := 3) rfl, _, (H.ext hq).rA (i := 3) rfl, ⟨_, rfl, ((H.ext hq).rS (i := 5) rfl)⟩⟩ ha0_2 ((H.ext hq).rS (i := 0) rfl) (Expr_rd.2 ⟨_, rfl, hI11, hI12, hI13, hI14, hS5, hS6, ((H.ext hq).rS (i := 11) rfl)⟩)).mono fun _ _ _ h => h.1) ?_
          obtain ⟨_, _, _, hI15⟩ := (ih_ireader_eval_iEvalLocal_1_inowhere hy3 (F0 := fun q => q < _) ⟨H.rAl (i := 3) rfl, _, H.rA (i := 3) rfl, ⟨_, rfl, (H.rS (i := 5) rfl)⟩⟩ ha0_2 (H.rS (i := 0) rfl) (Expr_rd.2 ⟨_, rfl, hI11, hI12, hI13, hI14, hS5, hS6, (H.rS (i := 11) rfl)⟩)).get
          obtain ⟨y4, hy4, hr⟩ := bd hr
          refine QL.call rfl rfl rfl rfl rfl ok151 rfl (fun _ hq => (iApplyOp_ok hy4 (F0 := fun _ => False) hI2 hI10 hI15).mono fun _ _ _ h => h.1) ?_
          obtain ⟨_, _, _, hI16⟩ := (iApplyOp_ok hy4 (F0 := fun _ => False) (w0 := w0) hI2 hI10 hI15).get
          refine QL.ev rfl rfl (fun _ _ => Ev.as rfl rfl) (QL.nil (fun w5 hE => ?_))
          have H := H.ext hE
          refine CW.ret ?_
          obtain rfl := sm hr
          exact ⟨_, res1 rfl rfl rfl, H.ext0, rfl, hI16⟩
        · skip
          have hr := ifn h4 hr
          refine CW.seq (CW.reg ?_)
          refine WL.ev rfl rfl (Ev.bin rfl rfl rfl Bin.eql) (WL.ev rfl rfl (Ev.as rfl rfl) (WL.nil ?_))
          refine CW.condD rfl (fun h5 => ?_) (fun h5 => ?_)
          · skip
            have hr := ifp h5 hr
            refine CW.seq (CW.seq (CW.quiet hmix (by kernel_rfl) ?_))
            refine QL.ev rfl rfl (fun _ hq => Ev.lda rfl ag119 sz119 rfl (At.blk ((H.ext hq).rB (i := 0) rfl)) rfl) (QL.ev rfl rfl (fun _ _ => Ev.fa rfl fo31_6 rfl) (QL.ev rfl rfl (fun _ hq => Ev.ld rfl ag29 rfl (((H.ext hq).rB (i := 1) rfl).cell rfl)) ?_))
            obtain ⟨x3, hx3, hr⟩ := bd hr
            obtain ⟨b5, ob5, cb5, A5, n5, c5, hvb5, hI17, hI18, hI19, hI20, hS7, hS8, H⟩ := ixS_Expr H (i := 2) rfl hx3
            refine QL.ev rfl rfl (fun _ _ => Ev.ixVN rfl el29 sz31 rfl hvb5 rfl (lt_of hx3)) (QL.ev rfl rfl (fun _ hq => Ev.lda rfl ag31 sz31 rfl ((H.ext hq).rA (i := 6) rfl) rfl) ?_)
            obtain ⟨y5, hy5, hr⟩ := bd hr
            refine QL.call rfl rfl rfl rfl rfl ok90 rfl (fun _ hq => (ih_ireader_eval_iEvalLocal_1_inowhere hy5 (F0 := fun q => q < _) ⟨(H.ext hq).rAl (i := 3) rfl, _, (H.ext hq).rA (i := 3) rfl, ⟨_, rfl, ((H.ext hq).rS (i := 5) rfl)⟩⟩ ha0_2 ((H.ext hq).rS (i := 0) rfl) (Expr_rd.2 ⟨_, rfl, hI17, hI18, hI19, hI20, hS7, hS8, ((H.ext hq).rS (i := 8) rfl)⟩)).mono fun _ _ _ h => h.1) ?_
            obtain ⟨_, _, _, hI21⟩ := (ih_ireader_eval_iEvalLocal_1_inowhere hy5 (F0 := fun q => q < _) ⟨H.rAl (i := 3) rfl, _, H.rA (i := 3) rfl, ⟨_, rfl, (H.rS (i := 5) rfl)⟩⟩ ha0_2 (H.rS (i := 0) rfl) (Expr_rd.2 ⟨_, rfl, hI17, hI18, hI19, hI20, hS7, hS8, (H.rS (i := 8) rfl)⟩)).get
            refine QL.ev rfl rfl (fun _ _ => Ev.bin rfl rfl rfl Bin.neq) (QL.nil (fun w6 hE => ?_))
            have H := H.ext hE
            refine CW.condN rfl (fun h6 => ?_) (fun h6 => ?_)
            · skip
              have hr := ifn h6 hr
              refine CW.seq ?_
              refine CW.fresh [(2, .pointer (some ⟨b1, 0, none⟩)), (3, .pointer (some ⟨b2, 0, none⟩))] ⟨rfl, rfl, trivial⟩ fun σ => ?_
              have H : HL F0 [] w0 w6 [Pr.S a0_3 (.slice A0_3' n0_3' c0_3'), Pr.R a1 [.int .i64 a1.Kind, .int .i64 a1.N, .int .i64 a1.Pos, .int .i64 a1.Type_, .string a1.Symbol, .string a1.Name, .slice A1 n1 c1], Pr.S a1.Args (.slice A1 n1 c1), Pr.A b0_0_0p 0 [.slice A2 n2 c2], Pr.R a0_0_0 [.slice A2 n2 c2], Pr.S a0_0_0 (.slice A2 n2 c2), Pr.A b5 (ob5 + 0 * 7) [.int .i64 x3.Kind, .int .i64 x3.N, .int .i64 x3.Pos, .int .i64 x3.Type_, .string x3.Symbol, .string x3.Name, .slice A5 n5 c5], Pr.R x3 [.int .i64 x3.Kind, .int .i64 x3.N, .int .i64 x3.Pos, .int .i64 x3.Type_, .string x3.Symbol, .string x3.Name, .slice A5 n5 c5], Pr.S x3.Args (.slice A5 n5 c5)] [It.B b1 119 [.func (.func 88) #[] #[.pointer (some ⟨b0_0_0p, 0, none⟩)], .func (.func 89) #[] #[], .int .i64 a0_2, .slice A0_3' n0_3' c0_3'], It.B b2 31 [.int .i64 a1.Kind, .int .i64 a1.N, .int .i64 a1.Pos, .int .i64 a1.Type_, .string a1.Symbol, .string a1.Name, .slice A1 n1 c1]] := H
              refine CW.quiet hmix (by kernel_rfl) ?_
              refine QL.ev rfl rfl (fun _ hq => Ev.lda rfl ag119 sz119 rfl (At.blk ((H.ext hq).rB (i := 0) rfl)) rfl) (QL.ev rfl rfl (fun _ _ => Ev.fa rfl fo31_6 rfl) (QL.ev rfl rfl (fun _ hq => Ev.ld rfl ag29 rfl (((H.ext hq).rB (i := 1) rfl).cell rfl)) ?_))
              obtain ⟨x4, hx4, hr⟩ := bd hr
              obtain ⟨b6, ob6, cb6, A6, n6, c6, hvb6, hI22, hI23, hI24, hI25, hS9, hS10, H⟩ := ixS_Expr H (i := 2) rfl hx4
              refine QL.ev rfl rfl (fun _ _ => Ev.ixVN rfl el29 sz31 rfl hvb6 rfl (lt_of hx4)) (QL.ev rfl rfl (fun _ hq => Ev.lda rfl ag31 sz31 rfl ((H.ext hq).rA (i := 9) rfl) rfl) ?_)
              obtain ⟨y6, hy6, hr⟩ := bd hr
              refine QL.call rfl rfl rfl rfl rfl ok90 rfl (fun _ hq => (ih_ireader_eval_iEvalLocal_1_inowhere hy6 (F0 := fun q => q < _) ⟨(H.ext hq).rAl (i := 3) rfl, _, (H.ext hq).rA (i := 3) rfl, ⟨_, rfl, ((H.ext hq).rS (i := 5) rfl)⟩⟩ ha0_2 ((H.ext hq).rS (i := 0) rfl) (Expr_rd.2 ⟨_, rfl, hI22, hI23, hI24, hI25, hS9, hS10, ((H.ext hq).rS (i := 11) rfl)⟩)).mono fun _ _ _ h => h.1) ?_
              obtain ⟨_, _, _, hI26⟩ := (ih_ireader_eval_iEvalLocal_1_inowhere hy6 (F0 := fun q => q < _) ⟨H.rAl (i := 3) rfl, _, H.rA (i := 3) rfl, ⟨_, rfl, (H.rS (i := 5) rfl)⟩⟩ ha0_2 (H.rS (i := 0) rfl) (Expr_rd.2 ⟨_, rfl, hI22, hI23, hI24, hI25, hS9, hS10, (H.rS (i := 11) rfl)⟩)).get
              refine QL.ev rfl rfl (fun _ _ => Ev.as rfl rfl) (QL.nil (fun w7 hE => ?_))
              have H := H.ext hE
              refine CW.ret ?_
              obtain rfl := sm hr
              exact ⟨_, res1 rfl rfl rfl, H.ext0, rfl, hI26⟩
            · skip
              have hr := ifp h6 hr
              refine CW.skip ?_
              refine CW.seq ?_
              refine CW.fresh [(2, .pointer (some ⟨b1, 0, none⟩)), (3, .pointer (some ⟨b2, 0, none⟩))] ⟨rfl, rfl, trivial⟩ fun σ => ?_
              have H : HL F0 [] w0 w6 [Pr.S a0_3 (.slice A0_3' n0_3' c0_3'), Pr.R a1 [.int .i64 a1.Kind, .int .i64 a1.N, .int .i64 a1.Pos, .int .i64 a1.Type_, .string a1.Symbol, .string a1.Name, .slice A1 n1 c1], Pr.S a1.Args (.slice A1 n1 c1), Pr.A b0_0_0p 0 [.slice A2 n2 c2], Pr.R a0_0_0 [.slice A2 n2 c2], Pr.S a0_0_0 (.slice A2 n2 c2), Pr.A b5 (ob5 + 0 * 7) [.int .i64 x3.Kind, .int .i64 x3.N, .int .i64 x3.Pos, .int .i64 x3.Type_, .string x3.Symbol, .string x3.Name, .slice A5 n5 c5], Pr.R x3 [.int .i64 x3.Kind, .int .i64 x3.N, .int .i64 x3.Pos, .int .i64 x3.Type_, .string x3.Symbol, .string x3.Name, .slice A5 n5 c5], Pr.S x3.Args (.slice A5 n5 c5)] [It.B b1 119 [.func (.func 88) #[] #[.pointer (some ⟨b0_0_0p, 0, none⟩)], .func (.func 89) #[] #[], .int .i64 a0_2, .slice A0_3' n0_3' c0_3'], It.B b2 31 [.int .i64 a1.Kind, .int .i64 a1.N, .int .i64 a1.Pos, .int .i64 a1.Type_, .string a1.Symbol, .string a1.Name, .slice A1 n1 c1]] := H
              refine CW.quiet hmix (by kernel_rfl) ?_
              refine QL.ev rfl rfl (fun _ hq => Ev.lda rfl ag119 sz119 rfl (At.blk ((H.ext hq).rB (i := 0) rfl)) rfl) (QL.ev rfl rfl (fun _ _ => Ev.fa rfl fo31_6 rfl) (QL.ev rfl rfl (fun _ hq => Ev.ld rfl ag29 rfl (((H.ext hq).rB (i := 1) rfl).cell rfl)) ?_))
              obtain ⟨x5, hx5, hr⟩ := bd hr
              obtain ⟨b7, ob7, cb7, A7, n7, c7, hvb7, hI27, hI28, hI29, hI30, hS11, hS12, H⟩ := ixS_Expr H (i := 2) rfl hx5
              refine QL.ev rfl rfl (fun _ _ => Ev.ixVN rfl el29 sz31 rfl hvb7 rfl (lt_of hx5)) (QL.ev rfl rfl (fun _ hq => Ev.lda rfl ag31 sz31 rfl ((H.ext hq).rA (i := 9) rfl) rfl) ?_)
              obtain ⟨y7, hy7, hr⟩ := bd hr
              refine QL.call rfl rfl rfl rfl rfl ok90 rfl (fun _ hq => (ih_ireader_eval_iEvalLocal_1_inowhere hy7 (F0 := fun q => q < _) ⟨(H.ext hq).rAl (i := 3) rfl, _, (H.ext hq).rA (i := 3) rfl, ⟨_, rfl, ((H.ext hq).rS (i := 5) rfl)⟩⟩ ha0_2 ((H.ext hq).rS (i := 0) rfl) (Expr_rd.2 ⟨_, rfl, hI27, hI28, hI29, hI30, hS11, hS12, ((H.ext hq).rS (i := 11) rfl)⟩)).mono fun _ _ _ h => h.1) ?_
              obtain ⟨_, _, _, hI31⟩ := (ih_ireader_eval_iEvalLocal_1_inowhere hy7 (F0 := fun q => q < _) ⟨H.rAl (i := 3) rfl, _, H.rA (i := 3) rfl, ⟨_, rfl, (H.rS (i := 5) rfl)⟩⟩ ha0_2 (H.rS (i := 0) rfl) (Expr_rd.2 ⟨_, rfl, hI27, hI28, hI29, hI30, hS11, hS12, (H.rS (i := 11) rfl)⟩)).get
              refine QL.ev rfl rfl (fun _ _ => Ev.as rfl rfl) (QL.nil (fun w8 hE => ?_))
              have H := H.ext hE
              refine CW.ret ?_
              obtain rfl := sm hr
              exact ⟨_, res1 rfl rfl rfl, H.ext0, rfl, hI31⟩
          · skip
            have hr := ifn h5 hr
            refine CW.seq (CW.reg ?_)
            refine WL.ev rfl rfl (Ev.bin rfl rfl rfl Bin.eql) (WL.ev rfl rfl (Ev.as rfl rfl) (WL.nil ?_))
            refine CW.condD rfl (fun h7 => ?_) (fun h7 => ?_)
            · skip
              have hr := ifp h7 hr
              refine CW.seq (CW.reg ?_)
              refine WL.ev rfl rfl (Ev.fa rfl fo31_2 rfl) (WL.ev rfl rfl (Ev.ld rfl ag3 rfl ((H.rB (i := 1) rfl).cell rfl)) (WL.ev rfl rfl (Ev.fa rfl fo119_3 rfl) (WL.ev rfl rfl (Ev.ld rfl ag41 rfl ((H.rB (i := 0) rfl).cell rfl)) ?_)))
              have hl1 := (H.rS (i := 0) rfl).I
              refine WL.ev rfl rfl (Ev.lenV rfl el41 rfl (H.rS (i := 0) rfl)) (WL.ev rfl rfl (Ev.bin rfl rfl rfl Bin.lss) (WL.nil ?_))
              refine CW.condD rfl (fun h8 => ?_) (fun h8 => ?_)
              · skip
                have hr := ifp h8 hr
                refine CW.seq ?_
                refine CW.fresh [(2, .pointer (some ⟨b1, 0, none⟩)), (3, .pointer (some ⟨b2, 0, none⟩))] ⟨rfl, rfl, trivial⟩ fun σ => ?_
                have H : HL F0 [] w0 w2 [Pr.S a0_3 (.slice A0_3' n0_3' c0_3'), Pr.R a1 [.int .i64 a1.Kind, .int .i64 a1.N, .int .i64 a1.Pos, .int .i64 a1.Type_, .string a1.Symbol, .string a1.Name, .slice A1 n1 c1], Pr.S a1.Args (.slice A1 n1 c1), Pr.A b0_0_0p 0 [.slice A2 n2 c2], Pr.R a0_0_0 [.slice A2 n2 c2], Pr.S a0_0_0 (.slice A2 n2 c2)] [It.B b1 119 [.func (.func 88) #[] #[.pointer (some ⟨b0_0_0p, 0, none⟩)], .func (.func 89) #[] #[], .int .i64 a0_2, .slice A0_3' n0_3' c0_3'], It.B b2 31 [.int .i64 a1.Kind, .int .i64 a1.N, .int .i64 a1.Pos, .int .i64 a1.Type_, .string a1.Symbol, .string a1.Name, .slice A1 n1 c1]] := H
                refine CW.reg ?_
                refine WL.ev rfl rfl (Ev.fa rfl fo119_3 rfl) (WL.ev rfl rfl (Ev.ld rfl ag41 rfl ((H.rB (i := 0) rfl).cell rfl)) (WL.ev rfl rfl (Ev.fa rfl fo31_2 rfl) (WL.ev rfl rfl (Ev.ld rfl ag3 rfl ((H.rB (i := 1) rfl).cell rfl)) ?_)))
                obtain ⟨hg1, hr⟩ := grd_some hr
                obtain ⟨x6, hx6, hr⟩ := bd hr
                obtain ⟨b8, ob8, cb8, hvb8, hI32, H⟩ := ixS_Int H (i := 0) rfl hx6
                refine WL.ev rfl rfl (Ev.ixV rfl el41 sz3 rfl hvb8 rfl hg1 (lt_of hx6)) (WL.ev rfl rfl (Ev.ld rfl ag3 rfl ((H.rA (i := 6) rfl).cell0 rfl)) (WL.ev rfl rfl (Ev.as rfl rfl) (WL.nil ?_)))
                refine CW.ret ?_
                obtain rfl := sm hr
                exact ⟨_, res1 rfl rfl rfl, H.ext0, rfl, hI32⟩
              · skip
                have hr := ifn h8 hr
                refine CW.skip ?_
                refine CW.seq ?_
                refine CW.fresh [] trivial fun σ => ?_
                have H : HL F0 [] w0 w2 [Pr.S a0_3 (.slice A0_3' n0_3' c0_3'), Pr.R a1 [.int .i64 a1.Kind, .int .i64 a1.N, .int .i64 a1.Pos, .int .i64 a1.Type_, .string a1.Symbol, .string a1.Name, .slice A1 n1 c1], Pr.S a1.Args (.slice A1 n1 c1), Pr.A b0_0_0p 0 [.slice A2 n2 c2], Pr.R a0_0_0 [.slice A2 n2 c2], Pr.S a0_0_0 (.slice A2 n2 c2)] [It.B b1 119 [.func (.func 88) #[] #[.pointer (some ⟨b0_0_0p, 0, none⟩)], .func (.func 89) #[] #[], .int .i64 a0_2, .slice A0_3' n0_3' c0_3'], It.B b2 31 [.int .i64 a1.Kind, .int .i64 a1.N, .int .i64 a1.Pos, .int .i64 a1.Type_, .string a1.Symbol, .string a1.Name, .slice A1 n1 c1]] := H
                refine CW.reg ?_
                refine WL.ev rfl rfl (Ev.as rfl rfl) (WL.nil ?_)
                refine CW.ret ?_
                obtain rfl := sm hr
                exact ⟨_, res1 rfl rfl rfl, H.ext0, rfl, (by decide : I64 0)⟩
            · skip
              have hr := ifn h7 hr
              refine CW.seq (CW.reg ?_)
              refine WL.ev rfl rfl (Ev.bin rfl rfl rfl Bin.eql) (WL.ev rfl rfl (Ev.as rfl rfl) (WL.nil ?_))
              refine CW.condD rfl (fun h9 => ?_) (fun h9 => ?_)
              · skip
                have hr := ifp h9 hr
                refine CW.seq (CW.quiet hmix (by kernel_rfl) ?_)
                refine QL.ev rfl rfl (fun _ _ => Ev.fa rfl fo119_1 rfl) (QL.ev rfl rfl (fun _ hq => Ev.ld rfl ag117 rfl (((H.ext hq).rB (i := 0) rfl).cell rfl)) (QL.ev rfl rfl (fun _ hq => Ev.lda rfl ag119 sz119 rfl (At.blk ((H.ext hq).rB (i := 0) rfl)) rfl) (QL.ev rfl rfl (fun _ _ => Ev.fa rfl fo31_6 rfl) (QL.ev rfl rfl (fun _ hq => Ev.ld rfl ag29 rfl (((H.ext hq).rB (i := 1) rfl).cell rfl)) ?_))))
                obtain ⟨x7, hx7, hr⟩ := bd hr
                obtain ⟨b9, ob9, cb9, A8, n8, c8, hvb9, hI33, hI34, hI35, hI36, hS13, hS14, H⟩ := ixS_Expr H (i := 2) rfl hx7
                refine QL.ev rfl rfl (fun _ _ => Ev.ixVN rfl el29 sz31 rfl hvb9 rfl (lt_of hx7)) (QL.ev rfl rfl (fun _ hq => Ev.lda rfl ag31 sz31 rfl ((H.ext hq).rA (i := 6) rfl) rfl) ?_)
                obtain ⟨y8, hy8, hr⟩ := bd hr
                refine QL.call rfl rfl rfl rfl rfl ok90 rfl (fun _ hq => (ih_ireader_eval_iEvalLocal_1_inowhere hy8 (F0 := fun q => q < _) ⟨(H.ext hq).rAl (i := 3) rfl, _, (H.ext hq).rA (i := 3) rfl, ⟨_, rfl, ((H.ext hq).rS (i := 5) rfl)⟩⟩ ha0_2 ((H.ext hq).rS (i := 0) rfl) (Expr_rd.2 ⟨_, rfl, hI33, hI34, hI35, hI36, hS13, hS14, ((H.ext hq).rS (i := 8) rfl)⟩)).mono fun _ _ _ h => h.1) ?_
                obtain ⟨_, _, _, hI37⟩ := (ih_ireader_eval_iEvalLocal_1_inowhere hy8 (F0 := fun q => q < _) ⟨H.rAl (i := 3) rfl, _, H.rA (i := 3) rfl, ⟨_, rfl, (H.rS (i := 5) rfl)⟩⟩ ha0_2 (H.rS (i := 0) rfl) (Expr_rd.2 ⟨_, rfl, hI33, hI34, hI35, hI36, hS13, hS14, (H.rS (i := 8) rfl)⟩)).get
                refine QL.ev rfl rfl (fun _ hq => Ev.lda rfl ag31 sz31 rfl (At.blk ((H.ext hq).rB (i := 1) rfl)) rfl) ?_
                obtain ⟨y9, hy9, hr⟩ := bd hr
                refine QL.call rfl rfl rfl rfl rfl ok89 rfl (fun _ hq => (inowhere_ok hy9 hI37 (Expr_rd.2 ⟨_, rfl, hI1, hI2, hI3, hI4, hS1, hS2, ((H.ext hq).rS (i := 2) rfl)⟩)).mono fun _ _ _ h => h.1) ?_
                obtain ⟨_, _, _, hI38⟩ := (inowhere_ok hy9 hI37 (Expr_rd.2 ⟨_, rfl, hI1, hI2, hI3, hI4, hS1, hS2, (H.rS (i := 2) rfl)⟩)).get
                refine QL.ev rfl rfl (fun _ _ => Ev.as rfl rfl) (QL.nil (fun w9 hE => ?_))
                have H := H.ext hE
                refine CW.ret ?_
                obtain rfl := sm hr
                exact ⟨_, res1 rfl rfl rfl, H.ext0, rfl, hI38⟩
              · skip
                have hr := ifn h9 hr
                refine CW.skip ?_
                refine CW.seq (CW.reg ?_)
                refine WL.ev rfl rfl (Ev.as rfl rfl) (WL.nil ?_)
                refine CW.ret ?_
                obtain rfl := sm hr
                exact ⟨_, res1 rfl rfl rfl, H.ext0, rfl, (by decide : I64 0)⟩
noncomputable def ireader_eval_iEvalLocal_1_inowhere_n : Nat → (List Slot) → Int → (List Int) → Expr → Option Int
  | 0, _, _, _, _ => none
  | n + 1, a0_0_0, a0_2, a0_3, a1 => ireader_eval_iEvalLocal_1_inowhere_B (ireader_eval_iEvalLocal_1_inowhere_n n) a0_0_0 a0_2 a0_3 a1
noncomputable def ireader_eval_iEvalLocal_1_inowhere_m (a0_0_0 : (List Slot)) (a0_2 : Int) (a0_3 : (List Int)) (a1 : Expr) : Option Int := recO fun n => ireader_eval_iEvalLocal_1_inowhere_n n a0_0_0 a0_2 a0_3 a1
theorem ireader_eval_iEvalLocal_1_inowhere_okn (n : Nat) : ∀ {a0_0_0 : (List Slot)} {a0_2 : Int} {a0_3 : (List Int)} {a1 : Expr} {r : Int}, ireader_eval_iEvalLocal_1_inowhere_n n a0_0_0 a0_2 a0_3 a1 = some r → ∀ {F0 : Nat → Prop} {w0 : World} {b0_0_0p : Nat} (ha0_0_0 : CapP F0 w0 b0_0_0p a0_0_0) (ha0_2 : I64 a0_2) {z0_3 : Value} (ha0_3 : rdS F0 w0 a0_3 z0_3) {ca1 : List Value} (ha1 : rd F0 w0 a1 ca1), Ret Try.prog 90 #[.agg #[.func (.func 88) #[] #[.pointer (some ⟨b0_0_0p, 0, none⟩)], .func (.func 89) #[] #[], .int .i64 a0_2, z0_3], .agg ca1.toArray] w0 (fun _ => False) fun v w => v = .int .i64 r ∧ I64 r := by
  induction n with
  | zero => intro a0_0_0 a0_2 a0_3 a1 r hr; exact nomatch (show (none : Option Int) = some r from hr)
  | succ n ih => intro a0_0_0 a0_2 a0_3 a1 r hr; exact ireader_eval_iEvalLocal_1_inowhere_okB ih hr
theorem ireader_eval_iEvalLocal_1_inowhere_ok {a0_0_0 : (List Slot)} {a0_2 : Int} {a0_3 : (List Int)} {a1 : Expr} {r : Int} (hr : ireader_eval_iEvalLocal_1_inowhere_m a0_0_0 a0_2 a0_3 a1 = some r) {F0 : Nat → Prop} {w0 : World} {b0_0_0p : Nat} (ha0_0_0 : CapP F0 w0 b0_0_0p a0_0_0) (ha0_2 : I64 a0_2) {z0_3 : Value} (ha0_3 : rdS F0 w0 a0_3 z0_3) {ca1 : List Value} (ha1 : rd F0 w0 a1 ca1) :
    Ret Try.prog 90 #[.agg #[.func (.func 88) #[] #[.pointer (some ⟨b0_0_0p, 0, none⟩)], .func (.func 89) #[] #[], .int .i64 a0_2, z0_3], .agg ca1.toArray] w0 (fun _ => False) fun v w => v = .int .i64 r ∧ I64 r := by
  obtain ⟨n, hn⟩ := recO_some hr
  exact ireader_eval_iEvalLocal_1_inowhere_okn n hn ha0_0_0 ha0_2 ha0_3 ha1

noncomputable def iEvalLocal_m (a0 : Expr) (a1 : (List Slot)) (a2 : Int) (a3 : (List Int)) : Option Int :=
  (iIsValidExpr_m a0).bind fun y1 =>
  if y1 = true then (
  (ireader_eval_iEvalLocal_1_inowhere_m a1 a2 a3 a0).bind fun y2 =>
  some y2
  ) else (
  some 0
  )
theorem iEvalLocal_ok {a0 : Expr} {a1 : (List Slot)} {a2 : Int} {a3 : (List Int)} {r : Int} (hr : iEvalLocal_m a0 a1 a2 a3 = some r) {F0 : Nat → Prop} {M : List Nat} {w0 : World} {Aa0_6 : Option Addr} {na0_6 ca0_6 : Nat} {Aa1 : Option Addr} {na1 ca1 : Nat} {Aa3 : Option Addr} {na3 ca3 : Nat} (hIa0_0 : I64 a0.Kind) (hIa0_1 : I64 a0.N) (hIa0_2 : I64 a0.Pos) (hIa0_3 : I64 a0.Type_) (hIa0_4 : a0.Symbol.size ≤ 9223372036854775807) (hIa0_5 : a0.Name.size ≤ 9223372036854775807) (hIa2 : I64 a2) (H : HL F0 M w0 w0 [Pr.S a0.Args (.slice Aa0_6 na0_6 ca0_6), Pr.S a1 (.slice Aa1 na1 ca1)] [It.O 3 a3 (.slice Aa3 na3 ca3)]) :
    Ret Try.prog 23 #[.agg #[.int .i64 a0.Kind, .int .i64 a0.N, .int .i64 a0.Pos, .int .i64 a0.Type_, .string a0.Symbol, .string a0.Name, .slice Aa0_6 na0_6 ca0_6], .slice Aa1 na1 ca1, .int .i64 a2, .slice Aa3 na3 ca3] w0 (· ∈ M) fun v w => v = .int .i64 r ∧ I64 r ∧ HL F0 M w0 w [] [It.O 3 a3 (.slice Aa3 na3 ca3)] := by
  refine enter Try.func23 rfl rfl rfl ?_
  refine CW.seq (CW.reg ?_)
  refine WL.boxH rfl rfl rfl rfl rfl H fun b1 w1 H => ?_
  refine WL.boxH rfl rfl rfl rfl rfl H fun b2 w2 H => ?_
  refine WL.ev rfl rfl (Ev.as rfl rfl) (WL.nil ?_)
  refine CW.seq (CW.seq (CW.reg ?_))
  refine WL.ev rfl rfl (Ev.lda rfl ag31 sz31 rfl (At.blk (H.rB (i := 1) rfl)) rfl) ?_
  obtain ⟨y1, hy1, hr⟩ := bd hr
  refine WL.call rfl rfl rfl rfl rfl ok87 rfl (iIsValidExpr_ok hy1 (Expr_rd.2 ⟨_, rfl, hIa0_0, hIa0_1, hIa0_2, hIa0_3, hIa0_4, hIa0_5, (H.rS (i := 0) rfl)⟩)) ?_
  rintro _ w3 hE rfl
  have H := H.ext hE
  refine WL.ev rfl rfl (Ev.not rfl rfl) (WL.nil ?_)
  refine CW.condBN rfl (fun h1 => ?_) (fun h1 => ?_)
  · skip
    have hr := ifn h1 hr
    refine CW.seq (CW.reg ?_)
    refine WL.ev rfl rfl (Ev.as rfl rfl) (WL.nil ?_)
    refine CW.ret ?_
    obtain rfl := sm hr
    exact ⟨_, res1 rfl rfl rfl, H.chg, rfl, (by decide : I64 0), H.outM (fr' := []) [true, false, false] fun _ _ => trivial⟩
  · skip
    have hr := ifp h1 hr
    refine CW.skip ?_
    refine CW.seq (CW.reg ?_)
    refine WL.ev rfl rfl (Ev.mkfL rfl rfl rfl) (WL.ev rfl rfl (Ev.mv rfl rfl) (WL.ev rfl rfl (Ev.mv rfl rfl) (WL.ev rfl rfl (Ev.build rfl pl119 ze119 rfl rfl rfl rfl) (WL.ev rfl rfl (Ev.lda rfl ag31 sz31 rfl (At.blk (H.rB (i := 1) rfl)) rfl) ?_))))
    obtain ⟨y2, hy2, hr⟩ := bd hr
    refine WL.call rfl rfl rfl rfl rfl ok90 rfl (ireader_eval_iEvalLocal_1_inowhere_ok hy2 (F0 := fun q => q < _) ⟨(H.rB (i := 2) rfl).lt, _, At.blk (H.rB (i := 2) rfl), ⟨_, rfl, (H.rS (i := 1) rfl)⟩⟩ hIa2 (H.rO (i := 0) rfl) (Expr_rd.2 ⟨_, rfl, hIa0_0, hIa0_1, hIa0_2, hIa0_3, hIa0_4, hIa0_5, (H.rS (i := 0) rfl)⟩)) ?_
    rintro _ w4 hE ⟨rfl, hI1⟩
    have H := H.ext hE
    refine WL.ev rfl rfl (Ev.as rfl rfl) (WL.nil ?_)
    refine CW.ret ?_
    obtain rfl := sm hr
    exact ⟨_, res1 rfl rfl rfl, H.chg, rfl, hI1, H.outM (fr' := []) [true, false, false] fun _ _ => trivial⟩

noncomputable def sSlotValue_L1 (a1 : Occurrence) : Nat → Slot → Unit → Option (Unit ⊕ Int) := fun k1 x1 _ => 
  if x1.At = a1 then (
  some (.inr x1.Value)
  ) else (
  some (.inl ())
  )
noncomputable def sSlotValue_m (a0 : (List Slot)) (a1 : Occurrence) : Option Int :=
  (findL (sSlotValue_L1 a1) 0 a0 ()).bind <| onr (fun r1 => some r1) fun _ =>
  some 0
theorem sSlotValue_ok {a0 : (List Slot)} {a1 : Occurrence} {r : Int} (hr : sSlotValue_m a0 a1 = some r) {F0 : Nat → Prop} {w0 : World} {z0 : Value} (ha0 : rdS F0 w0 a0 z0) {ca1 : List Value} (ha1 : rd F0 w0 a1 ca1) :
    Ret Try.prog 29 #[z0, .agg ca1.toArray] w0 (fun _ => False) fun v w => v = .int .i64 r ∧ I64 r := by
  obtain ⟨A0', n0', c0', rfl⟩ := ha0.form3
  have H := ((HL.start F0 w0).argS ha0).argR ha1
  obtain ⟨rfl, hI1, hS1, H⟩ := op_Occurrence H (i := 1) rfl
  refine enter Try.func29 rfl rfl rfl ?_
  refine CW.seq (CW.reg ?_)
  refine WL.boxH rfl rfl rfl rfl rfl H fun b1 w1 H => ?_
  refine WL.ev rfl rfl (Ev.as rfl rfl) (WL.nil ?_)
  refine CW.seq (CW.seq (CW.reg ?_))
  refine WL.ev rfl rfl (Ev.as rfl rfl) (WL.nil ?_)
  obtain ⟨q1, hq1, hr⟩ := bd hr
  refine CW.block (CW.loop (α := Nat) (fun k1 => [(0, .slice A0' n0' c0'), (3, .pointer (some ⟨b1, 0, none⟩)), (5, .int .i64 (k1 : Int))]) (fun k1 w => k1 ≤ a0.length ∧ findL (sSlotValue_L1 a1) k1 (a0.drop k1) () = some q1 ∧ HL F0 [] w0 w [Pr.S a0 (.slice A0' n0' c0'), Pr.R a1 [.int .i64 a1.Pos, .string a1.Name]] [It.B b1 48 [.int .i64 a1.Pos, .string a1.Name]]) (fun k1 => a0.length - k1) 0 ⟨rfl, rfl, rfl, trivial⟩ ⟨Nat.zero_le _, hq1, H.keep 2 1⟩ ?_)
  rintro k1 σ w2 ⟨hk1, hq1, H⟩
  refine CW.seq (CW.seq (CW.reg ?_))
  refine WL.ev rfl rfl (Ev.mv rfl rfl) (WL.ev rfl rfl (Ev.mv rfl rfl) ?_)
  have hl1 := (H.rS (i := 0) rfl).I
  refine WL.ev rfl rfl (Ev.lenV rfl el40 rfl (H.rS (i := 0) rfl)) (WL.ev rfl rfl (Ev.bin rfl rfl rfl Bin.lss) (WL.nil ?_))
  refine CW.condD rfl (fun h1 => ?_) (fun h1 => ?_)
  · skip
    have hk2 := cast_lt h1
    obtain ⟨x1, z1, hx1, hb1, hs1, ht1⟩ := findL_go hq1 hk2
    refine CW.skip ?_
    refine CW.seq (CW.block (CW.seq (CW.quiet hmix (by kernel_rfl) ?_)))
    refine QL.ev rfl rfl (fun _ _ => Ev.mv rfl rfl) (QL.ev rfl rfl (fun _ _ => Ev.mv rfl rfl) ?_)
    obtain ⟨b2, ob2, cb2, hvb2, hI2, hS2, hI3, H⟩ := ixS_Slot H (i := 0) rfl hx1
    refine QL.ev rfl rfl (fun _ _ => Ev.ixVN rfl el40 sz50 rfl hvb2 rfl (lt_of hx1)) (QL.ev rfl rfl (fun _ _ => Ev.fa rfl fo50_0 rfl) (QL.ev rfl rfl (fun _ hq => Ev.lda rfl ag48 sz48 rfl (((H.ext hq).rA (i := 2) rfl).part 0 2) rfl) (QL.ev rfl rfl (fun _ hq => Ev.lda rfl ag48 sz48 rfl (At.blk ((H.ext hq).rB (i := 0) rfl)) rfl) (QL.ev rfl rfl (fun _ _ => Ev.bin rfl rfl rfl (Bin.eqlF fl48 (Occurrence_eqF x1.At a1))) (QL.nil (fun w3 hE => ?_))))))
    have H := H.ext hE
    refine CW.condD rfl (fun h2 => ?_) (fun h2 => ?_)
    · skip
      have hb1 := ifp h2 hb1
      refine CW.seq (CW.reg ?_)
      refine WL.ev rfl rfl (Ev.mv rfl rfl) (WL.ev rfl rfl (Ev.mv rfl rfl) (WL.ev rfl rfl (Ev.ixVN rfl el40 sz50 rfl hvb2 rfl (lt_of hx1)) (WL.ev rfl rfl (Ev.fa rfl fo50_1 rfl) (WL.ev rfl rfl (Ev.ld rfl ag3 rfl ((H.rA (i := 2) rfl).cell rfl)) (WL.ev rfl rfl (Ev.as rfl rfl) (WL.nil ?_))))))
      refine CW.ret ?_
      obtain rfl := sm hb1
      obtain rfl := ht1 _ rfl
      obtain rfl := sm hr
      exact ⟨_, res1 rfl rfl rfl, H.ext0, rfl, hI3⟩
    · skip
      have hb1 := ifn h2 hb1
      refine CW.skip ?_
      refine CW.reg ?_
      refine WL.ev rfl rfl (Ev.mv rfl rfl) (WL.ev rfl rfl (Ev.bin rfl rfl rfl (Bin.addN (a := k1) (b := 1) rfl (i64_succN hk2 hl1.2))) (WL.ev rfl rfl (Ev.as rfl rfl) (WL.nil ?_)))
      obtain rfl := sm hb1
      have hq1 := hs1 _ rfl
      exact ⟨(k1 + 1), ⟨rfl, rfl, rfl, trivial⟩, ⟨hk2, hq1, H.keep 2 1⟩, Nat.sub_lt_sub_left hk2 (Nat.lt_succ_self _)⟩
  · skip
    obtain rfl := findL_end hq1 (not_cast_lt h1)
    have hr := (onr_inl _ _ _).symm.trans hr
    refine CW.exit ?_
    refine CW.seq (CW.reg ?_)
    refine WL.ev rfl rfl (Ev.as rfl rfl) (WL.nil ?_)
    refine CW.ret ?_
    obtain rfl := sm hr
    exact ⟨_, res1 rfl rfl rfl, H.ext0, rfl, (by decide : I64 0)⟩

noncomputable def sOperandTypes_m (a0 : Int) : Option (Int × Int × Int) :=
  (sl1In_m a0 1 5).bind fun y1 =>
  if y1 = true then (
  some (1, 1, 1)
  ) else (
  (sl1In_m a0 6 8).bind fun y2 =>
  if y2 = true then (
  some (2, 2, 2)
  ) else (
  if a0 = 9 then (
  some (1, 1, 3)
  ) else (
  if a0 = 10 then (
  some (1, 1, 3)
  ) else (
  if a0 = 11 then (
  some (2, 1, 3)
  ) else (
  if a0 = 12 then (
  some (2, 1, 2)
  ) else (
  some (0, 0, 0)
  )
  )
  )
  )
  )
  )
theorem sOperandTypes_ok {a0 : Int} {r : (Int × Int × Int)} (hr : sOperandTypes_m a0 = some r) {F0 : Nat → Prop} {w0 : World} (ha0 : I64 a0) :
    Ret Try.prog 177 #[.int .i64 a0] w0 (fun _ => False) fun v w => v = .tuple #[.int .i64 r.1, .int .i64 r.2.1, .int .i64 r.2.2] ∧ I64 r.1 ∧ I64 r.2.1 ∧ I64 r.2.2 := by
  have H := HL.start F0 w0
  refine enter Try.func177 rfl rfl rfl ?_
  refine CW.seq (CW.reg ?_)
  refine WL.ev rfl rfl (Ev.as rfl rfl) (WL.ev rfl rfl (Ev.as rfl rfl) (WL.ev rfl rfl (Ev.as rfl rfl) (WL.nil ?_)))
  refine CW.seq (CW.block (CW.seq (CW.reg ?_)))
  refine WL.ev rfl rfl (Ev.mv rfl rfl) ?_
  obtain ⟨y1, hy1, hr⟩ := bd hr
  refine WL.call rfl rfl rfl rfl rfl ok112 rfl (sl1In_ok hy1 (F0 := fun _ => False) ha0 (by decide : I64 1) (by decide : I64 5)) ?_
  rintro _ w1 hE rfl
  have H := H.ext hE
  refine WL.ev rfl rfl (Ev.as rfl rfl) (WL.nil ?_)
  refine CW.condB rfl (fun h1 => ?_) (fun h1 => ?_)
  · skip
    have hr := ifp h1 hr
    refine CW.seq (CW.reg ?_)
    refine WL.ev rfl rfl (Ev.as rfl rfl) (WL.ev rfl rfl (Ev.as rfl rfl) (WL.ev rfl rfl (Ev.as rfl rfl) (WL.nil ?_)))
    refine CW.ret ?_
    obtain rfl := sm hr
    exact ⟨_, res_ttt rfl rfl rfl rfl rfl rfl rfl, H.ext0, rfl, (by decide : I64 1), (by decide : I64 1), (by decide : I64 1)⟩
  · skip
    have hr := ifn h1 hr
    refine CW.seq (CW.reg ?_)
    refine WL.ev rfl rfl (Ev.mv rfl rfl) ?_
    obtain ⟨y2, hy2, hr⟩ := bd hr
    refine WL.call rfl rfl rfl rfl rfl ok112 rfl (sl1In_ok hy2 (F0 := fun _ => False) ha0 (by decide : I64 6) (by decide : I64 8)) ?_
    rintro _ w2 hE rfl
    have H := H.ext hE
    refine WL.ev rfl rfl (Ev.as rfl rfl) (WL.nil ?_)
    refine CW.condB rfl (fun h2 => ?_) (fun h2 => ?_)
    · skip
      have hr := ifp h2 hr
      refine CW.seq (CW.reg ?_)
      refine WL.ev rfl rfl (Ev.as rfl rfl) (WL.ev rfl rfl (Ev.as rfl rfl) (WL.ev rfl rfl (Ev.as rfl rfl) (WL.nil ?_)))
      refine CW.ret ?_
      obtain rfl := sm hr
      exact ⟨_, res_ttt rfl rfl rfl rfl rfl rfl rfl, H.ext0, rfl, (by decide : I64 2), (by decide : I64 2), (by decide : I64 2)⟩
    · skip
      have hr := ifn h2 hr
      refine CW.seq (CW.reg ?_)
      refine WL.ev rfl rfl (Ev.mv rfl rfl) (WL.ev rfl rfl (Ev.bin rfl rfl rfl Bin.eql) ?_)
      refine WL.mvD rfl rfl rfl rfl (fun h3 => ?_) (fun h3 => ?_)
      · skip
        have hr := ifp h3 hr
        refine WL.off rfl rfl rfl (WL.off rfl rfl rfl (WL.ev rfl rfl (Ev.pickT rfl rfl rfl) (WL.ev rfl rfl (Ev.as rfl rfl) (WL.nil ?_))))
        refine CW.condT rfl ?_
        refine CW.seq (CW.reg ?_)
        refine WL.ev rfl rfl (Ev.as rfl rfl) (WL.ev rfl rfl (Ev.as rfl rfl) (WL.ev rfl rfl (Ev.as rfl rfl) (WL.nil ?_)))
        refine CW.ret ?_
        obtain rfl := sm hr
        exact ⟨_, res_ttt rfl rfl rfl rfl rfl rfl rfl, H.ext0, rfl, (by decide : I64 1), (by decide : I64 1), (by decide : I64 3)⟩
      · skip
        have hr := ifn h3 hr
        refine WL.on rfl rfl (WL.ev rfl rfl (Ev.mv rfl rfl) (WL.on rfl rfl (WL.ev rfl rfl (Ev.bin rfl rfl rfl Bin.eql) (WL.ev rfl rfl (Ev.pickF rfl rfl rfl) (WL.ev rfl rfl (Ev.as rfl rfl) (WL.nil ?_))))))
        refine CW.condD rfl (fun h4 => ?_) (fun h4 => ?_)
        · skip
          have hr := ifp h4 hr
          refine CW.seq (CW.reg ?_)
          refine WL.ev rfl rfl (Ev.as rfl rfl) (WL.ev rfl rfl (Ev.as rfl rfl) (WL.ev rfl rfl (Ev.as rfl rfl) (WL.nil ?_)))
          refine CW.ret ?_
          obtain rfl := sm hr
          exact ⟨_, res_ttt rfl rfl rfl rfl rfl rfl rfl, H.ext0, rfl, (by decide : I64 1), (by decide : I64 1), (by decide : I64 3)⟩
        · skip
          have hr := ifn h4 hr
          refine CW.seq (CW.reg ?_)
          refine WL.ev rfl rfl (Ev.mv rfl rfl) (WL.ev rfl rfl (Ev.bin rfl rfl rfl Bin.eql) (WL.ev rfl rfl (Ev.as rfl rfl) (WL.nil ?_)))
          refine CW.condD rfl (fun h5 => ?_) (fun h5 => ?_)
          · skip
            have hr := ifp h5 hr
            refine CW.seq (CW.reg ?_)
            refine WL.ev rfl rfl (Ev.as rfl rfl) (WL.ev rfl rfl (Ev.as rfl rfl) (WL.ev rfl rfl (Ev.as rfl rfl) (WL.nil ?_)))
            refine CW.ret ?_
            obtain rfl := sm hr
            exact ⟨_, res_ttt rfl rfl rfl rfl rfl rfl rfl, H.ext0, rfl, (by decide : I64 2), (by decide : I64 1), (by decide : I64 3)⟩
          · skip
            have hr := ifn h5 hr
            refine CW.seq (CW.reg ?_)
            refine WL.ev rfl rfl (Ev.mv rfl rfl) (WL.ev rfl rfl (Ev.bin rfl rfl rfl Bin.eql) (WL.ev rfl rfl (Ev.as rfl rfl) (WL.nil ?_)))
            refine CW.condD rfl (fun h6 => ?_) (fun h6 => ?_)
            · skip
              have hr := ifp h6 hr
              refine CW.seq ?_
              refine CW.fresh [] trivial fun σ => ?_
              have H : HL F0 [] w0 w2 [] [] := H
              refine CW.reg ?_
              refine WL.ev rfl rfl (Ev.as rfl rfl) (WL.ev rfl rfl (Ev.as rfl rfl) (WL.ev rfl rfl (Ev.as rfl rfl) (WL.nil ?_)))
              refine CW.ret ?_
              obtain rfl := sm hr
              exact ⟨_, res_ttt rfl rfl rfl rfl rfl rfl rfl, H.ext0, rfl, (by decide : I64 2), (by decide : I64 1), (by decide : I64 2)⟩
            · skip
              have hr := ifn h6 hr
              refine CW.skip ?_
              refine CW.seq ?_
              refine CW.fresh [] trivial fun σ => ?_
              have H : HL F0 [] w0 w2 [] [] := H
              refine CW.reg ?_
              refine WL.ev rfl rfl (Ev.as rfl rfl) (WL.ev rfl rfl (Ev.as rfl rfl) (WL.ev rfl rfl (Ev.as rfl rfl) (WL.nil ?_)))
              refine CW.ret ?_
              obtain rfl := sm hr
              exact ⟨_, res_ttt rfl rfl rfl rfl rfl rfl rfl, H.ext0, rfl, (by decide : I64 0), (by decide : I64 0), (by decide : I64 0)⟩

noncomputable def sApplyOp_m (a0 : Int) (a1 : Int) (a2 : Int) : Option Int :=
  (sOperandTypes_m a0).bind fun (y1, y2, y3) =>
  (sCoerce_m a1 y1).bind fun y4 =>
  (sCoerce_m a2 y2).bind fun y5 =>
  if a0 = 1 then (
  grd (I64 (y4 + y5)) <|
  (sSaturate_m (y4 + y5)).bind fun y6 =>
  some y6
  ) else (
  if a0 = 2 then (
  grd (I64 (y4 - y5)) <|
  (sSaturate_m (y4 - y5)).bind fun y7 =>
  some y7
  ) else (
  if a0 = 3 then (
  grd (I64 (y4 * y5)) <|
  (sSaturate_m (y4 * y5)).bind fun y8 =>
  some y8
  ) else (
  if a0 = 4 then (
  (sl1Max_m y4 y5).bind fun y9 =>
  some y9
  ) else (
  if a0 = 5 then (
  (sl1Min_m y4 y5).bind fun y10 =>
  some y10
  ) else (
  if a0 = 6 then (
  grd (0 ≤ y4 ∧ 0 ≤ y5) <|
  some ((y4.toNat ||| y5.toNat : Nat) : Int)
  ) else (
  if a0 = 7 then (
  grd (0 ≤ y4 ∧ 0 ≤ y5) <|
  some ((y4.toNat &&& y5.toNat : Nat) : Int)
  ) else (
  if a0 = 8 then (
  some (goAndNot y4 y5)
  ) else (
  if a0 = 9 then (
  (sl3Truth_m (decide (y4 < y5))).bind fun y11 =>
  some y11
  ) else (
  if a0 = 10 then (
  (sl3Truth_m (decide (y4 = y5))).bind fun y12 =>
  some y12
  ) else (
  if a0 = 11 then (
  (sl1In_m y5 0 11).bind fun y13 =>
  if y13 = true then (
  (sl1Max_m y5 0).bind fun y14 =>
  grd (0 ≤ y14) <|
  grd (0 ≤ y4 ∧ 0 ≤ y14 ∧ y14 < 64) <|
  grd (0 ≤ ((y4.toNat >>> y14.toNat : Nat) : Int) ∧ 0 ≤ (1 : Int)) <|
  (sl3Truth_m (decide (((((y4.toNat >>> y14.toNat : Nat) : Int).toNat &&& (1 : Int).toNat : Nat) : Int) = 1))).bind fun y15 =>
  some y15
  ) else (
  (sl3Truth_m false).bind fun y16 =>
  some y16
  )
  ) else (
  if a0 = 12 then (
  (sl1In_m y5 0 11).bind fun y17 =>
  if y17 = true then (
  grd (0 ≤ y5) <|
  grd (0 ≤ y5 ∧ y5 < 63) <|
  grd (0 ≤ y4 ∧ 0 ≤ ((2 ^ y5.toNat : Nat) : Int)) <|
  some ((y4.toNat ||| ((2 ^ y5.toNat : Nat) : Int).toNat : Nat) : Int)
  ) else (
  some y4
  )
  ) else (
  some 0
  )
  )
  )
  )
  )
  )
  )
  )
  )
  )
  )
  )
theorem sApplyOp_ok {a0 : Int} {a1 : Int} {a2 : Int} {r : Int} (hr : sApplyOp_m a0 a1 a2 = some r) {F0 : Nat → Prop} {w0 : World} (ha0 : I64 a0) (ha1 : I64 a1) (ha2 : I64 a2) :
    Ret Try.prog 152 #[.int .i64 a0, .int .i64 a1, .int .i64 a2] w0 (fun _ => False) fun v w => v = .int .i64 r ∧ I64 r := by
  have H := HL.start F0 w0
  refine enter Try.func152 rfl rfl rfl ?_
  refine CW.seq (CW.reg ?_)
  refine WL.ev rfl rfl (Ev.as rfl rfl) (WL.nil ?_)
  refine CW.seq (CW.reg ?_)
  refine WL.ev rfl rfl (Ev.mv rfl rfl) ?_
  obtain ⟨⟨y1, y2, y3⟩, hy1, hr⟩ := bd hr
  refine WL.call rfl rfl rfl rfl rfl ok177 rfl (sOperandTypes_ok hy1 (F0 := fun _ => False) ha0) ?_
  rintro _ w1 hE ⟨rfl, hI1, hI2, hI3⟩
  have H := H.ext hE
  refine WL.ev rfl rfl (Ev.mv rfl rfl) (WL.ev rfl rfl (Ev.ex rfl rfl rfl) (WL.ev rfl rfl (Ev.ex rfl rfl rfl) (WL.ev rfl rfl (Ev.ex rfl rfl rfl) (WL.ev rfl rfl (Ev.as rfl rfl) (WL.ev rfl rfl (Ev.as rfl rfl) (WL.ev rfl rfl (Ev.as rfl rfl) (WL.nil ?_)))))))
  refine CW.seq (CW.reg ?_)
  refine WL.ev rfl rfl (Ev.mv rfl rfl) (WL.ev rfl rfl (Ev.mv rfl rfl) ?_)
  obtain ⟨y4, hy2, hr⟩ := bd hr
  refine WL.call rfl rfl rfl rfl rfl ok178 rfl (sCoerce_ok hy2 (F0 := fun _ => False) ha1 hI1) ?_
  rintro _ w2 hE ⟨rfl, hI4⟩
  have H := H.ext hE
  refine WL.ev rfl rfl (Ev.as rfl rfl) (WL.nil ?_)
  refine CW.seq (CW.reg ?_)
  refine WL.ev rfl rfl (Ev.mv rfl rfl) (WL.ev rfl rfl (Ev.mv rfl rfl) ?_)
  obtain ⟨y5, hy3, hr⟩ := bd hr
  refine WL.call rfl rfl rfl rfl rfl ok178 rfl (sCoerce_ok hy3 (F0 := fun _ => False) ha2 hI2) ?_
  rintro _ w3 hE ⟨rfl, hI5⟩
  have H := H.ext hE
  refine WL.ev rfl rfl (Ev.as rfl rfl) (WL.nil ?_)
  refine CW.seq (CW.seq (CW.reg ?_))
  refine WL.ev rfl rfl (Ev.mv rfl rfl) (WL.nil ?_)
  refine CW.block (CW.seq (CW.reg ?_))
  refine WL.ev rfl rfl (Ev.bin rfl rfl rfl Bin.eql) (WL.ev rfl rfl (Ev.as rfl rfl) (WL.nil ?_))
  refine CW.condD rfl (fun h1 => ?_) (fun h1 => ?_)
  · skip
    have hr := ifp h1 hr
    refine CW.seq ?_
    refine CW.fresh [(1, .int .i64 y4), (2, .int .i64 y5)] ⟨rfl, rfl, trivial⟩ fun σ => ?_
    have H : HL F0 [] w0 w3 [] [] := H
    refine CW.reg ?_
    refine WL.ev rfl rfl (Ev.mv rfl rfl) (WL.ev rfl rfl (Ev.mv rfl rfl) ?_)
    obtain ⟨hg1, hr⟩ := grd_some hr
    refine WL.ev rfl rfl (Ev.bin rfl rfl rfl (Bin.add hg1)) ?_
    obtain ⟨y6, hy4, hr⟩ := bd hr
    refine WL.call rfl rfl rfl rfl rfl ok179 rfl (sSaturate_ok hy4 (F0 := fun _ => False) hg1) ?_
    rintro _ w4 hE ⟨rfl, hI6⟩
    have H := H.ext hE
    refine WL.ev rfl rfl (Ev.as rfl rfl) (WL.nil ?_)
    refine CW.ret ?_
    obtain rfl := sm hr
    exact ⟨_, res1 rfl rfl rfl, H.ext0, rfl, hI6⟩
  · skip
    have hr := ifn h1 hr
    refine CW.seq ?_
    refine CW.fresh [(1, .int .i64 y4), (2, .int .i64 y5), (22, .int .i64 a0)] ⟨rfl, rfl, rfl, trivial⟩ fun σ => ?_
    have H : HL F0 [] w0 w3 [] [] := H
    refine CW.reg ?_
    refine WL.ev rfl rfl (Ev.bin rfl rfl rfl Bin.eql) (WL.ev rfl rfl (Ev.as rfl rfl) (WL.nil ?_))
    refine CW.condD rfl (fun h2 => ?_) (fun h2 => ?_)
    · skip
      have hr := ifp h2 hr
      refine CW.seq (CW.reg ?_)
      refine WL.ev rfl rfl (Ev.mv rfl rfl) (WL.ev rfl rfl (Ev.mv rfl rfl) ?_)
      obtain ⟨hg2, hr⟩ := grd_some hr
      refine WL.ev rfl rfl (Ev.bin rfl rfl rfl (Bin.sub hg2)) ?_
      obtain ⟨y7, hy5, hr⟩ := bd hr
      refine WL.call rfl rfl rfl rfl rfl ok179 rfl (sSaturate_ok hy5 (F0 := fun _ => False) hg2) ?_
      rintro _ w5 hE ⟨rfl, hI7⟩
      have H := H.ext hE
      refine WL.ev rfl rfl (Ev.as rfl rfl) (WL.nil ?_)
      refine CW.ret ?_
      obtain rfl := sm hr
      exact ⟨_, res1 rfl rfl rfl, H.ext0, rfl, hI7⟩
    · skip
      have hr := ifn h2 hr
      refine CW.seq (CW.reg ?_)
      refine WL.ev rfl rfl (Ev.bin rfl rfl rfl Bin.eql) (WL.ev rfl rfl (Ev.as rfl rfl) (WL.nil ?_))
      refine CW.condD rfl (fun h3 => ?_) (fun h3 => ?_)
      · skip
        have hr := ifp h3 hr
        refine CW.seq (CW.reg ?_)
        refine WL.ev rfl rfl (Ev.mv rfl rfl) (WL.ev rfl rfl (Ev.mv rfl rfl) ?_)
        obtain ⟨hg3, hr⟩ := grd_some hr
        refine WL.ev rfl rfl (Ev.bin rfl rfl rfl (Bin.mul hg3)) ?_
        obtain ⟨y8, hy6, hr⟩ := bd hr
        refine WL.call rfl rfl rfl rfl rfl ok179 rfl (sSaturate_ok hy6 (F0 := fun _ => False) hg3) ?_
        rintro _ w6 hE ⟨rfl, hI8⟩
        have H := H.ext hE
        refine WL.ev rfl rfl (Ev.as rfl rfl) (WL.nil ?_)
        refine CW.ret ?_
        obtain rfl := sm hr
        exact ⟨_, res1 rfl rfl rfl, H.ext0, rfl, hI8⟩
      · skip
        have hr := ifn h3 hr
        refine CW.seq (CW.reg ?_)
        refine WL.ev rfl rfl (Ev.bin rfl rfl rfl Bin.eql) (WL.ev rfl rfl (Ev.as rfl rfl) (WL.nil ?_))
        refine CW.condD rfl (fun h4 => ?_) (fun h4 => ?_)
        · skip
          have hr := ifp h4 hr
          refine CW.seq (CW.reg ?_)
          refine WL.ev rfl rfl (Ev.mv rfl rfl) (WL.ev rfl rfl (Ev.mv rfl rfl) ?_)
          obtain ⟨y9, hy7, hr⟩ := bd hr
          refine WL.call rfl rfl rfl rfl rfl ok119 rfl (sl1Max_ok hy7 (F0 := fun _ => False) hI4 hI5) ?_
          rintro _ w7 hE ⟨rfl, hI9⟩
          have H := H.ext hE
          refine WL.ev rfl rfl (Ev.as rfl rfl) (WL.nil ?_)
          refine CW.ret ?_
          obtain rfl := sm hr
          exact ⟨_, res1 rfl rfl rfl, H.ext0, rfl, hI9⟩
        · skip
          have hr := ifn h4 hr
          refine CW.seq (CW.reg ?_)
          refine WL.ev rfl rfl (Ev.bin rfl rfl rfl Bin.eql) (WL.ev rfl rfl (Ev.as rfl rfl) (WL.nil ?_))
          refine CW.condD rfl (fun h5 => ?_) (fun h5 => ?_)
          · skip
            have hr := ifp h5 hr
            refine CW.seq (CW.reg ?_)
            refine WL.ev rfl rfl (Ev.mv rfl rfl) (WL.ev rfl rfl (Ev.mv rfl rfl) ?_)
            obtain ⟨y10, hy8, hr⟩ := bd hr
            refine WL.call rfl rfl rfl rfl rfl ok118 rfl (sl1Min_ok hy8 (F0 := fun _ => False) hI4 hI5) ?_
            rintro _ w8 hE ⟨rfl, hI10⟩
            have H := H.ext hE
            refine WL.ev rfl rfl (Ev.as rfl rfl) (WL.nil ?_)
            refine CW.ret ?_
            obtain rfl := sm hr
            exact ⟨_, res1 rfl rfl rfl, H.ext0, rfl, hI10⟩
          · skip
            have hr := ifn h5 hr
            refine CW.seq (CW.reg ?_)
            refine WL.ev rfl rfl (Ev.bin rfl rfl rfl Bin.eql) (WL.ev rfl rfl (Ev.as rfl rfl) (WL.nil ?_))
            refine CW.condD rfl (fun h6 => ?_) (fun h6 => ?_)
            · skip
              have hr := ifp h6 hr
              refine CW.seq (CW.reg ?_)
              refine WL.ev rfl rfl (Ev.mv rfl rfl) (WL.ev rfl rfl (Ev.mv rfl rfl) ?_)
              obtain ⟨hg4, hr⟩ := grd_some hr
              refine WL.ev rfl rfl (Ev.bin rfl rfl rfl (Bin.orI hg4.1 hI4.2 hg4.2 hI5.2)) (WL.ev rfl rfl (Ev.as rfl rfl) (WL.nil ?_))
              refine CW.ret ?_
              obtain rfl := sm hr
              exact ⟨_, res1 rfl rfl rfl, H.ext0, rfl, (i64_or hg4 hI4 hI5)⟩
            · skip
              have hr := ifn h6 hr
              refine CW.seq (CW.reg ?_)
              refine WL.ev rfl rfl (Ev.bin rfl rfl rfl Bin.eql) (WL.ev rfl rfl (Ev.as rfl rfl) (WL.nil ?_))
              refine CW.condD rfl (fun h7 => ?_) (fun h7 => ?_)
              · skip
                have hr := ifp h7 hr
                refine CW.seq (CW.reg ?_)
                refine WL.ev rfl rfl (Ev.mv rfl rfl) (WL.ev rfl rfl (Ev.mv rfl rfl) ?_)
                obtain ⟨hg5, hr⟩ := grd_some hr
                refine WL.ev rfl rfl (Ev.bin rfl rfl rfl (Bin.andI hg5.1 hI4.2 hg5.2 hI5.2)) (WL.ev rfl rfl (Ev.as rfl rfl) (WL.nil ?_))
                refine CW.ret ?_
                obtain rfl := sm hr
                exact ⟨_, res1 rfl rfl rfl, H.ext0, rfl, (i64_and hg5 hI4 hI5)⟩
              · skip
                have hr := ifn h7 hr
                refine CW.seq (CW.reg ?_)
                refine WL.ev rfl rfl (Ev.bin rfl rfl rfl Bin.eql) (WL.ev rfl rfl (Ev.as rfl rfl) (WL.nil ?_))
                refine CW.condD rfl (fun h8 => ?_) (fun h8 => ?_)
                · skip
                  have hr := ifp h8 hr
                  refine CW.seq (CW.reg ?_)
                  refine WL.ev rfl rfl (Ev.mv rfl rfl) (WL.ev rfl rfl (Ev.mv rfl rfl) (WL.ev rfl rfl (Ev.bin rfl rfl rfl Bin.andNotT) (WL.ev rfl rfl (Ev.as rfl rfl) (WL.nil ?_))))
                  refine CW.ret ?_
                  obtain rfl := sm hr
                  exact ⟨_, res1 rfl rfl rfl, H.ext0, rfl, (i64_wrap _)⟩
                · skip
                  have hr := ifn h8 hr
                  refine CW.seq (CW.reg ?_)
                  refine WL.ev rfl rfl (Ev.bin rfl rfl rfl Bin.eql) (WL.ev rfl rfl (Ev.as rfl rfl) (WL.nil ?_))
                  refine CW.condD rfl (fun h9 => ?_) (fun h9 => ?_)
                  · skip
                    have hr := ifp h9 hr
                    refine CW.seq (CW.reg ?_)
                    refine WL.ev rfl rfl (Ev.mv rfl rfl) (WL.ev rfl rfl (Ev.mv rfl rfl) (WL.ev rfl rfl (Ev.bin rfl rfl rfl Bin.lss) ?_))
                    obtain ⟨y11, hy9, hr⟩ := bd hr
                    refine WL.call rfl rfl rfl rfl rfl ok180 rfl (sl3Truth_ok hy9 (F0 := fun _ => False)) ?_
                    rintro _ w9 hE ⟨rfl, hI11⟩
                    have H := H.ext hE
                    refine WL.ev rfl rfl (Ev.as rfl rfl) (WL.nil ?_)
                    refine CW.ret ?_
                    obtain rfl := sm hr
                    exact ⟨_, res1 rfl rfl rfl, H.ext0, rfl, hI11⟩
                  · skip
                    have hr := ifn h9 hr
                    refine CW.seq (CW.reg ?_)
                    refine WL.ev rfl rfl (Ev.bin rfl rfl rfl Bin.eql) (WL.ev rfl rfl (Ev.as rfl rfl) (WL.nil ?_))
                    refine CW.condD rfl (fun h10 => ?_) (fun h10 => ?_)
                    · skip
                      have hr := ifp h10 hr
                      refine CW.seq (CW.reg ?_)
                      refine WL.ev rfl rfl (Ev.mv rfl rfl) (WL.ev rfl rfl (Ev.mv rfl rfl) (WL.ev rfl rfl (Ev.bin rfl rfl rfl Bin.eql) ?_))
                      obtain ⟨y12, hy10, hr⟩ := bd hr
                      refine WL.call rfl rfl rfl rfl rfl ok180 rfl (sl3Truth_ok hy10 (F0 := fun _ => False)) ?_
                      rintro _ w10 hE ⟨rfl, hI12⟩
                      have H := H.ext hE
                      refine WL.ev rfl rfl (Ev.as rfl rfl) (WL.nil ?_)
                      refine CW.ret ?_
                      obtain rfl := sm hr
                      exact ⟨_, res1 rfl rfl rfl, H.ext0, rfl, hI12⟩
                    · skip
                      have hr := ifn h10 hr
                      refine CW.seq (CW.reg ?_)
                      refine WL.ev rfl rfl (Ev.bin rfl rfl rfl Bin.eql) (WL.ev rfl rfl (Ev.as rfl rfl) (WL.nil ?_))
                      refine CW.condD rfl (fun h11 => ?_) (fun h11 => ?_)
                      · skip
                        have hr := ifp h11 hr
                        refine CW.seq (CW.reg ?_)
                        refine WL.ev rfl rfl (Ev.mv rfl rfl) ?_
                        obtain ⟨y13, hy11, hr⟩ := bd hr
                        refine WL.call rfl rfl rfl rfl rfl ok112 rfl (sl1In_ok hy11 (F0 := fun _ => False) hI5 (by decide : I64 0) (by decide : I64 11)) ?_
                        rintro _ w11 hE rfl
                        have H := H.ext hE
                        refine WL.mvB rfl rfl rfl rfl (fun h12 => ?_) (fun h12 => ?_)
                        · skip
                          have hr := ifp h12 hr
                          refine WL.on rfl rfl (WL.ev rfl rfl (Ev.mv rfl rfl) (WL.on rfl rfl (WL.ev rfl rfl (Ev.mv rfl rfl) (WL.on rfl rfl ?_))))
                          obtain ⟨y14, hy12, hr⟩ := bd hr
                          refine WL.call rfl rfl rfl rfl rfl ok119 rfl (sl1Max_ok hy12 (F0 := fun _ => False) hI5 (by decide : I64 0)) ?_
                          rintro _ w12 hE ⟨rfl, hI13⟩
                          have H := H.ext hE
                          refine WL.on rfl rfl ?_
                          obtain ⟨hg6, hr⟩ := grd_some hr
                          refine WL.ev rfl rfl (Ev.convUI rfl Try.underlying3 it130 rfl hg6 hI13.2) (WL.on rfl rfl ?_)
                          obtain ⟨hg7, hr⟩ := grd_some hr
                          refine WL.ev rfl rfl (Ev.bin rfl rfl rfl (Bin.shrI hg7.1 hg7.2.1 hg7.2.2)) (WL.on rfl rfl ?_)
                          obtain ⟨hg8, hr⟩ := grd_some hr
                          refine WL.ev rfl rfl (Ev.bin rfl rfl rfl (Bin.andI hg8.1 (i64_shr hI4).2 hg8.2 (by decide : I64 1).2)) (WL.on rfl rfl (WL.ev rfl rfl (Ev.bin rfl rfl rfl Bin.eql) (WL.ev rfl rfl (Ev.pickT rfl rfl rfl) ?_)))
                          obtain ⟨y15, hy13, hr⟩ := bd hr
                          refine WL.call rfl rfl rfl rfl rfl ok180 rfl (sl3Truth_ok hy13 (F0 := fun _ => False)) ?_
                          rintro _ w13 hE ⟨rfl, hI14⟩
                          have H := H.ext hE
                          refine WL.ev rfl rfl (Ev.as rfl rfl) (WL.nil ?_)
                          refine CW.ret ?_
                          obtain rfl := sm hr
                          exact ⟨_, res1 rfl rfl rfl, H.ext0, rfl, hI14⟩
                        · skip
                          have hr := ifn h12 hr
                          refine WL.off rfl rfl rfl (WL.off rfl rfl rfl (WL.off rfl rfl rfl (WL.off rfl rfl rfl (WL.off rfl rfl rfl (WL.off rfl rfl rfl (WL.off rfl rfl rfl (WL.ev rfl rfl (Ev.pickF rfl rfl rfl) ?_)))))))
                          obtain ⟨y16, hy14, hr⟩ := bd hr
                          refine WL.call rfl rfl rfl rfl rfl ok180 rfl (sl3Truth_ok hy14 (F0 := fun _ => False)) ?_
                          rintro _ w14 hE ⟨rfl, hI15⟩
                          have H := H.ext hE
                          refine WL.ev rfl rfl (Ev.as rfl rfl) (WL.nil ?_)
                          refine CW.ret ?_
                          obtain rfl := sm hr
                          exact ⟨_, res1 rfl rfl rfl, H.ext0, rfl, hI15⟩
                      · skip
                        have hr := ifn h11 hr
                        refine CW.seq (CW.reg ?_)
                        refine WL.ev rfl rfl (Ev.bin rfl rfl rfl Bin.eql) (WL.ev rfl rfl (Ev.as rfl rfl) (WL.nil ?_))
                        refine CW.condD rfl (fun h13 => ?_) (fun h13 => ?_)
                        · skip
                          have hr := ifp h13 hr
                          refine CW.seq (CW.seq ?_)
                          refine CW.fresh [(1, .int .i64 y4), (2, .int .i64 y5)] ⟨rfl, rfl, trivial⟩ fun σ => ?_
                          have H : HL F0 [] w0 w3 [] [] := H
                          refine CW.reg ?_
                          refine WL.ev rfl rfl (Ev.mv rfl rfl) ?_
                          obtain ⟨y17, hy15, hr⟩ := bd hr
                          refine WL.call rfl rfl rfl rfl rfl ok112 rfl (sl1In_ok hy15 (F0 := fun _ => False) hI5 (by decide : I64 0) (by decide : I64 11)) ?_
                          rintro _ w15 hE rfl
                          have H := H.ext hE
                          refine WL.nil ?_
                          refine CW.condB rfl (fun h14 => ?_) (fun h14 => ?_)
                          · skip
                            have hr := ifp h14 hr
                            refine CW.seq (CW.reg ?_)
                            refine WL.ev rfl rfl (Ev.mv rfl rfl) (WL.ev rfl rfl (Ev.mv rfl rfl) ?_)
                            obtain ⟨hg9, hr⟩ := grd_some hr
                            refine WL.ev rfl rfl (Ev.convUI rfl Try.underlying3 it130 rfl hg9 hI5.2) ?_
                            obtain ⟨hg10, hr⟩ := grd_some hr
                            refine WL.ev rfl rfl (Ev.bin rfl rfl rfl (Bin.shlI hg10.1 hg10.2)) ?_
                            obtain ⟨hg11, hr⟩ := grd_some hr
                            refine WL.ev rfl rfl (Ev.bin rfl rfl rfl (Bin.orI hg11.1 hI4.2 hg11.2 (i64_pow hg10.2).2)) (WL.ev rfl rfl (Ev.as rfl rfl) (WL.nil ?_))
                            refine CW.ret ?_
                            obtain rfl := sm hr
                            exact ⟨_, res1 rfl rfl rfl, H.ext0, rfl, (i64_or hg11 hI4 (i64_pow hg10.2))⟩
                          · skip
                            have hr := ifn h14 hr
                            refine CW.skip ?_
                            refine CW.seq (CW.reg ?_)
                            refine WL.ev rfl rfl (Ev.mv rfl rfl) (WL.ev rfl rfl (Ev.as rfl rfl) (WL.nil ?_))
                            refine CW.ret ?_
                            obtain rfl := sm hr
                            exact ⟨_, res1 rfl rfl rfl, H.ext0, rfl, hI4⟩
                        · skip
                          have hr := ifn h13 hr
                          refine CW.skip ?_
                          refine CW.seq ?_
                          refine CW.fresh [] trivial fun σ => ?_
                          have H : HL F0 [] w0 w3 [] [] := H
                          refine CW.reg ?_
                          refine WL.ev rfl rfl (Ev.as rfl rfl) (WL.nil ?_)
                          refine CW.ret ?_
                          obtain rfl := sm hr
                          exact ⟨_, res1 rfl rfl rfl, H.ext0, rfl, (by decide : I64 0)⟩

noncomputable def sl19Eval_B (rec_sl19Eval : Expr → (List Slot) → Int → (List Int) → Option Int) (a0 : Expr) (a1 : (List Slot)) (a2 : Int) (a3 : (List Int)) : Option Int :=
  if a0.Kind = 1 then (
  some a0.N
  ) else (
  if a0.Kind = 2 then (
  some a2
  ) else (
  if a0.Kind = 3 then (
  (sSlotValue_m a1 (⟨a0.Pos, a0.Name⟩ : Occurrence)).bind fun y1 =>
  some y1
  ) else (
  if a0.Kind = 4 then (
  (a0.Args[0]?).bind fun x1 =>
  (rec_sl19Eval x1 a1 a2 a3).bind fun y2 =>
  (a0.Args[1]?).bind fun x2 =>
  (rec_sl19Eval x2 a1 a2 a3).bind fun y3 =>
  (sApplyOp_m a0.N y2 y3).bind fun y4 =>
  some y4
  ) else (
  if a0.Kind = 5 then (
  (a0.Args[0]?).bind fun x3 =>
  (rec_sl19Eval x3 a1 a2 a3).bind fun y5 =>
  if y5 = 0 then (
  (a0.Args[2]?).bind fun x5 =>
  (rec_sl19Eval x5 a1 a2 a3).bind fun y7 =>
  some y7
  ) else (
  (a0.Args[1]?).bind fun x4 =>
  (rec_sl19Eval x4 a1 a2 a3).bind fun y6 =>
  some y6
  )
  ) else (
  if a0.Kind = 6 then (
  (sl1In_m a0.Pos 0 ((a3.length : Int) - 1)).bind fun y8 =>
  if y8 = true then (
  grd (0 ≤ a0.Pos) <|
  (a3[a0.Pos.toNat]?).bind fun x6 =>
  some x6
  ) else (
  some 0
  )
  ) else (
  some 0
  )
  )
  )
  )
  )
  )
end Go.Proofs.Ytonnooljidombaa

