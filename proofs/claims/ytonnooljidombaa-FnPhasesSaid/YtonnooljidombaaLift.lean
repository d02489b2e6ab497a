/- What some functions of the program compute, as partial functions on plain data, and that they do; each lemma bears its conditions in its statement. -/
import Derived.Test.YtonnooljidombaaLiftA
set_option linter.unusedVariables false
set_option linter.unusedSimpArgs false
set_option linter.ambiguousOpen false
set_option linter.unusedSectionVars false
set_option linter.unnecessarySimpa false
set_option linter.unusedVariables false
set_option linter.unusedSimpArgs false
set_option maxRecDepth 100000
set_option maxHeartbeats 1000000
namespace Go.Proofs.Ytonnooljidombaa
open Go Go.E
open Go.E.Rep (rd)
open Go.E.Sep (own)
open Go.E.Sz (szd)
theorem sl27Half_ok {a0 : (List Attribute)} {a1 : Relation} {a2 : (List Bool)} {a3 : Int} {r : ((List ByteArray) × (List Bool))} (hr : sl27Half_m a0 a1 a2 a3 = some r) {F0 : Nat → Prop} {M : List Nat} {w0 : World} {Aa0 : Option Addr} {na0 ca0 : Nat} {Aa1_1 : Option Addr} {na1_1 ca1_1 : Nat} {Aa2 : Option Addr} {na2 ca2 : Nat} (hIa1_0 : I64 a1.N) (hIa3 : I64 a3) (H : HL F0 M w0 w0 [Pr.S a0 (.slice Aa0 na0 ca0), Pr.S a1.Rows (.slice Aa1_1 na1_1 ca1_1)] [It.O 4 a2 (.slice Aa2 na2 ca2)]) :
    Ret Try.prog 124 #[.slice Aa0 na0 ca0, .agg #[.int .i64 a1.N, .slice Aa1_1 na1_1 ca1_1], .slice Aa2 na2 ca2, .int .i64 a3] w0 (· ∈ M) fun v w => ∃ A0 : Option Addr, ∃ n0 c0 : Nat, v = (.slice A0 n0 c0) ∧ HL F0 M w0 w [] [It.O 4 r.2 (.slice Aa2 na2 ca2), It.O 9 r.1 (.slice A0 n0 c0)] := by
  refine enter Try.func124 rfl rfl rfl ?_
  refine CW.seq (CW.reg ?_)
  refine WL.boxH rfl rfl rfl rfl rfl H fun b1 w1 H => ?_
  refine WL.ev rfl rfl (Ev.as rfl rfl) (WL.nil ?_)
  refine CW.seq (CW.reg ?_)
  refine WL.lit0H (α := ByteArray) rfl rfl rfl el82 sz9 H fun A1 n1 c1 w2 H => ?_
  refine WL.ev rfl rfl (Ev.as rfl rfl) (WL.nil ?_)
  obtain ⟨q1, hm1, hr⟩ := bd hr
  obtain ⟨m1, hq1⟩ := iterO_some.1 hm1
  refine CW.block (CW.loop (α := Nat × (List ByteArray) × (List Bool) × Value) (fun ⟨m1, s1, s2, v1⟩ => [(0, .slice Aa0 na0 ca0), (2, .slice Aa2 na2 ca2), (3, .int .i64 a3), (5, .pointer (some ⟨b1, 0, none⟩)), (9, v1)]) (fun ⟨m1, s1, s2, v1⟩ w => iterN (sl27Half_L1 a0 a1 a3) m1 (s1, s2) = some q1 ∧ HL F0 M w0 w [Pr.S a0 (.slice Aa0 na0 ca0), Pr.S a1.Rows (.slice Aa1_1 na1_1 ca1_1)] [It.O 4 s2 (.slice Aa2 na2 ca2), It.B b1 60 [.int .i64 a1.N, .slice Aa1_1 na1_1 ca1_1], It.O 9 s1 v1]) (fun ⟨m1, s1, s2, v1⟩ => m1) ⟨m1, ([] : List ByteArray), a2, (.slice A1 n1 c1)⟩ ⟨rfl, rfl, rfl, rfl, rfl, trivial⟩ ⟨hq1, H.keep 2 3⟩ ?_)
  rintro ⟨m1, s1, s2, v1⟩ σ w3 ⟨hq1, H⟩
  obtain ⟨A2, n2, c2, rfl⟩ := (H.rO (i := 2) rfl).form3
  obtain ⟨m2, z1, rfl, hb1, hs1, ht1⟩ := iterN_go hq1
  refine CW.block (CW.seq (CW.reg ?_))
  refine WL.ev rfl rfl (Ev.as rfl rfl) (WL.nil ?_)
  refine CW.seq (CW.seq (CW.reg ?_))
  refine WL.ev rfl rfl (Ev.mv rfl rfl) ?_
  have hl1 := (H.rS (i := 0) rfl).I
  refine WL.ev rfl rfl (Ev.lenV rfl el76 rfl (H.rS (i := 0) rfl)) (WL.ev rfl rfl (Ev.bin rfl rfl rfl (Bin.sub (i64_sub (k := 1) hl1 (by decide)))) (WL.ev rfl rfl (Ev.as rfl rfl) (WL.nil ?_)))
  obtain ⟨q2, hm2, hb1⟩ := bd hb1
  refine CW.mid (fun ρ' w => ∃ (s3 : Int), s3 = q2 ∧ agree ρ' [(0, .slice Aa0 na0 ca0), (2, .slice Aa2 na2 ca2), (3, .int .i64 a3), (5, .pointer (some ⟨b1, 0, none⟩)), (9, .slice A2 n2 c2), (10, .int .i64 s3)] ∧ I64 s3 ∧ HL F0 M w0 w [Pr.S a0 (.slice Aa0 na0 ca0), Pr.S a1.Rows (.slice Aa1_1 na1_1 ca1_1)] [It.O 4 s2 (.slice Aa2 na2 ca2), It.B b1 60 [.int .i64 a1.N, .slice Aa1_1 na1_1 ca1_1], It.O 9 s1 (.slice A2 n2 c2)]) ?_ ?_
  · skip
    obtain ⟨m3, hq2⟩ := iterO_some.1 hm2
    refine CW.block (CW.loop (α := Nat × Int × Int) (fun ⟨m3, s4, s5⟩ => [(0, .slice Aa0 na0 ca0), (2, .slice Aa2 na2 ca2), (3, .int .i64 a3), (5, .pointer (some ⟨b1, 0, none⟩)), (9, .slice A2 n2 c2), (10, .int .i64 s4), (11, .int .i64 s5)]) (fun ⟨m3, s4, s5⟩ w => iterN (sl27Half_L2 a0 a1 a3 s2) m3 (s4, s5) = some q2 ∧ I64 s4 ∧ I64 s5 ∧ HL F0 M w0 w [Pr.S a0 (.slice Aa0 na0 ca0), Pr.S a1.Rows (.slice Aa1_1 na1_1 ca1_1)] [It.O 4 s2 (.slice Aa2 na2 ca2), It.B b1 60 [.int .i64 a1.N, .slice Aa1_1 na1_1 ca1_1], It.O 9 s1 (.slice A2 n2 c2)]) (fun ⟨m3, s4, s5⟩ => m3) ⟨m3, (-1), ((a0.length : Int) - 1)⟩ ⟨rfl, rfl, rfl, rfl, rfl, rfl, rfl, trivial⟩ ⟨hq2, (by decide : I64 (-1)), (i64_sub (k := 1) hl1 (by decide)), H.keep 2 3⟩ ?_)
    rintro ⟨m3, s4, s5⟩ σ w4 ⟨hq2, hI2, hI3, H⟩
    obtain ⟨m4, z2, rfl, hb2, hs2, ht2⟩ := iterN_go hq2
    refine CW.seq (CW.seq (CW.reg ?_))
    refine WL.ev rfl rfl (Ev.mv rfl rfl) (WL.ev rfl rfl (Ev.bin rfl rfl rfl Bin.geq) (WL.nil ?_))
    refine CW.condD rfl (fun h1 => ?_) (fun h1 => ?_)
    · skip
      have hb2 := ifp h1 hb2
      refine CW.skip ?_
      obtain ⟨q3, hm3, hb2⟩ := bd hb2
      refine CW.seq (CW.mid (fun ρ' w => ∃ (s6 : Int), s6 = q3 ∧ agree ρ' [(0, .slice Aa0 na0 ca0), (2, .slice Aa2 na2 ca2), (3, .int .i64 a3), (5, .pointer (some ⟨b1, 0, none⟩)), (9, .slice A2 n2 c2), (10, .int .i64 s6), (11, .int .i64 s5)] ∧ I64 s6 ∧ HL F0 M w0 w [Pr.S a0 (.slice Aa0 na0 ca0), Pr.S a1.Rows (.slice Aa1_1 na1_1 ca1_1)] [It.O 4 s2 (.slice Aa2 na2 ca2), It.B b1 60 [.int .i64 a1.N, .slice Aa1_1 na1_1 ca1_1], It.O 9 s1 (.slice A2 n2 c2)]) ?_ ?_)
      · skip
        refine CW.block (CW.seq (CW.reg ?_))
        refine WL.ev rfl rfl (Ev.mv rfl rfl) (WL.ev rfl rfl (Ev.mv rfl rfl) ?_)
        obtain ⟨hg1, hm3⟩ := grd_some hm3
        obtain ⟨x1, hx1, hm3⟩ := bd hm3
        obtain ⟨b2, ob2, cb2, hvb2, hS1, hI5, hI6, H⟩ := ixS_Attribute H (i := 0) rfl hx1
        refine WL.ev rfl rfl (Ev.ixV rfl el76 sz88 rfl hvb2 rfl hg1 (lt_of hx1)) (WL.ev rfl rfl (Ev.fa rfl fo88_2 rfl) (WL.ev rfl rfl (Ev.ld rfl ag3 rfl ((H.rA (i := 2) rfl).cell rfl)) (WL.ev rfl rfl (Ev.mv rfl rfl) (WL.ev rfl rfl (Ev.bin rfl rfl rfl Bin.eql) ?_))))
        obtain ⟨q4, hm4, hm3⟩ := bd hm3
        refine WL.cut 7 (fun ρ' w => ∃ (s7 : Bool), s7 = q4 ∧ agree ρ' [(0, .slice Aa0 na0 ca0), (2, .slice Aa2 na2 ca2), (3, .int .i64 a3), (5, .pointer (some ⟨b1, 0, none⟩)), (9, .slice A2 n2 c2), (10, .int .i64 s4), (11, .int .i64 s5), (33, .bool s7)] ∧ HL F0 M w0 w [Pr.S a0 (.slice Aa0 na0 ca0), Pr.S a1.Rows (.slice Aa1_1 na1_1 ca1_1), Pr.A b2 (ob2 + s5.toNat * 4) [.string x1.Name, .int .i64 x1.Type_, .int .i64 x1.Mode, .bool x1.Circular], Pr.R x1 [.string x1.Name, .int .i64 x1.Type_, .int .i64 x1.Mode, .bool x1.Circular]] [It.O 4 s2 (.slice Aa2 na2 ca2), It.B b1 60 [.int .i64 a1.N, .slice Aa1_1 na1_1 ca1_1], It.O 9 s1 (.slice A2 n2 c2)]) ?_ ?_
        · skip
          refine WL.mvD rfl rfl rfl rfl (fun h2 => ?_) (fun h2 => ?_)
          · skip
            have hm4 := ifp h2 hm4
            refine WL.on rfl rfl (WL.ev rfl rfl (Ev.mv rfl rfl) (WL.on rfl rfl (WL.ev rfl rfl (Ev.mv rfl rfl) (WL.on rfl rfl ?_))))
            obtain ⟨hg2, hm4⟩ := grd_some hm4
            obtain ⟨x2, hx2, hm4⟩ := bd hm4
            obtain ⟨b3, cb3, hvb3, hbb3⟩ := H.ptO (i := 0) rfl hx2
            refine WL.ev rfl rfl (Ev.ixV rfl el140 sz4 rfl hvb3 rfl hg2 (lt_of hx2)) (WL.on rfl rfl ?_)
            obtain ⟨hA1, H⟩ := elO_Bool H (i := 0) rfl hx2 hbb3
            refine WL.ev rfl rfl (Ev.ld rfl ag4 rfl (hA1.cell0 rfl)) (WL.on rfl rfl (WL.ev rfl rfl (Ev.not rfl rfl) (WL.ev rfl rfl (Ev.pickT rfl rfl rfl) (WL.nil ?_))))
            obtain rfl := sm hm4
            exact ⟨(!x2), rfl, ⟨rfl, rfl, rfl, rfl, rfl, rfl, rfl, rfl, trivial⟩, H.keep 4 3⟩
          · skip
            have hm4 := ifn h2 hm4
            refine WL.off rfl rfl rfl (WL.off rfl rfl rfl (WL.off rfl rfl rfl (WL.off rfl rfl rfl (WL.off rfl rfl rfl (WL.ev rfl rfl (Ev.pickF rfl rfl rfl) (WL.nil ?_))))))
            obtain rfl := sm hm4
            exact ⟨false, rfl, ⟨rfl, rfl, rfl, rfl, rfl, rfl, rfl, rfl, trivial⟩, H.keep 4 3⟩
        · rintro ρ' w5 ⟨s7, rfl, hag, H⟩
          obtain ⟨σ, rfl⟩ := ofL_ex hag
          obtain ⟨q5, hm5, hm3⟩ := bd hm3
          refine WL.cut 6 (fun ρ' w => ∃ (s8 : Bool), s8 = q5 ∧ agree ρ' [(0, .slice Aa0 na0 ca0), (2, .slice Aa2 na2 ca2), (3, .int .i64 a3), (5, .pointer (some ⟨b1, 0, none⟩)), (9, .slice A2 n2 c2), (10, .int .i64 s4), (11, .int .i64 s5), (39, .bool s8)] ∧ HL F0 M w0 w [Pr.S a0 (.slice Aa0 na0 ca0), Pr.S a1.Rows (.slice Aa1_1 na1_1 ca1_1), Pr.A b2 (ob2 + s5.toNat * 4) [.string x1.Name, .int .i64 x1.Type_, .int .i64 x1.Mode, .bool x1.Circular], Pr.R x1 [.string x1.Name, .int .i64 x1.Type_, .int .i64 x1.Mode, .bool x1.Circular]] [It.O 4 s2 (.slice Aa2 na2 ca2), It.B b1 60 [.int .i64 a1.N, .slice Aa1_1 na1_1 ca1_1], It.O 9 s1 (.slice A2 n2 c2)]) ?_ ?_
          · skip
            refine WL.mvB rfl rfl rfl rfl (fun h3 => ?_) (fun h3 => ?_)
            · skip
              have hm5 := ifp h3 hm5
              refine WL.on rfl rfl (WL.ev rfl rfl (Ev.lda rfl ag60 sz60 rfl (At.blk (H.rB (i := 1) rfl)) rfl) (WL.on rfl rfl (WL.ev rfl rfl (Ev.mv rfl rfl) (WL.on rfl rfl (WL.ev rfl rfl (Ev.mv rfl rfl) (WL.on rfl rfl ?_))))))
              obtain ⟨y1, hy1, hm5⟩ := bd hm5
              refine WL.call rfl rfl rfl rfl rfl ok162 rfl (sl27Ready_ok hy1 ⟨_, rfl, hIa1_0, (H.rS (i := 1) rfl)⟩ (H.rO (i := 0) rfl) hI3) ?_
              rintro _ w6 hE rfl
              have H := H.ext hE
              refine WL.ev rfl rfl (Ev.pickT rfl rfl rfl) (WL.nil ?_)
              obtain rfl := sm hm5
              exact ⟨y1, rfl, ⟨rfl, rfl, rfl, rfl, rfl, rfl, rfl, rfl, trivial⟩, H.keep 4 3⟩
            · skip
              have hm5 := ifn h3 hm5
              refine WL.off rfl rfl rfl (WL.off rfl rfl rfl (WL.off rfl rfl rfl (WL.off rfl rfl rfl (WL.ev rfl rfl (Ev.pickF rfl rfl rfl) (WL.nil ?_)))))
              obtain rfl := sm hm5
              exact ⟨false, rfl, ⟨rfl, rfl, rfl, rfl, rfl, rfl, rfl, rfl, trivial⟩, H.keep 4 3⟩
          · rintro ρ' w7 ⟨s8, rfl, hag, H⟩
            obtain ⟨σ, rfl⟩ := ofL_ex hag
            refine WL.nil ?_
            refine CW.condB rfl (fun h4 => ?_) (fun h4 => ?_)
            · skip
              have hm3 := ifp h4 hm3
              refine CW.reg ?_
              refine WL.ev rfl rfl (Ev.mv rfl rfl) (WL.ev rfl rfl (Ev.as rfl rfl) (WL.nil ?_))
              obtain rfl := sm hm3
              exact ⟨s5, rfl, ⟨rfl, rfl, rfl, rfl, rfl, rfl, rfl, trivial⟩, hI3, H.keep 2 3⟩
            · skip
              have hm3 := ifn h4 hm3
              refine CW.skip ?_
              obtain rfl := sm hm3
              exact ⟨s4, rfl, ⟨rfl, rfl, rfl, rfl, rfl, rfl, rfl, trivial⟩, hI2, H.keep 2 3⟩
      · rintro ρ' w8 ⟨s6, rfl, hag, hI4, H⟩
        obtain ⟨σ, rfl⟩ := ofL_ex hag
        refine CW.reg ?_
        refine WL.ev rfl rfl (Ev.mv rfl rfl) ?_
        obtain ⟨hg3, hb2⟩ := grd_some hb2
        refine WL.ev rfl rfl (Ev.bin rfl rfl rfl (Bin.sub hg3)) (WL.ev rfl rfl (Ev.as rfl rfl) (WL.nil ?_))
        obtain rfl := sm hb2
        exact ⟨⟨m4, s6, (s5 - 1)⟩, ⟨rfl, rfl, rfl, rfl, rfl, rfl, rfl, trivial⟩, ⟨hs2 _ rfl, hI4, hg3, H.keep 2 3⟩, Nat.lt_succ_self _⟩
    · skip
      have hb2 := ifn h1 hb2
      refine CW.exit ?_
      obtain rfl := sm hb2
      obtain rfl := ht2 _ rfl
      exact ⟨s4, rfl, ⟨rfl, rfl, rfl, rfl, rfl, rfl, trivial⟩, hI2, H.keep 2 3⟩
  · rintro ρ' w9 ⟨s3, rfl, hag, hI1, H⟩
    obtain ⟨σ, rfl⟩ := ofL_ex hag
    refine CW.seq (CW.seq (CW.reg ?_))
    refine WL.ev rfl rfl (Ev.mv rfl rfl) (WL.ev rfl rfl (Ev.bin rfl rfl rfl Bin.lss) (WL.nil ?_))
    refine CW.condD rfl (fun h5 => ?_) (fun h5 => ?_)
    · skip
      have hb1 := ifp h5 hb1
      refine CW.seq (CW.reg ?_)
      refine WL.ev rfl rfl (Ev.mv rfl rfl) (WL.ev rfl rfl (Ev.as rfl rfl) (WL.nil ?_))
      refine CW.ret ?_
      obtain rfl := sm hb1
      obtain rfl := ht1 _ rfl
      obtain rfl := sm hr
      exact ⟨_, res1 rfl rfl rfl, H.chg, _, _, _, rfl, H.outM (fr' := []) [true, false, true] fun _ _ => trivial⟩
    · skip
      have hb1 := ifn h5 hb1
      refine CW.skip ?_
      refine CW.seq (CW.reg ?_)
      refine WL.ev rfl rfl (Ev.mv rfl rfl) (WL.ev rfl rfl (Ev.mv rfl rfl) ?_)
      obtain ⟨hg4, hb1⟩ := grd_some hb1
      obtain ⟨x3, hx3, hb1⟩ := bd hb1
      obtain ⟨b4, cb4, hvb4, hbb4⟩ := H.ptO (i := 0) rfl hx3
      refine WL.ev rfl rfl (Ev.ixV rfl el140 sz4 rfl hvb4 rfl hg4 (lt_of hx3)) ?_
      refine WL.stOf (i := 0) (z := true) rfl rfl rfl sz4 rfl rfl rfl (fun _ => ⟨rfl, rfl⟩) H rfl hbb4 (by simpa using lt_of hx3) fun w10 H => ?_
      refine WL.nil ?_
      refine CW.reg ?_
      refine WL.ev rfl rfl (Ev.mv rfl rfl) (WL.ev rfl rfl (Ev.mv rfl rfl) (WL.ev rfl rfl (Ev.mv rfl rfl) ?_))
      obtain ⟨hg5, hb1⟩ := grd_some hb1
      obtain ⟨x4, hx4, hb1⟩ := bd hb1
      obtain ⟨b5, ob5, cb5, hvb5, hS2, hI7, hI8, H⟩ := ixS_Attribute H (i := 0) rfl hx4
      refine WL.ev rfl rfl (Ev.ixV rfl el76 sz88 rfl hvb5 rfl hg5 (lt_of hx4)) (WL.ev rfl rfl (Ev.fa rfl fo88_0 rfl) (WL.ev rfl rfl (Ev.ld rfl ag9 rfl ((H.rA (i := 2) rfl).cell rfl)) ?_))
      refine WL.lit1 rfl rfl rfl el82 sz9 ze9 rfl rfl rfl rfl rfl rfl fun b6 w11 hE hb hB => ?_
      have H := H.newB hE hb hB
      obtain ⟨hg6, hb1⟩ := grd_some hb1
      refine WL.appO (i := 2) (ys := [x4.Name]) rfl rfl rfl el82 sz9 by9 ze9 rfl rfl rfl H rfl (fun _ => ownL.single ⟨rfl, rfl, hS2⟩) (.inr ⟨_, _, rfl, At.blk (H.rB (i := 3) rfl)⟩) hg6 fun A3 n3 c3 w12 H => ?_
      refine WL.ev rfl rfl (Ev.as rfl rfl) (WL.nil ?_)
      obtain rfl := sm hb1
      exact ⟨⟨m2, (s1 ++ [x4.Name]), (List.set s2 s3.toNat true), (.slice A3 n3 c3)⟩, ⟨rfl, rfl, rfl, rfl, rfl, trivial⟩, ⟨hs1 _ rfl, H.keep 2 3⟩, Nat.lt_succ_self _⟩

noncomputable def sPhasesOf_L1 (a0 : (List Attribute)) (a1 : Relation) : ((List Phase) × (List Bool) × Int) → Option (((List Phase) × (List Bool) × Int) ⊕ (((List Phase) × (List Bool)) ⊕ ((List Phase) × Bool))) := fun (s5, s6, s7) => 
  (
  if 0 < s7 then (
  some true
  ) else (
  some (decide ((s5.length : Int) = 0))
  )
  ).bind fun s8 =>
  if s8 = true then (
  (sl27Half_m a0 a1 s6 1).bind fun (y3, z2) =>
  (sl27Half_m a0 a1 z2 2).bind fun (y4, z3) =>
  grd (I64 ((y3.length + y4.length : Nat) : Int)) <|
  (
  if ((y3.length + y4.length : Nat) : Int) = 0 then (
  some (decide (0 < s7))
  ) else (
  some false
  )
  ).bind fun s9 =>
  if s9 = true then (
  some (.inr (.inr ([], false)))
  ) else (
  grd (I64 (s7 - ((y3.length + y4.length : Nat) : Int))) <|
  grd (((s5.length : Int) + 1) * 48 ≤ 140737488355328 ∧ (s5.length : Int) + 1 ≤ 9223372036854775807) <|
  some (.inl ((s5 ++ [(⟨y3, y4⟩ : Phase)]), z3, (s7 - ((y3.length + y4.length : Nat) : Int))))
  )
  ) else (
  some (.inr (.inl (s5, s6)))
  )
noncomputable def sPhasesOf_m (a0 : (List Attribute)) (a1 : Relation) : Option ((List Phase) × Bool) :=
  (sIsValidRelation_m a1).bind fun y1 =>
  (
  if y1 = true then (
  some (!(decide (a1.N = (a0.length : Int))))
  ) else (
  some true
  )
  ).bind fun s1 =>
  (
  if s1 = true then (
  some true
  ) else (
  (sHasLoop_m a1).bind fun y2 =>
  some y2
  )
  ).bind fun s2 =>
  if s2 = true then (
  some ([], false)
  ) else (
  grd (0 ≤ (a0.length : Int) ∧ (a0.length : Int) * 1 ≤ 281474976710656 ∧ (a0.length : Int) ≤ 9223372036854775807) <|
  (
  iterO (sPhasesOf_L1 a0 a1) (([] : List Phase), (List.replicate a0.length false), (a0.length : Int))
  ).bind <| onr (fun r1 => some r1) fun (s3, s4) =>
  some (s3, true)
  )
theorem sPhasesOf_ok {a0 : (List Attribute)} {a1 : Relation} {r : ((List Phase) × Bool)} (hr : sPhasesOf_m a0 a1 = some r) {F0 : Nat → Prop} {w0 : World} {z0 : Value} (ha0 : rdS F0 w0 a0 z0) {ca1 : List Value} (ha1 : rd F0 w0 a1 ca1) :
    Ret Try.prog 57 #[z0, .agg ca1.toArray] w0 (fun _ => False) fun v w => ∃ A0 : Option Addr, ∃ n0 c0 : Nat, v = .tuple #[(.slice A0 n0 c0), .bool r.2] ∧ HL F0 [] w0 w [Pr.S r.1 (.slice A0 n0 c0)] [] := by
  obtain ⟨A0', n0', c0', rfl⟩ := ha0.form3
  have H := ((HL.start F0 w0).argS ha0).argR ha1
  obtain ⟨A1, n1, c1, rfl, hI1, H⟩ := op_Relation H (i := 1) rfl
  refine enter Try.func57 rfl rfl rfl ?_
  refine CW.seq (CW.reg ?_)
  refine WL.boxH rfl rfl rfl rfl rfl H fun b1 w1 H => ?_
  refine WL.ev rfl rfl (Ev.as rfl rfl) (WL.ev rfl rfl (Ev.as rfl rfl) (WL.nil ?_))
  refine CW.seq (CW.seq (CW.reg ?_))
  refine WL.ev rfl rfl (Ev.lda rfl ag60 sz60 rfl (At.blk (H.rB (i := 0) rfl)) rfl) ?_
  obtain ⟨y1, hy1, hr⟩ := bd hr
  refine WL.call rfl rfl rfl rfl rfl ok40 rfl (sIsValidRelation_ok hy1 ⟨_, rfl, hI1, (H.rS (i := 2) rfl)⟩) ?_
  rintro _ w2 hE rfl
  have H := H.ext hE
  refine WL.ev rfl rfl (Ev.not rfl rfl) ?_
  obtain ⟨q1, hm1, hr⟩ := bd hr
  refine WL.cut 7 (fun ρ' w => ∃ (s1 : Bool), s1 = q1 ∧ agree ρ' [(0, .slice A0' n0' c0'), (3, .pointer (some ⟨b1, 0, none⟩)), (20, .bool s1)] ∧ HL F0 [] w0 w [Pr.S a0 (.slice A0' n0' c0'), Pr.R a1 [.int .i64 a1.N, .slice A1 n1 c1], Pr.S a1.Rows (.slice A1 n1 c1)] [It.B b1 60 [.int .i64 a1.N, .slice A1 n1 c1]]) ?_ ?_
  · skip
    refine WL.mvBN rfl rfl rfl rfl (fun h1 => ?_) (fun h1 => ?_)
    · skip
      have hm1 := ifn h1 hm1
      refine WL.off rfl rfl rfl (WL.off rfl rfl rfl (WL.off rfl rfl rfl (WL.off rfl rfl rfl (WL.off rfl rfl rfl (WL.ev rfl rfl (Ev.pickT rfl rfl rfl) (WL.nil ?_))))))
      obtain rfl := sm hm1
      exact ⟨true, rfl, ⟨rfl, rfl, rfl, trivial⟩, H.keep 3 1⟩
    · skip
      have hm1 := ifp h1 hm1
      refine WL.on rfl rfl (WL.ev rfl rfl (Ev.fa rfl fo60_0 rfl) (WL.on rfl rfl (WL.ev rfl rfl (Ev.ld rfl ag3 rfl ((H.rB (i := 0) rfl).cell rfl)) (WL.on rfl rfl (WL.ev rfl rfl (Ev.mv rfl rfl) (WL.on rfl rfl ?_))))))
      have hl1 := (H.rS (i := 0) rfl).I
      refine WL.ev rfl rfl (Ev.lenV rfl el76 rfl (H.rS (i := 0) rfl)) (WL.on rfl rfl (WL.ev rfl rfl (Ev.bin rfl rfl rfl Bin.neq) (WL.ev rfl rfl (Ev.pickF rfl rfl rfl) (WL.nil ?_))))
      obtain rfl := sm hm1
      exact ⟨(!(decide (a1.N = (a0.length : Int)))), rfl, ⟨rfl, rfl, rfl, trivial⟩, H.keep 3 1⟩
  · rintro ρ' w3 ⟨s1, rfl, hag, H⟩
    obtain ⟨σ, rfl⟩ := ofL_ex hag
    obtain ⟨q2, hm2, hr⟩ := bd hr
    refine WL.cut 4 (fun ρ' w => ∃ (s2 : Bool), s2 = q2 ∧ agree ρ' [(0, .slice A0' n0' c0'), (3, .pointer (some ⟨b1, 0, none⟩)), (24, .bool s2)] ∧ HL F0 [] w0 w [Pr.S a0 (.slice A0' n0' c0'), Pr.R a1 [.int .i64 a1.N, .slice A1 n1 c1], Pr.S a1.Rows (.slice A1 n1 c1)] [It.B b1 60 [.int .i64 a1.N, .slice A1 n1 c1]]) ?_ ?_
    · skip
      refine WL.mvB rfl rfl rfl rfl (fun h2 => ?_) (fun h2 => ?_)
      · skip
        have hm2 := ifp h2 hm2
        refine WL.off rfl rfl rfl (WL.off rfl rfl rfl (WL.ev rfl rfl (Ev.pickT rfl rfl rfl) (WL.nil ?_)))
        obtain rfl := sm hm2
        exact ⟨true, rfl, ⟨rfl, rfl, rfl, trivial⟩, H.keep 3 1⟩
      · skip
        have hm2 := ifn h2 hm2
        refine WL.on rfl rfl (WL.ev rfl rfl (Ev.lda rfl ag60 sz60 rfl (At.blk (H.rB (i := 0) rfl)) rfl) (WL.on rfl rfl ?_))
        obtain ⟨y2, hy2, hm2⟩ := bd hm2
        refine WL.call rfl rfl rfl rfl rfl ok123 rfl (sHasLoop_ok hy2 ⟨_, rfl, hI1, (H.rS (i := 2) rfl)⟩) ?_
        rintro _ w4 hE rfl
        have H := H.ext hE
        refine WL.ev rfl rfl (Ev.pickF rfl rfl rfl) (WL.nil ?_)
        obtain rfl := sm hm2
        exact ⟨y2, rfl, ⟨rfl, rfl, rfl, trivial⟩, H.keep 3 1⟩
    · rintro ρ' w5 ⟨s2, rfl, hag, H⟩
      obtain ⟨σ, rfl⟩ := ofL_ex hag
      refine WL.nil ?_
      refine CW.condB rfl (fun h3 => ?_) (fun h3 => ?_)
      · skip
        have hr := ifp h3 hr
        refine CW.seq (CW.reg ?_)
        refine WL.lit0H (α := Phase) rfl rfl rfl el79 sz85 H fun A2 n2 c2 w6 H => ?_
        have H := H.toG (i := 1) rfl
        refine WL.ev rfl rfl (Ev.as rfl rfl) (WL.ev rfl rfl (Ev.as rfl rfl) (WL.nil ?_))
        refine CW.ret ?_
        have H := H.frzG (i := 1) rfl
        obtain rfl := sm hr
        exact ⟨_, res2 rfl rfl rfl rfl rfl, H.ext0, _, _, _, rfl, H.outM (fr' := [Pr.S ([] : List Phase) (.slice A2 n2 c2)]) [false, false] fun _ h => ⟨h.get (i := 3) rfl, trivial⟩⟩
      · skip
        have hr := ifn h3 hr
        refine CW.skip ?_
        refine CW.seq (CW.reg ?_)
        refine WL.lit0H (α := Phase) rfl rfl rfl el79 sz85 H fun A3 n3 c3 w7 H => ?_
        have H := H.toG (i := 1) rfl
        refine WL.ev rfl rfl (Ev.as rfl rfl) (WL.nil ?_)
        refine CW.seq (CW.reg ?_)
        refine WL.ev rfl rfl (Ev.mv rfl rfl) ?_
        have hl2 := (H.rS (i := 0) rfl).I
        refine WL.ev rfl rfl (Ev.lenV rfl el76 rfl (H.rS (i := 0) rfl)) ?_
        obtain ⟨hg1, hr⟩ := grd_some hr
        refine WL.mkH (x := false) rfl rfl rfl el140 sz4 by4 ze4 (fun _ => ⟨rfl, rfl⟩) rfl rfl hg1 H fun A4 n4 c4 w8 H => ?_
        refine WL.ev rfl rfl (Ev.as rfl rfl) (WL.nil ?_)
        refine CW.seq (CW.reg ?_)
        refine WL.ev rfl rfl (Ev.mv rfl rfl) (WL.ev rfl rfl (Ev.lenV rfl el76 rfl (H.rS (i := 0) rfl)) (WL.ev rfl rfl (Ev.as rfl rfl) (WL.nil ?_)))
        obtain ⟨q3, hm3, hr⟩ := bd hr
        refine CW.seq (CW.mid (fun ρ' w => ∃ (s3 : List Phase) (s4 : List Bool) (v1 : Value), q3 = .inl (s3, s4) ∧ agree ρ' [(6, v1)] ∧ HL F0 [] w0 w [Pr.S a0 (.slice A0' n0' c0'), Pr.R a1 [.int .i64 a1.N, .slice A1 n1 c1], Pr.S a1.Rows (.slice A1 n1 c1)] [It.B b1 60 [.int .i64 a1.N, .slice A1 n1 c1], It.G 85 s3 v1, It.O 4 s4 (.slice A4 n4 c4)]) ?_ ?_)
        · skip
          obtain ⟨m1, hq1⟩ := iterO_some.1 hm3
          refine CW.block (CW.loop (α := Nat × (List Phase) × (List Bool) × Int × Value) (fun ⟨m1, s5, s6, s7, v2⟩ => [(0, .slice A0' n0' c0'), (3, .pointer (some ⟨b1, 0, none⟩)), (6, v2), (7, .slice A4 n4 c4), (8, .int .i64 s7)]) (fun ⟨m1, s5, s6, s7, v2⟩ w => iterN (sPhasesOf_L1 a0 a1) m1 (s5, s6, s7) = some q3 ∧ I64 s7 ∧ HL F0 [] w0 w [Pr.S a0 (.slice A0' n0' c0'), Pr.R a1 [.int .i64 a1.N, .slice A1 n1 c1], Pr.S a1.Rows (.slice A1 n1 c1)] [It.B b1 60 [.int .i64 a1.N, .slice A1 n1 c1], It.G 85 s5 v2, It.O 4 s6 (.slice A4 n4 c4)]) (fun ⟨m1, s5, s6, s7, v2⟩ => m1) ⟨m1, ([] : List Phase), (List.replicate a0.length false), (a0.length : Int), (.slice A3 n3 c3)⟩ ⟨rfl, rfl, rfl, rfl, rfl, trivial⟩ ⟨hq1, hl2, H.keep 3 3⟩ ?_)
          rintro ⟨m1, s5, s6, s7, v2⟩ σ w9 ⟨hq1, hI2, H⟩
          obtain ⟨A5, n5, c5, rfl⟩ := (H.rG (i := 1) rfl).form3
          obtain ⟨m2, z1, rfl, hb1, hs1, ht1⟩ := iterN_go hq1
          refine CW.seq (CW.seq (CW.reg ?_))
          refine WL.ev rfl rfl (Ev.mv rfl rfl) (WL.ev rfl rfl (Ev.bin rfl rfl rfl Bin.gtr) ?_)
          obtain ⟨q4, hm4, hb1⟩ := bd hb1
          refine WL.cut 5 (fun ρ' w => ∃ (s8 : Bool), s8 = q4 ∧ agree ρ' [(0, .slice A0' n0' c0'), (3, .pointer (some ⟨b1, 0, none⟩)), (6, .slice A5 n5 c5), (7, .slice A4 n4 c4), (8, .int .i64 s7), (38, .bool s8)] ∧ HL F0 [] w0 w [Pr.S a0 (.slice A0' n0' c0'), Pr.R a1 [.int .i64 a1.N, .slice A1 n1 c1], Pr.S a1.Rows (.slice A1 n1 c1)] [It.B b1 60 [.int .i64 a1.N, .slice A1 n1 c1], It.G 85 s5 (.slice A5 n5 c5), It.O 4 s6 (.slice A4 n4 c4)]) ?_ ?_
          · skip
            refine WL.mvD rfl rfl rfl rfl (fun h4 => ?_) (fun h4 => ?_)
            · skip
              have hm4 := ifp h4 hm4
              refine WL.off rfl rfl rfl (WL.off rfl rfl rfl (WL.off rfl rfl rfl (WL.ev rfl rfl (Ev.pickT rfl rfl rfl) (WL.nil ?_))))
              obtain rfl := sm hm4
              exact ⟨true, rfl, ⟨rfl, rfl, rfl, rfl, rfl, rfl, trivial⟩, H.keep 3 3⟩
            · skip
              have hm4 := ifn h4 hm4
              refine WL.on rfl rfl (WL.ev rfl rfl (Ev.mv rfl rfl) (WL.on rfl rfl ?_))
              have hl3 := (H.rG (i := 1) rfl).I
              refine WL.ev rfl rfl (Ev.lenV rfl el79 rfl (H.rG (i := 1) rfl)) (WL.on rfl rfl (WL.ev rfl rfl (Ev.bin rfl rfl rfl Bin.eql) (WL.ev rfl rfl (Ev.pickF rfl rfl rfl) (WL.nil ?_))))
              obtain rfl := sm hm4
              exact ⟨(decide ((s5.length : Int) = 0)), rfl, ⟨rfl, rfl, rfl, rfl, rfl, rfl, trivial⟩, H.keep 3 3⟩
          · rintro ρ' w10 ⟨s8, rfl, hag, H⟩
            obtain ⟨σ, rfl⟩ := ofL_ex hag
            refine WL.nil ?_
            refine CW.condB rfl (fun h5 => ?_) (fun h5 => ?_)
            · skip
              have hb1 := ifp h5 hb1
              refine CW.skip ?_
              refine CW.block (CW.seq (CW.reg ?_))
              refine WL.ev rfl rfl (Ev.mv rfl rfl) (WL.ev rfl rfl (Ev.lda rfl ag60 sz60 rfl (At.blk (H.rB (i := 0) rfl)) rfl) (WL.ev rfl rfl (Ev.mv rfl rfl) ?_))
              obtain ⟨⟨y3, z2⟩, hy3, hb1⟩ := bd hb1
              obtain ⟨F', M', hfF, hoF, hcM⟩ := H.callN [false, false, true] ⟨noO, trivial⟩
              obtain ⟨H', hcN⟩ := hcM (ps := [Pr.S a0 (.slice A0' n0' c0'), Pr.S a1.Rows (.slice A1 n1 c1)]) ⟨hfF.get (i := 0) rfl, hfF.get (i := 2) rfl, trivial⟩
              refine WL.call rfl rfl rfl rfl rfl ok124 rfl (sl27Half_ok hy3 hI1 (by decide : I64 1) H') ?_
              rintro _ w11 hE ⟨A6, n6, c6, rfl, H'⟩
              have H := hcN 1 H' rfl ⟨fun _ _ _ _ _ h => h, ⟨fun _ _ _ _ _ h => h, trivial⟩⟩
              refine WL.ev rfl rfl (Ev.build rfl pl85 ze85 rfl rfl rfl rfl) ?_
              refine WL.allocH rfl rfl rfl ze85 H fun b2 w12 H => ?_
              refine WL.stB (i := 4) rfl rfl rfl sz85 rfl rfl rfl rfl (all1 rfl (all1 rfl all0)) H rfl rfl rfl fun w13 H => ?_
              refine WL.nil ?_
              refine CW.seq (CW.reg ?_)
              refine WL.ev rfl rfl (Ev.mv rfl rfl) (WL.ev rfl rfl (Ev.lda rfl ag60 sz60 rfl (At.blk (H.rB (i := 0) rfl)) rfl) (WL.ev rfl rfl (Ev.mv rfl rfl) ?_))
              obtain ⟨⟨y4, z3⟩, hy4, hb1⟩ := bd hb1
              obtain ⟨F', M', hfF, hoF, hcM⟩ := H.callN [false, false, true, false, false] ⟨noO, trivial⟩
              obtain ⟨H', hcN⟩ := hcM (ps := [Pr.S a0 (.slice A0' n0' c0'), Pr.S a1.Rows (.slice A1 n1 c1)]) ⟨hfF.get (i := 0) rfl, hfF.get (i := 2) rfl, trivial⟩
              refine WL.call rfl rfl rfl rfl rfl ok124 rfl (sl27Half_ok hy4 hI1 (by decide : I64 2) H') ?_
              rintro _ w14 hE ⟨A7, n7, c7, rfl, H'⟩
              have H := hcN 1 H' rfl ⟨fun _ _ _ _ _ h => h, ⟨fun _ _ _ _ _ h => h, trivial⟩⟩
              refine WL.ev rfl rfl (Ev.fa rfl fo85_1 rfl) ?_
              refine WL.stB (i := 4) rfl rfl rfl sz82 rfl rfl rfl rfl (all1 rfl all0) H rfl rfl rfl fun w15 H => ?_
              refine WL.nil ?_
              refine CW.seq (CW.reg ?_)
              refine WL.ev rfl rfl (Ev.fa rfl fo85_0 rfl) (WL.ev rfl rfl (Ev.ld rfl ag82 rfl ((H.rB (i := 4) rfl).cell rfl)) ?_)
              have hl4 := (H.rO (i := 3) rfl).I
              refine WL.ev rfl rfl (Ev.lenV rfl el82 rfl (H.rO (i := 3) rfl)) (WL.ev rfl rfl (Ev.fa rfl fo85_1 rfl) (WL.ev rfl rfl (Ev.ld rfl ag82 rfl ((H.rB (i := 4) rfl).cell rfl)) ?_))
              have hl5 := (H.rO (i := 5) rfl).I
              refine WL.ev rfl rfl (Ev.lenV rfl el82 rfl (H.rO (i := 5) rfl)) ?_
              obtain ⟨hg2, hb1⟩ := grd_some hb1
              refine WL.ev rfl rfl (Ev.bin rfl rfl rfl (Bin.addN (a := y3.length) (b := y4.length) rfl hg2)) (WL.ev rfl rfl (Ev.as rfl rfl) (WL.nil ?_))
              refine CW.seq (CW.seq (CW.reg ?_))
              refine WL.ev rfl rfl (Ev.mv rfl rfl) (WL.ev rfl rfl (Ev.bin rfl rfl rfl Bin.eql) ?_)
              obtain ⟨q5, hm5, hb1⟩ := bd hb1
              refine WL.cut 4 (fun ρ' w => ∃ (s9 : Bool), s9 = q5 ∧ agree ρ' [(0, .slice A0' n0' c0'), (3, .pointer (some ⟨b1, 0, none⟩)), (6, .slice A5 n5 c5), (7, .slice A4 n4 c4), (8, .int .i64 s7), (9, .pointer (some ⟨b2, 0, none⟩)), (10, .int .i64 ((y3.length + y4.length : Nat) : Int)), (61, .bool s9)] ∧ HL F0 [] w0 w [Pr.S a0 (.slice A0' n0' c0'), Pr.R a1 [.int .i64 a1.N, .slice A1 n1 c1], Pr.S a1.Rows (.slice A1 n1 c1)] [It.B b1 60 [.int .i64 a1.N, .slice A1 n1 c1], It.G 85 s5 (.slice A5 n5 c5), It.O 4 z3 (.slice A4 n4 c4), It.O 9 y3 (.slice A6 n6 c6), It.B b2 85 [.slice A6 n6 c6, .slice A7 n7 c7], It.O 9 y4 (.slice A7 n7 c7)]) ?_ ?_
              · skip
                refine WL.mvD rfl rfl rfl rfl (fun h6 => ?_) (fun h6 => ?_)
                · skip
                  have hm5 := ifp h6 hm5
                  refine WL.on rfl rfl (WL.ev rfl rfl (Ev.mv rfl rfl) (WL.on rfl rfl (WL.ev rfl rfl (Ev.bin rfl rfl rfl Bin.gtr) (WL.ev rfl rfl (Ev.pickT rfl rfl rfl) (WL.nil ?_)))))
                  obtain rfl := sm hm5
                  exact ⟨(decide (0 < s7)), rfl, ⟨rfl, rfl, rfl, rfl, rfl, rfl, rfl, rfl, trivial⟩, H.keep 3 6⟩
                · skip
                  have hm5 := ifn h6 hm5
                  refine WL.off rfl rfl rfl (WL.off rfl rfl rfl (WL.ev rfl rfl (Ev.pickF rfl rfl rfl) (WL.nil ?_)))
                  obtain rfl := sm hm5
                  exact ⟨false, rfl, ⟨rfl, rfl, rfl, rfl, rfl, rfl, rfl, rfl, trivial⟩, H.keep 3 6⟩
              · rintro ρ' w16 ⟨s9, rfl, hag, H⟩
                obtain ⟨σ, rfl⟩ := ofL_ex hag
                refine WL.nil ?_
                refine CW.condB rfl (fun h7 => ?_) (fun h7 => ?_)
                · skip
                  have hb1 := ifp h7 hb1
                  refine CW.seq (CW.reg ?_)
                  refine WL.lit0H (α := Phase) rfl rfl rfl el79 sz85 H fun A8 n8 c8 w17 H => ?_
                  have H := H.toG (i := 6) rfl
                  refine WL.ev rfl rfl (Ev.as rfl rfl) (WL.ev rfl rfl (Ev.as rfl rfl) (WL.nil ?_))
                  refine CW.ret ?_
                  have H := H.frzG (i := 6) rfl
                  obtain rfl := sm hb1
                  obtain rfl := ht1 _ rfl
                  obtain rfl := sm hr
                  exact ⟨_, res2 rfl rfl rfl rfl rfl, H.ext0, _, _, _, rfl, H.outM (fr' := [Pr.S ([] : List Phase) (.slice A8 n8 c8)]) [false, false, false, false, false, false, false] fun _ h => ⟨h.get (i := 3) rfl, trivial⟩⟩
                · skip
                  have hb1 := ifn h7 hb1
                  refine CW.skip ?_
                  refine CW.seq (CW.reg ?_)
                  refine WL.ev rfl rfl (Ev.mv rfl rfl) (WL.ev rfl rfl (Ev.mv rfl rfl) ?_)
                  obtain ⟨hg3, hb1⟩ := grd_some hb1
                  refine WL.ev rfl rfl (Ev.bin rfl rfl rfl (Bin.sub hg3)) (WL.ev rfl rfl (Ev.as rfl rfl) (WL.nil ?_))
                  refine CW.reg ?_
                  refine WL.ev rfl rfl (Ev.mv rfl rfl) (WL.ev rfl rfl (Ev.lda rfl ag85 sz85 rfl (At.blk (H.rB (i := 4) rfl)) rfl) ?_)
                  refine WL.lit1 rfl rfl rfl el79 sz85 ze85 rfl rfl rfl rfl rfl rfl fun b3 w18 hE hb hB => ?_
                  have H := H.newB hE hb hB
                  have H := H.frzO (i := 3) rfl
                  have H := H.frzO (i := 5) rfl
                  obtain ⟨hg4, hb1⟩ := grd_some hb1
                  refine WL.appG (i := 1) (ys := [(⟨y3, y4⟩ : Phase)]) rfl rfl rfl el79 sz85 by85 ze85 rfl rfl rfl H rfl (fun F hF => rdL.single ⟨_, _, rfl, (hF.get (i := 3) rfl), (hF.get (i := 4) rfl)⟩) (.inr ⟨_, _, rfl, At.blk (H.rB (i := 6) rfl)⟩) hg4 fun A9 n9 c9 w19 H => ?_
                  refine WL.ev rfl rfl (Ev.as rfl rfl) (WL.nil ?_)
                  obtain rfl := sm hb1
                  exact ⟨⟨m2, (s5 ++ [(⟨y3, y4⟩ : Phase)]), z3, (s7 - ((y3.length + y4.length : Nat) : Int)), (.slice A9 n9 c9)⟩, ⟨rfl, rfl, rfl, rfl, rfl, trivial⟩, ⟨hs1 _ rfl, hg3, H.keep 3 3⟩, Nat.lt_succ_self _⟩
            · skip
              have hb1 := ifn h5 hb1
              refine CW.exit ?_
              obtain rfl := sm hb1
              obtain rfl := ht1 _ rfl
              exact ⟨s5, s6, _, rfl, ⟨rfl, trivial⟩, H.keep 3 3⟩
        · rintro ρ' w20 ⟨s3, s4, v1, rfl, hag, H⟩
          obtain ⟨σ, rfl⟩ := ofL_ex hag
          obtain ⟨A10, n10, c10, rfl⟩ := (H.rG (i := 1) rfl).form3
          refine CW.seq (CW.reg ?_)
          refine WL.ev rfl rfl (Ev.mv rfl rfl) (WL.ev rfl rfl (Ev.as rfl rfl) (WL.ev rfl rfl (Ev.as rfl rfl) (WL.nil ?_)))
          refine CW.ret ?_
          have H := H.frzG (i := 1) rfl
          obtain rfl := sm hr
          exact ⟨_, res2 rfl rfl rfl rfl rfl, H.ext0, _, _, _, rfl, H.outM (fr' := [Pr.S s3 (.slice A10 n10 c10)]) [false, false, false] fun _ h => ⟨h.get (i := 3) rfl, trivial⟩⟩

noncomputable def wsameTexts_L1 (a1 : (List ByteArray)) : Nat → ByteArray → Unit → Option (Unit ⊕ Bool) := fun k1 x1 _ => 
  (a1[k1]?).bind fun x2 =>
  if x1 = x2 then (
  some (.inl ())
  ) else (
  some (.inr false)
  )
noncomputable def wsameTexts_m (a0 : (List ByteArray)) (a1 : (List ByteArray)) : Option Bool :=
  if (a0.length : Int) = (a1.length : Int) then (
  (findL (wsameTexts_L1 a1) 0 a0 ()).bind <| onr (fun r1 => some r1) fun _ =>
  some true
  ) else (
  some false
  )
theorem wsameTexts_ok {a0 : (List ByteArray)} {a1 : (List ByteArray)} {r : Bool} (hr : wsameTexts_m a0 a1 = some r) {F0 : Nat → Prop} {w0 : World} {z0 : Value} (ha0 : rdS F0 w0 a0 z0) {z1 : Value} (ha1 : rdS F0 w0 a1 z1) :
    Ret Try.prog 58 #[z0, z1] w0 (fun _ => False) fun v w => v = .bool r := by
  obtain ⟨A0', n0', c0', rfl⟩ := ha0.form3
  obtain ⟨A1', n1', c1', rfl⟩ := ha1.form3
  have H := ((HL.start F0 w0).argS ha0).argS ha1
  refine enter Try.func58 rfl rfl rfl ?_
  refine CW.seq (CW.reg ?_)
  refine WL.ev rfl rfl (Ev.as rfl rfl) (WL.nil ?_)
  refine CW.seq (CW.seq (CW.reg ?_))
  refine WL.ev rfl rfl (Ev.mv rfl rfl) ?_
  have hl1 := (H.rS (i := 0) rfl).I
  refine WL.ev rfl rfl (Ev.lenV rfl el82 rfl (H.rS (i := 0) rfl)) (WL.ev rfl rfl (Ev.mv rfl rfl) ?_)
  have hl2 := (H.rS (i := 1) rfl).I
  refine WL.ev rfl rfl (Ev.lenV rfl el82 rfl (H.rS (i := 1) rfl)) (WL.ev rfl rfl (Ev.bin rfl rfl rfl Bin.neq) (WL.nil ?_))
  refine CW.condN rfl (fun h1 => ?_) (fun h1 => ?_)
  · skip
    have hr := ifn h1 hr
    refine CW.seq (CW.reg ?_)
    refine WL.ev rfl rfl (Ev.as rfl rfl) (WL.nil ?_)
    refine CW.ret ?_
    obtain rfl := sm hr
    exact ⟨_, res1 rfl rfl rfl, H.ext0, rfl⟩
  · skip
    have hr := ifp h1 hr
    refine CW.skip ?_
    refine CW.seq (CW.seq (CW.reg ?_))
    refine WL.ev rfl rfl (Ev.as rfl rfl) (WL.nil ?_)
    obtain ⟨q1, hq1, hr⟩ := bd hr
    refine CW.block (CW.loop (α := Nat) (fun k1 => [(0, .slice A0' n0' c0'), (1, .slice A1' n1' c1'), (5, .int .i64 (k1 : Int))]) (fun k1 w => k1 ≤ a0.length ∧ findL (wsameTexts_L1 a1) k1 (a0.drop k1) () = some q1 ∧ HL F0 [] w0 w [Pr.S a0 (.slice A0' n0' c0'), Pr.S a1 (.slice A1' n1' c1')] []) (fun k1 => a0.length - k1) 0 ⟨rfl, rfl, rfl, trivial⟩ ⟨Nat.zero_le _, hq1, H.keep 2 0⟩ ?_)
    rintro k1 σ w1 ⟨hk1, hq1, H⟩
    refine CW.seq (CW.seq (CW.reg ?_))
    refine WL.ev rfl rfl (Ev.mv rfl rfl) (WL.ev rfl rfl (Ev.mv rfl rfl) (WL.ev rfl rfl (Ev.lenV rfl el82 rfl (H.rS (i := 0) rfl)) (WL.ev rfl rfl (Ev.bin rfl rfl rfl Bin.lss) (WL.nil ?_))))
    refine CW.condD rfl (fun h2 => ?_) (fun h2 => ?_)
    · skip
      have hk2 := cast_lt h2
      obtain ⟨x1, z1, hx1, hb1, hs1, ht1⟩ := findL_go hq1 hk2
      refine CW.skip ?_
      refine CW.seq (CW.block (CW.seq (CW.quiet hmix (by kernel_rfl) ?_)))
      refine QL.ev rfl rfl (fun _ _ => Ev.mv rfl rfl) (QL.ev rfl rfl (fun _ _ => Ev.mv rfl rfl) ?_)
      obtain ⟨b1, ob1, cb1, hvb1, hS1, H⟩ := ixS_Str H (i := 0) rfl hx1
      refine QL.ev rfl rfl (fun _ _ => Ev.ixVN rfl el82 sz9 rfl hvb1 rfl (lt_of hx1)) (QL.ev rfl rfl (fun _ hq => Ev.ld rfl ag9 rfl (((H.ext hq).rA (i := 2) rfl).cell0 rfl)) (QL.ev rfl rfl (fun _ _ => Ev.mv rfl rfl) (QL.ev rfl rfl (fun _ _ => Ev.mv rfl rfl) ?_)))
      obtain ⟨x2, hx2, hb1⟩ := bd hb1
      obtain ⟨b2, ob2, cb2, hvb2, hS2, H⟩ := ixS_Str H (i := 1) rfl hx2
      refine QL.ev rfl rfl (fun _ _ => Ev.ixVN rfl el82 sz9 rfl hvb2 rfl (lt_of hx2)) (QL.ev rfl rfl (fun _ hq => Ev.ld rfl ag9 rfl (((H.ext hq).rA (i := 4) rfl).cell0 rfl)) (QL.ev rfl rfl (fun _ _ => Ev.bin rfl rfl rfl Bin.neqS) (QL.nil (fun w2 hE => ?_))))
      have H := H.ext hE
      refine CW.condN rfl (fun h3 => ?_) (fun h3 => ?_)
      · skip
        have hb1 := ifn h3 hb1
        refine CW.seq (CW.reg ?_)
        refine WL.ev rfl rfl (Ev.as rfl rfl) (WL.nil ?_)
        refine CW.ret ?_
        obtain rfl := sm hb1
        obtain rfl := ht1 _ rfl
        obtain rfl := sm hr
        exact ⟨_, res1 rfl rfl rfl, H.ext0, rfl⟩
      · skip
        have hb1 := ifp h3 hb1
        refine CW.skip ?_
        refine CW.reg ?_
        refine WL.ev rfl rfl (Ev.mv rfl rfl) (WL.ev rfl rfl (Ev.bin rfl rfl rfl (Bin.addN (a := k1) (b := 1) rfl (i64_succN hk2 hl1.2))) (WL.ev rfl rfl (Ev.as rfl rfl) (WL.nil ?_)))
        obtain rfl := sm hb1
        have hq1 := hs1 _ rfl
        exact ⟨(k1 + 1), ⟨rfl, rfl, rfl, trivial⟩, ⟨hk2, hq1, H.keep 2 0⟩, Nat.sub_lt_sub_left hk2 (Nat.lt_succ_self _)⟩
    · skip
      obtain rfl := findL_end hq1 (not_cast_lt h2)
      have hr := (onr_inl _ _ _).symm.trans hr
      refine CW.exit ?_
      refine CW.seq (CW.reg ?_)
      refine WL.ev rfl rfl (Ev.as rfl rfl) (WL.nil ?_)
      refine CW.ret ?_
      obtain rfl := sm hr
      exact ⟨_, res1 rfl rfl rfl, H.ext0, rfl⟩

noncomputable def sIndexOf_L1 (a1 : ByteArray) : Nat → ByteArray → Unit → Option (Unit ⊕ Int) := fun k1 x1 _ => 
  if x1 = a1 then (
  some (.inr (k1 : Int))
  ) else (
  some (.inl ())
  )
noncomputable def sIndexOf_m (a0 : (List ByteArray)) (a1 : ByteArray) : Option Int :=
  (findL (sIndexOf_L1 a1) 0 a0 ()).bind <| onr (fun r1 => some r1) fun _ =>
  some (-1)
theorem sIndexOf_ok {a0 : (List ByteArray)} {a1 : ByteArray} {r : Int} (hr : sIndexOf_m a0 a1 = some r) {F0 : Nat → Prop} {w0 : World} {z0 : Value} (ha0 : rdS F0 w0 a0 z0) (ha1 : a1.size ≤ 9223372036854775807) :
    Ret Try.prog 59 #[z0, .string a1] w0 (fun _ => False) fun v w => v = .int .i64 r ∧ I64 r := by
  obtain ⟨A0', n0', c0', rfl⟩ := ha0.form3
  have H := (HL.start F0 w0).argS ha0
  refine enter Try.func59 rfl rfl rfl ?_
  refine CW.seq (CW.reg ?_)
  refine WL.ev rfl rfl (Ev.as rfl rfl) (WL.nil ?_)
  refine CW.seq (CW.seq (CW.reg ?_))
  refine WL.ev rfl rfl (Ev.as rfl rfl) (WL.nil ?_)
  obtain ⟨q1, hq1, hr⟩ := bd hr
  refine CW.block (CW.loop (α := Nat) (fun k1 => [(0, .slice A0' n0' c0'), (1, .string a1), (5, .int .i64 (k1 : Int))]) (fun k1 w => k1 ≤ a0.length ∧ findL (sIndexOf_L1 a1) k1 (a0.drop k1) () = some q1 ∧ HL F0 [] w0 w [Pr.S a0 (.slice A0' n0' c0')] []) (fun k1 => a0.length - k1) 0 ⟨rfl, rfl, rfl, trivial⟩ ⟨Nat.zero_le _, hq1, H.keep 1 0⟩ ?_)
  rintro k1 σ w1 ⟨hk1, hq1, H⟩
  refine CW.seq (CW.seq (CW.reg ?_))
  refine WL.ev rfl rfl (Ev.mv rfl rfl) (WL.ev rfl rfl (Ev.mv rfl rfl) ?_)
  have hl1 := (H.rS (i := 0) rfl).I
  refine WL.ev rfl rfl (Ev.lenV rfl el82 rfl (H.rS (i := 0) rfl)) (WL.ev rfl rfl (Ev.bin rfl rfl rfl Bin.lss) (WL.nil ?_))
  refine CW.condD rfl (fun h1 => ?_) (fun h1 => ?_)
  · skip
    have hk2 := cast_lt h1
    obtain ⟨x1, z1, hx1, hb1, hs1, ht1⟩ := findL_go hq1 hk2
    refine CW.skip ?_
    refine CW.seq (CW.block (CW.seq (CW.reg ?_)))
    refine WL.ev rfl rfl (Ev.mv rfl rfl) (WL.ev rfl rfl (Ev.mv rfl rfl) ?_)
    obtain ⟨b1, ob1, cb1, hvb1, hS1, H⟩ := ixS_Str H (i := 0) rfl hx1
    refine WL.ev rfl rfl (Ev.ixVN rfl el82 sz9 rfl hvb1 rfl (lt_of hx1)) (WL.ev rfl rfl (Ev.ld rfl ag9 rfl ((H.rA (i := 1) rfl).cell0 rfl)) (WL.ev rfl rfl (Ev.mv rfl rfl) (WL.ev rfl rfl (Ev.bin rfl rfl rfl Bin.eqlS) (WL.nil ?_))))
    refine CW.condD rfl (fun h2 => ?_) (fun h2 => ?_)
    · skip
      have hb1 := ifp h2 hb1
      refine CW.seq (CW.reg ?_)
      refine WL.ev rfl rfl (Ev.mv rfl rfl) (WL.ev rfl rfl (Ev.as rfl rfl) (WL.nil ?_))
      refine CW.ret ?_
      obtain rfl := sm hb1
      obtain rfl := ht1 _ rfl
      obtain rfl := sm hr
      exact ⟨_, res1 rfl rfl rfl, H.ext0, rfl, (i64_nat hk2 hl1)⟩
    · skip
      have hb1 := ifn h2 hb1
      refine CW.skip ?_
      refine CW.reg ?_
      refine WL.ev rfl rfl (Ev.mv rfl rfl) (WL.ev rfl rfl (Ev.bin rfl rfl rfl (Bin.addN (a := k1) (b := 1) rfl (i64_succN hk2 hl1.2))) (WL.ev rfl rfl (Ev.as rfl rfl) (WL.nil ?_)))
      obtain rfl := sm hb1
      have hq1 := hs1 _ rfl
      exact ⟨(k1 + 1), ⟨rfl, rfl, rfl, trivial⟩, ⟨hk2, hq1, H.keep 1 0⟩, Nat.sub_lt_sub_left hk2 (Nat.lt_succ_self _)⟩
  · skip
    obtain rfl := findL_end hq1 (not_cast_lt h1)
    have hr := (onr_inl _ _ _).symm.trans hr
    refine CW.exit ?_
    refine CW.seq (CW.reg ?_)
    refine WL.ev rfl rfl (Ev.as rfl rfl) (WL.nil ?_)
    refine CW.ret ?_
    obtain rfl := sm hr
    exact ⟨_, res1 rfl rfl rfl, H.ext0, rfl, (by decide : I64 (-1))⟩

noncomputable def sl1Has_L1 (a1 : ByteArray) : Nat → ByteArray → Unit → Option (Unit ⊕ Bool) := fun k1 x1 _ => 
  if x1 = a1 then (
  some (.inr true)
  ) else (
  some (.inl ())
  )
noncomputable def sl1Has_m (a0 : (List ByteArray)) (a1 : ByteArray) : Option Bool :=
  (findL (sl1Has_L1 a1) 0 a0 ()).bind <| onr (fun r1 => some r1) fun _ =>
  some false
theorem sl1Has_ok {a0 : (List ByteArray)} {a1 : ByteArray} {r : Bool} (hr : sl1Has_m a0 a1 = some r) {F0 : Nat → Prop} {w0 : World} {z0 : Value} (ha0 : rdS F0 w0 a0 z0) (ha1 : a1.size ≤ 9223372036854775807) :
    Ret Try.prog 125 #[z0, .string a1] w0 (fun _ => False) fun v w => v = .bool r := by
  obtain ⟨A0', n0', c0', rfl⟩ := ha0.form3
  have H := (HL.start F0 w0).argS ha0
  refine enter Try.func125 rfl rfl rfl ?_
  refine CW.seq (CW.reg ?_)
  refine WL.ev rfl rfl (Ev.as rfl rfl) (WL.nil ?_)
  refine CW.seq (CW.seq (CW.reg ?_))
  refine WL.ev rfl rfl (Ev.as rfl rfl) (WL.nil ?_)
  obtain ⟨q1, hq1, hr⟩ := bd hr
  refine CW.block (CW.loop (α := Nat) (fun k1 => [(0, .slice A0' n0' c0'), (1, .string a1), (5, .int .i64 (k1 : Int))]) (fun k1 w => k1 ≤ a0.length ∧ findL (sl1Has_L1 a1) k1 (a0.drop k1) () = some q1 ∧ HL F0 [] w0 w [Pr.S a0 (.slice A0' n0' c0')] []) (fun k1 => a0.length - k1) 0 ⟨rfl, rfl, rfl, trivial⟩ ⟨Nat.zero_le _, hq1, H.keep 1 0⟩ ?_)
  rintro k1 σ w1 ⟨hk1, hq1, H⟩
  refine CW.seq (CW.seq (CW.reg ?_))
  refine WL.ev rfl rfl (Ev.mv rfl rfl) (WL.ev rfl rfl (Ev.mv rfl rfl) ?_)
  have hl1 := (H.rS (i := 0) rfl).I
  refine WL.ev rfl rfl (Ev.lenV rfl el82 rfl (H.rS (i := 0) rfl)) (WL.ev rfl rfl (Ev.bin rfl rfl rfl Bin.lss) (WL.nil ?_))
  refine CW.condD rfl (fun h1 => ?_) (fun h1 => ?_)
  · skip
    have hk2 := cast_lt h1
    obtain ⟨x1, z1, hx1, hb1, hs1, ht1⟩ := findL_go hq1 hk2
    refine CW.skip ?_
    refine CW.seq (CW.block (CW.seq (CW.reg ?_)))
    refine WL.ev rfl rfl (Ev.mv rfl rfl) (WL.ev rfl rfl (Ev.mv rfl rfl) ?_)
    obtain ⟨b1, ob1, cb1, hvb1, hS1, H⟩ := ixS_Str H (i := 0) rfl hx1
    refine WL.ev rfl rfl (Ev.ixVN rfl el82 sz9 rfl hvb1 rfl (lt_of hx1)) (WL.ev rfl rfl (Ev.ld rfl ag9 rfl ((H.rA (i := 1) rfl).cell0 rfl)) (WL.ev rfl rfl (Ev.mv rfl rfl) (WL.ev rfl rfl (Ev.bin rfl rfl rfl Bin.eqlS) (WL.nil ?_))))
    refine CW.condD rfl (fun h2 => ?_) (fun h2 => ?_)
    · skip
      have hb1 := ifp h2 hb1
      refine CW.seq (CW.reg ?_)
      refine WL.ev rfl rfl (Ev.as rfl rfl) (WL.nil ?_)
      refine CW.ret ?_
      obtain rfl := sm hb1
      obtain rfl := ht1 _ rfl
      obtain rfl := sm hr
      exact ⟨_, res1 rfl rfl rfl, H.ext0, rfl⟩
    · skip
      have hb1 := ifn h2 hb1
      refine CW.skip ?_
      refine CW.reg ?_
      refine WL.ev rfl rfl (Ev.mv rfl rfl) (WL.ev rfl rfl (Ev.bin rfl rfl rfl (Bin.addN (a := k1) (b := 1) rfl (i64_succN hk2 hl1.2))) (WL.ev rfl rfl (Ev.as rfl rfl) (WL.nil ?_)))
      obtain rfl := sm hb1
      have hq1 := hs1 _ rfl
      exact ⟨(k1 + 1), ⟨rfl, rfl, rfl, trivial⟩, ⟨hk2, hq1, H.keep 1 0⟩, Nat.sub_lt_sub_left hk2 (Nat.lt_succ_self _)⟩
  · skip
    obtain rfl := findL_end hq1 (not_cast_lt h1)
    have hr := (onr_inl _ _ _).symm.trans hr
    refine CW.exit ?_
    refine CW.seq (CW.reg ?_)
    refine WL.ev rfl rfl (Ev.as rfl rfl) (WL.nil ?_)
    refine CW.ret ?_
    obtain rfl := sm hr
    exact ⟨_, res1 rfl rfl rfl, H.ext0, rfl⟩

noncomputable def sAllDistinct_L1 (a0 : (List ByteArray)) : Nat → ByteArray → Unit → Option (Unit ⊕ Bool) := fun k1 x1 _ => 
  grd (k1 ≤ a0.length) <|
  (sl1Has_m (a0.take k1) x1).bind fun y1 =>
  if y1 = true then (
  some (.inr false)
  ) else (
  some (.inl ())
  )
noncomputable def sAllDistinct_m (a0 : (List ByteArray)) : Option Bool :=
  (findL (sAllDistinct_L1 a0) 0 a0 ()).bind <| onr (fun r1 => some r1) fun _ =>
  some true
theorem sAllDistinct_ok {a0 : (List ByteArray)} {r : Bool} (hr : sAllDistinct_m a0 = some r) {F0 : Nat → Prop} {w0 : World} {z0 : Value} (ha0 : rdS F0 w0 a0 z0) :
    Ret Try.prog 60 #[z0] w0 (fun _ => False) fun v w => v = .bool r := by
  obtain ⟨A0', n0', c0', rfl⟩ := ha0.form3
  have H := (HL.start F0 w0).argS ha0
  refine enter Try.func60 rfl rfl rfl ?_
  refine CW.seq (CW.reg ?_)
  refine WL.ev rfl rfl (Ev.as rfl rfl) (WL.nil ?_)
  refine CW.seq (CW.seq (CW.reg ?_))
  refine WL.ev rfl rfl (Ev.as rfl rfl) (WL.nil ?_)
  obtain ⟨q1, hq1, hr⟩ := bd hr
  refine CW.block (CW.loop (α := Nat) (fun k1 => [(0, .slice A0' n0' c0'), (3, .int .i64 (k1 : Int))]) (fun k1 w => k1 ≤ a0.length ∧ findL (sAllDistinct_L1 a0) k1 (a0.drop k1) () = some q1 ∧ HL F0 [] w0 w [Pr.S a0 (.slice A0' n0' c0')] []) (fun k1 => a0.length - k1) 0 ⟨rfl, rfl, trivial⟩ ⟨Nat.zero_le _, hq1, H.keep 1 0⟩ ?_)
  rintro k1 σ w1 ⟨hk1, hq1, H⟩
  refine CW.seq (CW.seq (CW.reg ?_))
  refine WL.ev rfl rfl (Ev.mv rfl rfl) (WL.ev rfl rfl (Ev.mv rfl rfl) ?_)
  have hl1 := (H.rS (i := 0) rfl).I
  refine WL.ev rfl rfl (Ev.lenV rfl el82 rfl (H.rS (i := 0) rfl)) (WL.ev rfl rfl (Ev.bin rfl rfl rfl Bin.lss) (WL.nil ?_))
  refine CW.condD rfl (fun h1 => ?_) (fun h1 => ?_)
  · skip
    have hk2 := cast_lt h1
    obtain ⟨x1, z1, hx1, hb1, hs1, ht1⟩ := findL_go hq1 hk2
    refine CW.skip ?_
    refine CW.seq (CW.block (CW.seq (CW.quiet hmix (by kernel_rfl) ?_)))
    refine QL.ev rfl rfl (fun _ _ => Ev.mv rfl rfl) (QL.ev rfl rfl (fun _ _ => Ev.mv rfl rfl) ?_)
    obtain ⟨hg1, hb1⟩ := grd_some hb1
    obtain ⟨A1, n1, c1, e1, hc1, H⟩ := H.slH (i := 0) rfl hg1
    refine QL.ev rfl rfl (fun _ _ => Ev.slHV rfl el82 sz9 rfl rfl rfl hc1 e1) (QL.ev rfl rfl (fun _ _ => Ev.mv rfl rfl) (QL.ev rfl rfl (fun _ _ => Ev.mv rfl rfl) ?_))
    obtain ⟨b1, ob1, cb1, hvb1, hS1, H⟩ := ixS_Str H (i := 0) rfl hx1
    refine QL.ev rfl rfl (fun _ _ => Ev.ixVN rfl el82 sz9 rfl hvb1 rfl (lt_of hx1)) (QL.ev rfl rfl (fun _ hq => Ev.ld rfl ag9 rfl (((H.ext hq).rA (i := 2) rfl).cell0 rfl)) ?_)
    obtain ⟨y1, hy1, hb1⟩ := bd hb1
    refine QL.call rfl rfl rfl rfl rfl ok125 rfl (fun _ hq => sl1Has_ok hy1 ((H.ext hq).rS (i := 1) rfl) hS1) ?_
    refine QL.nil (fun w2 hE => ?_)
    have H := H.ext hE
    refine CW.condB rfl (fun h2 => ?_) (fun h2 => ?_)
    · skip
      have hb1 := ifp h2 hb1
      refine CW.seq (CW.reg ?_)
      refine WL.ev rfl rfl (Ev.as rfl rfl) (WL.nil ?_)
      refine CW.ret ?_
      obtain rfl := sm hb1
      obtain rfl := ht1 _ rfl
      obtain rfl := sm hr
      exact ⟨_, res1 rfl rfl rfl, H.ext0, rfl⟩
    · skip
      have hb1 := ifn h2 hb1
      refine CW.skip ?_
      refine CW.reg ?_
      refine WL.ev rfl rfl (Ev.mv rfl rfl) (WL.ev rfl rfl (Ev.bin rfl rfl rfl (Bin.addN (a := k1) (b := 1) rfl (i64_succN hk2 hl1.2))) (WL.ev rfl rfl (Ev.as rfl rfl) (WL.nil ?_)))
      obtain rfl := sm hb1
      have hq1 := hs1 _ rfl
      exact ⟨(k1 + 1), ⟨rfl, rfl, trivial⟩, ⟨hk2, hq1, H.keep 1 0⟩, Nat.sub_lt_sub_left hk2 (Nat.lt_succ_self _)⟩
  · skip
    obtain rfl := findL_end hq1 (not_cast_lt h1)
    have hr := (onr_inl _ _ _).symm.trans hr
    refine CW.exit ?_
    refine CW.seq (CW.reg ?_)
    refine WL.ev rfl rfl (Ev.as rfl rfl) (WL.nil ?_)
    refine CW.ret ?_
    obtain rfl := sm hr
    exact ⟨_, res1 rfl rfl rfl, H.ext0, rfl⟩

noncomputable def wFnPhases_L1 (y6 : (List Phase)) : Nat → Phase → (List ByteArray) → Option (((List ByteArray)) ⊕ Bool) := fun k1 x1 s2 => 
  (y6[k1]?).bind fun x2 =>
  (wsameTexts_m x1.Inherited x2.Inherited).bind fun y8 =>
  if y8 = true then (
  (wsameTexts_m x1.Synthesized x2.Synthesized).bind fun y9 =>
  if y9 = true then (
  grd (((s2.length : Int) + (x1.Inherited.length : Int)) * 16 ≤ 140737488355328 ∧ (s2.length : Int) + (x1.Inherited.length : Int) ≤ 9223372036854775807) <|
  grd ((((s2 ++ x1.Inherited).length : Int) + (x1.Synthesized.length : Int)) * 16 ≤ 140737488355328 ∧ ((s2 ++ x1.Inherited).length : Int) + (x1.Synthesized.length : Int) ≤ 9223372036854775807) <|
  some (.inl ((s2 ++ x1.Inherited) ++ x1.Synthesized))
  ) else (
  some (.inr false)
  )
  ) else (
  some (.inr false)
  )
noncomputable def wFnPhases_L3 (y2 : (List Attribute)) (y3 : Relation) (s2 : List ByteArray) (s3 : Int) : Nat → Attribute → Unit → Option (Unit ⊕ Bool) := fun k2 x3 _ => 
  (sHasPair_m y3 s3 (k2 : Int)).bind fun y10 =>
  if y10 = true then (
  grd (0 ≤ s3) <|
  (y2[s3.toNat]?).bind fun x4 =>
  (sIndexOf_m s2 x4.Name).bind fun y11 =>
  (sIndexOf_m s2 x3.Name).bind fun y12 =>
  if y12 ≤ y11 then (
  some (.inr false)
  ) else (
  some (.inl ())
  )
  ) else (
  some (.inl ())
  )
noncomputable def wFnPhases_L2 (y2 : (List Attribute)) (y3 : Relation) (y5 : Bool) (s2 : List ByteArray) : Int → Option (Int ⊕ (Unit ⊕ Bool)) := fun s3 => 
  if s3 < (y2.length : Int) then (
  if y5 = true then (
  (findL (wFnPhases_L3 y2 y3 s2 s3) 0 y2 ()).bind <| onr (fun r2 => some (.inr (.inr r2))) fun _ =>
  grd (I64 (s3 + 1)) <|
  some (.inl (s3 + 1))
  ) else (
  some (.inr (.inl ()))
  )
  ) else (
  some (.inr (.inl ()))
  )
noncomputable def wFnPhases_m (a0 : (List UInt8)) : Option Bool :=
  (wbig_m a0).bind fun y1 =>
  if y1 = true then (
  some true
  ) else (
  (sDrawPhasesOf_m a0).bind fun (y2, y3) =>
  (iPhasesOf_m y2 y3).bind fun (y4, y5) =>
  (sPhasesOf_m y2 y3).bind fun (y6, y7) =>
  (
  if y5 = y7 then (
  some (!(decide ((y4.length : Int) = (y6.length : Int))))
  ) else (
  some true
  )
  ).bind fun s1 =>
  if s1 = true then (
  some false
  ) else (
  (findL (wFnPhases_L1 y6) 0 y4 ([] : List ByteArray)).bind <| onr (fun r1 => some r1) fun s2 =>
  (
  iterO (wFnPhases_L2 y2 y3 y5 s2) 0
  ).bind <| onr (fun r3 => some r3) fun () =>
  (
  if y5 = true then (
  (
  if (s2.length : Int) = (y2.length : Int) then (
  (sAllDistinct_m s2).bind fun y13 =>
  some y13
  ) else (
  some false
  )
  ).bind fun s5 =>
  some s5
  ) else (
  some true
  )
  ).bind fun s4 =>
  some s4
  )
  )
theorem wFnPhases_ok {a0 : (List UInt8)} {r : Bool} (hr : wFnPhases_m a0 = some r) {F0 : Nat → Prop} {w0 : World} {z0 : Value} (ha0 : rdS F0 w0 a0 z0) :
    Ret Try.prog 9 #[z0] w0 (fun _ => False) fun v w => v = .bool r := by
  obtain ⟨A0', n0', c0', rfl⟩ := ha0.form3
  have H := (HL.start F0 w0).argS ha0
  refine enter Try.func9 rfl rfl rfl ?_
  refine CW.seq (CW.reg ?_)
  refine WL.ev rfl rfl (Ev.as rfl rfl) (WL.nil ?_)
  refine CW.seq (CW.seq (CW.reg ?_))
  refine WL.ev rfl rfl (Ev.mv rfl rfl) ?_
  obtain ⟨y1, hy1, hr⟩ := bd hr
  refine WL.call rfl rfl rfl rfl rfl ok21 rfl (wbig_ok hy1 (H.rS (i := 0) rfl)) ?_
  rintro _ w1 hE rfl
  have H := H.ext hE
  refine WL.nil ?_
  refine CW.condB rfl (fun h1 => ?_) (fun h1 => ?_)
  · skip
    have hr := ifp h1 hr
    refine CW.seq (CW.reg ?_)
    refine WL.ev rfl rfl (Ev.as rfl rfl) (WL.nil ?_)
    refine CW.ret ?_
    obtain rfl := sm hr
    exact ⟨_, res1 rfl rfl rfl, H.ext0, rfl⟩
  · skip
    have hr := ifn h1 hr
    refine CW.skip ?_
    refine CW.seq (CW.reg ?_)
    refine WL.ev rfl rfl (Ev.mv rfl rfl) ?_
    obtain ⟨⟨y2, y3⟩, hy2, hr⟩ := bd hr
    refine WL.call rfl rfl rfl rfl rfl ok55 rfl (sDrawPhasesOf_ok hy2 (H.rS (i := 0) rfl)) ?_
    rintro _ w2 hE ⟨A1, n1, c1, A2, n2, c2, rfl, hI1, H'⟩
    have H := H.callA H' ⟨fun _ _ _ _ _ h => h, ⟨fun _ _ _ _ _ h => h, trivial⟩⟩
    refine WL.ev rfl rfl (Ev.mv rfl rfl) (WL.ev rfl rfl (Ev.ex rfl rfl rfl) (WL.ev rfl rfl (Ev.ex rfl rfl rfl) ?_))
    refine WL.allocH rfl rfl rfl ze60 H fun b1 w3 H => ?_
    refine WL.ev rfl rfl (Ev.as rfl rfl) ?_
    refine WL.stB (i := 2) rfl rfl rfl sz60 rfl rfl rfl rfl (all1 rfl (all1 rfl all0)) H rfl rfl rfl fun w4 H => ?_
    refine WL.nil ?_
    refine CW.seq (CW.reg ?_)
    refine WL.ev rfl rfl (Ev.mv rfl rfl) (WL.ev rfl rfl (Ev.lda rfl ag60 sz60 rfl (At.blk (H.rB (i := 2) rfl)) rfl) ?_)
    have H := H.frzO (i := 0) rfl
    have H := H.frzO (i := 1) rfl
    obtain ⟨⟨y4, y5⟩, hy3, hr⟩ := bd hr
    obtain ⟨F, hF, hcl⟩ := H.call
    refine WL.call rfl rfl rfl rfl rfl ok56 rfl (iPhasesOf_ok hy3 (hF.get (i := 1) rfl) ⟨_, rfl, hI1, (hF.get (i := 2) rfl)⟩) ?_
    rintro _ w5 hE ⟨A3, n3, c3, rfl, H'⟩
    have H : HL F0 [] w0 w5 [Pr.S a0 (.slice A0' n0' c0'), Pr.S y2 (.slice A1 n1 c1), Pr.S y3.Rows (.slice A2 n2 c2), Pr.S y4 (.slice A3 n3 c3)] [It.emp, It.emp, It.B b1 60 [.int .i64 y3.N, .slice A2 n2 c2]] := hcl H'
    refine WL.ev rfl rfl (Ev.mv rfl rfl) (WL.ev rfl rfl (Ev.ex rfl rfl rfl) (WL.ev rfl rfl (Ev.ex rfl rfl rfl) (WL.ev rfl rfl (Ev.as rfl rfl) (WL.ev rfl rfl (Ev.as rfl rfl) (WL.nil ?_)))))
    refine CW.seq (CW.reg ?_)
    refine WL.ev rfl rfl (Ev.mv rfl rfl) (WL.ev rfl rfl (Ev.lda rfl ag60 sz60 rfl (At.blk (H.rB (i := 2) rfl)) rfl) ?_)
    obtain ⟨⟨y6, y7⟩, hy4, hr⟩ := bd hr
    obtain ⟨F, hF, hcl⟩ := H.call
    refine WL.call rfl rfl rfl rfl rfl ok57 rfl (sPhasesOf_ok hy4 (hF.get (i := 1) rfl) ⟨_, rfl, hI1, (hF.get (i := 2) rfl)⟩) ?_
    rintro _ w6 hE ⟨A4, n4, c4, rfl, H'⟩
    have H : HL F0 [] w0 w6 [Pr.S a0 (.slice A0' n0' c0'), Pr.S y2 (.slice A1 n1 c1), Pr.S y3.Rows (.slice A2 n2 c2), Pr.S y4 (.slice A3 n3 c3), Pr.S y6 (.slice A4 n4 c4)] [It.emp, It.emp, It.B b1 60 [.int .i64 y3.N, .slice A2 n2 c2]] := hcl H'
    refine WL.ev rfl rfl (Ev.mv rfl rfl) (WL.ev rfl rfl (Ev.ex rfl rfl rfl) (WL.ev rfl rfl (Ev.ex rfl rfl rfl) (WL.ev rfl rfl (Ev.as rfl rfl) (WL.ev rfl rfl (Ev.as rfl rfl) (WL.nil ?_)))))
    refine CW.seq (CW.seq ?_)
    refine CW.fresh [(3, .slice A1 n1 c1), (4, .pointer (some ⟨b1, 0, none⟩)), (5, .slice A3 n3 c3), (6, .bool y5), (7, .slice A4 n4 c4), (8, .bool y7)] ⟨rfl, rfl, rfl, rfl, rfl, rfl, trivial⟩ fun σ => ?_
    have H : HL F0 [] w0 w6 [Pr.S a0 (.slice A0' n0' c0'), Pr.S y2 (.slice A1 n1 c1), Pr.S y3.Rows (.slice A2 n2 c2), Pr.S y4 (.slice A3 n3 c3), Pr.S y6 (.slice A4 n4 c4)] [It.emp, It.emp, It.B b1 60 [.int .i64 y3.N, .slice A2 n2 c2]] := H
    refine CW.reg ?_
    refine WL.ev rfl rfl (Ev.mv rfl rfl) (WL.ev rfl rfl (Ev.mv rfl rfl) (WL.ev rfl rfl (Ev.bin rfl rfl rfl (Bin.neqBo Try.underlying4)) ?_))
    obtain ⟨q1, hm1, hr⟩ := bd hr
    refine WL.cut 7 (fun ρ' w => ∃ (s1 : Bool), s1 = q1 ∧ agree ρ' [(3, .slice A1 n1 c1), (4, .pointer (some ⟨b1, 0, none⟩)), (5, .slice A3 n3 c3), (6, .bool y5), (7, .slice A4 n4 c4), (41, .bool s1)] ∧ HL F0 [] w0 w [Pr.S a0 (.slice A0' n0' c0'), Pr.S y2 (.slice A1 n1 c1), Pr.S y3.Rows (.slice A2 n2 c2), Pr.S y4 (.slice A3 n3 c3), Pr.S y6 (.slice A4 n4 c4)] [It.emp, It.emp, It.B b1 60 [.int .i64 y3.N, .slice A2 n2 c2]]) ?_ ?_
    · skip
      refine WL.mvN rfl rfl rfl rfl (fun h2 => ?_) (fun h2 => ?_)
      · skip
        have hm1 := ifn h2 hm1
        refine WL.off rfl rfl rfl (WL.off rfl rfl rfl (WL.off rfl rfl rfl (WL.off rfl rfl rfl (WL.off rfl rfl rfl (WL.ev rfl rfl (Ev.pickT rfl rfl rfl) (WL.nil ?_))))))
        obtain rfl := sm hm1
        exact ⟨true, rfl, ⟨rfl, rfl, rfl, rfl, rfl, rfl, trivial⟩, H.keep 5 3⟩
      · skip
        have hm1 := ifp h2 hm1
        refine WL.on rfl rfl (WL.ev rfl rfl (Ev.mv rfl rfl) (WL.on rfl rfl ?_))
        have hl1 := (H.rS (i := 3) rfl).I
        refine WL.ev rfl rfl (Ev.lenV rfl el79 rfl (H.rS (i := 3) rfl)) (WL.on rfl rfl (WL.ev rfl rfl (Ev.mv rfl rfl) (WL.on rfl rfl ?_)))
        have hl2 := (H.rS (i := 4) rfl).I
        refine WL.ev rfl rfl (Ev.lenV rfl el79 rfl (H.rS (i := 4) rfl)) (WL.on rfl rfl (WL.ev rfl rfl (Ev.bin rfl rfl rfl Bin.neq) (WL.ev rfl rfl (Ev.pickF rfl rfl rfl) (WL.nil ?_))))
        obtain rfl := sm hm1
        exact ⟨(!(decide ((y4.length : Int) = (y6.length : Int)))), rfl, ⟨rfl, rfl, rfl, rfl, rfl, rfl, trivial⟩, H.keep 5 3⟩
    · rintro ρ' w7 ⟨s1, rfl, hag, H⟩
      obtain ⟨σ, rfl⟩ := ofL_ex hag
      refine WL.nil ?_
      refine CW.condB rfl (fun h3 => ?_) (fun h3 => ?_)
      · skip
        have hr := ifp h3 hr
        refine CW.seq (CW.reg ?_)
        refine WL.ev rfl rfl (Ev.as rfl rfl) (WL.nil ?_)
        refine CW.ret ?_
        obtain rfl := sm hr
        exact ⟨_, res1 rfl rfl rfl, H.ext0, rfl⟩
      · skip
        have hr := ifn h3 hr
        refine CW.skip ?_
        refine CW.seq (CW.reg ?_)
        refine WL.lit0H (α := ByteArray) rfl rfl rfl el82 sz9 H fun A5 n5 c5 w8 H => ?_
        refine WL.ev rfl rfl (Ev.as rfl rfl) (WL.nil ?_)
        refine CW.seq (CW.seq (CW.reg ?_))
        refine WL.ev rfl rfl (Ev.as rfl rfl) (WL.nil ?_)
        obtain ⟨q2, hq1, hr⟩ := bd hr
        refine CW.block (CW.loop (α := Nat × (List ByteArray) × Value) (fun ⟨k1, s2, v1⟩ => [(3, .slice A1 n1 c1), (4, .pointer (some ⟨b1, 0, none⟩)), (5, .slice A3 n3 c3), (6, .bool y5), (7, .slice A4 n4 c4), (9, v1), (10, .int .i64 (k1 : Int))]) (fun ⟨k1, s2, v1⟩ w => k1 ≤ y4.length ∧ findL (wFnPhases_L1 y6) k1 (y4.drop k1) s2 = some q2 ∧ HL F0 [] w0 w [Pr.S a0 (.slice A0' n0' c0'), Pr.S y2 (.slice A1 n1 c1), Pr.S y3.Rows (.slice A2 n2 c2), Pr.S y4 (.slice A3 n3 c3), Pr.S y6 (.slice A4 n4 c4)] [It.emp, It.emp, It.B b1 60 [.int .i64 y3.N, .slice A2 n2 c2], It.O 9 s2 v1]) (fun ⟨k1, s2, v1⟩ => y4.length - k1) ⟨0, ([] : List ByteArray), (.slice A5 n5 c5)⟩ ⟨rfl, rfl, rfl, rfl, rfl, rfl, rfl, trivial⟩ ⟨Nat.zero_le _, hq1, H.keep 5 4⟩ ?_)
        rintro ⟨k1, s2, v1⟩ σ w9 ⟨hk1, hq1, H⟩
        obtain ⟨A6, n6, c6, rfl⟩ := (H.rO (i := 3) rfl).form3
        refine CW.seq (CW.seq (CW.reg ?_))
        refine WL.ev rfl rfl (Ev.mv rfl rfl) (WL.ev rfl rfl (Ev.mv rfl rfl) ?_)
        have hl3 := (H.rS (i := 3) rfl).I
        refine WL.ev rfl rfl (Ev.lenV rfl el79 rfl (H.rS (i := 3) rfl)) (WL.ev rfl rfl (Ev.bin rfl rfl rfl Bin.lss) (WL.nil ?_))
        refine CW.condD rfl (fun h4 => ?_) (fun h4 => ?_)
        · skip
          have hk2 := cast_lt h4
          obtain ⟨x1, z1, hx1, hb1, hs1, ht1⟩ := findL_go hq1 hk2
          refine CW.skip ?_
          refine CW.seq (CW.block (CW.seq (CW.seq (CW.quiet hmix (by kernel_rfl) ?_))))
          refine QL.ev rfl rfl (fun _ _ => Ev.mv rfl rfl) (QL.ev rfl rfl (fun _ _ => Ev.mv rfl rfl) ?_)
          obtain ⟨b2, ob2, cb2, A7, n7, c7, A8, n8, c8, hvb2, H⟩ := ixS_Phase H (i := 3) rfl hx1
          refine QL.ev rfl rfl (fun _ _ => Ev.ixVN rfl el79 sz85 rfl hvb2 rfl (lt_of hx1)) (QL.ev rfl rfl (fun _ _ => Ev.fa rfl fo85_0 rfl) (QL.ev rfl rfl (fun _ hq => Ev.ld rfl ag82 rfl (((H.ext hq).rA (i := 5) rfl).cell rfl)) (QL.ev rfl rfl (fun _ _ => Ev.mv rfl rfl) (QL.ev rfl rfl (fun _ _ => Ev.mv rfl rfl) ?_))))
          obtain ⟨x2, hx2, hb1⟩ := bd hb1
          obtain ⟨b3, ob3, cb3, A9, n9, c9, A10, n10, c10, hvb3, H⟩ := ixS_Phase H (i := 4) rfl hx2
          refine QL.ev rfl rfl (fun _ _ => Ev.ixVN rfl el79 sz85 rfl hvb3 rfl (lt_of hx2)) (QL.ev rfl rfl (fun _ _ => Ev.fa rfl fo85_0 rfl) (QL.ev rfl rfl (fun _ hq => Ev.ld rfl ag82 rfl (((H.ext hq).rA (i := 9) rfl).cell rfl)) ?_))
          obtain ⟨y8, hy5, hb1⟩ := bd hb1
          refine QL.call rfl rfl rfl rfl rfl ok58 rfl (fun _ hq => wsameTexts_ok hy5 ((H.ext hq).rS (i := 7) rfl) ((H.ext hq).rS (i := 11) rfl)) ?_
          refine QL.ev rfl rfl (fun _ _ => Ev.not rfl rfl) ?_
          refine QL.mvBN rfl rfl rfl rfl (fun h5 => ?_) (fun h5 => ?_)
          · skip
            have hb1 := ifn h5 hb1
            refine QL.off rfl rfl rfl (QL.off rfl rfl rfl (QL.off rfl rfl rfl (QL.off rfl rfl rfl (QL.off rfl rfl rfl (QL.off rfl rfl rfl (QL.off rfl rfl rfl (QL.off rfl rfl rfl (QL.off rfl rfl rfl (QL.off rfl rfl rfl (QL.off rfl rfl rfl (QL.off rfl rfl rfl (QL.ev rfl rfl (fun _ _ => Ev.pickT rfl rfl rfl) (QL.nil (fun w10 hE => ?_))))))))))))))
            have H := H.ext hE
            refine CW.condT rfl ?_
            refine CW.seq (CW.reg ?_)
            refine WL.ev rfl rfl (Ev.as rfl rfl) (WL.nil ?_)
            refine CW.ret ?_
            obtain rfl := sm hb1
            obtain rfl := ht1 _ rfl
            obtain rfl := sm hr
            exact ⟨_, res1 rfl rfl rfl, H.ext0, rfl⟩
          · skip
            have hb1 := ifp h5 hb1
            refine QL.on rfl rfl (QL.ev rfl rfl (fun _ _ => Ev.mv rfl rfl) (QL.on rfl rfl (QL.ev rfl rfl (fun _ _ => Ev.mv rfl rfl) (QL.on rfl rfl (QL.ev rfl rfl (fun _ _ => Ev.ixVN rfl el79 sz85 rfl hvb2 rfl (lt_of hx1)) (QL.on rfl rfl (QL.ev rfl rfl (fun _ _ => Ev.fa rfl fo85_1 rfl) (QL.on rfl rfl (QL.ev rfl rfl (fun _ hq => Ev.ld rfl ag82 rfl (((H.ext hq).rA (i := 5) rfl).cell rfl)) (QL.on rfl rfl (QL.ev rfl rfl (fun _ _ => Ev.mv rfl rfl) (QL.on rfl rfl (QL.ev rfl rfl (fun _ _ => Ev.mv rfl rfl) (QL.on rfl rfl (QL.ev rfl rfl (fun _ _ => Ev.ixVN rfl el79 sz85 rfl hvb3 rfl (lt_of hx2)) (QL.on rfl rfl (QL.ev rfl rfl (fun _ _ => Ev.fa rfl fo85_1 rfl) (QL.on rfl rfl (QL.ev rfl rfl (fun _ hq => Ev.ld rfl ag82 rfl (((H.ext hq).rA (i := 9) rfl).cell rfl)) (QL.on rfl rfl ?_))))))))))))))))))))
            obtain ⟨y9, hy6, hb1⟩ := bd hb1
            refine QL.call rfl rfl rfl rfl rfl ok58 rfl (fun _ hq => wsameTexts_ok hy6 ((H.ext hq).rS (i := 8) rfl) ((H.ext hq).rS (i := 12) rfl)) ?_
            refine QL.on rfl rfl (QL.ev rfl rfl (fun _ _ => Ev.not rfl rfl) (QL.ev rfl rfl (fun _ _ => Ev.pickF rfl rfl rfl) (QL.nil (fun w11 hE => ?_))))
            have H := H.ext hE
            refine CW.condBN rfl (fun h6 => ?_) (fun h6 => ?_)
            · skip
              have hb1 := ifn h6 hb1
              refine CW.seq ?_
              refine CW.fresh [] trivial fun σ => ?_
              have H : HL F0 [] w0 w11 [Pr.S a0 (.slice A0' n0' c0'), Pr.S y2 (.slice A1 n1 c1), Pr.S y3.Rows (.slice A2 n2 c2), Pr.S y4 (.slice A3 n3 c3), Pr.S y6 (.slice A4 n4 c4), Pr.A b2 (ob2 + k1 * 2) [.slice A7 n7 c7, .slice A8 n8 c8], Pr.R x1 [.slice A7 n7 c7, .slice A8 n8 c8], Pr.S x1.Inherited (.slice A7 n7 c7), Pr.S x1.Synthesized (.slice A8 n8 c8), Pr.A b3 (ob3 + k1 * 2) [.slice A9 n9 c9, .slice A10 n10 c10], Pr.R x2 [.slice A9 n9 c9, .slice A10 n10 c10], Pr.S x2.Inherited (.slice A9 n9 c9), Pr.S x2.Synthesized (.slice A10 n10 c10)] [It.emp, It.emp, It.B b1 60 [.int .i64 y3.N, .slice A2 n2 c2], It.O 9 s2 (.slice A6 n6 c6)] := H
              refine CW.reg ?_
              refine WL.ev rfl rfl (Ev.as rfl rfl) (WL.nil ?_)
              refine CW.ret ?_
              obtain rfl := sm hb1
              obtain rfl := ht1 _ rfl
              obtain rfl := sm hr
              exact ⟨_, res1 rfl rfl rfl, H.ext0, rfl⟩
            · skip
              have hb1 := ifp h6 hb1
              refine CW.skip ?_
              refine CW.fresh [(3, .slice A1 n1 c1), (4, .pointer (some ⟨b1, 0, none⟩)), (5, .slice A3 n3 c3), (6, .bool y5), (7, .slice A4 n4 c4), (9, .slice A6 n6 c6), (10, .int .i64 (k1 : Int)), (62, .slice A3 n3 c3), (63, .int .i64 (k1 : Int)), (64, .pointer (some ⟨b2, ob2 + k1 * 2, none⟩)), (65, .pointer (some ⟨b2, ob2 + k1 * 2 + 1, none⟩)), (66, .slice A8 n8 c8), (67, .slice A4 n4 c4), (68, .int .i64 (k1 : Int)), (69, .pointer (some ⟨b3, ob3 + k1 * 2, none⟩)), (70, .pointer (some ⟨b3, ob3 + k1 * 2 + 1, none⟩)), (71, .slice A10 n10 c10), (72, .bool y9), (73, .bool (!y9))] ⟨rfl, rfl, rfl, rfl, rfl, rfl, rfl, rfl, rfl, rfl, rfl, rfl, rfl, rfl, rfl, rfl, rfl, rfl, rfl, trivial⟩ fun σ => ?_
              have H : HL F0 [] w0 w11 [Pr.S a0 (.slice A0' n0' c0'), Pr.S y2 (.slice A1 n1 c1), Pr.S y3.Rows (.slice A2 n2 c2), Pr.S y4 (.slice A3 n3 c3), Pr.S y6 (.slice A4 n4 c4), Pr.A b2 (ob2 + k1 * 2) [.slice A7 n7 c7, .slice A8 n8 c8], Pr.R x1 [.slice A7 n7 c7, .slice A8 n8 c8], Pr.S x1.Inherited (.slice A7 n7 c7), Pr.S x1.Synthesized (.slice A8 n8 c8), Pr.A b3 (ob3 + k1 * 2) [.slice A9 n9 c9, .slice A10 n10 c10], Pr.R x2 [.slice A9 n9 c9, .slice A10 n10 c10], Pr.S x2.Inherited (.slice A9 n9 c9), Pr.S x2.Synthesized (.slice A10 n10 c10)] [It.emp, It.emp, It.B b1 60 [.int .i64 y3.N, .slice A2 n2 c2], It.O 9 s2 (.slice A6 n6 c6)] := H
              refine CW.held (fun w => ∃ o3_ : It, HL F0 [] w0 w [Pr.S a0 (.slice A0' n0' c0'), Pr.S y2 (.slice A1 n1 c1), Pr.S y3.Rows (.slice A2 n2 c2), Pr.S y4 (.slice A3 n3 c3), Pr.S y6 (.slice A4 n4 c4), Pr.A b2 (ob2 + k1 * 2) [.slice A7 n7 c7, .slice A8 n8 c8], Pr.R x1 [.slice A7 n7 c7, .slice A8 n8 c8], Pr.S x1.Inherited (.slice A7 n7 c7), Pr.S x1.Synthesized (.slice A8 n8 c8), Pr.A b3 (ob3 + k1 * 2) [.slice A9 n9 c9, .slice A10 n10 c10], Pr.R x2 [.slice A9 n9 c9, .slice A10 n10 c10], Pr.S x2.Inherited (.slice A9 n9 c9), Pr.S x2.Synthesized (.slice A10 n10 c10)] [It.emp, It.emp, It.B b1 60 [.int .i64 y3.N, .slice A2 n2 c2], o3_]) hmix (fun w12 hE => ?_)
              have H : HL F0 [] w0 w12 [Pr.S a0 (.slice A0' n0' c0'), Pr.S y2 (.slice A1 n1 c1), Pr.S y3.Rows (.slice A2 n2 c2), Pr.S y4 (.slice A3 n3 c3), Pr.S y6 (.slice A4 n4 c4), Pr.A b2 (ob2 + k1 * 2) [.slice A7 n7 c7, .slice A8 n8 c8], Pr.R x1 [.slice A7 n7 c7, .slice A8 n8 c8], Pr.S x1.Inherited (.slice A7 n7 c7), Pr.S x1.Synthesized (.slice A8 n8 c8), Pr.A b3 (ob3 + k1 * 2) [.slice A9 n9 c9, .slice A10 n10 c10], Pr.R x2 [.slice A9 n9 c9, .slice A10 n10 c10], Pr.S x2.Inherited (.slice A9 n9 c9), Pr.S x2.Synthesized (.slice A10 n10 c10)] [It.emp, It.emp, It.B b1 60 [.int .i64 y3.N, .slice A2 n2 c2], It.O 9 s2 (.slice A6 n6 c6)] := H.ext hE
              refine HW.take 0 ⟨_, H.keep 13 4⟩ rfl (by kernel_rfl) rfl rfl (fun _ _ => Ev.mv rfl rfl) ?_
              refine HW.take 1 ⟨_, H.keep 13 4⟩ rfl (by kernel_rfl) rfl rfl (fun _ _ => Ev.mv rfl rfl) ?_
              refine HW.take 2 ⟨_, H.keep 13 4⟩ rfl (by kernel_rfl) rfl rfl (fun _ _ => Ev.mv rfl rfl) ?_
              refine HW.take 3 ⟨_, H.keep 13 4⟩ rfl (by kernel_rfl) rfl rfl (fun _ _ => Ev.ixVN rfl el79 sz85 rfl hvb2 rfl (lt_of hx1)) ?_
              refine HW.take 4 ⟨_, H.keep 13 4⟩ rfl (by kernel_rfl) rfl rfl (fun _ _ => Ev.fa rfl fo85_0 rfl) ?_
              refine HW.take 5 ⟨_, H.keep 13 4⟩ rfl (by kernel_rfl) rfl rfl (fun _ ⟨_, hq⟩ => Ev.ld rfl ag82 rfl ((hq.rA (i := 5) rfl).cell rfl)) ?_
              refine HW.take 7 ⟨_, H.keep 13 4⟩ rfl (by kernel_rfl) rfl rfl (fun _ _ => Ev.mv rfl rfl) ?_
              refine HW.take 8 ⟨_, H.keep 13 4⟩ rfl (by kernel_rfl) rfl rfl (fun _ _ => Ev.mv rfl rfl) ?_
              refine HW.take 9 ⟨_, H.keep 13 4⟩ rfl (by kernel_rfl) rfl rfl (fun _ _ => Ev.ixVN rfl el79 sz85 rfl hvb2 rfl (lt_of hx1)) ?_
              refine HW.take 10 ⟨_, H.keep 13 4⟩ rfl (by kernel_rfl) rfl rfl (fun _ _ => Ev.fa rfl fo85_1 rfl) ?_
              refine HW.take 11 ⟨_, H.keep 13 4⟩ rfl (by kernel_rfl) rfl rfl (fun _ ⟨_, hq⟩ => Ev.ld rfl ag82 rfl ((hq.rA (i := 5) rfl).cell rfl)) ?_
              refine HW.eff 6 rfl (by kernel_rfl) ?_
              obtain ⟨hg1, hb1⟩ := grd_some hb1
              refine WL.appS (i := 3) rfl rfl rfl el82 sz9 by9 ze9 rfl rfl rfl H rfl (H.rS (i := 7) rfl) hg1 fun A11 n11 c11 w13 H => ?_
              refine HW.next ⟨_, H.keep 13 4⟩ ?_
              refine HW.eff 12 rfl (by kernel_rfl) ?_
              obtain ⟨hg2, hb1⟩ := grd_some hb1
              refine WL.appS (i := 3) rfl rfl rfl el82 sz9 by9 ze9 rfl rfl rfl H rfl (H.rS (i := 8) rfl) hg2 fun A12 n12 c12 w14 H => ?_
              refine HW.next ⟨_, H.keep 13 4⟩ ?_
              refine HW.take 13 ⟨_, H.keep 13 4⟩ rfl (by kernel_rfl) rfl rfl (fun _ _ => Ev.as rfl rfl) ?_
              refine HW.done (by kernel_rfl) ?_
              refine CW.reg ?_
              refine WL.ev rfl rfl (Ev.mv rfl rfl) (WL.ev rfl rfl (Ev.bin rfl rfl rfl (Bin.addN (a := k1) (b := 1) rfl (i64_succN hk2 hl3.2))) (WL.ev rfl rfl (Ev.as rfl rfl) (WL.nil ?_)))
              obtain rfl := sm hb1
              have hq1 := hs1 _ rfl
              exact ⟨⟨k1 + 1, ((s2 ++ x1.Inherited) ++ x1.Synthesized), (.slice A12 n12 c12)⟩, ⟨rfl, rfl, rfl, rfl, rfl, rfl, rfl, trivial⟩, ⟨hk2, hq1, H.keep 5 4⟩, Nat.sub_lt_sub_left hk2 (Nat.lt_succ_self _)⟩
        · skip
          obtain rfl := findL_end hq1 (not_cast_lt h4)
          have hr := (onr_inl _ _ _).symm.trans hr
          refine CW.exit ?_
          refine CW.seq (CW.seq (CW.reg ?_))
          refine WL.ev rfl rfl (Ev.as rfl rfl) (WL.nil ?_)
          obtain ⟨q3, hm2, hr⟩ := bd hr
          refine CW.mid (fun ρ' w => q3 = .inl () ∧ agree ρ' [(3, .slice A1 n1 c1), (6, .bool y5), (9, .slice A6 n6 c6)] ∧ HL F0 [] w0 w [Pr.S a0 (.slice A0' n0' c0'), Pr.S y2 (.slice A1 n1 c1), Pr.S y3.Rows (.slice A2 n2 c2), Pr.S y4 (.slice A3 n3 c3), Pr.S y6 (.slice A4 n4 c4)] [It.emp, It.emp, It.B b1 60 [.int .i64 y3.N, .slice A2 n2 c2], It.O 9 s2 (.slice A6 n6 c6)]) ?_ ?_
          · skip
            obtain ⟨m1, hq2⟩ := iterO_some.1 hm2
            refine CW.block (CW.loop (α := Nat × Int) (fun ⟨m1, s3⟩ => [(3, .slice A1 n1 c1), (4, .pointer (some ⟨b1, 0, none⟩)), (6, .bool y5), (9, .slice A6 n6 c6), (11, .int .i64 s3)]) (fun ⟨m1, s3⟩ w => iterN (wFnPhases_L2 y2 y3 y5 s2) m1 s3 = some q3 ∧ I64 s3 ∧ HL F0 [] w0 w [Pr.S a0 (.slice A0' n0' c0'), Pr.S y2 (.slice A1 n1 c1), Pr.S y3.Rows (.slice A2 n2 c2), Pr.S y4 (.slice A3 n3 c3), Pr.S y6 (.slice A4 n4 c4)] [It.emp, It.emp, It.B b1 60 [.int .i64 y3.N, .slice A2 n2 c2], It.O 9 s2 (.slice A6 n6 c6)]) (fun ⟨m1, s3⟩ => m1) ⟨m1, 0⟩ ⟨rfl, rfl, rfl, rfl, rfl, trivial⟩ ⟨hq2, (by decide : I64 0), H.keep 5 4⟩ ?_)
            rintro ⟨m1, s3⟩ σ w15 ⟨hq2, hI2, H⟩
            obtain ⟨m2, z2, rfl, hb2, hs2, ht2⟩ := iterN_go hq2
            refine CW.seq (CW.seq (CW.reg ?_))
            refine WL.ev rfl rfl (Ev.mv rfl rfl) (WL.ev rfl rfl (Ev.mv rfl rfl) ?_)
            have hl4 := (H.rS (i := 1) rfl).I
            refine WL.ev rfl rfl (Ev.lenV rfl el76 rfl (H.rS (i := 1) rfl)) (WL.ev rfl rfl (Ev.bin rfl rfl rfl Bin.lss) ?_)
            refine WL.mvD rfl rfl rfl rfl (fun h7 => ?_) (fun h7 => ?_)
            · skip
              have hb2 := ifp h7 hb2
              refine WL.on rfl rfl (WL.ev rfl rfl (Ev.mv rfl rfl) (WL.ev rfl rfl (Ev.pickT rfl rfl rfl) (WL.nil ?_)))
              refine CW.condB rfl (fun h8 => ?_) (fun h8 => ?_)
              · skip
                have hb2 := ifp h8 hb2
                refine CW.skip ?_
                refine CW.seq (CW.block (CW.seq (CW.reg ?_)))
                refine WL.ev rfl rfl (Ev.as rfl rfl) (WL.nil ?_)
                obtain ⟨q4, hq3, hb2⟩ := bd hb2
                refine CW.block (CW.loop (α := Nat) (fun k2 => [(3, .slice A1 n1 c1), (4, .pointer (some ⟨b1, 0, none⟩)), (6, .bool y5), (9, .slice A6 n6 c6), (11, .int .i64 s3), (12, .int .i64 (k2 : Int)), (93, .bool y5)]) (fun k2 w => k2 ≤ y2.length ∧ findL (wFnPhases_L3 y2 y3 s2 s3) k2 (y2.drop k2) () = some q4 ∧ HL F0 [] w0 w [Pr.S a0 (.slice A0' n0' c0'), Pr.S y2 (.slice A1 n1 c1), Pr.S y3.Rows (.slice A2 n2 c2), Pr.S y4 (.slice A3 n3 c3), Pr.S y6 (.slice A4 n4 c4)] [It.emp, It.emp, It.B b1 60 [.int .i64 y3.N, .slice A2 n2 c2], It.O 9 s2 (.slice A6 n6 c6)]) (fun k2 => y2.length - k2) 0 ⟨rfl, rfl, rfl, rfl, rfl, rfl, rfl, trivial⟩ ⟨Nat.zero_le _, hq3, H.keep 5 4⟩ ?_)
                rintro k2 σ w16 ⟨hk3, hq3, H⟩
                refine CW.seq (CW.seq (CW.reg ?_))
                refine WL.ev rfl rfl (Ev.mv rfl rfl) (WL.ev rfl rfl (Ev.mv rfl rfl) (WL.ev rfl rfl (Ev.lenV rfl el76 rfl (H.rS (i := 1) rfl)) (WL.ev rfl rfl (Ev.bin rfl rfl rfl Bin.lss) (WL.nil ?_))))
                refine CW.condD rfl (fun h9 => ?_) (fun h9 => ?_)
                · skip
                  have hk4 := cast_lt h9
                  obtain ⟨x3, z3, hx3, hb3, hs3, ht3⟩ := findL_go hq3 hk4
                  refine CW.skip ?_
                  refine CW.seq (CW.block (CW.seq (CW.quiet hmix (by kernel_rfl) ?_)))
                  refine QL.ev rfl rfl (fun _ hq => Ev.lda rfl ag60 sz60 rfl (At.blk ((H.ext hq).rB (i := 2) rfl)) rfl) (QL.ev rfl rfl (fun _ _ => Ev.mv rfl rfl) (QL.ev rfl rfl (fun _ _ => Ev.mv rfl rfl) ?_))
                  obtain ⟨y10, hy7, hb3⟩ := bd hb3
                  refine QL.call rfl rfl rfl rfl rfl ok44 rfl (fun _ hq => sHasPair_ok hy7 ⟨_, rfl, hI1, ((H.ext hq).rS (i := 2) rfl)⟩ hI2 (i64_nat hk4 hl4)) ?_
                  refine QL.mvB rfl rfl rfl rfl (fun h10 => ?_) (fun h10 => ?_)
                  · skip
                    have hb3 := ifp h10 hb3
                    refine QL.on rfl rfl (QL.ev rfl rfl (fun _ _ => Ev.mv rfl rfl) (QL.on rfl rfl (QL.ev rfl rfl (fun _ _ => Ev.mv rfl rfl) (QL.on rfl rfl (QL.ev rfl rfl (fun _ _ => Ev.mv rfl rfl) (QL.on rfl rfl ?_))))))
                    obtain ⟨hg3, hb3⟩ := grd_some hb3
                    obtain ⟨x4, hx4, hb3⟩ := bd hb3
                    obtain ⟨b4, ob4, cb4, hvb4, hS1, hI3, hI4, H⟩ := ixS_Attribute H (i := 1) rfl hx4
                    refine QL.ev rfl rfl (fun _ _ => Ev.ixV rfl el76 sz88 rfl hvb4 rfl hg3 (lt_of hx4)) (QL.on rfl rfl (QL.ev rfl rfl (fun _ _ => Ev.fa rfl fo88_0 rfl) (QL.on rfl rfl (QL.ev rfl rfl (fun _ hq => Ev.ld rfl ag9 rfl (((H.ext hq).rA (i := 5) rfl).cell rfl)) (QL.on rfl rfl ?_)))))
                    obtain ⟨y11, hy8, hb3⟩ := bd hb3
                    refine QL.call rfl rfl rfl rfl rfl ok59 rfl (fun _ hq => (sIndexOf_ok hy8 ((H.ext hq).rO (i := 3) rfl) hS1).mono fun _ _ _ h => h.1) ?_
                    obtain ⟨_, _, _, hI5⟩ := (sIndexOf_ok hy8 (H.rO (i := 3) rfl) hS1).get
                    refine QL.on rfl rfl (QL.ev rfl rfl (fun _ _ => Ev.mv rfl rfl) (QL.on rfl rfl (QL.ev rfl rfl (fun _ _ => Ev.mv rfl rfl) (QL.on rfl rfl (QL.ev rfl rfl (fun _ _ => Ev.mv rfl rfl) (QL.on rfl rfl ?_))))))
                    obtain ⟨b5, ob5, cb5, hvb5, hS2, hI6, hI7, H⟩ := ixS_Attribute H (i := 1) rfl hx3
                    refine QL.ev rfl rfl (fun _ _ => Ev.ixVN rfl el76 sz88 rfl hvb5 rfl (lt_of hx3)) (QL.on rfl rfl (QL.ev rfl rfl (fun _ _ => Ev.fa rfl fo88_0 rfl) (QL.on rfl rfl (QL.ev rfl rfl (fun _ hq => Ev.ld rfl ag9 rfl (((H.ext hq).rA (i := 7) rfl).cell rfl)) (QL.on rfl rfl ?_)))))
                    obtain ⟨y12, hy9, hb3⟩ := bd hb3
                    refine QL.call rfl rfl rfl rfl rfl ok59 rfl (fun _ hq => (sIndexOf_ok hy9 ((H.ext hq).rO (i := 3) rfl) hS2).mono fun _ _ _ h => h.1) ?_
                    obtain ⟨_, _, _, hI8⟩ := (sIndexOf_ok hy9 (H.rO (i := 3) rfl) hS2).get
                    refine QL.on rfl rfl (QL.ev rfl rfl (fun _ _ => Ev.bin rfl rfl rfl Bin.geq) (QL.ev rfl rfl (fun _ _ => Ev.pickT rfl rfl rfl) (QL.nil (fun w17 hE => ?_))))
                    have H := H.ext hE
                    refine CW.condD rfl (fun h11 => ?_) (fun h11 => ?_)
                    · skip
                      have hb3 := ifp h11 hb3
                      refine CW.seq ?_
                      refine CW.fresh [] trivial fun σ => ?_
                      have H : HL F0 [] w0 w17 [Pr.S a0 (.slice A0' n0' c0'), Pr.S y2 (.slice A1 n1 c1), Pr.S y3.Rows (.slice A2 n2 c2), Pr.S y4 (.slice A3 n3 c3), Pr.S y6 (.slice A4 n4 c4), Pr.A b4 (ob4 + s3.toNat * 4) [.string x4.Name, .int .i64 x4.Type_, .int .i64 x4.Mode, .bool x4.Circular], Pr.R x4 [.string x4.Name, .int .i64 x4.Type_, .int .i64 x4.Mode, .bool x4.Circular], Pr.A b5 (ob5 + k2 * 4) [.string x3.Name, .int .i64 x3.Type_, .int .i64 x3.Mode, .bool x3.Circular], Pr.R x3 [.string x3.Name, .int .i64 x3.Type_, .int .i64 x3.Mode, .bool x3.Circular]] [It.emp, It.emp, It.B b1 60 [.int .i64 y3.N, .slice A2 n2 c2], It.O 9 s2 (.slice A6 n6 c6)] := H
                      refine CW.reg ?_
                      refine WL.ev rfl rfl (Ev.as rfl rfl) (WL.nil ?_)
                      refine CW.ret ?_
                      obtain rfl := sm hb3
                      obtain rfl := ht3 _ rfl
                      obtain rfl := sm hb2
                      obtain rfl := ht2 _ rfl
                      obtain rfl := sm hr
                      exact ⟨_, res1 rfl rfl rfl, H.ext0, rfl⟩
                    · skip
                      have hb3 := ifn h11 hb3
                      refine CW.skip ?_
                      refine CW.fresh [(3, .slice A1 n1 c1), (4, .pointer (some ⟨b1, 0, none⟩)), (6, .bool y5), (9, .slice A6 n6 c6), (11, .int .i64 s3), (12, .int .i64 (k2 : Int)), (93, .bool y5), (108, .slice A6 n6 c6), (109, .slice A1 n1 c1), (110, .int .i64 s3), (111, .pointer (some ⟨b4, ob4 + s3.toNat * 4, none⟩)), (112, .pointer (some ⟨b4, ob4 + s3.toNat * 4 + 0, none⟩)), (113, .string x4.Name), (114, .int .i64 y11), (115, .slice A6 n6 c6), (116, .slice A1 n1 c1), (117, .int .i64 (k2 : Int)), (118, .pointer (some ⟨b5, ob5 + k2 * 4, none⟩)), (119, .pointer (some ⟨b5, ob5 + k2 * 4 + 0, none⟩)), (120, .string x3.Name), (121, .int .i64 y12), (122, .bool (decide (y12 ≤ y11)))] ⟨rfl, rfl, rfl, rfl, rfl, rfl, rfl, rfl, rfl, rfl, rfl, rfl, rfl, rfl, rfl, rfl, rfl, rfl, rfl, rfl, rfl, rfl, trivial⟩ fun σ => ?_
                      have H : HL F0 [] w0 w17 [Pr.S a0 (.slice A0' n0' c0'), Pr.S y2 (.slice A1 n1 c1), Pr.S y3.Rows (.slice A2 n2 c2), Pr.S y4 (.slice A3 n3 c3), Pr.S y6 (.slice A4 n4 c4), Pr.A b4 (ob4 + s3.toNat * 4) [.string x4.Name, .int .i64 x4.Type_, .int .i64 x4.Mode, .bool x4.Circular], Pr.R x4 [.string x4.Name, .int .i64 x4.Type_, .int .i64 x4.Mode, .bool x4.Circular], Pr.A b5 (ob5 + k2 * 4) [.string x3.Name, .int .i64 x3.Type_, .int .i64 x3.Mode, .bool x3.Circular], Pr.R x3 [.string x3.Name, .int .i64 x3.Type_, .int .i64 x3.Mode, .bool x3.Circular]] [It.emp, It.emp, It.B b1 60 [.int .i64 y3.N, .slice A2 n2 c2], It.O 9 s2 (.slice A6 n6 c6)] := H
                      refine CW.reg ?_
                      refine WL.ev rfl rfl (Ev.mv rfl rfl) (WL.ev rfl rfl (Ev.bin rfl rfl rfl (Bin.addN (a := k2) (b := 1) rfl (i64_succN hk4 hl4.2))) (WL.ev rfl rfl (Ev.as rfl rfl) (WL.nil ?_)))
                      obtain rfl := sm hb3
                      have hq3 := hs3 _ rfl
                      exact ⟨(k2 + 1), ⟨rfl, rfl, rfl, rfl, rfl, rfl, rfl, trivial⟩, ⟨hk4, hq3, H.keep 5 4⟩, Nat.sub_lt_sub_left hk4 (Nat.lt_succ_self _)⟩
                  · skip
                    have hb3 := ifn h10 hb3
                    refine QL.off rfl rfl rfl (QL.off rfl rfl rfl (QL.off rfl rfl rfl (QL.off rfl rfl rfl (QL.off rfl rfl rfl (QL.off rfl rfl rfl (QL.off rfl rfl rfl (QL.off rfl rfl rfl (QL.off rfl rfl rfl (QL.off rfl rfl rfl (QL.off rfl rfl rfl (QL.off rfl rfl rfl (QL.off rfl rfl rfl (QL.off rfl rfl rfl (QL.off rfl rfl rfl (QL.ev rfl rfl (fun _ _ => Ev.pickF rfl rfl rfl) (QL.nil (fun w18 hE => ?_)))))))))))))))))
                    have H := H.ext hE
                    refine CW.condF rfl ?_
                    refine CW.skip ?_
                    refine CW.reg ?_
                    refine WL.ev rfl rfl (Ev.mv rfl rfl) (WL.ev rfl rfl (Ev.bin rfl rfl rfl (Bin.addN (a := k2) (b := 1) rfl (i64_succN hk4 hl4.2))) (WL.ev rfl rfl (Ev.as rfl rfl) (WL.nil ?_)))
                    obtain rfl := sm hb3
                    have hq3 := hs3 _ rfl
                    exact ⟨(k2 + 1), ⟨rfl, rfl, rfl, rfl, rfl, rfl, rfl, trivial⟩, ⟨hk4, hq3, H.keep 5 4⟩, Nat.sub_lt_sub_left hk4 (Nat.lt_succ_self _)⟩
                · skip
                  obtain rfl := findL_end hq3 (not_cast_lt h9)
                  have hb2 := (onr_inl _ _ _).symm.trans hb2
                  refine CW.exit ?_
                  refine CW.reg ?_
                  refine WL.ev rfl rfl (Ev.mv rfl rfl) ?_
                  obtain ⟨hg4, hb2⟩ := grd_some hb2
                  refine WL.ev rfl rfl (Ev.bin rfl rfl rfl (Bin.add hg4)) (WL.ev rfl rfl (Ev.as rfl rfl) (WL.nil ?_))
                  obtain rfl := sm hb2
                  exact ⟨⟨m2, (s3 + 1)⟩, ⟨rfl, rfl, rfl, rfl, rfl, trivial⟩, ⟨hs2 _ rfl, hg4, H.keep 5 4⟩, Nat.lt_succ_self _⟩
              · skip
                have hb2 := ifn h8 hb2
                refine CW.exit ?_
                obtain rfl := sm hb2
                obtain rfl := ht2 _ rfl
                exact ⟨rfl, ⟨rfl, rfl, rfl, trivial⟩, H.keep 5 4⟩
            · skip
              have hb2 := ifn h7 hb2
              refine WL.off rfl rfl rfl (WL.ev rfl rfl (Ev.pickF rfl rfl rfl) (WL.nil ?_))
              refine CW.condF rfl ?_
              refine CW.exit ?_
              obtain rfl := sm hb2
              obtain rfl := ht2 _ rfl
              exact ⟨rfl, ⟨rfl, rfl, rfl, trivial⟩, H.keep 5 4⟩
          · rintro ρ' w19 ⟨rfl, hag, H⟩
            obtain ⟨σ, rfl⟩ := ofL_ex hag
            refine CW.seq (CW.reg ?_)
            refine WL.ev rfl rfl (Ev.mv rfl rfl) (WL.ev rfl rfl (Ev.not rfl rfl) ?_)
            obtain ⟨q5, hm3, hr⟩ := bd hr
            refine WL.cut 11 (fun ρ' w => ∃ (s4 : Bool), s4 = q5 ∧ agree ρ' [(136, .bool s4)] ∧ HL F0 [] w0 w [Pr.S a0 (.slice A0' n0' c0'), Pr.S y2 (.slice A1 n1 c1), Pr.S y3.Rows (.slice A2 n2 c2), Pr.S y4 (.slice A3 n3 c3), Pr.S y6 (.slice A4 n4 c4)] [It.emp, It.emp, It.B b1 60 [.int .i64 y3.N, .slice A2 n2 c2], It.O 9 s2 (.slice A6 n6 c6)]) ?_ ?_
            · skip
              refine WL.mvBN rfl rfl rfl rfl (fun h12 => ?_) (fun h12 => ?_)
              · skip
                have hm3 := ifn h12 hm3
                refine WL.off rfl rfl rfl (WL.off rfl rfl rfl (WL.off rfl rfl rfl (WL.off rfl rfl rfl (WL.off rfl rfl rfl (WL.off rfl rfl rfl (WL.off rfl rfl rfl (WL.off rfl rfl rfl (WL.off rfl rfl rfl (WL.ev rfl rfl (Ev.pickT rfl rfl rfl) (WL.nil ?_))))))))))
                obtain rfl := sm hm3
                exact ⟨true, rfl, ⟨rfl, trivial⟩, H.keep 5 4⟩
              · skip
                have hm3 := ifp h12 hm3
                refine WL.on rfl rfl (WL.ev rfl rfl (Ev.mv rfl rfl) (WL.on rfl rfl ?_))
                have hl5 := (H.rO (i := 3) rfl).I
                refine WL.ev rfl rfl (Ev.lenV rfl el82 rfl (H.rO (i := 3) rfl)) (WL.on rfl rfl (WL.ev rfl rfl (Ev.mv rfl rfl) (WL.on rfl rfl ?_)))
                have hl6 := (H.rS (i := 1) rfl).I
                refine WL.ev rfl rfl (Ev.lenV rfl el76 rfl (H.rS (i := 1) rfl)) (WL.on rfl rfl (WL.ev rfl rfl (Ev.bin rfl rfl rfl Bin.eql) (WL.on rfl rfl ?_)))
                obtain ⟨q6, hm4, hm3⟩ := bd hm3
                refine WL.cut 4 (fun ρ' w => ∃ (s5 : Bool), s5 = q6 ∧ agree ρ' [(126, .bool false), (135, .bool s5)] ∧ HL F0 [] w0 w [Pr.S a0 (.slice A0' n0' c0'), Pr.S y2 (.slice A1 n1 c1), Pr.S y3.Rows (.slice A2 n2 c2), Pr.S y4 (.slice A3 n3 c3), Pr.S y6 (.slice A4 n4 c4)] [It.emp, It.emp, It.B b1 60 [.int .i64 y3.N, .slice A2 n2 c2], It.O 9 s2 (.slice A6 n6 c6)]) ?_ ?_
                · skip
                  refine WL.on rfl rfl ?_
                  refine WL.mvD rfl rfl rfl rfl (fun h13 => ?_) (fun h13 => ?_)
                  · skip
                    have hm4 := ifp h13 hm4
                    refine WL.on rfl rfl (WL.ev rfl rfl (Ev.mv rfl rfl) (WL.on rfl rfl ?_))
                    obtain ⟨y13, hy10, hm4⟩ := bd hm4
                    refine WL.call rfl rfl rfl rfl rfl ok60 rfl (sAllDistinct_ok hy10 (H.rO (i := 3) rfl)) ?_
                    rintro _ w20 hE rfl
                    have H := H.ext hE
                    refine WL.on rfl rfl (WL.ev rfl rfl (Ev.pickT rfl rfl rfl) (WL.nil ?_))
                    obtain rfl := sm hm4
                    exact ⟨y13, rfl, ⟨rfl, rfl, trivial⟩, H.keep 5 4⟩
                  · skip
                    have hm4 := ifn h13 hm4
                    refine WL.off rfl rfl rfl (WL.off rfl rfl rfl (WL.on rfl rfl (WL.ev rfl rfl (Ev.pickF rfl rfl rfl) (WL.nil ?_))))
                    obtain rfl := sm hm4
                    exact ⟨false, rfl, ⟨rfl, rfl, trivial⟩, H.keep 5 4⟩
                · rintro ρ' w21 ⟨s5, rfl, hag, H⟩
                  obtain ⟨σ, rfl⟩ := ofL_ex hag
                  refine WL.ev rfl rfl (Ev.pickF rfl rfl rfl) (WL.nil ?_)
                  obtain rfl := sm hm3
                  exact ⟨s5, rfl, ⟨rfl, trivial⟩, H.keep 5 4⟩
            · rintro ρ' w22 ⟨s4, rfl, hag, H⟩
              obtain ⟨σ, rfl⟩ := ofL_ex hag
              refine WL.ev rfl rfl (Ev.as rfl rfl) (WL.nil ?_)
              refine CW.ret ?_
              obtain rfl := sm hr
              exact ⟨_, res1 rfl rfl rfl, H.ext0, rfl⟩

end Go.Proofs.Ytonnooljidombaa

