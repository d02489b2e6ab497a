/- What some functions of the program compute, as partial functions on plain data, and that they do; each lemma bears its conditions in its statement. -/
import Derived.Test.YtonnooljidombaaLiftA
set_option linter.unusedVariables false
set_option linter.unusedSimpArgs false
set_option linter.ambiguousOpen false
set_option linter.unusedSectionVars false
set_option linter.unnecessarySimpa false
set_option linter.unusedVariables false
set_option linter.unusedSimpArgs false
set_option maxRecDepth 100000
set_option maxHeartbeats 4000000
namespace Go.Proofs.Ytonnooljidombaa
open Go Go.E
open Go.E.Rep (rd)
open Go.E.Sep (own)
open Go.E.Sz (szd)
theorem sOperandTypes_ok {a0 : Int} {r : (Int × Int × Int)} (hr : sOperandTypes_m a0 = some r) {F0 : Nat → Prop} {w0 : World} (ha0 : I64 a0) :
    Ret Try.prog 177 #[.int .i64 a0] w0 (fun _ => False) fun v w => v = .tuple #[.int .i64 r.1, .int .i64 r.2.1, .int .i64 r.2.2] ∧ I64 r.1 ∧ I64 r.2.1 ∧ I64 r.2.2 := by
  have H := HL.start F0 w0
  refine enter Try.func177 rfl rfl rfl ?_
  refine CW.seq (CW.reg ?_)
  refine WL.ev rfl rfl (Ev.as rfl rfl) (WL.ev rfl rfl (Ev.as rfl rfl) (WL.ev rfl rfl (Ev.as rfl rfl) (WL.nil ?_)))
  refine CW.seq (CW.block (CW.seq (CW.reg ?_)))
  refine WL.ev rfl rfl (Ev.mv rfl rfl) ?_
  obtain ⟨y1, hy1, hr⟩ := bd hr
  refine WL.call rfl rfl rfl rfl rfl ok112 rfl (sl1In_ok hy1 (F0 := fun _ => False) ha0 (by decide : I64 1) (by decide : I64 5)) ?_
  rintro _ w1 hE rfl
  have H := H.ext hE
  refine WL.ev rfl rfl (Ev.as rfl rfl) (WL.nil ?_)
  refine CW.condB rfl (fun h1 => ?_) (fun h1 => ?_)
  · skip
    have hr := ifp h1 hr
    refine CW.seq (CW.reg ?_)
    refine WL.ev rfl rfl (Ev.as rfl rfl) (WL.ev rfl rfl (Ev.as rfl rfl) (WL.ev rfl rfl (Ev.as rfl rfl) (WL.nil ?_)))
    refine CW.ret ?_
    obtain rfl := sm hr
    exact ⟨_, res_ttt rfl rfl rfl rfl rfl rfl rfl, H.ext0, rfl, (by decide : I64 1), (by decide : I64 1), (by decide : I64 1)⟩
  · skip
    have hr := ifn h1 hr
    refine CW.seq (CW.reg ?_)
    refine WL.ev rfl rfl (Ev.mv rfl rfl) ?_
    obtain ⟨y2, hy2, hr⟩ := bd hr
    refine WL.call rfl rfl rfl rfl rfl ok112 rfl (sl1In_ok hy2 (F0 := fun _ => False) ha0 (by decide : I64 6) (by decide : I64 8)) ?_
    rintro _ w2 hE rfl
    have H := H.ext hE
    refine WL.ev rfl rfl (Ev.as rfl rfl) (WL.nil ?_)
    refine CW.condB rfl (fun h2 => ?_) (fun h2 => ?_)
    · skip
      have hr := ifp h2 hr
      refine CW.seq (CW.reg ?_)
      refine WL.ev rfl rfl (Ev.as rfl rfl) (WL.ev rfl rfl (Ev.as rfl rfl) (WL.ev rfl rfl (Ev.as rfl rfl) (WL.nil ?_)))
      refine CW.ret ?_
      obtain rfl := sm hr
      exact ⟨_, res_ttt rfl rfl rfl rfl rfl rfl rfl, H.ext0, rfl, (by decide : I64 2), (by decide : I64 2), (by decide : I64 2)⟩
    · skip
      have hr := ifn h2 hr
      refine CW.seq (CW.reg ?_)
      refine WL.ev rfl rfl (Ev.mv rfl rfl) (WL.ev rfl rfl (Ev.bin rfl rfl rfl Bin.eql) ?_)
      refine WL.mvD rfl rfl rfl rfl (fun h3 => ?_) (fun h3 => ?_)
      · skip
        have hr := ifp h3 hr
        refine WL.off rfl rfl rfl (WL.off rfl rfl rfl (WL.ev rfl rfl (Ev.pickT rfl rfl rfl) (WL.ev rfl rfl (Ev.as rfl rfl) (WL.nil ?_))))
        refine CW.condT rfl ?_
        refine CW.seq (CW.reg ?_)
        refine WL.ev rfl rfl (Ev.as rfl rfl) (WL.ev rfl rfl (Ev.as rfl rfl) (WL.ev rfl rfl (Ev.as rfl rfl) (WL.nil ?_)))
        refine CW.ret ?_
        obtain rfl := sm hr
        exact ⟨_, res_ttt rfl rfl rfl rfl rfl rfl rfl, H.ext0, rfl, (by decide : I64 1), (by decide : I64 1), (by decide : I64 3)⟩
      · skip
        have hr := ifn h3 hr
        refine WL.on rfl rfl (WL.ev rfl rfl (Ev.mv rfl rfl) (WL.on rfl rfl (WL.ev rfl rfl (Ev.bin rfl rfl rfl Bin.eql) (WL.ev rfl rfl (Ev.pickF rfl rfl rfl) (WL.ev rfl rfl (Ev.as rfl rfl) (WL.nil ?_))))))
        refine CW.condD rfl (fun h4 => ?_) (fun h4 => ?_)
        · skip
          have hr := ifp h4 hr
          refine CW.seq (CW.reg ?_)
          refine WL.ev rfl rfl (Ev.as rfl rfl) (WL.ev rfl rfl (Ev.as rfl rfl) (WL.ev rfl rfl (Ev.as rfl rfl) (WL.nil ?_)))
          refine CW.ret ?_
          obtain rfl := sm hr
          exact ⟨_, res_ttt rfl rfl rfl rfl rfl rfl rfl, H.ext0, rfl, (by decide : I64 1), (by decide : I64 1), (by decide : I64 3)⟩
        · skip
          have hr := ifn h4 hr
          refine CW.seq (CW.reg ?_)
          refine WL.ev rfl rfl (Ev.mv rfl rfl) (WL.ev rfl rfl (Ev.bin rfl rfl rfl Bin.eql) (WL.ev rfl rfl (Ev.as rfl rfl) (WL.nil ?_)))
          refine CW.condD rfl (fun h5 => ?_) (fun h5 => ?_)
          · skip
            have hr := ifp h5 hr
            refine CW.seq (CW.reg ?_)
            refine WL.ev rfl rfl (Ev.as rfl rfl) (WL.ev rfl rfl (Ev.as rfl rfl) (WL.ev rfl rfl (Ev.as rfl rfl) (WL.nil ?_)))
            refine CW.ret ?_
            obtain rfl := sm hr
            exact ⟨_, res_ttt rfl rfl rfl rfl rfl rfl rfl, H.ext0, rfl, (by decide : I64 2), (by decide : I64 1), (by decide : I64 3)⟩
          · skip
            have hr := ifn h5 hr
            refine CW.seq (CW.reg ?_)
            refine WL.ev rfl rfl (Ev.mv rfl rfl) (WL.ev rfl rfl (Ev.bin rfl rfl rfl Bin.eql) (WL.ev rfl rfl (Ev.as rfl rfl) (WL.nil ?_)))
            refine CW.condD rfl (fun h6 => ?_) (fun h6 => ?_)
            · skip
              have hr := ifp h6 hr
              refine CW.seq ?_
              refine CW.fresh [] trivial fun σ => ?_
              have H : HL F0 [] w0 w2 [] [] := H
              refine CW.reg ?_
              refine WL.ev rfl rfl (Ev.as rfl rfl) (WL.ev rfl rfl (Ev.as rfl rfl) (WL.ev rfl rfl (Ev.as rfl rfl) (WL.nil ?_)))
              refine CW.ret ?_
              obtain rfl := sm hr
              exact ⟨_, res_ttt rfl rfl rfl rfl rfl rfl rfl, H.ext0, rfl, (by decide : I64 2), (by decide : I64 1), (by decide : I64 2)⟩
            · skip
              have hr := ifn h6 hr
              refine CW.skip ?_
              refine CW.seq ?_
              refine CW.fresh [] trivial fun σ => ?_
              have H : HL F0 [] w0 w2 [] [] := H
              refine CW.reg ?_
              refine WL.ev rfl rfl (Ev.as rfl rfl) (WL.ev rfl rfl (Ev.as rfl rfl) (WL.ev rfl rfl (Ev.as rfl rfl) (WL.nil ?_)))
              refine CW.ret ?_
              obtain rfl := sm hr
              exact ⟨_, res_ttt rfl rfl rfl rfl rfl rfl rfl, H.ext0, rfl, (by decide : I64 0), (by decide : I64 0), (by decide : I64 0)⟩

noncomputable def sApplyOp_m (a0 : Int) (a1 : Int) (a2 : Int) : Option Int :=
  (sOperandTypes_m a0).bind fun (y1, y2, y3) =>
  (sCoerce_m a1 y1).bind fun y4 =>
  (sCoerce_m a2 y2).bind fun y5 =>
  if a0 = 1 then (
  grd (I64 (y4 + y5)) <|
  (sSaturate_m (y4 + y5)).bind fun y6 =>
  some y6
  ) else (
  if a0 = 2 then (
  grd (I64 (y4 - y5)) <|
  (sSaturate_m (y4 - y5)).bind fun y7 =>
  some y7
  ) else (
  if a0 = 3 then (
  grd (I64 (y4 * y5)) <|
  (sSaturate_m (y4 * y5)).bind fun y8 =>
  some y8
  ) else (
  if a0 = 4 then (
  (sl1Max_m y4 y5).bind fun y9 =>
  some y9
  ) else (
  if a0 = 5 then (
  (sl1Min_m y4 y5).bind fun y10 =>
  some y10
  ) else (
  if a0 = 6 then (
  grd (0 ≤ y4 ∧ 0 ≤ y5) <|
  some ((y4.toNat ||| y5.toNat : Nat) : Int)
  ) else (
  if a0 = 7 then (
  grd (0 ≤ y4 ∧ 0 ≤ y5) <|
  some ((y4.toNat &&& y5.toNat : Nat) : Int)
  ) else (
  if a0 = 8 then (
  some (goAndNot y4 y5)
  ) else (
  if a0 = 9 then (
  (sl3Truth_m (decide (y4 < y5))).bind fun y11 =>
  some y11
  ) else (
  if a0 = 10 then (
  (sl3Truth_m (decide (y4 = y5))).bind fun y12 =>
  some y12
  ) else (
  if a0 = 11 then (
  (sl1In_m y5 0 11).bind fun y13 =>
  if y13 = true then (
  (sl1Max_m y5 0).bind fun y14 =>
  grd (0 ≤ y14) <|
  grd (0 ≤ y4 ∧ 0 ≤ y14 ∧ y14 < 64) <|
  grd (0 ≤ ((y4.toNat >>> y14.toNat : Nat) : Int) ∧ 0 ≤ (1 : Int)) <|
  (sl3Truth_m (decide (((((y4.toNat >>> y14.toNat : Nat) : Int).toNat &&& (1 : Int).toNat : Nat) : Int) = 1))).bind fun y15 =>
  some y15
  ) else (
  (sl3Truth_m false).bind fun y16 =>
  some y16
  )
  ) else (
  if a0 = 12 then (
  (sl1In_m y5 0 11).bind fun y17 =>
  if y17 = true then (
  grd (0 ≤ y5) <|
  grd (0 ≤ y5 ∧ y5 < 63) <|
  grd (0 ≤ y4 ∧ 0 ≤ ((2 ^ y5.toNat : Nat) : Int)) <|
  some ((y4.toNat ||| ((2 ^ y5.toNat : Nat) : Int).toNat : Nat) : Int)
  ) else (
  some y4
  )
  ) else (
  some 0
  )
  )
  )
  )
  )
  )
  )
  )
  )
  )
  )
  )
theorem sApplyOp_ok {a0 : Int} {a1 : Int} {a2 : Int} {r : Int} (hr : sApplyOp_m a0 a1 a2 = some r) {F0 : Nat → Prop} {w0 : World} (ha0 : I64 a0) (ha1 : I64 a1) (ha2 : I64 a2) :
    Ret Try.prog 152 #[.int .i64 a0, .int .i64 a1, .int .i64 a2] w0 (fun _ => False) fun v w => v = .int .i64 r ∧ I64 r := by
  have H := HL.start F0 w0
  refine enter Try.func152 rfl rfl rfl ?_
  refine CW.seq (CW.reg ?_)
  refine WL.ev rfl rfl (Ev.as rfl rfl) (WL.nil ?_)
  refine CW.seq (CW.reg ?_)
  refine WL.ev rfl rfl (Ev.mv rfl rfl) ?_
  obtain ⟨⟨y1, y2, y3⟩, hy1, hr⟩ := bd hr
  refine WL.call rfl rfl rfl rfl rfl ok177 rfl (sOperandTypes_ok hy1 (F0 := fun _ => False) ha0) ?_
  rintro _ w1 hE ⟨rfl, hI1, hI2, hI3⟩
  have H := H.ext hE
  refine WL.ev rfl rfl (Ev.mv rfl rfl) (WL.ev rfl rfl (Ev.ex rfl rfl rfl) (WL.ev rfl rfl (Ev.ex rfl rfl rfl) (WL.ev rfl rfl (Ev.ex rfl rfl rfl) (WL.ev rfl rfl (Ev.as rfl rfl) (WL.ev rfl rfl (Ev.as rfl rfl) (WL.ev rfl rfl (Ev.as rfl rfl) (WL.nil ?_)))))))
  refine CW.seq (CW.reg ?_)
  refine WL.ev rfl rfl (Ev.mv rfl rfl) (WL.ev rfl rfl (Ev.mv rfl rfl) ?_)
  obtain ⟨y4, hy2, hr⟩ := bd hr
  refine WL.call rfl rfl rfl rfl rfl ok178 rfl (sCoerce_ok hy2 (F0 := fun _ => False) ha1 hI1) ?_
  rintro _ w2 hE ⟨rfl, hI4⟩
  have H := H.ext hE
  refine WL.ev rfl rfl (Ev.as rfl rfl) (WL.nil ?_)
  refine CW.seq (CW.reg ?_)
  refine WL.ev rfl rfl (Ev.mv rfl rfl) (WL.ev rfl rfl (Ev.mv rfl rfl) ?_)
  obtain ⟨y5, hy3, hr⟩ := bd hr
  refine WL.call rfl rfl rfl rfl rfl ok178 rfl (sCoerce_ok hy3 (F0 := fun _ => False) ha2 hI2) ?_
  rintro _ w3 hE ⟨rfl, hI5⟩
  have H := H.ext hE
  refine WL.ev rfl rfl (Ev.as rfl rfl) (WL.nil ?_)
  refine CW.seq (CW.seq (CW.reg ?_))
  refine WL.ev rfl rfl (Ev.mv rfl rfl) (WL.nil ?_)
  refine CW.block (CW.seq (CW.reg ?_))
  refine WL.ev rfl rfl (Ev.bin rfl rfl rfl Bin.eql) (WL.ev rfl rfl (Ev.as rfl rfl) (WL.nil ?_))
  refine CW.condD rfl (fun h1 => ?_) (fun h1 => ?_)
  · skip
    have hr := ifp h1 hr
    refine CW.seq ?_
    refine CW.fresh [(1, .int .i64 y4), (2, .int .i64 y5)] ⟨rfl, rfl, trivial⟩ fun σ => ?_
    have H : HL F0 [] w0 w3 [] [] := H
    refine CW.reg ?_
    refine WL.ev rfl rfl (Ev.mv rfl rfl) (WL.ev rfl rfl (Ev.mv rfl rfl) ?_)
    obtain ⟨hg1, hr⟩ := grd_some hr
    refine WL.ev rfl rfl (Ev.bin rfl rfl rfl (Bin.add hg1)) ?_
    obtain ⟨y6, hy4, hr⟩ := bd hr
    refine WL.call rfl rfl rfl rfl rfl ok179 rfl (sSaturate_ok hy4 (F0 := fun _ => False) hg1) ?_
    rintro _ w4 hE ⟨rfl, hI6⟩
    have H := H.ext hE
    refine WL.ev rfl rfl (Ev.as rfl rfl) (WL.nil ?_)
    refine CW.ret ?_
    obtain rfl := sm hr
    exact ⟨_, res1 rfl rfl rfl, H.ext0, rfl, hI6⟩
  · skip
    have hr := ifn h1 hr
    refine CW.seq ?_
    refine CW.fresh [(1, .int .i64 y4), (2, .int .i64 y5), (22, .int .i64 a0)] ⟨rfl, rfl, rfl, trivial⟩ fun σ => ?_
    have H : HL F0 [] w0 w3 [] [] := H
    refine CW.reg ?_
    refine WL.ev rfl rfl (Ev.bin rfl rfl rfl Bin.eql) (WL.ev rfl rfl (Ev.as rfl rfl) (WL.nil ?_))
    refine CW.condD rfl (fun h2 => ?_) (fun h2 => ?_)
    · skip
      have hr := ifp h2 hr
      refine CW.seq (CW.reg ?_)
      refine WL.ev rfl rfl (Ev.mv rfl rfl) (WL.ev rfl rfl (Ev.mv rfl rfl) ?_)
      obtain ⟨hg2, hr⟩ := grd_some hr
      refine WL.ev rfl rfl (Ev.bin rfl rfl rfl (Bin.sub hg2)) ?_
      obtain ⟨y7, hy5, hr⟩ := bd hr
      refine WL.call rfl rfl rfl rfl rfl ok179 rfl (sSaturate_ok hy5 (F0 := fun _ => False) hg2) ?_
      rintro _ w5 hE ⟨rfl, hI7⟩
      have H := H.ext hE
      refine WL.ev rfl rfl (Ev.as rfl rfl) (WL.nil ?_)
      refine CW.ret ?_
      obtain rfl := sm hr
      exact ⟨_, res1 rfl rfl rfl, H.ext0, rfl, hI7⟩
    · skip
      have hr := ifn h2 hr
      refine CW.seq (CW.reg ?_)
      refine WL.ev rfl rfl (Ev.bin rfl rfl rfl Bin.eql) (WL.ev rfl rfl (Ev.as rfl rfl) (WL.nil ?_))
      refine CW.condD rfl (fun h3 => ?_) (fun h3 => ?_)
      · skip
        have hr := ifp h3 hr
        refine CW.seq (CW.reg ?_)
        refine WL.ev rfl rfl (Ev.mv rfl rfl) (WL.ev rfl rfl (Ev.mv rfl rfl) ?_)
        obtain ⟨hg3, hr⟩ := grd_some hr
        refine WL.ev rfl rfl (Ev.bin rfl rfl rfl (Bin.mul hg3)) ?_
        obtain ⟨y8, hy6, hr⟩ := bd hr
        refine WL.call rfl rfl rfl rfl rfl ok179 rfl (sSaturate_ok hy6 (F0 := fun _ => False) hg3) ?_
        rintro _ w6 hE ⟨rfl, hI8⟩
        have H := H.ext hE
        refine WL.ev rfl rfl (Ev.as rfl rfl) (WL.nil ?_)
        refine CW.ret ?_
        obtain rfl := sm hr
        exact ⟨_, res1 rfl rfl rfl, H.ext0, rfl, hI8⟩
      · skip
        have hr := ifn h3 hr
        refine CW.seq (CW.reg ?_)
        refine WL.ev rfl rfl (Ev.bin rfl rfl rfl Bin.eql) (WL.ev rfl rfl (Ev.as rfl rfl) (WL.nil ?_))
        refine CW.condD rfl (fun h4 => ?_) (fun h4 => ?_)
        · skip
          have hr := ifp h4 hr
          refine CW.seq (CW.reg ?_)
          refine WL.ev rfl rfl (Ev.mv rfl rfl) (WL.ev rfl rfl (Ev.mv rfl rfl) ?_)
          obtain ⟨y9, hy7, hr⟩ := bd hr
          refine WL.call rfl rfl rfl rfl rfl ok119 rfl (sl1Max_ok hy7 (F0 := fun _ => False) hI4 hI5) ?_
          rintro _ w7 hE ⟨rfl, hI9⟩
          have H := H.ext hE
          refine WL.ev rfl rfl (Ev.as rfl rfl) (WL.nil ?_)
          refine CW.ret ?_
          obtain rfl := sm hr
          exact ⟨_, res1 rfl rfl rfl, H.ext0, rfl, hI9⟩
        · skip
          have hr := ifn h4 hr
          refine CW.seq (CW.reg ?_)
          refine WL.ev rfl rfl (Ev.bin rfl rfl rfl Bin.eql) (WL.ev rfl rfl (Ev.as rfl rfl) (WL.nil ?_))
          refine CW.condD rfl (fun h5 => ?_) (fun h5 => ?_)
          · skip
            have hr := ifp h5 hr
            refine CW.seq (CW.reg ?_)
            refine WL.ev rfl rfl (Ev.mv rfl rfl) (WL.ev rfl rfl (Ev.mv rfl rfl) ?_)
            obtain ⟨y10, hy8, hr⟩ := bd hr
            refine WL.call rfl rfl rfl rfl rfl ok118 rfl (sl1Min_ok hy8 (F0 := fun _ => False) hI4 hI5) ?_
            rintro _ w8 hE ⟨rfl, hI10⟩
            have H := H.ext hE
            refine WL.ev rfl rfl (Ev.as rfl rfl) (WL.nil ?_)
            refine CW.ret ?_
            obtain rfl := sm hr
            exact ⟨_, res1 rfl rfl rfl, H.ext0, rfl, hI10⟩
          · skip
            have hr := ifn h5 hr
            refine CW.seq (CW.reg ?_)
            refine WL.ev rfl rfl (Ev.bin rfl rfl rfl Bin.eql) (WL.ev rfl rfl (Ev.as rfl rfl) (WL.nil ?_))
            refine CW.condD rfl (fun h6 => ?_) (fun h6 => ?_)
            · skip
              have hr := ifp h6 hr
              refine CW.seq (CW.reg ?_)
              refine WL.ev rfl rfl (Ev.mv rfl rfl) (WL.ev rfl rfl (Ev.mv rfl rfl) ?_)
              obtain ⟨hg4, hr⟩ := grd_some hr
              refine WL.ev rfl rfl (Ev.bin rfl rfl rfl (Bin.orI hg4.1 hI4.2 hg4.2 hI5.2)) (WL.ev rfl rfl (Ev.as rfl rfl) (WL.nil ?_))
              refine CW.ret ?_
              obtain rfl := sm hr
              exact ⟨_, res1 rfl rfl rfl, H.ext0, rfl, (i64_or hg4 hI4 hI5)⟩
            · skip
              have hr := ifn h6 hr
              refine CW.seq (CW.reg ?_)
              refine WL.ev rfl rfl (Ev.bin rfl rfl rfl Bin.eql) (WL.ev rfl rfl (Ev.as rfl rfl) (WL.nil ?_))
              refine CW.condD rfl (fun h7 => ?_) (fun h7 => ?_)
              · skip
                have hr := ifp h7 hr
                refine CW.seq (CW.reg ?_)
                refine WL.ev rfl rfl (Ev.mv rfl rfl) (WL.ev rfl rfl (Ev.mv rfl rfl) ?_)
                obtain ⟨hg5, hr⟩ := grd_some hr
                refine WL.ev rfl rfl (Ev.bin rfl rfl rfl (Bin.andI hg5.1 hI4.2 hg5.2 hI5.2)) (WL.ev rfl rfl (Ev.as rfl rfl) (WL.nil ?_))
                refine CW.ret ?_
                obtain rfl := sm hr
                exact ⟨_, res1 rfl rfl rfl, H.ext0, rfl, (i64_and hg5 hI4 hI5)⟩
              · skip
                have hr := ifn h7 hr
                refine CW.seq (CW.reg ?_)
                refine WL.ev rfl rfl (Ev.bin rfl rfl rfl Bin.eql) (WL.ev rfl rfl (Ev.as rfl rfl) (WL.nil ?_))
                refine CW.condD rfl (fun h8 => ?_) (fun h8 => ?_)
                · skip
                  have hr := ifp h8 hr
                  refine CW.seq (CW.reg ?_)
                  refine WL.ev rfl rfl (Ev.mv rfl rfl) (WL.ev rfl rfl (Ev.mv rfl rfl) (WL.ev rfl rfl (Ev.bin rfl rfl rfl Bin.andNotT) (WL.ev rfl rfl (Ev.as rfl rfl) (WL.nil ?_))))
                  refine CW.ret ?_
                  obtain rfl := sm hr
                  exact ⟨_, res1 rfl rfl rfl, H.ext0, rfl, (i64_wrap _)⟩
                · skip
                  have hr := ifn h8 hr
                  refine CW.seq (CW.reg ?_)
                  refine WL.ev rfl rfl (Ev.bin rfl rfl rfl Bin.eql) (WL.ev rfl rfl (Ev.as rfl rfl) (WL.nil ?_))
                  refine CW.condD rfl (fun h9 => ?_) (fun h9 => ?_)
                  · skip
                    have hr := ifp h9 hr
                    refine CW.seq (CW.reg ?_)
                    refine WL.ev rfl rfl (Ev.mv rfl rfl) (WL.ev rfl rfl (Ev.mv rfl rfl) (WL.ev rfl rfl (Ev.bin rfl rfl rfl Bin.lss) ?_))
                    obtain ⟨y11, hy9, hr⟩ := bd hr
                    refine WL.call rfl rfl rfl rfl rfl ok180 rfl (sl3Truth_ok hy9 (F0 := fun _ => False)) ?_
                    rintro _ w9 hE ⟨rfl, hI11⟩
                    have H := H.ext hE
                    refine WL.ev rfl rfl (Ev.as rfl rfl) (WL.nil ?_)
                    refine CW.ret ?_
                    obtain rfl := sm hr
                    exact ⟨_, res1 rfl rfl rfl, H.ext0, rfl, hI11⟩
                  · skip
                    have hr := ifn h9 hr
                    refine CW.seq (CW.reg ?_)
                    refine WL.ev rfl rfl (Ev.bin rfl rfl rfl Bin.eql) (WL.ev rfl rfl (Ev.as rfl rfl) (WL.nil ?_))
                    refine CW.condD rfl (fun h10 => ?_) (fun h10 => ?_)
                    · skip
                      have hr := ifp h10 hr
                      refine CW.seq (CW.reg ?_)
                      refine WL.ev rfl rfl (Ev.mv rfl rfl) (WL.ev rfl rfl (Ev.mv rfl rfl) (WL.ev rfl rfl (Ev.bin rfl rfl rfl Bin.eql) ?_))
                      obtain ⟨y12, hy10, hr⟩ := bd hr
                      refine WL.call rfl rfl rfl rfl rfl ok180 rfl (sl3Truth_ok hy10 (F0 := fun _ => False)) ?_
                      rintro _ w10 hE ⟨rfl, hI12⟩
                      have H := H.ext hE
                      refine WL.ev rfl rfl (Ev.as rfl rfl) (WL.nil ?_)
                      refine CW.ret ?_
                      obtain rfl := sm hr
                      exact ⟨_, res1 rfl rfl rfl, H.ext0, rfl, hI12⟩
                    · skip
                      have hr := ifn h10 hr
                      refine CW.seq (CW.reg ?_)
                      refine WL.ev rfl rfl (Ev.bin rfl rfl rfl Bin.eql) (WL.ev rfl rfl (Ev.as rfl rfl) (WL.nil ?_))
                      refine CW.condD rfl (fun h11 => ?_) (fun h11 => ?_)
                      · skip
                        have hr := ifp h11 hr
                        refine CW.seq (CW.reg ?_)
                        refine WL.ev rfl rfl (Ev.mv rfl rfl) ?_
                        obtain ⟨y13, hy11, hr⟩ := bd hr
                        refine WL.call rfl rfl rfl rfl rfl ok112 rfl (sl1In_ok hy11 (F0 := fun _ => False) hI5 (by decide : I64 0) (by decide : I64 11)) ?_
                        rintro _ w11 hE rfl
                        have H := H.ext hE
                        refine WL.mvB rfl rfl rfl rfl (fun h12 => ?_) (fun h12 => ?_)
                        · skip
                          have hr := ifp h12 hr
                          refine WL.on rfl rfl (WL.ev rfl rfl (Ev.mv rfl rfl) (WL.on rfl rfl (WL.ev rfl rfl (Ev.mv rfl rfl) (WL.on rfl rfl ?_))))
                          obtain ⟨y14, hy12, hr⟩ := bd hr
                          refine WL.call rfl rfl rfl rfl rfl ok119 rfl (sl1Max_ok hy12 (F0 := fun _ => False) hI5 (by decide : I64 0)) ?_
                          rintro _ w12 hE ⟨rfl, hI13⟩
                          have H := H.ext hE
                          refine WL.on rfl rfl ?_
                          obtain ⟨hg6, hr⟩ := grd_some hr
                          refine WL.ev rfl rfl (Ev.convUI rfl Try.underlying3 it130 rfl hg6 hI13.2) (WL.on rfl rfl ?_)
                          obtain ⟨hg7, hr⟩ := grd_some hr
                          refine WL.ev rfl rfl (Ev.bin rfl rfl rfl (Bin.shrI hg7.1 hg7.2.1 hg7.2.2)) (WL.on rfl rfl ?_)
                          obtain ⟨hg8, hr⟩ := grd_some hr
                          refine WL.ev rfl rfl (Ev.bin rfl rfl rfl (Bin.andI hg8.1 (i64_shr hI4).2 hg8.2 (by decide : I64 1).2)) (WL.on rfl rfl (WL.ev rfl rfl (Ev.bin rfl rfl rfl Bin.eql) (WL.ev rfl rfl (Ev.pickT rfl rfl rfl) ?_)))
                          obtain ⟨y15, hy13, hr⟩ := bd hr
                          refine WL.call rfl rfl rfl rfl rfl ok180 rfl (sl3Truth_ok hy13 (F0 := fun _ => False)) ?_
                          rintro _ w13 hE ⟨rfl, hI14⟩
                          have H := H.ext hE
                          refine WL.ev rfl rfl (Ev.as rfl rfl) (WL.nil ?_)
                          refine CW.ret ?_
                          obtain rfl := sm hr
                          exact ⟨_, res1 rfl rfl rfl, H.ext0, rfl, hI14⟩
                        · skip
                          have hr := ifn h12 hr
                          refine WL.off rfl rfl rfl (WL.off rfl rfl rfl (WL.off rfl rfl rfl (WL.off rfl rfl rfl (WL.off rfl rfl rfl (WL.off rfl rfl rfl (WL.off rfl rfl rfl (WL.ev rfl rfl (Ev.pickF rfl rfl rfl) ?_)))))))
                          obtain ⟨y16, hy14, hr⟩ := bd hr
                          refine WL.call rfl rfl rfl rfl rfl ok180 rfl (sl3Truth_ok hy14 (F0 := fun _ => False)) ?_
                          rintro _ w14 hE ⟨rfl, hI15⟩
                          have H := H.ext hE
                          refine WL.ev rfl rfl (Ev.as rfl rfl) (WL.nil ?_)
                          refine CW.ret ?_
                          obtain rfl := sm hr
                          exact ⟨_, res1 rfl rfl rfl, H.ext0, rfl, hI15⟩
                      · skip
                        have hr := ifn h11 hr
                        refine CW.seq (CW.reg ?_)
                        refine WL.ev rfl rfl (Ev.bin rfl rfl rfl Bin.eql) (WL.ev rfl rfl (Ev.as rfl rfl) (WL.nil ?_))
                        refine CW.condD rfl (fun h13 => ?_) (fun h13 => ?_)
                        · skip
                          have hr := ifp h13 hr
                          refine CW.seq (CW.seq ?_)
                          refine CW.fresh [(1, .int .i64 y4), (2, .int .i64 y5)] ⟨rfl, rfl, trivial⟩ fun σ => ?_
                          have H : HL F0 [] w0 w3 [] [] := H
                          refine CW.reg ?_
                          refine WL.ev rfl rfl (Ev.mv rfl rfl) ?_
                          obtain ⟨y17, hy15, hr⟩ := bd hr
                          refine WL.call rfl rfl rfl rfl rfl ok112 rfl (sl1In_ok hy15 (F0 := fun _ => False) hI5 (by decide : I64 0) (by decide : I64 11)) ?_
                          rintro _ w15 hE rfl
                          have H := H.ext hE
                          refine WL.nil ?_
                          refine CW.condB rfl (fun h14 => ?_) (fun h14 => ?_)
                          · skip
                            have hr := ifp h14 hr
                            refine CW.seq (CW.reg ?_)
                            refine WL.ev rfl rfl (Ev.mv rfl rfl) (WL.ev rfl rfl (Ev.mv rfl rfl) ?_)
                            obtain ⟨hg9, hr⟩ := grd_some hr
                            refine WL.ev rfl rfl (Ev.convUI rfl Try.underlying3 it130 rfl hg9 hI5.2) ?_
                            obtain ⟨hg10, hr⟩ := grd_some hr
                            refine WL.ev rfl rfl (Ev.bin rfl rfl rfl (Bin.shlI hg10.1 hg10.2)) ?_
                            obtain ⟨hg11, hr⟩ := grd_some hr
                            refine WL.ev rfl rfl (Ev.bin rfl rfl rfl (Bin.orI hg11.1 hI4.2 hg11.2 (i64_pow hg10.2).2)) (WL.ev rfl rfl (Ev.as rfl rfl) (WL.nil ?_))
                            refine CW.ret ?_
                            obtain rfl := sm hr
                            exact ⟨_, res1 rfl rfl rfl, H.ext0, rfl, (i64_or hg11 hI4 (i64_pow hg10.2))⟩
                          · skip
                            have hr := ifn h14 hr
                            refine CW.skip ?_
                            refine CW.seq (CW.reg ?_)
                            refine WL.ev rfl rfl (Ev.mv rfl rfl) (WL.ev rfl rfl (Ev.as rfl rfl) (WL.nil ?_))
                            refine CW.ret ?_
                            obtain rfl := sm hr
                            exact ⟨_, res1 rfl rfl rfl, H.ext0, rfl, hI4⟩
                        · skip
                          have hr := ifn h13 hr
                          refine CW.skip ?_
                          refine CW.seq ?_
                          refine CW.fresh [] trivial fun σ => ?_
                          have H : HL F0 [] w0 w3 [] [] := H
                          refine CW.reg ?_
                          refine WL.ev rfl rfl (Ev.as rfl rfl) (WL.nil ?_)
                          refine CW.ret ?_
                          obtain rfl := sm hr
                          exact ⟨_, res1 rfl rfl rfl, H.ext0, rfl, (by decide : I64 0)⟩

noncomputable def sl19Eval_B (rec_sl19Eval : Expr → (List Slot) → Int → (List Int) → Option Int) (a0 : Expr) (a1 : (List Slot)) (a2 : Int) (a3 : (List Int)) : Option Int :=
  if a0.Kind = 1 then (
  some a0.N
  ) else (
  if a0.Kind = 2 then (
  some a2
  ) else (
  if a0.Kind = 3 then (
  (sSlotValue_m a1 (⟨a0.Pos, a0.Name⟩ : Occurrence)).bind fun y1 =>
  some y1
  ) else (
  if a0.Kind = 4 then (
  (a0.Args[0]?).bind fun x1 =>
  (rec_sl19Eval x1 a1 a2 a3).bind fun y2 =>
  (a0.Args[1]?).bind fun x2 =>
  (rec_sl19Eval x2 a1 a2 a3).bind fun y3 =>
  (sApplyOp_m a0.N y2 y3).bind fun y4 =>
  some y4
  ) else (
  if a0.Kind = 5 then (
  (a0.Args[0]?).bind fun x3 =>
  (rec_sl19Eval x3 a1 a2 a3).bind fun y5 =>
  if y5 = 0 then (
  (a0.Args[2]?).bind fun x5 =>
  (rec_sl19Eval x5 a1 a2 a3).bind fun y7 =>
  some y7
  ) else (
  (a0.Args[1]?).bind fun x4 =>
  (rec_sl19Eval x4 a1 a2 a3).bind fun y6 =>
  some y6
  )
  ) else (
  if a0.Kind = 6 then (
  (sl1In_m a0.Pos 0 ((a3.length : Int) - 1)).bind fun y8 =>
  if y8 = true then (
  grd (0 ≤ a0.Pos) <|
  (a3[a0.Pos.toNat]?).bind fun x6 =>
  some x6
  ) else (
  some 0
  )
  ) else (
  some 0
  )
  )
  )
  )
  )
  )
theorem sl19Eval_okB {rec_sl19Eval : Expr → (List Slot) → Int → (List Int) → Option Int} (ih_sl19Eval : ∀ {a0 : Expr} {a1 : (List Slot)} {a2 : Int} {a3 : (List Int)} {r : Int}, rec_sl19Eval a0 a1 a2 a3 = some r → ∀ {F0 : Nat → Prop} {w0 : World} {ca0 : List Value} (ha0 : rd F0 w0 a0 ca0) {z1 : Value} (ha1 : rdS F0 w0 a1 z1) (ha2 : I64 a2) {z3 : Value} (ha3 : rdS F0 w0 a3 z3), Ret Try.prog 91 #[.agg ca0.toArray, z1, .int .i64 a2, z3] w0 (fun _ => False) fun v w => v = .int .i64 r ∧ I64 r) {a0 : Expr} {a1 : (List Slot)} {a2 : Int} {a3 : (List Int)} {r : Int} (hr : sl19Eval_B rec_sl19Eval a0 a1 a2 a3 = some r) {F0 : Nat → Prop} {w0 : World} {ca0 : List Value} (ha0 : rd F0 w0 a0 ca0) {z1 : Value} (ha1 : rdS F0 w0 a1 z1) (ha2 : I64 a2) {z3 : Value} (ha3 : rdS F0 w0 a3 z3) :
    Ret Try.prog 91 #[.agg ca0.toArray, z1, .int .i64 a2, z3] w0 (fun _ => False) fun v w => v = .int .i64 r ∧ I64 r := by
  obtain ⟨A1', n1', c1', rfl⟩ := ha1.form3
  obtain ⟨A3', n3', c3', rfl⟩ := ha3.form3
  have H := (((HL.start F0 w0).argR ha0).argS ha1).argS ha3
  obtain ⟨A1, n1, c1, rfl, hI1, hI2, hI3, hI4, hS1, hS2, H⟩ := op_Expr H (i := 0) rfl
  refine enter Try.func91 rfl rfl rfl ?_
  refine CW.seq (CW.reg ?_)
  refine WL.boxH rfl rfl rfl rfl rfl H fun b1 w1 H => ?_
  refine WL.ev rfl rfl (Ev.as rfl rfl) (WL.nil ?_)
  refine CW.seq (CW.seq (CW.reg ?_))
  refine WL.ev rfl rfl (Ev.fa rfl fo31_0 rfl) (WL.ev rfl rfl (Ev.ld rfl ag3 rfl ((H.rB (i := 0) rfl).cell rfl)) (WL.nil ?_))
  refine CW.block (CW.seq (CW.reg ?_))
  refine WL.ev rfl rfl (Ev.bin rfl rfl rfl Bin.eql) (WL.ev rfl rfl (Ev.as rfl rfl) (WL.nil ?_))
  refine CW.condD rfl (fun h1 => ?_) (fun h1 => ?_)
  · skip
    have hr := ifp h1 hr
    refine CW.seq (CW.reg ?_)
    refine WL.ev rfl rfl (Ev.fa rfl fo31_1 rfl) (WL.ev rfl rfl (Ev.ld rfl ag3 rfl ((H.rB (i := 0) rfl).cell rfl)) (WL.ev rfl rfl (Ev.as rfl rfl) (WL.nil ?_)))
    refine CW.ret ?_
    obtain rfl := sm hr
    exact ⟨_, res1 rfl rfl rfl, H.ext0, rfl, hI2⟩
  · skip
    have hr := ifn h1 hr
    refine CW.seq (CW.reg ?_)
    refine WL.ev rfl rfl (Ev.bin rfl rfl rfl Bin.eql) (WL.ev rfl rfl (Ev.as rfl rfl) (WL.nil ?_))
    refine CW.condD rfl (fun h2 => ?_) (fun h2 => ?_)
    · skip
      have hr := ifp h2 hr
      refine CW.seq (CW.reg ?_)
      refine WL.ev rfl rfl (Ev.mv rfl rfl) (WL.ev rfl rfl (Ev.as rfl rfl) (WL.nil ?_))
      refine CW.ret ?_
      obtain rfl := sm hr
      exact ⟨_, res1 rfl rfl rfl, H.ext0, rfl, ha2⟩
    · skip
      have hr := ifn h2 hr
      refine CW.seq (CW.reg ?_)
      refine WL.ev rfl rfl (Ev.bin rfl rfl rfl Bin.eql) (WL.ev rfl rfl (Ev.as rfl rfl) (WL.nil ?_))
      refine CW.condD rfl (fun h3 => ?_) (fun h3 => ?_)
      · skip
        have hr := ifp h3 hr
        refine CW.seq (CW.reg ?_)
        refine WL.ev rfl rfl (Ev.mv rfl rfl) (WL.ev rfl rfl (Ev.fa rfl fo31_2 rfl) (WL.ev rfl rfl (Ev.ld rfl ag3 rfl ((H.rB (i := 0) rfl).cell rfl)) (WL.ev rfl rfl (Ev.fa rfl fo31_5 rfl) (WL.ev rfl rfl (Ev.ld rfl ag9 rfl ((H.rB (i := 0) rfl).cell rfl)) (WL.ev rfl rfl (Ev.build rfl pl48 ze48 rfl rfl rfl rfl) ?_)))))
        obtain ⟨y1, hy1, hr⟩ := bd hr
        refine WL.call rfl rfl rfl rfl rfl ok29 rfl (sSlotValue_ok hy1 (H.rS (i := 1) rfl) ⟨rfl, hI3, hS2⟩) ?_
        rintro _ w2 hE ⟨rfl, hI5⟩
        have H := H.ext hE
        refine WL.ev rfl rfl (Ev.as rfl rfl) (WL.nil ?_)
        refine CW.ret ?_
        obtain rfl := sm hr
        exact ⟨_, res1 rfl rfl rfl, H.ext0, rfl, hI5⟩
      · skip
        have hr := ifn h3 hr
        refine CW.seq (CW.reg ?_)
        refine WL.ev rfl rfl (Ev.bin rfl rfl rfl Bin.eql) (WL.ev rfl rfl (Ev.as rfl rfl) (WL.nil ?_))
        refine CW.condD rfl (fun h4 => ?_) (fun h4 => ?_)
        · skip
          have hr := ifp h4 hr
          refine CW.seq (CW.quiet hmix (by kernel_rfl) ?_)
          refine QL.ev rfl rfl (fun _ _ => Ev.fa rfl fo31_1 rfl) (QL.ev rfl rfl (fun _ hq => Ev.ld rfl ag3 rfl (((H.ext hq).rB (i := 0) rfl).cell rfl)) (QL.ev rfl rfl (fun _ _ => Ev.fa rfl fo31_6 rfl) (QL.ev rfl rfl (fun _ hq => Ev.ld rfl ag29 rfl (((H.ext hq).rB (i := 0) rfl).cell rfl)) ?_)))
          obtain ⟨x1, hx1, hr⟩ := bd hr
          obtain ⟨b2, ob2, cb2, A2, n2, c2, hvb2, hI6, hI7, hI8, hI9, hS3, hS4, H⟩ := ixS_Expr H (i := 3) rfl hx1
          refine QL.ev rfl rfl (fun _ _ => Ev.ixVN rfl el29 sz31 rfl hvb2 rfl (lt_of hx1)) (QL.ev rfl rfl (fun _ hq => Ev.lda rfl ag31 sz31 rfl ((H.ext hq).rA (i := 4) rfl) rfl) (QL.ev rfl rfl (fun _ _ => Ev.mv rfl rfl) (QL.ev rfl rfl (fun _ _ => Ev.mv rfl rfl) (QL.ev rfl rfl (fun _ _ => Ev.mv rfl rfl) ?_))))
          obtain ⟨y2, hy2, hr⟩ := bd hr
          refine QL.call rfl rfl rfl rfl rfl ok91 rfl (fun _ hq => (ih_sl19Eval hy2 (Expr_rd.2 ⟨_, rfl, hI6, hI7, hI8, hI9, hS3, hS4, ((H.ext hq).rS (i := 6) rfl)⟩) ((H.ext hq).rS (i := 1) rfl) ha2 ((H.ext hq).rS (i := 2) rfl)).mono fun _ _ _ h => h.1) ?_
          obtain ⟨_, _, _, hI10⟩ := (ih_sl19Eval hy2 (Expr_rd.2 ⟨_, rfl, hI6, hI7, hI8, hI9, hS3, hS4, (H.rS (i := 6) rfl)⟩) (H.rS (i := 1) rfl) ha2 (H.rS (i := 2) rfl)).get
          refine QL.ev rfl rfl (fun _ _ => Ev.fa rfl fo31_6 rfl) (QL.ev rfl rfl (fun _ hq => Ev.ld rfl ag29 rfl (((H.ext hq).rB (i := 0) rfl).cell rfl)) ?_)
          obtain ⟨x2, hx2, hr⟩ := bd hr
          obtain ⟨b3, ob3, cb3, A3, n3, c3, hvb3, hI11, hI12, hI13, hI14, hS5, hS6, H⟩ := ixS_Expr H (i := 3) rfl hx2
          refine QL.ev rfl rfl (fun _ _ => Ev.ixVN rfl el29 sz31 rfl hvb3 rfl (lt_of hx2)) (QL.ev rfl rfl (fun _ hq => Ev.lda rfl ag31 sz31 rfl ((H.ext hq).rA (i := 7) rfl) rfl) (QL.ev rfl rfl (fun _ _ => Ev.mv rfl rfl) (QL.ev rfl rfl (fun _ _ => Ev.mv rfl rfl) (QL.ev rfl rfl (fun _ _ => Ev.mv rfl rfl) ?_))))
          obtain ⟨y3, hy3, hr⟩ := bd hr
          refine QL.call rfl rfl rfl rfl rfl ok91 rfl (fun _ hq => (ih_sl19Eval hy3 (Expr_rd.2 ⟨_, rfl, hI11, hI12, hI13, hI14, hS5, hS6, ((H.ext hq).rS (i := 9) rfl)⟩) ((H.ext hq).rS (i := 1) rfl) ha2 ((H.ext hq).rS (i := 2) rfl)).mono fun _ _ _ h => h.1) ?_
          obtain ⟨_, _, _, hI15⟩ := (ih_sl19Eval hy3 (Expr_rd.2 ⟨_, rfl, hI11, hI12, hI13, hI14, hS5, hS6, (H.rS (i := 9) rfl)⟩) (H.rS (i := 1) rfl) ha2 (H.rS (i := 2) rfl)).get
          obtain ⟨y4, hy4, hr⟩ := bd hr
          refine QL.call rfl rfl rfl rfl rfl ok152 rfl (fun _ hq => (sApplyOp_ok hy4 (F0 := fun _ => False) hI2 hI10 hI15).mono fun _ _ _ h => h.1) ?_
          obtain ⟨_, _, _, hI16⟩ := (sApplyOp_ok hy4 (F0 := fun _ => False) (w0 := w0) hI2 hI10 hI15).get
          refine QL.ev rfl rfl (fun _ _ => Ev.as rfl rfl) (QL.nil (fun w3 hE => ?_))
          have H := H.ext hE
          refine CW.ret ?_
          obtain rfl := sm hr
          exact ⟨_, res1 rfl rfl rfl, H.ext0, rfl, hI16⟩
        · skip
          have hr := ifn h4 hr
          refine CW.seq (CW.reg ?_)
          refine WL.ev rfl rfl (Ev.bin rfl rfl rfl Bin.eql) (WL.ev rfl rfl (Ev.as rfl rfl) (WL.nil ?_))
          refine CW.condD rfl (fun h5 => ?_) (fun h5 => ?_)
          · skip
            have hr := ifp h5 hr
            refine CW.seq (CW.seq (CW.reg ?_))
            refine WL.ev rfl rfl (Ev.fa rfl fo31_6 rfl) (WL.ev rfl rfl (Ev.ld rfl ag29 rfl ((H.rB (i := 0) rfl).cell rfl)) ?_)
            obtain ⟨x3, hx3, hr⟩ := bd hr
            obtain ⟨b4, ob4, cb4, A4, n4, c4, hvb4, hI17, hI18, hI19, hI20, hS7, hS8, H⟩ := ixS_Expr H (i := 3) rfl hx3
            refine WL.ev rfl rfl (Ev.ixVN rfl el29 sz31 rfl hvb4 rfl (lt_of hx3)) (WL.ev rfl rfl (Ev.lda rfl ag31 sz31 rfl (H.rA (i := 4) rfl) rfl) (WL.ev rfl rfl (Ev.mv rfl rfl) (WL.ev rfl rfl (Ev.mv rfl rfl) (WL.ev rfl rfl (Ev.mv rfl rfl) ?_))))
            obtain ⟨y5, hy5, hr⟩ := bd hr
            refine WL.call rfl rfl rfl rfl rfl ok91 rfl (ih_sl19Eval hy5 (Expr_rd.2 ⟨_, rfl, hI17, hI18, hI19, hI20, hS7, hS8, (H.rS (i := 6) rfl)⟩) (H.rS (i := 1) rfl) ha2 (H.rS (i := 2) rfl)) ?_
            rintro _ w4 hE ⟨rfl, hI21⟩
            have H := H.ext hE
            refine WL.ev rfl rfl (Ev.bin rfl rfl rfl Bin.neq) (WL.nil ?_)
            refine CW.condN rfl (fun h6 => ?_) (fun h6 => ?_)
            · skip
              have hr := ifn h6 hr
              refine CW.seq ?_
              refine CW.fresh [(1, .slice A1' n1' c1'), (2, .int .i64 a2), (3, .slice A3' n3' c3'), (4, .pointer (some ⟨b1, 0, none⟩))] ⟨rfl, rfl, rfl, rfl, trivial⟩ fun σ => ?_
              have H : HL F0 [] w0 w4 [Pr.R a0 [.int .i64 a0.Kind, .int .i64 a0.N, .int .i64 a0.Pos, .int .i64 a0.Type_, .string a0.Symbol, .string a0.Name, .slice A1 n1 c1], Pr.S a1 (.slice A1' n1' c1'), Pr.S a3 (.slice A3' n3' c3'), Pr.S a0.Args (.slice A1 n1 c1), Pr.A b4 (ob4 + 0 * 7) [.int .i64 x3.Kind, .int .i64 x3.N, .int .i64 x3.Pos, .int .i64 x3.Type_, .string x3.Symbol, .string x3.Name, .slice A4 n4 c4], Pr.R x3 [.int .i64 x3.Kind, .int .i64 x3.N, .int .i64 x3.Pos, .int .i64 x3.Type_, .string x3.Symbol, .string x3.Name, .slice A4 n4 c4], Pr.S x3.Args (.slice A4 n4 c4)] [It.B b1 31 [.int .i64 a0.Kind, .int .i64 a0.N, .int .i64 a0.Pos, .int .i64 a0.Type_, .string a0.Symbol, .string a0.Name, .slice A1 n1 c1]] := H
              refine CW.reg ?_
              refine WL.ev rfl rfl (Ev.fa rfl fo31_6 rfl) (WL.ev rfl rfl (Ev.ld rfl ag29 rfl ((H.rB (i := 0) rfl).cell rfl)) ?_)
              obtain ⟨x4, hx4, hr⟩ := bd hr
              obtain ⟨b5, ob5, cb5, A5, n5, c5, hvb5, hI22, hI23, hI24, hI25, hS9, hS10, H⟩ := ixS_Expr H (i := 3) rfl hx4
              refine WL.ev rfl rfl (Ev.ixVN rfl el29 sz31 rfl hvb5 rfl (lt_of hx4)) (WL.ev rfl rfl (Ev.lda rfl ag31 sz31 rfl (H.rA (i := 7) rfl) rfl) (WL.ev rfl rfl (Ev.mv rfl rfl) (WL.ev rfl rfl (Ev.mv rfl rfl) (WL.ev rfl rfl (Ev.mv rfl rfl) ?_))))
              obtain ⟨y6, hy6, hr⟩ := bd hr
              refine WL.call rfl rfl rfl rfl rfl ok91 rfl (ih_sl19Eval hy6 (Expr_rd.2 ⟨_, rfl, hI22, hI23, hI24, hI25, hS9, hS10, (H.rS (i := 9) rfl)⟩) (H.rS (i := 1) rfl) ha2 (H.rS (i := 2) rfl)) ?_
              rintro _ w5 hE ⟨rfl, hI26⟩
              have H := H.ext hE
              refine WL.ev rfl rfl (Ev.as rfl rfl) (WL.nil ?_)
              refine CW.ret ?_
              obtain rfl := sm hr
              exact ⟨_, res1 rfl rfl rfl, H.ext0, rfl, hI26⟩
            · skip
              have hr := ifp h6 hr
              refine CW.skip ?_
              refine CW.seq ?_
              refine CW.fresh [(1, .slice A1' n1' c1'), (2, .int .i64 a2), (3, .slice A3' n3' c3'), (4, .pointer (some ⟨b1, 0, none⟩))] ⟨rfl, rfl, rfl, rfl, trivial⟩ fun σ => ?_
              have H : HL F0 [] w0 w4 [Pr.R a0 [.int .i64 a0.Kind, .int .i64 a0.N, .int .i64 a0.Pos, .int .i64 a0.Type_, .string a0.Symbol, .string a0.Name, .slice A1 n1 c1], Pr.S a1 (.slice A1' n1' c1'), Pr.S a3 (.slice A3' n3' c3'), Pr.S a0.Args (.slice A1 n1 c1), Pr.A b4 (ob4 + 0 * 7) [.int .i64 x3.Kind, .int .i64 x3.N, .int .i64 x3.Pos, .int .i64 x3.Type_, .string x3.Symbol, .string x3.Name, .slice A4 n4 c4], Pr.R x3 [.int .i64 x3.Kind, .int .i64 x3.N, .int .i64 x3.Pos, .int .i64 x3.Type_, .string x3.Symbol, .string x3.Name, .slice A4 n4 c4], Pr.S x3.Args (.slice A4 n4 c4)] [It.B b1 31 [.int .i64 a0.Kind, .int .i64 a0.N, .int .i64 a0.Pos, .int .i64 a0.Type_, .string a0.Symbol, .string a0.Name, .slice A1 n1 c1]] := H
              refine CW.reg ?_
              refine WL.ev rfl rfl (Ev.fa rfl fo31_6 rfl) (WL.ev rfl rfl (Ev.ld rfl ag29 rfl ((H.rB (i := 0) rfl).cell rfl)) ?_)
              obtain ⟨x5, hx5, hr⟩ := bd hr
              obtain ⟨b6, ob6, cb6, A6, n6, c6, hvb6, hI27, hI28, hI29, hI30, hS11, hS12, H⟩ := ixS_Expr H (i := 3) rfl hx5
              refine WL.ev rfl rfl (Ev.ixVN rfl el29 sz31 rfl hvb6 rfl (lt_of hx5)) (WL.ev rfl rfl (Ev.lda rfl ag31 sz31 rfl (H.rA (i := 7) rfl) rfl) (WL.ev rfl rfl (Ev.mv rfl rfl) (WL.ev rfl rfl (Ev.mv rfl rfl) (WL.ev rfl rfl (Ev.mv rfl rfl) ?_))))
              obtain ⟨y7, hy7, hr⟩ := bd hr
              refine WL.call rfl rfl rfl rfl rfl ok91 rfl (ih_sl19Eval hy7 (Expr_rd.2 ⟨_, rfl, hI27, hI28, hI29, hI30, hS11, hS12, (H.rS (i := 9) rfl)⟩) (H.rS (i := 1) rfl) ha2 (H.rS (i := 2) rfl)) ?_
              rintro _ w6 hE ⟨rfl, hI31⟩
              have H := H.ext hE
              refine WL.ev rfl rfl (Ev.as rfl rfl) (WL.nil ?_)
              refine CW.ret ?_
              obtain rfl := sm hr
              exact ⟨_, res1 rfl rfl rfl, H.ext0, rfl, hI31⟩
          · skip
            have hr := ifn h5 hr
            refine CW.seq (CW.reg ?_)
            refine WL.ev rfl rfl (Ev.bin rfl rfl rfl Bin.eql) (WL.ev rfl rfl (Ev.as rfl rfl) (WL.nil ?_))
            refine CW.condD rfl (fun h7 => ?_) (fun h7 => ?_)
            · skip
              have hr := ifp h7 hr
              refine CW.seq (CW.reg ?_)
              refine WL.ev rfl rfl (Ev.fa rfl fo31_2 rfl) (WL.ev rfl rfl (Ev.ld rfl ag3 rfl ((H.rB (i := 0) rfl).cell rfl)) (WL.ev rfl rfl (Ev.mv rfl rfl) ?_))
              have hl1 := (H.rS (i := 2) rfl).I
              refine WL.ev rfl rfl (Ev.lenV rfl el41 rfl (H.rS (i := 2) rfl)) (WL.ev rfl rfl (Ev.bin rfl rfl rfl (Bin.sub (i64_sub (k := 1) hl1 (by decide)))) ?_)
              obtain ⟨y8, hy8, hr⟩ := bd hr
              refine WL.call rfl rfl rfl rfl rfl ok112 rfl (sl1In_ok hy8 (F0 := fun _ => False) hI3 (by decide : I64 0) (i64_sub (k := 1) hl1 (by decide))) ?_
              rintro _ w7 hE rfl
              have H := H.ext hE
              refine WL.nil ?_
              refine CW.condB rfl (fun h8 => ?_) (fun h8 => ?_)
              · skip
                have hr := ifp h8 hr
                refine CW.seq ?_
                refine CW.fresh [(3, .slice A3' n3' c3'), (4, .pointer (some ⟨b1, 0, none⟩))] ⟨rfl, rfl, trivial⟩ fun σ => ?_
                have H : HL F0 [] w0 w7 [Pr.R a0 [.int .i64 a0.Kind, .int .i64 a0.N, .int .i64 a0.Pos, .int .i64 a0.Type_, .string a0.Symbol, .string a0.Name, .slice A1 n1 c1], Pr.S a1 (.slice A1' n1' c1'), Pr.S a3 (.slice A3' n3' c3'), Pr.S a0.Args (.slice A1 n1 c1)] [It.B b1 31 [.int .i64 a0.Kind, .int .i64 a0.N, .int .i64 a0.Pos, .int .i64 a0.Type_, .string a0.Symbol, .string a0.Name, .slice A1 n1 c1]] := H
                refine CW.reg ?_
                refine WL.ev rfl rfl (Ev.mv rfl rfl) (WL.ev rfl rfl (Ev.fa rfl fo31_2 rfl) (WL.ev rfl rfl (Ev.ld rfl ag3 rfl ((H.rB (i := 0) rfl).cell rfl)) ?_))
                obtain ⟨hg1, hr⟩ := grd_some hr
                obtain ⟨x6, hx6, hr⟩ := bd hr
                obtain ⟨b7, ob7, cb7, hvb7, hI32, H⟩ := ixS_Int H (i := 2) rfl hx6
                refine WL.ev rfl rfl (Ev.ixV rfl el41 sz3 rfl hvb7 rfl hg1 (lt_of hx6)) (WL.ev rfl rfl (Ev.ld rfl ag3 rfl ((H.rA (i := 4) rfl).cell0 rfl)) (WL.ev rfl rfl (Ev.as rfl rfl) (WL.nil ?_)))
                refine CW.ret ?_
                obtain rfl := sm hr
                exact ⟨_, res1 rfl rfl rfl, H.ext0, rfl, hI32⟩
              · skip
                have hr := ifn h8 hr
                refine CW.skip ?_
                refine CW.seq ?_
                refine CW.fresh [] trivial fun σ => ?_
                have H : HL F0 [] w0 w7 [Pr.R a0 [.int .i64 a0.Kind, .int .i64 a0.N, .int .i64 a0.Pos, .int .i64 a0.Type_, .string a0.Symbol, .string a0.Name, .slice A1 n1 c1], Pr.S a1 (.slice A1' n1' c1'), Pr.S a3 (.slice A3' n3' c3'), Pr.S a0.Args (.slice A1 n1 c1)] [It.B b1 31 [.int .i64 a0.Kind, .int .i64 a0.N, .int .i64 a0.Pos, .int .i64 a0.Type_, .string a0.Symbol, .string a0.Name, .slice A1 n1 c1]] := H
                refine CW.reg ?_
                refine WL.ev rfl rfl (Ev.as rfl rfl) (WL.nil ?_)
                refine CW.ret ?_
                obtain rfl := sm hr
                exact ⟨_, res1 rfl rfl rfl, H.ext0, rfl, (by decide : I64 0)⟩
            · skip
              have hr := ifn h7 hr
              refine CW.skip ?_
              refine CW.seq (CW.reg ?_)
              refine WL.ev rfl rfl (Ev.as rfl rfl) (WL.nil ?_)
              refine CW.ret ?_
              obtain rfl := sm hr
              exact ⟨_, res1 rfl rfl rfl, H.ext0, rfl, (by decide : I64 0)⟩
noncomputable def sl19Eval_n : Nat → Expr → (List Slot) → Int → (List Int) → Option Int
  | 0, _, _, _, _ => none
  | n + 1, a0, a1, a2, a3 => sl19Eval_B (sl19Eval_n n) a0 a1 a2 a3
noncomputable def sl19Eval_m (a0 : Expr) (a1 : (List Slot)) (a2 : Int) (a3 : (List Int)) : Option Int := recO fun n => sl19Eval_n n a0 a1 a2 a3
theorem sl19Eval_okn (n : Nat) : ∀ {a0 : Expr} {a1 : (List Slot)} {a2 : Int} {a3 : (List Int)} {r : Int}, sl19Eval_n n a0 a1 a2 a3 = some r → ∀ {F0 : Nat → Prop} {w0 : World} {ca0 : List Value} (ha0 : rd F0 w0 a0 ca0) {z1 : Value} (ha1 : rdS F0 w0 a1 z1) (ha2 : I64 a2) {z3 : Value} (ha3 : rdS F0 w0 a3 z3), Ret Try.prog 91 #[.agg ca0.toArray, z1, .int .i64 a2, z3] w0 (fun _ => False) fun v w => v = .int .i64 r ∧ I64 r := by
  induction n with
  | zero => intro a0 a1 a2 a3 r hr; exact nomatch (show (none : Option Int) = some r from hr)
  | succ n ih => intro a0 a1 a2 a3 r hr; exact sl19Eval_okB ih hr
theorem sl19Eval_ok {a0 : Expr} {a1 : (List Slot)} {a2 : Int} {a3 : (List Int)} {r : Int} (hr : sl19Eval_m a0 a1 a2 a3 = some r) {F0 : Nat → Prop} {w0 : World} {ca0 : List Value} (ha0 : rd F0 w0 a0 ca0) {z1 : Value} (ha1 : rdS F0 w0 a1 z1) (ha2 : I64 a2) {z3 : Value} (ha3 : rdS F0 w0 a3 z3) :
    Ret Try.prog 91 #[.agg ca0.toArray, z1, .int .i64 a2, z3] w0 (fun _ => False) fun v w => v = .int .i64 r ∧ I64 r := by
  obtain ⟨n, hn⟩ := recO_some hr
  exact sl19Eval_okn n hn ha0 ha1 ha2 ha3

noncomputable def sEvalLocal_m (a0 : Expr) (a1 : (List Slot)) (a2 : Int) (a3 : (List Int)) : Option Int :=
  (sIsValidExpr_m a0).bind fun y1 =>
  if y1 = true then (
  (sl19Eval_m a0 a1 a2 a3).bind fun y2 =>
  some y2
  ) else (
  some 0
  )
theorem sEvalLocal_ok {a0 : Expr} {a1 : (List Slot)} {a2 : Int} {a3 : (List Int)} {r : Int} (hr : sEvalLocal_m a0 a1 a2 a3 = some r) {F0 : Nat → Prop} {w0 : World} {ca0 : List Value} (ha0 : rd F0 w0 a0 ca0) {z1 : Value} (ha1 : rdS F0 w0 a1 z1) (ha2 : I64 a2) {z3 : Value} (ha3 : rdS F0 w0 a3 z3) :
    Ret Try.prog 24 #[.agg ca0.toArray, z1, .int .i64 a2, z3] w0 (fun _ => False) fun v w => v = .int .i64 r ∧ I64 r := by
  obtain ⟨A1', n1', c1', rfl⟩ := ha1.form3
  obtain ⟨A3', n3', c3', rfl⟩ := ha3.form3
  have H := (((HL.start F0 w0).argR ha0).argS ha1).argS ha3
  obtain ⟨A1, n1, c1, rfl, hI1, hI2, hI3, hI4, hS1, hS2, H⟩ := op_Expr H (i := 0) rfl
  refine enter Try.func24 rfl rfl rfl ?_
  refine CW.seq (CW.reg ?_)
  refine WL.boxH rfl rfl rfl rfl rfl H fun b1 w1 H => ?_
  refine WL.ev rfl rfl (Ev.as rfl rfl) (WL.nil ?_)
  refine CW.seq (CW.seq (CW.reg ?_))
  refine WL.ev rfl rfl (Ev.lda rfl ag31 sz31 rfl (At.blk (H.rB (i := 0) rfl)) rfl) ?_
  obtain ⟨y1, hy1, hr⟩ := bd hr
  refine WL.call rfl rfl rfl rfl rfl ok27 rfl (sIsValidExpr_ok hy1 (Expr_rd.2 ⟨_, rfl, hI1, hI2, hI3, hI4, hS1, hS2, (H.rS (i := 3) rfl)⟩)) ?_
  rintro _ w2 hE rfl
  have H := H.ext hE
  refine WL.ev rfl rfl (Ev.not rfl rfl) (WL.nil ?_)
  refine CW.condBN rfl (fun h1 => ?_) (fun h1 => ?_)
  · skip
    have hr := ifn h1 hr
    refine CW.seq (CW.reg ?_)
    refine WL.ev rfl rfl (Ev.as rfl rfl) (WL.nil ?_)
    refine CW.ret ?_
    obtain rfl := sm hr
    exact ⟨_, res1 rfl rfl rfl, H.ext0, rfl, (by decide : I64 0)⟩
  · skip
    have hr := ifp h1 hr
    refine CW.skip ?_
    refine CW.seq (CW.reg ?_)
    refine WL.ev rfl rfl (Ev.lda rfl ag31 sz31 rfl (At.blk (H.rB (i := 0) rfl)) rfl) (WL.ev rfl rfl (Ev.mv rfl rfl) (WL.ev rfl rfl (Ev.mv rfl rfl) (WL.ev rfl rfl (Ev.mv rfl rfl) ?_)))
    obtain ⟨y2, hy2, hr⟩ := bd hr
    refine WL.call rfl rfl rfl rfl rfl ok91 rfl (sl19Eval_ok hy2 (Expr_rd.2 ⟨_, rfl, hI1, hI2, hI3, hI4, hS1, hS2, (H.rS (i := 3) rfl)⟩) (H.rS (i := 1) rfl) ha2 (H.rS (i := 2) rfl)) ?_
    rintro _ w3 hE ⟨rfl, hI5⟩
    have H := H.ext hE
    refine WL.ev rfl rfl (Ev.as rfl rfl) (WL.nil ?_)
    refine CW.ret ?_
    obtain rfl := sm hr
    exact ⟨_, res1 rfl rfl rfl, H.ext0, rfl, hI5⟩

noncomputable def sOccurrenceIndex_L1 (a1 : Occurrence) : Nat → Occurrence → Unit → Option (Unit ⊕ Int) := fun k1 x1 _ => 
  if x1 = a1 then (
  some (.inr (k1 : Int))
  ) else (
  some (.inl ())
  )
noncomputable def sOccurrenceIndex_m (a0 : (List Occurrence)) (a1 : Occurrence) : Option Int :=
  (findL (sOccurrenceIndex_L1 a1) 0 a0 ()).bind <| onr (fun r1 => some r1) fun _ =>
  some (-1)
theorem sOccurrenceIndex_ok {a0 : (List Occurrence)} {a1 : Occurrence} {r : Int} (hr : sOccurrenceIndex_m a0 a1 = some r) {F0 : Nat → Prop} {w0 : World} {z0 : Value} (ha0 : rdS F0 w0 a0 z0) {ca1 : List Value} (ha1 : rd F0 w0 a1 ca1) :
    Ret Try.prog 93 #[z0, .agg ca1.toArray] w0 (fun _ => False) fun v w => v = .int .i64 r ∧ I64 r := by
  obtain ⟨A0', n0', c0', rfl⟩ := ha0.form3
  have H := ((HL.start F0 w0).argS ha0).argR ha1
  obtain ⟨rfl, hI1, hS1, H⟩ := op_Occurrence H (i := 1) rfl
  refine enter Try.func93 rfl rfl rfl ?_
  refine CW.seq (CW.reg ?_)
  refine WL.boxH rfl rfl rfl rfl rfl H fun b1 w1 H => ?_
  refine WL.ev rfl rfl (Ev.as rfl rfl) (WL.nil ?_)
  refine CW.seq (CW.seq (CW.reg ?_))
  refine WL.ev rfl rfl (Ev.as rfl rfl) (WL.nil ?_)
  obtain ⟨q1, hq1, hr⟩ := bd hr
  refine CW.block (CW.loop (α := Nat) (fun k1 => [(0, .slice A0' n0' c0'), (3, .pointer (some ⟨b1, 0, none⟩)), (5, .int .i64 (k1 : Int))]) (fun k1 w => k1 ≤ a0.length ∧ findL (sOccurrenceIndex_L1 a1) k1 (a0.drop k1) () = some q1 ∧ HL F0 [] w0 w [Pr.S a0 (.slice A0' n0' c0'), Pr.R a1 [.int .i64 a1.Pos, .string a1.Name]] [It.B b1 48 [.int .i64 a1.Pos, .string a1.Name]]) (fun k1 => a0.length - k1) 0 ⟨rfl, rfl, rfl, trivial⟩ ⟨Nat.zero_le _, hq1, H.keep 2 1⟩ ?_)
  rintro k1 σ w2 ⟨hk1, hq1, H⟩
  refine CW.seq (CW.seq (CW.reg ?_))
  refine WL.ev rfl rfl (Ev.mv rfl rfl) (WL.ev rfl rfl (Ev.mv rfl rfl) ?_)
  have hl1 := (H.rS (i := 0) rfl).I
  refine WL.ev rfl rfl (Ev.lenV rfl el33 rfl (H.rS (i := 0) rfl)) (WL.ev rfl rfl (Ev.bin rfl rfl rfl Bin.lss) (WL.nil ?_))
  refine CW.condD rfl (fun h1 => ?_) (fun h1 => ?_)
  · skip
    have hk2 := cast_lt h1
    obtain ⟨x1, z1, hx1, hb1, hs1, ht1⟩ := findL_go hq1 hk2
    refine CW.skip ?_
    refine CW.seq (CW.block (CW.seq (CW.quiet hmix (by kernel_rfl) ?_)))
    refine QL.ev rfl rfl (fun _ _ => Ev.mv rfl rfl) (QL.ev rfl rfl (fun _ _ => Ev.mv rfl rfl) ?_)
    obtain ⟨b2, ob2, cb2, hvb2, hI2, hS2, H⟩ := ixS_Occurrence H (i := 0) rfl hx1
    refine QL.ev rfl rfl (fun _ _ => Ev.ixVN rfl el33 sz48 rfl hvb2 rfl (lt_of hx1)) (QL.ev rfl rfl (fun _ hq => Ev.lda rfl ag48 sz48 rfl ((H.ext hq).rA (i := 2) rfl) rfl) (QL.ev rfl rfl (fun _ hq => Ev.lda rfl ag48 sz48 rfl (At.blk ((H.ext hq).rB (i := 0) rfl)) rfl) (QL.ev rfl rfl (fun _ _ => Ev.bin rfl rfl rfl (Bin.eqlF fl48 (Occurrence_eqF x1 a1))) (QL.nil (fun w3 hE => ?_)))))
    have H := H.ext hE
    refine CW.condD rfl (fun h2 => ?_) (fun h2 => ?_)
    · skip
      have hb1 := ifp h2 hb1
      refine CW.seq (CW.reg ?_)
      refine WL.ev rfl rfl (Ev.mv rfl rfl) (WL.ev rfl rfl (Ev.as rfl rfl) (WL.nil ?_))
      refine CW.ret ?_
      obtain rfl := sm hb1
      obtain rfl := ht1 _ rfl
      obtain rfl := sm hr
      exact ⟨_, res1 rfl rfl rfl, H.ext0, rfl, (i64_nat hk2 hl1)⟩
    · skip
      have hb1 := ifn h2 hb1
      refine CW.skip ?_
      refine CW.reg ?_
      refine WL.ev rfl rfl (Ev.mv rfl rfl) (WL.ev rfl rfl (Ev.bin rfl rfl rfl (Bin.addN (a := k1) (b := 1) rfl (i64_succN hk2 hl1.2))) (WL.ev rfl rfl (Ev.as rfl rfl) (WL.nil ?_)))
      obtain rfl := sm hb1
      have hq1 := hs1 _ rfl
      exact ⟨(k1 + 1), ⟨rfl, rfl, rfl, trivial⟩, ⟨hk2, hq1, H.keep 2 1⟩, Nat.sub_lt_sub_left hk2 (Nat.lt_succ_self _)⟩
  · skip
    obtain rfl := findL_end hq1 (not_cast_lt h1)
    have hr := (onr_inl _ _ _).symm.trans hr
    refine CW.exit ?_
    refine CW.seq (CW.reg ?_)
    refine WL.ev rfl rfl (Ev.as rfl rfl) (WL.nil ?_)
    refine CW.ret ?_
    obtain rfl := sm hr
    exact ⟨_, res1 rfl rfl rfl, H.ext0, rfl, (by decide : I64 (-1))⟩

noncomputable def whasOccurrence_m (a0 : (List Occurrence)) (a1 : Occurrence) : Option Bool :=
  (sOccurrenceIndex_m a0 a1).bind fun y1 =>
  some (decide (0 ≤ y1))
theorem whasOccurrence_ok {a0 : (List Occurrence)} {a1 : Occurrence} {r : Bool} (hr : whasOccurrence_m a0 a1 = some r) {F0 : Nat → Prop} {w0 : World} {z0 : Value} (ha0 : rdS F0 w0 a0 z0) {ca1 : List Value} (ha1 : rd F0 w0 a1 ca1) :
    Ret Try.prog 26 #[z0, .agg ca1.toArray] w0 (fun _ => False) fun v w => v = .bool r := by
  obtain ⟨A0', n0', c0', rfl⟩ := ha0.form3
  have H := ((HL.start F0 w0).argS ha0).argR ha1
  obtain ⟨rfl, hI1, hS1, H⟩ := op_Occurrence H (i := 1) rfl
  refine enter Try.func26 rfl rfl rfl ?_
  refine CW.seq (CW.reg ?_)
  refine WL.boxH rfl rfl rfl rfl rfl H fun b1 w1 H => ?_
  refine WL.ev rfl rfl (Ev.as rfl rfl) (WL.nil ?_)
  refine CW.seq (CW.reg ?_)
  refine WL.ev rfl rfl (Ev.mv rfl rfl) (WL.ev rfl rfl (Ev.lda rfl ag48 sz48 rfl (At.blk (H.rB (i := 0) rfl)) rfl) ?_)
  obtain ⟨y1, hy1, hr⟩ := bd hr
  refine WL.call rfl rfl rfl rfl rfl ok93 rfl (sOccurrenceIndex_ok hy1 (H.rS (i := 0) rfl) ⟨rfl, hI1, hS1⟩) ?_
  rintro _ w2 hE ⟨rfl, hI2⟩
  have H := H.ext hE
  refine WL.ev rfl rfl (Ev.bin rfl rfl rfl Bin.geq) (WL.ev rfl rfl (Ev.as rfl rfl) (WL.nil ?_))
  refine CW.ret ?_
  obtain rfl := sm hr
  exact ⟨_, res1 rfl rfl rfl, H.ext0, rfl⟩

noncomputable def sl32Set_B (rec_sl32Set : (List Occurrence) → Int → l1Cur → Option (Expr × l1Cur)) (a1 : (List Occurrence)) (a2 : Int) (o0 : l1Cur) : Option (Expr × l1Cur) :=
  if a2 < 2 then (
  (sl4Leaf_m 2 a1 o0).bind fun (y1, z1) =>
  some (y1, (⟨o0.b, z1.i, z1.h⟩ : l1Cur))
  ) else (
  (sl1Once_m 3 o0).bind fun (y2, z2) =>
  if y2 = true then (
  (sl4Leaf_m 2 a1 (⟨o0.b, z2.i, z2.h⟩ : l1Cur)).bind fun (y3, z3) =>
  some (y3, (⟨o0.b, z3.i, z3.h⟩ : l1Cur))
  ) else (
  grd (I64 (a2 - 1)) <|
  (rec_sl32Set a1 (a2 - 1) (⟨o0.b, z2.i, z2.h⟩ : l1Cur)).bind fun (y4, z4) =>
  (sl1Below_m 6 (⟨o0.b, z4.i, z4.h⟩ : l1Cur)).bind fun (y5, z5) =>
  if y5 = 0 then (
  (
  grd (I64 (a2 - 1)) <|
  (rec_sl32Set a1 (a2 - 1) (⟨o0.b, z5.i, z5.h⟩ : l1Cur)).bind fun (y6, z6) =>
  (sl4Op_m 7 y4 y6).bind fun y7 =>
  some (y7.Args, z6.i, z6.h, y7.Kind, y7.N, y7.Pos, y7.Type_, y7.Symbol, y7.Name)
  ).bind fun (s1, s2, s3, s4, s5, s6, s7, s8, s9) =>
  some ((⟨s4, s5, s6, s7, s8, s9, s1⟩ : Expr), (⟨o0.b, s2, s3⟩ : l1Cur))
  ) else (
  if y5 = 1 then (
  (
  (sl1Below_m 64 (⟨o0.b, z5.i, z5.h⟩ : l1Cur)).bind fun (y8, z7) =>
  (sl4Const_m y8 2).bind fun y9 =>
  (sl4Op_m 8 y4 y9).bind fun y10 =>
  some (y10.Args, z7.i, z7.h, y10.Kind, y10.N, y10.Pos, y10.Type_, y10.Symbol, y10.Name)
  ).bind fun (s10, s11, s12, s13, s14, s15, s16, s17, s18) =>
  some ((⟨s13, s14, s15, s16, s17, s18, s10⟩ : Expr), (⟨o0.b, s11, s12⟩ : l1Cur))
  ) else (
  if y5 = 2 then (
  (
  (sl1Below_m 9 (⟨o0.b, z5.i, z5.h⟩ : l1Cur)).bind fun (y11, z8) =>
  (sl4Const_m y11 1).bind fun y12 =>
  (sl4Op_m 12 y4 y12).bind fun y13 =>
  some (y13.Args, z8.i, z8.h, y13.Kind, y13.N, y13.Pos, y13.Type_, y13.Symbol, y13.Name)
  ).bind fun (s19, s20, s21, s22, s23, s24, s25, s26, s27) =>
  some ((⟨s22, s23, s24, s25, s26, s27, s19⟩ : Expr), (⟨o0.b, s20, s21⟩ : l1Cur))
  ) else (
  (
  grd (I64 (a2 - 1)) <|
  (rec_sl32Set a1 (a2 - 1) (⟨o0.b, z5.i, z5.h⟩ : l1Cur)).bind fun (y14, z9) =>
  (sl4Op_m 6 y4 y14).bind fun y15 =>
  some (y15.Args, z9.i, z9.h, y15.Kind, y15.N, y15.Pos, y15.Type_, y15.Symbol, y15.Name)
  ).bind fun (s28, s29, s30, s31, s32, s33, s34, s35, s36) =>
  some ((⟨s31, s32, s33, s34, s35, s36, s28⟩ : Expr), (⟨o0.b, s29, s30⟩ : l1Cur))
  )
  )
  )
  )
  )
theorem sl32Set_okB {rec_sl32Set : (List Occurrence) → Int → l1Cur → Option (Expr × l1Cur)} (ih_sl32Set : ∀ {a1 : (List Occurrence)} {a2 : Int} {o0 : l1Cur} {r : (Expr × l1Cur)}, rec_sl32Set a1 a2 o0 = some r → ∀ {F0 : Nat → Prop} {M : List Nat} {w0 : World} {bo0 : Nat} {Aa1 : Option Addr} {na1 ca1 : Nat} {Ao0_0 : Option Addr} {no0_0 co0_0 : Nat} (hIa2 : I64 a2) (hIo0_1 : I64 o0.i) (hIo0_2 : I64 o0.h) (H : HL F0 M w0 w0 [Pr.S a1 (.slice Aa1 na1 ca1), Pr.S o0.b (.slice Ao0_0 no0_0 co0_0)] [It.B bo0 159 [.slice Ao0_0 no0_0 co0_0, .int .i64 o0.i, .int .i64 o0.h]]), Ret Try.prog 158 #[.pointer (some ⟨bo0, 0, none⟩), .slice Aa1 na1 ca1, .int .i64 a2] w0 (· ∈ M) fun v w => ∃ A0 : Option Addr, ∃ n0 c0 : Nat, v = .agg #[.int .i64 r.1.Kind, .int .i64 r.1.N, .int .i64 r.1.Pos, .int .i64 r.1.Type_, .string r.1.Symbol, .string r.1.Name, (.slice A0 n0 c0)] ∧ I64 r.1.Kind ∧ I64 r.1.N ∧ I64 r.1.Pos ∧ I64 r.1.Type_ ∧ r.1.Symbol.size ≤ 9223372036854775807 ∧ r.1.Name.size ≤ 9223372036854775807 ∧ I64 r.2.i ∧ I64 r.2.h ∧ HL F0 M w0 w [] [It.B bo0 159 [.slice Ao0_0 no0_0 co0_0, .int .i64 r.2.i, .int .i64 r.2.h], It.G 31 r.1.Args (.slice A0 n0 c0)]) {a1 : (List Occurrence)} {a2 : Int} {o0 : l1Cur} {r : (Expr × l1Cur)} (hr : sl32Set_B rec_sl32Set a1 a2 o0 = some r) {F0 : Nat → Prop} {M : List Nat} {w0 : World} {bo0 : Nat} {Aa1 : Option Addr} {na1 ca1 : Nat} {Ao0_0 : Option Addr} {no0_0 co0_0 : Nat} (hIa2 : I64 a2) (hIo0_1 : I64 o0.i) (hIo0_2 : I64 o0.h) (H : HL F0 M w0 w0 [Pr.S a1 (.slice Aa1 na1 ca1), Pr.S o0.b (.slice Ao0_0 no0_0 co0_0)] [It.B bo0 159 [.slice Ao0_0 no0_0 co0_0, .int .i64 o0.i, .int .i64 o0.h]]) :
    Ret Try.prog 158 #[.pointer (some ⟨bo0, 0, none⟩), .slice Aa1 na1 ca1, .int .i64 a2] w0 (· ∈ M) fun v w => ∃ A0 : Option Addr, ∃ n0 c0 : Nat, v = .agg #[.int .i64 r.1.Kind, .int .i64 r.1.N, .int .i64 r.1.Pos, .int .i64 r.1.Type_, .string r.1.Symbol, .string r.1.Name, (.slice A0 n0 c0)] ∧ I64 r.1.Kind ∧ I64 r.1.N ∧ I64 r.1.Pos ∧ I64 r.1.Type_ ∧ r.1.Symbol.size ≤ 9223372036854775807 ∧ r.1.Name.size ≤ 9223372036854775807 ∧ I64 r.2.i ∧ I64 r.2.h ∧ HL F0 M w0 w [] [It.B bo0 159 [.slice Ao0_0 no0_0 co0_0, .int .i64 r.2.i, .int .i64 r.2.h], It.G 31 r.1.Args (.slice A0 n0 c0)] := by
  refine enter Try.func158 rfl rfl rfl ?_
  refine CW.seq (CW.reg ?_)
  refine WL.allocH rfl rfl rfl ze31 H fun b1 w1 H => ?_
  refine WL.nil ?_
  refine CW.seq (CW.seq (CW.reg ?_))
  refine WL.ev rfl rfl (Ev.mv rfl rfl) (WL.ev rfl rfl (Ev.bin rfl rfl rfl Bin.lss) ?_)
  refine WL.mvD rfl rfl rfl rfl (fun h1 => ?_) (fun h1 => ?_)
  · skip
    have hr := ifp h1 hr
    refine WL.off rfl rfl rfl (WL.off rfl rfl rfl (WL.ev rfl rfl (Ev.pickT rfl rfl rfl) (WL.nil ?_)))
    refine CW.condT rfl ?_
    refine CW.seq (CW.reg ?_)
    refine WL.ev rfl rfl (Ev.mv rfl rfl) (WL.ev rfl rfl (Ev.mv rfl rfl) ?_)
    obtain ⟨⟨y1, z1⟩, hy1, hr⟩ := bd hr
    obtain ⟨F', M', hfF, hoF, hcM⟩ := H.callN [true, false] ⟨noB, trivial⟩
    obtain ⟨H', hcN⟩ := hcM (ps := [Pr.S a1 (.slice Aa1 na1 ca1), Pr.S o0.b (.slice Ao0_0 no0_0 co0_0)]) ⟨hfF.get (i := 0) rfl, hfF.get (i := 1) rfl, trivial⟩
    refine WL.call rfl rfl rfl rfl rfl ok186 rfl (sl4Leaf_ok hy1 (by decide : I64 2) hIo0_1 hIo0_2 H') ?_
    rintro _ w2 hE ⟨A1, n1, c1, rfl, hI1, hI2, hI3, hI4, hS1, hS2, hI5, hI6, H'⟩
    have H := hcN 1 H' rfl ⟨fun _ _ _ _ _ h => h, ⟨fun _ _ _ _ _ h => h, trivial⟩⟩
    refine WL.stB (i := 1) rfl rfl rfl sz31 rfl rfl rfl rfl (all1 rfl (all1 rfl (all1 rfl (all1 rfl (all1 rfl (all1 rfl (all1 rfl all0))))))) H rfl rfl rfl fun w3 H => ?_
    refine WL.nil ?_
    refine CW.ret ?_
    have H := H.toG (i := 2) rfl
    obtain rfl := sm hr
    exact ⟨_, resC rfl ag31 sz31 rfl rfl (At.blk (H.rB (i := 1) rfl)) rfl, H.chg, _, _, _, rfl, hI1, hI2, hI3, hI4, hS1, hS2, hI5, hI6, H.outM (fr' := []) [true, false, true] fun _ _ => trivial⟩
  · skip
    have hr := ifn h1 hr
    refine WL.on rfl rfl (WL.ev rfl rfl (Ev.mv rfl rfl) (WL.on rfl rfl ?_))
    obtain ⟨⟨y2, z2⟩, hy2, hr⟩ := bd hr
    obtain ⟨F', M', hfF, hoF, hcM⟩ := H.callN [true, false] ⟨noB, trivial⟩
    obtain ⟨H', hcN⟩ := hcM (ps := [Pr.S o0.b (.slice Ao0_0 no0_0 co0_0)]) ⟨hfF.get (i := 1) rfl, trivial⟩
    refine WL.call rfl rfl rfl rfl rfl ok97 rfl (sl1Once_ok hy2 (by decide : I64 3) hIo0_1 hIo0_2 H') ?_
    rintro _ w4 hE ⟨rfl, hI7, hI8, H'⟩
    have H := hcN 1 H' rfl ⟨fun _ _ _ _ _ h => h, trivial⟩
    refine WL.ev rfl rfl (Ev.pickF rfl rfl rfl) (WL.nil ?_)
    refine CW.condB rfl (fun h2 => ?_) (fun h2 => ?_)
    · skip
      have hr := ifp h2 hr
      refine CW.seq (CW.reg ?_)
      refine WL.ev rfl rfl (Ev.mv rfl rfl) (WL.ev rfl rfl (Ev.mv rfl rfl) ?_)
      obtain ⟨⟨y3, z3⟩, hy3, hr⟩ := bd hr
      obtain ⟨F', M', hfF, hoF, hcM⟩ := H.callN [true, false] ⟨noB, trivial⟩
      obtain ⟨H', hcN⟩ := hcM (ps := [Pr.S a1 (.slice Aa1 na1 ca1), Pr.S o0.b (.slice Ao0_0 no0_0 co0_0)]) ⟨hfF.get (i := 0) rfl, hfF.get (i := 1) rfl, trivial⟩
      refine WL.call rfl rfl rfl rfl rfl ok186 rfl (sl4Leaf_ok hy3 (by decide : I64 2) hI7 hI8 H') ?_
      rintro _ w5 hE ⟨A2, n2, c2, rfl, hI9, hI10, hI11, hI12, hS3, hS4, hI13, hI14, H'⟩
      have H := hcN 1 H' rfl ⟨fun _ _ _ _ _ h => h, ⟨fun _ _ _ _ _ h => h, trivial⟩⟩
      refine WL.stB (i := 1) rfl rfl rfl sz31 rfl rfl rfl rfl (all1 rfl (all1 rfl (all1 rfl (all1 rfl (all1 rfl (all1 rfl (all1 rfl all0))))))) H rfl rfl rfl fun w6 H => ?_
      refine WL.nil ?_
      refine CW.ret ?_
      have H := H.toG (i := 2) rfl
      obtain rfl := sm hr
      exact ⟨_, resC rfl ag31 sz31 rfl rfl (At.blk (H.rB (i := 1) rfl)) rfl, H.chg, _, _, _, rfl, hI9, hI10, hI11, hI12, hS3, hS4, hI13, hI14, H.outM (fr' := []) [true, false, true] fun _ _ => trivial⟩
    · skip
      have hr := ifn h2 hr
      refine CW.skip ?_
      refine CW.seq (CW.reg ?_)
      refine WL.ev rfl rfl (Ev.mv rfl rfl) (WL.ev rfl rfl (Ev.mv rfl rfl) (WL.ev rfl rfl (Ev.mv rfl rfl) ?_))
      obtain ⟨hg1, hr⟩ := grd_some hr
      refine WL.ev rfl rfl (Ev.bin rfl rfl rfl (Bin.sub hg1)) ?_
      obtain ⟨⟨y4, z4⟩, hy4, hr⟩ := bd hr
      obtain ⟨F', M', hfF, hcM⟩ := H.callW [true, false] ⟨noB, trivial⟩
      obtain ⟨H', hcN⟩ := hcM (ps := [Pr.S a1 (.slice Aa1 na1 ca1), Pr.S o0.b (.slice Ao0_0 no0_0 co0_0)]) ⟨hfF.get (i := 0) rfl, hfF.get (i := 1) rfl, trivial⟩
      refine WL.call rfl rfl rfl rfl rfl ok158 rfl (ih_sl32Set hy4 hg1 hI7 hI8 H') ?_
      rintro _ w7 hE ⟨A3, n3, c3, rfl, hI15, hI16, hI17, hI18, hS5, hS6, hI19, hI20, H'⟩
      have H := hcN 1 H' rfl
      refine WL.allocH rfl rfl rfl ze31 H fun b2 w8 H => ?_
      refine WL.stB (i := 3) rfl rfl rfl sz31 rfl rfl rfl rfl (all1 rfl (all1 rfl (all1 rfl (all1 rfl (all1 rfl (all1 rfl (all1 rfl all0))))))) H rfl rfl rfl fun w9 H => ?_
      refine WL.nil ?_
      refine CW.seq (CW.seq (CW.reg ?_))
      refine WL.ev rfl rfl (Ev.mv rfl rfl) ?_
      obtain ⟨⟨y5, z5⟩, hy5, hr⟩ := bd hr
      obtain ⟨F', M', hfF, hoF, hcM⟩ := H.callN [true, false, false, false] ⟨noB, trivial⟩
      obtain ⟨H', hcN⟩ := hcM (ps := [Pr.S o0.b (.slice Ao0_0 no0_0 co0_0)]) ⟨hfF.get (i := 1) rfl, trivial⟩
      refine WL.call rfl rfl rfl rfl rfl ok86 rfl (sl1Below_ok hy5 (by decide : I64 6) hI19 hI20 H') ?_
      rintro _ w10 hE ⟨rfl, hI21, hI22, hI23, H'⟩
      have H := hcN 1 H' rfl ⟨fun _ _ _ _ _ h => h, trivial⟩
      refine WL.nil ?_
      refine CW.block (CW.seq (CW.reg ?_))
      refine WL.ev rfl rfl (Ev.bin rfl rfl rfl Bin.eql) (WL.ev rfl rfl (Ev.as rfl rfl) (WL.nil ?_))
      refine CW.condD rfl (fun h3 => ?_) (fun h3 => ?_)
      · skip
        have hr := ifp h3 hr
        have H := H.nilG (α := Expr) 31
        obtain ⟨q1, hm1, hr⟩ := bd hr
        refine CW.seq (CW.mid (fun ρ' w => ∃ (s1 : List Expr) (s2 : Int) (s3 : Int) (s4 : Int) (s5 : Int) (s6 : Int) (s7 : Int) (s8 : ByteArray) (s9 : ByteArray) (v1 : Value), q1 = (s1, s2, s3, s4, s5, s6, s7, s8, s9) ∧ agree ρ' [(6, .pointer (some ⟨b1, 0, none⟩))] ∧ I64 s2 ∧ I64 s3 ∧ I64 s4 ∧ I64 s5 ∧ I64 s6 ∧ I64 s7 ∧ s8.size ≤ 9223372036854775807 ∧ s9.size ≤ 9223372036854775807 ∧ HL F0 M w0 w [Pr.S a1 (.slice Aa1 na1 ca1), Pr.S o0.b (.slice Ao0_0 no0_0 co0_0)] [It.B bo0 159 [.slice Ao0_0 no0_0 co0_0, .int .i64 s2, .int .i64 s3], It.B b1 31 [.int .i64 s4, .int .i64 s5, .int .i64 s6, .int .i64 s7, .string s8, .string s9, v1], It.emp, It.B b2 31 [.int .i64 y4.Kind, .int .i64 y4.N, .int .i64 y4.Pos, .int .i64 y4.Type_, .string y4.Symbol, .string y4.Name, .slice A3 n3 c3], It.G 31 ([] : List Expr) (.slice none 0 0), It.G 31 s1 v1]) ?_ ?_)
        · skip
          obtain ⟨hg2, hm1⟩ := grd_some hm1
          refine CW.held (fun w => ∃ v0_1_ : Value, ∃ v0_2_ : Value, ∃ v1_0_ : Value, ∃ v1_1_ : Value, ∃ v1_2_ : Value, ∃ v1_3_ : Value, ∃ v1_4_ : Value, ∃ v1_5_ : Value, ∃ v1_6_ : Value, ∃ o2_ : It, ∃ v3_6_ : Value, HL F0 M w0 w [Pr.S a1 (.slice Aa1 na1 ca1), Pr.S o0.b (.slice Ao0_0 no0_0 co0_0)] [It.B bo0 159 [.slice Ao0_0 no0_0 co0_0, v0_1_, v0_2_], It.B b1 31 [v1_0_, v1_1_, v1_2_, v1_3_, v1_4_, v1_5_, v1_6_], o2_, It.B b2 31 [.int .i64 y4.Kind, .int .i64 y4.N, .int .i64 y4.Pos, .int .i64 y4.Type_, .string y4.Symbol, .string y4.Name, v3_6_], It.G 31 ([] : List Expr) (.slice none 0 0)]) hmix (fun w11 hE => ?_)
          have H : HL F0 M w0 w11 [Pr.S a1 (.slice Aa1 na1 ca1), Pr.S o0.b (.slice Ao0_0 no0_0 co0_0)] [It.B bo0 159 [.slice Ao0_0 no0_0 co0_0, .int .i64 z5.i, .int .i64 z5.h], It.B b1 31 [.int .i64 0, .int .i64 0, .int .i64 0, .int .i64 0, .string (⟨#[]⟩ : ByteArray), .string (⟨#[]⟩ : ByteArray), .slice none 0 0], It.G 31 y4.Args (.slice A3 n3 c3), It.B b2 31 [.int .i64 y4.Kind, .int .i64 y4.N, .int .i64 y4.Pos, .int .i64 y4.Type_, .string y4.Symbol, .string y4.Name, .slice A3 n3 c3], It.G 31 ([] : List Expr) (.slice none 0 0)] := H.ext hE
          refine HW.take 1 ⟨_, _, _, _, _, _, _, _, _, _, _, H.keep 2 5⟩ rfl (by kernel_rfl) rfl rfl (fun _ _ => Ev.mv rfl rfl) ?_
          refine HW.take 2 ⟨_, _, _, _, _, _, _, _, _, _, _, H.keep 2 5⟩ rfl (by kernel_rfl) rfl rfl (fun _ _ => Ev.mv rfl rfl) ?_
          refine HW.take 3 ⟨_, _, _, _, _, _, _, _, _, _, _, H.keep 2 5⟩ rfl (by kernel_rfl) rfl rfl (fun _ _ => Ev.mv rfl rfl) ?_
          refine HW.take 4 ⟨_, _, _, _, _, _, _, _, _, _, _, H.keep 2 5⟩ rfl (by kernel_rfl) rfl rfl (fun _ _ => Ev.bin rfl rfl rfl (Bin.sub hg2)) ?_
          refine HW.some [0, 5] (by kernel_rfl) rfl ⟨HW.do1 rfl ?_, HW.do1 rfl ?_, trivial⟩
          · skip
            refine WL.ev rfl rfl (Ev.lda rfl ag31 sz31 rfl (At.blk (H.rB (i := 3) rfl)) rfl) ?_
            refine HW.next ⟨_, _, _, _, _, _, _, _, _, _, _, H.keep 2 5⟩ ?_
            refine HW.eff 5 rfl (by kernel_rfl) ?_
            obtain ⟨⟨y6, z6⟩, hy6, hm1⟩ := bd hm1
            obtain ⟨F', M', hfF, hcM⟩ := H.callW [true, false, false, false, false] ⟨noB, trivial⟩
            obtain ⟨H', hcN⟩ := hcM (ps := [Pr.S a1 (.slice Aa1 na1 ca1), Pr.S o0.b (.slice Ao0_0 no0_0 co0_0)]) ⟨hfF.get (i := 0) rfl, hfF.get (i := 1) rfl, trivial⟩
            refine WL.call rfl rfl rfl rfl rfl ok158 rfl (ih_sl32Set hy6 hg2 hI22 hI23 H') ?_
            rintro _ w12 hE ⟨A4, n4, c4, rfl, hI30, hI31, hI32, hI33, hS9, hS10, hI34, hI35, H'⟩
            have H := hcN 1 H' rfl
            refine HW.next ⟨_, _, _, _, _, _, _, _, _, _, _, H.keep 2 5⟩ ?_
            refine HW.eff 6 rfl (by kernel_rfl) ?_
            have H := H.frzG (i := 2) rfl
            have H := H.frzG (i := 5) rfl
            obtain ⟨y7, hy7, hm1⟩ := bd hm1
            obtain ⟨F, hF, hcl⟩ := H.call
            refine WL.call rfl rfl rfl rfl rfl ok99 rfl (sl4Op_ok hy7 (by decide : I64 7) (Expr_rd.2 ⟨_, rfl, hI15, hI16, hI17, hI18, hS5, hS6, (hF.get (i := 2) rfl)⟩) (Expr_rd.2 ⟨_, rfl, hI30, hI31, hI32, hI33, hS9, hS10, (hF.get (i := 3) rfl)⟩)) ?_
            rintro _ w13 hE ⟨A5, n5, c5, rfl, hI36, hI37, hI38, hI39, hS11, hS12, H'⟩
            have H : HL F0 M w0 w13 [Pr.S a1 (.slice Aa1 na1 ca1), Pr.S o0.b (.slice Ao0_0 no0_0 co0_0), Pr.S y4.Args (.slice A3 n3 c3), Pr.S y6.Args (.slice A4 n4 c4)] [It.B bo0 159 [.slice Ao0_0 no0_0 co0_0, .int .i64 z6.i, .int .i64 z6.h], It.B b1 31 [.int .i64 0, .int .i64 0, .int .i64 0, .int .i64 0, .string (⟨#[]⟩ : ByteArray), .string (⟨#[]⟩ : ByteArray), .slice none 0 0], It.emp, It.B b2 31 [.int .i64 y4.Kind, .int .i64 y4.N, .int .i64 y4.Pos, .int .i64 y4.Type_, .string y4.Symbol, .string y4.Name, .slice A3 n3 c3], It.G 31 ([] : List Expr) (.slice none 0 0), It.emp, It.G 31 y7.Args (.slice A5 n5 c5)] := hcl H'
            refine HW.next ⟨_, _, _, _, _, _, _, _, _, _, _, H.keep 2 5⟩ ?_
            refine HW.eff 7 rfl (by kernel_rfl) ?_
            refine WL.stB (i := 1) rfl rfl rfl sz31 rfl rfl rfl rfl (all1 rfl (all1 rfl (all1 rfl (all1 rfl (all1 rfl (all1 rfl (all1 rfl all0))))))) H rfl rfl rfl fun w14 H => ?_
            refine HW.next ⟨_, _, _, _, _, _, _, _, _, _, _, H.keep 2 5⟩ ?_
            refine HW.done (by kernel_rfl) ?_
            have H := H.swap 5 6
            obtain rfl := sm hm1
            exact ⟨y7.Args, z6.i, z6.h, y7.Kind, y7.N, y7.Pos, y7.Type_, y7.Symbol, y7.Name, _, rfl, ⟨rfl, trivial⟩, hI34, hI35, hI36, hI37, hI38, hI39, hS11, hS12, H.keep 2 6⟩
          · skip
            obtain ⟨⟨y6, z6⟩, hy6, hm1⟩ := bd hm1
            obtain ⟨y7, hy7, hm1⟩ := bd hm1
            obtain ⟨F', M', hfF, hcM⟩ := H.callW [true, false, false, false, false] ⟨noB, trivial⟩
            obtain ⟨H', hcN⟩ := hcM (ps := [Pr.S a1 (.slice Aa1 na1 ca1), Pr.S o0.b (.slice Ao0_0 no0_0 co0_0)]) ⟨hfF.get (i := 0) rfl, hfF.get (i := 1) rfl, trivial⟩
            refine WL.call rfl rfl rfl rfl rfl ok158 rfl (ih_sl32Set hy6 hg2 hI22 hI23 H') ?_
            rintro _ w12 hE ⟨A4, n4, c4, rfl, hI30, hI31, hI32, hI33, hS9, hS10, hI34, hI35, H'⟩
            have H := hcN 1 H' rfl
            refine HW.next ⟨_, _, _, _, _, _, _, _, _, _, _, H.keep 2 5⟩ ?_
            refine HW.eff 0 rfl (by kernel_rfl) ?_
            refine WL.ev rfl rfl (Ev.lda rfl ag31 sz31 rfl (At.blk (H.rB (i := 3) rfl)) rfl) ?_
            refine HW.next ⟨_, _, _, _, _, _, _, _, _, _, _, H.keep 2 5⟩ ?_
            refine HW.eff 6 rfl (by kernel_rfl) ?_
            have H := H.frzG (i := 2) rfl
            have H := H.frzG (i := 5) rfl
            obtain ⟨F, hF, hcl⟩ := H.call
            refine WL.call rfl rfl rfl rfl rfl ok99 rfl (sl4Op_ok hy7 (by decide : I64 7) (Expr_rd.2 ⟨_, rfl, hI15, hI16, hI17, hI18, hS5, hS6, (hF.get (i := 2) rfl)⟩) (Expr_rd.2 ⟨_, rfl, hI30, hI31, hI32, hI33, hS9, hS10, (hF.get (i := 3) rfl)⟩)) ?_
            rintro _ w13 hE ⟨A5, n5, c5, rfl, hI36, hI37, hI38, hI39, hS11, hS12, H'⟩
            have H : HL F0 M w0 w13 [Pr.S a1 (.slice Aa1 na1 ca1), Pr.S o0.b (.slice Ao0_0 no0_0 co0_0), Pr.S y4.Args (.slice A3 n3 c3), Pr.S y6.Args (.slice A4 n4 c4)] [It.B bo0 159 [.slice Ao0_0 no0_0 co0_0, .int .i64 z6.i, .int .i64 z6.h], It.B b1 31 [.int .i64 0, .int .i64 0, .int .i64 0, .int .i64 0, .string (⟨#[]⟩ : ByteArray), .string (⟨#[]⟩ : ByteArray), .slice none 0 0], It.emp, It.B b2 31 [.int .i64 y4.Kind, .int .i64 y4.N, .int .i64 y4.Pos, .int .i64 y4.Type_, .string y4.Symbol, .string y4.Name, .slice A3 n3 c3], It.G 31 ([] : List Expr) (.slice none 0 0), It.emp, It.G 31 y7.Args (.slice A5 n5 c5)] := hcl H'
            refine HW.next ⟨_, _, _, _, _, _, _, _, _, _, _, H.keep 2 5⟩ ?_
            refine HW.eff 7 rfl (by kernel_rfl) ?_
            refine WL.stB (i := 1) rfl rfl rfl sz31 rfl rfl rfl rfl (all1 rfl (all1 rfl (all1 rfl (all1 rfl (all1 rfl (all1 rfl (all1 rfl all0))))))) H rfl rfl rfl fun w14 H => ?_
            refine HW.next ⟨_, _, _, _, _, _, _, _, _, _, _, H.keep 2 5⟩ ?_
            refine HW.done (by kernel_rfl) ?_
            have H := H.swap 5 6
            obtain rfl := sm hm1
            exact ⟨y7.Args, z6.i, z6.h, y7.Kind, y7.N, y7.Pos, y7.Type_, y7.Symbol, y7.Name, _, rfl, ⟨rfl, trivial⟩, hI34, hI35, hI36, hI37, hI38, hI39, hS11, hS12, H.keep 2 6⟩
        · rintro ρ' w15 ⟨s1, s2, s3, s4, s5, s6, s7, s8, s9, v1, rfl, hag, hI24, hI25, hI26, hI27, hI28, hI29, hS7, hS8, H⟩
          obtain ⟨σ, rfl⟩ := ofL_ex hag
          obtain ⟨A6, n6, c6, rfl⟩ := (H.rG (i := 5) rfl).form3
          refine CW.ret ?_
          obtain rfl := sm hr
          exact ⟨_, resC rfl ag31 sz31 rfl rfl (At.blk (H.rB (i := 1) rfl)) rfl, H.chg, _, _, _, rfl, hI26, hI27, hI28, hI29, hS7, hS8, hI24, hI25, H.outM (fr' := []) [true, false, false, false, false, true] fun _ _ => trivial⟩
      · skip
        have hr := ifn h3 hr
        refine CW.seq (CW.reg ?_)
        refine WL.ev rfl rfl (Ev.bin rfl rfl rfl Bin.eql) (WL.ev rfl rfl (Ev.as rfl rfl) (WL.nil ?_))
        refine CW.condD rfl (fun h4 => ?_) (fun h4 => ?_)
        · skip
          have hr := ifp h4 hr
          have H := H.nilG (α := Expr) 31
          obtain ⟨q2, hm2, hr⟩ := bd hr
          refine CW.seq (CW.mid (fun ρ' w => ∃ (s10 : List Expr) (s11 : Int) (s12 : Int) (s13 : Int) (s14 : Int) (s15 : Int) (s16 : Int) (s17 : ByteArray) (s18 : ByteArray) (v2 : Value), q2 = (s10, s11, s12, s13, s14, s15, s16, s17, s18) ∧ agree ρ' [(6, .pointer (some ⟨b1, 0, none⟩))] ∧ I64 s11 ∧ I64 s12 ∧ I64 s13 ∧ I64 s14 ∧ I64 s15 ∧ I64 s16 ∧ s17.size ≤ 9223372036854775807 ∧ s18.size ≤ 9223372036854775807 ∧ HL F0 M w0 w [Pr.S a1 (.slice Aa1 na1 ca1), Pr.S o0.b (.slice Ao0_0 no0_0 co0_0)] [It.B bo0 159 [.slice Ao0_0 no0_0 co0_0, .int .i64 s11, .int .i64 s12], It.B b1 31 [.int .i64 s13, .int .i64 s14, .int .i64 s15, .int .i64 s16, .string s17, .string s18, v2], It.emp, It.B b2 31 [.int .i64 y4.Kind, .int .i64 y4.N, .int .i64 y4.Pos, .int .i64 y4.Type_, .string y4.Symbol, .string y4.Name, .slice A3 n3 c3], It.G 31 ([] : List Expr) (.slice none 0 0), It.G 31 s10 v2]) ?_ ?_)
          · skip
            refine CW.held (fun w => ∃ v0_1_ : Value, ∃ v0_2_ : Value, ∃ v1_0_ : Value, ∃ v1_1_ : Value, ∃ v1_2_ : Value, ∃ v1_3_ : Value, ∃ v1_4_ : Value, ∃ v1_5_ : Value, ∃ v1_6_ : Value, ∃ o2_ : It, ∃ v3_6_ : Value, HL F0 M w0 w [Pr.S a1 (.slice Aa1 na1 ca1), Pr.S o0.b (.slice Ao0_0 no0_0 co0_0)] [It.B bo0 159 [.slice Ao0_0 no0_0 co0_0, v0_1_, v0_2_], It.B b1 31 [v1_0_, v1_1_, v1_2_, v1_3_, v1_4_, v1_5_, v1_6_], o2_, It.B b2 31 [.int .i64 y4.Kind, .int .i64 y4.N, .int .i64 y4.Pos, .int .i64 y4.Type_, .string y4.Symbol, .string y4.Name, v3_6_], It.G 31 ([] : List Expr) (.slice none 0 0)]) hmix (fun w16 hE => ?_)
            have H : HL F0 M w0 w16 [Pr.S a1 (.slice Aa1 na1 ca1), Pr.S o0.b (.slice Ao0_0 no0_0 co0_0)] [It.B bo0 159 [.slice Ao0_0 no0_0 co0_0, .int .i64 z5.i, .int .i64 z5.h], It.B b1 31 [.int .i64 0, .int .i64 0, .int .i64 0, .int .i64 0, .string (⟨#[]⟩ : ByteArray), .string (⟨#[]⟩ : ByteArray), .slice none 0 0], It.G 31 y4.Args (.slice A3 n3 c3), It.B b2 31 [.int .i64 y4.Kind, .int .i64 y4.N, .int .i64 y4.Pos, .int .i64 y4.Type_, .string y4.Symbol, .string y4.Name, .slice A3 n3 c3], It.G 31 ([] : List Expr) (.slice none 0 0)] := H.ext hE
            refine HW.take 1 ⟨_, _, _, _, _, _, _, _, _, _, _, H.keep 2 5⟩ rfl (by kernel_rfl) rfl rfl (fun _ _ => Ev.mv rfl rfl) ?_
            refine HW.some [0, 2] (by kernel_rfl) rfl ⟨HW.do1 rfl ?_, HW.do1 rfl ?_, trivial⟩
            · skip
              refine WL.ev rfl rfl (Ev.lda rfl ag31 sz31 rfl (At.blk (H.rB (i := 3) rfl)) rfl) ?_
              refine HW.next ⟨_, _, _, _, _, _, _, _, _, _, _, H.keep 2 5⟩ ?_
              refine HW.eff 2 rfl (by kernel_rfl) ?_
              obtain ⟨⟨y8, z7⟩, hy8, hm2⟩ := bd hm2
              obtain ⟨F', M', hfF, hoF, hcM⟩ := H.callN [true, false, false, false, false] ⟨noB, trivial⟩
              obtain ⟨H', hcN⟩ := hcM (ps := [Pr.S o0.b (.slice Ao0_0 no0_0 co0_0)]) ⟨hfF.get (i := 1) rfl, trivial⟩
              refine WL.call rfl rfl rfl rfl rfl ok86 rfl (sl1Below_ok hy8 (by decide : I64 64) hI22 hI23 H') ?_
              rintro _ w17 hE ⟨rfl, hI46, hI47, hI48, H'⟩
              have H := hcN 1 H' rfl ⟨fun _ _ _ _ _ h => h, trivial⟩
              refine HW.next ⟨_, _, _, _, _, _, _, _, _, _, _, H.keep 2 5⟩ ?_
              refine HW.eff 3 rfl (by kernel_rfl) ?_
              obtain ⟨y9, hy9, hm2⟩ := bd hm2
              refine WL.call rfl rfl rfl rfl rfl ok98 rfl (sl4Const_ok hy9 (F0 := fun _ => False) hI46 (by decide : I64 2)) ?_
              rintro _ w18 hE ⟨A7, n7, c7, rfl, hI49, hI50, hI51, hI52, hS15, hS16, H'⟩
              have H := H.callA H' ⟨fun _ _ _ _ _ h => h, trivial⟩
              refine HW.next ⟨_, _, _, _, _, _, _, _, _, _, _, H.keep 2 5⟩ ?_
              refine HW.eff 4 rfl (by kernel_rfl) ?_
              have H := H.frzG (i := 2) rfl
              have H := H.frzO (i := 5) rfl
              obtain ⟨y10, hy10, hm2⟩ := bd hm2
              obtain ⟨F, hF, hcl⟩ := H.call
              refine WL.call rfl rfl rfl rfl rfl ok99 rfl (sl4Op_ok hy10 (by decide : I64 8) (Expr_rd.2 ⟨_, rfl, hI15, hI16, hI17, hI18, hS5, hS6, (hF.get (i := 2) rfl)⟩) (Expr_rd.2 ⟨_, rfl, hI49, hI50, hI51, hI52, hS15, hS16, (hF.get (i := 3) rfl)⟩)) ?_
              rintro _ w19 hE ⟨A8, n8, c8, rfl, hI53, hI54, hI55, hI56, hS17, hS18, H'⟩
              have H : HL F0 M w0 w19 [Pr.S a1 (.slice Aa1 na1 ca1), Pr.S o0.b (.slice Ao0_0 no0_0 co0_0), Pr.S y4.Args (.slice A3 n3 c3), Pr.S y9.Args (.slice A7 n7 c7)] [It.B bo0 159 [.slice Ao0_0 no0_0 co0_0, .int .i64 z7.i, .int .i64 z7.h], It.B b1 31 [.int .i64 0, .int .i64 0, .int .i64 0, .int .i64 0, .string (⟨#[]⟩ : ByteArray), .string (⟨#[]⟩ : ByteArray), .slice none 0 0], It.emp, It.B b2 31 [.int .i64 y4.Kind, .int .i64 y4.N, .int .i64 y4.Pos, .int .i64 y4.Type_, .string y4.Symbol, .string y4.Name, .slice A3 n3 c3], It.G 31 ([] : List Expr) (.slice none 0 0), It.emp, It.G 31 y10.Args (.slice A8 n8 c8)] := hcl H'
              refine HW.next ⟨_, _, _, _, _, _, _, _, _, _, _, H.keep 2 5⟩ ?_
              refine HW.eff 5 rfl (by kernel_rfl) ?_
              refine WL.stB (i := 1) rfl rfl rfl sz31 rfl rfl rfl rfl (all1 rfl (all1 rfl (all1 rfl (all1 rfl (all1 rfl (all1 rfl (all1 rfl all0))))))) H rfl rfl rfl fun w20 H => ?_
              refine HW.next ⟨_, _, _, _, _, _, _, _, _, _, _, H.keep 2 5⟩ ?_
              refine HW.done (by kernel_rfl) ?_
              have H := H.swap 5 6
              obtain rfl := sm hm2
              exact ⟨y10.Args, z7.i, z7.h, y10.Kind, y10.N, y10.Pos, y10.Type_, y10.Symbol, y10.Name, _, rfl, ⟨rfl, trivial⟩, hI47, hI48, hI53, hI54, hI55, hI56, hS17, hS18, H.keep 2 6⟩
            · skip
              obtain ⟨⟨y8, z7⟩, hy8, hm2⟩ := bd hm2
              obtain ⟨y9, hy9, hm2⟩ := bd hm2
              obtain ⟨y10, hy10, hm2⟩ := bd hm2
              obtain ⟨F', M', hfF, hoF, hcM⟩ := H.callN [true, false, false, false, false] ⟨noB, trivial⟩
              obtain ⟨H', hcN⟩ := hcM (ps := [Pr.S o0.b (.slice Ao0_0 no0_0 co0_0)]) ⟨hfF.get (i := 1) rfl, trivial⟩
              refine WL.call rfl rfl rfl rfl rfl ok86 rfl (sl1Below_ok hy8 (by decide : I64 64) hI22 hI23 H') ?_
              rintro _ w17 hE ⟨rfl, hI46, hI47, hI48, H'⟩
              have H := hcN 1 H' rfl ⟨fun _ _ _ _ _ h => h, trivial⟩
              refine HW.next ⟨_, _, _, _, _, _, _, _, _, _, _, H.keep 2 5⟩ ?_
              refine HW.some [0, 3] (by kernel_rfl) rfl ⟨HW.do1 rfl ?_, HW.do1 rfl ?_, trivial⟩
              · skip
                refine WL.ev rfl rfl (Ev.lda rfl ag31 sz31 rfl (At.blk (H.rB (i := 3) rfl)) rfl) ?_
                refine HW.next ⟨_, _, _, _, _, _, _, _, _, _, _, H.keep 2 5⟩ ?_
                refine HW.eff 3 rfl (by kernel_rfl) ?_
                refine WL.call rfl rfl rfl rfl rfl ok98 rfl (sl4Const_ok hy9 (F0 := fun _ => False) hI46 (by decide : I64 2)) ?_
                rintro _ w18 hE ⟨A7, n7, c7, rfl, hI49, hI50, hI51, hI52, hS15, hS16, H'⟩
                have H := H.callA H' ⟨fun _ _ _ _ _ h => h, trivial⟩
                refine HW.next ⟨_, _, _, _, _, _, _, _, _, _, _, H.keep 2 5⟩ ?_
                refine HW.eff 4 rfl (by kernel_rfl) ?_
                have H := H.frzG (i := 2) rfl
                have H := H.frzO (i := 5) rfl
                obtain ⟨F, hF, hcl⟩ := H.call
                refine WL.call rfl rfl rfl rfl rfl ok99 rfl (sl4Op_ok hy10 (by decide : I64 8) (Expr_rd.2 ⟨_, rfl, hI15, hI16, hI17, hI18, hS5, hS6, (hF.get (i := 2) rfl)⟩) (Expr_rd.2 ⟨_, rfl, hI49, hI50, hI51, hI52, hS15, hS16, (hF.get (i := 3) rfl)⟩)) ?_
                rintro _ w19 hE ⟨A8, n8, c8, rfl, hI53, hI54, hI55, hI56, hS17, hS18, H'⟩
                have H : HL F0 M w0 w19 [Pr.S a1 (.slice Aa1 na1 ca1), Pr.S o0.b (.slice Ao0_0 no0_0 co0_0), Pr.S y4.Args (.slice A3 n3 c3), Pr.S y9.Args (.slice A7 n7 c7)] [It.B bo0 159 [.slice Ao0_0 no0_0 co0_0, .int .i64 z7.i, .int .i64 z7.h], It.B b1 31 [.int .i64 0, .int .i64 0, .int .i64 0, .int .i64 0, .string (⟨#[]⟩ : ByteArray), .string (⟨#[]⟩ : ByteArray), .slice none 0 0], It.emp, It.B b2 31 [.int .i64 y4.Kind, .int .i64 y4.N, .int .i64 y4.Pos, .int .i64 y4.Type_, .string y4.Symbol, .string y4.Name, .slice A3 n3 c3], It.G 31 ([] : List Expr) (.slice none 0 0), It.emp, It.G 31 y10.Args (.slice A8 n8 c8)] := hcl H'
                refine HW.next ⟨_, _, _, _, _, _, _, _, _, _, _, H.keep 2 5⟩ ?_
                refine HW.eff 5 rfl (by kernel_rfl) ?_
                refine WL.stB (i := 1) rfl rfl rfl sz31 rfl rfl rfl rfl (all1 rfl (all1 rfl (all1 rfl (all1 rfl (all1 rfl (all1 rfl (all1 rfl all0))))))) H rfl rfl rfl fun w20 H => ?_
                refine HW.next ⟨_, _, _, _, _, _, _, _, _, _, _, H.keep 2 5⟩ ?_
                refine HW.done (by kernel_rfl) ?_
                have H := H.swap 5 6
                obtain rfl := sm hm2
                exact ⟨y10.Args, z7.i, z7.h, y10.Kind, y10.N, y10.Pos, y10.Type_, y10.Symbol, y10.Name, _, rfl, ⟨rfl, trivial⟩, hI47, hI48, hI53, hI54, hI55, hI56, hS17, hS18, H.keep 2 6⟩
              · skip
                refine WL.call rfl rfl rfl rfl rfl ok98 rfl (sl4Const_ok hy9 (F0 := fun _ => False) hI46 (by decide : I64 2)) ?_
                rintro _ w18 hE ⟨A7, n7, c7, rfl, hI49, hI50, hI51, hI52, hS15, hS16, H'⟩
                have H := H.callA H' ⟨fun _ _ _ _ _ h => h, trivial⟩
                refine HW.next ⟨_, _, _, _, _, _, _, _, _, _, _, H.keep 2 5⟩ ?_
                refine HW.eff 0 rfl (by kernel_rfl) ?_
                refine WL.ev rfl rfl (Ev.lda rfl ag31 sz31 rfl (At.blk (H.rB (i := 3) rfl)) rfl) ?_
                refine HW.next ⟨_, _, _, _, _, _, _, _, _, _, _, H.keep 2 5⟩ ?_
                refine HW.eff 4 rfl (by kernel_rfl) ?_
                have H := H.frzG (i := 2) rfl
                have H := H.frzO (i := 5) rfl
                obtain ⟨F, hF, hcl⟩ := H.call
                refine WL.call rfl rfl rfl rfl rfl ok99 rfl (sl4Op_ok hy10 (by decide : I64 8) (Expr_rd.2 ⟨_, rfl, hI15, hI16, hI17, hI18, hS5, hS6, (hF.get (i := 2) rfl)⟩) (Expr_rd.2 ⟨_, rfl, hI49, hI50, hI51, hI52, hS15, hS16, (hF.get (i := 3) rfl)⟩)) ?_
                rintro _ w19 hE ⟨A8, n8, c8, rfl, hI53, hI54, hI55, hI56, hS17, hS18, H'⟩
                have H : HL F0 M w0 w19 [Pr.S a1 (.slice Aa1 na1 ca1), Pr.S o0.b (.slice Ao0_0 no0_0 co0_0), Pr.S y4.Args (.slice A3 n3 c3), Pr.S y9.Args (.slice A7 n7 c7)] [It.B bo0 159 [.slice Ao0_0 no0_0 co0_0, .int .i64 z7.i, .int .i64 z7.h], It.B b1 31 [.int .i64 0, .int .i64 0, .int .i64 0, .int .i64 0, .string (⟨#[]⟩ : ByteArray), .string (⟨#[]⟩ : ByteArray), .slice none 0 0], It.emp, It.B b2 31 [.int .i64 y4.Kind, .int .i64 y4.N, .int .i64 y4.Pos, .int .i64 y4.Type_, .string y4.Symbol, .string y4.Name, .slice A3 n3 c3], It.G 31 ([] : List Expr) (.slice none 0 0), It.emp, It.G 31 y10.Args (.slice A8 n8 c8)] := hcl H'
                refine HW.next ⟨_, _, _, _, _, _, _, _, _, _, _, H.keep 2 5⟩ ?_
                refine HW.eff 5 rfl (by kernel_rfl) ?_
                refine WL.stB (i := 1) rfl rfl rfl sz31 rfl rfl rfl rfl (all1 rfl (all1 rfl (all1 rfl (all1 rfl (all1 rfl (all1 rfl (all1 rfl all0))))))) H rfl rfl rfl fun w20 H => ?_
                refine HW.next ⟨_, _, _, _, _, _, _, _, _, _, _, H.keep 2 5⟩ ?_
                refine HW.done (by kernel_rfl) ?_
                have H := H.swap 5 6
                obtain rfl := sm hm2
                exact ⟨y10.Args, z7.i, z7.h, y10.Kind, y10.N, y10.Pos, y10.Type_, y10.Symbol, y10.Name, _, rfl, ⟨rfl, trivial⟩, hI47, hI48, hI53, hI54, hI55, hI56, hS17, hS18, H.keep 2 6⟩
          · rintro ρ' w21 ⟨s10, s11, s12, s13, s14, s15, s16, s17, s18, v2, rfl, hag, hI40, hI41, hI42, hI43, hI44, hI45, hS13, hS14, H⟩
            obtain ⟨σ, rfl⟩ := ofL_ex hag
            obtain ⟨A9, n9, c9, rfl⟩ := (H.rG (i := 5) rfl).form3
            refine CW.ret ?_
            obtain rfl := sm hr
            exact ⟨_, resC rfl ag31 sz31 rfl rfl (At.blk (H.rB (i := 1) rfl)) rfl, H.chg, _, _, _, rfl, hI42, hI43, hI44, hI45, hS13, hS14, hI40, hI41, H.outM (fr' := []) [true, false, false, false, false, true] fun _ _ => trivial⟩
        · skip
          have hr := ifn h4 hr
          refine CW.seq (CW.reg ?_)
          refine WL.ev rfl rfl (Ev.bin rfl rfl rfl Bin.eql) (WL.ev rfl rfl (Ev.as rfl rfl) (WL.nil ?_))
          refine CW.condD rfl (fun h5 => ?_) (fun h5 => ?_)
          · skip
            have hr := ifp h5 hr
            refine CW.seq ?_
            refine CW.fresh [(0, .pointer (some ⟨bo0, 0, none⟩)), (6, .pointer (some ⟨b1, 0, none⟩)), (7, .pointer (some ⟨b2, 0, none⟩))] ⟨rfl, rfl, rfl, trivial⟩ fun σ => ?_
            have H : HL F0 M w0 w10 [Pr.S a1 (.slice Aa1 na1 ca1), Pr.S o0.b (.slice Ao0_0 no0_0 co0_0)] [It.B bo0 159 [.slice Ao0_0 no0_0 co0_0, .int .i64 z5.i, .int .i64 z5.h], It.B b1 31 [.int .i64 0, .int .i64 0, .int .i64 0, .int .i64 0, .string (⟨#[]⟩ : ByteArray), .string (⟨#[]⟩ : ByteArray), .slice none 0 0], It.G 31 y4.Args (.slice A3 n3 c3), It.B b2 31 [.int .i64 y4.Kind, .int .i64 y4.N, .int .i64 y4.Pos, .int .i64 y4.Type_, .string y4.Symbol, .string y4.Name, .slice A3 n3 c3]] := H
            have H := H.nilG (α := Expr) 31
            obtain ⟨q3, hm3, hr⟩ := bd hr
            refine CW.mid (fun ρ' w => ∃ (s19 : List Expr) (s20 : Int) (s21 : Int) (s22 : Int) (s23 : Int) (s24 : Int) (s25 : Int) (s26 : ByteArray) (s27 : ByteArray) (v3 : Value), q3 = (s19, s20, s21, s22, s23, s24, s25, s26, s27) ∧ agree ρ' [(6, .pointer (some ⟨b1, 0, none⟩))] ∧ I64 s20 ∧ I64 s21 ∧ I64 s22 ∧ I64 s23 ∧ I64 s24 ∧ I64 s25 ∧ s26.size ≤ 9223372036854775807 ∧ s27.size ≤ 9223372036854775807 ∧ HL F0 M w0 w [Pr.S a1 (.slice Aa1 na1 ca1), Pr.S o0.b (.slice Ao0_0 no0_0 co0_0)] [It.B bo0 159 [.slice Ao0_0 no0_0 co0_0, .int .i64 s20, .int .i64 s21], It.B b1 31 [.int .i64 s22, .int .i64 s23, .int .i64 s24, .int .i64 s25, .string s26, .string s27, v3], It.emp, It.B b2 31 [.int .i64 y4.Kind, .int .i64 y4.N, .int .i64 y4.Pos, .int .i64 y4.Type_, .string y4.Symbol, .string y4.Name, .slice A3 n3 c3], It.G 31 ([] : List Expr) (.slice none 0 0), It.G 31 s19 v3]) ?_ ?_
            · skip
              refine CW.held (fun w => ∃ v0_1_ : Value, ∃ v0_2_ : Value, ∃ v1_0_ : Value, ∃ v1_1_ : Value, ∃ v1_2_ : Value, ∃ v1_3_ : Value, ∃ v1_4_ : Value, ∃ v1_5_ : Value, ∃ v1_6_ : Value, ∃ o2_ : It, ∃ v3_6_ : Value, HL F0 M w0 w [Pr.S a1 (.slice Aa1 na1 ca1), Pr.S o0.b (.slice Ao0_0 no0_0 co0_0)] [It.B bo0 159 [.slice Ao0_0 no0_0 co0_0, v0_1_, v0_2_], It.B b1 31 [v1_0_, v1_1_, v1_2_, v1_3_, v1_4_, v1_5_, v1_6_], o2_, It.B b2 31 [.int .i64 y4.Kind, .int .i64 y4.N, .int .i64 y4.Pos, .int .i64 y4.Type_, .string y4.Symbol, .string y4.Name, v3_6_], It.G 31 ([] : List Expr) (.slice none 0 0)]) hmix (fun w22 hE => ?_)
              have H : HL F0 M w0 w22 [Pr.S a1 (.slice Aa1 na1 ca1), Pr.S o0.b (.slice Ao0_0 no0_0 co0_0)] [It.B bo0 159 [.slice Ao0_0 no0_0 co0_0, .int .i64 z5.i, .int .i64 z5.h], It.B b1 31 [.int .i64 0, .int .i64 0, .int .i64 0, .int .i64 0, .string (⟨#[]⟩ : ByteArray), .string (⟨#[]⟩ : ByteArray), .slice none 0 0], It.G 31 y4.Args (.slice A3 n3 c3), It.B b2 31 [.int .i64 y4.Kind, .int .i64 y4.N, .int .i64 y4.Pos, .int .i64 y4.Type_, .string y4.Symbol, .string y4.Name, .slice A3 n3 c3], It.G 31 ([] : List Expr) (.slice none 0 0)] := H.ext hE
              refine HW.take 1 ⟨_, _, _, _, _, _, _, _, _, _, _, H.keep 2 5⟩ rfl (by kernel_rfl) rfl rfl (fun _ _ => Ev.mv rfl rfl) ?_
              refine HW.some [0, 2] (by kernel_rfl) rfl ⟨HW.do1 rfl ?_, HW.do1 rfl ?_, trivial⟩
              · skip
                refine WL.ev rfl rfl (Ev.lda rfl ag31 sz31 rfl (At.blk (H.rB (i := 3) rfl)) rfl) ?_
                refine HW.next ⟨_, _, _, _, _, _, _, _, _, _, _, H.keep 2 5⟩ ?_
                refine HW.eff 2 rfl (by kernel_rfl) ?_
                obtain ⟨⟨y11, z8⟩, hy11, hm3⟩ := bd hm3
                obtain ⟨F', M', hfF, hoF, hcM⟩ := H.callN [true, false, false, false, false] ⟨noB, trivial⟩
                obtain ⟨H', hcN⟩ := hcM (ps := [Pr.S o0.b (.slice Ao0_0 no0_0 co0_0)]) ⟨hfF.get (i := 1) rfl, trivial⟩
                refine WL.call rfl rfl rfl rfl rfl ok86 rfl (sl1Below_ok hy11 (by decide : I64 9) hI22 hI23 H') ?_
                rintro _ w23 hE ⟨rfl, hI63, hI64, hI65, H'⟩
                have H := hcN 1 H' rfl ⟨fun _ _ _ _ _ h => h, trivial⟩
                refine HW.next ⟨_, _, _, _, _, _, _, _, _, _, _, H.keep 2 5⟩ ?_
                refine HW.eff 3 rfl (by kernel_rfl) ?_
                obtain ⟨y12, hy12, hm3⟩ := bd hm3
                refine WL.call rfl rfl rfl rfl rfl ok98 rfl (sl4Const_ok hy12 (F0 := fun _ => False) hI63 (by decide : I64 1)) ?_
                rintro _ w24 hE ⟨A10, n10, c10, rfl, hI66, hI67, hI68, hI69, hS21, hS22, H'⟩
                have H := H.callA H' ⟨fun _ _ _ _ _ h => h, trivial⟩
                refine HW.next ⟨_, _, _, _, _, _, _, _, _, _, _, H.keep 2 5⟩ ?_
                refine HW.eff 4 rfl (by kernel_rfl) ?_
                have H := H.frzG (i := 2) rfl
                have H := H.frzO (i := 5) rfl
                obtain ⟨y13, hy13, hm3⟩ := bd hm3
                obtain ⟨F, hF, hcl⟩ := H.call
                refine WL.call rfl rfl rfl rfl rfl ok99 rfl (sl4Op_ok hy13 (by decide : I64 12) (Expr_rd.2 ⟨_, rfl, hI15, hI16, hI17, hI18, hS5, hS6, (hF.get (i := 2) rfl)⟩) (Expr_rd.2 ⟨_, rfl, hI66, hI67, hI68, hI69, hS21, hS22, (hF.get (i := 3) rfl)⟩)) ?_
                rintro _ w25 hE ⟨A11, n11, c11, rfl, hI70, hI71, hI72, hI73, hS23, hS24, H'⟩
                have H : HL F0 M w0 w25 [Pr.S a1 (.slice Aa1 na1 ca1), Pr.S o0.b (.slice Ao0_0 no0_0 co0_0), Pr.S y4.Args (.slice A3 n3 c3), Pr.S y12.Args (.slice A10 n10 c10)] [It.B bo0 159 [.slice Ao0_0 no0_0 co0_0, .int .i64 z8.i, .int .i64 z8.h], It.B b1 31 [.int .i64 0, .int .i64 0, .int .i64 0, .int .i64 0, .string (⟨#[]⟩ : ByteArray), .string (⟨#[]⟩ : ByteArray), .slice none 0 0], It.emp, It.B b2 31 [.int .i64 y4.Kind, .int .i64 y4.N, .int .i64 y4.Pos, .int .i64 y4.Type_, .string y4.Symbol, .string y4.Name, .slice A3 n3 c3], It.G 31 ([] : List Expr) (.slice none 0 0), It.emp, It.G 31 y13.Args (.slice A11 n11 c11)] := hcl H'
                refine HW.next ⟨_, _, _, _, _, _, _, _, _, _, _, H.keep 2 5⟩ ?_
                refine HW.eff 5 rfl (by kernel_rfl) ?_
                refine WL.stB (i := 1) rfl rfl rfl sz31 rfl rfl rfl rfl (all1 rfl (all1 rfl (all1 rfl (all1 rfl (all1 rfl (all1 rfl (all1 rfl all0))))))) H rfl rfl rfl fun w26 H => ?_
                refine HW.next ⟨_, _, _, _, _, _, _, _, _, _, _, H.keep 2 5⟩ ?_
                refine HW.done (by kernel_rfl) ?_
                have H := H.swap 5 6
                obtain rfl := sm hm3
                exact ⟨y13.Args, z8.i, z8.h, y13.Kind, y13.N, y13.Pos, y13.Type_, y13.Symbol, y13.Name, _, rfl, ⟨rfl, trivial⟩, hI64, hI65, hI70, hI71, hI72, hI73, hS23, hS24, H.keep 2 6⟩
              · skip
                obtain ⟨⟨y11, z8⟩, hy11, hm3⟩ := bd hm3
                obtain ⟨y12, hy12, hm3⟩ := bd hm3
                obtain ⟨y13, hy13, hm3⟩ := bd hm3
                obtain ⟨F', M', hfF, hoF, hcM⟩ := H.callN [true, false, false, false, false] ⟨noB, trivial⟩
                obtain ⟨H', hcN⟩ := hcM (ps := [Pr.S o0.b (.slice Ao0_0 no0_0 co0_0)]) ⟨hfF.get (i := 1) rfl, trivial⟩
                refine WL.call rfl rfl rfl rfl rfl ok86 rfl (sl1Below_ok hy11 (by decide : I64 9) hI22 hI23 H') ?_
                rintro _ w23 hE ⟨rfl, hI63, hI64, hI65, H'⟩
                have H := hcN 1 H' rfl ⟨fun _ _ _ _ _ h => h, trivial⟩
                refine HW.next ⟨_, _, _, _, _, _, _, _, _, _, _, H.keep 2 5⟩ ?_
                refine HW.some [0, 3] (by kernel_rfl) rfl ⟨HW.do1 rfl ?_, HW.do1 rfl ?_, trivial⟩
                · skip
                  refine WL.ev rfl rfl (Ev.lda rfl ag31 sz31 rfl (At.blk (H.rB (i := 3) rfl)) rfl) ?_
                  refine HW.next ⟨_, _, _, _, _, _, _, _, _, _, _, H.keep 2 5⟩ ?_
                  refine HW.eff 3 rfl (by kernel_rfl) ?_
                  refine WL.call rfl rfl rfl rfl rfl ok98 rfl (sl4Const_ok hy12 (F0 := fun _ => False) hI63 (by decide : I64 1)) ?_
                  rintro _ w24 hE ⟨A10, n10, c10, rfl, hI66, hI67, hI68, hI69, hS21, hS22, H'⟩
                  have H := H.callA H' ⟨fun _ _ _ _ _ h => h, trivial⟩
                  refine HW.next ⟨_, _, _, _, _, _, _, _, _, _, _, H.keep 2 5⟩ ?_
                  refine HW.eff 4 rfl (by kernel_rfl) ?_
                  have H := H.frzG (i := 2) rfl
                  have H := H.frzO (i := 5) rfl
                  obtain ⟨F, hF, hcl⟩ := H.call
                  refine WL.call rfl rfl rfl rfl rfl ok99 rfl (sl4Op_ok hy13 (by decide : I64 12) (Expr_rd.2 ⟨_, rfl, hI15, hI16, hI17, hI18, hS5, hS6, (hF.get (i := 2) rfl)⟩) (Expr_rd.2 ⟨_, rfl, hI66, hI67, hI68, hI69, hS21, hS22, (hF.get (i := 3) rfl)⟩)) ?_
                  rintro _ w25 hE ⟨A11, n11, c11, rfl, hI70, hI71, hI72, hI73, hS23, hS24, H'⟩
                  have H : HL F0 M w0 w25 [Pr.S a1 (.slice Aa1 na1 ca1), Pr.S o0.b (.slice Ao0_0 no0_0 co0_0), Pr.S y4.Args (.slice A3 n3 c3), Pr.S y12.Args (.slice A10 n10 c10)] [It.B bo0 159 [.slice Ao0_0 no0_0 co0_0, .int .i64 z8.i, .int .i64 z8.h], It.B b1 31 [.int .i64 0, .int .i64 0, .int .i64 0, .int .i64 0, .string (⟨#[]⟩ : ByteArray), .string (⟨#[]⟩ : ByteArray), .slice none 0 0], It.emp, It.B b2 31 [.int .i64 y4.Kind, .int .i64 y4.N, .int .i64 y4.Pos, .int .i64 y4.Type_, .string y4.Symbol, .string y4.Name, .slice A3 n3 c3], It.G 31 ([] : List Expr) (.slice none 0 0), It.emp, It.G 31 y13.Args (.slice A11 n11 c11)] := hcl H'
                  refine HW.next ⟨_, _, _, _, _, _, _, _, _, _, _, H.keep 2 5⟩ ?_
                  refine HW.eff 5 rfl (by kernel_rfl) ?_
                  refine WL.stB (i := 1) rfl rfl rfl sz31 rfl rfl rfl rfl (all1 rfl (all1 rfl (all1 rfl (all1 rfl (all1 rfl (all1 rfl (all1 rfl all0))))))) H rfl rfl rfl fun w26 H => ?_
                  refine HW.next ⟨_, _, _, _, _, _, _, _, _, _, _, H.keep 2 5⟩ ?_
                  refine HW.done (by kernel_rfl) ?_
                  have H := H.swap 5 6
                  obtain rfl := sm hm3
                  exact ⟨y13.Args, z8.i, z8.h, y13.Kind, y13.N, y13.Pos, y13.Type_, y13.Symbol, y13.Name, _, rfl, ⟨rfl, trivial⟩, hI64, hI65, hI70, hI71, hI72, hI73, hS23, hS24, H.keep 2 6⟩
                · skip
                  refine WL.call rfl rfl rfl rfl rfl ok98 rfl (sl4Const_ok hy12 (F0 := fun _ => False) hI63 (by decide : I64 1)) ?_
                  rintro _ w24 hE ⟨A10, n10, c10, rfl, hI66, hI67, hI68, hI69, hS21, hS22, H'⟩
                  have H := H.callA H' ⟨fun _ _ _ _ _ h => h, trivial⟩
                  refine HW.next ⟨_, _, _, _, _, _, _, _, _, _, _, H.keep 2 5⟩ ?_
                  refine HW.eff 0 rfl (by kernel_rfl) ?_
                  refine WL.ev rfl rfl (Ev.lda rfl ag31 sz31 rfl (At.blk (H.rB (i := 3) rfl)) rfl) ?_
                  refine HW.next ⟨_, _, _, _, _, _, _, _, _, _, _, H.keep 2 5⟩ ?_
                  refine HW.eff 4 rfl (by kernel_rfl) ?_
                  have H := H.frzG (i := 2) rfl
                  have H := H.frzO (i := 5) rfl
                  obtain ⟨F, hF, hcl⟩ := H.call
                  refine WL.call rfl rfl rfl rfl rfl ok99 rfl (sl4Op_ok hy13 (by decide : I64 12) (Expr_rd.2 ⟨_, rfl, hI15, hI16, hI17, hI18, hS5, hS6, (hF.get (i := 2) rfl)⟩) (Expr_rd.2 ⟨_, rfl, hI66, hI67, hI68, hI69, hS21, hS22, (hF.get (i := 3) rfl)⟩)) ?_
                  rintro _ w25 hE ⟨A11, n11, c11, rfl, hI70, hI71, hI72, hI73, hS23, hS24, H'⟩
                  have H : HL F0 M w0 w25 [Pr.S a1 (.slice Aa1 na1 ca1), Pr.S o0.b (.slice Ao0_0 no0_0 co0_0), Pr.S y4.Args (.slice A3 n3 c3), Pr.S y12.Args (.slice A10 n10 c10)] [It.B bo0 159 [.slice Ao0_0 no0_0 co0_0, .int .i64 z8.i, .int .i64 z8.h], It.B b1 31 [.int .i64 0, .int .i64 0, .int .i64 0, .int .i64 0, .string (⟨#[]⟩ : ByteArray), .string (⟨#[]⟩ : ByteArray), .slice none 0 0], It.emp, It.B b2 31 [.int .i64 y4.Kind, .int .i64 y4.N, .int .i64 y4.Pos, .int .i64 y4.Type_, .string y4.Symbol, .string y4.Name, .slice A3 n3 c3], It.G 31 ([] : List Expr) (.slice none 0 0), It.emp, It.G 31 y13.Args (.slice A11 n11 c11)] := hcl H'
                  refine HW.next ⟨_, _, _, _, _, _, _, _, _, _, _, H.keep 2 5⟩ ?_
                  refine HW.eff 5 rfl (by kernel_rfl) ?_
                  refine WL.stB (i := 1) rfl rfl rfl sz31 rfl rfl rfl rfl (all1 rfl (all1 rfl (all1 rfl (all1 rfl (all1 rfl (all1 rfl (all1 rfl all0))))))) H rfl rfl rfl fun w26 H => ?_
                  refine HW.next ⟨_, _, _, _, _, _, _, _, _, _, _, H.keep 2 5⟩ ?_
                  refine HW.done (by kernel_rfl) ?_
                  have H := H.swap 5 6
                  obtain rfl := sm hm3
                  exact ⟨y13.Args, z8.i, z8.h, y13.Kind, y13.N, y13.Pos, y13.Type_, y13.Symbol, y13.Name, _, rfl, ⟨rfl, trivial⟩, hI64, hI65, hI70, hI71, hI72, hI73, hS23, hS24, H.keep 2 6⟩
            · rintro ρ' w27 ⟨s19, s20, s21, s22, s23, s24, s25, s26, s27, v3, rfl, hag, hI57, hI58, hI59, hI60, hI61, hI62, hS19, hS20, H⟩
              obtain ⟨σ, rfl⟩ := ofL_ex hag
              obtain ⟨A12, n12, c12, rfl⟩ := (H.rG (i := 5) rfl).form3
              refine CW.ret ?_
              obtain rfl := sm hr
              exact ⟨_, resC rfl ag31 sz31 rfl rfl (At.blk (H.rB (i := 1) rfl)) rfl, H.chg, _, _, _, rfl, hI59, hI60, hI61, hI62, hS19, hS20, hI57, hI58, H.outM (fr' := []) [true, false, false, false, false, true] fun _ _ => trivial⟩
          · skip
            have hr := ifn h5 hr
            refine CW.skip ?_
            refine CW.seq ?_
            refine CW.fresh [(0, .pointer (some ⟨bo0, 0, none⟩)), (1, .slice Aa1 na1 ca1), (2, .int .i64 a2), (6, .pointer (some ⟨b1, 0, none⟩)), (7, .pointer (some ⟨b2, 0, none⟩))] ⟨rfl, rfl, rfl, rfl, rfl, trivial⟩ fun σ => ?_
            have H : HL F0 M w0 w10 [Pr.S a1 (.slice Aa1 na1 ca1), Pr.S o0.b (.slice Ao0_0 no0_0 co0_0)] [It.B bo0 159 [.slice Ao0_0 no0_0 co0_0, .int .i64 z5.i, .int .i64 z5.h], It.B b1 31 [.int .i64 0, .int .i64 0, .int .i64 0, .int .i64 0, .string (⟨#[]⟩ : ByteArray), .string (⟨#[]⟩ : ByteArray), .slice none 0 0], It.G 31 y4.Args (.slice A3 n3 c3), It.B b2 31 [.int .i64 y4.Kind, .int .i64 y4.N, .int .i64 y4.Pos, .int .i64 y4.Type_, .string y4.Symbol, .string y4.Name, .slice A3 n3 c3]] := H
            have H := H.nilG (α := Expr) 31
            obtain ⟨q4, hm4, hr⟩ := bd hr
            refine CW.mid (fun ρ' w => ∃ (s28 : List Expr) (s29 : Int) (s30 : Int) (s31 : Int) (s32 : Int) (s33 : Int) (s34 : Int) (s35 : ByteArray) (s36 : ByteArray) (v4 : Value), q4 = (s28, s29, s30, s31, s32, s33, s34, s35, s36) ∧ agree ρ' [(6, .pointer (some ⟨b1, 0, none⟩))] ∧ I64 s29 ∧ I64 s30 ∧ I64 s31 ∧ I64 s32 ∧ I64 s33 ∧ I64 s34 ∧ s35.size ≤ 9223372036854775807 ∧ s36.size ≤ 9223372036854775807 ∧ HL F0 M w0 w [Pr.S a1 (.slice Aa1 na1 ca1), Pr.S o0.b (.slice Ao0_0 no0_0 co0_0)] [It.B bo0 159 [.slice Ao0_0 no0_0 co0_0, .int .i64 s29, .int .i64 s30], It.B b1 31 [.int .i64 s31, .int .i64 s32, .int .i64 s33, .int .i64 s34, .string s35, .string s36, v4], It.emp, It.B b2 31 [.int .i64 y4.Kind, .int .i64 y4.N, .int .i64 y4.Pos, .int .i64 y4.Type_, .string y4.Symbol, .string y4.Name, .slice A3 n3 c3], It.G 31 ([] : List Expr) (.slice none 0 0), It.G 31 s28 v4]) ?_ ?_
            · skip
              obtain ⟨hg3, hm4⟩ := grd_some hm4
              refine CW.held (fun w => ∃ v0_1_ : Value, ∃ v0_2_ : Value, ∃ v1_0_ : Value, ∃ v1_1_ : Value, ∃ v1_2_ : Value, ∃ v1_3_ : Value, ∃ v1_4_ : Value, ∃ v1_5_ : Value, ∃ v1_6_ : Value, ∃ o2_ : It, ∃ v3_6_ : Value, HL F0 M w0 w [Pr.S a1 (.slice Aa1 na1 ca1), Pr.S o0.b (.slice Ao0_0 no0_0 co0_0)] [It.B bo0 159 [.slice Ao0_0 no0_0 co0_0, v0_1_, v0_2_], It.B b1 31 [v1_0_, v1_1_, v1_2_, v1_3_, v1_4_, v1_5_, v1_6_], o2_, It.B b2 31 [.int .i64 y4.Kind, .int .i64 y4.N, .int .i64 y4.Pos, .int .i64 y4.Type_, .string y4.Symbol, .string y4.Name, v3_6_], It.G 31 ([] : List Expr) (.slice none 0 0)]) hmix (fun w28 hE => ?_)
              have H : HL F0 M w0 w28 [Pr.S a1 (.slice Aa1 na1 ca1), Pr.S o0.b (.slice Ao0_0 no0_0 co0_0)] [It.B bo0 159 [.slice Ao0_0 no0_0 co0_0, .int .i64 z5.i, .int .i64 z5.h], It.B b1 31 [.int .i64 0, .int .i64 0, .int .i64 0, .int .i64 0, .string (⟨#[]⟩ : ByteArray), .string (⟨#[]⟩ : ByteArray), .slice none 0 0], It.G 31 y4.Args (.slice A3 n3 c3), It.B b2 31 [.int .i64 y4.Kind, .int .i64 y4.N, .int .i64 y4.Pos, .int .i64 y4.Type_, .string y4.Symbol, .string y4.Name, .slice A3 n3 c3], It.G 31 ([] : List Expr) (.slice none 0 0)] := H.ext hE
              refine HW.take 1 ⟨_, _, _, _, _, _, _, _, _, _, _, H.keep 2 5⟩ rfl (by kernel_rfl) rfl rfl (fun _ _ => Ev.mv rfl rfl) ?_
              refine HW.take 2 ⟨_, _, _, _, _, _, _, _, _, _, _, H.keep 2 5⟩ rfl (by kernel_rfl) rfl rfl (fun _ _ => Ev.mv rfl rfl) ?_
              refine HW.take 3 ⟨_, _, _, _, _, _, _, _, _, _, _, H.keep 2 5⟩ rfl (by kernel_rfl) rfl rfl (fun _ _ => Ev.mv rfl rfl) ?_
              refine HW.take 4 ⟨_, _, _, _, _, _, _, _, _, _, _, H.keep 2 5⟩ rfl (by kernel_rfl) rfl rfl (fun _ _ => Ev.bin rfl rfl rfl (Bin.sub hg3)) ?_
              refine HW.some [0, 5] (by kernel_rfl) rfl ⟨HW.do1 rfl ?_, HW.do1 rfl ?_, trivial⟩
              · skip
                refine WL.ev rfl rfl (Ev.lda rfl ag31 sz31 rfl (At.blk (H.rB (i := 3) rfl)) rfl) ?_
                refine HW.next ⟨_, _, _, _, _, _, _, _, _, _, _, H.keep 2 5⟩ ?_
                refine HW.eff 5 rfl (by kernel_rfl) ?_
                obtain ⟨⟨y14, z9⟩, hy14, hm4⟩ := bd hm4
                obtain ⟨F', M', hfF, hcM⟩ := H.callW [true, false, false, false, false] ⟨noB, trivial⟩
                obtain ⟨H', hcN⟩ := hcM (ps := [Pr.S a1 (.slice Aa1 na1 ca1), Pr.S o0.b (.slice Ao0_0 no0_0 co0_0)]) ⟨hfF.get (i := 0) rfl, hfF.get (i := 1) rfl, trivial⟩
                refine WL.call rfl rfl rfl rfl rfl ok158 rfl (ih_sl32Set hy14 hg3 hI22 hI23 H') ?_
                rintro _ w29 hE ⟨A13, n13, c13, rfl, hI80, hI81, hI82, hI83, hS27, hS28, hI84, hI85, H'⟩
                have H := hcN 1 H' rfl
                refine HW.next ⟨_, _, _, _, _, _, _, _, _, _, _, H.keep 2 5⟩ ?_
                refine HW.eff 6 rfl (by kernel_rfl) ?_
                have H := H.frzG (i := 2) rfl
                have H := H.frzG (i := 5) rfl
                obtain ⟨y15, hy15, hm4⟩ := bd hm4
                obtain ⟨F, hF, hcl⟩ := H.call
                refine WL.call rfl rfl rfl rfl rfl ok99 rfl (sl4Op_ok hy15 (by decide : I64 6) (Expr_rd.2 ⟨_, rfl, hI15, hI16, hI17, hI18, hS5, hS6, (hF.get (i := 2) rfl)⟩) (Expr_rd.2 ⟨_, rfl, hI80, hI81, hI82, hI83, hS27, hS28, (hF.get (i := 3) rfl)⟩)) ?_
                rintro _ w30 hE ⟨A14, n14, c14, rfl, hI86, hI87, hI88, hI89, hS29, hS30, H'⟩
                have H : HL F0 M w0 w30 [Pr.S a1 (.slice Aa1 na1 ca1), Pr.S o0.b (.slice Ao0_0 no0_0 co0_0), Pr.S y4.Args (.slice A3 n3 c3), Pr.S y14.Args (.slice A13 n13 c13)] [It.B bo0 159 [.slice Ao0_0 no0_0 co0_0, .int .i64 z9.i, .int .i64 z9.h], It.B b1 31 [.int .i64 0, .int .i64 0, .int .i64 0, .int .i64 0, .string (⟨#[]⟩ : ByteArray), .string (⟨#[]⟩ : ByteArray), .slice none 0 0], It.emp, It.B b2 31 [.int .i64 y4.Kind, .int .i64 y4.N, .int .i64 y4.Pos, .int .i64 y4.Type_, .string y4.Symbol, .string y4.Name, .slice A3 n3 c3], It.G 31 ([] : List Expr) (.slice none 0 0), It.emp, It.G 31 y15.Args (.slice A14 n14 c14)] := hcl H'
                refine HW.next ⟨_, _, _, _, _, _, _, _, _, _, _, H.keep 2 5⟩ ?_
                refine HW.eff 7 rfl (by kernel_rfl) ?_
                refine WL.stB (i := 1) rfl rfl rfl sz31 rfl rfl rfl rfl (all1 rfl (all1 rfl (all1 rfl (all1 rfl (all1 rfl (all1 rfl (all1 rfl all0))))))) H rfl rfl rfl fun w31 H => ?_
                refine HW.next ⟨_, _, _, _, _, _, _, _, _, _, _, H.keep 2 5⟩ ?_
                refine HW.done (by kernel_rfl) ?_
                have H := H.swap 5 6
                obtain rfl := sm hm4
                exact ⟨y15.Args, z9.i, z9.h, y15.Kind, y15.N, y15.Pos, y15.Type_, y15.Symbol, y15.Name, _, rfl, ⟨rfl, trivial⟩, hI84, hI85, hI86, hI87, hI88, hI89, hS29, hS30, H.keep 2 6⟩
              · skip
                obtain ⟨⟨y14, z9⟩, hy14, hm4⟩ := bd hm4
                obtain ⟨y15, hy15, hm4⟩ := bd hm4
                obtain ⟨F', M', hfF, hcM⟩ := H.callW [true, false, false, false, false] ⟨noB, trivial⟩
                obtain ⟨H', hcN⟩ := hcM (ps := [Pr.S a1 (.slice Aa1 na1 ca1), Pr.S o0.b (.slice Ao0_0 no0_0 co0_0)]) ⟨hfF.get (i := 0) rfl, hfF.get (i := 1) rfl, trivial⟩
                refine WL.call rfl rfl rfl rfl rfl ok158 rfl (ih_sl32Set hy14 hg3 hI22 hI23 H') ?_
                rintro _ w29 hE ⟨A13, n13, c13, rfl, hI80, hI81, hI82, hI83, hS27, hS28, hI84, hI85, H'⟩
                have H := hcN 1 H' rfl
                refine HW.next ⟨_, _, _, _, _, _, _, _, _, _, _, H.keep 2 5⟩ ?_
                refine HW.eff 0 rfl (by kernel_rfl) ?_
                refine WL.ev rfl rfl (Ev.lda rfl ag31 sz31 rfl (At.blk (H.rB (i := 3) rfl)) rfl) ?_
                refine HW.next ⟨_, _, _, _, _, _, _, _, _, _, _, H.keep 2 5⟩ ?_
                refine HW.eff 6 rfl (by kernel_rfl) ?_
                have H := H.frzG (i := 2) rfl
                have H := H.frzG (i := 5) rfl
                obtain ⟨F, hF, hcl⟩ := H.call
                refine WL.call rfl rfl rfl rfl rfl ok99 rfl (sl4Op_ok hy15 (by decide : I64 6) (Expr_rd.2 ⟨_, rfl, hI15, hI16, hI17, hI18, hS5, hS6, (hF.get (i := 2) rfl)⟩) (Expr_rd.2 ⟨_, rfl, hI80, hI81, hI82, hI83, hS27, hS28, (hF.get (i := 3) rfl)⟩)) ?_
                rintro _ w30 hE ⟨A14, n14, c14, rfl, hI86, hI87, hI88, hI89, hS29, hS30, H'⟩
                have H : HL F0 M w0 w30 [Pr.S a1 (.slice Aa1 na1 ca1), Pr.S o0.b (.slice Ao0_0 no0_0 co0_0), Pr.S y4.Args (.slice A3 n3 c3), Pr.S y14.Args (.slice A13 n13 c13)] [It.B bo0 159 [.slice Ao0_0 no0_0 co0_0, .int .i64 z9.i, .int .i64 z9.h], It.B b1 31 [.int .i64 0, .int .i64 0, .int .i64 0, .int .i64 0, .string (⟨#[]⟩ : ByteArray), .string (⟨#[]⟩ : ByteArray), .slice none 0 0], It.emp, It.B b2 31 [.int .i64 y4.Kind, .int .i64 y4.N, .int .i64 y4.Pos, .int .i64 y4.Type_, .string y4.Symbol, .string y4.Name, .slice A3 n3 c3], It.G 31 ([] : List Expr) (.slice none 0 0), It.emp, It.G 31 y15.Args (.slice A14 n14 c14)] := hcl H'
                refine HW.next ⟨_, _, _, _, _, _, _, _, _, _, _, H.keep 2 5⟩ ?_
                refine HW.eff 7 rfl (by kernel_rfl) ?_
                refine WL.stB (i := 1) rfl rfl rfl sz31 rfl rfl rfl rfl (all1 rfl (all1 rfl (all1 rfl (all1 rfl (all1 rfl (all1 rfl (all1 rfl all0))))))) H rfl rfl rfl fun w31 H => ?_
                refine HW.next ⟨_, _, _, _, _, _, _, _, _, _, _, H.keep 2 5⟩ ?_
                refine HW.done (by kernel_rfl) ?_
                have H := H.swap 5 6
                obtain rfl := sm hm4
                exact ⟨y15.Args, z9.i, z9.h, y15.Kind, y15.N, y15.Pos, y15.Type_, y15.Symbol, y15.Name, _, rfl, ⟨rfl, trivial⟩, hI84, hI85, hI86, hI87, hI88, hI89, hS29, hS30, H.keep 2 6⟩
            · rintro ρ' w32 ⟨s28, s29, s30, s31, s32, s33, s34, s35, s36, v4, rfl, hag, hI74, hI75, hI76, hI77, hI78, hI79, hS25, hS26, H⟩
              obtain ⟨σ, rfl⟩ := ofL_ex hag
              obtain ⟨A15, n15, c15, rfl⟩ := (H.rG (i := 5) rfl).form3
              refine CW.ret ?_
              obtain rfl := sm hr
              exact ⟨_, resC rfl ag31 sz31 rfl rfl (At.blk (H.rB (i := 1) rfl)) rfl, H.chg, _, _, _, rfl, hI76, hI77, hI78, hI79, hS25, hS26, hI74, hI75, H.outM (fr' := []) [true, false, false, false, false, true] fun _ _ => trivial⟩
noncomputable def sl32Set_n : Nat → (List Occurrence) → Int → l1Cur → Option (Expr × l1Cur)
  | 0, _, _, _ => none
  | n + 1, a1, a2, o0 => sl32Set_B (sl32Set_n n) a1 a2 o0
noncomputable def sl32Set_m (a1 : (List Occurrence)) (a2 : Int) (o0 : l1Cur) : Option (Expr × l1Cur) := recO fun n => sl32Set_n n a1 a2 o0
theorem sl32Set_okn (n : Nat) : ∀ {a1 : (List Occurrence)} {a2 : Int} {o0 : l1Cur} {r : (Expr × l1Cur)}, sl32Set_n n a1 a2 o0 = some r → ∀ {F0 : Nat → Prop} {M : List Nat} {w0 : World} {bo0 : Nat} {Aa1 : Option Addr} {na1 ca1 : Nat} {Ao0_0 : Option Addr} {no0_0 co0_0 : Nat} (hIa2 : I64 a2) (hIo0_1 : I64 o0.i) (hIo0_2 : I64 o0.h) (H : HL F0 M w0 w0 [Pr.S a1 (.slice Aa1 na1 ca1), Pr.S o0.b (.slice Ao0_0 no0_0 co0_0)] [It.B bo0 159 [.slice Ao0_0 no0_0 co0_0, .int .i64 o0.i, .int .i64 o0.h]]), Ret Try.prog 158 #[.pointer (some ⟨bo0, 0, none⟩), .slice Aa1 na1 ca1, .int .i64 a2] w0 (· ∈ M) fun v w => ∃ A0 : Option Addr, ∃ n0 c0 : Nat, v = .agg #[.int .i64 r.1.Kind, .int .i64 r.1.N, .int .i64 r.1.Pos, .int .i64 r.1.Type_, .string r.1.Symbol, .string r.1.Name, (.slice A0 n0 c0)] ∧ I64 r.1.Kind ∧ I64 r.1.N ∧ I64 r.1.Pos ∧ I64 r.1.Type_ ∧ r.1.Symbol.size ≤ 9223372036854775807 ∧ r.1.Name.size ≤ 9223372036854775807 ∧ I64 r.2.i ∧ I64 r.2.h ∧ HL F0 M w0 w [] [It.B bo0 159 [.slice Ao0_0 no0_0 co0_0, .int .i64 r.2.i, .int .i64 r.2.h], It.G 31 r.1.Args (.slice A0 n0 c0)] := by
  induction n with
  | zero => intro a1 a2 o0 r hr; exact nomatch (show (none : Option (Expr × l1Cur)) = some r from hr)
  | succ n ih => intro a1 a2 o0 r hr; exact sl32Set_okB ih hr
theorem sl32Set_ok {a1 : (List Occurrence)} {a2 : Int} {o0 : l1Cur} {r : (Expr × l1Cur)} (hr : sl32Set_m a1 a2 o0 = some r) {F0 : Nat → Prop} {M : List Nat} {w0 : World} {bo0 : Nat} {Aa1 : Option Addr} {na1 ca1 : Nat} {Ao0_0 : Option Addr} {no0_0 co0_0 : Nat} (hIa2 : I64 a2) (hIo0_1 : I64 o0.i) (hIo0_2 : I64 o0.h) (H : HL F0 M w0 w0 [Pr.S a1 (.slice Aa1 na1 ca1), Pr.S o0.b (.slice Ao0_0 no0_0 co0_0)] [It.B bo0 159 [.slice Ao0_0 no0_0 co0_0, .int .i64 o0.i, .int .i64 o0.h]]) :
    Ret Try.prog 158 #[.pointer (some ⟨bo0, 0, none⟩), .slice Aa1 na1 ca1, .int .i64 a2] w0 (· ∈ M) fun v w => ∃ A0 : Option Addr, ∃ n0 c0 : Nat, v = .agg #[.int .i64 r.1.Kind, .int .i64 r.1.N, .int .i64 r.1.Pos, .int .i64 r.1.Type_, .string r.1.Symbol, .string r.1.Name, (.slice A0 n0 c0)] ∧ I64 r.1.Kind ∧ I64 r.1.N ∧ I64 r.1.Pos ∧ I64 r.1.Type_ ∧ r.1.Symbol.size ≤ 9223372036854775807 ∧ r.1.Name.size ≤ 9223372036854775807 ∧ I64 r.2.i ∧ I64 r.2.h ∧ HL F0 M w0 w [] [It.B bo0 159 [.slice Ao0_0 no0_0 co0_0, .int .i64 r.2.i, .int .i64 r.2.h], It.G 31 r.1.Args (.slice A0 n0 c0)] := by
  obtain ⟨n, hn⟩ := recO_some hr
  exact sl32Set_okn n hn hIa2 hIo0_1 hIo0_2 H

noncomputable def sDrawUsesAny_m (a0 : (List UInt8)) : Option (Expr × (List Occurrence)) :=
  (sl1New_m a0).bind fun y1 =>
  (sl1Once_m 3 y1).bind fun (y2, z1) =>
  if y2 = true then (
  (sl4Bent_m (⟨y1.b, z1.i, z1.h⟩ : l1Cur)).bind fun (y3, z2) =>
  some (y3, [(⟨0, (⟨#[97]⟩ : ByteArray)⟩ : Occurrence), (⟨1, (⟨#[98]⟩ : ByteArray)⟩ : Occurrence), (⟨1, (⟨#[97]⟩ : ByteArray)⟩ : Occurrence)])
  ) else (
  (sl32Set_m [(⟨0, (⟨#[97]⟩ : ByteArray)⟩ : Occurrence), (⟨1, (⟨#[98]⟩ : ByteArray)⟩ : Occurrence), (⟨1, (⟨#[97]⟩ : ByteArray)⟩ : Occurrence)] 4 (⟨y1.b, z1.i, z1.h⟩ : l1Cur)).bind fun (y4, z3) =>
  (sl1Once_m 3 (⟨y1.b, z3.i, z3.h⟩ : l1Cur)).bind fun (y5, z4) =>
  if y5 = true then (
  (
  (sl32Set_m [(⟨0, (⟨#[97]⟩ : ByteArray)⟩ : Occurrence), (⟨1, (⟨#[98]⟩ : ByteArray)⟩ : Occurrence), (⟨1, (⟨#[97]⟩ : ByteArray)⟩ : Occurrence)] 2 (⟨y1.b, z4.i, z4.h⟩ : l1Cur)).bind fun (y6, z5) =>
  (sl4Op_m 8 y4 y6).bind fun y7 =>
  some (y7.Args, z5.i, z5.h, y7.Kind, y7.N, y7.Pos, y7.Type_, y7.Symbol, y7.Name)
  ).bind fun (s1, s2, s3, s4, s5, s6, s7, s8, s9) =>
  (
  (sl1Below_m 4 (⟨y1.b, s2, s3⟩ : l1Cur)).bind fun (y8, z6) =>
  grd (0 ≤ y8) <|
  grd (y8.toNat ≤ [(⟨0, (⟨#[97]⟩ : ByteArray)⟩ : Occurrence), (⟨1, (⟨#[98]⟩ : ByteArray)⟩ : Occurrence), (⟨1, (⟨#[97]⟩ : ByteArray)⟩ : Occurrence)].length) <|
  some (([(⟨0, (⟨#[97]⟩ : ByteArray)⟩ : Occurrence), (⟨1, (⟨#[98]⟩ : ByteArray)⟩ : Occurrence), (⟨1, (⟨#[97]⟩ : ByteArray)⟩ : Occurrence)].take y8.toNat), z6.i, z6.h)
  ).bind fun (s10, s11, s12) =>
  some ((⟨s4, s5, s6, s7, s8, s9, s1⟩ : Expr), s10)
  ) else (
  (
  (sl1Below_m 4 (⟨y1.b, z4.i, z4.h⟩ : l1Cur)).bind fun (y9, z7) =>
  grd (0 ≤ y9) <|
  grd (y9.toNat ≤ [(⟨0, (⟨#[97]⟩ : ByteArray)⟩ : Occurrence), (⟨1, (⟨#[98]⟩ : ByteArray)⟩ : Occurrence), (⟨1, (⟨#[97]⟩ : ByteArray)⟩ : Occurrence)].length) <|
  some (([(⟨0, (⟨#[97]⟩ : ByteArray)⟩ : Occurrence), (⟨1, (⟨#[98]⟩ : ByteArray)⟩ : Occurrence), (⟨1, (⟨#[97]⟩ : ByteArray)⟩ : Occurrence)].take y9.toNat), z7.i, z7.h)
  ).bind fun (s13, s14, s15) =>
  some (y4, s13)
  )
  )
theorem sDrawUsesAny_ok {a0 : (List UInt8)} {r : (Expr × (List Occurrence))} (hr : sDrawUsesAny_m a0 = some r) {F0 : Nat → Prop} {w0 : World} {z0 : Value} (ha0 : rdS F0 w0 a0 z0) :
    Ret Try.prog 104 #[z0] w0 (fun _ => False) fun v w => ∃ A0 : Option Addr, ∃ n0 c0 : Nat, ∃ A1 : Option Addr, ∃ n1 c1 : Nat, v = .tuple #[.agg #[.int .i64 r.1.Kind, .int .i64 r.1.N, .int .i64 r.1.Pos, .int .i64 r.1.Type_, .string r.1.Symbol, .string r.1.Name, (.slice A0 n0 c0)], (.slice A1 n1 c1)] ∧ I64 r.1.Kind ∧ I64 r.1.N ∧ I64 r.1.Pos ∧ I64 r.1.Type_ ∧ r.1.Symbol.size ≤ 9223372036854775807 ∧ r.1.Name.size ≤ 9223372036854775807 ∧ HL F0 [] w0 w [Pr.S r.2 (.slice A1 n1 c1)] [It.G 31 r.1.Args (.slice A0 n0 c0)] := by
  obtain ⟨A0', n0', c0', rfl⟩ := ha0.form3
  have H := (HL.start F0 w0).argS ha0
  refine enter Try.func104 rfl rfl rfl ?_
  refine CW.seq (CW.reg ?_)
  refine WL.allocH rfl rfl rfl ze31 H fun b1 w1 H => ?_
  refine WL.ev rfl rfl (Ev.as rfl rfl) (WL.nil ?_)
  refine CW.seq (CW.reg ?_)
  refine WL.ev rfl rfl (Ev.mv rfl rfl) ?_
  obtain ⟨y1, hy1, hr⟩ := bd hr
  obtain ⟨F, hF, hcl⟩ := H.call
  refine WL.call rfl rfl rfl rfl rfl ok83 rfl (sl1New_ok hy1 (hF.get (i := 0) rfl)) ?_
  rintro _ w2 hE ⟨b2, A1, n1, c1, rfl, hI1, hI2, H'⟩
  have H : HL F0 [] w0 w2 [Pr.S a0 (.slice A0' n0' c0'), Pr.S y1.b (.slice A1 n1 c1)] [It.B b1 31 [.int .i64 0, .int .i64 0, .int .i64 0, .int .i64 0, .string (⟨#[]⟩ : ByteArray), .string (⟨#[]⟩ : ByteArray), .slice none 0 0], It.B b2 159 [.slice A1 n1 c1, .int .i64 y1.i, .int .i64 y1.h]] := hcl H'
  refine WL.ev rfl rfl (Ev.as rfl rfl) (WL.nil ?_)
  refine CW.seq (CW.reg ?_)
  refine WL.ev rfl rfl (Ev.build rfl pl48 ze48 rfl rfl rfl rfl) (WL.ev rfl rfl (Ev.build rfl pl48 ze48 rfl rfl rfl rfl) (WL.ev rfl rfl (Ev.build rfl pl48 ze48 rfl rfl rfl rfl) ?_))
  refine WL.litK (xs := [(⟨0, (⟨#[97]⟩ : ByteArray)⟩ : Occurrence), (⟨1, (⟨#[98]⟩ : ByteArray)⟩ : Occurrence), (⟨1, (⟨#[97]⟩ : ByteArray)⟩ : Occurrence)]) (vs := [.agg #[.int .i64 0, .string (⟨#[97]⟩ : ByteArray)], .agg #[.int .i64 1, .string (⟨#[98]⟩ : ByteArray)], .agg #[.int .i64 1, .string (⟨#[97]⟩ : ByteArray)]]) (css := [[.int .i64 0, .string (⟨#[97]⟩ : ByteArray)], [.int .i64 1, .string (⟨#[98]⟩ : ByteArray)], [.int .i64 1, .string (⟨#[97]⟩ : ByteArray)]]) rfl rfl rfl el33 sz48 ze48 rfl rfl ⟨rfl, rfl, ⟨rfl, rfl, ⟨rfl, rfl, trivial⟩⟩⟩ rfl rfl rfl rfl (fun _ => (ownL.consK (α := Occurrence) ⟨rfl, (by decide : I64 0), (by decide : (⟨#[97]⟩ : ByteArray).size ≤ 9223372036854775807), rfl⟩ (ownL.consK (α := Occurrence) ⟨rfl, (by decide : I64 1), (by decide : (⟨#[98]⟩ : ByteArray).size ≤ 9223372036854775807), rfl⟩ (ownL.consK (α := Occurrence) ⟨rfl, (by decide : I64 1), (by decide : (⟨#[97]⟩ : ByteArray).size ≤ 9223372036854775807), rfl⟩ ⟨rfl, rfl⟩)))) rfl rfl H fun A2 n2 c2 w3 H => ?_
  refine WL.ev rfl rfl (Ev.as rfl rfl) (WL.nil ?_)
  refine CW.seq (CW.seq (CW.reg ?_))
  refine WL.ev rfl rfl (Ev.mv rfl rfl) ?_
  obtain ⟨⟨y2, z1⟩, hy2, hr⟩ := bd hr
  obtain ⟨F', M', hfF, hoF, hcM⟩ := H.callN [false, true, false] ⟨noB, trivial⟩
  obtain ⟨H', hcN⟩ := hcM (ps := [Pr.S y1.b (.slice A1 n1 c1)]) ⟨hfF.get (i := 1) rfl, trivial⟩
  refine WL.call rfl rfl rfl rfl rfl ok97 rfl (sl1Once_ok hy2 (by decide : I64 3) hI1 hI2 H') ?_
  rintro _ w4 hE ⟨rfl, hI3, hI4, H'⟩
  have H := hcN 1 H' rfl ⟨fun _ _ _ _ _ h => h, trivial⟩
  refine WL.nil ?_
  refine CW.condB rfl (fun h1 => ?_) (fun h1 => ?_)
  · skip
    have hr := ifp h1 hr
    refine CW.seq (CW.reg ?_)
    refine WL.ev rfl rfl (Ev.mv rfl rfl) ?_
    obtain ⟨⟨y3, z2⟩, hy3, hr⟩ := bd hr
    obtain ⟨F', M', hfF, hcM⟩ := H.callW [false, true, false] ⟨noB, trivial⟩
    obtain ⟨H', hcN⟩ := hcM (ps := [Pr.S y1.b (.slice A1 n1 c1)]) ⟨hfF.get (i := 1) rfl, trivial⟩
    refine WL.call rfl rfl rfl rfl rfl ok84 rfl (sl4Bent_ok hy3 hI3 hI4 H') ?_
    rintro _ w5 hE ⟨A3, n3, c3, rfl, hI5, hI6, hI7, hI8, hS1, hS2, hI9, hI10, H'⟩
    have H := hcN 1 H' rfl
    refine WL.ev rfl rfl (Ev.mv rfl rfl) ?_
    refine WL.stB (i := 0) rfl rfl rfl sz31 rfl rfl rfl rfl (all1 rfl (all1 rfl (all1 rfl (all1 rfl (all1 rfl (all1 rfl (all1 rfl all0))))))) H rfl rfl rfl fun w6 H => ?_
    refine WL.ev rfl rfl (Ev.as rfl rfl) (WL.nil ?_)
    refine CW.ret ?_
    have H := H.frzO (i := 2) rfl
    obtain rfl := sm hr
    exact ⟨_, resC1 rfl ag31 sz31 rfl rfl rfl rfl (At.blk (H.rB (i := 0) rfl)) rfl, H.ext0, _, _, _, _, _, _, rfl, hI5, hI6, hI7, hI8, hS1, hS2, H.outM (fr' := [Pr.S [(⟨0, (⟨#[97]⟩ : ByteArray)⟩ : Occurrence), (⟨1, (⟨#[98]⟩ : ByteArray)⟩ : Occurrence), (⟨1, (⟨#[97]⟩ : ByteArray)⟩ : Occurrence)] (.slice A2 n2 c2)]) [false, false, false, true] fun _ h => ⟨h.get (i := 2) rfl, trivial⟩⟩
  · skip
    have hr := ifn h1 hr
    refine CW.skip ?_
    refine CW.seq (CW.reg ?_)
    refine WL.ev rfl rfl (Ev.mv rfl rfl) (WL.ev rfl rfl (Ev.mv rfl rfl) ?_)
    have H := H.frzO (i := 2) rfl
    obtain ⟨⟨y4, z3⟩, hy4, hr⟩ := bd hr
    obtain ⟨F', M', hfF, hcM⟩ := H.callW [false, true, false] ⟨noB, trivial⟩
    obtain ⟨H', hcN⟩ := hcM (ps := [Pr.S [(⟨0, (⟨#[97]⟩ : ByteArray)⟩ : Occurrence), (⟨1, (⟨#[98]⟩ : ByteArray)⟩ : Occurrence), (⟨1, (⟨#[97]⟩ : ByteArray)⟩ : Occurrence)] (.slice A2 n2 c2), Pr.S y1.b (.slice A1 n1 c1)]) ⟨hfF.get (i := 2) rfl, hfF.get (i := 1) rfl, trivial⟩
    refine WL.call rfl rfl rfl rfl rfl ok158 rfl (sl32Set_ok hy4 (by decide : I64 4) hI3 hI4 H') ?_
    rintro _ w7 hE ⟨A4, n4, c4, rfl, hI11, hI12, hI13, hI14, hS3, hS4, hI15, hI16, H'⟩
    have H := hcN 1 H' rfl
    refine WL.allocH rfl rfl rfl ze31 H fun b3 w8 H => ?_
    refine WL.stB (i := 4) rfl rfl rfl sz31 rfl rfl rfl rfl (all1 rfl (all1 rfl (all1 rfl (all1 rfl (all1 rfl (all1 rfl (all1 rfl all0))))))) H rfl rfl rfl fun w9 H => ?_
    refine WL.nil ?_
    refine CW.seq (CW.seq (CW.reg ?_))
    refine WL.ev rfl rfl (Ev.mv rfl rfl) ?_
    obtain ⟨⟨y5, z4⟩, hy5, hr⟩ := bd hr
    obtain ⟨F', M', hfF, hoF, hcM⟩ := H.callN [false, true, false, false, false] ⟨noB, trivial⟩
    obtain ⟨H', hcN⟩ := hcM (ps := [Pr.S y1.b (.slice A1 n1 c1)]) ⟨hfF.get (i := 1) rfl, trivial⟩
    refine WL.call rfl rfl rfl rfl rfl ok97 rfl (sl1Once_ok hy5 (by decide : I64 3) hI15 hI16 H') ?_
    rintro _ w10 hE ⟨rfl, hI17, hI18, H'⟩
    have H := hcN 1 H' rfl ⟨fun _ _ _ _ _ h => h, trivial⟩
    refine WL.nil ?_
    refine CW.condB rfl (fun h2 => ?_) (fun h2 => ?_)
    · skip
      have hr := ifp h2 hr
      obtain ⟨q1, hm1, hr⟩ := bd hr
      refine CW.mid (fun ρ' w => ∃ (s1 : List Expr) (s2 : Int) (s3 : Int) (s4 : Int) (s5 : Int) (s6 : Int) (s7 : Int) (s8 : ByteArray) (s9 : ByteArray) (v1 : Value), q1 = (s1, s2, s3, s4, s5, s6, s7, s8, s9) ∧ agree ρ' [(2, .pointer (some ⟨b1, 0, none⟩)), (4, .pointer (some ⟨b2, 0, none⟩)), (5, .slice A2 n2 c2), (6, .pointer (some ⟨b3, 0, none⟩))] ∧ I64 s2 ∧ I64 s3 ∧ I64 s4 ∧ I64 s5 ∧ I64 s6 ∧ I64 s7 ∧ s8.size ≤ 9223372036854775807 ∧ s9.size ≤ 9223372036854775807 ∧ HL F0 [] w0 w [Pr.S a0 (.slice A0' n0' c0'), Pr.S y1.b (.slice A1 n1 c1), Pr.S [(⟨0, (⟨#[97]⟩ : ByteArray)⟩ : Occurrence), (⟨1, (⟨#[98]⟩ : ByteArray)⟩ : Occurrence), (⟨1, (⟨#[97]⟩ : ByteArray)⟩ : Occurrence)] (.slice A2 n2 c2)] [It.B b1 31 [.int .i64 0, .int .i64 0, .int .i64 0, .int .i64 0, .string (⟨#[]⟩ : ByteArray), .string (⟨#[]⟩ : ByteArray), .slice none 0 0], It.B b2 159 [.slice A1 n1 c1, .int .i64 s2, .int .i64 s3], It.emp, It.emp, It.B b3 31 [.int .i64 s4, .int .i64 s5, .int .i64 s6, .int .i64 s7, .string s8, .string s9, v1], It.G 31 s1 v1]) ?_ ?_
      · skip
        refine CW.held (fun w => ∃ v1_1_ : Value, ∃ v1_2_ : Value, ∃ o3_ : It, ∃ v4_0_ : Value, ∃ v4_1_ : Value, ∃ v4_2_ : Value, ∃ v4_3_ : Value, ∃ v4_4_ : Value, ∃ v4_5_ : Value, ∃ v4_6_ : Value, HL F0 [] w0 w [Pr.S a0 (.slice A0' n0' c0'), Pr.S y1.b (.slice A1 n1 c1), Pr.S [(⟨0, (⟨#[97]⟩ : ByteArray)⟩ : Occurrence), (⟨1, (⟨#[98]⟩ : ByteArray)⟩ : Occurrence), (⟨1, (⟨#[97]⟩ : ByteArray)⟩ : Occurrence)] (.slice A2 n2 c2)] [It.B b1 31 [.int .i64 0, .int .i64 0, .int .i64 0, .int .i64 0, .string (⟨#[]⟩ : ByteArray), .string (⟨#[]⟩ : ByteArray), .slice none 0 0], It.B b2 159 [.slice A1 n1 c1, v1_1_, v1_2_], It.emp, o3_, It.B b3 31 [v4_0_, v4_1_, v4_2_, v4_3_, v4_4_, v4_5_, v4_6_]]) hmix (fun w11 hE => ?_)
        have H : HL F0 [] w0 w11 [Pr.S a0 (.slice A0' n0' c0'), Pr.S y1.b (.slice A1 n1 c1), Pr.S [(⟨0, (⟨#[97]⟩ : ByteArray)⟩ : Occurrence), (⟨1, (⟨#[98]⟩ : ByteArray)⟩ : Occurrence), (⟨1, (⟨#[97]⟩ : ByteArray)⟩ : Occurrence)] (.slice A2 n2 c2)] [It.B b1 31 [.int .i64 0, .int .i64 0, .int .i64 0, .int .i64 0, .string (⟨#[]⟩ : ByteArray), .string (⟨#[]⟩ : ByteArray), .slice none 0 0], It.B b2 159 [.slice A1 n1 c1, .int .i64 z4.i, .int .i64 z4.h], It.emp, It.G 31 y4.Args (.slice A4 n4 c4), It.B b3 31 [.int .i64 y4.Kind, .int .i64 y4.N, .int .i64 y4.Pos, .int .i64 y4.Type_, .string y4.Symbol, .string y4.Name, .slice A4 n4 c4]] := H.ext hE
        refine HW.take 1 ⟨_, _, _, _, _, _, _, _, _, _, H.keep 3 5⟩ rfl (by kernel_rfl) rfl rfl (fun _ _ => Ev.mv rfl rfl) ?_
        refine HW.take 2 ⟨_, _, _, _, _, _, _, _, _, _, H.keep 3 5⟩ rfl (by kernel_rfl) rfl rfl (fun _ _ => Ev.mv rfl rfl) ?_
        refine HW.some [0, 3] (by kernel_rfl) rfl ⟨HW.do1 rfl ?_, HW.do1 rfl ?_, trivial⟩
        · skip
          refine WL.ev rfl rfl (Ev.lda rfl ag31 sz31 rfl (At.blk (H.rB (i := 4) rfl)) rfl) ?_
          refine HW.next ⟨_, _, _, _, _, _, _, _, _, _, H.keep 3 5⟩ ?_
          refine HW.eff 3 rfl (by kernel_rfl) ?_
          obtain ⟨⟨y6, z5⟩, hy6, hm1⟩ := bd hm1
          obtain ⟨F', M', hfF, hcM⟩ := H.callW [false, true, false, false, false] ⟨noB, trivial⟩
          obtain ⟨H', hcN⟩ := hcM (ps := [Pr.S [(⟨0, (⟨#[97]⟩ : ByteArray)⟩ : Occurrence), (⟨1, (⟨#[98]⟩ : ByteArray)⟩ : Occurrence), (⟨1, (⟨#[97]⟩ : ByteArray)⟩ : Occurrence)] (.slice A2 n2 c2), Pr.S y1.b (.slice A1 n1 c1)]) ⟨hfF.get (i := 2) rfl, hfF.get (i := 1) rfl, trivial⟩
          refine WL.call rfl rfl rfl rfl rfl ok158 rfl (sl32Set_ok hy6 (by decide : I64 2) hI17 hI18 H') ?_
          rintro _ w12 hE ⟨A5, n5, c5, rfl, hI25, hI26, hI27, hI28, hS7, hS8, hI29, hI30, H'⟩
          have H := hcN 1 H' rfl
          refine HW.next ⟨_, _, _, _, _, _, _, _, _, _, H.keep 3 5⟩ ?_
          refine HW.eff 4 rfl (by kernel_rfl) ?_
          have H := H.frzG (i := 3) rfl
          have H := H.frzG (i := 5) rfl
          obtain ⟨y7, hy7, hm1⟩ := bd hm1
          obtain ⟨F, hF, hcl⟩ := H.call
          refine WL.call rfl rfl rfl rfl rfl ok99 rfl (sl4Op_ok hy7 (by decide : I64 8) (Expr_rd.2 ⟨_, rfl, hI11, hI12, hI13, hI14, hS3, hS4, (hF.get (i := 3) rfl)⟩) (Expr_rd.2 ⟨_, rfl, hI25, hI26, hI27, hI28, hS7, hS8, (hF.get (i := 4) rfl)⟩)) ?_
          rintro _ w13 hE ⟨A6, n6, c6, rfl, hI31, hI32, hI33, hI34, hS9, hS10, H'⟩
          have H : HL F0 [] w0 w13 [Pr.S a0 (.slice A0' n0' c0'), Pr.S y1.b (.slice A1 n1 c1), Pr.S [(⟨0, (⟨#[97]⟩ : ByteArray)⟩ : Occurrence), (⟨1, (⟨#[98]⟩ : ByteArray)⟩ : Occurrence), (⟨1, (⟨#[97]⟩ : ByteArray)⟩ : Occurrence)] (.slice A2 n2 c2), Pr.S y4.Args (.slice A4 n4 c4), Pr.S y6.Args (.slice A5 n5 c5)] [It.B b1 31 [.int .i64 0, .int .i64 0, .int .i64 0, .int .i64 0, .string (⟨#[]⟩ : ByteArray), .string (⟨#[]⟩ : ByteArray), .slice none 0 0], It.B b2 159 [.slice A1 n1 c1, .int .i64 z5.i, .int .i64 z5.h], It.emp, It.emp, It.B b3 31 [.int .i64 y4.Kind, .int .i64 y4.N, .int .i64 y4.Pos, .int .i64 y4.Type_, .string y4.Symbol, .string y4.Name, .slice A4 n4 c4], It.emp, It.G 31 y7.Args (.slice A6 n6 c6)] := hcl H'
          refine HW.next ⟨_, _, _, _, _, _, _, _, _, _, H.keep 3 5⟩ ?_
          refine HW.eff 5 rfl (by kernel_rfl) ?_
          refine WL.stB (i := 4) rfl rfl rfl sz31 rfl rfl rfl rfl (all1 rfl (all1 rfl (all1 rfl (all1 rfl (all1 rfl (all1 rfl (all1 rfl all0))))))) H rfl rfl rfl fun w14 H => ?_
          refine HW.next ⟨_, _, _, _, _, _, _, _, _, _, H.keep 3 5⟩ ?_
          refine HW.done (by kernel_rfl) ?_
          have H := H.swap 5 6
          obtain rfl := sm hm1
          exact ⟨y7.Args, z5.i, z5.h, y7.Kind, y7.N, y7.Pos, y7.Type_, y7.Symbol, y7.Name, _, rfl, ⟨rfl, rfl, rfl, rfl, trivial⟩, hI29, hI30, hI31, hI32, hI33, hI34, hS9, hS10, H.keep 3 6⟩
        · skip
          obtain ⟨⟨y6, z5⟩, hy6, hm1⟩ := bd hm1
          obtain ⟨y7, hy7, hm1⟩ := bd hm1
          obtain ⟨F', M', hfF, hcM⟩ := H.callW [false, true, false, false, false] ⟨noB, trivial⟩
          obtain ⟨H', hcN⟩ := hcM (ps := [Pr.S [(⟨0, (⟨#[97]⟩ : ByteArray)⟩ : Occurrence), (⟨1, (⟨#[98]⟩ : ByteArray)⟩ : Occurrence), (⟨1, (⟨#[97]⟩ : ByteArray)⟩ : Occurrence)] (.slice A2 n2 c2), Pr.S y1.b (.slice A1 n1 c1)]) ⟨hfF.get (i := 2) rfl, hfF.get (i := 1) rfl, trivial⟩
          refine WL.call rfl rfl rfl rfl rfl ok158 rfl (sl32Set_ok hy6 (by decide : I64 2) hI17 hI18 H') ?_
          rintro _ w12 hE ⟨A5, n5, c5, rfl, hI25, hI26, hI27, hI28, hS7, hS8, hI29, hI30, H'⟩
          have H := hcN 1 H' rfl
          refine HW.next ⟨_, _, _, _, _, _, _, _, _, _, H.keep 3 5⟩ ?_
          refine HW.eff 0 rfl (by kernel_rfl) ?_
          refine WL.ev rfl rfl (Ev.lda rfl ag31 sz31 rfl (At.blk (H.rB (i := 4) rfl)) rfl) ?_
          refine HW.next ⟨_, _, _, _, _, _, _, _, _, _, H.keep 3 5⟩ ?_
          refine HW.eff 4 rfl (by kernel_rfl) ?_
          have H := H.frzG (i := 3) rfl
          have H := H.frzG (i := 5) rfl
          obtain ⟨F, hF, hcl⟩ := H.call
          refine WL.call rfl rfl rfl rfl rfl ok99 rfl (sl4Op_ok hy7 (by decide : I64 8) (Expr_rd.2 ⟨_, rfl, hI11, hI12, hI13, hI14, hS3, hS4, (hF.get (i := 3) rfl)⟩) (Expr_rd.2 ⟨_, rfl, hI25, hI26, hI27, hI28, hS7, hS8, (hF.get (i := 4) rfl)⟩)) ?_
          rintro _ w13 hE ⟨A6, n6, c6, rfl, hI31, hI32, hI33, hI34, hS9, hS10, H'⟩
          have H : HL F0 [] w0 w13 [Pr.S a0 (.slice A0' n0' c0'), Pr.S y1.b (.slice A1 n1 c1), Pr.S [(⟨0, (⟨#[97]⟩ : ByteArray)⟩ : Occurrence), (⟨1, (⟨#[98]⟩ : ByteArray)⟩ : Occurrence), (⟨1, (⟨#[97]⟩ : ByteArray)⟩ : Occurrence)] (.slice A2 n2 c2), Pr.S y4.Args (.slice A4 n4 c4), Pr.S y6.Args (.slice A5 n5 c5)] [It.B b1 31 [.int .i64 0, .int .i64 0, .int .i64 0, .int .i64 0, .string (⟨#[]⟩ : ByteArray), .string (⟨#[]⟩ : ByteArray), .slice none 0 0], It.B b2 159 [.slice A1 n1 c1, .int .i64 z5.i, .int .i64 z5.h], It.emp, It.emp, It.B b3 31 [.int .i64 y4.Kind, .int .i64 y4.N, .int .i64 y4.Pos, .int .i64 y4.Type_, .string y4.Symbol, .string y4.Name, .slice A4 n4 c4], It.emp, It.G 31 y7.Args (.slice A6 n6 c6)] := hcl H'
          refine HW.next ⟨_, _, _, _, _, _, _, _, _, _, H.keep 3 5⟩ ?_
          refine HW.eff 5 rfl (by kernel_rfl) ?_
          refine WL.stB (i := 4) rfl rfl rfl sz31 rfl rfl rfl rfl (all1 rfl (all1 rfl (all1 rfl (all1 rfl (all1 rfl (all1 rfl (all1 rfl all0))))))) H rfl rfl rfl fun w14 H => ?_
          refine HW.next ⟨_, _, _, _, _, _, _, _, _, _, H.keep 3 5⟩ ?_
          refine HW.done (by kernel_rfl) ?_
          have H := H.swap 5 6
          obtain rfl := sm hm1
          exact ⟨y7.Args, z5.i, z5.h, y7.Kind, y7.N, y7.Pos, y7.Type_, y7.Symbol, y7.Name, _, rfl, ⟨rfl, rfl, rfl, rfl, trivial⟩, hI29, hI30, hI31, hI32, hI33, hI34, hS9, hS10, H.keep 3 6⟩
      · rintro ρ' w15 ⟨s1, s2, s3, s4, s5, s6, s7, s8, s9, v1, rfl, hag, hI19, hI20, hI21, hI22, hI23, hI24, hS5, hS6, H⟩
        obtain ⟨σ, rfl⟩ := ofL_ex hag
        obtain ⟨A7, n7, c7, rfl⟩ := (H.rG (i := 5) rfl).form3
        obtain ⟨q2, hm2, hr⟩ := bd hr
        refine CW.seq (CW.mid (fun ρ' w => ∃ (s10 : List Occurrence) (s11 : Int) (s12 : Int) (v2 : Value), q2 = (s10, s11, s12) ∧ agree ρ' [(2, .pointer (some ⟨b1, 0, none⟩)), (3, v2)] ∧ I64 s11 ∧ I64 s12 ∧ HL F0 [] w0 w [Pr.S a0 (.slice A0' n0' c0'), Pr.S y1.b (.slice A1 n1 c1), Pr.S [(⟨0, (⟨#[97]⟩ : ByteArray)⟩ : Occurrence), (⟨1, (⟨#[98]⟩ : ByteArray)⟩ : Occurrence), (⟨1, (⟨#[97]⟩ : ByteArray)⟩ : Occurrence)] (.slice A2 n2 c2), Pr.S s10 v2] [It.B b1 31 [.int .i64 s4, .int .i64 s5, .int .i64 s6, .int .i64 s7, .string s8, .string s9, .slice A7 n7 c7], It.B b2 159 [.slice A1 n1 c1, .int .i64 s11, .int .i64 s12], It.emp, It.emp, It.B b3 31 [.int .i64 s4, .int .i64 s5, .int .i64 s6, .int .i64 s7, .string s8, .string s9, .slice A7 n7 c7], It.G 31 s1 (.slice A7 n7 c7)]) ?_ ?_)
        · skip
          refine CW.held (fun w => ∃ v0_0_ : Value, ∃ v0_1_ : Value, ∃ v0_2_ : Value, ∃ v0_3_ : Value, ∃ v0_4_ : Value, ∃ v0_5_ : Value, ∃ v0_6_ : Value, ∃ v1_1_ : Value, ∃ v1_2_ : Value, HL F0 [] w0 w [Pr.S a0 (.slice A0' n0' c0'), Pr.S y1.b (.slice A1 n1 c1), Pr.S [(⟨0, (⟨#[97]⟩ : ByteArray)⟩ : Occurrence), (⟨1, (⟨#[98]⟩ : ByteArray)⟩ : Occurrence), (⟨1, (⟨#[97]⟩ : ByteArray)⟩ : Occurrence)] (.slice A2 n2 c2)] [It.B b1 31 [v0_0_, v0_1_, v0_2_, v0_3_, v0_4_, v0_5_, v0_6_], It.B b2 159 [.slice A1 n1 c1, v1_1_, v1_2_], It.emp, It.emp, It.B b3 31 [.int .i64 s4, .int .i64 s5, .int .i64 s6, .int .i64 s7, .string s8, .string s9, .slice A7 n7 c7], It.G 31 s1 (.slice A7 n7 c7)]) hmix (fun w16 hE => ?_)
          have H : HL F0 [] w0 w16 [Pr.S a0 (.slice A0' n0' c0'), Pr.S y1.b (.slice A1 n1 c1), Pr.S [(⟨0, (⟨#[97]⟩ : ByteArray)⟩ : Occurrence), (⟨1, (⟨#[98]⟩ : ByteArray)⟩ : Occurrence), (⟨1, (⟨#[97]⟩ : ByteArray)⟩ : Occurrence)] (.slice A2 n2 c2)] [It.B b1 31 [.int .i64 0, .int .i64 0, .int .i64 0, .int .i64 0, .string (⟨#[]⟩ : ByteArray), .string (⟨#[]⟩ : ByteArray), .slice none 0 0], It.B b2 159 [.slice A1 n1 c1, .int .i64 s2, .int .i64 s3], It.emp, It.emp, It.B b3 31 [.int .i64 s4, .int .i64 s5, .int .i64 s6, .int .i64 s7, .string s8, .string s9, .slice A7 n7 c7], It.G 31 s1 (.slice A7 n7 c7)] := H.ext hE
          refine HW.take 0 ⟨_, _, _, _, _, _, _, _, _, H.keep 3 6⟩ rfl (by kernel_rfl) rfl rfl (fun _ ⟨_, _, _, _, _, _, _, _, _, hq⟩ => Ev.lda rfl ag31 sz31 rfl (At.blk (hq.rB (i := 4) rfl)) rfl) ?_
          refine HW.take 1 ⟨_, _, _, _, _, _, _, _, _, H.keep 3 6⟩ rfl (by kernel_rfl) rfl rfl (fun _ _ => Ev.mv rfl rfl) ?_
          refine HW.take 2 ⟨_, _, _, _, _, _, _, _, _, H.keep 3 6⟩ rfl (by kernel_rfl) rfl rfl (fun _ _ => Ev.mv rfl rfl) ?_
          refine HW.eff 3 rfl (by kernel_rfl) ?_
          obtain ⟨⟨y8, z6⟩, hy8, hm2⟩ := bd hm2
          obtain ⟨F', M', hfF, hoF, hcM⟩ := H.callN [false, true, false, false, false, false] ⟨noB, trivial⟩
          obtain ⟨H', hcN⟩ := hcM (ps := [Pr.S y1.b (.slice A1 n1 c1)]) ⟨hfF.get (i := 1) rfl, trivial⟩
          refine WL.call rfl rfl rfl rfl rfl ok86 rfl (sl1Below_ok hy8 (by decide : I64 4) hI19 hI20 H') ?_
          rintro _ w17 hE ⟨rfl, hI37, hI38, hI39, H'⟩
          have H := hcN 1 H' rfl ⟨fun _ _ _ _ _ h => h, trivial⟩
          refine HW.next ⟨_, _, _, _, _, _, _, _, _, H.keep 3 6⟩ ?_
          refine HW.some [4, 5] (by kernel_rfl) rfl ⟨HW.do1 rfl ?_, HW.do1 rfl ?_, trivial⟩
          · skip
            obtain ⟨hg1, hm2⟩ := grd_some hm2
            obtain ⟨hg2, hm2⟩ := grd_some hm2
            obtain ⟨A8, n8, c8, e1, hc1, H⟩ := H.slH (i := 2) rfl hg2
            refine WL.ev rfl rfl (Ev.slHV rfl el33 sz48 rfl rfl ((Int.toNat_of_nonneg hg1).symm) hc1 e1) ?_
            refine HW.next ⟨_, _, _, _, _, _, _, _, _, H.keep 3 6⟩ ?_
            refine HW.eff 5 rfl (by kernel_rfl) ?_
            refine WL.stB (i := 0) rfl rfl rfl sz31 rfl rfl rfl rfl (all1 rfl (all1 rfl (all1 rfl (all1 rfl (all1 rfl (all1 rfl (all1 rfl all0))))))) H rfl rfl rfl fun w18 H => ?_
            refine HW.next ⟨_, _, _, _, _, _, _, _, _, H.keep 3 6⟩ ?_
            refine HW.take 6 ⟨_, _, _, _, _, _, _, _, _, H.keep 3 6⟩ rfl (by kernel_rfl) rfl rfl (fun _ _ => Ev.as rfl rfl) ?_
            refine HW.done (by kernel_rfl) ?_
            obtain rfl := sm hm2
            exact ⟨([(⟨0, (⟨#[97]⟩ : ByteArray)⟩ : Occurrence), (⟨1, (⟨#[98]⟩ : ByteArray)⟩ : Occurrence), (⟨1, (⟨#[97]⟩ : ByteArray)⟩ : Occurrence)].take y8.toNat), z6.i, z6.h, _, rfl, ⟨rfl, rfl, trivial⟩, hI38, hI39, H.out (fun _ h => (h.keep 3).app ⟨h.get (i := 3) rfl, trivial⟩) (List.take_sublist 6 [It.B b1 31 [.int .i64 s4, .int .i64 s5, .int .i64 s6, .int .i64 s7, .string s8, .string s9, .slice A7 n7 c7], It.B b2 159 [.slice A1 n1 c1, .int .i64 z6.i, .int .i64 z6.h], It.emp, It.emp, It.B b3 31 [.int .i64 s4, .int .i64 s5, .int .i64 s6, .int .i64 s7, .string s8, .string s9, .slice A7 n7 c7], It.G 31 s1 (.slice A7 n7 c7)])⟩
          · skip
            obtain ⟨hg1, hm2⟩ := grd_some hm2
            obtain ⟨hg2, hm2⟩ := grd_some hm2
            refine WL.stB (i := 0) rfl rfl rfl sz31 rfl rfl rfl rfl (all1 rfl (all1 rfl (all1 rfl (all1 rfl (all1 rfl (all1 rfl (all1 rfl all0))))))) H rfl rfl rfl fun w18 H => ?_
            refine HW.next ⟨_, _, _, _, _, _, _, _, _, H.keep 3 6⟩ ?_
            refine HW.eff 4 rfl (by kernel_rfl) ?_
            obtain ⟨A8, n8, c8, e1, hc1, H⟩ := H.slH (i := 2) rfl hg2
            refine WL.ev rfl rfl (Ev.slHV rfl el33 sz48 rfl rfl ((Int.toNat_of_nonneg hg1).symm) hc1 e1) ?_
            refine HW.next ⟨_, _, _, _, _, _, _, _, _, H.keep 3 6⟩ ?_
            refine HW.take 6 ⟨_, _, _, _, _, _, _, _, _, H.keep 3 6⟩ rfl (by kernel_rfl) rfl rfl (fun _ _ => Ev.as rfl rfl) ?_
            refine HW.done (by kernel_rfl) ?_
            obtain rfl := sm hm2
            exact ⟨([(⟨0, (⟨#[97]⟩ : ByteArray)⟩ : Occurrence), (⟨1, (⟨#[98]⟩ : ByteArray)⟩ : Occurrence), (⟨1, (⟨#[97]⟩ : ByteArray)⟩ : Occurrence)].take y8.toNat), z6.i, z6.h, _, rfl, ⟨rfl, rfl, trivial⟩, hI38, hI39, H.out (fun _ h => (h.keep 3).app ⟨h.get (i := 3) rfl, trivial⟩) (List.take_sublist 6 [It.B b1 31 [.int .i64 s4, .int .i64 s5, .int .i64 s6, .int .i64 s7, .string s8, .string s9, .slice A7 n7 c7], It.B b2 159 [.slice A1 n1 c1, .int .i64 z6.i, .int .i64 z6.h], It.emp, It.emp, It.B b3 31 [.int .i64 s4, .int .i64 s5, .int .i64 s6, .int .i64 s7, .string s8, .string s9, .slice A7 n7 c7], It.G 31 s1 (.slice A7 n7 c7)])⟩
        · rintro ρ' w19 ⟨s10, s11, s12, v2, rfl, hag, hI35, hI36, H⟩
          obtain ⟨σ, rfl⟩ := ofL_ex hag
          obtain ⟨A9, n9, c9, rfl⟩ := (H.rS (i := 3) rfl).form3
          refine CW.ret ?_
          obtain rfl := sm hr
          exact ⟨_, resC1 rfl ag31 sz31 rfl rfl rfl rfl (At.blk (H.rB (i := 0) rfl)) rfl, H.ext0, _, _, _, _, _, _, rfl, hI21, hI22, hI23, hI24, hS5, hS6, H.outM (fr' := [Pr.S s10 (.slice A9 n9 c9)]) [false, false, false, false, false, true] fun _ h => ⟨h.get (i := 3) rfl, trivial⟩⟩
    · skip
      have hr := ifn h2 hr
      refine CW.skip ?_
      obtain ⟨q3, hm3, hr⟩ := bd hr
      refine CW.seq (CW.mid (fun ρ' w => ∃ (s13 : List Occurrence) (s14 : Int) (s15 : Int) (v3 : Value), q3 = (s13, s14, s15) ∧ agree ρ' [(2, .pointer (some ⟨b1, 0, none⟩)), (3, v3)] ∧ I64 s14 ∧ I64 s15 ∧ HL F0 [] w0 w [Pr.S a0 (.slice A0' n0' c0'), Pr.S y1.b (.slice A1 n1 c1), Pr.S [(⟨0, (⟨#[97]⟩ : ByteArray)⟩ : Occurrence), (⟨1, (⟨#[98]⟩ : ByteArray)⟩ : Occurrence), (⟨1, (⟨#[97]⟩ : ByteArray)⟩ : Occurrence)] (.slice A2 n2 c2), Pr.S s13 v3] [It.B b1 31 [.int .i64 y4.Kind, .int .i64 y4.N, .int .i64 y4.Pos, .int .i64 y4.Type_, .string y4.Symbol, .string y4.Name, .slice A4 n4 c4], It.B b2 159 [.slice A1 n1 c1, .int .i64 s14, .int .i64 s15], It.emp, It.G 31 y4.Args (.slice A4 n4 c4), It.B b3 31 [.int .i64 y4.Kind, .int .i64 y4.N, .int .i64 y4.Pos, .int .i64 y4.Type_, .string y4.Symbol, .string y4.Name, .slice A4 n4 c4]]) ?_ ?_)
      · skip
        refine CW.held (fun w => ∃ v0_0_ : Value, ∃ v0_1_ : Value, ∃ v0_2_ : Value, ∃ v0_3_ : Value, ∃ v0_4_ : Value, ∃ v0_5_ : Value, ∃ v0_6_ : Value, ∃ v1_1_ : Value, ∃ v1_2_ : Value, HL F0 [] w0 w [Pr.S a0 (.slice A0' n0' c0'), Pr.S y1.b (.slice A1 n1 c1), Pr.S [(⟨0, (⟨#[97]⟩ : ByteArray)⟩ : Occurrence), (⟨1, (⟨#[98]⟩ : ByteArray)⟩ : Occurrence), (⟨1, (⟨#[97]⟩ : ByteArray)⟩ : Occurrence)] (.slice A2 n2 c2)] [It.B b1 31 [v0_0_, v0_1_, v0_2_, v0_3_, v0_4_, v0_5_, v0_6_], It.B b2 159 [.slice A1 n1 c1, v1_1_, v1_2_], It.emp, It.G 31 y4.Args (.slice A4 n4 c4), It.B b3 31 [.int .i64 y4.Kind, .int .i64 y4.N, .int .i64 y4.Pos, .int .i64 y4.Type_, .string y4.Symbol, .string y4.Name, .slice A4 n4 c4]]) hmix (fun w20 hE => ?_)
        have H : HL F0 [] w0 w20 [Pr.S a0 (.slice A0' n0' c0'), Pr.S y1.b (.slice A1 n1 c1), Pr.S [(⟨0, (⟨#[97]⟩ : ByteArray)⟩ : Occurrence), (⟨1, (⟨#[98]⟩ : ByteArray)⟩ : Occurrence), (⟨1, (⟨#[97]⟩ : ByteArray)⟩ : Occurrence)] (.slice A2 n2 c2)] [It.B b1 31 [.int .i64 0, .int .i64 0, .int .i64 0, .int .i64 0, .string (⟨#[]⟩ : ByteArray), .string (⟨#[]⟩ : ByteArray), .slice none 0 0], It.B b2 159 [.slice A1 n1 c1, .int .i64 z4.i, .int .i64 z4.h], It.emp, It.G 31 y4.Args (.slice A4 n4 c4), It.B b3 31 [.int .i64 y4.Kind, .int .i64 y4.N, .int .i64 y4.Pos, .int .i64 y4.Type_, .string y4.Symbol, .string y4.Name, .slice A4 n4 c4]] := H.ext hE
        refine HW.take 0 ⟨_, _, _, _, _, _, _, _, _, H.keep 3 5⟩ rfl (by kernel_rfl) rfl rfl (fun _ ⟨_, _, _, _, _, _, _, _, _, hq⟩ => Ev.lda rfl ag31 sz31 rfl (At.blk (hq.rB (i := 4) rfl)) rfl) ?_
        refine HW.take 1 ⟨_, _, _, _, _, _, _, _, _, H.keep 3 5⟩ rfl (by kernel_rfl) rfl rfl (fun _ _ => Ev.mv rfl rfl) ?_
        refine HW.take 2 ⟨_, _, _, _, _, _, _, _, _, H.keep 3 5⟩ rfl (by kernel_rfl) rfl rfl (fun _ _ => Ev.mv rfl rfl) ?_
        refine HW.eff 3 rfl (by kernel_rfl) ?_
        obtain ⟨⟨y9, z7⟩, hy9, hm3⟩ := bd hm3
        obtain ⟨F', M', hfF, hoF, hcM⟩ := H.callN [false, true, false, false, false] ⟨noB, trivial⟩
        obtain ⟨H', hcN⟩ := hcM (ps := [Pr.S y1.b (.slice A1 n1 c1)]) ⟨hfF.get (i := 1) rfl, trivial⟩
        refine WL.call rfl rfl rfl rfl rfl ok86 rfl (sl1Below_ok hy9 (by decide : I64 4) hI17 hI18 H') ?_
        rintro _ w21 hE ⟨rfl, hI42, hI43, hI44, H'⟩
        have H := hcN 1 H' rfl ⟨fun _ _ _ _ _ h => h, trivial⟩
        refine HW.next ⟨_, _, _, _, _, _, _, _, _, H.keep 3 5⟩ ?_
        refine HW.some [4, 5] (by kernel_rfl) rfl ⟨HW.do1 rfl ?_, HW.do1 rfl ?_, trivial⟩
        · skip
          obtain ⟨hg3, hm3⟩ := grd_some hm3
          obtain ⟨hg4, hm3⟩ := grd_some hm3
          obtain ⟨A10, n10, c10, e2, hc2, H⟩ := H.slH (i := 2) rfl hg4
          refine WL.ev rfl rfl (Ev.slHV rfl el33 sz48 rfl rfl ((Int.toNat_of_nonneg hg3).symm) hc2 e2) ?_
          refine HW.next ⟨_, _, _, _, _, _, _, _, _, H.keep 3 5⟩ ?_
          refine HW.eff 5 rfl (by kernel_rfl) ?_
          refine WL.stB (i := 0) rfl rfl rfl sz31 rfl rfl rfl rfl (all1 rfl (all1 rfl (all1 rfl (all1 rfl (all1 rfl (all1 rfl (all1 rfl all0))))))) H rfl rfl rfl fun w22 H => ?_
          refine HW.next ⟨_, _, _, _, _, _, _, _, _, H.keep 3 5⟩ ?_
          refine HW.take 6 ⟨_, _, _, _, _, _, _, _, _, H.keep 3 5⟩ rfl (by kernel_rfl) rfl rfl (fun _ _ => Ev.as rfl rfl) ?_
          refine HW.done (by kernel_rfl) ?_
          obtain rfl := sm hm3
          exact ⟨([(⟨0, (⟨#[97]⟩ : ByteArray)⟩ : Occurrence), (⟨1, (⟨#[98]⟩ : ByteArray)⟩ : Occurrence), (⟨1, (⟨#[97]⟩ : ByteArray)⟩ : Occurrence)].take y9.toNat), z7.i, z7.h, _, rfl, ⟨rfl, rfl, trivial⟩, hI43, hI44, H.out (fun _ h => (h.keep 3).app ⟨h.get (i := 3) rfl, trivial⟩) (List.take_sublist 5 [It.B b1 31 [.int .i64 y4.Kind, .int .i64 y4.N, .int .i64 y4.Pos, .int .i64 y4.Type_, .string y4.Symbol, .string y4.Name, .slice A4 n4 c4], It.B b2 159 [.slice A1 n1 c1, .int .i64 z7.i, .int .i64 z7.h], It.emp, It.G 31 y4.Args (.slice A4 n4 c4), It.B b3 31 [.int .i64 y4.Kind, .int .i64 y4.N, .int .i64 y4.Pos, .int .i64 y4.Type_, .string y4.Symbol, .string y4.Name, .slice A4 n4 c4]])⟩
        · skip
          obtain ⟨hg3, hm3⟩ := grd_some hm3
          obtain ⟨hg4, hm3⟩ := grd_some hm3
          refine WL.stB (i := 0) rfl rfl rfl sz31 rfl rfl rfl rfl (all1 rfl (all1 rfl (all1 rfl (all1 rfl (all1 rfl (all1 rfl (all1 rfl all0))))))) H rfl rfl rfl fun w22 H => ?_
          refine HW.next ⟨_, _, _, _, _, _, _, _, _, H.keep 3 5⟩ ?_
          refine HW.eff 4 rfl (by kernel_rfl) ?_
          obtain ⟨A10, n10, c10, e2, hc2, H⟩ := H.slH (i := 2) rfl hg4
          refine WL.ev rfl rfl (Ev.slHV rfl el33 sz48 rfl rfl ((Int.toNat_of_nonneg hg3).symm) hc2 e2) ?_
          refine HW.next ⟨_, _, _, _, _, _, _, _, _, H.keep 3 5⟩ ?_
          refine HW.take 6 ⟨_, _, _, _, _, _, _, _, _, H.keep 3 5⟩ rfl (by kernel_rfl) rfl rfl (fun _ _ => Ev.as rfl rfl) ?_
          refine HW.done (by kernel_rfl) ?_
          obtain rfl := sm hm3
          exact ⟨([(⟨0, (⟨#[97]⟩ : ByteArray)⟩ : Occurrence), (⟨1, (⟨#[98]⟩ : ByteArray)⟩ : Occurrence), (⟨1, (⟨#[97]⟩ : ByteArray)⟩ : Occurrence)].take y9.toNat), z7.i, z7.h, _, rfl, ⟨rfl, rfl, trivial⟩, hI43, hI44, H.out (fun _ h => (h.keep 3).app ⟨h.get (i := 3) rfl, trivial⟩) (List.take_sublist 5 [It.B b1 31 [.int .i64 y4.Kind, .int .i64 y4.N, .int .i64 y4.Pos, .int .i64 y4.Type_, .string y4.Symbol, .string y4.Name, .slice A4 n4 c4], It.B b2 159 [.slice A1 n1 c1, .int .i64 z7.i, .int .i64 z7.h], It.emp, It.G 31 y4.Args (.slice A4 n4 c4), It.B b3 31 [.int .i64 y4.Kind, .int .i64 y4.N, .int .i64 y4.Pos, .int .i64 y4.Type_, .string y4.Symbol, .string y4.Name, .slice A4 n4 c4]])⟩
      · rintro ρ' w23 ⟨s13, s14, s15, v3, rfl, hag, hI40, hI41, H⟩
        obtain ⟨σ, rfl⟩ := ofL_ex hag
        obtain ⟨A11, n11, c11, rfl⟩ := (H.rS (i := 3) rfl).form3
        refine CW.ret ?_
        obtain rfl := sm hr
        exact ⟨_, resC1 rfl ag31 sz31 rfl rfl rfl rfl (At.blk (H.rB (i := 0) rfl)) rfl, H.ext0, _, _, _, _, _, _, rfl, hI11, hI12, hI13, hI14, hS3, hS4, H.outM (fr' := [Pr.S s13 (.slice A11 n11 c11)]) [false, false, false, true, false] fun _ h => ⟨h.get (i := 3) rfl, trivial⟩⟩

noncomputable def sDrawIsMonotone_m (a0 : (List UInt8)) : Option (Expr × (List Occurrence)) :=
  (sDrawUsesAny_m a0).bind fun (y1, y2) =>
  some (y1, y2)
theorem sDrawIsMonotone_ok {a0 : (List UInt8)} {r : (Expr × (List Occurrence))} (hr : sDrawIsMonotone_m a0 = some r) {F0 : Nat → Prop} {w0 : World} {z0 : Value} (ha0 : rdS F0 w0 a0 z0) :
    Ret Try.prog 33 #[z0] w0 (fun _ => False) fun v w => ∃ A0 : Option Addr, ∃ n0 c0 : Nat, ∃ A1 : Option Addr, ∃ n1 c1 : Nat, v = .tuple #[.agg #[.int .i64 r.1.Kind, .int .i64 r.1.N, .int .i64 r.1.Pos, .int .i64 r.1.Type_, .string r.1.Symbol, .string r.1.Name, (.slice A0 n0 c0)], (.slice A1 n1 c1)] ∧ I64 r.1.Kind ∧ I64 r.1.N ∧ I64 r.1.Pos ∧ I64 r.1.Type_ ∧ r.1.Symbol.size ≤ 9223372036854775807 ∧ r.1.Name.size ≤ 9223372036854775807 ∧ HL F0 [] w0 w [Pr.S r.2 (.slice A1 n1 c1)] [It.G 31 r.1.Args (.slice A0 n0 c0)] := by
  obtain ⟨A0', n0', c0', rfl⟩ := ha0.form3
  have H := (HL.start F0 w0).argS ha0
  refine enter Try.func33 rfl rfl rfl ?_
  refine CW.seq (CW.reg ?_)
  refine WL.allocH rfl rfl rfl ze31 H fun b1 w1 H => ?_
  refine WL.ev rfl rfl (Ev.as rfl rfl) (WL.nil ?_)
  refine CW.seq (CW.reg ?_)
  refine WL.ev rfl rfl (Ev.mv rfl rfl) ?_
  obtain ⟨⟨y1, y2⟩, hy1, hr⟩ := bd hr
  obtain ⟨F, hF, hcl⟩ := H.call
  refine WL.call rfl rfl rfl rfl rfl ok104 rfl (sDrawUsesAny_ok hy1 (hF.get (i := 0) rfl)) ?_
  rintro _ w2 hE ⟨A1, n1, c1, A2, n2, c2, rfl, hI1, hI2, hI3, hI4, hS1, hS2, H'⟩
  have H : HL F0 [] w0 w2 [Pr.S a0 (.slice A0' n0' c0'), Pr.S y2 (.slice A2 n2 c2)] [It.B b1 31 [.int .i64 0, .int .i64 0, .int .i64 0, .int .i64 0, .string (⟨#[]⟩ : ByteArray), .string (⟨#[]⟩ : ByteArray), .slice none 0 0], It.G 31 y1.Args (.slice A1 n1 c1)] := hcl H'
  refine WL.ev rfl rfl (Ev.ex rfl rfl rfl) (WL.ev rfl rfl (Ev.ex rfl rfl rfl) ?_)
  refine WL.stB (i := 0) rfl rfl rfl sz31 rfl rfl rfl rfl (all1 rfl (all1 rfl (all1 rfl (all1 rfl (all1 rfl (all1 rfl (all1 rfl all0))))))) H rfl rfl rfl fun w3 H => ?_
  refine WL.ev rfl rfl (Ev.as rfl rfl) (WL.nil ?_)
  refine CW.ret ?_
  obtain rfl := sm hr
  exact ⟨_, resC1 rfl ag31 sz31 rfl rfl rfl rfl (At.blk (H.rB (i := 0) rfl)) rfl, H.ext0, _, _, _, _, _, _, rfl, hI1, hI2, hI3, hI4, hS1, hS2, H.outM (fr' := [Pr.S y2 (.slice A2 n2 c2)]) [false, true] fun _ h => ⟨h.get (i := 1) rfl, trivial⟩⟩

noncomputable def iAttributeUses_1_m (a0 : Expr) (o1 : (List Occurrence)) : Option (Bool × (List Occurrence)) :=
  if a0.Kind = 3 then (
  grd (((o1.length : Int) + 1) * 24 ≤ 140737488355328 ∧ (o1.length : Int) + 1 ≤ 9223372036854775807) <|
  some (true, (o1 ++ [(⟨a0.Pos, a0.Name⟩ : Occurrence)]))
  ) else (
  some (true, o1)
  )
theorem iAttributeUses_1_ok {a0 : Expr} {o1 : (List Occurrence)} {r : (Bool × (List Occurrence))} (hr : iAttributeUses_1_m a0 o1 = some r) {F0 : Nat → Prop} {M : List Nat} {w0 : World} {bo1 : Nat} {Aa0_6 : Option Addr} {na0_6 ca0_6 : Nat} {Ao1_0 : Option Addr} {no1_0 co1_0 : Nat} (hIa0_0 : I64 a0.Kind) (hIa0_1 : I64 a0.N) (hIa0_2 : I64 a0.Pos) (hIa0_3 : I64 a0.Type_) (hIa0_4 : a0.Symbol.size ≤ 9223372036854775807) (hIa0_5 : a0.Name.size ≤ 9223372036854775807) (H : HL F0 M w0 w0 [Pr.S a0.Args (.slice Aa0_6 na0_6 ca0_6)] [It.O 48 o1 (.slice Ao1_0 no1_0 co1_0), It.B bo1 33 [.slice Ao1_0 no1_0 co1_0]]) :
    Ret Try.prog 138 #[.agg #[.int .i64 a0.Kind, .int .i64 a0.N, .int .i64 a0.Pos, .int .i64 a0.Type_, .string a0.Symbol, .string a0.Name, .slice Aa0_6 na0_6 ca0_6], .pointer (some ⟨bo1, 0, none⟩)] w0 (· ∈ M) fun v w => ∃ A0 : Option Addr, ∃ n0 c0 : Nat, v = .bool r.1 ∧ HL F0 M w0 w [] [It.O 48 r.2 (.slice A0 n0 c0), It.B bo1 33 [(.slice A0 n0 c0)]] := by
  refine enter Try.func138 rfl rfl rfl ?_
  refine CW.seq (CW.reg ?_)
  refine WL.boxH rfl rfl rfl rfl rfl H fun b1 w1 H => ?_
  refine WL.ev rfl rfl (Ev.as rfl rfl) (WL.nil ?_)
  refine CW.seq (CW.seq (CW.reg ?_))
  refine WL.ev rfl rfl (Ev.fa rfl fo31_0 rfl) (WL.ev rfl rfl (Ev.ld rfl ag3 rfl ((H.rB (i := 2) rfl).cell rfl)) (WL.ev rfl rfl (Ev.bin rfl rfl rfl Bin.eql) (WL.nil ?_)))
  refine CW.condD rfl (fun h1 => ?_) (fun h1 => ?_)
  · skip
    have hr := ifp h1 hr
    refine CW.reg ?_
    refine WL.ev rfl rfl (Ev.ld rfl ag33 rfl ((H.rB (i := 1) rfl).cell rfl)) (WL.ev rfl rfl (Ev.fa rfl fo31_2 rfl) (WL.ev rfl rfl (Ev.ld rfl ag3 rfl ((H.rB (i := 2) rfl).cell rfl)) (WL.ev rfl rfl (Ev.fa rfl fo31_5 rfl) (WL.ev rfl rfl (Ev.ld rfl ag9 rfl ((H.rB (i := 2) rfl).cell rfl)) (WL.ev rfl rfl (Ev.build rfl pl48 ze48 rfl rfl rfl rfl) ?_)))))
    refine WL.lit1 rfl rfl rfl el33 sz48 ze48 rfl rfl rfl rfl rfl rfl fun b2 w2 hE hb hB => ?_
    have H := H.newB hE hb hB
    obtain ⟨hg1, hr⟩ := grd_some hr
    refine WL.appO (i := 0) (ys := [(⟨a0.Pos, a0.Name⟩ : Occurrence)]) rfl rfl rfl el33 sz48 by48 ze48 rfl rfl rfl H rfl (fun _ => ownL.single ⟨rfl, hIa0_2, hIa0_5, rfl⟩) (.inr ⟨_, _, rfl, At.blk (H.rB (i := 3) rfl)⟩) hg1 fun A1 n1 c1 w3 H => ?_
    refine WL.stB (i := 1) rfl rfl rfl sz33 rfl rfl rfl rfl (all1 rfl all0) H rfl rfl rfl fun w4 H => ?_
    refine WL.nil ?_
    refine CW.seq (CW.reg ?_)
    refine WL.ev rfl rfl (Ev.as rfl rfl) (WL.nil ?_)
    refine CW.ret ?_
    obtain rfl := sm hr
    exact ⟨_, res1 rfl rfl rfl, H.chg, _, _, _, rfl, H.outM (fr' := []) [true, true, false, false] fun _ _ => trivial⟩
  · skip
    have hr := ifn h1 hr
    refine CW.skip ?_
    refine CW.seq (CW.reg ?_)
    refine WL.ev rfl rfl (Ev.as rfl rfl) (WL.nil ?_)
    refine CW.ret ?_
    obtain rfl := sm hr
    exact ⟨_, res1 rfl rfl rfl, H.chg, _, _, _, rfl, H.outM (fr' := []) [true, true, false] fun _ _ => trivial⟩

noncomputable def ieveryNode_1_iAttributeUses_1_m (rec_ieveryNode_iAttributeUses_1 : Expr → (List Occurrence) → Option (Bool × (List Occurrence))) (a0 : Expr) (o1 : (List Occurrence)) : Option (Bool × (List Occurrence)) :=
  (rec_ieveryNode_iAttributeUses_1 a0 o1).bind fun (y1, z1) =>
  some (!y1, z1)
theorem ieveryNode_1_iAttributeUses_1_ok {rec_ieveryNode_iAttributeUses_1 : Expr → (List Occurrence) → Option (Bool × (List Occurrence))} (ih_ieveryNode_iAttributeUses_1 : ∀ {a0 : Expr} {o1 : (List Occurrence)} {r : (Bool × (List Occurrence))}, rec_ieveryNode_iAttributeUses_1 a0 o1 = some r → ∀ {F0 : Nat → Prop} {M : List Nat} {w0 : World} {bo1 : Nat} {Aa0_6 : Option Addr} {na0_6 ca0_6 : Nat} {Ao1_0 : Option Addr} {no1_0 co1_0 : Nat} (hIa0_0 : I64 a0.Kind) (hIa0_1 : I64 a0.N) (hIa0_2 : I64 a0.Pos) (hIa0_3 : I64 a0.Type_) (hIa0_4 : a0.Symbol.size ≤ 9223372036854775807) (hIa0_5 : a0.Name.size ≤ 9223372036854775807) (H : HL F0 M w0 w0 [Pr.S a0.Args (.slice Aa0_6 na0_6 ca0_6)] [It.O 48 o1 (.slice Ao1_0 no1_0 co1_0), It.B bo1 33 [.slice Ao1_0 no1_0 co1_0]]), Ret Try.prog 100 #[.agg #[.int .i64 a0.Kind, .int .i64 a0.N, .int .i64 a0.Pos, .int .i64 a0.Type_, .string a0.Symbol, .string a0.Name, .slice Aa0_6 na0_6 ca0_6], .func (.func 138) #[] #[.pointer (some ⟨bo1, 0, none⟩)]] w0 (· ∈ M) fun v w => ∃ A0 : Option Addr, ∃ n0 c0 : Nat, v = .bool r.1 ∧ HL F0 M w0 w [] [It.O 48 r.2 (.slice A0 n0 c0), It.B bo1 33 [(.slice A0 n0 c0)]]) {a0 : Expr} {o1 : (List Occurrence)} {r : (Bool × (List Occurrence))} (hr : ieveryNode_1_iAttributeUses_1_m rec_ieveryNode_iAttributeUses_1 a0 o1 = some r) {F0 : Nat → Prop} {M : List Nat} {w0 : World} {bo1 : Nat} {bo2 : Nat} {Aa0_6 : Option Addr} {na0_6 ca0_6 : Nat} {Ao1_0 : Option Addr} {no1_0 co1_0 : Nat} (hIa0_0 : I64 a0.Kind) (hIa0_1 : I64 a0.N) (hIa0_2 : I64 a0.Pos) (hIa0_3 : I64 a0.Type_) (hIa0_4 : a0.Symbol.size ≤ 9223372036854775807) (hIa0_5 : a0.Name.size ≤ 9223372036854775807) (H : HL F0 M w0 w0 [Pr.S a0.Args (.slice Aa0_6 na0_6 ca0_6)] [It.O 48 o1 (.slice Ao1_0 no1_0 co1_0), It.B bo1 33 [.slice Ao1_0 no1_0 co1_0], It.B bo2 51 [.func (.func 138) #[] #[.pointer (some ⟨bo1, 0, none⟩)]]]) :
    Ret Try.prog 156 #[.agg #[.int .i64 a0.Kind, .int .i64 a0.N, .int .i64 a0.Pos, .int .i64 a0.Type_, .string a0.Symbol, .string a0.Name, .slice Aa0_6 na0_6 ca0_6], .pointer (some ⟨bo2, 0, none⟩)] w0 (· ∈ M) fun v w => ∃ A0 : Option Addr, ∃ n0 c0 : Nat, v = .bool r.1 ∧ HL F0 M w0 w [] [It.O 48 r.2 (.slice A0 n0 c0), It.B bo1 33 [(.slice A0 n0 c0)], It.B bo2 51 [.func (.func 138) #[] #[.pointer (some ⟨bo1, 0, none⟩)]]] := by
  refine enter Try.func156 rfl rfl rfl ?_
  refine CW.seq (CW.reg ?_)
  refine WL.boxH rfl rfl rfl rfl rfl H fun b1 w1 H => ?_
  refine WL.ev rfl rfl (Ev.as rfl rfl) (WL.nil ?_)
  refine CW.seq (CW.reg ?_)
  refine WL.ev rfl rfl (Ev.lda rfl ag31 sz31 rfl (At.blk (H.rB (i := 3) rfl)) rfl) (WL.ev rfl rfl (Ev.ld rfl ag51 rfl ((H.rB (i := 2) rfl).cell rfl)) ?_)
  obtain ⟨⟨y1, z1⟩, hy1, hr⟩ := bd hr
  obtain ⟨F', M', hfF, hoF, hcM⟩ := H.callN [true, true, false, false] ⟨noO, noB, trivial⟩
  obtain ⟨H', hcN⟩ := hcM (ps := [Pr.S a0.Args (.slice Aa0_6 na0_6 ca0_6)]) ⟨hfF.get (i := 0) rfl, trivial⟩
  refine WL.call rfl rfl rfl rfl rfl ok100 rfl (ih_ieveryNode_iAttributeUses_1 hy1 hIa0_0 hIa0_1 hIa0_2 hIa0_3 hIa0_4 hIa0_5 H') ?_
  rintro _ w2 hE ⟨A1, n1, c1, rfl, H'⟩
  have H := hcN 2 H' rfl ⟨fun _ _ _ _ _ h => h, ⟨fun _ _ _ _ _ h => h, trivial⟩⟩
  refine WL.ev rfl rfl (Ev.not rfl rfl) (WL.ev rfl rfl (Ev.as rfl rfl) (WL.nil ?_))
  refine CW.ret ?_
  obtain rfl := sm hr
  exact ⟨_, res1 rfl rfl rfl, H.chg, _, _, _, rfl, H.outM (fr' := []) [true, true, true, false] fun _ _ => trivial⟩

noncomputable def slices_IndexFunc_Expr_ieveryNode_1_iAttributeUses_1_L1 (rec_ieveryNode_iAttributeUses_1 : Expr → (List Occurrence) → Option (Bool × (List Occurrence))) : Nat → Expr → (List Occurrence) → Option (((List Occurrence)) ⊕ (Int × (List Occurrence))) := fun k1 x1 s1 => 
  (ieveryNode_1_iAttributeUses_1_m rec_ieveryNode_iAttributeUses_1 x1 s1).bind fun (y1, z2) =>
  if y1 = true then (
  some (.inr ((k1 : Int), z2))
  ) else (
  some (.inl z2)
  )
noncomputable def slices_IndexFunc_Expr_ieveryNode_1_iAttributeUses_1_m (rec_ieveryNode_iAttributeUses_1 : Expr → (List Occurrence) → Option (Bool × (List Occurrence))) (a0 : (List Expr)) (o1 : (List Occurrence)) : Option (Int × (List Occurrence)) :=
  (findL (slices_IndexFunc_Expr_ieveryNode_1_iAttributeUses_1_L1 rec_ieveryNode_iAttributeUses_1) 0 a0 o1).bind <| onr (fun r1 => some r1) fun s1 =>
  some ((-1), s1)
theorem slices_IndexFunc_Expr_ieveryNode_1_iAttributeUses_1_ok {rec_ieveryNode_iAttributeUses_1 : Expr → (List Occurrence) → Option (Bool × (List Occurrence))} (ih_ieveryNode_iAttributeUses_1 : ∀ {a0 : Expr} {o1 : (List Occurrence)} {r : (Bool × (List Occurrence))}, rec_ieveryNode_iAttributeUses_1 a0 o1 = some r → ∀ {F0 : Nat → Prop} {M : List Nat} {w0 : World} {bo1 : Nat} {Aa0_6 : Option Addr} {na0_6 ca0_6 : Nat} {Ao1_0 : Option Addr} {no1_0 co1_0 : Nat} (hIa0_0 : I64 a0.Kind) (hIa0_1 : I64 a0.N) (hIa0_2 : I64 a0.Pos) (hIa0_3 : I64 a0.Type_) (hIa0_4 : a0.Symbol.size ≤ 9223372036854775807) (hIa0_5 : a0.Name.size ≤ 9223372036854775807) (H : HL F0 M w0 w0 [Pr.S a0.Args (.slice Aa0_6 na0_6 ca0_6)] [It.O 48 o1 (.slice Ao1_0 no1_0 co1_0), It.B bo1 33 [.slice Ao1_0 no1_0 co1_0]]), Ret Try.prog 100 #[.agg #[.int .i64 a0.Kind, .int .i64 a0.N, .int .i64 a0.Pos, .int .i64 a0.Type_, .string a0.Symbol, .string a0.Name, .slice Aa0_6 na0_6 ca0_6], .func (.func 138) #[] #[.pointer (some ⟨bo1, 0, none⟩)]] w0 (· ∈ M) fun v w => ∃ A0 : Option Addr, ∃ n0 c0 : Nat, v = .bool r.1 ∧ HL F0 M w0 w [] [It.O 48 r.2 (.slice A0 n0 c0), It.B bo1 33 [(.slice A0 n0 c0)]]) {a0 : (List Expr)} {o1 : (List Occurrence)} {r : (Int × (List Occurrence))} (hr : slices_IndexFunc_Expr_ieveryNode_1_iAttributeUses_1_m rec_ieveryNode_iAttributeUses_1 a0 o1 = some r) {F0 : Nat → Prop} {M : List Nat} {w0 : World} {bo1 : Nat} {bo2 : Nat} {Aa0 : Option Addr} {na0 ca0 : Nat} {Ao1_0 : Option Addr} {no1_0 co1_0 : Nat} (H : HL F0 M w0 w0 [Pr.S a0 (.slice Aa0 na0 ca0)] [It.O 48 o1 (.slice Ao1_0 no1_0 co1_0), It.B bo1 33 [.slice Ao1_0 no1_0 co1_0], It.B bo2 51 [.func (.func 138) #[] #[.pointer (some ⟨bo1, 0, none⟩)]]]) :
    Ret Try.prog 185 #[.slice Aa0 na0 ca0, .func (.func 156) #[] #[.pointer (some ⟨bo2, 0, none⟩)]] w0 (· ∈ M) fun v w => ∃ A0 : Option Addr, ∃ n0 c0 : Nat, v = .int .i64 r.1 ∧ I64 r.1 ∧ HL F0 M w0 w [] [It.O 48 r.2 (.slice A0 n0 c0), It.B bo1 33 [(.slice A0 n0 c0)], It.B bo2 51 [.func (.func 138) #[] #[.pointer (some ⟨bo1, 0, none⟩)]]] := by
  refine enter Try.func185 rfl rfl rfl ?_
  refine CW.seq (CW.reg ?_)
  refine WL.ev rfl rfl (Ev.as rfl rfl) (WL.nil ?_)
  refine CW.seq (CW.seq (CW.reg ?_))
  refine WL.ev rfl rfl (Ev.mv rfl rfl) ?_
  have hl1 := (H.rS (i := 0) rfl).I
  refine WL.ev rfl rfl (Ev.lenV rfl el29 rfl (H.rS (i := 0) rfl)) (WL.ev rfl rfl (Ev.mv rfl rfl) (WL.nil ?_))
  obtain ⟨q1, hq1, hr⟩ := bd hr
  refine CW.block (CW.loop (α := Nat × (List Occurrence) × Value) (fun ⟨k1, s1, v1⟩ => [(0, .slice Aa0 na0 ca0), (1, .func (.func 156) #[] #[.pointer (some ⟨bo2, 0, none⟩)]), (7, .int .i64 (a0.length : Int)), (8, .int .i64 (k1 : Int))]) (fun ⟨k1, s1, v1⟩ w => k1 ≤ a0.length ∧ findL (slices_IndexFunc_Expr_ieveryNode_1_iAttributeUses_1_L1 rec_ieveryNode_iAttributeUses_1) k1 (a0.drop k1) s1 = some q1 ∧ HL F0 M w0 w [Pr.S a0 (.slice Aa0 na0 ca0)] [It.O 48 s1 v1, It.B bo1 33 [v1], It.B bo2 51 [.func (.func 138) #[] #[.pointer (some ⟨bo1, 0, none⟩)]]]) (fun ⟨k1, s1, v1⟩ => a0.length - k1) ⟨0, o1, (.slice Ao1_0 no1_0 co1_0)⟩ ⟨rfl, rfl, rfl, rfl, trivial⟩ ⟨Nat.zero_le _, hq1, H.keep 1 3⟩ ?_)
  rintro ⟨k1, s1, v1⟩ σ w1 ⟨hk1, hq1, H⟩
  obtain ⟨A1, n1, c1, rfl⟩ := (H.rO (i := 0) rfl).form3
  refine CW.seq (CW.reg ?_)
  refine WL.ev rfl rfl (Ev.bin rfl rfl rfl Bin.lss) (WL.nil ?_)
  refine CW.seq (CW.condD rfl (fun h1 => ?_) (fun h1 => ?_))
  · skip
    have hk2 := cast_lt h1
    obtain ⟨x1, z1, hx1, hb1, hs1, ht1⟩ := findL_go hq1 hk2
    refine CW.skip ?_
    refine CW.seq (CW.block (CW.seq (CW.reg ?_)))
    refine WL.ev rfl rfl (Ev.mv rfl rfl) (WL.ev rfl rfl (Ev.as rfl rfl) (WL.nil ?_))
    refine CW.seq (CW.reg ?_)
    refine WL.ev rfl rfl (Ev.mv rfl rfl) (WL.ev rfl rfl (Ev.mv rfl rfl) (WL.ev rfl rfl (Ev.mv rfl rfl) ?_))
    obtain ⟨b1, ob1, cb1, A2, n2, c2, hvb1, hI1, hI2, hI3, hI4, hS1, hS2, H⟩ := ixS_Expr H (i := 0) rfl hx1
    refine WL.ev rfl rfl (Ev.ixVN rfl el29 sz31 rfl hvb1 rfl (lt_of hx1)) (WL.ev rfl rfl (Ev.lda rfl ag31 sz31 rfl (H.rA (i := 1) rfl) rfl) ?_)
    obtain ⟨⟨y1, z2⟩, hy1, hb1⟩ := bd hb1
    obtain ⟨F', M', hfF, hoF, hcM⟩ := H.callN [true, true, true] ⟨noO, noB, noB, trivial⟩
    obtain ⟨H', hcN⟩ := hcM (ps := [Pr.S x1.Args (.slice A2 n2 c2)]) ⟨hfF.get (i := 3) rfl, trivial⟩
    refine WL.call rfl rfl rfl rfl rfl ok156 rfl (ieveryNode_1_iAttributeUses_1_ok ih_ieveryNode_iAttributeUses_1 hy1 hI1 hI2 hI3 hI4 hS1 hS2 H') ?_
    rintro _ w2 hE ⟨A3, n3, c3, rfl, H'⟩
    have H := hcN 3 H' rfl ⟨fun _ _ _ _ _ h => h, ⟨fun _ _ _ _ _ h => h, ⟨fun _ _ _ _ _ h => h, trivial⟩⟩⟩
    refine WL.nil ?_
    refine CW.condB rfl (fun h2 => ?_) (fun h2 => ?_)
    · skip
      have hb1 := ifp h2 hb1
      refine CW.seq (CW.reg ?_)
      refine WL.ev rfl rfl (Ev.mv rfl rfl) (WL.ev rfl rfl (Ev.as rfl rfl) (WL.nil ?_))
      refine CW.ret ?_
      obtain rfl := sm hb1
      obtain rfl := ht1 _ rfl
      obtain rfl := sm hr
      exact ⟨_, res1 rfl rfl rfl, H.chg, _, _, _, rfl, (i64_nat hk2 hl1), H.outM (fr' := []) [true, true, true] fun _ _ => trivial⟩
    · skip
      have hb1 := ifn h2 hb1
      refine CW.skip ?_
      refine CW.reg ?_
      refine WL.ev rfl rfl (Ev.bin rfl rfl rfl (Bin.addN (a := k1) (b := 1) rfl (i64_succN hk2 hl1.2))) (WL.ev rfl rfl (Ev.mv rfl rfl) (WL.nil ?_))
      obtain rfl := sm hb1
      have hq1 := hs1 _ rfl
      exact ⟨⟨k1 + 1, z2, (.slice A3 n3 c3)⟩, ⟨rfl, rfl, rfl, rfl, trivial⟩, ⟨hk2, hq1, H.keep 1 3⟩, Nat.sub_lt_sub_left hk2 (Nat.lt_succ_self _)⟩
  · skip
    obtain rfl := findL_end hq1 (not_cast_lt h1)
    have hr := (onr_inl _ _ _).symm.trans hr
    refine CW.exit ?_
    refine CW.seq (CW.reg ?_)
    refine WL.ev rfl rfl (Ev.as rfl rfl) (WL.nil ?_)
    refine CW.ret ?_
    obtain rfl := sm hr
    exact ⟨_, res1 rfl rfl rfl, H.chg, _, _, _, rfl, (by decide : I64 (-1)), H.outM (fr' := []) [true, true, true] fun _ _ => trivial⟩

noncomputable def slices_ContainsFunc_Expr_ieveryNode_1_iAttributeUses_1_m (rec_ieveryNode_iAttributeUses_1 : Expr → (List Occurrence) → Option (Bool × (List Occurrence))) (a0 : (List Expr)) (o1 : (List Occurrence)) : Option (Bool × (List Occurrence)) :=
  (slices_IndexFunc_Expr_ieveryNode_1_iAttributeUses_1_m rec_ieveryNode_iAttributeUses_1 a0 o1).bind fun (y1, z1) =>
  some (decide (0 ≤ y1), z1)
theorem slices_ContainsFunc_Expr_ieveryNode_1_iAttributeUses_1_ok {rec_ieveryNode_iAttributeUses_1 : Expr → (List Occurrence) → Option (Bool × (List Occurrence))} (ih_ieveryNode_iAttributeUses_1 : ∀ {a0 : Expr} {o1 : (List Occurrence)} {r : (Bool × (List Occurrence))}, rec_ieveryNode_iAttributeUses_1 a0 o1 = some r → ∀ {F0 : Nat → Prop} {M : List Nat} {w0 : World} {bo1 : Nat} {Aa0_6 : Option Addr} {na0_6 ca0_6 : Nat} {Ao1_0 : Option Addr} {no1_0 co1_0 : Nat} (hIa0_0 : I64 a0.Kind) (hIa0_1 : I64 a0.N) (hIa0_2 : I64 a0.Pos) (hIa0_3 : I64 a0.Type_) (hIa0_4 : a0.Symbol.size ≤ 9223372036854775807) (hIa0_5 : a0.Name.size ≤ 9223372036854775807) (H : HL F0 M w0 w0 [Pr.S a0.Args (.slice Aa0_6 na0_6 ca0_6)] [It.O 48 o1 (.slice Ao1_0 no1_0 co1_0), It.B bo1 33 [.slice Ao1_0 no1_0 co1_0]]), Ret Try.prog 100 #[.agg #[.int .i64 a0.Kind, .int .i64 a0.N, .int .i64 a0.Pos, .int .i64 a0.Type_, .string a0.Symbol, .string a0.Name, .slice Aa0_6 na0_6 ca0_6], .func (.func 138) #[] #[.pointer (some ⟨bo1, 0, none⟩)]] w0 (· ∈ M) fun v w => ∃ A0 : Option Addr, ∃ n0 c0 : Nat, v = .bool r.1 ∧ HL F0 M w0 w [] [It.O 48 r.2 (.slice A0 n0 c0), It.B bo1 33 [(.slice A0 n0 c0)]]) {a0 : (List Expr)} {o1 : (List Occurrence)} {r : (Bool × (List Occurrence))} (hr : slices_ContainsFunc_Expr_ieveryNode_1_iAttributeUses_1_m rec_ieveryNode_iAttributeUses_1 a0 o1 = some r) {F0 : Nat → Prop} {M : List Nat} {w0 : World} {bo1 : Nat} {bo2 : Nat} {Aa0 : Option Addr} {na0 ca0 : Nat} {Ao1_0 : Option Addr} {no1_0 co1_0 : Nat} (H : HL F0 M w0 w0 [Pr.S a0 (.slice Aa0 na0 ca0)] [It.O 48 o1 (.slice Ao1_0 no1_0 co1_0), It.B bo1 33 [.slice Ao1_0 no1_0 co1_0], It.B bo2 51 [.func (.func 138) #[] #[.pointer (some ⟨bo1, 0, none⟩)]]]) :
    Ret Try.prog 155 #[.slice Aa0 na0 ca0, .func (.func 156) #[] #[.pointer (some ⟨bo2, 0, none⟩)]] w0 (· ∈ M) fun v w => ∃ A0 : Option Addr, ∃ n0 c0 : Nat, v = .bool r.1 ∧ HL F0 M w0 w [] [It.O 48 r.2 (.slice A0 n0 c0), It.B bo1 33 [(.slice A0 n0 c0)], It.B bo2 51 [.func (.func 138) #[] #[.pointer (some ⟨bo1, 0, none⟩)]]] := by
  refine enter Try.func155 rfl rfl rfl ?_
  refine CW.seq (CW.reg ?_)
  refine WL.ev rfl rfl (Ev.as rfl rfl) (WL.nil ?_)
  refine CW.seq (CW.reg ?_)
  refine WL.ev rfl rfl (Ev.mv rfl rfl) (WL.ev rfl rfl (Ev.mv rfl rfl) ?_)
  obtain ⟨⟨y1, z1⟩, hy1, hr⟩ := bd hr
  obtain ⟨F', M', hfF, hoF, hcM⟩ := H.callN [true, true, true] ⟨noO, noB, noB, trivial⟩
  obtain ⟨H', hcN⟩ := hcM (ps := [Pr.S a0 (.slice Aa0 na0 ca0)]) ⟨hfF.get (i := 0) rfl, trivial⟩
  refine WL.call rfl rfl rfl rfl rfl ok185 rfl (slices_IndexFunc_Expr_ieveryNode_1_iAttributeUses_1_ok ih_ieveryNode_iAttributeUses_1 hy1 H') ?_
  rintro _ w1 hE ⟨A1, n1, c1, rfl, hI1, H'⟩
  have H := hcN 3 H' rfl ⟨fun _ _ _ _ _ h => h, ⟨fun _ _ _ _ _ h => h, ⟨fun _ _ _ _ _ h => h, trivial⟩⟩⟩
  refine WL.ev rfl rfl (Ev.bin rfl rfl rfl Bin.geq) (WL.ev rfl rfl (Ev.as rfl rfl) (WL.nil ?_))
  refine CW.ret ?_
  obtain rfl := sm hr
  exact ⟨_, res1 rfl rfl rfl, H.chg, _, _, _, rfl, H.outM (fr' := []) [true, true, true] fun _ _ => trivial⟩

noncomputable def ieveryNode_iAttributeUses_1_B (rec_ieveryNode_iAttributeUses_1 : Expr → (List Occurrence) → Option (Bool × (List Occurrence))) (a0 : Expr) (o1 : (List Occurrence)) : Option (Bool × (List Occurrence)) :=
  (iAttributeUses_1_m a0 o1).bind fun (y1, z1) =>
  if y1 = true then (
  (slices_ContainsFunc_Expr_ieveryNode_1_iAttributeUses_1_m rec_ieveryNode_iAttributeUses_1 a0.Args z1).bind fun (y2, z2) =>
  some (!y2, z2)
  ) else (
  some (false, z1)
  )
theorem ieveryNode_iAttributeUses_1_okB {rec_ieveryNode_iAttributeUses_1 : Expr → (List Occurrence) → Option (Bool × (List Occurrence))} (ih_ieveryNode_iAttributeUses_1 : ∀ {a0 : Expr} {o1 : (List Occurrence)} {r : (Bool × (List Occurrence))}, rec_ieveryNode_iAttributeUses_1 a0 o1 = some r → ∀ {F0 : Nat → Prop} {M : List Nat} {w0 : World} {bo1 : Nat} {Aa0_6 : Option Addr} {na0_6 ca0_6 : Nat} {Ao1_0 : Option Addr} {no1_0 co1_0 : Nat} (hIa0_0 : I64 a0.Kind) (hIa0_1 : I64 a0.N) (hIa0_2 : I64 a0.Pos) (hIa0_3 : I64 a0.Type_) (hIa0_4 : a0.Symbol.size ≤ 9223372036854775807) (hIa0_5 : a0.Name.size ≤ 9223372036854775807) (H : HL F0 M w0 w0 [Pr.S a0.Args (.slice Aa0_6 na0_6 ca0_6)] [It.O 48 o1 (.slice Ao1_0 no1_0 co1_0), It.B bo1 33 [.slice Ao1_0 no1_0 co1_0]]), Ret Try.prog 100 #[.agg #[.int .i64 a0.Kind, .int .i64 a0.N, .int .i64 a0.Pos, .int .i64 a0.Type_, .string a0.Symbol, .string a0.Name, .slice Aa0_6 na0_6 ca0_6], .func (.func 138) #[] #[.pointer (some ⟨bo1, 0, none⟩)]] w0 (· ∈ M) fun v w => ∃ A0 : Option Addr, ∃ n0 c0 : Nat, v = .bool r.1 ∧ HL F0 M w0 w [] [It.O 48 r.2 (.slice A0 n0 c0), It.B bo1 33 [(.slice A0 n0 c0)]]) {a0 : Expr} {o1 : (List Occurrence)} {r : (Bool × (List Occurrence))} (hr : ieveryNode_iAttributeUses_1_B rec_ieveryNode_iAttributeUses_1 a0 o1 = some r) {F0 : Nat → Prop} {M : List Nat} {w0 : World} {bo1 : Nat} {Aa0_6 : Option Addr} {na0_6 ca0_6 : Nat} {Ao1_0 : Option Addr} {no1_0 co1_0 : Nat} (hIa0_0 : I64 a0.Kind) (hIa0_1 : I64 a0.N) (hIa0_2 : I64 a0.Pos) (hIa0_3 : I64 a0.Type_) (hIa0_4 : a0.Symbol.size ≤ 9223372036854775807) (hIa0_5 : a0.Name.size ≤ 9223372036854775807) (H : HL F0 M w0 w0 [Pr.S a0.Args (.slice Aa0_6 na0_6 ca0_6)] [It.O 48 o1 (.slice Ao1_0 no1_0 co1_0), It.B bo1 33 [.slice Ao1_0 no1_0 co1_0]]) :
    Ret Try.prog 100 #[.agg #[.int .i64 a0.Kind, .int .i64 a0.N, .int .i64 a0.Pos, .int .i64 a0.Type_, .string a0.Symbol, .string a0.Name, .slice Aa0_6 na0_6 ca0_6], .func (.func 138) #[] #[.pointer (some ⟨bo1, 0, none⟩)]] w0 (· ∈ M) fun v w => ∃ A0 : Option Addr, ∃ n0 c0 : Nat, v = .bool r.1 ∧ HL F0 M w0 w [] [It.O 48 r.2 (.slice A0 n0 c0), It.B bo1 33 [(.slice A0 n0 c0)]] := by
  refine enter Try.func100 rfl rfl rfl ?_
  refine CW.seq (CW.reg ?_)
  refine WL.boxH rfl rfl rfl rfl rfl H fun b1 w1 H => ?_
  refine WL.boxH rfl rfl rfl rfl rfl H fun b2 w2 H => ?_
  refine WL.ev rfl rfl (Ev.as rfl rfl) (WL.nil ?_)
  refine CW.seq (CW.reg ?_)
  refine WL.ev rfl rfl (Ev.ld rfl ag51 rfl ((H.rB (i := 3) rfl).cell rfl)) (WL.ev rfl rfl (Ev.lda rfl ag31 sz31 rfl (At.blk (H.rB (i := 2) rfl)) rfl) ?_)
  obtain ⟨⟨y1, z1⟩, hy1, hr⟩ := bd hr
  obtain ⟨F', M', hfF, hoF, hcM⟩ := H.callN [true, true, false, false] ⟨noO, noB, trivial⟩
  obtain ⟨H', hcN⟩ := hcM (ps := [Pr.S a0.Args (.slice Aa0_6 na0_6 ca0_6)]) ⟨hfF.get (i := 0) rfl, trivial⟩
  refine WL.call rfl rfl rfl rfl rfl ok138 rfl (iAttributeUses_1_ok hy1 hIa0_0 hIa0_1 hIa0_2 hIa0_3 hIa0_4 hIa0_5 H') ?_
  rintro _ w3 hE ⟨A1, n1, c1, rfl, H'⟩
  have H := hcN 2 H' rfl ⟨fun _ _ _ _ _ h => h, ⟨fun _ _ _ _ _ h => h, trivial⟩⟩
  refine WL.mvB rfl rfl rfl rfl (fun h1 => ?_) (fun h1 => ?_)
  · skip
    have hr := ifp h1 hr
    refine WL.on rfl rfl (WL.ev rfl rfl (Ev.fa rfl fo31_6 rfl) (WL.on rfl rfl (WL.ev rfl rfl (Ev.ld rfl ag29 rfl ((H.rB (i := 2) rfl).cell rfl)) (WL.on rfl rfl (WL.ev rfl rfl (Ev.mkfL rfl rfl rfl) (WL.on rfl rfl ?_))))))
    obtain ⟨⟨y2, z2⟩, hy2, hr⟩ := bd hr
    obtain ⟨F', M', hfF, hoF, hcM⟩ := H.callN [true, true, false, true] ⟨noO, noB, noB, trivial⟩
    obtain ⟨H', hcN⟩ := hcM (ps := [Pr.S a0.Args (.slice Aa0_6 na0_6 ca0_6)]) ⟨hfF.get (i := 0) rfl, trivial⟩
    refine WL.call rfl rfl rfl rfl rfl ok155 rfl (slices_ContainsFunc_Expr_ieveryNode_1_iAttributeUses_1_ok ih_ieveryNode_iAttributeUses_1 hy2 H') ?_
    rintro _ w4 hE ⟨A2, n2, c2, rfl, H'⟩
    have H := hcN 3 H' rfl ⟨fun _ _ _ _ _ h => h, ⟨fun _ _ _ _ _ h => h, ⟨fun _ _ _ _ _ h => h, trivial⟩⟩⟩
    refine WL.on rfl rfl (WL.ev rfl rfl (Ev.not rfl rfl) (WL.ev rfl rfl (Ev.pickT rfl rfl rfl) (WL.ev rfl rfl (Ev.as rfl rfl) (WL.nil ?_))))
    refine CW.ret ?_
    obtain rfl := sm hr
    exact ⟨_, res1 rfl rfl rfl, H.chg, _, _, _, rfl, H.outM (fr' := []) [true, true, false, false] fun _ _ => trivial⟩
  · skip
    have hr := ifn h1 hr
    refine WL.off rfl rfl rfl (WL.off rfl rfl rfl (WL.off rfl rfl rfl (WL.off rfl rfl rfl (WL.off rfl rfl rfl (WL.ev rfl rfl (Ev.pickF rfl rfl rfl) (WL.ev rfl rfl (Ev.as rfl rfl) (WL.nil ?_)))))))
    refine CW.ret ?_
    obtain rfl := sm hr
    exact ⟨_, res1 rfl rfl rfl, H.chg, _, _, _, rfl, H.outM (fr' := []) [true, true, false, false] fun _ _ => trivial⟩
noncomputable def ieveryNode_iAttributeUses_1_n : Nat → Expr → (List Occurrence) → Option (Bool × (List Occurrence))
  | 0, _, _ => none
  | n + 1, a0, o1 => ieveryNode_iAttributeUses_1_B (ieveryNode_iAttributeUses_1_n n) a0 o1
noncomputable def ieveryNode_iAttributeUses_1_m (a0 : Expr) (o1 : (List Occurrence)) : Option (Bool × (List Occurrence)) := recO fun n => ieveryNode_iAttributeUses_1_n n a0 o1
theorem ieveryNode_iAttributeUses_1_okn (n : Nat) : ∀ {a0 : Expr} {o1 : (List Occurrence)} {r : (Bool × (List Occurrence))}, ieveryNode_iAttributeUses_1_n n a0 o1 = some r → ∀ {F0 : Nat → Prop} {M : List Nat} {w0 : World} {bo1 : Nat} {Aa0_6 : Option Addr} {na0_6 ca0_6 : Nat} {Ao1_0 : Option Addr} {no1_0 co1_0 : Nat} (hIa0_0 : I64 a0.Kind) (hIa0_1 : I64 a0.N) (hIa0_2 : I64 a0.Pos) (hIa0_3 : I64 a0.Type_) (hIa0_4 : a0.Symbol.size ≤ 9223372036854775807) (hIa0_5 : a0.Name.size ≤ 9223372036854775807) (H : HL F0 M w0 w0 [Pr.S a0.Args (.slice Aa0_6 na0_6 ca0_6)] [It.O 48 o1 (.slice Ao1_0 no1_0 co1_0), It.B bo1 33 [.slice Ao1_0 no1_0 co1_0]]), Ret Try.prog 100 #[.agg #[.int .i64 a0.Kind, .int .i64 a0.N, .int .i64 a0.Pos, .int .i64 a0.Type_, .string a0.Symbol, .string a0.Name, .slice Aa0_6 na0_6 ca0_6], .func (.func 138) #[] #[.pointer (some ⟨bo1, 0, none⟩)]] w0 (· ∈ M) fun v w => ∃ A0 : Option Addr, ∃ n0 c0 : Nat, v = .bool r.1 ∧ HL F0 M w0 w [] [It.O 48 r.2 (.slice A0 n0 c0), It.B bo1 33 [(.slice A0 n0 c0)]] := by
  induction n with
  | zero => intro a0 o1 r hr; exact nomatch (show (none : Option (Bool × (List Occurrence))) = some r from hr)
  | succ n ih => intro a0 o1 r hr; exact ieveryNode_iAttributeUses_1_okB ih hr
theorem ieveryNode_iAttributeUses_1_ok {a0 : Expr} {o1 : (List Occurrence)} {r : (Bool × (List Occurrence))} (hr : ieveryNode_iAttributeUses_1_m a0 o1 = some r) {F0 : Nat → Prop} {M : List Nat} {w0 : World} {bo1 : Nat} {Aa0_6 : Option Addr} {na0_6 ca0_6 : Nat} {Ao1_0 : Option Addr} {no1_0 co1_0 : Nat} (hIa0_0 : I64 a0.Kind) (hIa0_1 : I64 a0.N) (hIa0_2 : I64 a0.Pos) (hIa0_3 : I64 a0.Type_) (hIa0_4 : a0.Symbol.size ≤ 9223372036854775807) (hIa0_5 : a0.Name.size ≤ 9223372036854775807) (H : HL F0 M w0 w0 [Pr.S a0.Args (.slice Aa0_6 na0_6 ca0_6)] [It.O 48 o1 (.slice Ao1_0 no1_0 co1_0), It.B bo1 33 [.slice Ao1_0 no1_0 co1_0]]) :
    Ret Try.prog 100 #[.agg #[.int .i64 a0.Kind, .int .i64 a0.N, .int .i64 a0.Pos, .int .i64 a0.Type_, .string a0.Symbol, .string a0.Name, .slice Aa0_6 na0_6 ca0_6], .func (.func 138) #[] #[.pointer (some ⟨bo1, 0, none⟩)]] w0 (· ∈ M) fun v w => ∃ A0 : Option Addr, ∃ n0 c0 : Nat, v = .bool r.1 ∧ HL F0 M w0 w [] [It.O 48 r.2 (.slice A0 n0 c0), It.B bo1 33 [(.slice A0 n0 c0)]] := by
  obtain ⟨n, hn⟩ := recO_some hr
  exact ieveryNode_iAttributeUses_1_okn n hn hIa0_0 hIa0_1 hIa0_2 hIa0_3 hIa0_4 hIa0_5 H

noncomputable def slices_SortFunc_Occurrence_m (a0 : (List Occurrence)) : Option (List Occurrence) :=
  grd (a0.length < 4611686018427387904) <|
  some (sortO a0)
theorem slices_SortFunc_Occurrence_ok {a0 : (List Occurrence)} {r : (List Occurrence)} (hr : slices_SortFunc_Occurrence_m a0 = some r) {F0 : Nat → Prop} {M : List Nat} {w0 : World} {A0 : Option Addr} {n0 c0 : Nat} (H : HL F0 M w0 w0 [] [It.O 48 a0 (.slice A0 n0 c0)]) :
    Ret Try.prog 139 #[.slice A0 n0 c0, .func (.func 140) #[] #[]] w0 (· ∈ M) fun v w => v = .tuple #[] ∧ HL F0 M w0 w [] [It.O 48 r (.slice A0 n0 c0)] := by
  obtain ⟨hg, hr⟩ := grd_some hr
  obtain rfl := sm hr
  exact sort_row hg H

noncomputable def slices_Compact_Occurrence_L2 (s1 : Int) : ((List Occurrence) × Int × Int) → Option (((List Occurrence) × Int × Int) ⊕ ((List Occurrence) × Int)) := fun (s4, s5, s6) => 
  if s6 < ((s4.drop s1.toNat).length : Int) then (
  (
  grd (0 ≤ s6) <|
  (s4[(s1.toNat + s6.toNat)]?).bind fun x3 =>
  grd (I64 (s6 - 1)) <|
  grd (0 ≤ (s6 - 1)) <|
  (s4[(s1.toNat + ((s6 - 1).toNat))]?).bind fun x4 =>
  if x3 = x4 then (
  some (s5, s4)
  ) else (
  grd (0 ≤ s6) <|
  grd (0 ≤ s5) <|
  (s4[s5.toNat]?).bind fun x5 =>
  grd (I64 (s5 + 1)) <|
  some ((s5 + 1), (List.set s4 s5.toNat x3))
  )
  ).bind fun (s7, s8) =>
  grd (I64 (s6 + 1)) <|
  some (.inl (s8, s7, (s6 + 1)))
  ) else (
  some (.inr (s4, s5))
  )
noncomputable def slices_Compact_Occurrence_L1 (a0 : (List Occurrence)) : Int → Option (Int ⊕ (Unit ⊕ (List Occurrence))) := fun s1 => 
  if s1 < (a0.length : Int) then (
  grd (0 ≤ s1) <|
  (a0[s1.toNat]?).bind fun x1 =>
  grd (I64 (s1 - 1)) <|
  grd (0 ≤ (s1 - 1)) <|
  (a0[(s1 - 1).toNat]?).bind fun x2 =>
  if x1 = x2 then (
  grd (0 ≤ s1) <|
  grd (s1.toNat ≤ a0.length) <|
  (
  iterO (slices_Compact_Occurrence_L2 s1) (a0, s1, 1)
  ).bind fun (s2, s3) =>
  grd (0 ≤ s3) <|
  grd (s3.toNat ≤ s2.length) <|
  grd (0 ≤ s3) <|
  grd (s3.toNat ≤ (s2.take s3.toNat ++ List.replicate (s2.length - s3.toNat) (⟨(0 : Int), (⟨#[]⟩ : ByteArray)⟩ : Occurrence)).length) <|
  some (.inr (.inr ((s2.take s3.toNat ++ List.replicate (s2.length - s3.toNat) (⟨(0 : Int), (⟨#[]⟩ : ByteArray)⟩ : Occurrence)).take s3.toNat)))
  ) else (
  grd (I64 (s1 + 1)) <|
  some (.inl (s1 + 1))
  )
  ) else (
  some (.inr (.inl ()))
  )
noncomputable def slices_Compact_Occurrence_m (a0 : (List Occurrence)) : Option (List Occurrence) :=
  if (a0.length : Int) < 2 then (
  some a0
  ) else (
  (
  iterO (slices_Compact_Occurrence_L1 a0) 1
  ).bind <| onr (fun r1 => some r1) fun () =>
  some a0
  )
theorem slices_Compact_Occurrence_ok {a0 : (List Occurrence)} {r : (List Occurrence)} (hr : slices_Compact_Occurrence_m a0 = some r) {F0 : Nat → Prop} {M : List Nat} {w0 : World} {Aa0 : Option Addr} {na0 ca0 : Nat} (H : HL F0 M w0 w0 [] [It.O 48 a0 (.slice Aa0 na0 ca0)]) :
    Ret Try.prog 141 #[.slice Aa0 na0 ca0] w0 (· ∈ M) fun v w => ∃ A0 : Option Addr, ∃ n0 c0 : Nat, v = (.slice A0 n0 c0) ∧ HL F0 M w0 w [] [It.O 48 r (.slice A0 n0 c0)] := by
  refine enter Try.func141 rfl rfl rfl ?_
  refine CW.seq (CW.reg ?_)
  refine WL.ev rfl rfl (Ev.as rfl rfl) (WL.nil ?_)
  refine CW.seq (CW.seq (CW.reg ?_))
  refine WL.ev rfl rfl (Ev.mv rfl rfl) ?_
  have hl1 := (H.rO (i := 0) rfl).I
  refine WL.ev rfl rfl (Ev.lenV rfl el33 rfl (H.rO (i := 0) rfl)) (WL.ev rfl rfl (Ev.bin rfl rfl rfl Bin.lss) (WL.nil ?_))
  refine CW.condD rfl (fun h1 => ?_) (fun h1 => ?_)
  · skip
    have hr := ifp h1 hr
    refine CW.seq (CW.reg ?_)
    refine WL.ev rfl rfl (Ev.mv rfl rfl) (WL.ev rfl rfl (Ev.as rfl rfl) (WL.nil ?_))
    refine CW.ret ?_
    obtain rfl := sm hr
    exact ⟨_, res1 rfl rfl rfl, H.chg, _, _, _, rfl, H.outM (fr' := []) [true] fun _ _ => trivial⟩
  · skip
    have hr := ifn h1 hr
    refine CW.skip ?_
    refine CW.seq (CW.seq (CW.reg ?_))
    refine WL.ev rfl rfl (Ev.as rfl rfl) (WL.nil ?_)
    obtain ⟨q1, hm1, hr⟩ := bd hr
    refine CW.mid (fun ρ' w => q1 = .inl () ∧ agree ρ' [(0, .slice Aa0 na0 ca0)] ∧ HL F0 M w0 w [] [It.O 48 a0 (.slice Aa0 na0 ca0)]) ?_ ?_
    · skip
      obtain ⟨m1, hq1⟩ := iterO_some.1 hm1
      refine CW.block (CW.loop (α := Nat × Int) (fun ⟨m1, s1⟩ => [(0, .slice Aa0 na0 ca0), (3, .int .i64 s1)]) (fun ⟨m1, s1⟩ w => iterN (slices_Compact_Occurrence_L1 a0) m1 s1 = some q1 ∧ I64 s1 ∧ HL F0 M w0 w [] [It.O 48 a0 (.slice Aa0 na0 ca0)]) (fun ⟨m1, s1⟩ => m1) ⟨m1, 1⟩ ⟨rfl, rfl, trivial⟩ ⟨hq1, (by decide : I64 1), H.keep 0 1⟩ ?_)
      rintro ⟨m1, s1⟩ σ w1 ⟨hq1, hI1, H⟩
      obtain ⟨m2, z1, rfl, hb1, hs1, ht1⟩ := iterN_go hq1
      refine CW.seq (CW.seq (CW.reg ?_))
      refine WL.ev rfl rfl (Ev.mv rfl rfl) (WL.ev rfl rfl (Ev.mv rfl rfl) (WL.ev rfl rfl (Ev.lenV rfl el33 rfl (H.rO (i := 0) rfl)) (WL.ev rfl rfl (Ev.bin rfl rfl rfl Bin.lss) (WL.nil ?_))))
      refine CW.condD rfl (fun h2 => ?_) (fun h2 => ?_)
      · skip
        have hb1 := ifp h2 hb1
        refine CW.skip ?_
        refine CW.seq (CW.block (CW.seq (CW.quiet hmix (by kernel_rfl) ?_)))
        refine QL.ev rfl rfl (fun _ _ => Ev.mv rfl rfl) (QL.ev rfl rfl (fun _ _ => Ev.mv rfl rfl) ?_)
        obtain ⟨hg1, hb1⟩ := grd_some hb1
        obtain ⟨x1, hx1, hb1⟩ := bd hb1
        obtain ⟨b1, cb1, hvb1, hbb1⟩ := H.ptO (i := 0) rfl hx1
        refine QL.ev rfl rfl (fun _ _ => Ev.ixV rfl el33 sz48 rfl hvb1 rfl hg1 (lt_of hx1)) ?_
        obtain ⟨hA1, hI2, hS1, H⟩ := elO_Occurrence H (i := 0) rfl hx1 hbb1
        refine QL.ev rfl rfl (fun _ hq => Ev.lda rfl ag48 sz48 rfl (hA1.ext hq) rfl) (QL.ev rfl rfl (fun _ _ => Ev.mv rfl rfl) (QL.ev rfl rfl (fun _ _ => Ev.mv rfl rfl) ?_))
        obtain ⟨hg2, hb1⟩ := grd_some hb1
        refine QL.ev rfl rfl (fun _ _ => Ev.bin rfl rfl rfl (Bin.sub hg2)) ?_
        obtain ⟨hg3, hb1⟩ := grd_some hb1
        obtain ⟨x2, hx2, hb1⟩ := bd hb1
        obtain ⟨b2, cb2, hvb2, hbb2⟩ := H.ptO (i := 0) rfl hx2
        refine QL.ev rfl rfl (fun _ _ => Ev.ixV rfl el33 sz48 rfl hvb2 rfl hg3 (lt_of hx2)) ?_
        obtain ⟨hA2, hI3, hS2, H⟩ := elO_Occurrence H (i := 0) rfl hx2 hbb2
        refine QL.ev rfl rfl (fun _ hq => Ev.lda rfl ag48 sz48 rfl (hA2.ext hq) rfl) (QL.ev rfl rfl (fun _ _ => Ev.bin rfl rfl rfl (Bin.eqlF fl48 (Occurrence_eqF x1 x2))) (QL.nil (fun w2 hE => ?_)))
        have H := H.ext hE
        refine CW.condD rfl (fun h3 => ?_) (fun h3 => ?_)
        · skip
          have hb1 := ifp h3 hb1
          refine CW.seq (CW.reg ?_)
          refine WL.ev rfl rfl (Ev.mv rfl rfl) (WL.ev rfl rfl (Ev.mv rfl rfl) ?_)
          obtain ⟨hg4, hb1⟩ := grd_some hb1
          obtain ⟨hg5, hb1⟩ := grd_some hb1
          obtain ⟨A1, n1, c1, e2, hc1⟩ := H.subO (i := 0) rfl hg5
          refine WL.ev rfl rfl (Ev.slLV rfl el33 sz48 rfl rfl ((Int.toNat_of_nonneg hg4).symm) hc1 e2) (WL.ev rfl rfl (Ev.as rfl rfl) (WL.nil ?_))
          refine CW.seq (CW.seq (CW.reg ?_))
          refine WL.ev rfl rfl (Ev.as rfl rfl) (WL.nil ?_)
          obtain ⟨q2, hm2, hb1⟩ := bd hb1
          refine CW.mid (fun ρ' w => ∃ (s2 : List Occurrence) (s3 : Int), q2 = (s2, s3) ∧ agree ρ' [(0, .slice Aa0 na0 ca0), (3, .int .i64 s3)] ∧ I64 s3 ∧ HL F0 M w0 w [Pr.R x1 [.int .i64 x1.Pos, .string x1.Name], Pr.R x2 [.int .i64 x2.Pos, .string x2.Name]] [It.O 48 s2 (.slice Aa0 na0 ca0)]) ?_ ?_
          · skip
            obtain ⟨m3, hq2⟩ := iterO_some.1 hm2
            refine CW.block (CW.loop (α := Nat × (List Occurrence) × Int × Int) (fun ⟨m3, s4, s5, s6⟩ => [(0, .slice Aa0 na0 ca0), (3, .int .i64 s5), (4, .slice A1 n1 c1), (5, .int .i64 s6)]) (fun ⟨m3, s4, s5, s6⟩ w => iterN (slices_Compact_Occurrence_L2 s1) m3 (s4, s5, s6) = some q2 ∧ I64 s5 ∧ I64 s6 ∧ HL F0 M w0 w [Pr.R x1 [.int .i64 x1.Pos, .string x1.Name], Pr.R x2 [.int .i64 x2.Pos, .string x2.Name]] [It.O 48 s4 (.slice Aa0 na0 ca0)]) (fun ⟨m3, s4, s5, s6⟩ => m3) ⟨m3, a0, s1, 1⟩ ⟨rfl, rfl, rfl, rfl, trivial⟩ ⟨hq2, hI1, (by decide : I64 1), H.keep 2 1⟩ ?_)
            rintro ⟨m3, s4, s5, s6⟩ σ w3 ⟨hq2, hI5, hI6, H⟩
            obtain ⟨m4, z2, rfl, hb2, hs2, ht2⟩ := iterN_go hq2
            refine CW.seq (CW.seq (CW.reg ?_))
            refine WL.ev rfl rfl (Ev.mv rfl rfl) (WL.ev rfl rfl (Ev.mv rfl rfl) ?_)
            have hl2 := ((H.rO (i := 0) rfl).dropV hc1 e2).I
            refine WL.ev rfl rfl (Ev.lenV rfl el33 rfl ((H.rO (i := 0) rfl).dropV hc1 e2)) (WL.ev rfl rfl (Ev.bin rfl rfl rfl Bin.lss) (WL.nil ?_))
            refine CW.condD rfl (fun h4 => ?_) (fun h4 => ?_)
            · skip
              have hb2 := ifp h4 hb2
              refine CW.skip ?_
              obtain ⟨q3, hm3, hb2⟩ := bd hb2
              refine CW.seq (CW.mid (fun ρ' w => ∃ (s7 : Int) (s8 : List Occurrence), q3 = (s7, s8) ∧ agree ρ' [(0, .slice Aa0 na0 ca0), (3, .int .i64 s7), (4, .slice A1 n1 c1), (5, .int .i64 s6)] ∧ I64 s7 ∧ HL F0 M w0 w [Pr.R x1 [.int .i64 x1.Pos, .string x1.Name], Pr.R x2 [.int .i64 x2.Pos, .string x2.Name]] [It.O 48 s8 (.slice Aa0 na0 ca0)]) ?_ ?_)
              · skip
                refine CW.block (CW.seq (CW.quiet hmix (by kernel_rfl) ?_))
                refine QL.ev rfl rfl (fun _ _ => Ev.mv rfl rfl) (QL.ev rfl rfl (fun _ _ => Ev.mv rfl rfl) ?_)
                obtain ⟨hg6, hm3⟩ := grd_some hm3
                obtain ⟨x3, hx3, hm3⟩ := bd hm3
                obtain ⟨b3, mb3, cb3, hvb3, hmb3, hbb3⟩ := H.ptSub (i := 0) rfl e2 hx3
                refine QL.ev rfl rfl (fun _ _ => Ev.ixSub rfl el33 sz48 rfl hvb3 rfl hg6 hmb3) ?_
                obtain ⟨hA3, hI8, hS3, H⟩ := elO_Occurrence H (i := 0) rfl hx3 hbb3
                refine QL.ev rfl rfl (fun _ hq => Ev.lda rfl ag48 sz48 rfl (hA3.ext hq) rfl) (QL.ev rfl rfl (fun _ _ => Ev.mv rfl rfl) (QL.ev rfl rfl (fun _ _ => Ev.mv rfl rfl) ?_))
                obtain ⟨hg7, hm3⟩ := grd_some hm3
                refine QL.ev rfl rfl (fun _ _ => Ev.bin rfl rfl rfl (Bin.sub hg7)) ?_
                obtain ⟨hg8, hm3⟩ := grd_some hm3
                obtain ⟨x4, hx4, hm3⟩ := bd hm3
                obtain ⟨b4, mb4, cb4, hvb4, hmb4, hbb4⟩ := H.ptSub (i := 0) rfl e2 hx4
                refine QL.ev rfl rfl (fun _ _ => Ev.ixSub rfl el33 sz48 rfl hvb4 rfl hg8 hmb4) ?_
                obtain ⟨hA4, hI9, hS4, H⟩ := elO_Occurrence H (i := 0) rfl hx4 hbb4
                refine QL.ev rfl rfl (fun _ hq => Ev.lda rfl ag48 sz48 rfl (hA4.ext hq) rfl) (QL.ev rfl rfl (fun _ _ => Ev.bin rfl rfl rfl (Bin.neqF fl48 (Occurrence_eqF x3 x4))) (QL.nil (fun w4 hE => ?_)))
                have H := H.ext hE
                refine CW.condN rfl (fun h5 => ?_) (fun h5 => ?_)
                · skip
                  have hm3 := ifn h5 hm3
                  refine CW.seq (CW.reg ?_)
                  refine WL.ev rfl rfl (Ev.mv rfl rfl) (WL.ev rfl rfl (Ev.mv rfl rfl) (WL.ev rfl rfl (Ev.mv rfl rfl) (WL.ev rfl rfl (Ev.mv rfl rfl) ?_)))
                  obtain ⟨hg9, hm3⟩ := grd_some hm3
                  obtain ⟨b5, mb5, cb5, hvb5, hmb5, hbb5⟩ := H.ptSub (i := 0) rfl e2 hx3
                  refine WL.ev rfl rfl (Ev.ixSub rfl el33 sz48 rfl hvb5 rfl hg9 hmb5) ?_
                  obtain ⟨hA5, hI10, hS5, H⟩ := elO_Occurrence H (i := 0) rfl hx3 hbb5
                  refine WL.ev rfl rfl (Ev.lda rfl ag48 sz48 rfl hA5 rfl) ?_
                  obtain ⟨hg10, hm3⟩ := grd_some hm3
                  obtain ⟨x5, hx5, hm3⟩ := bd hm3
                  obtain ⟨b6, cb6, hvb6, hbb6⟩ := H.ptO (i := 0) rfl hx5
                  refine WL.ev rfl rfl (Ev.ixV rfl el33 sz48 rfl hvb6 rfl hg10 (lt_of hx5)) ?_
                  refine WL.stOf (i := 0) (z := x3) rfl rfl rfl sz48 rfl rfl rfl (fun _ => ⟨rfl, hI10, hS5, rfl⟩) H rfl hbb6 (by simpa using lt_of hx5) fun w5 H => ?_
                  refine WL.nil ?_
                  refine CW.fresh [(0, .slice Aa0 na0 ca0), (3, .int .i64 s5), (4, .slice A1 n1 c1), (5, .int .i64 s6)] ⟨rfl, rfl, rfl, rfl, trivial⟩ fun σ => ?_
                  have H : HL F0 M w0 w5 [Pr.R x1 [.int .i64 x1.Pos, .string x1.Name], Pr.R x2 [.int .i64 x2.Pos, .string x2.Name], Pr.R x3 [.int .i64 x3.Pos, .string x3.Name], Pr.R x4 [.int .i64 x4.Pos, .string x4.Name], Pr.R x3 [.int .i64 x3.Pos, .string x3.Name]] [It.O 48 (List.set s4 s5.toNat x3) (.slice Aa0 na0 ca0)] := H
                  refine CW.reg ?_
                  refine WL.ev rfl rfl (Ev.mv rfl rfl) ?_
                  obtain ⟨hg11, hm3⟩ := grd_some hm3
                  refine WL.ev rfl rfl (Ev.bin rfl rfl rfl (Bin.add hg11)) (WL.ev rfl rfl (Ev.as rfl rfl) (WL.nil ?_))
                  obtain rfl := sm hm3
                  exact ⟨(s5 + 1), (List.set s4 s5.toNat x3), rfl, ⟨rfl, rfl, rfl, rfl, trivial⟩, hg11, H.keep 2 1⟩
                · skip
                  have hm3 := ifp h5 hm3
                  refine CW.skip ?_
                  obtain rfl := sm hm3
                  exact ⟨s5, s4, rfl, ⟨rfl, rfl, rfl, rfl, trivial⟩, hI5, H.keep 2 1⟩
              · rintro ρ' w6 ⟨s7, s8, rfl, hag, hI7, H⟩
                obtain ⟨σ, rfl⟩ := ofL_ex hag
                refine CW.reg ?_
                refine WL.ev rfl rfl (Ev.mv rfl rfl) ?_
                obtain ⟨hg12, hb2⟩ := grd_some hb2
                refine WL.ev rfl rfl (Ev.bin rfl rfl rfl (Bin.add hg12)) (WL.ev rfl rfl (Ev.as rfl rfl) (WL.nil ?_))
                obtain rfl := sm hb2
                exact ⟨⟨m4, s8, s7, (s6 + 1)⟩, ⟨rfl, rfl, rfl, rfl, trivial⟩, ⟨hs2 _ rfl, hI7, hg12, H.keep 2 1⟩, Nat.lt_succ_self _⟩
            · skip
              have hb2 := ifn h4 hb2
              refine CW.exit ?_
              obtain rfl := sm hb2
              obtain rfl := ht2 _ rfl
              exact ⟨s4, s5, rfl, ⟨rfl, rfl, trivial⟩, hI5, H.keep 2 1⟩
          · rintro ρ' w7 ⟨s2, s3, rfl, hag, hI4, H⟩
            obtain ⟨σ, rfl⟩ := ofL_ex hag
            refine CW.seq (CW.reg ?_)
            refine WL.ev rfl rfl (Ev.mv rfl rfl) (WL.ev rfl rfl (Ev.mv rfl rfl) ?_)
            obtain ⟨hg13, hb1⟩ := grd_some hb1
            obtain ⟨hg14, hb1⟩ := grd_some hb1
            obtain ⟨A2, n2, c2, e4, hc2⟩ := H.subO (i := 0) rfl hg14
            refine WL.ev rfl rfl (Ev.slLV rfl el33 sz48 rfl rfl ((Int.toNat_of_nonneg hg13).symm) hc2 e4) ?_
            refine WL.clrO (i := 0) (x0 := (⟨(0 : Int), (⟨#[]⟩ : ByteArray)⟩ : Occurrence)) rfl rfl rfl el33 sz48 ze48 (fun _ => ⟨rfl, (by decide : I64 0), (by decide : (⟨#[]⟩ : ByteArray).size ≤ 9223372036854775807), rfl⟩) rfl H rfl hc2 e4 fun w8 H => ?_
            refine WL.nil ?_
            refine CW.seq (CW.reg ?_)
            refine WL.ev rfl rfl (Ev.mv rfl rfl) (WL.ev rfl rfl (Ev.mv rfl rfl) ?_)
            obtain ⟨hg15, hb1⟩ := grd_some hb1
            obtain ⟨hg16, hb1⟩ := grd_some hb1
            obtain ⟨A3, n3, c3, e5, hc3, H⟩ := H.cutO (i := 0) rfl hg16
            refine WL.ev rfl rfl (Ev.slHV rfl el33 sz48 rfl rfl ((Int.toNat_of_nonneg hg15).symm) hc3 e5) (WL.ev rfl rfl (Ev.as rfl rfl) (WL.nil ?_))
            refine CW.ret ?_
            obtain rfl := sm hb1
            obtain rfl := ht1 _ rfl
            obtain rfl := sm hr
            exact ⟨_, res1 rfl rfl rfl, H.chg, _, _, _, rfl, H.outM (fr' := []) [true] fun _ _ => trivial⟩
        · skip
          have hb1 := ifn h3 hb1
          refine CW.skip ?_
          refine CW.reg ?_
          refine WL.ev rfl rfl (Ev.mv rfl rfl) ?_
          obtain ⟨hg17, hb1⟩ := grd_some hb1
          refine WL.ev rfl rfl (Ev.bin rfl rfl rfl (Bin.add hg17)) (WL.ev rfl rfl (Ev.as rfl rfl) (WL.nil ?_))
          obtain rfl := sm hb1
          exact ⟨⟨m2, (s1 + 1)⟩, ⟨rfl, rfl, trivial⟩, ⟨hs1 _ rfl, hg17, H.keep 0 1⟩, Nat.lt_succ_self _⟩
      · skip
        have hb1 := ifn h2 hb1
        refine CW.exit ?_
        obtain rfl := sm hb1
        obtain rfl := ht1 _ rfl
        exact ⟨rfl, ⟨rfl, trivial⟩, H.keep 0 1⟩
    · rintro ρ' w9 ⟨rfl, hag, H⟩
      obtain ⟨σ, rfl⟩ := ofL_ex hag
      refine CW.seq (CW.reg ?_)
      refine WL.ev rfl rfl (Ev.mv rfl rfl) (WL.ev rfl rfl (Ev.as rfl rfl) (WL.nil ?_))
      refine CW.ret ?_
      obtain rfl := sm hr
      exact ⟨_, res1 rfl rfl rfl, H.chg, _, _, _, rfl, H.outM (fr' := []) [true] fun _ _ => trivial⟩

noncomputable def iAttributeUses_m (a0 : Expr) : Option (List Occurrence) :=
  (ieveryNode_iAttributeUses_1_m a0 []).bind fun (y1, z1) =>
  (slices_SortFunc_Occurrence_m z1).bind fun z2 =>
  (slices_Compact_Occurrence_m z2).bind fun y2 =>
  some y2
theorem iAttributeUses_ok {a0 : Expr} {r : (List Occurrence)} (hr : iAttributeUses_m a0 = some r) {F0 : Nat → Prop} {w0 : World} {ca0 : List Value} (ha0 : rd F0 w0 a0 ca0) :
    Ret Try.prog 78 #[.agg ca0.toArray] w0 (fun _ => False) fun v w => ∃ A0 : Option Addr, ∃ n0 c0 : Nat, v = (.slice A0 n0 c0) ∧ HL F0 [] w0 w [] [It.O 48 r (.slice A0 n0 c0)] := by
  have H := (HL.start F0 w0).argR ha0
  obtain ⟨A1, n1, c1, rfl, hI1, hI2, hI3, hI4, hS1, hS2, H⟩ := op_Expr H (i := 0) rfl
  refine enter Try.func78 rfl rfl rfl ?_
  refine CW.seq (CW.reg ?_)
  refine WL.boxH rfl rfl rfl rfl rfl H fun b1 w1 H => ?_
  refine WL.ev rfl rfl (Ev.as rfl rfl) (WL.nil ?_)
  refine CW.seq (CW.reg ?_)
  refine WL.lit0H (α := Occurrence) rfl rfl rfl el33 sz48 H fun A2 n2 c2 w2 H => ?_
  refine WL.allocH rfl rfl rfl ze33 H fun b2 w3 H => ?_
  refine WL.stB (i := 2) rfl rfl rfl sz33 rfl rfl rfl rfl (all1 rfl all0) H rfl rfl rfl fun w4 H => ?_
  refine WL.nil ?_
  refine CW.seq (CW.reg ?_)
  refine WL.ev rfl rfl (Ev.lda rfl ag31 sz31 rfl (At.blk (H.rB (i := 0) rfl)) rfl) (WL.ev rfl rfl (Ev.mkfL rfl rfl rfl) ?_)
  obtain ⟨⟨y1, z1⟩, hy1, hr⟩ := bd hr
  obtain ⟨F', M', hfF, hoF, hcM⟩ := H.callN [false, true, true] ⟨noO, noB, trivial⟩
  obtain ⟨H', hcN⟩ := hcM (ps := [Pr.S a0.Args (.slice A1 n1 c1)]) ⟨hfF.get (i := 1) rfl, trivial⟩
  refine WL.call rfl rfl rfl rfl rfl ok100 rfl (ieveryNode_iAttributeUses_1_ok hy1 hI1 hI2 hI3 hI4 hS1 hS2 H') ?_
  rintro _ w5 hE ⟨A3, n3, c3, rfl, H'⟩
  have H := hcN 2 H' rfl ⟨fun _ _ _ _ _ h => h, ⟨fun _ _ _ _ _ h => h, trivial⟩⟩
  refine WL.nil ?_
  refine CW.seq (CW.reg ?_)
  refine WL.ev rfl rfl (Ev.ld rfl ag33 rfl ((H.rB (i := 2) rfl).cell rfl)) ?_
  obtain ⟨z2, hy2, hr⟩ := bd hr
  obtain ⟨F', M', hfF, hoF, hcM⟩ := H.callN [false, true, false] ⟨noO, trivial⟩
  obtain ⟨H', hcN⟩ := hcM (ps := []) trivial
  refine WL.call rfl rfl rfl rfl rfl ok139 rfl (slices_SortFunc_Occurrence_ok hy2 H') ?_
  rintro _ w6 hE ⟨rfl, H'⟩
  have H := hcN 1 H' rfl ⟨fun _ _ _ _ _ h => h, trivial⟩
  refine WL.nil ?_
  refine CW.seq (CW.reg ?_)
  refine WL.ev rfl rfl (Ev.ld rfl ag33 rfl ((H.rB (i := 2) rfl).cell rfl)) ?_
  obtain ⟨y2, hy3, hr⟩ := bd hr
  obtain ⟨F', M', hfF, hoF, hcM⟩ := H.callN [false, true, false] ⟨noO, trivial⟩
  obtain ⟨H', hcN⟩ := hcM (ps := []) trivial
  refine WL.call rfl rfl rfl rfl rfl ok141 rfl (slices_Compact_Occurrence_ok hy3 H') ?_
  rintro _ w7 hE ⟨A4, n4, c4, rfl, H'⟩
  have H := hcN 1 H' rfl ⟨fun _ _ _ _ _ h => h, trivial⟩
  refine WL.ev rfl rfl (Ev.as rfl rfl) (WL.nil ?_)
  refine CW.ret ?_
  obtain rfl := sm hr
  exact ⟨_, res1 rfl rfl rfl, H.ext0, _, _, _, rfl, H.outM (fr' := []) [false, true, false] fun _ _ => trivial⟩

noncomputable def slices_Index_Occurrence_L1 (a1 : Occurrence) : Nat → Occurrence → Unit → Option (Unit ⊕ Int) := fun k1 x1 _ => 
  if a1 = x1 then (
  some (.inr (k1 : Int))
  ) else (
  some (.inl ())
  )
noncomputable def slices_Index_Occurrence_m (a0 : (List Occurrence)) (a1 : Occurrence) : Option Int :=
  (findL (slices_Index_Occurrence_L1 a1) 0 a0 ()).bind <| onr (fun r1 => some r1) fun _ =>
  some (-1)
theorem slices_Index_Occurrence_ok {a0 : (List Occurrence)} {a1 : Occurrence} {r : Int} (hr : slices_Index_Occurrence_m a0 a1 = some r) {F0 : Nat → Prop} {w0 : World} {z0 : Value} (ha0 : rdS F0 w0 a0 z0) {ca1 : List Value} (ha1 : rd F0 w0 a1 ca1) :
    Ret Try.prog 142 #[z0, .agg ca1.toArray] w0 (fun _ => False) fun v w => v = .int .i64 r ∧ I64 r := by
  obtain ⟨A0', n0', c0', rfl⟩ := ha0.form3
  have H := ((HL.start F0 w0).argS ha0).argR ha1
  obtain ⟨rfl, hI1, hS1, H⟩ := op_Occurrence H (i := 1) rfl
  refine enter Try.func142 rfl rfl rfl ?_
  refine CW.seq (CW.reg ?_)
  refine WL.boxH rfl rfl rfl rfl rfl H fun b1 w1 H => ?_
  refine WL.ev rfl rfl (Ev.as rfl rfl) (WL.nil ?_)
  refine CW.seq (CW.seq (CW.reg ?_))
  refine WL.ev rfl rfl (Ev.mv rfl rfl) ?_
  have hl1 := (H.rS (i := 0) rfl).I
  refine WL.ev rfl rfl (Ev.lenV rfl el33 rfl (H.rS (i := 0) rfl)) (WL.ev rfl rfl (Ev.mv rfl rfl) (WL.nil ?_))
  obtain ⟨q1, hq1, hr⟩ := bd hr
  refine CW.block (CW.loop (α := Nat) (fun k1 => [(0, .slice A0' n0' c0'), (3, .pointer (some ⟨b1, 0, none⟩)), (7, .int .i64 (a0.length : Int)), (8, .int .i64 (k1 : Int))]) (fun k1 w => k1 ≤ a0.length ∧ findL (slices_Index_Occurrence_L1 a1) k1 (a0.drop k1) () = some q1 ∧ HL F0 [] w0 w [Pr.S a0 (.slice A0' n0' c0'), Pr.R a1 [.int .i64 a1.Pos, .string a1.Name]] [It.B b1 48 [.int .i64 a1.Pos, .string a1.Name]]) (fun k1 => a0.length - k1) 0 ⟨rfl, rfl, rfl, rfl, trivial⟩ ⟨Nat.zero_le _, hq1, H.keep 2 1⟩ ?_)
  rintro k1 σ w2 ⟨hk1, hq1, H⟩
  refine CW.seq (CW.reg ?_)
  refine WL.ev rfl rfl (Ev.bin rfl rfl rfl Bin.lss) (WL.nil ?_)
  refine CW.seq (CW.condD rfl (fun h1 => ?_) (fun h1 => ?_))
  · skip
    have hk2 := cast_lt h1
    obtain ⟨x1, z1, hx1, hb1, hs1, ht1⟩ := findL_go hq1 hk2
    refine CW.skip ?_
    refine CW.seq (CW.block (CW.seq (CW.reg ?_)))
    refine WL.ev rfl rfl (Ev.mv rfl rfl) (WL.ev rfl rfl (Ev.as rfl rfl) (WL.nil ?_))
    refine CW.seq (CW.quiet hmix (by kernel_rfl) ?_)
    refine QL.ev rfl rfl (fun _ hq => Ev.lda rfl ag48 sz48 rfl (At.blk ((H.ext hq).rB (i := 0) rfl)) rfl) (QL.ev rfl rfl (fun _ _ => Ev.mv rfl rfl) (QL.ev rfl rfl (fun _ _ => Ev.mv rfl rfl) ?_))
    obtain ⟨b2, ob2, cb2, hvb2, hI2, hS2, H⟩ := ixS_Occurrence H (i := 0) rfl hx1
    refine QL.ev rfl rfl (fun _ _ => Ev.ixVN rfl el33 sz48 rfl hvb2 rfl (lt_of hx1)) (QL.ev rfl rfl (fun _ hq => Ev.lda rfl ag48 sz48 rfl ((H.ext hq).rA (i := 2) rfl) rfl) (QL.ev rfl rfl (fun _ _ => Ev.bin rfl rfl rfl (Bin.eqlF fl48 (Occurrence_eqF a1 x1))) (QL.nil (fun w3 hE => ?_))))
    have H := H.ext hE
    refine CW.condD rfl (fun h2 => ?_) (fun h2 => ?_)
    · skip
      have hb1 := ifp h2 hb1
      refine CW.seq (CW.reg ?_)
      refine WL.ev rfl rfl (Ev.mv rfl rfl) (WL.ev rfl rfl (Ev.as rfl rfl) (WL.nil ?_))
      refine CW.ret ?_
      obtain rfl := sm hb1
      obtain rfl := ht1 _ rfl
      obtain rfl := sm hr
      exact ⟨_, res1 rfl rfl rfl, H.ext0, rfl, (i64_nat hk2 hl1)⟩
    · skip
      have hb1 := ifn h2 hb1
      refine CW.skip ?_
      refine CW.reg ?_
      refine WL.ev rfl rfl (Ev.bin rfl rfl rfl (Bin.addN (a := k1) (b := 1) rfl (i64_succN hk2 hl1.2))) (WL.ev rfl rfl (Ev.mv rfl rfl) (WL.nil ?_))
      obtain rfl := sm hb1
      have hq1 := hs1 _ rfl
      exact ⟨(k1 + 1), ⟨rfl, rfl, rfl, rfl, trivial⟩, ⟨hk2, hq1, H.keep 2 1⟩, Nat.sub_lt_sub_left hk2 (Nat.lt_succ_self _)⟩
  · skip
    obtain rfl := findL_end hq1 (not_cast_lt h1)
    have hr := (onr_inl _ _ _).symm.trans hr
    refine CW.exit ?_
    refine CW.seq (CW.reg ?_)
    refine WL.ev rfl rfl (Ev.as rfl rfl) (WL.nil ?_)
    refine CW.ret ?_
    obtain rfl := sm hr
    exact ⟨_, res1 rfl rfl rfl, H.ext0, rfl, (by decide : I64 (-1))⟩

noncomputable def slices_Contains_Occurrence_m (a0 : (List Occurrence)) (a1 : Occurrence) : Option Bool :=
  (slices_Index_Occurrence_m a0 a1).bind fun y1 =>
  some (decide (0 ≤ y1))
theorem slices_Contains_Occurrence_ok {a0 : (List Occurrence)} {a1 : Occurrence} {r : Bool} (hr : slices_Contains_Occurrence_m a0 a1 = some r) {F0 : Nat → Prop} {w0 : World} {z0 : Value} (ha0 : rdS F0 w0 a0 z0) {ca1 : List Value} (ha1 : rd F0 w0 a1 ca1) :
    Ret Try.prog 80 #[z0, .agg ca1.toArray] w0 (fun _ => False) fun v w => v = .bool r := by
  obtain ⟨A0', n0', c0', rfl⟩ := ha0.form3
  have H := ((HL.start F0 w0).argS ha0).argR ha1
  obtain ⟨rfl, hI1, hS1, H⟩ := op_Occurrence H (i := 1) rfl
  refine enter Try.func80 rfl rfl rfl ?_
  refine CW.seq (CW.reg ?_)
  refine WL.boxH rfl rfl rfl rfl rfl H fun b1 w1 H => ?_
  refine WL.ev rfl rfl (Ev.as rfl rfl) (WL.nil ?_)
  refine CW.seq (CW.reg ?_)
  refine WL.ev rfl rfl (Ev.mv rfl rfl) (WL.ev rfl rfl (Ev.lda rfl ag48 sz48 rfl (At.blk (H.rB (i := 0) rfl)) rfl) ?_)
  obtain ⟨y1, hy1, hr⟩ := bd hr
  refine WL.call rfl rfl rfl rfl rfl ok142 rfl (slices_Index_Occurrence_ok hy1 (H.rS (i := 0) rfl) ⟨rfl, hI1, hS1⟩) ?_
  rintro _ w2 hE ⟨rfl, hI2⟩
  have H := H.ext hE
  refine WL.ev rfl rfl (Ev.bin rfl rfl rfl Bin.geq) (WL.ev rfl rfl (Ev.as rfl rfl) (WL.nil ?_))
  refine CW.ret ?_
  obtain rfl := sm hr
  exact ⟨_, res1 rfl rfl rfl, H.ext0, rfl⟩

noncomputable def iUsesAny_1_m (a0 : Occurrence) (a1 : (List Occurrence)) : Option Bool :=
  (slices_Contains_Occurrence_m a1 a0).bind fun y1 =>
  some y1
theorem iUsesAny_1_ok {a0 : Occurrence} {a1 : (List Occurrence)} {r : Bool} (hr : iUsesAny_1_m a0 a1 = some r) {F0 : Nat → Prop} {w0 : World} {ca0 : List Value} (ha0 : rd F0 w0 a0 ca0) {b1p : Nat} (ha1 : CapP F0 w0 b1p a1) :
    Ret Try.prog 79 #[.agg ca0.toArray, .pointer (some ⟨b1p, 0, none⟩)] w0 (fun _ => False) fun v w => v = .bool r := by
  have H := (HL.start F0 w0).argR ha0
  obtain ⟨rfl, hI1, hS1, H⟩ := op_Occurrence H (i := 0) rfl
  obtain ⟨cpa1, H⟩ := H.argP ha1
  obtain ⟨A1, n1, c1, rfl, H⟩ := op_Sl H (i := 2) rfl
  refine enter Try.func79 rfl rfl rfl ?_
  refine CW.seq (CW.reg ?_)
  refine WL.boxH rfl rfl rfl rfl rfl H fun b1 w1 H => ?_
  refine WL.ev rfl rfl (Ev.as rfl rfl) (WL.nil ?_)
  refine CW.seq (CW.reg ?_)
  refine WL.ev rfl rfl (Ev.ld rfl ag33 rfl ((H.rA (i := 1) rfl).cell0 rfl)) (WL.ev rfl rfl (Ev.lda rfl ag48 sz48 rfl (At.blk (H.rB (i := 0) rfl)) rfl) ?_)
  obtain ⟨y1, hy1, hr⟩ := bd hr
  refine WL.call rfl rfl rfl rfl rfl ok80 rfl (slices_Contains_Occurrence_ok hy1 (H.rS (i := 3) rfl) ⟨rfl, hI1, hS1⟩) ?_
  rintro _ w2 hE rfl
  have H := H.ext hE
  refine WL.ev rfl rfl (Ev.as rfl rfl) (WL.nil ?_)
  refine CW.ret ?_
  obtain rfl := sm hr
  exact ⟨_, res1 rfl rfl rfl, H.ext0, rfl⟩

noncomputable def slices_IndexFunc_Occurrence_iUsesAny_1_L1 (a1_0 : (List Occurrence)) : Nat → Occurrence → Unit → Option (Unit ⊕ Int) := fun k1 x1 _ => 
  (iUsesAny_1_m x1 a1_0).bind fun y1 =>
  if y1 = true then (
  some (.inr (k1 : Int))
  ) else (
  some (.inl ())
  )
noncomputable def slices_IndexFunc_Occurrence_iUsesAny_1_m (a0 : (List Occurrence)) (a1_0 : (List Occurrence)) : Option Int :=
  (findL (slices_IndexFunc_Occurrence_iUsesAny_1_L1 a1_0) 0 a0 ()).bind <| onr (fun r1 => some r1) fun _ =>
  some (-1)
theorem slices_IndexFunc_Occurrence_iUsesAny_1_ok {a0 : (List Occurrence)} {a1_0 : (List Occurrence)} {r : Int} (hr : slices_IndexFunc_Occurrence_iUsesAny_1_m a0 a1_0 = some r) {F0 : Nat → Prop} {w0 : World} {z0 : Value} (ha0 : rdS F0 w0 a0 z0) {b1_0p : Nat} (ha1_0 : CapP F0 w0 b1_0p a1_0) :
    Ret Try.prog 137 #[z0, .func (.func 79) #[] #[.pointer (some ⟨b1_0p, 0, none⟩)]] w0 (fun _ => False) fun v w => v = .int .i64 r ∧ I64 r := by
  obtain ⟨A0', n0', c0', rfl⟩ := ha0.form3
  have H := (HL.start F0 w0).argS ha0
  obtain ⟨cpa1_0, H⟩ := H.argP ha1_0
  obtain ⟨A1, n1, c1, rfl, H⟩ := op_Sl H (i := 2) rfl
  refine enter Try.func137 rfl rfl rfl ?_
  refine CW.seq (CW.reg ?_)
  refine WL.ev rfl rfl (Ev.as rfl rfl) (WL.nil ?_)
  refine CW.seq (CW.seq (CW.reg ?_))
  refine WL.ev rfl rfl (Ev.mv rfl rfl) ?_
  have hl1 := (H.rS (i := 0) rfl).I
  refine WL.ev rfl rfl (Ev.lenV rfl el33 rfl (H.rS (i := 0) rfl)) (WL.ev rfl rfl (Ev.mv rfl rfl) (WL.nil ?_))
  obtain ⟨q1, hq1, hr⟩ := bd hr
  refine CW.block (CW.loop (α := Nat) (fun k1 => [(0, .slice A0' n0' c0'), (1, .func (.func 79) #[] #[.pointer (some ⟨b1_0p, 0, none⟩)]), (7, .int .i64 (a0.length : Int)), (8, .int .i64 (k1 : Int))]) (fun k1 w => k1 ≤ a0.length ∧ findL (slices_IndexFunc_Occurrence_iUsesAny_1_L1 a1_0) k1 (a0.drop k1) () = some q1 ∧ HL F0 [] w0 w [Pr.S a0 (.slice A0' n0' c0'), Pr.A b1_0p 0 [.slice A1 n1 c1], Pr.R a1_0 [.slice A1 n1 c1], Pr.S a1_0 (.slice A1 n1 c1)] []) (fun k1 => a0.length - k1) 0 ⟨rfl, rfl, rfl, rfl, trivial⟩ ⟨Nat.zero_le _, hq1, H.keep 4 0⟩ ?_)
  rintro k1 σ w1 ⟨hk1, hq1, H⟩
  refine CW.seq (CW.reg ?_)
  refine WL.ev rfl rfl (Ev.bin rfl rfl rfl Bin.lss) (WL.nil ?_)
  refine CW.seq (CW.condD rfl (fun h1 => ?_) (fun h1 => ?_))
  · skip
    have hk2 := cast_lt h1
    obtain ⟨x1, z1, hx1, hb1, hs1, ht1⟩ := findL_go hq1 hk2
    refine CW.skip ?_
    refine CW.seq (CW.block (CW.seq (CW.reg ?_)))
    refine WL.ev rfl rfl (Ev.mv rfl rfl) (WL.ev rfl rfl (Ev.as rfl rfl) (WL.nil ?_))
    refine CW.seq (CW.reg ?_)
    refine WL.ev rfl rfl (Ev.mv rfl rfl) (WL.ev rfl rfl (Ev.mv rfl rfl) (WL.ev rfl rfl (Ev.mv rfl rfl) ?_))
    obtain ⟨b1, ob1, cb1, hvb1, hI1, hS1, H⟩ := ixS_Occurrence H (i := 0) rfl hx1
    refine WL.ev rfl rfl (Ev.ixVN rfl el33 sz48 rfl hvb1 rfl (lt_of hx1)) (WL.ev rfl rfl (Ev.lda rfl ag48 sz48 rfl (H.rA (i := 4) rfl) rfl) ?_)
    obtain ⟨y1, hy1, hb1⟩ := bd hb1
    refine WL.call rfl rfl rfl rfl rfl ok79 rfl (iUsesAny_1_ok hy1 (F0 := fun q => q < _) ⟨rfl, hI1, hS1⟩ ⟨H.rAl (i := 1) rfl, _, H.rA (i := 1) rfl, ⟨_, rfl, (H.rS (i := 3) rfl)⟩⟩) ?_
    rintro _ w2 hE rfl
    have H := H.ext hE
    refine WL.nil ?_
    refine CW.condB rfl (fun h2 => ?_) (fun h2 => ?_)
    · skip
      have hb1 := ifp h2 hb1
      refine CW.seq (CW.reg ?_)
      refine WL.ev rfl rfl (Ev.mv rfl rfl) (WL.ev rfl rfl (Ev.as rfl rfl) (WL.nil ?_))
      refine CW.ret ?_
      obtain rfl := sm hb1
      obtain rfl := ht1 _ rfl
      obtain rfl := sm hr
      exact ⟨_, res1 rfl rfl rfl, H.ext0, rfl, (i64_nat hk2 hl1)⟩
    · skip
      have hb1 := ifn h2 hb1
      refine CW.skip ?_
      refine CW.reg ?_
      refine WL.ev rfl rfl (Ev.bin rfl rfl rfl (Bin.addN (a := k1) (b := 1) rfl (i64_succN hk2 hl1.2))) (WL.ev rfl rfl (Ev.mv rfl rfl) (WL.nil ?_))
      obtain rfl := sm hb1
      have hq1 := hs1 _ rfl
      exact ⟨(k1 + 1), ⟨rfl, rfl, rfl, rfl, trivial⟩, ⟨hk2, hq1, H.keep 4 0⟩, Nat.sub_lt_sub_left hk2 (Nat.lt_succ_self _)⟩
  · skip
    obtain rfl := findL_end hq1 (not_cast_lt h1)
    have hr := (onr_inl _ _ _).symm.trans hr
    refine CW.exit ?_
    refine CW.seq (CW.reg ?_)
    refine WL.ev rfl rfl (Ev.as rfl rfl) (WL.nil ?_)
    refine CW.ret ?_
    obtain rfl := sm hr
    exact ⟨_, res1 rfl rfl rfl, H.ext0, rfl, (by decide : I64 (-1))⟩

noncomputable def slices_ContainsFunc_Occurrence_iUsesAny_1_m (a0 : (List Occurrence)) (a1_0 : (List Occurrence)) : Option Bool :=
  (slices_IndexFunc_Occurrence_iUsesAny_1_m a0 a1_0).bind fun y1 =>
  some (decide (0 ≤ y1))
theorem slices_ContainsFunc_Occurrence_iUsesAny_1_ok {a0 : (List Occurrence)} {a1_0 : (List Occurrence)} {r : Bool} (hr : slices_ContainsFunc_Occurrence_iUsesAny_1_m a0 a1_0 = some r) {F0 : Nat → Prop} {w0 : World} {z0 : Value} (ha0 : rdS F0 w0 a0 z0) {b1_0p : Nat} (ha1_0 : CapP F0 w0 b1_0p a1_0) :
    Ret Try.prog 77 #[z0, .func (.func 79) #[] #[.pointer (some ⟨b1_0p, 0, none⟩)]] w0 (fun _ => False) fun v w => v = .bool r := by
  obtain ⟨A0', n0', c0', rfl⟩ := ha0.form3
  have H := (HL.start F0 w0).argS ha0
  obtain ⟨cpa1_0, H⟩ := H.argP ha1_0
  obtain ⟨A1, n1, c1, rfl, H⟩ := op_Sl H (i := 2) rfl
  refine enter Try.func77 rfl rfl rfl ?_
  refine CW.seq (CW.reg ?_)
  refine WL.ev rfl rfl (Ev.as rfl rfl) (WL.nil ?_)
  refine CW.seq (CW.reg ?_)
  refine WL.ev rfl rfl (Ev.mv rfl rfl) (WL.ev rfl rfl (Ev.mv rfl rfl) ?_)
  obtain ⟨y1, hy1, hr⟩ := bd hr
  refine WL.call rfl rfl rfl rfl rfl ok137 rfl (slices_IndexFunc_Occurrence_iUsesAny_1_ok hy1 (F0 := fun q => q < _) (H.rS (i := 0) rfl) ⟨H.rAl (i := 1) rfl, _, H.rA (i := 1) rfl, ⟨_, rfl, (H.rS (i := 3) rfl)⟩⟩) ?_
  rintro _ w1 hE ⟨rfl, hI1⟩
  have H := H.ext hE
  refine WL.ev rfl rfl (Ev.bin rfl rfl rfl Bin.geq) (WL.ev rfl rfl (Ev.as rfl rfl) (WL.nil ?_))
  refine CW.ret ?_
  obtain rfl := sm hr
  exact ⟨_, res1 rfl rfl rfl, H.ext0, rfl⟩

noncomputable def iUsesAny_m (a0 : Expr) (a1 : (List Occurrence)) : Option Bool :=
  (iAttributeUses_m a0).bind fun y1 =>
  (slices_ContainsFunc_Occurrence_iUsesAny_1_m y1 a1).bind fun y2 =>
  some y2
theorem iUsesAny_ok {a0 : Expr} {a1 : (List Occurrence)} {r : Bool} (hr : iUsesAny_m a0 a1 = some r) {F0 : Nat → Prop} {w0 : World} {ca0 : List Value} (ha0 : rd F0 w0 a0 ca0) {z1 : Value} (ha1 : rdS F0 w0 a1 z1) :
    Ret Try.prog 16 #[.agg ca0.toArray, z1] w0 (fun _ => False) fun v w => v = .bool r := by
  obtain ⟨A1', n1', c1', rfl⟩ := ha1.form3
  have H := ((HL.start F0 w0).argR ha0).argS ha1
  obtain ⟨A1, n1, c1, rfl, hI1, hI2, hI3, hI4, hS1, hS2, H⟩ := op_Expr H (i := 0) rfl
  refine enter Try.func16 rfl rfl rfl ?_
  refine CW.seq (CW.reg ?_)
  refine WL.boxH rfl rfl rfl rfl rfl H fun b1 w1 H => ?_
  refine WL.boxH rfl rfl rfl rfl rfl H fun b2 w2 H => ?_
  refine WL.ev rfl rfl (Ev.as rfl rfl) (WL.nil ?_)
  refine CW.seq (CW.reg ?_)
  refine WL.ev rfl rfl (Ev.lda rfl ag31 sz31 rfl (At.blk (H.rB (i := 0) rfl)) rfl) ?_
  obtain ⟨y1, hy1, hr⟩ := bd hr
  refine WL.call rfl rfl rfl rfl rfl ok78 rfl (iAttributeUses_ok hy1 (Expr_rd.2 ⟨_, rfl, hI1, hI2, hI3, hI4, hS1, hS2, (H.rS (i := 2) rfl)⟩)) ?_
  rintro _ w3 hE ⟨A2, n2, c2, rfl, H'⟩
  have H := H.callA H' ⟨fun _ _ _ _ _ h => h, trivial⟩
  refine WL.ev rfl rfl (Ev.mkfL rfl rfl rfl) ?_
  obtain ⟨y2, hy2, hr⟩ := bd hr
  refine WL.call rfl rfl rfl rfl rfl ok77 rfl (slices_ContainsFunc_Occurrence_iUsesAny_1_ok hy2 (F0 := fun q => q < _) (H.rO (i := 2) rfl) ⟨(H.rB (i := 1) rfl).lt, _, At.blk (H.rB (i := 1) rfl), ⟨_, rfl, (H.rS (i := 1) rfl)⟩⟩) ?_
  rintro _ w4 hE rfl
  have H := H.ext hE
  refine WL.ev rfl rfl (Ev.as rfl rfl) (WL.nil ?_)
  refine CW.ret ?_
  obtain rfl := sm hr
  exact ⟨_, res1 rfl rfl rfl, H.ext0, rfl⟩

noncomputable def iIsMonotone_B (rec_iIsMonotone : Expr → (List Occurrence) → Option Bool) (a0 : Expr) (a1 : (List Occurrence)) : Option Bool :=
  (iUsesAny_m a0 a1).bind fun y1 =>
  (
  if y1 = true then (
  some (decide (a0.Kind = 3))
  ) else (
  some true
  )
  ).bind fun s1 =>
  if s1 = true then (
  some true
  ) else (
  (
  if a0.Kind = 4 then (
  some (decide ((a0.Args.length : Int) = 2))
  ) else (
  some false
  )
  ).bind fun s2 =>
  if s2 = true then (
  (
  if a0.N = 6 then (
  some (decide (a0.N = 6))
  ) else (
  some (decide (a0.N = 7))
  )
  ).bind fun s3 =>
  if s3 = true then (
  (a0.Args[0]?).bind fun x1 =>
  (rec_iIsMonotone x1 a1).bind fun y2 =>
  (
  if y2 = true then (
  (a0.Args[1]?).bind fun x2 =>
  (rec_iIsMonotone x2 a1).bind fun y3 =>
  some y3
  ) else (
  some false
  )
  ).bind fun s4 =>
  some s4
  ) else (
  if a0.N = 8 then (
  if a0.N = 8 then (
  (a0.Args[0]?).bind fun x3 =>
  (rec_iIsMonotone x3 a1).bind fun y4 =>
  (
  if y4 = true then (
  (a0.Args[1]?).bind fun x4 =>
  (iUsesAny_m x4 a1).bind fun y5 =>
  some (!y5)
  ) else (
  some false
  )
  ).bind fun s5 =>
  some s5
  ) else (
  some false
  )
  ) else (
  if a0.N = 12 then (
  (a0.Args[0]?).bind fun x5 =>
  (rec_iIsMonotone x5 a1).bind fun y6 =>
  if y6 = true then (
  (a0.Args[1]?).bind fun x6 =>
  (iUsesAny_m x6 a1).bind fun y7 =>
  some (!y7)
  ) else (
  some false
  )
  ) else (
  some false
  )
  )
  )
  ) else (
  (
  if a0.Kind = 5 then (
  some (decide ((a0.Args.length : Int) = 3))
  ) else (
  some false
  )
  ).bind fun s6 =>
  if s6 = true then (
  (a0.Args[0]?).bind fun x7 =>
  (iUsesAny_m x7 a1).bind fun y8 =>
  (
  if y8 = true then (
  some false
  ) else (
  (a0.Args[1]?).bind fun x8 =>
  (rec_iIsMonotone x8 a1).bind fun y9 =>
  some y9
  )
  ).bind fun s7 =>
  (
  if s7 = true then (
  (a0.Args[2]?).bind fun x9 =>
  (rec_iIsMonotone x9 a1).bind fun y10 =>
  some y10
  ) else (
  some false
  )
  ).bind fun s8 =>
  some s8
  ) else (
  some false
  )
  )
  )
theorem iIsMonotone_okB {rec_iIsMonotone : Expr → (List Occurrence) → Option Bool} (ih_iIsMonotone : ∀ {a0 : Expr} {a1 : (List Occurrence)} {r : Bool}, rec_iIsMonotone a0 a1 = some r → ∀ {F0 : Nat → Prop} {w0 : World} {ca0 : List Value} (ha0 : rd F0 w0 a0 ca0) {z1 : Value} (ha1 : rdS F0 w0 a1 z1), Ret Try.prog 20 #[.agg ca0.toArray, z1] w0 (fun _ => False) fun v w => v = .bool r) {a0 : Expr} {a1 : (List Occurrence)} {r : Bool} (hr : iIsMonotone_B rec_iIsMonotone a0 a1 = some r) {F0 : Nat → Prop} {w0 : World} {ca0 : List Value} (ha0 : rd F0 w0 a0 ca0) {z1 : Value} (ha1 : rdS F0 w0 a1 z1) :
    Ret Try.prog 20 #[.agg ca0.toArray, z1] w0 (fun _ => False) fun v w => v = .bool r := by
  obtain ⟨A1', n1', c1', rfl⟩ := ha1.form3
  have H := ((HL.start F0 w0).argR ha0).argS ha1
  obtain ⟨A1, n1, c1, rfl, hI1, hI2, hI3, hI4, hS1, hS2, H⟩ := op_Expr H (i := 0) rfl
  refine enter Try.func20 rfl rfl rfl ?_
  refine CW.seq (CW.reg ?_)
  refine WL.boxH rfl rfl rfl rfl rfl H fun b1 w1 H => ?_
  refine WL.ev rfl rfl (Ev.as rfl rfl) (WL.nil ?_)
  refine CW.seq (CW.seq (CW.reg ?_))
  refine WL.ev rfl rfl (Ev.lda rfl ag31 sz31 rfl (At.blk (H.rB (i := 0) rfl)) rfl) (WL.ev rfl rfl (Ev.mv rfl rfl) ?_)
  obtain ⟨y1, hy1, hr⟩ := bd hr
  refine WL.call rfl rfl rfl rfl rfl ok16 rfl (iUsesAny_ok hy1 (Expr_rd.2 ⟨_, rfl, hI1, hI2, hI3, hI4, hS1, hS2, (H.rS (i := 2) rfl)⟩) (H.rS (i := 1) rfl)) ?_
  rintro _ w2 hE rfl
  have H := H.ext hE
  refine WL.ev rfl rfl (Ev.not rfl rfl) ?_
  obtain ⟨q1, hm1, hr⟩ := bd hr
  refine WL.cut 5 (fun ρ' w => ∃ (s1 : Bool), s1 = q1 ∧ agree ρ' [(1, .slice A1' n1' c1'), (2, .pointer (some ⟨b1, 0, none⟩)), (13, .bool s1)] ∧ HL F0 [] w0 w [Pr.R a0 [.int .i64 a0.Kind, .int .i64 a0.N, .int .i64 a0.Pos, .int .i64 a0.Type_, .string a0.Symbol, .string a0.Name, .slice A1 n1 c1], Pr.S a1 (.slice A1' n1' c1'), Pr.S a0.Args (.slice A1 n1 c1)] [It.B b1 31 [.int .i64 a0.Kind, .int .i64 a0.N, .int .i64 a0.Pos, .int .i64 a0.Type_, .string a0.Symbol, .string a0.Name, .slice A1 n1 c1]]) ?_ ?_
  · skip
    refine WL.mvBN rfl rfl rfl rfl (fun h1 => ?_) (fun h1 => ?_)
    · skip
      have hm1 := ifn h1 hm1
      refine WL.off rfl rfl rfl (WL.off rfl rfl rfl (WL.off rfl rfl rfl (WL.ev rfl rfl (Ev.pickT rfl rfl rfl) (WL.nil ?_))))
      obtain rfl := sm hm1
      exact ⟨true, rfl, ⟨rfl, rfl, rfl, trivial⟩, H.keep 3 1⟩
    · skip
      have hm1 := ifp h1 hm1
      refine WL.on rfl rfl (WL.ev rfl rfl (Ev.fa rfl fo31_0 rfl) (WL.on rfl rfl (WL.ev rfl rfl (Ev.ld rfl ag3 rfl ((H.rB (i := 0) rfl).cell rfl)) (WL.on rfl rfl (WL.ev rfl rfl (Ev.bin rfl rfl rfl Bin.eql) (WL.ev rfl rfl (Ev.pickF rfl rfl rfl) (WL.nil ?_)))))))
      obtain rfl := sm hm1
      exact ⟨(decide (a0.Kind = 3)), rfl, ⟨rfl, rfl, rfl, trivial⟩, H.keep 3 1⟩
  · rintro ρ' w3 ⟨s1, rfl, hag, H⟩
    obtain ⟨σ, rfl⟩ := ofL_ex hag
    refine WL.nil ?_
    refine CW.condB rfl (fun h2 => ?_) (fun h2 => ?_)
    · skip
      have hr := ifp h2 hr
      refine CW.seq (CW.reg ?_)
      refine WL.ev rfl rfl (Ev.as rfl rfl) (WL.nil ?_)
      refine CW.ret ?_
      obtain rfl := sm hr
      exact ⟨_, res1 rfl rfl rfl, H.ext0, rfl⟩
    · skip
      have hr := ifn h2 hr
      refine CW.skip ?_
      refine CW.seq (CW.block (CW.seq (CW.reg ?_)))
      refine WL.ev rfl rfl (Ev.fa rfl fo31_0 rfl) (WL.ev rfl rfl (Ev.ld rfl ag3 rfl ((H.rB (i := 0) rfl).cell rfl)) (WL.ev rfl rfl (Ev.bin rfl rfl rfl Bin.eql) ?_))
      obtain ⟨q2, hm2, hr⟩ := bd hr
      refine WL.cut 6 (fun ρ' w => ∃ (s2 : Bool), s2 = q2 ∧ agree ρ' [(1, .slice A1' n1' c1'), (2, .pointer (some ⟨b1, 0, none⟩)), (23, .bool s2)] ∧ HL F0 [] w0 w [Pr.R a0 [.int .i64 a0.Kind, .int .i64 a0.N, .int .i64 a0.Pos, .int .i64 a0.Type_, .string a0.Symbol, .string a0.Name, .slice A1 n1 c1], Pr.S a1 (.slice A1' n1' c1'), Pr.S a0.Args (.slice A1 n1 c1)] [It.B b1 31 [.int .i64 a0.Kind, .int .i64 a0.N, .int .i64 a0.Pos, .int .i64 a0.Type_, .string a0.Symbol, .string a0.Name, .slice A1 n1 c1]]) ?_ ?_
      · skip
        refine WL.mvD rfl rfl rfl rfl (fun h3 => ?_) (fun h3 => ?_)
        · skip
          have hm2 := ifp h3 hm2
          refine WL.on rfl rfl (WL.ev rfl rfl (Ev.fa rfl fo31_6 rfl) (WL.on rfl rfl (WL.ev rfl rfl (Ev.ld rfl ag29 rfl ((H.rB (i := 0) rfl).cell rfl)) (WL.on rfl rfl ?_))))
          have hl1 := (H.rS (i := 2) rfl).I
          refine WL.ev rfl rfl (Ev.lenV rfl el29 rfl (H.rS (i := 2) rfl)) (WL.on rfl rfl (WL.ev rfl rfl (Ev.bin rfl rfl rfl Bin.eql) (WL.ev rfl rfl (Ev.pickT rfl rfl rfl) (WL.nil ?_))))
          obtain rfl := sm hm2
          exact ⟨(decide ((a0.Args.length : Int) = 2)), rfl, ⟨rfl, rfl, rfl, trivial⟩, H.keep 3 1⟩
        · skip
          have hm2 := ifn h3 hm2
          refine WL.off rfl rfl rfl (WL.off rfl rfl rfl (WL.off rfl rfl rfl (WL.off rfl rfl rfl (WL.ev rfl rfl (Ev.pickF rfl rfl rfl) (WL.nil ?_)))))
          obtain rfl := sm hm2
          exact ⟨false, rfl, ⟨rfl, rfl, rfl, trivial⟩, H.keep 3 1⟩
      · rintro ρ' w4 ⟨s2, rfl, hag, H⟩
        obtain ⟨σ, rfl⟩ := ofL_ex hag
        refine WL.ev rfl rfl (Ev.as rfl rfl) (WL.nil ?_)
        refine CW.condB rfl (fun h4 => ?_) (fun h4 => ?_)
        · skip
          have hr := ifp h4 hr
          refine CW.seq (CW.reg ?_)
          refine WL.ev rfl rfl (Ev.fa rfl fo31_1 rfl) (WL.ev rfl rfl (Ev.ld rfl ag3 rfl ((H.rB (i := 0) rfl).cell rfl)) (WL.nil ?_))
          refine CW.block (CW.seq (CW.seq (CW.reg ?_)))
          refine WL.ev rfl rfl (Ev.bin rfl rfl rfl Bin.eql) (WL.ev rfl rfl (Ev.as rfl rfl) (WL.nil ?_))
          obtain ⟨q3, hm3, hr⟩ := bd hr
          refine CW.mid (fun ρ' w => ∃ (s3 : Bool), s3 = q3 ∧ agree ρ' [(1, .slice A1' n1' c1'), (2, .pointer (some ⟨b1, 0, none⟩)), (25, .int .i64 a0.N), (26, .bool s3)] ∧ HL F0 [] w0 w [Pr.R a0 [.int .i64 a0.Kind, .int .i64 a0.N, .int .i64 a0.Pos, .int .i64 a0.Type_, .string a0.Symbol, .string a0.Name, .slice A1 n1 c1], Pr.S a1 (.slice A1' n1' c1'), Pr.S a0.Args (.slice A1 n1 c1)] [It.B b1 31 [.int .i64 a0.Kind, .int .i64 a0.N, .int .i64 a0.Pos, .int .i64 a0.Type_, .string a0.Symbol, .string a0.Name, .slice A1 n1 c1]]) ?_ ?_
          · skip
            refine CW.condD rfl (fun h5 => ?_) (fun h5 => ?_)
            · skip
              have hm3 := ifp h5 hm3
              refine CW.skip ?_
              obtain rfl := sm hm3
              exact ⟨(decide (a0.N = 6)), rfl, ⟨rfl, rfl, rfl, rfl, trivial⟩, H.keep 3 1⟩
            · skip
              have hm3 := ifn h5 hm3
              refine CW.reg ?_
              refine WL.ev rfl rfl (Ev.bin rfl rfl rfl Bin.eql) (WL.ev rfl rfl (Ev.as rfl rfl) (WL.nil ?_))
              obtain rfl := sm hm3
              exact ⟨(decide (a0.N = 7)), rfl, ⟨rfl, rfl, rfl, rfl, trivial⟩, H.keep 3 1⟩
          · rintro ρ' w5 ⟨s3, rfl, hag, H⟩
            obtain ⟨σ, rfl⟩ := ofL_ex hag
            refine CW.condB rfl (fun h6 => ?_) (fun h6 => ?_)
            · skip
              have hr := ifp h6 hr
              refine CW.seq (CW.reg ?_)
              refine WL.ev rfl rfl (Ev.fa rfl fo31_6 rfl) (WL.ev rfl rfl (Ev.ld rfl ag29 rfl ((H.rB (i := 0) rfl).cell rfl)) ?_)
              obtain ⟨x1, hx1, hr⟩ := bd hr
              obtain ⟨b2, ob2, cb2, A2, n2, c2, hvb2, hI5, hI6, hI7, hI8, hS3, hS4, H⟩ := ixS_Expr H (i := 2) rfl hx1
              refine WL.ev rfl rfl (Ev.ixVN rfl el29 sz31 rfl hvb2 rfl (lt_of hx1)) (WL.ev rfl rfl (Ev.lda rfl ag31 sz31 rfl (H.rA (i := 3) rfl) rfl) (WL.ev rfl rfl (Ev.mv rfl rfl) ?_))
              obtain ⟨y2, hy2, hr⟩ := bd hr
              refine WL.call rfl rfl rfl rfl rfl ok20 rfl (ih_iIsMonotone hy2 (Expr_rd.2 ⟨_, rfl, hI5, hI6, hI7, hI8, hS3, hS4, (H.rS (i := 5) rfl)⟩) (H.rS (i := 1) rfl)) ?_
              rintro _ w6 hE rfl
              have H := H.ext hE
              obtain ⟨q4, hm4, hr⟩ := bd hr
              refine WL.cut 8 (fun ρ' w => ∃ (s4 : Bool), s4 = q4 ∧ agree ρ' [(42, .bool s4)] ∧ HL F0 [] w0 w [Pr.R a0 [.int .i64 a0.Kind, .int .i64 a0.N, .int .i64 a0.Pos, .int .i64 a0.Type_, .string a0.Symbol, .string a0.Name, .slice A1 n1 c1], Pr.S a1 (.slice A1' n1' c1'), Pr.S a0.Args (.slice A1 n1 c1), Pr.A b2 (ob2 + 0 * 7) [.int .i64 x1.Kind, .int .i64 x1.N, .int .i64 x1.Pos, .int .i64 x1.Type_, .string x1.Symbol, .string x1.Name, .slice A2 n2 c2], Pr.R x1 [.int .i64 x1.Kind, .int .i64 x1.N, .int .i64 x1.Pos, .int .i64 x1.Type_, .string x1.Symbol, .string x1.Name, .slice A2 n2 c2], Pr.S x1.Args (.slice A2 n2 c2)] [It.B b1 31 [.int .i64 a0.Kind, .int .i64 a0.N, .int .i64 a0.Pos, .int .i64 a0.Type_, .string a0.Symbol, .string a0.Name, .slice A1 n1 c1]]) ?_ ?_
              · skip
                refine WL.mvB rfl rfl rfl rfl (fun h7 => ?_) (fun h7 => ?_)
                · skip
                  have hm4 := ifp h7 hm4
                  refine WL.on rfl rfl (WL.ev rfl rfl (Ev.fa rfl fo31_6 rfl) (WL.on rfl rfl (WL.ev rfl rfl (Ev.ld rfl ag29 rfl ((H.rB (i := 0) rfl).cell rfl)) (WL.on rfl rfl ?_))))
                  obtain ⟨x2, hx2, hm4⟩ := bd hm4
                  obtain ⟨b3, ob3, cb3, A3, n3, c3, hvb3, hI9, hI10, hI11, hI12, hS5, hS6, H⟩ := ixS_Expr H (i := 2) rfl hx2
                  refine WL.ev rfl rfl (Ev.ixVN rfl el29 sz31 rfl hvb3 rfl (lt_of hx2)) (WL.on rfl rfl (WL.ev rfl rfl (Ev.lda rfl ag31 sz31 rfl (H.rA (i := 6) rfl) rfl) (WL.on rfl rfl (WL.ev rfl rfl (Ev.mv rfl rfl) (WL.on rfl rfl ?_)))))
                  obtain ⟨y3, hy3, hm4⟩ := bd hm4
                  refine WL.call rfl rfl rfl rfl rfl ok20 rfl (ih_iIsMonotone hy3 (Expr_rd.2 ⟨_, rfl, hI9, hI10, hI11, hI12, hS5, hS6, (H.rS (i := 8) rfl)⟩) (H.rS (i := 1) rfl)) ?_
                  rintro _ w7 hE rfl
                  have H := H.ext hE
                  refine WL.ev rfl rfl (Ev.pickT rfl rfl rfl) (WL.nil ?_)
                  obtain rfl := sm hm4
                  exact ⟨y3, rfl, ⟨rfl, trivial⟩, H.keep 6 1⟩
                · skip
                  have hm4 := ifn h7 hm4
                  refine WL.off rfl rfl rfl (WL.off rfl rfl rfl (WL.off rfl rfl rfl (WL.off rfl rfl rfl (WL.off rfl rfl rfl (WL.off rfl rfl rfl (WL.ev rfl rfl (Ev.pickF rfl rfl rfl) (WL.nil ?_)))))))
                  obtain rfl := sm hm4
                  exact ⟨false, rfl, ⟨rfl, trivial⟩, H.keep 6 1⟩
              · rintro ρ' w8 ⟨s4, rfl, hag, H⟩
                obtain ⟨σ, rfl⟩ := ofL_ex hag
                refine WL.ev rfl rfl (Ev.as rfl rfl) (WL.nil ?_)
                refine CW.ret ?_
                obtain rfl := sm hr
                exact ⟨_, res1 rfl rfl rfl, H.ext0, rfl⟩
            · skip
              have hr := ifn h6 hr
              refine CW.seq (CW.seq (CW.reg ?_))
              refine WL.ev rfl rfl (Ev.bin rfl rfl rfl Bin.eql) (WL.ev rfl rfl (Ev.as rfl rfl) (WL.nil ?_))
              refine CW.condD rfl (fun h8 => ?_) (fun h8 => ?_)
              · skip
                have hr := ifp h8 hr
                refine CW.skip ?_
                refine CW.condD rfl (fun h9 => ?_) (fun h9 => ?_)
                · skip
                  have hr := ifp h9 hr
                  refine CW.seq (CW.reg ?_)
                  refine WL.ev rfl rfl (Ev.fa rfl fo31_6 rfl) (WL.ev rfl rfl (Ev.ld rfl ag29 rfl ((H.rB (i := 0) rfl).cell rfl)) ?_)
                  obtain ⟨x3, hx3, hr⟩ := bd hr
                  obtain ⟨b4, ob4, cb4, A4, n4, c4, hvb4, hI13, hI14, hI15, hI16, hS7, hS8, H⟩ := ixS_Expr H (i := 2) rfl hx3
                  refine WL.ev rfl rfl (Ev.ixVN rfl el29 sz31 rfl hvb4 rfl (lt_of hx3)) (WL.ev rfl rfl (Ev.lda rfl ag31 sz31 rfl (H.rA (i := 3) rfl) rfl) (WL.ev rfl rfl (Ev.mv rfl rfl) ?_))
                  obtain ⟨y4, hy4, hr⟩ := bd hr
                  refine WL.call rfl rfl rfl rfl rfl ok20 rfl (ih_iIsMonotone hy4 (Expr_rd.2 ⟨_, rfl, hI13, hI14, hI15, hI16, hS7, hS8, (H.rS (i := 5) rfl)⟩) (H.rS (i := 1) rfl)) ?_
                  rintro _ w9 hE rfl
                  have H := H.ext hE
                  obtain ⟨q5, hm5, hr⟩ := bd hr
                  refine WL.cut 9 (fun ρ' w => ∃ (s5 : Bool), s5 = q5 ∧ agree ρ' [(60, .bool s5)] ∧ HL F0 [] w0 w [Pr.R a0 [.int .i64 a0.Kind, .int .i64 a0.N, .int .i64 a0.Pos, .int .i64 a0.Type_, .string a0.Symbol, .string a0.Name, .slice A1 n1 c1], Pr.S a1 (.slice A1' n1' c1'), Pr.S a0.Args (.slice A1 n1 c1), Pr.A b4 (ob4 + 0 * 7) [.int .i64 x3.Kind, .int .i64 x3.N, .int .i64 x3.Pos, .int .i64 x3.Type_, .string x3.Symbol, .string x3.Name, .slice A4 n4 c4], Pr.R x3 [.int .i64 x3.Kind, .int .i64 x3.N, .int .i64 x3.Pos, .int .i64 x3.Type_, .string x3.Symbol, .string x3.Name, .slice A4 n4 c4], Pr.S x3.Args (.slice A4 n4 c4)] [It.B b1 31 [.int .i64 a0.Kind, .int .i64 a0.N, .int .i64 a0.Pos, .int .i64 a0.Type_, .string a0.Symbol, .string a0.Name, .slice A1 n1 c1]]) ?_ ?_
                  · skip
                    refine WL.mvB rfl rfl rfl rfl (fun h10 => ?_) (fun h10 => ?_)
                    · skip
                      have hm5 := ifp h10 hm5
                      refine WL.on rfl rfl (WL.ev rfl rfl (Ev.fa rfl fo31_6 rfl) (WL.on rfl rfl (WL.ev rfl rfl (Ev.ld rfl ag29 rfl ((H.rB (i := 0) rfl).cell rfl)) (WL.on rfl rfl ?_))))
                      obtain ⟨x4, hx4, hm5⟩ := bd hm5
                      obtain ⟨b5, ob5, cb5, A5, n5, c5, hvb5, hI17, hI18, hI19, hI20, hS9, hS10, H⟩ := ixS_Expr H (i := 2) rfl hx4
                      refine WL.ev rfl rfl (Ev.ixVN rfl el29 sz31 rfl hvb5 rfl (lt_of hx4)) (WL.on rfl rfl (WL.ev rfl rfl (Ev.lda rfl ag31 sz31 rfl (H.rA (i := 6) rfl) rfl) (WL.on rfl rfl (WL.ev rfl rfl (Ev.mv rfl rfl) (WL.on rfl rfl ?_)))))
                      obtain ⟨y5, hy5, hm5⟩ := bd hm5
                      refine WL.call rfl rfl rfl rfl rfl ok16 rfl (iUsesAny_ok hy5 (Expr_rd.2 ⟨_, rfl, hI17, hI18, hI19, hI20, hS9, hS10, (H.rS (i := 8) rfl)⟩) (H.rS (i := 1) rfl)) ?_
                      rintro _ w10 hE rfl
                      have H := H.ext hE
                      refine WL.on rfl rfl (WL.ev rfl rfl (Ev.not rfl rfl) (WL.ev rfl rfl (Ev.pickT rfl rfl rfl) (WL.nil ?_)))
                      obtain rfl := sm hm5
                      exact ⟨(!y5), rfl, ⟨rfl, trivial⟩, H.keep 6 1⟩
                    · skip
                      have hm5 := ifn h10 hm5
                      refine WL.off rfl rfl rfl (WL.off rfl rfl rfl (WL.off rfl rfl rfl (WL.off rfl rfl rfl (WL.off rfl rfl rfl (WL.off rfl rfl rfl (WL.off rfl rfl rfl (WL.ev rfl rfl (Ev.pickF rfl rfl rfl) (WL.nil ?_))))))))
                      obtain rfl := sm hm5
                      exact ⟨false, rfl, ⟨rfl, trivial⟩, H.keep 6 1⟩
                  · rintro ρ' w11 ⟨s5, rfl, hag, H⟩
                    obtain ⟨σ, rfl⟩ := ofL_ex hag
                    refine WL.ev rfl rfl (Ev.as rfl rfl) (WL.nil ?_)
                    refine CW.ret ?_
                    obtain rfl := sm hr
                    exact ⟨_, res1 rfl rfl rfl, H.ext0, rfl⟩
                · skip
                  have hr := ifn h9 hr
                  refine CW.skip ?_
                  refine CW.seq (CW.reg ?_)
                  refine WL.ev rfl rfl (Ev.as rfl rfl) (WL.nil ?_)
                  refine CW.ret ?_
                  obtain rfl := sm hr
                  exact ⟨_, res1 rfl rfl rfl, H.ext0, rfl⟩
              · skip
                have hr := ifn h8 hr
                refine CW.reg ?_
                refine WL.ev rfl rfl (Ev.bin rfl rfl rfl Bin.eql) (WL.ev rfl rfl (Ev.as rfl rfl) (WL.nil ?_))
                refine CW.condD rfl (fun h11 => ?_) (fun h11 => ?_)
                · skip
                  have hr := ifp h11 hr
                  refine CW.seq (CW.reg ?_)
                  refine WL.ev rfl rfl (Ev.fa rfl fo31_6 rfl) (WL.ev rfl rfl (Ev.ld rfl ag29 rfl ((H.rB (i := 0) rfl).cell rfl)) ?_)
                  obtain ⟨x5, hx5, hr⟩ := bd hr
                  obtain ⟨b6, ob6, cb6, A6, n6, c6, hvb6, hI21, hI22, hI23, hI24, hS11, hS12, H⟩ := ixS_Expr H (i := 2) rfl hx5
                  refine WL.ev rfl rfl (Ev.ixVN rfl el29 sz31 rfl hvb6 rfl (lt_of hx5)) (WL.ev rfl rfl (Ev.lda rfl ag31 sz31 rfl (H.rA (i := 3) rfl) rfl) (WL.ev rfl rfl (Ev.mv rfl rfl) ?_))
                  obtain ⟨y6, hy6, hr⟩ := bd hr
                  refine WL.call rfl rfl rfl rfl rfl ok20 rfl (ih_iIsMonotone hy6 (Expr_rd.2 ⟨_, rfl, hI21, hI22, hI23, hI24, hS11, hS12, (H.rS (i := 5) rfl)⟩) (H.rS (i := 1) rfl)) ?_
                  rintro _ w12 hE rfl
                  have H := H.ext hE
                  refine WL.mvB rfl rfl rfl rfl (fun h12 => ?_) (fun h12 => ?_)
                  · skip
                    have hr := ifp h12 hr
                    refine WL.on rfl rfl (WL.ev rfl rfl (Ev.fa rfl fo31_6 rfl) (WL.on rfl rfl (WL.ev rfl rfl (Ev.ld rfl ag29 rfl ((H.rB (i := 0) rfl).cell rfl)) (WL.on rfl rfl ?_))))
                    obtain ⟨x6, hx6, hr⟩ := bd hr
                    obtain ⟨b7, ob7, cb7, A7, n7, c7, hvb7, hI25, hI26, hI27, hI28, hS13, hS14, H⟩ := ixS_Expr H (i := 2) rfl hx6
                    refine WL.ev rfl rfl (Ev.ixVN rfl el29 sz31 rfl hvb7 rfl (lt_of hx6)) (WL.on rfl rfl (WL.ev rfl rfl (Ev.lda rfl ag31 sz31 rfl (H.rA (i := 6) rfl) rfl) (WL.on rfl rfl (WL.ev rfl rfl (Ev.mv rfl rfl) (WL.on rfl rfl ?_)))))
                    obtain ⟨y7, hy7, hr⟩ := bd hr
                    refine WL.call rfl rfl rfl rfl rfl ok16 rfl (iUsesAny_ok hy7 (Expr_rd.2 ⟨_, rfl, hI25, hI26, hI27, hI28, hS13, hS14, (H.rS (i := 8) rfl)⟩) (H.rS (i := 1) rfl)) ?_
                    rintro _ w13 hE rfl
                    have H := H.ext hE
                    refine WL.on rfl rfl (WL.ev rfl rfl (Ev.not rfl rfl) (WL.ev rfl rfl (Ev.pickT rfl rfl rfl) (WL.ev rfl rfl (Ev.as rfl rfl) (WL.nil ?_))))
                    refine CW.ret ?_
                    obtain rfl := sm hr
                    exact ⟨_, res1 rfl rfl rfl, H.ext0, rfl⟩
                  · skip
                    have hr := ifn h12 hr
                    refine WL.off rfl rfl rfl (WL.off rfl rfl rfl (WL.off rfl rfl rfl (WL.off rfl rfl rfl (WL.off rfl rfl rfl (WL.off rfl rfl rfl (WL.off rfl rfl rfl (WL.ev rfl rfl (Ev.pickF rfl rfl rfl) (WL.ev rfl rfl (Ev.as rfl rfl) (WL.nil ?_)))))))))
                    refine CW.ret ?_
                    obtain rfl := sm hr
                    exact ⟨_, res1 rfl rfl rfl, H.ext0, rfl⟩
                · skip
                  have hr := ifn h11 hr
                  refine CW.skip ?_
                  refine CW.seq (CW.reg ?_)
                  refine WL.ev rfl rfl (Ev.as rfl rfl) (WL.nil ?_)
                  refine CW.ret ?_
                  obtain rfl := sm hr
                  exact ⟨_, res1 rfl rfl rfl, H.ext0, rfl⟩
        · skip
          have hr := ifn h4 hr
          refine CW.seq (CW.reg ?_)
          refine WL.ev rfl rfl (Ev.fa rfl fo31_0 rfl) (WL.ev rfl rfl (Ev.ld rfl ag3 rfl ((H.rB (i := 0) rfl).cell rfl)) (WL.ev rfl rfl (Ev.bin rfl rfl rfl Bin.eql) ?_))
          obtain ⟨q6, hm6, hr⟩ := bd hr
          refine WL.cut 6 (fun ρ' w => ∃ (s6 : Bool), s6 = q6 ∧ agree ρ' [(1, .slice A1' n1' c1'), (2, .pointer (some ⟨b1, 0, none⟩)), (70, .bool s6)] ∧ HL F0 [] w0 w [Pr.R a0 [.int .i64 a0.Kind, .int .i64 a0.N, .int .i64 a0.Pos, .int .i64 a0.Type_, .string a0.Symbol, .string a0.Name, .slice A1 n1 c1], Pr.S a1 (.slice A1' n1' c1'), Pr.S a0.Args (.slice A1 n1 c1)] [It.B b1 31 [.int .i64 a0.Kind, .int .i64 a0.N, .int .i64 a0.Pos, .int .i64 a0.Type_, .string a0.Symbol, .string a0.Name, .slice A1 n1 c1]]) ?_ ?_
          · skip
            refine WL.mvD rfl rfl rfl rfl (fun h13 => ?_) (fun h13 => ?_)
            · skip
              have hm6 := ifp h13 hm6
              refine WL.on rfl rfl (WL.ev rfl rfl (Ev.fa rfl fo31_6 rfl) (WL.on rfl rfl (WL.ev rfl rfl (Ev.ld rfl ag29 rfl ((H.rB (i := 0) rfl).cell rfl)) (WL.on rfl rfl ?_))))
              have hl2 := (H.rS (i := 2) rfl).I
              refine WL.ev rfl rfl (Ev.lenV rfl el29 rfl (H.rS (i := 2) rfl)) (WL.on rfl rfl (WL.ev rfl rfl (Ev.bin rfl rfl rfl Bin.eql) (WL.ev rfl rfl (Ev.pickT rfl rfl rfl) (WL.nil ?_))))
              obtain rfl := sm hm6
              exact ⟨(decide ((a0.Args.length : Int) = 3)), rfl, ⟨rfl, rfl, rfl, trivial⟩, H.keep 3 1⟩
            · skip
              have hm6 := ifn h13 hm6
              refine WL.off rfl rfl rfl (WL.off rfl rfl rfl (WL.off rfl rfl rfl (WL.off rfl rfl rfl (WL.ev rfl rfl (Ev.pickF rfl rfl rfl) (WL.nil ?_)))))
              obtain rfl := sm hm6
              exact ⟨false, rfl, ⟨rfl, rfl, rfl, trivial⟩, H.keep 3 1⟩
          · rintro ρ' w14 ⟨s6, rfl, hag, H⟩
            obtain ⟨σ, rfl⟩ := ofL_ex hag
            refine WL.ev rfl rfl (Ev.as rfl rfl) (WL.nil ?_)
            refine CW.condB rfl (fun h14 => ?_) (fun h14 => ?_)
            · skip
              have hr := ifp h14 hr
              refine CW.seq (CW.reg ?_)
              refine WL.ev rfl rfl (Ev.fa rfl fo31_6 rfl) (WL.ev rfl rfl (Ev.ld rfl ag29 rfl ((H.rB (i := 0) rfl).cell rfl)) ?_)
              obtain ⟨x7, hx7, hr⟩ := bd hr
              obtain ⟨b8, ob8, cb8, A8, n8, c8, hvb8, hI29, hI30, hI31, hI32, hS15, hS16, H⟩ := ixS_Expr H (i := 2) rfl hx7
              refine WL.ev rfl rfl (Ev.ixVN rfl el29 sz31 rfl hvb8 rfl (lt_of hx7)) (WL.ev rfl rfl (Ev.lda rfl ag31 sz31 rfl (H.rA (i := 3) rfl) rfl) (WL.ev rfl rfl (Ev.mv rfl rfl) ?_))
              obtain ⟨y8, hy8, hr⟩ := bd hr
              refine WL.call rfl rfl rfl rfl rfl ok16 rfl (iUsesAny_ok hy8 (Expr_rd.2 ⟨_, rfl, hI29, hI30, hI31, hI32, hS15, hS16, (H.rS (i := 5) rfl)⟩) (H.rS (i := 1) rfl)) ?_
              rintro _ w15 hE rfl
              have H := H.ext hE
              refine WL.ev rfl rfl (Ev.not rfl rfl) ?_
              obtain ⟨q7, hm7, hr⟩ := bd hr
              refine WL.cut 8 (fun ρ' w => ∃ (s7 : Bool), s7 = q7 ∧ agree ρ' [(1, .slice A1' n1' c1'), (2, .pointer (some ⟨b1, 0, none⟩)), (85, .bool s7)] ∧ HL F0 [] w0 w [Pr.R a0 [.int .i64 a0.Kind, .int .i64 a0.N, .int .i64 a0.Pos, .int .i64 a0.Type_, .string a0.Symbol, .string a0.Name, .slice A1 n1 c1], Pr.S a1 (.slice A1' n1' c1'), Pr.S a0.Args (.slice A1 n1 c1), Pr.A b8 (ob8 + 0 * 7) [.int .i64 x7.Kind, .int .i64 x7.N, .int .i64 x7.Pos, .int .i64 x7.Type_, .string x7.Symbol, .string x7.Name, .slice A8 n8 c8], Pr.R x7 [.int .i64 x7.Kind, .int .i64 x7.N, .int .i64 x7.Pos, .int .i64 x7.Type_, .string x7.Symbol, .string x7.Name, .slice A8 n8 c8], Pr.S x7.Args (.slice A8 n8 c8)] [It.B b1 31 [.int .i64 a0.Kind, .int .i64 a0.N, .int .i64 a0.Pos, .int .i64 a0.Type_, .string a0.Symbol, .string a0.Name, .slice A1 n1 c1]]) ?_ ?_
              · skip
                refine WL.mvBN rfl rfl rfl rfl (fun h15 => ?_) (fun h15 => ?_)
                · skip
                  have hm7 := ifn h15 hm7
                  refine WL.on rfl rfl (WL.ev rfl rfl (Ev.fa rfl fo31_6 rfl) (WL.on rfl rfl (WL.ev rfl rfl (Ev.ld rfl ag29 rfl ((H.rB (i := 0) rfl).cell rfl)) (WL.on rfl rfl ?_))))
                  obtain ⟨x8, hx8, hm7⟩ := bd hm7
                  obtain ⟨b9, ob9, cb9, A9, n9, c9, hvb9, hI33, hI34, hI35, hI36, hS17, hS18, H⟩ := ixS_Expr H (i := 2) rfl hx8
                  refine WL.ev rfl rfl (Ev.ixVN rfl el29 sz31 rfl hvb9 rfl (lt_of hx8)) (WL.on rfl rfl (WL.ev rfl rfl (Ev.lda rfl ag31 sz31 rfl (H.rA (i := 6) rfl) rfl) (WL.on rfl rfl (WL.ev rfl rfl (Ev.mv rfl rfl) (WL.on rfl rfl ?_)))))
                  obtain ⟨y9, hy9, hm7⟩ := bd hm7
                  refine WL.call rfl rfl rfl rfl rfl ok20 rfl (ih_iIsMonotone hy9 (Expr_rd.2 ⟨_, rfl, hI33, hI34, hI35, hI36, hS17, hS18, (H.rS (i := 8) rfl)⟩) (H.rS (i := 1) rfl)) ?_
                  rintro _ w16 hE rfl
                  have H := H.ext hE
                  refine WL.ev rfl rfl (Ev.pickT rfl rfl rfl) (WL.nil ?_)
                  obtain rfl := sm hm7
                  exact ⟨y9, rfl, ⟨rfl, rfl, rfl, trivial⟩, H.keep 6 1⟩
                · skip
                  have hm7 := ifp h15 hm7
                  refine WL.off rfl rfl rfl (WL.off rfl rfl rfl (WL.off rfl rfl rfl (WL.off rfl rfl rfl (WL.off rfl rfl rfl (WL.off rfl rfl rfl (WL.ev rfl rfl (Ev.pickF rfl rfl rfl) (WL.nil ?_)))))))
                  obtain rfl := sm hm7
                  exact ⟨false, rfl, ⟨rfl, rfl, rfl, trivial⟩, H.keep 6 1⟩
              · rintro ρ' w17 ⟨s7, rfl, hag, H⟩
                obtain ⟨σ, rfl⟩ := ofL_ex hag
                obtain ⟨q8, hm8, hr⟩ := bd hr
                refine WL.cut 8 (fun ρ' w => ∃ (s8 : Bool), s8 = q8 ∧ agree ρ' [(93, .bool s8)] ∧ HL F0 [] w0 w [Pr.R a0 [.int .i64 a0.Kind, .int .i64 a0.N, .int .i64 a0.Pos, .int .i64 a0.Type_, .string a0.Symbol, .string a0.Name, .slice A1 n1 c1], Pr.S a1 (.slice A1' n1' c1'), Pr.S a0.Args (.slice A1 n1 c1), Pr.A b8 (ob8 + 0 * 7) [.int .i64 x7.Kind, .int .i64 x7.N, .int .i64 x7.Pos, .int .i64 x7.Type_, .string x7.Symbol, .string x7.Name, .slice A8 n8 c8], Pr.R x7 [.int .i64 x7.Kind, .int .i64 x7.N, .int .i64 x7.Pos, .int .i64 x7.Type_, .string x7.Symbol, .string x7.Name, .slice A8 n8 c8], Pr.S x7.Args (.slice A8 n8 c8)] [It.B b1 31 [.int .i64 a0.Kind, .int .i64 a0.N, .int .i64 a0.Pos, .int .i64 a0.Type_, .string a0.Symbol, .string a0.Name, .slice A1 n1 c1]]) ?_ ?_
                · skip
                  refine WL.mvB rfl rfl rfl rfl (fun h16 => ?_) (fun h16 => ?_)
                  · skip
                    have hm8 := ifp h16 hm8
                    refine WL.on rfl rfl (WL.ev rfl rfl (Ev.fa rfl fo31_6 rfl) (WL.on rfl rfl (WL.ev rfl rfl (Ev.ld rfl ag29 rfl ((H.rB (i := 0) rfl).cell rfl)) (WL.on rfl rfl ?_))))
                    obtain ⟨x9, hx9, hm8⟩ := bd hm8
                    obtain ⟨b10, ob10, cb10, A10, n10, c10, hvb10, hI37, hI38, hI39, hI40, hS19, hS20, H⟩ := ixS_Expr H (i := 2) rfl hx9
                    refine WL.ev rfl rfl (Ev.ixVN rfl el29 sz31 rfl hvb10 rfl (lt_of hx9)) (WL.on rfl rfl (WL.ev rfl rfl (Ev.lda rfl ag31 sz31 rfl (H.rA (i := 6) rfl) rfl) (WL.on rfl rfl (WL.ev rfl rfl (Ev.mv rfl rfl) (WL.on rfl rfl ?_)))))
                    obtain ⟨y10, hy10, hm8⟩ := bd hm8
                    refine WL.call rfl rfl rfl rfl rfl ok20 rfl (ih_iIsMonotone hy10 (Expr_rd.2 ⟨_, rfl, hI37, hI38, hI39, hI40, hS19, hS20, (H.rS (i := 8) rfl)⟩) (H.rS (i := 1) rfl)) ?_
                    rintro _ w18 hE rfl
                    have H := H.ext hE
                    refine WL.ev rfl rfl (Ev.pickT rfl rfl rfl) (WL.nil ?_)
                    obtain rfl := sm hm8
                    exact ⟨y10, rfl, ⟨rfl, trivial⟩, H.keep 6 1⟩
                  · skip
                    have hm8 := ifn h16 hm8
                    refine WL.off rfl rfl rfl (WL.off rfl rfl rfl (WL.off rfl rfl rfl (WL.off rfl rfl rfl (WL.off rfl rfl rfl (WL.off rfl rfl rfl (WL.ev rfl rfl (Ev.pickF rfl rfl rfl) (WL.nil ?_)))))))
                    obtain rfl := sm hm8
                    exact ⟨false, rfl, ⟨rfl, trivial⟩, H.keep 6 1⟩
                · rintro ρ' w19 ⟨s8, rfl, hag, H⟩
                  obtain ⟨σ, rfl⟩ := ofL_ex hag
                  refine WL.ev rfl rfl (Ev.as rfl rfl) (WL.nil ?_)
                  refine CW.ret ?_
                  obtain rfl := sm hr
                  exact ⟨_, res1 rfl rfl rfl, H.ext0, rfl⟩
            · skip
              have hr := ifn h14 hr
              refine CW.skip ?_
              refine CW.seq (CW.reg ?_)
              refine WL.ev rfl rfl (Ev.as rfl rfl) (WL.nil ?_)
              refine CW.ret ?_
              obtain rfl := sm hr
              exact ⟨_, res1 rfl rfl rfl, H.ext0, rfl⟩
noncomputable def iIsMonotone_n : Nat → Expr → (List Occurrence) → Option Bool
  | 0, _, _ => none
  | n + 1, a0, a1 => iIsMonotone_B (iIsMonotone_n n) a0 a1
noncomputable def iIsMonotone_m (a0 : Expr) (a1 : (List Occurrence)) : Option Bool := recO fun n => iIsMonotone_n n a0 a1
theorem iIsMonotone_okn (n : Nat) : ∀ {a0 : Expr} {a1 : (List Occurrence)} {r : Bool}, iIsMonotone_n n a0 a1 = some r → ∀ {F0 : Nat → Prop} {w0 : World} {ca0 : List Value} (ha0 : rd F0 w0 a0 ca0) {z1 : Value} (ha1 : rdS F0 w0 a1 z1), Ret Try.prog 20 #[.agg ca0.toArray, z1] w0 (fun _ => False) fun v w => v = .bool r := by
  induction n with
  | zero => intro a0 a1 r hr; exact nomatch (show (none : Option Bool) = some r from hr)
  | succ n ih => intro a0 a1 r hr; exact iIsMonotone_okB ih hr
theorem iIsMonotone_ok {a0 : Expr} {a1 : (List Occurrence)} {r : Bool} (hr : iIsMonotone_m a0 a1 = some r) {F0 : Nat → Prop} {w0 : World} {ca0 : List Value} (ha0 : rd F0 w0 a0 ca0) {z1 : Value} (ha1 : rdS F0 w0 a1 z1) :
    Ret Try.prog 20 #[.agg ca0.toArray, z1] w0 (fun _ => False) fun v w => v = .bool r := by
  obtain ⟨n, hn⟩ := recO_some hr
  exact iIsMonotone_okn n hn ha0 ha1

noncomputable def sl11HasAt_L1 (a1 : Occurrence) : Nat → Occurrence → Unit → Option (Unit ⊕ Bool) := fun k1 x1 _ => 
  if x1 = a1 then (
  some (.inr true)
  ) else (
  some (.inl ())
  )
noncomputable def sl11HasAt_m (a0 : (List Occurrence)) (a1 : Occurrence) : Option Bool :=
  (findL (sl11HasAt_L1 a1) 0 a0 ()).bind <| onr (fun r1 => some r1) fun _ =>
  some false
theorem sl11HasAt_ok {a0 : (List Occurrence)} {a1 : Occurrence} {r : Bool} (hr : sl11HasAt_m a0 a1 = some r) {F0 : Nat → Prop} {w0 : World} {z0 : Value} (ha0 : rdS F0 w0 a0 z0) {ca1 : List Value} (ha1 : rd F0 w0 a1 ca1) :
    Ret Try.prog 74 #[z0, .agg ca1.toArray] w0 (fun _ => False) fun v w => v = .bool r := by
  obtain ⟨A0', n0', c0', rfl⟩ := ha0.form3
  have H := ((HL.start F0 w0).argS ha0).argR ha1
  obtain ⟨rfl, hI1, hS1, H⟩ := op_Occurrence H (i := 1) rfl
  refine enter Try.func74 rfl rfl rfl ?_
  refine CW.seq (CW.reg ?_)
  refine WL.boxH rfl rfl rfl rfl rfl H fun b1 w1 H => ?_
  refine WL.ev rfl rfl (Ev.as rfl rfl) (WL.nil ?_)
  refine CW.seq (CW.seq (CW.reg ?_))
  refine WL.ev rfl rfl (Ev.as rfl rfl) (WL.nil ?_)
  obtain ⟨q1, hq1, hr⟩ := bd hr
  refine CW.block (CW.loop (α := Nat) (fun k1 => [(0, .slice A0' n0' c0'), (3, .pointer (some ⟨b1, 0, none⟩)), (5, .int .i64 (k1 : Int))]) (fun k1 w => k1 ≤ a0.length ∧ findL (sl11HasAt_L1 a1) k1 (a0.drop k1) () = some q1 ∧ HL F0 [] w0 w [Pr.S a0 (.slice A0' n0' c0'), Pr.R a1 [.int .i64 a1.Pos, .string a1.Name]] [It.B b1 48 [.int .i64 a1.Pos, .string a1.Name]]) (fun k1 => a0.length - k1) 0 ⟨rfl, rfl, rfl, trivial⟩ ⟨Nat.zero_le _, hq1, H.keep 2 1⟩ ?_)
  rintro k1 σ w2 ⟨hk1, hq1, H⟩
  refine CW.seq (CW.seq (CW.reg ?_))
  refine WL.ev rfl rfl (Ev.mv rfl rfl) (WL.ev rfl rfl (Ev.mv rfl rfl) ?_)
  have hl1 := (H.rS (i := 0) rfl).I
  refine WL.ev rfl rfl (Ev.lenV rfl el33 rfl (H.rS (i := 0) rfl)) (WL.ev rfl rfl (Ev.bin rfl rfl rfl Bin.lss) (WL.nil ?_))
  refine CW.condD rfl (fun h1 => ?_) (fun h1 => ?_)
  · skip
    have hk2 := cast_lt h1
    obtain ⟨x1, z1, hx1, hb1, hs1, ht1⟩ := findL_go hq1 hk2
    refine CW.skip ?_
    refine CW.seq (CW.block (CW.seq (CW.quiet hmix (by kernel_rfl) ?_)))
    refine QL.ev rfl rfl (fun _ _ => Ev.mv rfl rfl) (QL.ev rfl rfl (fun _ _ => Ev.mv rfl rfl) ?_)
    obtain ⟨b2, ob2, cb2, hvb2, hI2, hS2, H⟩ := ixS_Occurrence H (i := 0) rfl hx1
    refine QL.ev rfl rfl (fun _ _ => Ev.ixVN rfl el33 sz48 rfl hvb2 rfl (lt_of hx1)) (QL.ev rfl rfl (fun _ hq => Ev.lda rfl ag48 sz48 rfl ((H.ext hq).rA (i := 2) rfl) rfl) (QL.ev rfl rfl (fun _ hq => Ev.lda rfl ag48 sz48 rfl (At.blk ((H.ext hq).rB (i := 0) rfl)) rfl) (QL.ev rfl rfl (fun _ _ => Ev.bin rfl rfl rfl (Bin.eqlF fl48 (Occurrence_eqF x1 a1))) (QL.nil (fun w3 hE => ?_)))))
    have H := H.ext hE
    refine CW.condD rfl (fun h2 => ?_) (fun h2 => ?_)
    · skip
      have hb1 := ifp h2 hb1
      refine CW.seq (CW.reg ?_)
      refine WL.ev rfl rfl (Ev.as rfl rfl) (WL.nil ?_)
      refine CW.ret ?_
      obtain rfl := sm hb1
      obtain rfl := ht1 _ rfl
      obtain rfl := sm hr
      exact ⟨_, res1 rfl rfl rfl, H.ext0, rfl⟩
    · skip
      have hb1 := ifn h2 hb1
      refine CW.skip ?_
      refine CW.reg ?_
      refine WL.ev rfl rfl (Ev.mv rfl rfl) (WL.ev rfl rfl (Ev.bin rfl rfl rfl (Bin.addN (a := k1) (b := 1) rfl (i64_succN hk2 hl1.2))) (WL.ev rfl rfl (Ev.as rfl rfl) (WL.nil ?_)))
      obtain rfl := sm hb1
      have hq1 := hs1 _ rfl
      exact ⟨(k1 + 1), ⟨rfl, rfl, rfl, trivial⟩, ⟨hk2, hq1, H.keep 2 1⟩, Nat.sub_lt_sub_left hk2 (Nat.lt_succ_self _)⟩
  · skip
    obtain rfl := findL_end hq1 (not_cast_lt h1)
    have hr := (onr_inl _ _ _).symm.trans hr
    refine CW.exit ?_
    refine CW.seq (CW.reg ?_)
    refine WL.ev rfl rfl (Ev.as rfl rfl) (WL.nil ?_)
    refine CW.ret ?_
    obtain rfl := sm hr
    exact ⟨_, res1 rfl rfl rfl, H.ext0, rfl⟩

noncomputable def sUsesAny_L1 (rec_sUsesAny : Expr → (List Occurrence) → Option Bool) (a1 : (List Occurrence)) : Nat → Expr → Unit → Option (Unit ⊕ Bool) := fun k1 x1 _ => 
  (rec_sUsesAny x1 a1).bind fun y2 =>
  if y2 = true then (
  some (.inr true)
  ) else (
  some (.inl ())
  )
noncomputable def sUsesAny_L2 (rec_sUsesAny : Expr → (List Occurrence) → Option Bool) (a1 : (List Occurrence)) : Nat → Expr → Unit → Option (Unit ⊕ Bool) := fun k2 x2 _ => 
  (rec_sUsesAny x2 a1).bind fun y3 =>
  if y3 = true then (
  some (.inr true)
  ) else (
  some (.inl ())
  )
noncomputable def sUsesAny_B (rec_sUsesAny : Expr → (List Occurrence) → Option Bool) (a0 : Expr) (a1 : (List Occurrence)) : Option Bool :=
  if a0.Kind = 3 then (
  (sl11HasAt_m a1 (⟨a0.Pos, a0.Name⟩ : Occurrence)).bind fun y1 =>
  if y1 = true then (
  some true
  ) else (
  (findL (sUsesAny_L1 rec_sUsesAny a1) 0 a0.Args ()).bind <| onr (fun r1 => some r1) fun _ =>
  some false
  )
  ) else (
  (findL (sUsesAny_L2 rec_sUsesAny a1) 0 a0.Args ()).bind <| onr (fun r2 => some r2) fun _ =>
  some false
  )
theorem sUsesAny_okB {rec_sUsesAny : Expr → (List Occurrence) → Option Bool} (ih_sUsesAny : ∀ {a0 : Expr} {a1 : (List Occurrence)} {r : Bool}, rec_sUsesAny a0 a1 = some r → ∀ {F0 : Nat → Prop} {w0 : World} {ca0 : List Value} (ha0 : rd F0 w0 a0 ca0) {z1 : Value} (ha1 : rdS F0 w0 a1 z1), Ret Try.prog 13 #[.agg ca0.toArray, z1] w0 (fun _ => False) fun v w => v = .bool r) {a0 : Expr} {a1 : (List Occurrence)} {r : Bool} (hr : sUsesAny_B rec_sUsesAny a0 a1 = some r) {F0 : Nat → Prop} {w0 : World} {ca0 : List Value} (ha0 : rd F0 w0 a0 ca0) {z1 : Value} (ha1 : rdS F0 w0 a1 z1) :
    Ret Try.prog 13 #[.agg ca0.toArray, z1] w0 (fun _ => False) fun v w => v = .bool r := by
  obtain ⟨A1', n1', c1', rfl⟩ := ha1.form3
  have H := ((HL.start F0 w0).argR ha0).argS ha1
  obtain ⟨A1, n1, c1, rfl, hI1, hI2, hI3, hI4, hS1, hS2, H⟩ := op_Expr H (i := 0) rfl
  refine enter Try.func13 rfl rfl rfl ?_
  refine CW.seq (CW.reg ?_)
  refine WL.boxH rfl rfl rfl rfl rfl H fun b1 w1 H => ?_
  refine WL.ev rfl rfl (Ev.as rfl rfl) (WL.nil ?_)
  refine CW.seq (CW.seq (CW.reg ?_))
  refine WL.ev rfl rfl (Ev.fa rfl fo31_0 rfl) (WL.ev rfl rfl (Ev.ld rfl ag3 rfl ((H.rB (i := 0) rfl).cell rfl)) (WL.ev rfl rfl (Ev.bin rfl rfl rfl Bin.eql) ?_))
  refine WL.mvD rfl rfl rfl rfl (fun h1 => ?_) (fun h1 => ?_)
  · skip
    have hr := ifp h1 hr
    refine WL.on rfl rfl (WL.ev rfl rfl (Ev.mv rfl rfl) (WL.on rfl rfl (WL.ev rfl rfl (Ev.fa rfl fo31_2 rfl) (WL.on rfl rfl (WL.ev rfl rfl (Ev.ld rfl ag3 rfl ((H.rB (i := 0) rfl).cell rfl)) (WL.on rfl rfl (WL.ev rfl rfl (Ev.fa rfl fo31_5 rfl) (WL.on rfl rfl (WL.ev rfl rfl (Ev.ld rfl ag9 rfl ((H.rB (i := 0) rfl).cell rfl)) (WL.on rfl rfl (WL.ev rfl rfl (Ev.build rfl pl48 ze48 rfl rfl rfl rfl) (WL.on rfl rfl ?_))))))))))))
    obtain ⟨y1, hy1, hr⟩ := bd hr
    refine WL.call rfl rfl rfl rfl rfl ok74 rfl (sl11HasAt_ok hy1 (H.rS (i := 1) rfl) ⟨rfl, hI3, hS2⟩) ?_
    rintro _ w2 hE rfl
    have H := H.ext hE
    refine WL.ev rfl rfl (Ev.pickT rfl rfl rfl) (WL.nil ?_)
    refine CW.condB rfl (fun h2 => ?_) (fun h2 => ?_)
    · skip
      have hr := ifp h2 hr
      refine CW.seq (CW.reg ?_)
      refine WL.ev rfl rfl (Ev.as rfl rfl) (WL.nil ?_)
      refine CW.ret ?_
      obtain rfl := sm hr
      exact ⟨_, res1 rfl rfl rfl, H.ext0, rfl⟩
    · skip
      have hr := ifn h2 hr
      refine CW.skip ?_
      refine CW.seq (CW.seq (CW.reg ?_))
      refine WL.ev rfl rfl (Ev.as rfl rfl) (WL.nil ?_)
      obtain ⟨q1, hq1, hr⟩ := bd hr
      refine CW.block (CW.loop (α := Nat) (fun k1 => [(1, .slice A1' n1' c1'), (2, .pointer (some ⟨b1, 0, none⟩)), (5, .int .i64 (k1 : Int))]) (fun k1 w => k1 ≤ a0.Args.length ∧ findL (sUsesAny_L1 rec_sUsesAny a1) k1 (a0.Args.drop k1) () = some q1 ∧ HL F0 [] w0 w [Pr.R a0 [.int .i64 a0.Kind, .int .i64 a0.N, .int .i64 a0.Pos, .int .i64 a0.Type_, .string a0.Symbol, .string a0.Name, .slice A1 n1 c1], Pr.S a1 (.slice A1' n1' c1'), Pr.S a0.Args (.slice A1 n1 c1)] [It.B b1 31 [.int .i64 a0.Kind, .int .i64 a0.N, .int .i64 a0.Pos, .int .i64 a0.Type_, .string a0.Symbol, .string a0.Name, .slice A1 n1 c1]]) (fun k1 => a0.Args.length - k1) 0 ⟨rfl, rfl, rfl, trivial⟩ ⟨Nat.zero_le _, hq1, H.keep 3 1⟩ ?_)
      rintro k1 σ w3 ⟨hk1, hq1, H⟩
      refine CW.seq (CW.seq (CW.reg ?_))
      refine WL.ev rfl rfl (Ev.mv rfl rfl) (WL.ev rfl rfl (Ev.fa rfl fo31_6 rfl) (WL.ev rfl rfl (Ev.ld rfl ag29 rfl ((H.rB (i := 0) rfl).cell rfl)) ?_))
      have hl1 := (H.rS (i := 2) rfl).I
      refine WL.ev rfl rfl (Ev.lenV rfl el29 rfl (H.rS (i := 2) rfl)) (WL.ev rfl rfl (Ev.bin rfl rfl rfl Bin.lss) (WL.nil ?_))
      refine CW.condD rfl (fun h3 => ?_) (fun h3 => ?_)
      · skip
        have hk2 := cast_lt h3
        obtain ⟨x1, z1, hx1, hb1, hs1, ht1⟩ := findL_go hq1 hk2
        refine CW.skip ?_
        refine CW.seq (CW.block (CW.seq (CW.reg ?_)))
        refine WL.ev rfl rfl (Ev.fa rfl fo31_6 rfl) (WL.ev rfl rfl (Ev.ld rfl ag29 rfl ((H.rB (i := 0) rfl).cell rfl)) (WL.ev rfl rfl (Ev.mv rfl rfl) ?_))
        obtain ⟨b2, ob2, cb2, A2, n2, c2, hvb2, hI5, hI6, hI7, hI8, hS3, hS4, H⟩ := ixS_Expr H (i := 2) rfl hx1
        refine WL.ev rfl rfl (Ev.ixVN rfl el29 sz31 rfl hvb2 rfl (lt_of hx1)) (WL.ev rfl rfl (Ev.lda rfl ag31 sz31 rfl (H.rA (i := 3) rfl) rfl) (WL.ev rfl rfl (Ev.mv rfl rfl) ?_))
        obtain ⟨y2, hy2, hb1⟩ := bd hb1
        refine WL.call rfl rfl rfl rfl rfl ok13 rfl (ih_sUsesAny hy2 (Expr_rd.2 ⟨_, rfl, hI5, hI6, hI7, hI8, hS3, hS4, (H.rS (i := 5) rfl)⟩) (H.rS (i := 1) rfl)) ?_
        rintro _ w4 hE rfl
        have H := H.ext hE
        refine WL.nil ?_
        refine CW.condB rfl (fun h4 => ?_) (fun h4 => ?_)
        · skip
          have hb1 := ifp h4 hb1
          refine CW.seq (CW.reg ?_)
          refine WL.ev rfl rfl (Ev.as rfl rfl) (WL.nil ?_)
          refine CW.ret ?_
          obtain rfl := sm hb1
          obtain rfl := ht1 _ rfl
          obtain rfl := sm hr
          exact ⟨_, res1 rfl rfl rfl, H.ext0, rfl⟩
        · skip
          have hb1 := ifn h4 hb1
          refine CW.skip ?_
          refine CW.reg ?_
          refine WL.ev rfl rfl (Ev.mv rfl rfl) (WL.ev rfl rfl (Ev.bin rfl rfl rfl (Bin.addN (a := k1) (b := 1) rfl (i64_succN hk2 hl1.2))) (WL.ev rfl rfl (Ev.as rfl rfl) (WL.nil ?_)))
          obtain rfl := sm hb1
          have hq1 := hs1 _ rfl
          exact ⟨(k1 + 1), ⟨rfl, rfl, rfl, trivial⟩, ⟨hk2, hq1, H.keep 3 1⟩, Nat.sub_lt_sub_left hk2 (Nat.lt_succ_self _)⟩
      · skip
        obtain rfl := findL_end hq1 (not_cast_lt h3)
        have hr := (onr_inl _ _ _).symm.trans hr
        refine CW.exit ?_
        refine CW.seq (CW.reg ?_)
        refine WL.ev rfl rfl (Ev.as rfl rfl) (WL.nil ?_)
        refine CW.ret ?_
        obtain rfl := sm hr
        exact ⟨_, res1 rfl rfl rfl, H.ext0, rfl⟩
  · skip
    have hr := ifn h1 hr
    refine WL.off rfl rfl rfl (WL.off rfl rfl rfl (WL.off rfl rfl rfl (WL.off rfl rfl rfl (WL.off rfl rfl rfl (WL.off rfl rfl rfl (WL.off rfl rfl rfl (WL.ev rfl rfl (Ev.pickF rfl rfl rfl) (WL.nil ?_))))))))
    refine CW.condF rfl ?_
    refine CW.skip ?_
    refine CW.seq (CW.seq (CW.reg ?_))
    refine WL.ev rfl rfl (Ev.as rfl rfl) (WL.nil ?_)
    obtain ⟨q2, hq2, hr⟩ := bd hr
    refine CW.block (CW.loop (α := Nat) (fun k2 => [(1, .slice A1' n1' c1'), (2, .pointer (some ⟨b1, 0, none⟩)), (5, .int .i64 (k2 : Int))]) (fun k2 w => k2 ≤ a0.Args.length ∧ findL (sUsesAny_L2 rec_sUsesAny a1) k2 (a0.Args.drop k2) () = some q2 ∧ HL F0 [] w0 w [Pr.R a0 [.int .i64 a0.Kind, .int .i64 a0.N, .int .i64 a0.Pos, .int .i64 a0.Type_, .string a0.Symbol, .string a0.Name, .slice A1 n1 c1], Pr.S a1 (.slice A1' n1' c1'), Pr.S a0.Args (.slice A1 n1 c1)] [It.B b1 31 [.int .i64 a0.Kind, .int .i64 a0.N, .int .i64 a0.Pos, .int .i64 a0.Type_, .string a0.Symbol, .string a0.Name, .slice A1 n1 c1]]) (fun k2 => a0.Args.length - k2) 0 ⟨rfl, rfl, rfl, trivial⟩ ⟨Nat.zero_le _, hq2, H.keep 3 1⟩ ?_)
    rintro k2 σ w5 ⟨hk3, hq2, H⟩
    refine CW.seq (CW.seq (CW.reg ?_))
    refine WL.ev rfl rfl (Ev.mv rfl rfl) (WL.ev rfl rfl (Ev.fa rfl fo31_6 rfl) (WL.ev rfl rfl (Ev.ld rfl ag29 rfl ((H.rB (i := 0) rfl).cell rfl)) ?_))
    have hl2 := (H.rS (i := 2) rfl).I
    refine WL.ev rfl rfl (Ev.lenV rfl el29 rfl (H.rS (i := 2) rfl)) (WL.ev rfl rfl (Ev.bin rfl rfl rfl Bin.lss) (WL.nil ?_))
    refine CW.condD rfl (fun h5 => ?_) (fun h5 => ?_)
    · skip
      have hk4 := cast_lt h5
      obtain ⟨x2, z2, hx2, hb2, hs2, ht2⟩ := findL_go hq2 hk4
      refine CW.skip ?_
      refine CW.seq (CW.block (CW.seq (CW.reg ?_)))
      refine WL.ev rfl rfl (Ev.fa rfl fo31_6 rfl) (WL.ev rfl rfl (Ev.ld rfl ag29 rfl ((H.rB (i := 0) rfl).cell rfl)) (WL.ev rfl rfl (Ev.mv rfl rfl) ?_))
      obtain ⟨b3, ob3, cb3, A3, n3, c3, hvb3, hI9, hI10, hI11, hI12, hS5, hS6, H⟩ := ixS_Expr H (i := 2) rfl hx2
      refine WL.ev rfl rfl (Ev.ixVN rfl el29 sz31 rfl hvb3 rfl (lt_of hx2)) (WL.ev rfl rfl (Ev.lda rfl ag31 sz31 rfl (H.rA (i := 3) rfl) rfl) (WL.ev rfl rfl (Ev.mv rfl rfl) ?_))
      obtain ⟨y3, hy3, hb2⟩ := bd hb2
      refine WL.call rfl rfl rfl rfl rfl ok13 rfl (ih_sUsesAny hy3 (Expr_rd.2 ⟨_, rfl, hI9, hI10, hI11, hI12, hS5, hS6, (H.rS (i := 5) rfl)⟩) (H.rS (i := 1) rfl)) ?_
      rintro _ w6 hE rfl
      have H := H.ext hE
      refine WL.nil ?_
      refine CW.condB rfl (fun h6 => ?_) (fun h6 => ?_)
      · skip
        have hb2 := ifp h6 hb2
        refine CW.seq (CW.reg ?_)
        refine WL.ev rfl rfl (Ev.as rfl rfl) (WL.nil ?_)
        refine CW.ret ?_
        obtain rfl := sm hb2
        obtain rfl := ht2 _ rfl
        obtain rfl := sm hr
        exact ⟨_, res1 rfl rfl rfl, H.ext0, rfl⟩
      · skip
        have hb2 := ifn h6 hb2
        refine CW.skip ?_
        refine CW.reg ?_
        refine WL.ev rfl rfl (Ev.mv rfl rfl) (WL.ev rfl rfl (Ev.bin rfl rfl rfl (Bin.addN (a := k2) (b := 1) rfl (i64_succN hk4 hl2.2))) (WL.ev rfl rfl (Ev.as rfl rfl) (WL.nil ?_)))
        obtain rfl := sm hb2
        have hq2 := hs2 _ rfl
        exact ⟨(k2 + 1), ⟨rfl, rfl, rfl, trivial⟩, ⟨hk4, hq2, H.keep 3 1⟩, Nat.sub_lt_sub_left hk4 (Nat.lt_succ_self _)⟩
    · skip
      obtain rfl := findL_end hq2 (not_cast_lt h5)
      have hr := (onr_inl _ _ _).symm.trans hr
      refine CW.exit ?_
      refine CW.seq (CW.reg ?_)
      refine WL.ev rfl rfl (Ev.as rfl rfl) (WL.nil ?_)
      refine CW.ret ?_
      obtain rfl := sm hr
      exact ⟨_, res1 rfl rfl rfl, H.ext0, rfl⟩
noncomputable def sUsesAny_n : Nat → Expr → (List Occurrence) → Option Bool
  | 0, _, _ => none
  | n + 1, a0, a1 => sUsesAny_B (sUsesAny_n n) a0 a1
noncomputable def sUsesAny_m (a0 : Expr) (a1 : (List Occurrence)) : Option Bool := recO fun n => sUsesAny_n n a0 a1
theorem sUsesAny_okn (n : Nat) : ∀ {a0 : Expr} {a1 : (List Occurrence)} {r : Bool}, sUsesAny_n n a0 a1 = some r → ∀ {F0 : Nat → Prop} {w0 : World} {ca0 : List Value} (ha0 : rd F0 w0 a0 ca0) {z1 : Value} (ha1 : rdS F0 w0 a1 z1), Ret Try.prog 13 #[.agg ca0.toArray, z1] w0 (fun _ => False) fun v w => v = .bool r := by
  induction n with
  | zero => intro a0 a1 r hr; exact nomatch (show (none : Option Bool) = some r from hr)
  | succ n ih => intro a0 a1 r hr; exact sUsesAny_okB ih hr
theorem sUsesAny_ok {a0 : Expr} {a1 : (List Occurrence)} {r : Bool} (hr : sUsesAny_m a0 a1 = some r) {F0 : Nat → Prop} {w0 : World} {ca0 : List Value} (ha0 : rd F0 w0 a0 ca0) {z1 : Value} (ha1 : rdS F0 w0 a1 z1) :
    Ret Try.prog 13 #[.agg ca0.toArray, z1] w0 (fun _ => False) fun v w => v = .bool r := by
  obtain ⟨n, hn⟩ := recO_some hr
  exact sUsesAny_okn n hn ha0 ha1

noncomputable def sIsMonotone_B (rec_sIsMonotone : Expr → (List Occurrence) → Option Bool) (a0 : Expr) (a1 : (List Occurrence)) : Option Bool :=
  (sUsesAny_m a0 a1).bind fun y1 =>
  (
  if y1 = true then (
  some (decide (a0.Kind = 3))
  ) else (
  some true
  )
  ).bind fun s1 =>
  if s1 = true then (
  some true
  ) else (
  (
  if a0.Kind = 5 then (
  some (decide ((a0.Args.length : Int) = 3))
  ) else (
  some false
  )
  ).bind fun s2 =>
  if s2 = true then (
  (a0.Args[0]?).bind fun x1 =>
  (sUsesAny_m x1 a1).bind fun y2 =>
  (
  if y2 = true then (
  some false
  ) else (
  (a0.Args[1]?).bind fun x2 =>
  (rec_sIsMonotone x2 a1).bind fun y3 =>
  some y3
  )
  ).bind fun s3 =>
  (
  if s3 = true then (
  (a0.Args[2]?).bind fun x3 =>
  (rec_sIsMonotone x3 a1).bind fun y4 =>
  some y4
  ) else (
  some false
  )
  ).bind fun s4 =>
  some s4
  ) else (
  (
  if a0.Kind = 4 then (
  some (!(decide ((a0.Args.length : Int) = 2)))
  ) else (
  some true
  )
  ).bind fun s5 =>
  if s5 = true then (
  some false
  ) else (
  (
  if a0.N = 6 then (
  some true
  ) else (
  some (decide (a0.N = 7))
  )
  ).bind fun s6 =>
  if s6 = true then (
  (a0.Args[0]?).bind fun x4 =>
  (rec_sIsMonotone x4 a1).bind fun y5 =>
  (
  if y5 = true then (
  (a0.Args[1]?).bind fun x5 =>
  (rec_sIsMonotone x5 a1).bind fun y6 =>
  some y6
  ) else (
  some false
  )
  ).bind fun s7 =>
  some s7
  ) else (
  (
  if a0.N = 8 then (
  some true
  ) else (
  some (decide (a0.N = 12))
  )
  ).bind fun s8 =>
  if s8 = true then (
  (a0.Args[0]?).bind fun x6 =>
  (rec_sIsMonotone x6 a1).bind fun y7 =>
  (
  if y7 = true then (
  (a0.Args[1]?).bind fun x7 =>
  (sUsesAny_m x7 a1).bind fun y8 =>
  some (!y8)
  ) else (
  some false
  )
  ).bind fun s9 =>
  some s9
  ) else (
  some false
  )
  )
  )
  )
  )
end Go.Proofs.Ytonnooljidombaa

