/- What some functions of the program compute, as partial functions on plain data, and that they do; each lemma bears its conditions in its statement. -/
import Derived.Test.YtonnooljidombaaRows
import Derived.Test.YtonnooljidombaaRd
import Derived.Test.YtonnooljidombaaEngD
import Derived.Test.YtonnooljidombaaSort
set_option linter.unusedVariables false
set_option linter.unusedSimpArgs false
set_option linter.ambiguousOpen false
set_option linter.unusedSectionVars false
set_option linter.unnecessarySimpa false
set_option linter.unusedVariables false
set_option linter.unusedSimpArgs false
set_option maxRecDepth 100000
set_option maxHeartbeats 1000000
namespace Go.Proofs.Ytonnooljidombaa
open Go Go.E
open Go.E.Rep (rd)
open Go.E.Sep (own)
open Go.E.Sz (szd)
theorem ag29 : aggT Try.prog 29 = some false := by kernel_rfl
theorem ag31 : aggT Try.prog 31 = some true := by kernel_rfl
theorem ag33 : aggT Try.prog 33 = some false := by kernel_rfl
theorem ag48 : aggT Try.prog 48 = some true := by kernel_rfl
theorem ag51 : aggT Try.prog 51 = some false := by kernel_rfl
theorem sz31 : szT Try.prog 31 = some 7 := by kernel_rfl
theorem sz33 : szT Try.prog 33 = some 1 := by kernel_rfl
theorem sz48 : szT Try.prog 48 = some 2 := by kernel_rfl
theorem by48 : byT Try.prog 48 = some 24 := by kernel_rfl
theorem ze33 : zeroT Try.prog 33 = some [.slice none 0 0] := by kernel_rfl
theorem ze48 : zeroT Try.prog 48 = some [.int .i64 0, .string ⟨#[]⟩] := by kernel_rfl
theorem el29 : elemT Try.prog 29 = some 31 := by kernel_rfl
theorem el33 : elemT Try.prog 33 = some 48 := by kernel_rfl
theorem pl48 : placesT Try.prog 48 = some [(0, 1), (1, 1)] := by kernel_rfl
theorem fl48 : flatT Try.prog 48 = some [.int, .str] := by kernel_rfl
theorem fo31_0 : fieldT Try.prog 31 0 = some 0 := by kernel_rfl
theorem fo31_1 : fieldT Try.prog 31 1 = some 1 := by kernel_rfl
theorem fo31_2 : fieldT Try.prog 31 2 = some 2 := by kernel_rfl
theorem fo31_5 : fieldT Try.prog 31 5 = some 5 := by kernel_rfl
theorem fo31_6 : fieldT Try.prog 31 6 = some 6 := by kernel_rfl
theorem ok13 : callable Try.prog 13 = true := by kernel_rfl
theorem ok16 : callable Try.prog 16 = true := by kernel_rfl
theorem ok19 : callable Try.prog 19 = true := by kernel_rfl
theorem ok20 : callable Try.prog 20 = true := by kernel_rfl
theorem ok74 : callable Try.prog 74 = true := by kernel_rfl
theorem ok77 : callable Try.prog 77 = true := by kernel_rfl
theorem ok78 : callable Try.prog 78 = true := by kernel_rfl
theorem ok79 : callable Try.prog 79 = true := by kernel_rfl
theorem ok80 : callable Try.prog 80 = true := by kernel_rfl
theorem ok100 : callable Try.prog 100 = true := by kernel_rfl
theorem ok137 : callable Try.prog 137 = true := by kernel_rfl
theorem ok138 : callable Try.prog 138 = true := by kernel_rfl
theorem ok139 : callable Try.prog 139 = true := by kernel_rfl
theorem ok141 : callable Try.prog 141 = true := by kernel_rfl
theorem ok142 : callable Try.prog 142 = true := by kernel_rfl
theorem ok155 : callable Try.prog 155 = true := by kernel_rfl
theorem ok156 : callable Try.prog 156 = true := by kernel_rfl
theorem ok185 : callable Try.prog 185 = true := by kernel_rfl
noncomputable def sl11HasAt_L1 (a1 : Occurrence) : Nat → Occurrence → Unit → Option (Unit ⊕ Bool) := fun k1 x1 _ => 
  if x1 = a1 then (
  some (.inr true)
  ) else (
  some (.inl ())
  )
noncomputable def sl11HasAt_m (a0 : (List Occurrence)) (a1 : Occurrence) : Option Bool :=
  (findL (sl11HasAt_L1 a1) 0 a0 ()).bind <| onr (fun r1 => some r1) fun _ =>
  some false
theorem sl11HasAt_ok {a0 : (List Occurrence)} {a1 : Occurrence} {r : Bool} (hr : sl11HasAt_m a0 a1 = some r) {F0 : Nat → Prop} {w0 : World} {z0 : Value} (ha0 : rdS F0 w0 a0 z0) {ca1 : List Value} (ha1 : rd F0 w0 a1 ca1) :
    Ret Try.prog 74 #[z0, .agg ca1.toArray] w0 (fun _ => False) fun v w => v = .bool r := by
  obtain ⟨A0', n0', c0', rfl⟩ := ha0.form3
  have H := ((HL.start F0 w0).argS ha0).argR ha1
  obtain ⟨rfl, hI1, hS1, H⟩ := op_Occurrence H (i := 1) rfl
  refine enter Try.func74 rfl rfl rfl ?_
  refine CW.seq (CW.reg ?_)
  refine WL.boxH rfl rfl rfl rfl rfl H fun b1 w1 H => ?_
  refine WL.ev rfl rfl (Ev.as rfl rfl) (WL.nil ?_)
  refine CW.seq (CW.seq (CW.reg ?_))
  refine WL.ev rfl rfl (Ev.as rfl rfl) (WL.nil ?_)
  obtain ⟨q1, hq1, hr⟩ := bd hr
  refine CW.block (CW.loop (α := Nat) (fun k1 => [(0, .slice A0' n0' c0'), (3, .pointer (some ⟨b1, 0, none⟩)), (5, .int .i64 (k1 : Int))]) (fun k1 w => k1 ≤ a0.length ∧ findL (sl11HasAt_L1 a1) k1 (a0.drop k1) () = some q1 ∧ HL F0 [] w0 w [Pr.S a0 (.slice A0' n0' c0'), Pr.R a1 [.int .i64 a1.Pos, .string a1.Name]] [It.B b1 48 [.int .i64 a1.Pos, .string a1.Name]]) (fun k1 => a0.length - k1) 0 ⟨rfl, rfl, rfl, trivial⟩ ⟨Nat.zero_le _, hq1, H.keep 2 1⟩ ?_)
  rintro k1 σ w2 ⟨hk1, hq1, H⟩
  refine CW.seq (CW.seq (CW.reg ?_))
  refine WL.ev rfl rfl (Ev.mv rfl rfl) (WL.ev rfl rfl (Ev.mv rfl rfl) ?_)
  have hl1 := (H.rS (i := 0) rfl).I
  refine WL.ev rfl rfl (Ev.lenV rfl el33 rfl (H.rS (i := 0) rfl)) (WL.ev rfl rfl (Ev.bin rfl rfl rfl Bin.lss) (WL.nil ?_))
  refine CW.condD rfl (fun h1 => ?_) (fun h1 => ?_)
  · skip
    have hk2 := cast_lt h1
    obtain ⟨x1, z1, hx1, hb1, hs1, ht1⟩ := findL_go hq1 hk2
    refine CW.skip ?_
    refine CW.seq (CW.block (CW.seq (CW.quiet hmix (by kernel_rfl) ?_)))
    refine QL.ev rfl rfl (fun _ _ => Ev.mv rfl rfl) (QL.ev rfl rfl (fun _ _ => Ev.mv rfl rfl) ?_)
    obtain ⟨b2, ob2, cb2, hvb2, hI2, hS2, H⟩ := ixS_Occurrence H (i := 0) rfl hx1
    refine QL.ev rfl rfl (fun _ _ => Ev.ixVN rfl el33 sz48 rfl hvb2 rfl (lt_of hx1)) (QL.ev rfl rfl (fun _ hq => Ev.lda rfl ag48 sz48 rfl ((H.ext hq).rA (i := 2) rfl) rfl) (QL.ev rfl rfl (fun _ hq => Ev.lda rfl ag48 sz48 rfl (At.blk ((H.ext hq).rB (i := 0) rfl)) rfl) (QL.ev rfl rfl (fun _ _ => Ev.bin rfl rfl rfl (Bin.eqlF fl48 (Occurrence_eqF x1 a1))) (QL.nil (fun w3 hE => ?_)))))
    have H := H.ext hE
    refine CW.condD rfl (fun h2 => ?_) (fun h2 => ?_)
    · skip
      have hb1 := ifp h2 hb1
      refine CW.seq (CW.reg ?_)
      refine WL.ev rfl rfl (Ev.as rfl rfl) (WL.nil ?_)
      refine CW.ret ?_
      obtain rfl := sm hb1
      obtain rfl := ht1 _ rfl
      obtain rfl := sm hr
      exact ⟨_, res1 rfl rfl rfl, H.ext0, rfl⟩
    · skip
      have hb1 := ifn h2 hb1
      refine CW.skip ?_
      refine CW.reg ?_
      refine WL.ev rfl rfl (Ev.mv rfl rfl) (WL.ev rfl rfl (Ev.bin rfl rfl rfl (Bin.addN (a := k1) (b := 1) rfl (i64_succN hk2 hl1.2))) (WL.ev rfl rfl (Ev.as rfl rfl) (WL.nil ?_)))
      obtain rfl := sm hb1
      have hq1 := hs1 _ rfl
      exact ⟨(k1 + 1), ⟨rfl, rfl, rfl, trivial⟩, ⟨hk2, hq1, H.keep 2 1⟩, Nat.sub_lt_sub_left hk2 (Nat.lt_succ_self _)⟩
  · skip
    obtain rfl := findL_end hq1 (not_cast_lt h1)
    refine CW.exit ?_
    refine CW.seq (CW.reg ?_)
    refine WL.ev rfl rfl (Ev.as rfl rfl) (WL.nil ?_)
    refine CW.ret ?_
    obtain rfl := sm hr
    exact ⟨_, res1 rfl rfl rfl, H.ext0, rfl⟩

noncomputable def sUsesAny_L1 (rec_sUsesAny : Expr → (List Occurrence) → Option Bool) (a1 : (List Occurrence)) : Nat → Expr → Unit → Option (Unit ⊕ Bool) := fun k1 x1 _ => 
  (rec_sUsesAny x1 a1).bind fun y2 =>
  if y2 = true then (
  some (.inr true)
  ) else (
  some (.inl ())
  )
noncomputable def sUsesAny_L2 (rec_sUsesAny : Expr → (List Occurrence) → Option Bool) (a1 : (List Occurrence)) : Nat → Expr → Unit → Option (Unit ⊕ Bool) := fun k2 x2 _ => 
  (rec_sUsesAny x2 a1).bind fun y3 =>
  if y3 = true then (
  some (.inr true)
  ) else (
  some (.inl ())
  )
noncomputable def sUsesAny_B (rec_sUsesAny : Expr → (List Occurrence) → Option Bool) (a0 : Expr) (a1 : (List Occurrence)) : Option Bool :=
  if a0.Kind = 3 then (
  (sl11HasAt_m a1 (⟨a0.Pos, a0.Name⟩ : Occurrence)).bind fun y1 =>
  if y1 = true then (
  some true
  ) else (
  (findL (sUsesAny_L1 rec_sUsesAny a1) 0 a0.Args ()).bind <| onr (fun r1 => some r1) fun _ =>
  some false
  )
  ) else (
  (findL (sUsesAny_L2 rec_sUsesAny a1) 0 a0.Args ()).bind <| onr (fun r2 => some r2) fun _ =>
  some false
  )
theorem sUsesAny_okB {rec_sUsesAny : Expr → (List Occurrence) → Option Bool} (ih_sUsesAny : ∀ {a0 : Expr} {a1 : (List Occurrence)} {r : Bool}, rec_sUsesAny a0 a1 = some r → ∀ {F0 : Nat → Prop} {w0 : World} {ca0 : List Value} (ha0 : rd F0 w0 a0 ca0) {z1 : Value} (ha1 : rdS F0 w0 a1 z1), Ret Try.prog 13 #[.agg ca0.toArray, z1] w0 (fun _ => False) fun v w => v = .bool r) {a0 : Expr} {a1 : (List Occurrence)} {r : Bool} (hr : sUsesAny_B rec_sUsesAny a0 a1 = some r) {F0 : Nat → Prop} {w0 : World} {ca0 : List Value} (ha0 : rd F0 w0 a0 ca0) {z1 : Value} (ha1 : rdS F0 w0 a1 z1) :
    Ret Try.prog 13 #[.agg ca0.toArray, z1] w0 (fun _ => False) fun v w => v = .bool r := by
  obtain ⟨A1', n1', c1', rfl⟩ := ha1.form3
  have H := ((HL.start F0 w0).argR ha0).argS ha1
  obtain ⟨A1, n1, c1, rfl, hI1, hI2, hI3, hI4, hS1, hS2, H⟩ := op_Expr H (i := 0) rfl
  refine enter Try.func13 rfl rfl rfl ?_
  refine CW.seq (CW.reg ?_)
  refine WL.boxH rfl rfl rfl rfl rfl H fun b1 w1 H => ?_
  refine WL.ev rfl rfl (Ev.as rfl rfl) (WL.nil ?_)
  refine CW.seq (CW.seq (CW.reg ?_))
  refine WL.ev rfl rfl (Ev.fa rfl fo31_0 rfl) (WL.ev rfl rfl (Ev.ld rfl ag3 rfl ((H.rB (i := 0) rfl).cell rfl)) (WL.ev rfl rfl (Ev.bin rfl rfl rfl Bin.eql) ?_))
  refine WL.mvD rfl rfl rfl rfl (fun h1 => ?_) (fun h1 => ?_)
  · skip
    have hr := ifp h1 hr
    refine WL.on rfl rfl (WL.ev rfl rfl (Ev.mv rfl rfl) (WL.on rfl rfl (WL.ev rfl rfl (Ev.fa rfl fo31_2 rfl) (WL.on rfl rfl (WL.ev rfl rfl (Ev.ld rfl ag3 rfl ((H.rB (i := 0) rfl).cell rfl)) (WL.on rfl rfl (WL.ev rfl rfl (Ev.fa rfl fo31_5 rfl) (WL.on rfl rfl (WL.ev rfl rfl (Ev.ld rfl ag9 rfl ((H.rB (i := 0) rfl).cell rfl)) (WL.on rfl rfl (WL.ev rfl rfl (Ev.build rfl pl48 ze48 rfl rfl rfl rfl) (WL.on rfl rfl ?_))))))))))))
    obtain ⟨y1, hy1, hr⟩ := bd hr
    refine WL.call rfl rfl rfl rfl rfl ok74 rfl (sl11HasAt_ok hy1 (H.rS (i := 1) rfl) ⟨rfl, hI3, hS2⟩) ?_
    rintro _ w2 hE rfl
    have H := H.ext hE
    refine WL.ev rfl rfl (Ev.pickT rfl rfl rfl) (WL.nil ?_)
    refine CW.condB rfl (fun h2 => ?_) (fun h2 => ?_)
    · skip
      have hr := ifp h2 hr
      refine CW.seq (CW.reg ?_)
      refine WL.ev rfl rfl (Ev.as rfl rfl) (WL.nil ?_)
      refine CW.ret ?_
      obtain rfl := sm hr
      exact ⟨_, res1 rfl rfl rfl, H.ext0, rfl⟩
    · skip
      have hr := ifn h2 hr
      refine CW.skip ?_
      refine CW.seq (CW.seq (CW.reg ?_))
      refine WL.ev rfl rfl (Ev.as rfl rfl) (WL.nil ?_)
      obtain ⟨q1, hq1, hr⟩ := bd hr
      refine CW.block (CW.loop (α := Nat) (fun k1 => [(1, .slice A1' n1' c1'), (2, .pointer (some ⟨b1, 0, none⟩)), (5, .int .i64 (k1 : Int))]) (fun k1 w => k1 ≤ a0.Args.length ∧ findL (sUsesAny_L1 rec_sUsesAny a1) k1 (a0.Args.drop k1) () = some q1 ∧ HL F0 [] w0 w [Pr.R a0 [.int .i64 a0.Kind, .int .i64 a0.N, .int .i64 a0.Pos, .int .i64 a0.Type_, .string a0.Symbol, .string a0.Name, .slice A1 n1 c1], Pr.S a1 (.slice A1' n1' c1'), Pr.S a0.Args (.slice A1 n1 c1)] [It.B b1 31 [.int .i64 a0.Kind, .int .i64 a0.N, .int .i64 a0.Pos, .int .i64 a0.Type_, .string a0.Symbol, .string a0.Name, .slice A1 n1 c1]]) (fun k1 => a0.Args.length - k1) 0 ⟨rfl, rfl, rfl, trivial⟩ ⟨Nat.zero_le _, hq1, H.keep 3 1⟩ ?_)
      rintro k1 σ w3 ⟨hk1, hq1, H⟩
      refine CW.seq (CW.seq (CW.reg ?_))
      refine WL.ev rfl rfl (Ev.mv rfl rfl) (WL.ev rfl rfl (Ev.fa rfl fo31_6 rfl) (WL.ev rfl rfl (Ev.ld rfl ag29 rfl ((H.rB (i := 0) rfl).cell rfl)) ?_))
      have hl1 := (H.rS (i := 2) rfl).I
      refine WL.ev rfl rfl (Ev.lenV rfl el29 rfl (H.rS (i := 2) rfl)) (WL.ev rfl rfl (Ev.bin rfl rfl rfl Bin.lss) (WL.nil ?_))
      refine CW.condD rfl (fun h3 => ?_) (fun h3 => ?_)
      · skip
        have hk2 := cast_lt h3
        obtain ⟨x1, z1, hx1, hb1, hs1, ht1⟩ := findL_go hq1 hk2
        refine CW.skip ?_
        refine CW.seq (CW.block (CW.seq (CW.reg ?_)))
        refine WL.ev rfl rfl (Ev.fa rfl fo31_6 rfl) (WL.ev rfl rfl (Ev.ld rfl ag29 rfl ((H.rB (i := 0) rfl).cell rfl)) (WL.ev rfl rfl (Ev.mv rfl rfl) ?_))
        obtain ⟨b2, ob2, cb2, A2, n2, c2, hvb2, hI5, hI6, hI7, hI8, hS3, hS4, H⟩ := ixS_Expr H (i := 2) rfl hx1
        refine WL.ev rfl rfl (Ev.ixVN rfl el29 sz31 rfl hvb2 rfl (lt_of hx1)) (WL.ev rfl rfl (Ev.lda rfl ag31 sz31 rfl (H.rA (i := 3) rfl) rfl) (WL.ev rfl rfl (Ev.mv rfl rfl) ?_))
        obtain ⟨y2, hy2, hb1⟩ := bd hb1
        refine WL.call rfl rfl rfl rfl rfl ok13 rfl (ih_sUsesAny hy2 (Expr_rd.2 ⟨_, rfl, hI5, hI6, hI7, hI8, hS3, hS4, (H.rS (i := 5) rfl)⟩) (H.rS (i := 1) rfl)) ?_
        rintro _ w4 hE rfl
        have H := H.ext hE
        refine WL.nil ?_
        refine CW.condB rfl (fun h4 => ?_) (fun h4 => ?_)
        · skip
          have hb1 := ifp h4 hb1
          refine CW.seq (CW.reg ?_)
          refine WL.ev rfl rfl (Ev.as rfl rfl) (WL.nil ?_)
          refine CW.ret ?_
          obtain rfl := sm hb1
          obtain rfl := ht1 _ rfl
          obtain rfl := sm hr
          exact ⟨_, res1 rfl rfl rfl, H.ext0, rfl⟩
        · skip
          have hb1 := ifn h4 hb1
          refine CW.skip ?_
          refine CW.reg ?_
          refine WL.ev rfl rfl (Ev.mv rfl rfl) (WL.ev rfl rfl (Ev.bin rfl rfl rfl (Bin.addN (a := k1) (b := 1) rfl (i64_succN hk2 hl1.2))) (WL.ev rfl rfl (Ev.as rfl rfl) (WL.nil ?_)))
          obtain rfl := sm hb1
          have hq1 := hs1 _ rfl
          exact ⟨(k1 + 1), ⟨rfl, rfl, rfl, trivial⟩, ⟨hk2, hq1, H.keep 3 1⟩, Nat.sub_lt_sub_left hk2 (Nat.lt_succ_self _)⟩
      · skip
        obtain rfl := findL_end hq1 (not_cast_lt h3)
        refine CW.exit ?_
        refine CW.seq (CW.reg ?_)
        refine WL.ev rfl rfl (Ev.as rfl rfl) (WL.nil ?_)
        refine CW.ret ?_
        obtain rfl := sm hr
        exact ⟨_, res1 rfl rfl rfl, H.ext0, rfl⟩
  · skip
    have hr := ifn h1 hr
    refine WL.off rfl rfl rfl (WL.off rfl rfl rfl (WL.off rfl rfl rfl (WL.off rfl rfl rfl (WL.off rfl rfl rfl (WL.off rfl rfl rfl (WL.off rfl rfl rfl (WL.ev rfl rfl (Ev.pickF rfl rfl rfl) (WL.nil ?_))))))))
    refine CW.condF rfl ?_
    refine CW.skip ?_
    refine CW.seq (CW.seq (CW.reg ?_))
    refine WL.ev rfl rfl (Ev.as rfl rfl) (WL.nil ?_)
    obtain ⟨q2, hq2, hr⟩ := bd hr
    refine CW.block (CW.loop (α := Nat) (fun k2 => [(1, .slice A1' n1' c1'), (2, .pointer (some ⟨b1, 0, none⟩)), (5, .int .i64 (k2 : Int))]) (fun k2 w => k2 ≤ a0.Args.length ∧ findL (sUsesAny_L2 rec_sUsesAny a1) k2 (a0.Args.drop k2) () = some q2 ∧ HL F0 [] w0 w [Pr.R a0 [.int .i64 a0.Kind, .int .i64 a0.N, .int .i64 a0.Pos, .int .i64 a0.Type_, .string a0.Symbol, .string a0.Name, .slice A1 n1 c1], Pr.S a1 (.slice A1' n1' c1'), Pr.S a0.Args (.slice A1 n1 c1)] [It.B b1 31 [.int .i64 a0.Kind, .int .i64 a0.N, .int .i64 a0.Pos, .int .i64 a0.Type_, .string a0.Symbol, .string a0.Name, .slice A1 n1 c1]]) (fun k2 => a0.Args.length - k2) 0 ⟨rfl, rfl, rfl, trivial⟩ ⟨Nat.zero_le _, hq2, H.keep 3 1⟩ ?_)
    rintro k2 σ w5 ⟨hk3, hq2, H⟩
    refine CW.seq (CW.seq (CW.reg ?_))
    refine WL.ev rfl rfl (Ev.mv rfl rfl) (WL.ev rfl rfl (Ev.fa rfl fo31_6 rfl) (WL.ev rfl rfl (Ev.ld rfl ag29 rfl ((H.rB (i := 0) rfl).cell rfl)) ?_))
    have hl2 := (H.rS (i := 2) rfl).I
    refine WL.ev rfl rfl (Ev.lenV rfl el29 rfl (H.rS (i := 2) rfl)) (WL.ev rfl rfl (Ev.bin rfl rfl rfl Bin.lss) (WL.nil ?_))
    refine CW.condD rfl (fun h5 => ?_) (fun h5 => ?_)
    · skip
      have hk4 := cast_lt h5
      obtain ⟨x2, z2, hx2, hb2, hs2, ht2⟩ := findL_go hq2 hk4
      refine CW.skip ?_
      refine CW.seq (CW.block (CW.seq (CW.reg ?_)))
      refine WL.ev rfl rfl (Ev.fa rfl fo31_6 rfl) (WL.ev rfl rfl (Ev.ld rfl ag29 rfl ((H.rB (i := 0) rfl).cell rfl)) (WL.ev rfl rfl (Ev.mv rfl rfl) ?_))
      obtain ⟨b3, ob3, cb3, A3, n3, c3, hvb3, hI9, hI10, hI11, hI12, hS5, hS6, H⟩ := ixS_Expr H (i := 2) rfl hx2
      refine WL.ev rfl rfl (Ev.ixVN rfl el29 sz31 rfl hvb3 rfl (lt_of hx2)) (WL.ev rfl rfl (Ev.lda rfl ag31 sz31 rfl (H.rA (i := 3) rfl) rfl) (WL.ev rfl rfl (Ev.mv rfl rfl) ?_))
      obtain ⟨y3, hy3, hb2⟩ := bd hb2
      refine WL.call rfl rfl rfl rfl rfl ok13 rfl (ih_sUsesAny hy3 (Expr_rd.2 ⟨_, rfl, hI9, hI10, hI11, hI12, hS5, hS6, (H.rS (i := 5) rfl)⟩) (H.rS (i := 1) rfl)) ?_
      rintro _ w6 hE rfl
      have H := H.ext hE
      refine WL.nil ?_
      refine CW.condB rfl (fun h6 => ?_) (fun h6 => ?_)
      · skip
        have hb2 := ifp h6 hb2
        refine CW.seq (CW.reg ?_)
        refine WL.ev rfl rfl (Ev.as rfl rfl) (WL.nil ?_)
        refine CW.ret ?_
        obtain rfl := sm hb2
        obtain rfl := ht2 _ rfl
        obtain rfl := sm hr
        exact ⟨_, res1 rfl rfl rfl, H.ext0, rfl⟩
      · skip
        have hb2 := ifn h6 hb2
        refine CW.skip ?_
        refine CW.reg ?_
        refine WL.ev rfl rfl (Ev.mv rfl rfl) (WL.ev rfl rfl (Ev.bin rfl rfl rfl (Bin.addN (a := k2) (b := 1) rfl (i64_succN hk4 hl2.2))) (WL.ev rfl rfl (Ev.as rfl rfl) (WL.nil ?_)))
        obtain rfl := sm hb2
        have hq2 := hs2 _ rfl
        exact ⟨(k2 + 1), ⟨rfl, rfl, rfl, trivial⟩, ⟨hk4, hq2, H.keep 3 1⟩, Nat.sub_lt_sub_left hk4 (Nat.lt_succ_self _)⟩
    · skip
      obtain rfl := findL_end hq2 (not_cast_lt h5)
      refine CW.exit ?_
      refine CW.seq (CW.reg ?_)
      refine WL.ev rfl rfl (Ev.as rfl rfl) (WL.nil ?_)
      refine CW.ret ?_
      obtain rfl := sm hr
      exact ⟨_, res1 rfl rfl rfl, H.ext0, rfl⟩
noncomputable def sUsesAny_n : Nat → Expr → (List Occurrence) → Option Bool
  | 0, _, _ => none
  | n + 1, a0, a1 => sUsesAny_B (sUsesAny_n n) a0 a1
noncomputable def sUsesAny_m (a0 : Expr) (a1 : (List Occurrence)) : Option Bool := recO fun n => sUsesAny_n n a0 a1
theorem sUsesAny_okn (n : Nat) : ∀ {a0 : Expr} {a1 : (List Occurrence)} {r : Bool}, sUsesAny_n n a0 a1 = some r → ∀ {F0 : Nat → Prop} {w0 : World} {ca0 : List Value} (ha0 : rd F0 w0 a0 ca0) {z1 : Value} (ha1 : rdS F0 w0 a1 z1), Ret Try.prog 13 #[.agg ca0.toArray, z1] w0 (fun _ => False) fun v w => v = .bool r := by
  induction n with
  | zero => intro a0 a1 r hr; exact nomatch (show (none : Option Bool) = some r from hr)
  | succ n ih => intro a0 a1 r hr; exact sUsesAny_okB ih hr
theorem sUsesAny_ok {a0 : Expr} {a1 : (List Occurrence)} {r : Bool} (hr : sUsesAny_m a0 a1 = some r) {F0 : Nat → Prop} {w0 : World} {ca0 : List Value} (ha0 : rd F0 w0 a0 ca0) {z1 : Value} (ha1 : rdS F0 w0 a1 z1) :
    Ret Try.prog 13 #[.agg ca0.toArray, z1] w0 (fun _ => False) fun v w => v = .bool r := by
  obtain ⟨n, hn⟩ := recO_some hr
  exact sUsesAny_okn n hn ha0 ha1

noncomputable def iAttributeUses_1_m (a0 : Expr) (o1 : (List Occurrence)) : Option (Bool × (List Occurrence)) :=
  if a0.Kind = 3 then (
  grd (((o1.length : Int) + 1) * 24 ≤ 140737488355328 ∧ (o1.length : Int) + 1 ≤ 9223372036854775807) <|
  some (true, (o1 ++ [(⟨a0.Pos, a0.Name⟩ : Occurrence)]))
  ) else (
  some (true, o1)
  )
theorem iAttributeUses_1_ok {a0 : Expr} {o1 : (List Occurrence)} {r : (Bool × (List Occurrence))} (hr : iAttributeUses_1_m a0 o1 = some r) {F0 : Nat → Prop} {M : List Nat} {w0 : World} {bo1 : Nat} {Aa0_6 : Option Addr} {na0_6 ca0_6 : Nat} {Ao1_0 : Option Addr} {no1_0 co1_0 : Nat} (hIa0_0 : I64 a0.Kind) (hIa0_1 : I64 a0.N) (hIa0_2 : I64 a0.Pos) (hIa0_3 : I64 a0.Type_) (hIa0_4 : a0.Symbol.size ≤ 9223372036854775807) (hIa0_5 : a0.Name.size ≤ 9223372036854775807) (H : HL F0 M w0 w0 [Pr.S a0.Args (.slice Aa0_6 na0_6 ca0_6)] [It.O 48 o1 (.slice Ao1_0 no1_0 co1_0), It.B bo1 33 [.slice Ao1_0 no1_0 co1_0]]) :
    Ret Try.prog 138 #[.agg #[.int .i64 a0.Kind, .int .i64 a0.N, .int .i64 a0.Pos, .int .i64 a0.Type_, .string a0.Symbol, .string a0.Name, .slice Aa0_6 na0_6 ca0_6], .pointer (some ⟨bo1, 0, none⟩)] w0 (· ∈ M) fun v w => ∃ A0 : Option Addr, ∃ n0 c0 : Nat, v = .bool r.1 ∧ HL F0 M w0 w [] [It.O 48 r.2 (.slice A0 n0 c0), It.B bo1 33 [(.slice A0 n0 c0)]] := by
  refine enter Try.func138 rfl rfl rfl ?_
  refine CW.seq (CW.reg ?_)
  refine WL.boxH rfl rfl rfl rfl rfl H fun b1 w1 H => ?_
  refine WL.ev rfl rfl (Ev.as rfl rfl) (WL.nil ?_)
  refine CW.seq (CW.seq (CW.reg ?_))
  refine WL.ev rfl rfl (Ev.fa rfl fo31_0 rfl) (WL.ev rfl rfl (Ev.ld rfl ag3 rfl ((H.rB (i := 2) rfl).cell rfl)) (WL.ev rfl rfl (Ev.bin rfl rfl rfl Bin.eql) (WL.nil ?_)))
  refine CW.condD rfl (fun h1 => ?_) (fun h1 => ?_)
  · skip
    have hr := ifp h1 hr
    refine CW.reg ?_
    refine WL.ev rfl rfl (Ev.ld rfl ag33 rfl ((H.rB (i := 1) rfl).cell rfl)) (WL.ev rfl rfl (Ev.fa rfl fo31_2 rfl) (WL.ev rfl rfl (Ev.ld rfl ag3 rfl ((H.rB (i := 2) rfl).cell rfl)) (WL.ev rfl rfl (Ev.fa rfl fo31_5 rfl) (WL.ev rfl rfl (Ev.ld rfl ag9 rfl ((H.rB (i := 2) rfl).cell rfl)) (WL.ev rfl rfl (Ev.build rfl pl48 ze48 rfl rfl rfl rfl) ?_)))))
    refine WL.lit1 rfl rfl rfl el33 sz48 ze48 rfl rfl rfl rfl rfl rfl fun b2 w2 hE hb hB => ?_
    have H := H.newB hE hb hB
    obtain ⟨hg1, hr⟩ := grd_some hr
    refine WL.appO (i := 0) (ys := [(⟨a0.Pos, a0.Name⟩ : Occurrence)]) rfl rfl rfl el33 sz48 by48 ze48 rfl rfl rfl H rfl (fun _ => ownL.single ⟨rfl, hIa0_2, hIa0_5, rfl⟩) (.inr ⟨_, _, rfl, At.blk (H.rB (i := 3) rfl)⟩) hg1 fun A1 n1 c1 w3 H => ?_
    refine WL.stB (i := 1) rfl rfl rfl sz33 rfl rfl rfl rfl (all1 rfl all0) H rfl rfl rfl fun w4 H => ?_
    refine WL.nil ?_
    refine CW.seq (CW.reg ?_)
    refine WL.ev rfl rfl (Ev.as rfl rfl) (WL.nil ?_)
    refine CW.ret ?_
    obtain rfl := sm hr
    exact ⟨_, res1 rfl rfl rfl, H.chg, _, _, _, rfl, H.outM (fr' := []) [true, true, false, false] fun _ _ => trivial⟩
  · skip
    have hr := ifn h1 hr
    refine CW.skip ?_
    refine CW.seq (CW.reg ?_)
    refine WL.ev rfl rfl (Ev.as rfl rfl) (WL.nil ?_)
    refine CW.ret ?_
    obtain rfl := sm hr
    exact ⟨_, res1 rfl rfl rfl, H.chg, _, _, _, rfl, H.outM (fr' := []) [true, true, false] fun _ _ => trivial⟩

noncomputable def ieveryNode_1_m (rec_ieveryNode_iAttributeUses_1 : Expr → (List Occurrence) → Option (Bool × (List Occurrence))) (a0 : Expr) (o1 : (List Occurrence)) : Option (Bool × (List Occurrence)) :=
  (rec_ieveryNode_iAttributeUses_1 a0 o1).bind fun (y1, z1) =>
  some (!y1, z1)
theorem ieveryNode_1_ok {rec_ieveryNode_iAttributeUses_1 : Expr → (List Occurrence) → Option (Bool × (List Occurrence))} (ih_ieveryNode_iAttributeUses_1 : ∀ {a0 : Expr} {o1 : (List Occurrence)} {r : (Bool × (List Occurrence))}, rec_ieveryNode_iAttributeUses_1 a0 o1 = some r → ∀ {F0 : Nat → Prop} {M : List Nat} {w0 : World} {bo1 : Nat} {Aa0_6 : Option Addr} {na0_6 ca0_6 : Nat} {Ao1_0 : Option Addr} {no1_0 co1_0 : Nat} (hIa0_0 : I64 a0.Kind) (hIa0_1 : I64 a0.N) (hIa0_2 : I64 a0.Pos) (hIa0_3 : I64 a0.Type_) (hIa0_4 : a0.Symbol.size ≤ 9223372036854775807) (hIa0_5 : a0.Name.size ≤ 9223372036854775807) (H : HL F0 M w0 w0 [Pr.S a0.Args (.slice Aa0_6 na0_6 ca0_6)] [It.O 48 o1 (.slice Ao1_0 no1_0 co1_0), It.B bo1 33 [.slice Ao1_0 no1_0 co1_0]]), Ret Try.prog 100 #[.agg #[.int .i64 a0.Kind, .int .i64 a0.N, .int .i64 a0.Pos, .int .i64 a0.Type_, .string a0.Symbol, .string a0.Name, .slice Aa0_6 na0_6 ca0_6], .func (.func 138) #[] #[.pointer (some ⟨bo1, 0, none⟩)]] w0 (· ∈ M) fun v w => ∃ A0 : Option Addr, ∃ n0 c0 : Nat, v = .bool r.1 ∧ HL F0 M w0 w [] [It.O 48 r.2 (.slice A0 n0 c0), It.B bo1 33 [(.slice A0 n0 c0)]]) {a0 : Expr} {o1 : (List Occurrence)} {r : (Bool × (List Occurrence))} (hr : ieveryNode_1_m rec_ieveryNode_iAttributeUses_1 a0 o1 = some r) {F0 : Nat → Prop} {M : List Nat} {w0 : World} {bo1 : Nat} {bo2 : Nat} {Aa0_6 : Option Addr} {na0_6 ca0_6 : Nat} {Ao1_0 : Option Addr} {no1_0 co1_0 : Nat} (hIa0_0 : I64 a0.Kind) (hIa0_1 : I64 a0.N) (hIa0_2 : I64 a0.Pos) (hIa0_3 : I64 a0.Type_) (hIa0_4 : a0.Symbol.size ≤ 9223372036854775807) (hIa0_5 : a0.Name.size ≤ 9223372036854775807) (H : HL F0 M w0 w0 [Pr.S a0.Args (.slice Aa0_6 na0_6 ca0_6)] [It.O 48 o1 (.slice Ao1_0 no1_0 co1_0), It.B bo1 33 [.slice Ao1_0 no1_0 co1_0], It.B bo2 51 [.func (.func 138) #[] #[.pointer (some ⟨bo1, 0, none⟩)]]]) :
    Ret Try.prog 156 #[.agg #[.int .i64 a0.Kind, .int .i64 a0.N, .int .i64 a0.Pos, .int .i64 a0.Type_, .string a0.Symbol, .string a0.Name, .slice Aa0_6 na0_6 ca0_6], .pointer (some ⟨bo2, 0, none⟩)] w0 (· ∈ M) fun v w => ∃ A0 : Option Addr, ∃ n0 c0 : Nat, v = .bool r.1 ∧ HL F0 M w0 w [] [It.O 48 r.2 (.slice A0 n0 c0), It.B bo1 33 [(.slice A0 n0 c0)], It.B bo2 51 [.func (.func 138) #[] #[.pointer (some ⟨bo1, 0, none⟩)]]] := by
  refine enter Try.func156 rfl rfl rfl ?_
  refine CW.seq (CW.reg ?_)
  refine WL.boxH rfl rfl rfl rfl rfl H fun b1 w1 H => ?_
  refine WL.ev rfl rfl (Ev.as rfl rfl) (WL.nil ?_)
  refine CW.seq (CW.reg ?_)
  refine WL.ev rfl rfl (Ev.lda rfl ag31 sz31 rfl (At.blk (H.rB (i := 3) rfl)) rfl) (WL.ev rfl rfl (Ev.ld rfl ag51 rfl ((H.rB (i := 2) rfl).cell rfl)) ?_)
  obtain ⟨⟨y1, z1⟩, hy1, hr⟩ := bd hr
  obtain ⟨F', M', hfF, hoF, hcM⟩ := H.callN [true, true, false, false] ⟨noO, noB, trivial⟩
  obtain ⟨H', hcN⟩ := hcM (ps := [Pr.S a0.Args (.slice Aa0_6 na0_6 ca0_6)]) ⟨hfF.get (i := 0) rfl, trivial⟩
  refine WL.call rfl rfl rfl rfl rfl ok100 rfl (ih_ieveryNode_iAttributeUses_1 hy1 hIa0_0 hIa0_1 hIa0_2 hIa0_3 hIa0_4 hIa0_5 H') ?_
  rintro _ w2 hE ⟨A1, n1, c1, rfl, H'⟩
  have H := hcN 2 H' rfl ⟨fun _ _ _ _ _ h => h, ⟨fun _ _ _ _ _ h => h, trivial⟩⟩
  refine WL.ev rfl rfl (Ev.not rfl rfl) (WL.ev rfl rfl (Ev.as rfl rfl) (WL.nil ?_))
  refine CW.ret ?_
  obtain rfl := sm hr
  exact ⟨_, res1 rfl rfl rfl, H.chg, _, _, _, rfl, H.outM (fr' := []) [true, true, true, false] fun _ _ => trivial⟩

noncomputable def slices_IndexFunc_Expr_ieveryNode_1_L1 (rec_ieveryNode_iAttributeUses_1 : Expr → (List Occurrence) → Option (Bool × (List Occurrence))) : Nat → Expr → (List Occurrence) → Option (((List Occurrence)) ⊕ (Int × (List Occurrence))) := fun k1 x1 s1 => 
  (ieveryNode_1_m rec_ieveryNode_iAttributeUses_1 x1 s1).bind fun (y1, z2) =>
  if y1 = true then (
  some (.inr ((k1 : Int), z2))
  ) else (
  some (.inl z2)
  )
noncomputable def slices_IndexFunc_Expr_ieveryNode_1_m (rec_ieveryNode_iAttributeUses_1 : Expr → (List Occurrence) → Option (Bool × (List Occurrence))) (a0 : (List Expr)) (o1 : (List Occurrence)) : Option (Int × (List Occurrence)) :=
  (findL (slices_IndexFunc_Expr_ieveryNode_1_L1 rec_ieveryNode_iAttributeUses_1) 0 a0 o1).bind <| onr (fun r1 => some r1) fun s1 =>
  some ((-1), s1)
theorem slices_IndexFunc_Expr_ieveryNode_1_ok {rec_ieveryNode_iAttributeUses_1 : Expr → (List Occurrence) → Option (Bool × (List Occurrence))} (ih_ieveryNode_iAttributeUses_1 : ∀ {a0 : Expr} {o1 : (List Occurrence)} {r : (Bool × (List Occurrence))}, rec_ieveryNode_iAttributeUses_1 a0 o1 = some r → ∀ {F0 : Nat → Prop} {M : List Nat} {w0 : World} {bo1 : Nat} {Aa0_6 : Option Addr} {na0_6 ca0_6 : Nat} {Ao1_0 : Option Addr} {no1_0 co1_0 : Nat} (hIa0_0 : I64 a0.Kind) (hIa0_1 : I64 a0.N) (hIa0_2 : I64 a0.Pos) (hIa0_3 : I64 a0.Type_) (hIa0_4 : a0.Symbol.size ≤ 9223372036854775807) (hIa0_5 : a0.Name.size ≤ 9223372036854775807) (H : HL F0 M w0 w0 [Pr.S a0.Args (.slice Aa0_6 na0_6 ca0_6)] [It.O 48 o1 (.slice Ao1_0 no1_0 co1_0), It.B bo1 33 [.slice Ao1_0 no1_0 co1_0]]), Ret Try.prog 100 #[.agg #[.int .i64 a0.Kind, .int .i64 a0.N, .int .i64 a0.Pos, .int .i64 a0.Type_, .string a0.Symbol, .string a0.Name, .slice Aa0_6 na0_6 ca0_6], .func (.func 138) #[] #[.pointer (some ⟨bo1, 0, none⟩)]] w0 (· ∈ M) fun v w => ∃ A0 : Option Addr, ∃ n0 c0 : Nat, v = .bool r.1 ∧ HL F0 M w0 w [] [It.O 48 r.2 (.slice A0 n0 c0), It.B bo1 33 [(.slice A0 n0 c0)]]) {a0 : (List Expr)} {o1 : (List Occurrence)} {r : (Int × (List Occurrence))} (hr : slices_IndexFunc_Expr_ieveryNode_1_m rec_ieveryNode_iAttributeUses_1 a0 o1 = some r) {F0 : Nat → Prop} {M : List Nat} {w0 : World} {bo1 : Nat} {bo2 : Nat} {Aa0 : Option Addr} {na0 ca0 : Nat} {Ao1_0 : Option Addr} {no1_0 co1_0 : Nat} (H : HL F0 M w0 w0 [Pr.S a0 (.slice Aa0 na0 ca0)] [It.O 48 o1 (.slice Ao1_0 no1_0 co1_0), It.B bo1 33 [.slice Ao1_0 no1_0 co1_0], It.B bo2 51 [.func (.func 138) #[] #[.pointer (some ⟨bo1, 0, none⟩)]]]) :
    Ret Try.prog 185 #[.slice Aa0 na0 ca0, .func (.func 156) #[] #[.pointer (some ⟨bo2, 0, none⟩)]] w0 (· ∈ M) fun v w => ∃ A0 : Option Addr, ∃ n0 c0 : Nat, v = .int .i64 r.1 ∧ I64 r.1 ∧ HL F0 M w0 w [] [It.O 48 r.2 (.slice A0 n0 c0), It.B bo1 33 [(.slice A0 n0 c0)], It.B bo2 51 [.func (.func 138) #[] #[.pointer (some ⟨bo1, 0, none⟩)]]] := by
  refine enter Try.func185 rfl rfl rfl ?_
  refine CW.seq (CW.reg ?_)
  refine WL.ev rfl rfl (Ev.as rfl rfl) (WL.nil ?_)
  refine CW.seq (CW.seq (CW.reg ?_))
  refine WL.ev rfl rfl (Ev.mv rfl rfl) ?_
  have hl1 := (H.rS (i := 0) rfl).I
  refine WL.ev rfl rfl (Ev.lenV rfl el29 rfl (H.rS (i := 0) rfl)) (WL.ev rfl rfl (Ev.mv rfl rfl) (WL.nil ?_))
  obtain ⟨q1, hq1, hr⟩ := bd hr
  refine CW.block (CW.loop (α := Nat × (List Occurrence) × Value) (fun ⟨k1, s1, v1⟩ => [(0, .slice Aa0 na0 ca0), (1, .func (.func 156) #[] #[.pointer (some ⟨bo2, 0, none⟩)]), (7, .int .i64 (a0.length : Int)), (8, .int .i64 (k1 : Int))]) (fun ⟨k1, s1, v1⟩ w => k1 ≤ a0.length ∧ findL (slices_IndexFunc_Expr_ieveryNode_1_L1 rec_ieveryNode_iAttributeUses_1) k1 (a0.drop k1) s1 = some q1 ∧ HL F0 M w0 w [Pr.S a0 (.slice Aa0 na0 ca0)] [It.O 48 s1 v1, It.B bo1 33 [v1], It.B bo2 51 [.func (.func 138) #[] #[.pointer (some ⟨bo1, 0, none⟩)]]]) (fun ⟨k1, s1, v1⟩ => a0.length - k1) ⟨0, o1, (.slice Ao1_0 no1_0 co1_0)⟩ ⟨rfl, rfl, rfl, rfl, trivial⟩ ⟨Nat.zero_le _, hq1, H.keep 1 3⟩ ?_)
  rintro ⟨k1, s1, v1⟩ σ w1 ⟨hk1, hq1, H⟩
  obtain ⟨A1, n1, c1, rfl⟩ := (H.rO (i := 0) rfl).form3
  refine CW.seq (CW.reg ?_)
  refine WL.ev rfl rfl (Ev.bin rfl rfl rfl Bin.lss) (WL.nil ?_)
  refine CW.seq (CW.condD rfl (fun h1 => ?_) (fun h1 => ?_))
  · skip
    have hk2 := cast_lt h1
    obtain ⟨x1, z1, hx1, hb1, hs1, ht1⟩ := findL_go hq1 hk2
    refine CW.skip ?_
    refine CW.seq (CW.block (CW.seq (CW.reg ?_)))
    refine WL.ev rfl rfl (Ev.mv rfl rfl) (WL.ev rfl rfl (Ev.as rfl rfl) (WL.nil ?_))
    refine CW.seq (CW.reg ?_)
    refine WL.ev rfl rfl (Ev.mv rfl rfl) (WL.ev rfl rfl (Ev.mv rfl rfl) (WL.ev rfl rfl (Ev.mv rfl rfl) ?_))
    obtain ⟨b1, ob1, cb1, A2, n2, c2, hvb1, hI1, hI2, hI3, hI4, hS1, hS2, H⟩ := ixS_Expr H (i := 0) rfl hx1
    refine WL.ev rfl rfl (Ev.ixVN rfl el29 sz31 rfl hvb1 rfl (lt_of hx1)) (WL.ev rfl rfl (Ev.lda rfl ag31 sz31 rfl (H.rA (i := 1) rfl) rfl) ?_)
    obtain ⟨⟨y1, z2⟩, hy1, hb1⟩ := bd hb1
    obtain ⟨F', M', hfF, hoF, hcM⟩ := H.callN [true, true, true] ⟨noO, noB, noB, trivial⟩
    obtain ⟨H', hcN⟩ := hcM (ps := [Pr.S x1.Args (.slice A2 n2 c2)]) ⟨hfF.get (i := 3) rfl, trivial⟩
    refine WL.call rfl rfl rfl rfl rfl ok156 rfl (ieveryNode_1_ok ih_ieveryNode_iAttributeUses_1 hy1 hI1 hI2 hI3 hI4 hS1 hS2 H') ?_
    rintro _ w2 hE ⟨A3, n3, c3, rfl, H'⟩
    have H := hcN 3 H' rfl ⟨fun _ _ _ _ _ h => h, ⟨fun _ _ _ _ _ h => h, ⟨fun _ _ _ _ _ h => h, trivial⟩⟩⟩
    refine WL.nil ?_
    refine CW.condB rfl (fun h2 => ?_) (fun h2 => ?_)
    · skip
      have hb1 := ifp h2 hb1
      refine CW.seq (CW.reg ?_)
      refine WL.ev rfl rfl (Ev.mv rfl rfl) (WL.ev rfl rfl (Ev.as rfl rfl) (WL.nil ?_))
      refine CW.ret ?_
      obtain rfl := sm hb1
      obtain rfl := ht1 _ rfl
      obtain rfl := sm hr
      exact ⟨_, res1 rfl rfl rfl, H.chg, _, _, _, rfl, (i64_nat hk2 hl1), H.outM (fr' := []) [true, true, true] fun _ _ => trivial⟩
    · skip
      have hb1 := ifn h2 hb1
      refine CW.skip ?_
      refine CW.reg ?_
      refine WL.ev rfl rfl (Ev.bin rfl rfl rfl (Bin.addN (a := k1) (b := 1) rfl (i64_succN hk2 hl1.2))) (WL.ev rfl rfl (Ev.mv rfl rfl) (WL.nil ?_))
      obtain rfl := sm hb1
      have hq1 := hs1 _ rfl
      exact ⟨⟨k1 + 1, z2, (.slice A3 n3 c3)⟩, ⟨rfl, rfl, rfl, rfl, trivial⟩, ⟨hk2, hq1, H.keep 1 3⟩, Nat.sub_lt_sub_left hk2 (Nat.lt_succ_self _)⟩
  · skip
    obtain rfl := findL_end hq1 (not_cast_lt h1)
    refine CW.exit ?_
    refine CW.seq (CW.reg ?_)
    refine WL.ev rfl rfl (Ev.as rfl rfl) (WL.nil ?_)
    refine CW.ret ?_
    obtain rfl := sm hr
    exact ⟨_, res1 rfl rfl rfl, H.chg, _, _, _, rfl, (by decide : I64 (-1)), H.outM (fr' := []) [true, true, true] fun _ _ => trivial⟩

noncomputable def slices_ContainsFunc_Expr_ieveryNode_1_m (rec_ieveryNode_iAttributeUses_1 : Expr → (List Occurrence) → Option (Bool × (List Occurrence))) (a0 : (List Expr)) (o1 : (List Occurrence)) : Option (Bool × (List Occurrence)) :=
  (slices_IndexFunc_Expr_ieveryNode_1_m rec_ieveryNode_iAttributeUses_1 a0 o1).bind fun (y1, z1) =>
  some (decide (0 ≤ y1), z1)
theorem slices_ContainsFunc_Expr_ieveryNode_1_ok {rec_ieveryNode_iAttributeUses_1 : Expr → (List Occurrence) → Option (Bool × (List Occurrence))} (ih_ieveryNode_iAttributeUses_1 : ∀ {a0 : Expr} {o1 : (List Occurrence)} {r : (Bool × (List Occurrence))}, rec_ieveryNode_iAttributeUses_1 a0 o1 = some r → ∀ {F0 : Nat → Prop} {M : List Nat} {w0 : World} {bo1 : Nat} {Aa0_6 : Option Addr} {na0_6 ca0_6 : Nat} {Ao1_0 : Option Addr} {no1_0 co1_0 : Nat} (hIa0_0 : I64 a0.Kind) (hIa0_1 : I64 a0.N) (hIa0_2 : I64 a0.Pos) (hIa0_3 : I64 a0.Type_) (hIa0_4 : a0.Symbol.size ≤ 9223372036854775807) (hIa0_5 : a0.Name.size ≤ 9223372036854775807) (H : HL F0 M w0 w0 [Pr.S a0.Args (.slice Aa0_6 na0_6 ca0_6)] [It.O 48 o1 (.slice Ao1_0 no1_0 co1_0), It.B bo1 33 [.slice Ao1_0 no1_0 co1_0]]), Ret Try.prog 100 #[.agg #[.int .i64 a0.Kind, .int .i64 a0.N, .int .i64 a0.Pos, .int .i64 a0.Type_, .string a0.Symbol, .string a0.Name, .slice Aa0_6 na0_6 ca0_6], .func (.func 138) #[] #[.pointer (some ⟨bo1, 0, none⟩)]] w0 (· ∈ M) fun v w => ∃ A0 : Option Addr, ∃ n0 c0 : Nat, v = .bool r.1 ∧ HL F0 M w0 w [] [It.O 48 r.2 (.slice A0 n0 c0), It.B bo1 33 [(.slice A0 n0 c0)]]) {a0 : (List Expr)} {o1 : (List Occurrence)} {r : (Bool × (List Occurrence))} (hr : slices_ContainsFunc_Expr_ieveryNode_1_m rec_ieveryNode_iAttributeUses_1 a0 o1 = some r) {F0 : Nat → Prop} {M : List Nat} {w0 : World} {bo1 : Nat} {bo2 : Nat} {Aa0 : Option Addr} {na0 ca0 : Nat} {Ao1_0 : Option Addr} {no1_0 co1_0 : Nat} (H : HL F0 M w0 w0 [Pr.S a0 (.slice Aa0 na0 ca0)] [It.O 48 o1 (.slice Ao1_0 no1_0 co1_0), It.B bo1 33 [.slice Ao1_0 no1_0 co1_0], It.B bo2 51 [.func (.func 138) #[] #[.pointer (some ⟨bo1, 0, none⟩)]]]) :
    Ret Try.prog 155 #[.slice Aa0 na0 ca0, .func (.func 156) #[] #[.pointer (some ⟨bo2, 0, none⟩)]] w0 (· ∈ M) fun v w => ∃ A0 : Option Addr, ∃ n0 c0 : Nat, v = .bool r.1 ∧ HL F0 M w0 w [] [It.O 48 r.2 (.slice A0 n0 c0), It.B bo1 33 [(.slice A0 n0 c0)], It.B bo2 51 [.func (.func 138) #[] #[.pointer (some ⟨bo1, 0, none⟩)]]] := by
  refine enter Try.func155 rfl rfl rfl ?_
  refine CW.seq (CW.reg ?_)
  refine WL.ev rfl rfl (Ev.as rfl rfl) (WL.nil ?_)
  refine CW.seq (CW.reg ?_)
  refine WL.ev rfl rfl (Ev.mv rfl rfl) (WL.ev rfl rfl (Ev.mv rfl rfl) ?_)
  obtain ⟨⟨y1, z1⟩, hy1, hr⟩ := bd hr
  obtain ⟨F', M', hfF, hoF, hcM⟩ := H.callN [true, true, true] ⟨noO, noB, noB, trivial⟩
  obtain ⟨H', hcN⟩ := hcM (ps := [Pr.S a0 (.slice Aa0 na0 ca0)]) ⟨hfF.get (i := 0) rfl, trivial⟩
  refine WL.call rfl rfl rfl rfl rfl ok185 rfl (slices_IndexFunc_Expr_ieveryNode_1_ok ih_ieveryNode_iAttributeUses_1 hy1 H') ?_
  rintro _ w1 hE ⟨A1, n1, c1, rfl, hI1, H'⟩
  have H := hcN 3 H' rfl ⟨fun _ _ _ _ _ h => h, ⟨fun _ _ _ _ _ h => h, ⟨fun _ _ _ _ _ h => h, trivial⟩⟩⟩
  refine WL.ev rfl rfl (Ev.bin rfl rfl rfl Bin.geq) (WL.ev rfl rfl (Ev.as rfl rfl) (WL.nil ?_))
  refine CW.ret ?_
  obtain rfl := sm hr
  exact ⟨_, res1 rfl rfl rfl, H.chg, _, _, _, rfl, H.outM (fr' := []) [true, true, true] fun _ _ => trivial⟩

noncomputable def ieveryNode_iAttributeUses_1_B (rec_ieveryNode_iAttributeUses_1 : Expr → (List Occurrence) → Option (Bool × (List Occurrence))) (a0 : Expr) (o1 : (List Occurrence)) : Option (Bool × (List Occurrence)) :=
  (iAttributeUses_1_m a0 o1).bind fun (y1, z1) =>
  if y1 = true then (
  (slices_ContainsFunc_Expr_ieveryNode_1_m rec_ieveryNode_iAttributeUses_1 a0.Args z1).bind fun (y2, z2) =>
  some (!y2, z2)
  ) else (
  some (false, z1)
  )
theorem ieveryNode_iAttributeUses_1_okB {rec_ieveryNode_iAttributeUses_1 : Expr → (List Occurrence) → Option (Bool × (List Occurrence))} (ih_ieveryNode_iAttributeUses_1 : ∀ {a0 : Expr} {o1 : (List Occurrence)} {r : (Bool × (List Occurrence))}, rec_ieveryNode_iAttributeUses_1 a0 o1 = some r → ∀ {F0 : Nat → Prop} {M : List Nat} {w0 : World} {bo1 : Nat} {Aa0_6 : Option Addr} {na0_6 ca0_6 : Nat} {Ao1_0 : Option Addr} {no1_0 co1_0 : Nat} (hIa0_0 : I64 a0.Kind) (hIa0_1 : I64 a0.N) (hIa0_2 : I64 a0.Pos) (hIa0_3 : I64 a0.Type_) (hIa0_4 : a0.Symbol.size ≤ 9223372036854775807) (hIa0_5 : a0.Name.size ≤ 9223372036854775807) (H : HL F0 M w0 w0 [Pr.S a0.Args (.slice Aa0_6 na0_6 ca0_6)] [It.O 48 o1 (.slice Ao1_0 no1_0 co1_0), It.B bo1 33 [.slice Ao1_0 no1_0 co1_0]]), Ret Try.prog 100 #[.agg #[.int .i64 a0.Kind, .int .i64 a0.N, .int .i64 a0.Pos, .int .i64 a0.Type_, .string a0.Symbol, .string a0.Name, .slice Aa0_6 na0_6 ca0_6], .func (.func 138) #[] #[.pointer (some ⟨bo1, 0, none⟩)]] w0 (· ∈ M) fun v w => ∃ A0 : Option Addr, ∃ n0 c0 : Nat, v = .bool r.1 ∧ HL F0 M w0 w [] [It.O 48 r.2 (.slice A0 n0 c0), It.B bo1 33 [(.slice A0 n0 c0)]]) {a0 : Expr} {o1 : (List Occurrence)} {r : (Bool × (List Occurrence))} (hr : ieveryNode_iAttributeUses_1_B rec_ieveryNode_iAttributeUses_1 a0 o1 = some r) {F0 : Nat → Prop} {M : List Nat} {w0 : World} {bo1 : Nat} {Aa0_6 : Option Addr} {na0_6 ca0_6 : Nat} {Ao1_0 : Option Addr} {no1_0 co1_0 : Nat} (hIa0_0 : I64 a0.Kind) (hIa0_1 : I64 a0.N) (hIa0_2 : I64 a0.Pos) (hIa0_3 : I64 a0.Type_) (hIa0_4 : a0.Symbol.size ≤ 9223372036854775807) (hIa0_5 : a0.Name.size ≤ 9223372036854775807) (H : HL F0 M w0 w0 [Pr.S a0.Args (.slice Aa0_6 na0_6 ca0_6)] [It.O 48 o1 (.slice Ao1_0 no1_0 co1_0), It.B bo1 33 [.slice Ao1_0 no1_0 co1_0]]) :
    Ret Try.prog 100 #[.agg #[.int .i64 a0.Kind, .int .i64 a0.N, .int .i64 a0.Pos, .int .i64 a0.Type_, .string a0.Symbol, .string a0.Name, .slice Aa0_6 na0_6 ca0_6], .func (.func 138) #[] #[.pointer (some ⟨bo1, 0, none⟩)]] w0 (· ∈ M) fun v w => ∃ A0 : Option Addr, ∃ n0 c0 : Nat, v = .bool r.1 ∧ HL F0 M w0 w [] [It.O 48 r.2 (.slice A0 n0 c0), It.B bo1 33 [(.slice A0 n0 c0)]] := by
  refine enter Try.func100 rfl rfl rfl ?_
  refine CW.seq (CW.reg ?_)
  refine WL.boxH rfl rfl rfl rfl rfl H fun b1 w1 H => ?_
  refine WL.boxH rfl rfl rfl rfl rfl H fun b2 w2 H => ?_
  refine WL.ev rfl rfl (Ev.as rfl rfl) (WL.nil ?_)
  refine CW.seq (CW.reg ?_)
  refine WL.ev rfl rfl (Ev.ld rfl ag51 rfl ((H.rB (i := 3) rfl).cell rfl)) (WL.ev rfl rfl (Ev.lda rfl ag31 sz31 rfl (At.blk (H.rB (i := 2) rfl)) rfl) ?_)
  obtain ⟨⟨y1, z1⟩, hy1, hr⟩ := bd hr
  obtain ⟨F', M', hfF, hoF, hcM⟩ := H.callN [true, true, false, false] ⟨noO, noB, trivial⟩
  obtain ⟨H', hcN⟩ := hcM (ps := [Pr.S a0.Args (.slice Aa0_6 na0_6 ca0_6)]) ⟨hfF.get (i := 0) rfl, trivial⟩
  refine WL.call rfl rfl rfl rfl rfl ok138 rfl (iAttributeUses_1_ok hy1 hIa0_0 hIa0_1 hIa0_2 hIa0_3 hIa0_4 hIa0_5 H') ?_
  rintro _ w3 hE ⟨A1, n1, c1, rfl, H'⟩
  have H := hcN 2 H' rfl ⟨fun _ _ _ _ _ h => h, ⟨fun _ _ _ _ _ h => h, trivial⟩⟩
  refine WL.mvB rfl rfl rfl rfl (fun h1 => ?_) (fun h1 => ?_)
  · skip
    have hr := ifp h1 hr
    refine WL.on rfl rfl (WL.ev rfl rfl (Ev.fa rfl fo31_6 rfl) (WL.on rfl rfl (WL.ev rfl rfl (Ev.ld rfl ag29 rfl ((H.rB (i := 2) rfl).cell rfl)) (WL.on rfl rfl (WL.ev rfl rfl (Ev.mkfL rfl rfl rfl) (WL.on rfl rfl ?_))))))
    obtain ⟨⟨y2, z2⟩, hy2, hr⟩ := bd hr
    obtain ⟨F', M', hfF, hoF, hcM⟩ := H.callN [true, true, false, true] ⟨noO, noB, noB, trivial⟩
    obtain ⟨H', hcN⟩ := hcM (ps := [Pr.S a0.Args (.slice Aa0_6 na0_6 ca0_6)]) ⟨hfF.get (i := 0) rfl, trivial⟩
    refine WL.call rfl rfl rfl rfl rfl ok155 rfl (slices_ContainsFunc_Expr_ieveryNode_1_ok ih_ieveryNode_iAttributeUses_1 hy2 H') ?_
    rintro _ w4 hE ⟨A2, n2, c2, rfl, H'⟩
    have H := hcN 3 H' rfl ⟨fun _ _ _ _ _ h => h, ⟨fun _ _ _ _ _ h => h, ⟨fun _ _ _ _ _ h => h, trivial⟩⟩⟩
    refine WL.on rfl rfl (WL.ev rfl rfl (Ev.not rfl rfl) (WL.ev rfl rfl (Ev.pickT rfl rfl rfl) (WL.ev rfl rfl (Ev.as rfl rfl) (WL.nil ?_))))
    refine CW.ret ?_
    obtain rfl := sm hr
    exact ⟨_, res1 rfl rfl rfl, H.chg, _, _, _, rfl, H.outM (fr' := []) [true, true, false, false] fun _ _ => trivial⟩
  · skip
    have hr := ifn h1 hr
    refine WL.off rfl rfl rfl (WL.off rfl rfl rfl (WL.off rfl rfl rfl (WL.off rfl rfl rfl (WL.off rfl rfl rfl (WL.ev rfl rfl (Ev.pickF rfl rfl rfl) (WL.ev rfl rfl (Ev.as rfl rfl) (WL.nil ?_)))))))
    refine CW.ret ?_
    obtain rfl := sm hr
    exact ⟨_, res1 rfl rfl rfl, H.chg, _, _, _, rfl, H.outM (fr' := []) [true, true, false, false] fun _ _ => trivial⟩
noncomputable def ieveryNode_iAttributeUses_1_n : Nat → Expr → (List Occurrence) → Option (Bool × (List Occurrence))
  | 0, _, _ => none
  | n + 1, a0, o1 => ieveryNode_iAttributeUses_1_B (ieveryNode_iAttributeUses_1_n n) a0 o1
noncomputable def ieveryNode_iAttributeUses_1_m (a0 : Expr) (o1 : (List Occurrence)) : Option (Bool × (List Occurrence)) := recO fun n => ieveryNode_iAttributeUses_1_n n a0 o1
theorem ieveryNode_iAttributeUses_1_okn (n : Nat) : ∀ {a0 : Expr} {o1 : (List Occurrence)} {r : (Bool × (List Occurrence))}, ieveryNode_iAttributeUses_1_n n a0 o1 = some r → ∀ {F0 : Nat → Prop} {M : List Nat} {w0 : World} {bo1 : Nat} {Aa0_6 : Option Addr} {na0_6 ca0_6 : Nat} {Ao1_0 : Option Addr} {no1_0 co1_0 : Nat} (hIa0_0 : I64 a0.Kind) (hIa0_1 : I64 a0.N) (hIa0_2 : I64 a0.Pos) (hIa0_3 : I64 a0.Type_) (hIa0_4 : a0.Symbol.size ≤ 9223372036854775807) (hIa0_5 : a0.Name.size ≤ 9223372036854775807) (H : HL F0 M w0 w0 [Pr.S a0.Args (.slice Aa0_6 na0_6 ca0_6)] [It.O 48 o1 (.slice Ao1_0 no1_0 co1_0), It.B bo1 33 [.slice Ao1_0 no1_0 co1_0]]), Ret Try.prog 100 #[.agg #[.int .i64 a0.Kind, .int .i64 a0.N, .int .i64 a0.Pos, .int .i64 a0.Type_, .string a0.Symbol, .string a0.Name, .slice Aa0_6 na0_6 ca0_6], .func (.func 138) #[] #[.pointer (some ⟨bo1, 0, none⟩)]] w0 (· ∈ M) fun v w => ∃ A0 : Option Addr, ∃ n0 c0 : Nat, v = .bool r.1 ∧ HL F0 M w0 w [] [It.O 48 r.2 (.slice A0 n0 c0), It.B bo1 33 [(.slice A0 n0 c0)]] := by
  induction n with
  | zero => intro a0 o1 r hr; exact nomatch (show (none : Option (Bool × (List Occurrence))) = some r from hr)
  | succ n ih => intro a0 o1 r hr; exact ieveryNode_iAttributeUses_1_okB ih hr
theorem ieveryNode_iAttributeUses_1_ok {a0 : Expr} {o1 : (List Occurrence)} {r : (Bool × (List Occurrence))} (hr : ieveryNode_iAttributeUses_1_m a0 o1 = some r) {F0 : Nat → Prop} {M : List Nat} {w0 : World} {bo1 : Nat} {Aa0_6 : Option Addr} {na0_6 ca0_6 : Nat} {Ao1_0 : Option Addr} {no1_0 co1_0 : Nat} (hIa0_0 : I64 a0.Kind) (hIa0_1 : I64 a0.N) (hIa0_2 : I64 a0.Pos) (hIa0_3 : I64 a0.Type_) (hIa0_4 : a0.Symbol.size ≤ 9223372036854775807) (hIa0_5 : a0.Name.size ≤ 9223372036854775807) (H : HL F0 M w0 w0 [Pr.S a0.Args (.slice Aa0_6 na0_6 ca0_6)] [It.O 48 o1 (.slice Ao1_0 no1_0 co1_0), It.B bo1 33 [.slice Ao1_0 no1_0 co1_0]]) :
    Ret Try.prog 100 #[.agg #[.int .i64 a0.Kind, .int .i64 a0.N, .int .i64 a0.Pos, .int .i64 a0.Type_, .string a0.Symbol, .string a0.Name, .slice Aa0_6 na0_6 ca0_6], .func (.func 138) #[] #[.pointer (some ⟨bo1, 0, none⟩)]] w0 (· ∈ M) fun v w => ∃ A0 : Option Addr, ∃ n0 c0 : Nat, v = .bool r.1 ∧ HL F0 M w0 w [] [It.O 48 r.2 (.slice A0 n0 c0), It.B bo1 33 [(.slice A0 n0 c0)]] := by
  obtain ⟨n, hn⟩ := recO_some hr
  exact ieveryNode_iAttributeUses_1_okn n hn hIa0_0 hIa0_1 hIa0_2 hIa0_3 hIa0_4 hIa0_5 H

noncomputable def slices_SortFunc_Occurrence_m (a0 : (List Occurrence)) : Option (List Occurrence) :=
  grd (a0.length < 4611686018427387904) <|
  some (sortO a0)
theorem slices_SortFunc_Occurrence_ok {a0 : (List Occurrence)} {r : (List Occurrence)} (hr : slices_SortFunc_Occurrence_m a0 = some r) {F0 : Nat → Prop} {M : List Nat} {w0 : World} {A0 : Option Addr} {n0 c0 : Nat} (H : HL F0 M w0 w0 [] [It.O 48 a0 (.slice A0 n0 c0)]) :
    Ret Try.prog 139 #[.slice A0 n0 c0, .func (.func 140) #[] #[]] w0 (· ∈ M) fun v w => v = .tuple #[] ∧ HL F0 M w0 w [] [It.O 48 r (.slice A0 n0 c0)] := by
  obtain ⟨hg, hr⟩ := grd_some hr
  obtain rfl := sm hr
  exact sort_row hg H

noncomputable def slices_Compact_Occurrence_L2 (s1 : Int) : ((List Occurrence) × Int × Int) → Option (((List Occurrence) × Int × Int) ⊕ ((List Occurrence) × Int)) := fun (s4, s5, s6) => 
  if s6 < ((s4.drop s1.toNat).length : Int) then (
  (
  grd (0 ≤ s6) <|
  (s4[(s1.toNat + s6.toNat)]?).bind fun x3 =>
  grd (I64 (s6 - 1)) <|
  grd (0 ≤ (s6 - 1)) <|
  (s4[(s1.toNat + ((s6 - 1).toNat))]?).bind fun x4 =>
  if x3 = x4 then (
  some (s5, s4)
  ) else (
  grd (0 ≤ s6) <|
  grd (0 ≤ s5) <|
  (s4[s5.toNat]?).bind fun x5 =>
  grd (I64 (s5 + 1)) <|
  some ((s5 + 1), (List.set s4 s5.toNat x3))
  )
  ).bind fun (s7, s8) =>
  grd (I64 (s6 + 1)) <|
  some (.inl (s8, s7, (s6 + 1)))
  ) else (
  some (.inr (s4, s5))
  )
noncomputable def slices_Compact_Occurrence_L1 (a0 : (List Occurrence)) : Int → Option (Int ⊕ (Unit ⊕ (List Occurrence))) := fun s1 => 
  if s1 < (a0.length : Int) then (
  grd (0 ≤ s1) <|
  (a0[s1.toNat]?).bind fun x1 =>
  grd (I64 (s1 - 1)) <|
  grd (0 ≤ (s1 - 1)) <|
  (a0[(s1 - 1).toNat]?).bind fun x2 =>
  if x1 = x2 then (
  grd (0 ≤ s1) <|
  grd (s1.toNat ≤ a0.length) <|
  (
  iterO (slices_Compact_Occurrence_L2 s1) (a0, s1, 1)
  ).bind fun (s2, s3) =>
  grd (0 ≤ s3) <|
  grd (s3.toNat ≤ s2.length) <|
  grd (0 ≤ s3) <|
  grd (s3.toNat ≤ (s2.take s3.toNat ++ List.replicate (s2.length - s3.toNat) (⟨(0 : Int), (⟨#[]⟩ : ByteArray)⟩ : Occurrence)).length) <|
  some (.inr (.inr ((s2.take s3.toNat ++ List.replicate (s2.length - s3.toNat) (⟨(0 : Int), (⟨#[]⟩ : ByteArray)⟩ : Occurrence)).take s3.toNat)))
  ) else (
  grd (I64 (s1 + 1)) <|
  some (.inl (s1 + 1))
  )
  ) else (
  some (.inr (.inl ()))
  )
noncomputable def slices_Compact_Occurrence_m (a0 : (List Occurrence)) : Option (List Occurrence) :=
  if (a0.length : Int) < 2 then (
  some a0
  ) else (
  (
  iterO (slices_Compact_Occurrence_L1 a0) 1
  ).bind <| onr (fun r1 => some r1) fun () =>
  some a0
  )
theorem slices_Compact_Occurrence_ok {a0 : (List Occurrence)} {r : (List Occurrence)} (hr : slices_Compact_Occurrence_m a0 = some r) {F0 : Nat → Prop} {M : List Nat} {w0 : World} {Aa0 : Option Addr} {na0 ca0 : Nat} (H : HL F0 M w0 w0 [] [It.O 48 a0 (.slice Aa0 na0 ca0)]) :
    Ret Try.prog 141 #[.slice Aa0 na0 ca0] w0 (· ∈ M) fun v w => ∃ A0 : Option Addr, ∃ n0 c0 : Nat, v = (.slice A0 n0 c0) ∧ HL F0 M w0 w [] [It.O 48 r (.slice A0 n0 c0)] := by
  refine enter Try.func141 rfl rfl rfl ?_
  refine CW.seq (CW.reg ?_)
  refine WL.ev rfl rfl (Ev.as rfl rfl) (WL.nil ?_)
  refine CW.seq (CW.seq (CW.reg ?_))
  refine WL.ev rfl rfl (Ev.mv rfl rfl) ?_
  have hl1 := (H.rO (i := 0) rfl).I
  refine WL.ev rfl rfl (Ev.lenV rfl el33 rfl (H.rO (i := 0) rfl)) (WL.ev rfl rfl (Ev.bin rfl rfl rfl Bin.lss) (WL.nil ?_))
  refine CW.condD rfl (fun h1 => ?_) (fun h1 => ?_)
  · skip
    have hr := ifp h1 hr
    refine CW.seq (CW.reg ?_)
    refine WL.ev rfl rfl (Ev.mv rfl rfl) (WL.ev rfl rfl (Ev.as rfl rfl) (WL.nil ?_))
    refine CW.ret ?_
    obtain rfl := sm hr
    exact ⟨_, res1 rfl rfl rfl, H.chg, _, _, _, rfl, H.outM (fr' := []) [true] fun _ _ => trivial⟩
  · skip
    have hr := ifn h1 hr
    refine CW.skip ?_
    refine CW.seq (CW.seq (CW.reg ?_))
    refine WL.ev rfl rfl (Ev.as rfl rfl) (WL.nil ?_)
    obtain ⟨q1, hm1, hr⟩ := bd hr
    refine CW.mid (fun ρ' w => q1 = .inl () ∧ agree ρ' [(0, .slice Aa0 na0 ca0)] ∧ HL F0 M w0 w [] [It.O 48 a0 (.slice Aa0 na0 ca0)]) ?_ ?_
    · skip
      obtain ⟨m1, hq1⟩ := iterO_some.1 hm1
      refine CW.block (CW.loop (α := Nat × Int) (fun ⟨m1, s1⟩ => [(0, .slice Aa0 na0 ca0), (3, .int .i64 s1)]) (fun ⟨m1, s1⟩ w => iterN (slices_Compact_Occurrence_L1 a0) m1 s1 = some q1 ∧ I64 s1 ∧ HL F0 M w0 w [] [It.O 48 a0 (.slice Aa0 na0 ca0)]) (fun ⟨m1, s1⟩ => m1) ⟨m1, 1⟩ ⟨rfl, rfl, trivial⟩ ⟨hq1, (by decide : I64 1), H.keep 0 1⟩ ?_)
      rintro ⟨m1, s1⟩ σ w1 ⟨hq1, hI1, H⟩
      obtain ⟨m2, z1, rfl, hb1, hs1, ht1⟩ := iterN_go hq1
      refine CW.seq (CW.seq (CW.reg ?_))
      refine WL.ev rfl rfl (Ev.mv rfl rfl) (WL.ev rfl rfl (Ev.mv rfl rfl) (WL.ev rfl rfl (Ev.lenV rfl el33 rfl (H.rO (i := 0) rfl)) (WL.ev rfl rfl (Ev.bin rfl rfl rfl Bin.lss) (WL.nil ?_))))
      refine CW.condD rfl (fun h2 => ?_) (fun h2 => ?_)
      · skip
        have hb1 := ifp h2 hb1
        refine CW.skip ?_
        refine CW.seq (CW.block (CW.seq (CW.quiet hmix (by kernel_rfl) ?_)))
        refine QL.ev rfl rfl (fun _ _ => Ev.mv rfl rfl) (QL.ev rfl rfl (fun _ _ => Ev.mv rfl rfl) ?_)
        obtain ⟨hg1, hb1⟩ := grd_some hb1
        obtain ⟨x1, hx1, hb1⟩ := bd hb1
        obtain ⟨b1, cb1, hvb1, hbb1⟩ := H.ptO (i := 0) rfl hx1
        refine QL.ev rfl rfl (fun _ _ => Ev.ixV rfl el33 sz48 rfl hvb1 rfl hg1 (lt_of hx1)) ?_
        obtain ⟨hA1, hI2, hS1, H⟩ := elO_Occurrence H (i := 0) rfl hx1 hbb1
        refine QL.ev rfl rfl (fun _ hq => Ev.lda rfl ag48 sz48 rfl (hA1.ext hq) rfl) (QL.ev rfl rfl (fun _ _ => Ev.mv rfl rfl) (QL.ev rfl rfl (fun _ _ => Ev.mv rfl rfl) ?_))
        obtain ⟨hg2, hb1⟩ := grd_some hb1
        refine QL.ev rfl rfl (fun _ _ => Ev.bin rfl rfl rfl (Bin.sub hg2)) ?_
        obtain ⟨hg3, hb1⟩ := grd_some hb1
        obtain ⟨x2, hx2, hb1⟩ := bd hb1
        obtain ⟨b2, cb2, hvb2, hbb2⟩ := H.ptO (i := 0) rfl hx2
        refine QL.ev rfl rfl (fun _ _ => Ev.ixV rfl el33 sz48 rfl hvb2 rfl hg3 (lt_of hx2)) ?_
        obtain ⟨hA2, hI3, hS2, H⟩ := elO_Occurrence H (i := 0) rfl hx2 hbb2
        refine QL.ev rfl rfl (fun _ hq => Ev.lda rfl ag48 sz48 rfl (hA2.ext hq) rfl) (QL.ev rfl rfl (fun _ _ => Ev.bin rfl rfl rfl (Bin.eqlF fl48 (Occurrence_eqF x1 x2))) (QL.nil (fun w2 hE => ?_)))
        have H := H.ext hE
        refine CW.condD rfl (fun h3 => ?_) (fun h3 => ?_)
        · skip
          have hb1 := ifp h3 hb1
          refine CW.seq (CW.reg ?_)
          refine WL.ev rfl rfl (Ev.mv rfl rfl) (WL.ev rfl rfl (Ev.mv rfl rfl) ?_)
          obtain ⟨hg4, hb1⟩ := grd_some hb1
          obtain ⟨hg5, hb1⟩ := grd_some hb1
          obtain ⟨A1, n1, c1, e2, hc1⟩ := H.subO (i := 0) rfl hg5
          refine WL.ev rfl rfl (Ev.slLV rfl el33 sz48 rfl rfl ((Int.toNat_of_nonneg hg4).symm) hc1 e2) (WL.ev rfl rfl (Ev.as rfl rfl) (WL.nil ?_))
          refine CW.seq (CW.seq (CW.reg ?_))
          refine WL.ev rfl rfl (Ev.as rfl rfl) (WL.nil ?_)
          obtain ⟨q2, hm2, hb1⟩ := bd hb1
          refine CW.mid (fun ρ' w => ∃ (s2 : List Occurrence) (s3 : Int), q2 = (s2, s3) ∧ agree ρ' [(0, .slice Aa0 na0 ca0), (3, .int .i64 s3)] ∧ I64 s3 ∧ HL F0 M w0 w [Pr.R x1 [.int .i64 x1.Pos, .string x1.Name], Pr.R x2 [.int .i64 x2.Pos, .string x2.Name]] [It.O 48 s2 (.slice Aa0 na0 ca0)]) ?_ ?_
          · skip
            obtain ⟨m3, hq2⟩ := iterO_some.1 hm2
            refine CW.block (CW.loop (α := Nat × (List Occurrence) × Int × Int) (fun ⟨m3, s4, s5, s6⟩ => [(0, .slice Aa0 na0 ca0), (3, .int .i64 s5), (4, .slice A1 n1 c1), (5, .int .i64 s6)]) (fun ⟨m3, s4, s5, s6⟩ w => iterN (slices_Compact_Occurrence_L2 s1) m3 (s4, s5, s6) = some q2 ∧ I64 s5 ∧ I64 s6 ∧ HL F0 M w0 w [Pr.R x1 [.int .i64 x1.Pos, .string x1.Name], Pr.R x2 [.int .i64 x2.Pos, .string x2.Name]] [It.O 48 s4 (.slice Aa0 na0 ca0)]) (fun ⟨m3, s4, s5, s6⟩ => m3) ⟨m3, a0, s1, 1⟩ ⟨rfl, rfl, rfl, rfl, trivial⟩ ⟨hq2, hI1, (by decide : I64 1), H.keep 2 1⟩ ?_)
            rintro ⟨m3, s4, s5, s6⟩ σ w3 ⟨hq2, hI5, hI6, H⟩
            obtain ⟨m4, z2, rfl, hb2, hs2, ht2⟩ := iterN_go hq2
            refine CW.seq (CW.seq (CW.reg ?_))
            refine WL.ev rfl rfl (Ev.mv rfl rfl) (WL.ev rfl rfl (Ev.mv rfl rfl) ?_)
            have hl2 := ((H.rO (i := 0) rfl).dropV hc1 e2).I
            refine WL.ev rfl rfl (Ev.lenV rfl el33 rfl ((H.rO (i := 0) rfl).dropV hc1 e2)) (WL.ev rfl rfl (Ev.bin rfl rfl rfl Bin.lss) (WL.nil ?_))
            refine CW.condD rfl (fun h4 => ?_) (fun h4 => ?_)
            · skip
              have hb2 := ifp h4 hb2
              refine CW.skip ?_
              obtain ⟨q3, hm3, hb2⟩ := bd hb2
              refine CW.seq (CW.mid (fun ρ' w => ∃ (s7 : Int) (s8 : List Occurrence), q3 = (s7, s8) ∧ agree ρ' [(0, .slice Aa0 na0 ca0), (3, .int .i64 s7), (4, .slice A1 n1 c1), (5, .int .i64 s6)] ∧ I64 s7 ∧ HL F0 M w0 w [Pr.R x1 [.int .i64 x1.Pos, .string x1.Name], Pr.R x2 [.int .i64 x2.Pos, .string x2.Name]] [It.O 48 s8 (.slice Aa0 na0 ca0)]) ?_ ?_)
              · skip
                refine CW.block (CW.seq (CW.quiet hmix (by kernel_rfl) ?_))
                refine QL.ev rfl rfl (fun _ _ => Ev.mv rfl rfl) (QL.ev rfl rfl (fun _ _ => Ev.mv rfl rfl) ?_)
                obtain ⟨hg6, hm3⟩ := grd_some hm3
                obtain ⟨x3, hx3, hm3⟩ := bd hm3
                obtain ⟨b3, mb3, cb3, hvb3, hmb3, hbb3⟩ := H.ptSub (i := 0) rfl e2 hx3
                refine QL.ev rfl rfl (fun _ _ => Ev.ixSub rfl el33 sz48 rfl hvb3 rfl hg6 hmb3) ?_
                obtain ⟨hA3, hI8, hS3, H⟩ := elO_Occurrence H (i := 0) rfl hx3 hbb3
                refine QL.ev rfl rfl (fun _ hq => Ev.lda rfl ag48 sz48 rfl (hA3.ext hq) rfl) (QL.ev rfl rfl (fun _ _ => Ev.mv rfl rfl) (QL.ev rfl rfl (fun _ _ => Ev.mv rfl rfl) ?_))
                obtain ⟨hg7, hm3⟩ := grd_some hm3
                refine QL.ev rfl rfl (fun _ _ => Ev.bin rfl rfl rfl (Bin.sub hg7)) ?_
                obtain ⟨hg8, hm3⟩ := grd_some hm3
                obtain ⟨x4, hx4, hm3⟩ := bd hm3
                obtain ⟨b4, mb4, cb4, hvb4, hmb4, hbb4⟩ := H.ptSub (i := 0) rfl e2 hx4
                refine QL.ev rfl rfl (fun _ _ => Ev.ixSub rfl el33 sz48 rfl hvb4 rfl hg8 hmb4) ?_
                obtain ⟨hA4, hI9, hS4, H⟩ := elO_Occurrence H (i := 0) rfl hx4 hbb4
                refine QL.ev rfl rfl (fun _ hq => Ev.lda rfl ag48 sz48 rfl (hA4.ext hq) rfl) (QL.ev rfl rfl (fun _ _ => Ev.bin rfl rfl rfl (Bin.neqF fl48 (Occurrence_eqF x3 x4))) (QL.nil (fun w4 hE => ?_)))
                have H := H.ext hE
                refine CW.condN rfl (fun h5 => ?_) (fun h5 => ?_)
                · skip
                  have hm3 := ifn h5 hm3
                  refine CW.seq (CW.reg ?_)
                  refine WL.ev rfl rfl (Ev.mv rfl rfl) (WL.ev rfl rfl (Ev.mv rfl rfl) (WL.ev rfl rfl (Ev.mv rfl rfl) (WL.ev rfl rfl (Ev.mv rfl rfl) ?_)))
                  obtain ⟨hg9, hm3⟩ := grd_some hm3
                  obtain ⟨b5, mb5, cb5, hvb5, hmb5, hbb5⟩ := H.ptSub (i := 0) rfl e2 hx3
                  refine WL.ev rfl rfl (Ev.ixSub rfl el33 sz48 rfl hvb5 rfl hg9 hmb5) ?_
                  obtain ⟨hA5, hI10, hS5, H⟩ := elO_Occurrence H (i := 0) rfl hx3 hbb5
                  refine WL.ev rfl rfl (Ev.lda rfl ag48 sz48 rfl hA5 rfl) ?_
                  obtain ⟨hg10, hm3⟩ := grd_some hm3
                  obtain ⟨x5, hx5, hm3⟩ := bd hm3
                  obtain ⟨b6, cb6, hvb6, hbb6⟩ := H.ptO (i := 0) rfl hx5
                  refine WL.ev rfl rfl (Ev.ixV rfl el33 sz48 rfl hvb6 rfl hg10 (lt_of hx5)) ?_
                  refine WL.stOf (i := 0) (z := x3) rfl rfl rfl sz48 rfl rfl rfl (fun _ => ⟨rfl, hI10, hS5, rfl⟩) H rfl hbb6 (by simpa using lt_of hx5) fun w5 H => ?_
                  refine WL.nil ?_
                  refine CW.fresh [(0, .slice Aa0 na0 ca0), (3, .int .i64 s5), (4, .slice A1 n1 c1), (5, .int .i64 s6)] ⟨rfl, rfl, rfl, rfl, trivial⟩ fun σ => ?_
                  have H : HL F0 M w0 w5 [Pr.R x1 [.int .i64 x1.Pos, .string x1.Name], Pr.R x2 [.int .i64 x2.Pos, .string x2.Name], Pr.R x3 [.int .i64 x3.Pos, .string x3.Name], Pr.R x4 [.int .i64 x4.Pos, .string x4.Name], Pr.R x3 [.int .i64 x3.Pos, .string x3.Name]] [It.O 48 (List.set s4 s5.toNat x3) (.slice Aa0 na0 ca0)] := H
                  refine CW.reg ?_
                  refine WL.ev rfl rfl (Ev.mv rfl rfl) ?_
                  obtain ⟨hg11, hm3⟩ := grd_some hm3
                  refine WL.ev rfl rfl (Ev.bin rfl rfl rfl (Bin.add hg11)) (WL.ev rfl rfl (Ev.as rfl rfl) (WL.nil ?_))
                  obtain rfl := sm hm3
                  exact ⟨(s5 + 1), (List.set s4 s5.toNat x3), rfl, ⟨rfl, rfl, rfl, rfl, trivial⟩, hg11, H.keep 2 1⟩
                · skip
                  have hm3 := ifp h5 hm3
                  refine CW.skip ?_
                  obtain rfl := sm hm3
                  exact ⟨s5, s4, rfl, ⟨rfl, rfl, rfl, rfl, trivial⟩, hI5, H.keep 2 1⟩
              · rintro ρ' w6 ⟨s7, s8, rfl, hag, hI7, H⟩
                obtain ⟨σ, rfl⟩ := ofL_ex hag
                refine CW.reg ?_
                refine WL.ev rfl rfl (Ev.mv rfl rfl) ?_
                obtain ⟨hg12, hb2⟩ := grd_some hb2
                refine WL.ev rfl rfl (Ev.bin rfl rfl rfl (Bin.add hg12)) (WL.ev rfl rfl (Ev.as rfl rfl) (WL.nil ?_))
                obtain rfl := sm hb2
                exact ⟨⟨m4, s8, s7, (s6 + 1)⟩, ⟨rfl, rfl, rfl, rfl, trivial⟩, ⟨hs2 _ rfl, hI7, hg12, H.keep 2 1⟩, Nat.lt_succ_self _⟩
            · skip
              have hb2 := ifn h4 hb2
              refine CW.exit ?_
              obtain rfl := sm hb2
              obtain rfl := ht2 _ rfl
              exact ⟨s4, s5, rfl, ⟨rfl, rfl, trivial⟩, hI5, H.keep 2 1⟩
          · rintro ρ' w7 ⟨s2, s3, rfl, hag, hI4, H⟩
            obtain ⟨σ, rfl⟩ := ofL_ex hag
            refine CW.seq (CW.reg ?_)
            refine WL.ev rfl rfl (Ev.mv rfl rfl) (WL.ev rfl rfl (Ev.mv rfl rfl) ?_)
            obtain ⟨hg13, hb1⟩ := grd_some hb1
            obtain ⟨hg14, hb1⟩ := grd_some hb1
            obtain ⟨A2, n2, c2, e4, hc2⟩ := H.subO (i := 0) rfl hg14
            refine WL.ev rfl rfl (Ev.slLV rfl el33 sz48 rfl rfl ((Int.toNat_of_nonneg hg13).symm) hc2 e4) ?_
            refine WL.clrO (i := 0) (x0 := (⟨(0 : Int), (⟨#[]⟩ : ByteArray)⟩ : Occurrence)) rfl rfl rfl el33 sz48 ze48 (fun _ => ⟨rfl, (by decide : I64 0), (by decide), rfl⟩) rfl H rfl hc2 e4 fun w8 H => ?_
            refine WL.nil ?_
            refine CW.seq (CW.reg ?_)
            refine WL.ev rfl rfl (Ev.mv rfl rfl) (WL.ev rfl rfl (Ev.mv rfl rfl) ?_)
            obtain ⟨hg15, hb1⟩ := grd_some hb1
            obtain ⟨hg16, hb1⟩ := grd_some hb1
            obtain ⟨A3, n3, c3, e5, hc3, H⟩ := H.cutO (i := 0) rfl hg16
            refine WL.ev rfl rfl (Ev.slHV rfl el33 sz48 rfl rfl ((Int.toNat_of_nonneg hg15).symm) hc3 e5) (WL.ev rfl rfl (Ev.as rfl rfl) (WL.nil ?_))
            refine CW.ret ?_
            obtain rfl := sm hb1
            obtain rfl := ht1 _ rfl
            obtain rfl := sm hr
            exact ⟨_, res1 rfl rfl rfl, H.chg, _, _, _, rfl, H.outM (fr' := []) [true] fun _ _ => trivial⟩
        · skip
          have hb1 := ifn h3 hb1
          refine CW.skip ?_
          refine CW.reg ?_
          refine WL.ev rfl rfl (Ev.mv rfl rfl) ?_
          obtain ⟨hg17, hb1⟩ := grd_some hb1
          refine WL.ev rfl rfl (Ev.bin rfl rfl rfl (Bin.add hg17)) (WL.ev rfl rfl (Ev.as rfl rfl) (WL.nil ?_))
          obtain rfl := sm hb1
          exact ⟨⟨m2, (s1 + 1)⟩, ⟨rfl, rfl, trivial⟩, ⟨hs1 _ rfl, hg17, H.keep 0 1⟩, Nat.lt_succ_self _⟩
      · skip
        have hb1 := ifn h2 hb1
        refine CW.exit ?_
        obtain rfl := sm hb1
        obtain rfl := ht1 _ rfl
        exact ⟨rfl, ⟨rfl, trivial⟩, H.keep 0 1⟩
    · rintro ρ' w9 ⟨rfl, hag, H⟩
      obtain ⟨σ, rfl⟩ := ofL_ex hag
      refine CW.seq (CW.reg ?_)
      refine WL.ev rfl rfl (Ev.mv rfl rfl) (WL.ev rfl rfl (Ev.as rfl rfl) (WL.nil ?_))
      refine CW.ret ?_
      obtain rfl := sm hr
      exact ⟨_, res1 rfl rfl rfl, H.chg, _, _, _, rfl, H.outM (fr' := []) [true] fun _ _ => trivial⟩

noncomputable def iAttributeUses_m (a0 : Expr) : Option (List Occurrence) :=
  (ieveryNode_iAttributeUses_1_m a0 []).bind fun (y1, z1) =>
  (slices_SortFunc_Occurrence_m z1).bind fun z2 =>
  (slices_Compact_Occurrence_m z2).bind fun y2 =>
  some y2
theorem iAttributeUses_ok {a0 : Expr} {r : (List Occurrence)} (hr : iAttributeUses_m a0 = some r) {F0 : Nat → Prop} {w0 : World} {ca0 : List Value} (ha0 : rd F0 w0 a0 ca0) :
    Ret Try.prog 78 #[.agg ca0.toArray] w0 (fun _ => False) fun v w => ∃ A0 : Option Addr, ∃ n0 c0 : Nat, v = (.slice A0 n0 c0) ∧ HL F0 [] w0 w [] [It.O 48 r (.slice A0 n0 c0)] := by
  have H := (HL.start F0 w0).argR ha0
  obtain ⟨A1, n1, c1, rfl, hI1, hI2, hI3, hI4, hS1, hS2, H⟩ := op_Expr H (i := 0) rfl
  refine enter Try.func78 rfl rfl rfl ?_
  refine CW.seq (CW.reg ?_)
  refine WL.boxH rfl rfl rfl rfl rfl H fun b1 w1 H => ?_
  refine WL.ev rfl rfl (Ev.as rfl rfl) (WL.nil ?_)
  refine CW.seq (CW.reg ?_)
  refine WL.lit0H (α := Occurrence) rfl rfl rfl el33 sz48 H fun A2 n2 c2 w2 H => ?_
  refine WL.allocH rfl rfl rfl ze33 H fun b2 w3 H => ?_
  refine WL.stB (i := 2) rfl rfl rfl sz33 rfl rfl rfl rfl (all1 rfl all0) H rfl rfl rfl fun w4 H => ?_
  refine WL.nil ?_
  refine CW.seq (CW.reg ?_)
  refine WL.ev rfl rfl (Ev.lda rfl ag31 sz31 rfl (At.blk (H.rB (i := 0) rfl)) rfl) (WL.ev rfl rfl (Ev.mkfL rfl rfl rfl) ?_)
  obtain ⟨⟨y1, z1⟩, hy1, hr⟩ := bd hr
  obtain ⟨F', M', hfF, hoF, hcM⟩ := H.callN [false, true, true] ⟨noO, noB, trivial⟩
  obtain ⟨H', hcN⟩ := hcM (ps := [Pr.S a0.Args (.slice A1 n1 c1)]) ⟨hfF.get (i := 1) rfl, trivial⟩
  refine WL.call rfl rfl rfl rfl rfl ok100 rfl (ieveryNode_iAttributeUses_1_ok hy1 hI1 hI2 hI3 hI4 hS1 hS2 H') ?_
  rintro _ w5 hE ⟨A3, n3, c3, rfl, H'⟩
  have H := hcN 2 H' rfl ⟨fun _ _ _ _ _ h => h, ⟨fun _ _ _ _ _ h => h, trivial⟩⟩
  refine WL.nil ?_
  refine CW.seq (CW.reg ?_)
  refine WL.ev rfl rfl (Ev.ld rfl ag33 rfl ((H.rB (i := 2) rfl).cell rfl)) ?_
  obtain ⟨z2, hy2, hr⟩ := bd hr
  obtain ⟨F', M', hfF, hoF, hcM⟩ := H.callN [false, true, false] ⟨noO, trivial⟩
  obtain ⟨H', hcN⟩ := hcM (ps := []) trivial
  refine WL.call rfl rfl rfl rfl rfl ok139 rfl (slices_SortFunc_Occurrence_ok hy2 H') ?_
  rintro _ w6 hE ⟨rfl, H'⟩
  have H := hcN 1 H' rfl ⟨fun _ _ _ _ _ h => h, trivial⟩
  refine WL.nil ?_
  refine CW.seq (CW.reg ?_)
  refine WL.ev rfl rfl (Ev.ld rfl ag33 rfl ((H.rB (i := 2) rfl).cell rfl)) ?_
  obtain ⟨y2, hy3, hr⟩ := bd hr
  obtain ⟨F', M', hfF, hoF, hcM⟩ := H.callN [false, true, false] ⟨noO, trivial⟩
  obtain ⟨H', hcN⟩ := hcM (ps := []) trivial
  refine WL.call rfl rfl rfl rfl rfl ok141 rfl (slices_Compact_Occurrence_ok hy3 H') ?_
  rintro _ w7 hE ⟨A4, n4, c4, rfl, H'⟩
  have H := hcN 1 H' rfl ⟨fun _ _ _ _ _ h => h, trivial⟩
  refine WL.ev rfl rfl (Ev.as rfl rfl) (WL.nil ?_)
  refine CW.ret ?_
  obtain rfl := sm hr
  exact ⟨_, res1 rfl rfl rfl, H.ext0, _, _, _, rfl, H.outM (fr' := []) [false, true, false] fun _ _ => trivial⟩

noncomputable def slices_Index_Occurrence_L1 (a1 : Occurrence) : Nat → Occurrence → Unit → Option (Unit ⊕ Int) := fun k1 x1 _ => 
  if a1 = x1 then (
  some (.inr (k1 : Int))
  ) else (
  some (.inl ())
  )
noncomputable def slices_Index_Occurrence_m (a0 : (List Occurrence)) (a1 : Occurrence) : Option Int :=
  (findL (slices_Index_Occurrence_L1 a1) 0 a0 ()).bind <| onr (fun r1 => some r1) fun _ =>
  some (-1)
theorem slices_Index_Occurrence_ok {a0 : (List Occurrence)} {a1 : Occurrence} {r : Int} (hr : slices_Index_Occurrence_m a0 a1 = some r) {F0 : Nat → Prop} {w0 : World} {z0 : Value} (ha0 : rdS F0 w0 a0 z0) {ca1 : List Value} (ha1 : rd F0 w0 a1 ca1) :
    Ret Try.prog 142 #[z0, .agg ca1.toArray] w0 (fun _ => False) fun v w => v = .int .i64 r ∧ I64 r := by
  obtain ⟨A0', n0', c0', rfl⟩ := ha0.form3
  have H := ((HL.start F0 w0).argS ha0).argR ha1
  obtain ⟨rfl, hI1, hS1, H⟩ := op_Occurrence H (i := 1) rfl
  refine enter Try.func142 rfl rfl rfl ?_
  refine CW.seq (CW.reg ?_)
  refine WL.boxH rfl rfl rfl rfl rfl H fun b1 w1 H => ?_
  refine WL.ev rfl rfl (Ev.as rfl rfl) (WL.nil ?_)
  refine CW.seq (CW.seq (CW.reg ?_))
  refine WL.ev rfl rfl (Ev.mv rfl rfl) ?_
  have hl1 := (H.rS (i := 0) rfl).I
  refine WL.ev rfl rfl (Ev.lenV rfl el33 rfl (H.rS (i := 0) rfl)) (WL.ev rfl rfl (Ev.mv rfl rfl) (WL.nil ?_))
  obtain ⟨q1, hq1, hr⟩ := bd hr
  refine CW.block (CW.loop (α := Nat) (fun k1 => [(0, .slice A0' n0' c0'), (3, .pointer (some ⟨b1, 0, none⟩)), (7, .int .i64 (a0.length : Int)), (8, .int .i64 (k1 : Int))]) (fun k1 w => k1 ≤ a0.length ∧ findL (slices_Index_Occurrence_L1 a1) k1 (a0.drop k1) () = some q1 ∧ HL F0 [] w0 w [Pr.S a0 (.slice A0' n0' c0'), Pr.R a1 [.int .i64 a1.Pos, .string a1.Name]] [It.B b1 48 [.int .i64 a1.Pos, .string a1.Name]]) (fun k1 => a0.length - k1) 0 ⟨rfl, rfl, rfl, rfl, trivial⟩ ⟨Nat.zero_le _, hq1, H.keep 2 1⟩ ?_)
  rintro k1 σ w2 ⟨hk1, hq1, H⟩
  refine CW.seq (CW.reg ?_)
  refine WL.ev rfl rfl (Ev.bin rfl rfl rfl Bin.lss) (WL.nil ?_)
  refine CW.seq (CW.condD rfl (fun h1 => ?_) (fun h1 => ?_))
  · skip
    have hk2 := cast_lt h1
    obtain ⟨x1, z1, hx1, hb1, hs1, ht1⟩ := findL_go hq1 hk2
    refine CW.skip ?_
    refine CW.seq (CW.block (CW.seq (CW.reg ?_)))
    refine WL.ev rfl rfl (Ev.mv rfl rfl) (WL.ev rfl rfl (Ev.as rfl rfl) (WL.nil ?_))
    refine CW.seq (CW.quiet hmix (by kernel_rfl) ?_)
    refine QL.ev rfl rfl (fun _ hq => Ev.lda rfl ag48 sz48 rfl (At.blk ((H.ext hq).rB (i := 0) rfl)) rfl) (QL.ev rfl rfl (fun _ _ => Ev.mv rfl rfl) (QL.ev rfl rfl (fun _ _ => Ev.mv rfl rfl) ?_))
    obtain ⟨b2, ob2, cb2, hvb2, hI2, hS2, H⟩ := ixS_Occurrence H (i := 0) rfl hx1
    refine QL.ev rfl rfl (fun _ _ => Ev.ixVN rfl el33 sz48 rfl hvb2 rfl (lt_of hx1)) (QL.ev rfl rfl (fun _ hq => Ev.lda rfl ag48 sz48 rfl ((H.ext hq).rA (i := 2) rfl) rfl) (QL.ev rfl rfl (fun _ _ => Ev.bin rfl rfl rfl (Bin.eqlF fl48 (Occurrence_eqF a1 x1))) (QL.nil (fun w3 hE => ?_))))
    have H := H.ext hE
    refine CW.condD rfl (fun h2 => ?_) (fun h2 => ?_)
    · skip
      have hb1 := ifp h2 hb1
      refine CW.seq (CW.reg ?_)
      refine WL.ev rfl rfl (Ev.mv rfl rfl) (WL.ev rfl rfl (Ev.as rfl rfl) (WL.nil ?_))
      refine CW.ret ?_
      obtain rfl := sm hb1
      obtain rfl := ht1 _ rfl
      obtain rfl := sm hr
      exact ⟨_, res1 rfl rfl rfl, H.ext0, rfl, (i64_nat hk2 hl1)⟩
    · skip
      have hb1 := ifn h2 hb1
      refine CW.skip ?_
      refine CW.reg ?_
      refine WL.ev rfl rfl (Ev.bin rfl rfl rfl (Bin.addN (a := k1) (b := 1) rfl (i64_succN hk2 hl1.2))) (WL.ev rfl rfl (Ev.mv rfl rfl) (WL.nil ?_))
      obtain rfl := sm hb1
      have hq1 := hs1 _ rfl
      exact ⟨(k1 + 1), ⟨rfl, rfl, rfl, rfl, trivial⟩, ⟨hk2, hq1, H.keep 2 1⟩, Nat.sub_lt_sub_left hk2 (Nat.lt_succ_self _)⟩
  · skip
    obtain rfl := findL_end hq1 (not_cast_lt h1)
    refine CW.exit ?_
    refine CW.seq (CW.reg ?_)
    refine WL.ev rfl rfl (Ev.as rfl rfl) (WL.nil ?_)
    refine CW.ret ?_
    obtain rfl := sm hr
    exact ⟨_, res1 rfl rfl rfl, H.ext0, rfl, (by decide : I64 (-1))⟩

noncomputable def slices_Contains_Occurrence_m (a0 : (List Occurrence)) (a1 : Occurrence) : Option Bool :=
  (slices_Index_Occurrence_m a0 a1).bind fun y1 =>
  some (decide (0 ≤ y1))
theorem slices_Contains_Occurrence_ok {a0 : (List Occurrence)} {a1 : Occurrence} {r : Bool} (hr : slices_Contains_Occurrence_m a0 a1 = some r) {F0 : Nat → Prop} {w0 : World} {z0 : Value} (ha0 : rdS F0 w0 a0 z0) {ca1 : List Value} (ha1 : rd F0 w0 a1 ca1) :
    Ret Try.prog 80 #[z0, .agg ca1.toArray] w0 (fun _ => False) fun v w => v = .bool r := by
  obtain ⟨A0', n0', c0', rfl⟩ := ha0.form3
  have H := ((HL.start F0 w0).argS ha0).argR ha1
  obtain ⟨rfl, hI1, hS1, H⟩ := op_Occurrence H (i := 1) rfl
  refine enter Try.func80 rfl rfl rfl ?_
  refine CW.seq (CW.reg ?_)
  refine WL.boxH rfl rfl rfl rfl rfl H fun b1 w1 H => ?_
  refine WL.ev rfl rfl (Ev.as rfl rfl) (WL.nil ?_)
  refine CW.seq (CW.reg ?_)
  refine WL.ev rfl rfl (Ev.mv rfl rfl) (WL.ev rfl rfl (Ev.lda rfl ag48 sz48 rfl (At.blk (H.rB (i := 0) rfl)) rfl) ?_)
  obtain ⟨y1, hy1, hr⟩ := bd hr
  refine WL.call rfl rfl rfl rfl rfl ok142 rfl (slices_Index_Occurrence_ok hy1 (H.rS (i := 0) rfl) ⟨rfl, hI1, hS1⟩) ?_
  rintro _ w2 hE ⟨rfl, hI2⟩
  have H := H.ext hE
  refine WL.ev rfl rfl (Ev.bin rfl rfl rfl Bin.geq) (WL.ev rfl rfl (Ev.as rfl rfl) (WL.nil ?_))
  refine CW.ret ?_
  obtain rfl := sm hr
  exact ⟨_, res1 rfl rfl rfl, H.ext0, rfl⟩

noncomputable def iUsesAny_1_m (a0 : Occurrence) (a1 : (List Occurrence)) : Option Bool :=
  (slices_Contains_Occurrence_m a1 a0).bind fun y1 =>
  some y1
theorem iUsesAny_1_ok {a0 : Occurrence} {a1 : (List Occurrence)} {r : Bool} (hr : iUsesAny_1_m a0 a1 = some r) {F0 : Nat → Prop} {w0 : World} {ca0 : List Value} (ha0 : rd F0 w0 a0 ca0) {b1p : Nat} (ha1 : CapP F0 w0 b1p a1) :
    Ret Try.prog 79 #[.agg ca0.toArray, .pointer (some ⟨b1p, 0, none⟩)] w0 (fun _ => False) fun v w => v = .bool r := by
  have H := (HL.start F0 w0).argR ha0
  obtain ⟨rfl, hI1, hS1, H⟩ := op_Occurrence H (i := 0) rfl
  obtain ⟨cpa1, H⟩ := H.argP ha1
  obtain ⟨A1, n1, c1, rfl, H⟩ := op_Sl H (i := 2) rfl
  refine enter Try.func79 rfl rfl rfl ?_
  refine CW.seq (CW.reg ?_)
  refine WL.boxH rfl rfl rfl rfl rfl H fun b1 w1 H => ?_
  refine WL.ev rfl rfl (Ev.as rfl rfl) (WL.nil ?_)
  refine CW.seq (CW.reg ?_)
  refine WL.ev rfl rfl (Ev.ld rfl ag33 rfl ((H.rA (i := 1) rfl).cell0 rfl)) (WL.ev rfl rfl (Ev.lda rfl ag48 sz48 rfl (At.blk (H.rB (i := 0) rfl)) rfl) ?_)
  obtain ⟨y1, hy1, hr⟩ := bd hr
  refine WL.call rfl rfl rfl rfl rfl ok80 rfl (slices_Contains_Occurrence_ok hy1 (H.rS (i := 3) rfl) ⟨rfl, hI1, hS1⟩) ?_
  rintro _ w2 hE rfl
  have H := H.ext hE
  refine WL.ev rfl rfl (Ev.as rfl rfl) (WL.nil ?_)
  refine CW.ret ?_
  obtain rfl := sm hr
  exact ⟨_, res1 rfl rfl rfl, H.ext0, rfl⟩

noncomputable def slices_IndexFunc_Occurrence_iUsesAny_1_L1 (a1_0 : (List Occurrence)) : Nat → Occurrence → Unit → Option (Unit ⊕ Int) := fun k1 x1 _ => 
  (iUsesAny_1_m x1 a1_0).bind fun y1 =>
  if y1 = true then (
  some (.inr (k1 : Int))
  ) else (
  some (.inl ())
  )
noncomputable def slices_IndexFunc_Occurrence_iUsesAny_1_m (a0 : (List Occurrence)) (a1_0 : (List Occurrence)) : Option Int :=
  (findL (slices_IndexFunc_Occurrence_iUsesAny_1_L1 a1_0) 0 a0 ()).bind <| onr (fun r1 => some r1) fun _ =>
  some (-1)
theorem slices_IndexFunc_Occurrence_iUsesAny_1_ok {a0 : (List Occurrence)} {a1_0 : (List Occurrence)} {r : Int} (hr : slices_IndexFunc_Occurrence_iUsesAny_1_m a0 a1_0 = some r) {F0 : Nat → Prop} {w0 : World} {z0 : Value} (ha0 : rdS F0 w0 a0 z0) {b1_0p : Nat} (ha1_0 : CapP F0 w0 b1_0p a1_0) :
    Ret Try.prog 137 #[z0, .func (.func 79) #[] #[.pointer (some ⟨b1_0p, 0, none⟩)]] w0 (fun _ => False) fun v w => v = .int .i64 r ∧ I64 r := by
  obtain ⟨A0', n0', c0', rfl⟩ := ha0.form3
  have H := (HL.start F0 w0).argS ha0
  obtain ⟨cpa1_0, H⟩ := H.argP ha1_0
  obtain ⟨A1, n1, c1, rfl, H⟩ := op_Sl H (i := 2) rfl
  refine enter Try.func137 rfl rfl rfl ?_
  refine CW.seq (CW.reg ?_)
  refine WL.ev rfl rfl (Ev.as rfl rfl) (WL.nil ?_)
  refine CW.seq (CW.seq (CW.reg ?_))
  refine WL.ev rfl rfl (Ev.mv rfl rfl) ?_
  have hl1 := (H.rS (i := 0) rfl).I
  refine WL.ev rfl rfl (Ev.lenV rfl el33 rfl (H.rS (i := 0) rfl)) (WL.ev rfl rfl (Ev.mv rfl rfl) (WL.nil ?_))
  obtain ⟨q1, hq1, hr⟩ := bd hr
  refine CW.block (CW.loop (α := Nat) (fun k1 => [(0, .slice A0' n0' c0'), (1, .func (.func 79) #[] #[.pointer (some ⟨b1_0p, 0, none⟩)]), (7, .int .i64 (a0.length : Int)), (8, .int .i64 (k1 : Int))]) (fun k1 w => k1 ≤ a0.length ∧ findL (slices_IndexFunc_Occurrence_iUsesAny_1_L1 a1_0) k1 (a0.drop k1) () = some q1 ∧ HL F0 [] w0 w [Pr.S a0 (.slice A0' n0' c0'), Pr.A b1_0p 0 [.slice A1 n1 c1], Pr.R a1_0 [.slice A1 n1 c1], Pr.S a1_0 (.slice A1 n1 c1)] []) (fun k1 => a0.length - k1) 0 ⟨rfl, rfl, rfl, rfl, trivial⟩ ⟨Nat.zero_le _, hq1, H.keep 4 0⟩ ?_)
  rintro k1 σ w1 ⟨hk1, hq1, H⟩
  refine CW.seq (CW.reg ?_)
  refine WL.ev rfl rfl (Ev.bin rfl rfl rfl Bin.lss) (WL.nil ?_)
  refine CW.seq (CW.condD rfl (fun h1 => ?_) (fun h1 => ?_))
  · skip
    have hk2 := cast_lt h1
    obtain ⟨x1, z1, hx1, hb1, hs1, ht1⟩ := findL_go hq1 hk2
    refine CW.skip ?_
    refine CW.seq (CW.block (CW.seq (CW.reg ?_)))
    refine WL.ev rfl rfl (Ev.mv rfl rfl) (WL.ev rfl rfl (Ev.as rfl rfl) (WL.nil ?_))
    refine CW.seq (CW.reg ?_)
    refine WL.ev rfl rfl (Ev.mv rfl rfl) (WL.ev rfl rfl (Ev.mv rfl rfl) (WL.ev rfl rfl (Ev.mv rfl rfl) ?_))
    obtain ⟨b1, ob1, cb1, hvb1, hI1, hS1, H⟩ := ixS_Occurrence H (i := 0) rfl hx1
    refine WL.ev rfl rfl (Ev.ixVN rfl el33 sz48 rfl hvb1 rfl (lt_of hx1)) (WL.ev rfl rfl (Ev.lda rfl ag48 sz48 rfl (H.rA (i := 4) rfl) rfl) ?_)
    obtain ⟨y1, hy1, hb1⟩ := bd hb1
    refine WL.call rfl rfl rfl rfl rfl ok79 rfl (iUsesAny_1_ok hy1 (F0 := fun q => q < _) ⟨rfl, hI1, hS1⟩ ⟨H.rAl (i := 1) rfl, _, H.rA (i := 1) rfl, ⟨_, rfl, (H.rS (i := 3) rfl)⟩⟩) ?_
    rintro _ w2 hE rfl
    have H := H.ext hE
    refine WL.nil ?_
    refine CW.condB rfl (fun h2 => ?_) (fun h2 => ?_)
    · skip
      have hb1 := ifp h2 hb1
      refine CW.seq (CW.reg ?_)
      refine WL.ev rfl rfl (Ev.mv rfl rfl) (WL.ev rfl rfl (Ev.as rfl rfl) (WL.nil ?_))
      refine CW.ret ?_
      obtain rfl := sm hb1
      obtain rfl := ht1 _ rfl
      obtain rfl := sm hr
      exact ⟨_, res1 rfl rfl rfl, H.ext0, rfl, (i64_nat hk2 hl1)⟩
    · skip
      have hb1 := ifn h2 hb1
      refine CW.skip ?_
      refine CW.reg ?_
      refine WL.ev rfl rfl (Ev.bin rfl rfl rfl (Bin.addN (a := k1) (b := 1) rfl (i64_succN hk2 hl1.2))) (WL.ev rfl rfl (Ev.mv rfl rfl) (WL.nil ?_))
      obtain rfl := sm hb1
      have hq1 := hs1 _ rfl
      exact ⟨(k1 + 1), ⟨rfl, rfl, rfl, rfl, trivial⟩, ⟨hk2, hq1, H.keep 4 0⟩, Nat.sub_lt_sub_left hk2 (Nat.lt_succ_self _)⟩
  · skip
    obtain rfl := findL_end hq1 (not_cast_lt h1)
    refine CW.exit ?_
    refine CW.seq (CW.reg ?_)
    refine WL.ev rfl rfl (Ev.as rfl rfl) (WL.nil ?_)
    refine CW.ret ?_
    obtain rfl := sm hr
    exact ⟨_, res1 rfl rfl rfl, H.ext0, rfl, (by decide : I64 (-1))⟩

noncomputable def slices_ContainsFunc_Occurrence_iUsesAny_1_m (a0 : (List Occurrence)) (a1_0 : (List Occurrence)) : Option Bool :=
  (slices_IndexFunc_Occurrence_iUsesAny_1_m a0 a1_0).bind fun y1 =>
  some (decide (0 ≤ y1))
theorem slices_ContainsFunc_Occurrence_iUsesAny_1_ok {a0 : (List Occurrence)} {a1_0 : (List Occurrence)} {r : Bool} (hr : slices_ContainsFunc_Occurrence_iUsesAny_1_m a0 a1_0 = some r) {F0 : Nat → Prop} {w0 : World} {z0 : Value} (ha0 : rdS F0 w0 a0 z0) {b1_0p : Nat} (ha1_0 : CapP F0 w0 b1_0p a1_0) :
    Ret Try.prog 77 #[z0, .func (.func 79) #[] #[.pointer (some ⟨b1_0p, 0, none⟩)]] w0 (fun _ => False) fun v w => v = .bool r := by
  obtain ⟨A0', n0', c0', rfl⟩ := ha0.form3
  have H := (HL.start F0 w0).argS ha0
  obtain ⟨cpa1_0, H⟩ := H.argP ha1_0
  obtain ⟨A1, n1, c1, rfl, H⟩ := op_Sl H (i := 2) rfl
  refine enter Try.func77 rfl rfl rfl ?_
  refine CW.seq (CW.reg ?_)
  refine WL.ev rfl rfl (Ev.as rfl rfl) (WL.nil ?_)
  refine CW.seq (CW.reg ?_)
  refine WL.ev rfl rfl (Ev.mv rfl rfl) (WL.ev rfl rfl (Ev.mv rfl rfl) ?_)
  obtain ⟨y1, hy1, hr⟩ := bd hr
  refine WL.call rfl rfl rfl rfl rfl ok137 rfl (slices_IndexFunc_Occurrence_iUsesAny_1_ok hy1 (H.rS (i := 0) rfl) ⟨H.rAl (i := 1) rfl, _, H.rA (i := 1) rfl, ⟨_, rfl, (H.rS (i := 3) rfl)⟩⟩) ?_
  rintro _ w1 hE ⟨rfl, hI1⟩
  have H := H.ext hE
  refine WL.ev rfl rfl (Ev.bin rfl rfl rfl Bin.geq) (WL.ev rfl rfl (Ev.as rfl rfl) (WL.nil ?_))
  refine CW.ret ?_
  obtain rfl := sm hr
  exact ⟨_, res1 rfl rfl rfl, H.ext0, rfl⟩

noncomputable def iUsesAny_m (a0 : Expr) (a1 : (List Occurrence)) : Option Bool :=
  (iAttributeUses_m a0).bind fun y1 =>
  (slices_ContainsFunc_Occurrence_iUsesAny_1_m y1 a1).bind fun y2 =>
  some y2
theorem iUsesAny_ok {a0 : Expr} {a1 : (List Occurrence)} {r : Bool} (hr : iUsesAny_m a0 a1 = some r) {F0 : Nat → Prop} {w0 : World} {ca0 : List Value} (ha0 : rd F0 w0 a0 ca0) {z1 : Value} (ha1 : rdS F0 w0 a1 z1) :
    Ret Try.prog 16 #[.agg ca0.toArray, z1] w0 (fun _ => False) fun v w => v = .bool r := by
  obtain ⟨A1', n1', c1', rfl⟩ := ha1.form3
  have H := ((HL.start F0 w0).argR ha0).argS ha1
  obtain ⟨A1, n1, c1, rfl, hI1, hI2, hI3, hI4, hS1, hS2, H⟩ := op_Expr H (i := 0) rfl
  refine enter Try.func16 rfl rfl rfl ?_
  refine CW.seq (CW.reg ?_)
  refine WL.boxH rfl rfl rfl rfl rfl H fun b1 w1 H => ?_
  refine WL.boxH rfl rfl rfl rfl rfl H fun b2 w2 H => ?_
  refine WL.ev rfl rfl (Ev.as rfl rfl) (WL.nil ?_)
  refine CW.seq (CW.reg ?_)
  refine WL.ev rfl rfl (Ev.lda rfl ag31 sz31 rfl (At.blk (H.rB (i := 0) rfl)) rfl) ?_
  obtain ⟨y1, hy1, hr⟩ := bd hr
  refine WL.call rfl rfl rfl rfl rfl ok78 rfl (iAttributeUses_ok hy1 (Expr_rd.2 ⟨_, rfl, hI1, hI2, hI3, hI4, hS1, hS2, (H.rS (i := 2) rfl)⟩)) ?_
  rintro _ w3 hE ⟨A2, n2, c2, rfl, H'⟩
  have H := H.callA H' ⟨fun _ _ _ _ _ h => h, trivial⟩
  refine WL.ev rfl rfl (Ev.mkfL rfl rfl rfl) ?_
  obtain ⟨y2, hy2, hr⟩ := bd hr
  refine WL.call rfl rfl rfl rfl rfl ok77 rfl (slices_ContainsFunc_Occurrence_iUsesAny_1_ok hy2 (H.rO (i := 2) rfl) ⟨(H.rB (i := 1) rfl).lt, _, At.blk (H.rB (i := 1) rfl), ⟨_, rfl, (H.rS (i := 1) rfl)⟩⟩) ?_
  rintro _ w4 hE rfl
  have H := H.ext hE
  refine WL.ev rfl rfl (Ev.as rfl rfl) (WL.nil ?_)
  refine CW.ret ?_
  obtain rfl := sm hr
  exact ⟨_, res1 rfl rfl rfl, H.ext0, rfl⟩

noncomputable def sIsMonotone_B (rec_sIsMonotone : Expr → (List Occurrence) → Option Bool) (a0 : Expr) (a1 : (List Occurrence)) : Option Bool :=
  (sUsesAny_m a0 a1).bind fun y1 =>
  (
  if y1 = true then (
  some (decide (a0.Kind = 3))
  ) else (
  some true
  )
  ).bind fun s1 =>
  if s1 = true then (
  some true
  ) else (
  (
  if a0.Kind = 5 then (
  some (decide ((a0.Args.length : Int) = 3))
  ) else (
  some false
  )
  ).bind fun s2 =>
  if s2 = true then (
  (a0.Args[0]?).bind fun x1 =>
  (sUsesAny_m x1 a1).bind fun y2 =>
  (
  if y2 = true then (
  some false
  ) else (
  (a0.Args[1]?).bind fun x2 =>
  (rec_sIsMonotone x2 a1).bind fun y3 =>
  some y3
  )
  ).bind fun s3 =>
  (
  if s3 = true then (
  (a0.Args[2]?).bind fun x3 =>
  (rec_sIsMonotone x3 a1).bind fun y4 =>
  some y4
  ) else (
  some false
  )
  ).bind fun s4 =>
  some s4
  ) else (
  (
  if a0.Kind = 4 then (
  some (!(decide ((a0.Args.length : Int) = 2)))
  ) else (
  some true
  )
  ).bind fun s5 =>
  if s5 = true then (
  some false
  ) else (
  (
  if a0.N = 6 then (
  some true
  ) else (
  some (decide (a0.N = 7))
  )
  ).bind fun s6 =>
  if s6 = true then (
  (a0.Args[0]?).bind fun x4 =>
  (rec_sIsMonotone x4 a1).bind fun y5 =>
  (
  if y5 = true then (
  (a0.Args[1]?).bind fun x5 =>
  (rec_sIsMonotone x5 a1).bind fun y6 =>
  some y6
  ) else (
  some false
  )
  ).bind fun s7 =>
  some s7
  ) else (
  (
  if a0.N = 8 then (
  some true
  ) else (
  some (decide (a0.N = 12))
  )
  ).bind fun s8 =>
  if s8 = true then (
  (a0.Args[0]?).bind fun x6 =>
  (rec_sIsMonotone x6 a1).bind fun y7 =>
  (
  if y7 = true then (
  (a0.Args[1]?).bind fun x7 =>
  (sUsesAny_m x7 a1).bind fun y8 =>
  some (!y8)
  ) else (
  some false
  )
  ).bind fun s9 =>
  some s9
  ) else (
  some false
  )
  )
  )
  )
  )
theorem sIsMonotone_okB {rec_sIsMonotone : Expr → (List Occurrence) → Option Bool} (ih_sIsMonotone : ∀ {a0 : Expr} {a1 : (List Occurrence)} {r : Bool}, rec_sIsMonotone a0 a1 = some r → ∀ {F0 : Nat → Prop} {w0 : World} {ca0 : List Value} (ha0 : rd F0 w0 a0 ca0) {z1 : Value} (ha1 : rdS F0 w0 a1 z1), Ret Try.prog 19 #[.agg ca0.toArray, z1] w0 (fun _ => False) fun v w => v = .bool r) {a0 : Expr} {a1 : (List Occurrence)} {r : Bool} (hr : sIsMonotone_B rec_sIsMonotone a0 a1 = some r) {F0 : Nat → Prop} {w0 : World} {ca0 : List Value} (ha0 : rd F0 w0 a0 ca0) {z1 : Value} (ha1 : rdS F0 w0 a1 z1) :
    Ret Try.prog 19 #[.agg ca0.toArray, z1] w0 (fun _ => False) fun v w => v = .bool r := by
  obtain ⟨A1', n1', c1', rfl⟩ := ha1.form3
  have H := ((HL.start F0 w0).argR ha0).argS ha1
  obtain ⟨A1, n1, c1, rfl, hI1, hI2, hI3, hI4, hS1, hS2, H⟩ := op_Expr H (i := 0) rfl
  refine enter Try.func19 rfl rfl rfl ?_
  refine CW.seq (CW.reg ?_)
  refine WL.boxH rfl rfl rfl rfl rfl H fun b1 w1 H => ?_
  refine WL.ev rfl rfl (Ev.as rfl rfl) (WL.nil ?_)
  refine CW.seq (CW.seq (CW.reg ?_))
  refine WL.ev rfl rfl (Ev.lda rfl ag31 sz31 rfl (At.blk (H.rB (i := 0) rfl)) rfl) (WL.ev rfl rfl (Ev.mv rfl rfl) ?_)
  obtain ⟨y1, hy1, hr⟩ := bd hr
  refine WL.call rfl rfl rfl rfl rfl ok13 rfl (sUsesAny_ok hy1 (Expr_rd.2 ⟨_, rfl, hI1, hI2, hI3, hI4, hS1, hS2, (H.rS (i := 2) rfl)⟩) (H.rS (i := 1) rfl)) ?_
  rintro _ w2 hE rfl
  have H := H.ext hE
  refine WL.ev rfl rfl (Ev.not rfl rfl) ?_
  obtain ⟨q1, hm1, hr⟩ := bd hr
  refine WL.cut 5 (fun ρ' w => ∃ (s1 : Bool), s1 = q1 ∧ agree ρ' [(1, .slice A1' n1' c1'), (2, .pointer (some ⟨b1, 0, none⟩)), (13, .bool s1)] ∧ HL F0 [] w0 w [Pr.R a0 [.int .i64 a0.Kind, .int .i64 a0.N, .int .i64 a0.Pos, .int .i64 a0.Type_, .string a0.Symbol, .string a0.Name, .slice A1 n1 c1], Pr.S a1 (.slice A1' n1' c1'), Pr.S a0.Args (.slice A1 n1 c1)] [It.B b1 31 [.int .i64 a0.Kind, .int .i64 a0.N, .int .i64 a0.Pos, .int .i64 a0.Type_, .string a0.Symbol, .string a0.Name, .slice A1 n1 c1]]) ?_ ?_
  · skip
    refine WL.mvBN rfl rfl rfl rfl (fun h1 => ?_) (fun h1 => ?_)
    · skip
      have hm1 := ifn h1 hm1
      refine WL.off rfl rfl rfl (WL.off rfl rfl rfl (WL.off rfl rfl rfl (WL.ev rfl rfl (Ev.pickT rfl rfl rfl) (WL.nil ?_))))
      obtain rfl := sm hm1
      exact ⟨true, rfl, ⟨rfl, rfl, rfl, trivial⟩, H.keep 3 1⟩
    · skip
      have hm1 := ifp h1 hm1
      refine WL.on rfl rfl (WL.ev rfl rfl (Ev.fa rfl fo31_0 rfl) (WL.on rfl rfl (WL.ev rfl rfl (Ev.ld rfl ag3 rfl ((H.rB (i := 0) rfl).cell rfl)) (WL.on rfl rfl (WL.ev rfl rfl (Ev.bin rfl rfl rfl Bin.eql) (WL.ev rfl rfl (Ev.pickF rfl rfl rfl) (WL.nil ?_)))))))
      obtain rfl := sm hm1
      exact ⟨(decide (a0.Kind = 3)), rfl, ⟨rfl, rfl, rfl, trivial⟩, H.keep 3 1⟩
  · rintro ρ' w3 ⟨s1, rfl, hag, H⟩
    obtain ⟨σ, rfl⟩ := ofL_ex hag
    refine WL.nil ?_
    refine CW.condB rfl (fun h2 => ?_) (fun h2 => ?_)
    · skip
      have hr := ifp h2 hr
      refine CW.seq (CW.reg ?_)
      refine WL.ev rfl rfl (Ev.as rfl rfl) (WL.nil ?_)
      refine CW.ret ?_
      obtain rfl := sm hr
      exact ⟨_, res1 rfl rfl rfl, H.ext0, rfl⟩
    · skip
      have hr := ifn h2 hr
      refine CW.skip ?_
      refine CW.seq (CW.block (CW.seq (CW.reg ?_)))
      refine WL.ev rfl rfl (Ev.fa rfl fo31_0 rfl) (WL.ev rfl rfl (Ev.ld rfl ag3 rfl ((H.rB (i := 0) rfl).cell rfl)) (WL.ev rfl rfl (Ev.bin rfl rfl rfl Bin.eql) ?_))
      obtain ⟨q2, hm2, hr⟩ := bd hr
      refine WL.cut 6 (fun ρ' w => ∃ (s2 : Bool), s2 = q2 ∧ agree ρ' [(1, .slice A1' n1' c1'), (2, .pointer (some ⟨b1, 0, none⟩)), (23, .bool s2)] ∧ HL F0 [] w0 w [Pr.R a0 [.int .i64 a0.Kind, .int .i64 a0.N, .int .i64 a0.Pos, .int .i64 a0.Type_, .string a0.Symbol, .string a0.Name, .slice A1 n1 c1], Pr.S a1 (.slice A1' n1' c1'), Pr.S a0.Args (.slice A1 n1 c1)] [It.B b1 31 [.int .i64 a0.Kind, .int .i64 a0.N, .int .i64 a0.Pos, .int .i64 a0.Type_, .string a0.Symbol, .string a0.Name, .slice A1 n1 c1]]) ?_ ?_
      · skip
        refine WL.mvD rfl rfl rfl rfl (fun h3 => ?_) (fun h3 => ?_)
        · skip
          have hm2 := ifp h3 hm2
          refine WL.on rfl rfl (WL.ev rfl rfl (Ev.fa rfl fo31_6 rfl) (WL.on rfl rfl (WL.ev rfl rfl (Ev.ld rfl ag29 rfl ((H.rB (i := 0) rfl).cell rfl)) (WL.on rfl rfl ?_))))
          have hl1 := (H.rS (i := 2) rfl).I
          refine WL.ev rfl rfl (Ev.lenV rfl el29 rfl (H.rS (i := 2) rfl)) (WL.on rfl rfl (WL.ev rfl rfl (Ev.bin rfl rfl rfl Bin.eql) (WL.ev rfl rfl (Ev.pickT rfl rfl rfl) (WL.nil ?_))))
          obtain rfl := sm hm2
          exact ⟨(decide ((a0.Args.length : Int) = 3)), rfl, ⟨rfl, rfl, rfl, trivial⟩, H.keep 3 1⟩
        · skip
          have hm2 := ifn h3 hm2
          refine WL.off rfl rfl rfl (WL.off rfl rfl rfl (WL.off rfl rfl rfl (WL.off rfl rfl rfl (WL.ev rfl rfl (Ev.pickF rfl rfl rfl) (WL.nil ?_)))))
          obtain rfl := sm hm2
          exact ⟨false, rfl, ⟨rfl, rfl, rfl, trivial⟩, H.keep 3 1⟩
      · rintro ρ' w4 ⟨s2, rfl, hag, H⟩
        obtain ⟨σ, rfl⟩ := ofL_ex hag
        refine WL.ev rfl rfl (Ev.as rfl rfl) (WL.nil ?_)
        refine CW.condB rfl (fun h4 => ?_) (fun h4 => ?_)
        · skip
          have hr := ifp h4 hr
          refine CW.seq (CW.reg ?_)
          refine WL.ev rfl rfl (Ev.fa rfl fo31_6 rfl) (WL.ev rfl rfl (Ev.ld rfl ag29 rfl ((H.rB (i := 0) rfl).cell rfl)) ?_)
          obtain ⟨x1, hx1, hr⟩ := bd hr
          obtain ⟨b2, ob2, cb2, A2, n2, c2, hvb2, hI5, hI6, hI7, hI8, hS3, hS4, H⟩ := ixS_Expr H (i := 2) rfl hx1
          refine WL.ev rfl rfl (Ev.ixVN rfl el29 sz31 rfl hvb2 rfl (lt_of hx1)) (WL.ev rfl rfl (Ev.lda rfl ag31 sz31 rfl (H.rA (i := 3) rfl) rfl) (WL.ev rfl rfl (Ev.mv rfl rfl) ?_))
          obtain ⟨y2, hy2, hr⟩ := bd hr
          refine WL.call rfl rfl rfl rfl rfl ok13 rfl (sUsesAny_ok hy2 (Expr_rd.2 ⟨_, rfl, hI5, hI6, hI7, hI8, hS3, hS4, (H.rS (i := 5) rfl)⟩) (H.rS (i := 1) rfl)) ?_
          rintro _ w5 hE rfl
          have H := H.ext hE
          refine WL.ev rfl rfl (Ev.not rfl rfl) ?_
          obtain ⟨q3, hm3, hr⟩ := bd hr
          refine WL.cut 8 (fun ρ' w => ∃ (s3 : Bool), s3 = q3 ∧ agree ρ' [(1, .slice A1' n1' c1'), (2, .pointer (some ⟨b1, 0, none⟩)), (38, .bool s3)] ∧ HL F0 [] w0 w [Pr.R a0 [.int .i64 a0.Kind, .int .i64 a0.N, .int .i64 a0.Pos, .int .i64 a0.Type_, .string a0.Symbol, .string a0.Name, .slice A1 n1 c1], Pr.S a1 (.slice A1' n1' c1'), Pr.S a0.Args (.slice A1 n1 c1), Pr.A b2 (ob2 + 0 * 7) [.int .i64 x1.Kind, .int .i64 x1.N, .int .i64 x1.Pos, .int .i64 x1.Type_, .string x1.Symbol, .string x1.Name, .slice A2 n2 c2], Pr.R x1 [.int .i64 x1.Kind, .int .i64 x1.N, .int .i64 x1.Pos, .int .i64 x1.Type_, .string x1.Symbol, .string x1.Name, .slice A2 n2 c2], Pr.S x1.Args (.slice A2 n2 c2)] [It.B b1 31 [.int .i64 a0.Kind, .int .i64 a0.N, .int .i64 a0.Pos, .int .i64 a0.Type_, .string a0.Symbol, .string a0.Name, .slice A1 n1 c1]]) ?_ ?_
          · skip
            refine WL.mvBN rfl rfl rfl rfl (fun h5 => ?_) (fun h5 => ?_)
            · skip
              have hm3 := ifn h5 hm3
              refine WL.on rfl rfl (WL.ev rfl rfl (Ev.fa rfl fo31_6 rfl) (WL.on rfl rfl (WL.ev rfl rfl (Ev.ld rfl ag29 rfl ((H.rB (i := 0) rfl).cell rfl)) (WL.on rfl rfl ?_))))
              obtain ⟨x2, hx2, hm3⟩ := bd hm3
              obtain ⟨b3, ob3, cb3, A3, n3, c3, hvb3, hI9, hI10, hI11, hI12, hS5, hS6, H⟩ := ixS_Expr H (i := 2) rfl hx2
              refine WL.ev rfl rfl (Ev.ixVN rfl el29 sz31 rfl hvb3 rfl (lt_of hx2)) (WL.on rfl rfl (WL.ev rfl rfl (Ev.lda rfl ag31 sz31 rfl (H.rA (i := 6) rfl) rfl) (WL.on rfl rfl (WL.ev rfl rfl (Ev.mv rfl rfl) (WL.on rfl rfl ?_)))))
              obtain ⟨y3, hy3, hm3⟩ := bd hm3
              refine WL.call rfl rfl rfl rfl rfl ok19 rfl (ih_sIsMonotone hy3 (Expr_rd.2 ⟨_, rfl, hI9, hI10, hI11, hI12, hS5, hS6, (H.rS (i := 8) rfl)⟩) (H.rS (i := 1) rfl)) ?_
              rintro _ w6 hE rfl
              have H := H.ext hE
              refine WL.ev rfl rfl (Ev.pickT rfl rfl rfl) (WL.nil ?_)
              obtain rfl := sm hm3
              exact ⟨y3, rfl, ⟨rfl, rfl, rfl, trivial⟩, H.keep 6 1⟩
            · skip
              have hm3 := ifp h5 hm3
              refine WL.off rfl rfl rfl (WL.off rfl rfl rfl (WL.off rfl rfl rfl (WL.off rfl rfl rfl (WL.off rfl rfl rfl (WL.off rfl rfl rfl (WL.ev rfl rfl (Ev.pickF rfl rfl rfl) (WL.nil ?_)))))))
              obtain rfl := sm hm3
              exact ⟨false, rfl, ⟨rfl, rfl, rfl, trivial⟩, H.keep 6 1⟩
          · rintro ρ' w7 ⟨s3, rfl, hag, H⟩
            obtain ⟨σ, rfl⟩ := ofL_ex hag
            obtain ⟨q4, hm4, hr⟩ := bd hr
            refine WL.cut 8 (fun ρ' w => ∃ (s4 : Bool), s4 = q4 ∧ agree ρ' [(46, .bool s4)] ∧ HL F0 [] w0 w [Pr.R a0 [.int .i64 a0.Kind, .int .i64 a0.N, .int .i64 a0.Pos, .int .i64 a0.Type_, .string a0.Symbol, .string a0.Name, .slice A1 n1 c1], Pr.S a1 (.slice A1' n1' c1'), Pr.S a0.Args (.slice A1 n1 c1), Pr.A b2 (ob2 + 0 * 7) [.int .i64 x1.Kind, .int .i64 x1.N, .int .i64 x1.Pos, .int .i64 x1.Type_, .string x1.Symbol, .string x1.Name, .slice A2 n2 c2], Pr.R x1 [.int .i64 x1.Kind, .int .i64 x1.N, .int .i64 x1.Pos, .int .i64 x1.Type_, .string x1.Symbol, .string x1.Name, .slice A2 n2 c2], Pr.S x1.Args (.slice A2 n2 c2)] [It.B b1 31 [.int .i64 a0.Kind, .int .i64 a0.N, .int .i64 a0.Pos, .int .i64 a0.Type_, .string a0.Symbol, .string a0.Name, .slice A1 n1 c1]]) ?_ ?_
            · skip
              refine WL.mvB rfl rfl rfl rfl (fun h6 => ?_) (fun h6 => ?_)
              · skip
                have hm4 := ifp h6 hm4
                refine WL.on rfl rfl (WL.ev rfl rfl (Ev.fa rfl fo31_6 rfl) (WL.on rfl rfl (WL.ev rfl rfl (Ev.ld rfl ag29 rfl ((H.rB (i := 0) rfl).cell rfl)) (WL.on rfl rfl ?_))))
                obtain ⟨x3, hx3, hm4⟩ := bd hm4
                obtain ⟨b4, ob4, cb4, A4, n4, c4, hvb4, hI13, hI14, hI15, hI16, hS7, hS8, H⟩ := ixS_Expr H (i := 2) rfl hx3
                refine WL.ev rfl rfl (Ev.ixVN rfl el29 sz31 rfl hvb4 rfl (lt_of hx3)) (WL.on rfl rfl (WL.ev rfl rfl (Ev.lda rfl ag31 sz31 rfl (H.rA (i := 6) rfl) rfl) (WL.on rfl rfl (WL.ev rfl rfl (Ev.mv rfl rfl) (WL.on rfl rfl ?_)))))
                obtain ⟨y4, hy4, hm4⟩ := bd hm4
                refine WL.call rfl rfl rfl rfl rfl ok19 rfl (ih_sIsMonotone hy4 (Expr_rd.2 ⟨_, rfl, hI13, hI14, hI15, hI16, hS7, hS8, (H.rS (i := 8) rfl)⟩) (H.rS (i := 1) rfl)) ?_
                rintro _ w8 hE rfl
                have H := H.ext hE
                refine WL.ev rfl rfl (Ev.pickT rfl rfl rfl) (WL.nil ?_)
                obtain rfl := sm hm4
                exact ⟨y4, rfl, ⟨rfl, trivial⟩, H.keep 6 1⟩
              · skip
                have hm4 := ifn h6 hm4
                refine WL.off rfl rfl rfl (WL.off rfl rfl rfl (WL.off rfl rfl rfl (WL.off rfl rfl rfl (WL.off rfl rfl rfl (WL.off rfl rfl rfl (WL.ev rfl rfl (Ev.pickF rfl rfl rfl) (WL.nil ?_)))))))
                obtain rfl := sm hm4
                exact ⟨false, rfl, ⟨rfl, trivial⟩, H.keep 6 1⟩
            · rintro ρ' w9 ⟨s4, rfl, hag, H⟩
              obtain ⟨σ, rfl⟩ := ofL_ex hag
              refine WL.ev rfl rfl (Ev.as rfl rfl) (WL.nil ?_)
              refine CW.ret ?_
              obtain rfl := sm hr
              exact ⟨_, res1 rfl rfl rfl, H.ext0, rfl⟩
        · skip
          have hr := ifn h4 hr
          refine CW.seq (CW.reg ?_)
          refine WL.ev rfl rfl (Ev.fa rfl fo31_0 rfl) (WL.ev rfl rfl (Ev.ld rfl ag3 rfl ((H.rB (i := 0) rfl).cell rfl)) (WL.ev rfl rfl (Ev.bin rfl rfl rfl Bin.neq) ?_))
          obtain ⟨q5, hm5, hr⟩ := bd hr
          refine WL.cut 6 (fun ρ' w => ∃ (s5 : Bool), s5 = q5 ∧ agree ρ' [(1, .slice A1' n1' c1'), (2, .pointer (some ⟨b1, 0, none⟩)), (56, .bool s5)] ∧ HL F0 [] w0 w [Pr.R a0 [.int .i64 a0.Kind, .int .i64 a0.N, .int .i64 a0.Pos, .int .i64 a0.Type_, .string a0.Symbol, .string a0.Name, .slice A1 n1 c1], Pr.S a1 (.slice A1' n1' c1'), Pr.S a0.Args (.slice A1 n1 c1)] [It.B b1 31 [.int .i64 a0.Kind, .int .i64 a0.N, .int .i64 a0.Pos, .int .i64 a0.Type_, .string a0.Symbol, .string a0.Name, .slice A1 n1 c1]]) ?_ ?_
          · skip
            refine WL.mvN rfl rfl rfl rfl (fun h7 => ?_) (fun h7 => ?_)
            · skip
              have hm5 := ifn h7 hm5
              refine WL.off rfl rfl rfl (WL.off rfl rfl rfl (WL.off rfl rfl rfl (WL.off rfl rfl rfl (WL.ev rfl rfl (Ev.pickT rfl rfl rfl) (WL.nil ?_)))))
              obtain rfl := sm hm5
              exact ⟨true, rfl, ⟨rfl, rfl, rfl, trivial⟩, H.keep 3 1⟩
            · skip
              have hm5 := ifp h7 hm5
              refine WL.on rfl rfl (WL.ev rfl rfl (Ev.fa rfl fo31_6 rfl) (WL.on rfl rfl (WL.ev rfl rfl (Ev.ld rfl ag29 rfl ((H.rB (i := 0) rfl).cell rfl)) (WL.on rfl rfl ?_))))
              have hl2 := (H.rS (i := 2) rfl).I
              refine WL.ev rfl rfl (Ev.lenV rfl el29 rfl (H.rS (i := 2) rfl)) (WL.on rfl rfl (WL.ev rfl rfl (Ev.bin rfl rfl rfl Bin.neq) (WL.ev rfl rfl (Ev.pickF rfl rfl rfl) (WL.nil ?_))))
              obtain rfl := sm hm5
              exact ⟨(!(decide ((a0.Args.length : Int) = 2))), rfl, ⟨rfl, rfl, rfl, trivial⟩, H.keep 3 1⟩
          · rintro ρ' w10 ⟨s5, rfl, hag, H⟩
            obtain ⟨σ, rfl⟩ := ofL_ex hag
            refine WL.ev rfl rfl (Ev.as rfl rfl) (WL.nil ?_)
            refine CW.condB rfl (fun h8 => ?_) (fun h8 => ?_)
            · skip
              have hr := ifp h8 hr
              refine CW.seq (CW.reg ?_)
              refine WL.ev rfl rfl (Ev.as rfl rfl) (WL.nil ?_)
              refine CW.ret ?_
              obtain rfl := sm hr
              exact ⟨_, res1 rfl rfl rfl, H.ext0, rfl⟩
            · skip
              have hr := ifn h8 hr
              refine CW.seq (CW.reg ?_)
              refine WL.ev rfl rfl (Ev.fa rfl fo31_1 rfl) (WL.ev rfl rfl (Ev.ld rfl ag3 rfl ((H.rB (i := 0) rfl).cell rfl)) (WL.ev rfl rfl (Ev.bin rfl rfl rfl Bin.eql) ?_))
              obtain ⟨q6, hm6, hr⟩ := bd hr
              refine WL.cut 5 (fun ρ' w => ∃ (s6 : Bool), s6 = q6 ∧ agree ρ' [(1, .slice A1' n1' c1'), (2, .pointer (some ⟨b1, 0, none⟩)), (65, .bool s6)] ∧ HL F0 [] w0 w [Pr.R a0 [.int .i64 a0.Kind, .int .i64 a0.N, .int .i64 a0.Pos, .int .i64 a0.Type_, .string a0.Symbol, .string a0.Name, .slice A1 n1 c1], Pr.S a1 (.slice A1' n1' c1'), Pr.S a0.Args (.slice A1 n1 c1)] [It.B b1 31 [.int .i64 a0.Kind, .int .i64 a0.N, .int .i64 a0.Pos, .int .i64 a0.Type_, .string a0.Symbol, .string a0.Name, .slice A1 n1 c1]]) ?_ ?_
              · skip
                refine WL.mvD rfl rfl rfl rfl (fun h9 => ?_) (fun h9 => ?_)
                · skip
                  have hm6 := ifp h9 hm6
                  refine WL.off rfl rfl rfl (WL.off rfl rfl rfl (WL.off rfl rfl rfl (WL.ev rfl rfl (Ev.pickT rfl rfl rfl) (WL.nil ?_))))
                  obtain rfl := sm hm6
                  exact ⟨true, rfl, ⟨rfl, rfl, rfl, trivial⟩, H.keep 3 1⟩
                · skip
                  have hm6 := ifn h9 hm6
                  refine WL.on rfl rfl (WL.ev rfl rfl (Ev.fa rfl fo31_1 rfl) (WL.on rfl rfl (WL.ev rfl rfl (Ev.ld rfl ag3 rfl ((H.rB (i := 0) rfl).cell rfl)) (WL.on rfl rfl (WL.ev rfl rfl (Ev.bin rfl rfl rfl Bin.eql) (WL.ev rfl rfl (Ev.pickF rfl rfl rfl) (WL.nil ?_)))))))
                  obtain rfl := sm hm6
                  exact ⟨(decide (a0.N = 7)), rfl, ⟨rfl, rfl, rfl, trivial⟩, H.keep 3 1⟩
              · rintro ρ' w11 ⟨s6, rfl, hag, H⟩
                obtain ⟨σ, rfl⟩ := ofL_ex hag
                refine WL.ev rfl rfl (Ev.as rfl rfl) (WL.nil ?_)
                refine CW.condB rfl (fun h10 => ?_) (fun h10 => ?_)
                · skip
                  have hr := ifp h10 hr
                  refine CW.seq (CW.reg ?_)
                  refine WL.ev rfl rfl (Ev.fa rfl fo31_6 rfl) (WL.ev rfl rfl (Ev.ld rfl ag29 rfl ((H.rB (i := 0) rfl).cell rfl)) ?_)
                  obtain ⟨x4, hx4, hr⟩ := bd hr
                  obtain ⟨b5, ob5, cb5, A5, n5, c5, hvb5, hI17, hI18, hI19, hI20, hS9, hS10, H⟩ := ixS_Expr H (i := 2) rfl hx4
                  refine WL.ev rfl rfl (Ev.ixVN rfl el29 sz31 rfl hvb5 rfl (lt_of hx4)) (WL.ev rfl rfl (Ev.lda rfl ag31 sz31 rfl (H.rA (i := 3) rfl) rfl) (WL.ev rfl rfl (Ev.mv rfl rfl) ?_))
                  obtain ⟨y5, hy5, hr⟩ := bd hr
                  refine WL.call rfl rfl rfl rfl rfl ok19 rfl (ih_sIsMonotone hy5 (Expr_rd.2 ⟨_, rfl, hI17, hI18, hI19, hI20, hS9, hS10, (H.rS (i := 5) rfl)⟩) (H.rS (i := 1) rfl)) ?_
                  rintro _ w12 hE rfl
                  have H := H.ext hE
                  obtain ⟨q7, hm7, hr⟩ := bd hr
                  refine WL.cut 8 (fun ρ' w => ∃ (s7 : Bool), s7 = q7 ∧ agree ρ' [(79, .bool s7)] ∧ HL F0 [] w0 w [Pr.R a0 [.int .i64 a0.Kind, .int .i64 a0.N, .int .i64 a0.Pos, .int .i64 a0.Type_, .string a0.Symbol, .string a0.Name, .slice A1 n1 c1], Pr.S a1 (.slice A1' n1' c1'), Pr.S a0.Args (.slice A1 n1 c1), Pr.A b5 (ob5 + 0 * 7) [.int .i64 x4.Kind, .int .i64 x4.N, .int .i64 x4.Pos, .int .i64 x4.Type_, .string x4.Symbol, .string x4.Name, .slice A5 n5 c5], Pr.R x4 [.int .i64 x4.Kind, .int .i64 x4.N, .int .i64 x4.Pos, .int .i64 x4.Type_, .string x4.Symbol, .string x4.Name, .slice A5 n5 c5], Pr.S x4.Args (.slice A5 n5 c5)] [It.B b1 31 [.int .i64 a0.Kind, .int .i64 a0.N, .int .i64 a0.Pos, .int .i64 a0.Type_, .string a0.Symbol, .string a0.Name, .slice A1 n1 c1]]) ?_ ?_
                  · skip
                    refine WL.mvB rfl rfl rfl rfl (fun h11 => ?_) (fun h11 => ?_)
                    · skip
                      have hm7 := ifp h11 hm7
                      refine WL.on rfl rfl (WL.ev rfl rfl (Ev.fa rfl fo31_6 rfl) (WL.on rfl rfl (WL.ev rfl rfl (Ev.ld rfl ag29 rfl ((H.rB (i := 0) rfl).cell rfl)) (WL.on rfl rfl ?_))))
                      obtain ⟨x5, hx5, hm7⟩ := bd hm7
                      obtain ⟨b6, ob6, cb6, A6, n6, c6, hvb6, hI21, hI22, hI23, hI24, hS11, hS12, H⟩ := ixS_Expr H (i := 2) rfl hx5
                      refine WL.ev rfl rfl (Ev.ixVN rfl el29 sz31 rfl hvb6 rfl (lt_of hx5)) (WL.on rfl rfl (WL.ev rfl rfl (Ev.lda rfl ag31 sz31 rfl (H.rA (i := 6) rfl) rfl) (WL.on rfl rfl (WL.ev rfl rfl (Ev.mv rfl rfl) (WL.on rfl rfl ?_)))))
                      obtain ⟨y6, hy6, hm7⟩ := bd hm7
                      refine WL.call rfl rfl rfl rfl rfl ok19 rfl (ih_sIsMonotone hy6 (Expr_rd.2 ⟨_, rfl, hI21, hI22, hI23, hI24, hS11, hS12, (H.rS (i := 8) rfl)⟩) (H.rS (i := 1) rfl)) ?_
                      rintro _ w13 hE rfl
                      have H := H.ext hE
                      refine WL.ev rfl rfl (Ev.pickT rfl rfl rfl) (WL.nil ?_)
                      obtain rfl := sm hm7
                      exact ⟨y6, rfl, ⟨rfl, trivial⟩, H.keep 6 1⟩
                    · skip
                      have hm7 := ifn h11 hm7
                      refine WL.off rfl rfl rfl (WL.off rfl rfl rfl (WL.off rfl rfl rfl (WL.off rfl rfl rfl (WL.off rfl rfl rfl (WL.off rfl rfl rfl (WL.ev rfl rfl (Ev.pickF rfl rfl rfl) (WL.nil ?_)))))))
                      obtain rfl := sm hm7
                      exact ⟨false, rfl, ⟨rfl, trivial⟩, H.keep 6 1⟩
                  · rintro ρ' w14 ⟨s7, rfl, hag, H⟩
                    obtain ⟨σ, rfl⟩ := ofL_ex hag
                    refine WL.ev rfl rfl (Ev.as rfl rfl) (WL.nil ?_)
                    refine CW.ret ?_
                    obtain rfl := sm hr
                    exact ⟨_, res1 rfl rfl rfl, H.ext0, rfl⟩
                · skip
                  have hr := ifn h10 hr
                  refine CW.seq (CW.reg ?_)
                  refine WL.ev rfl rfl (Ev.fa rfl fo31_1 rfl) (WL.ev rfl rfl (Ev.ld rfl ag3 rfl ((H.rB (i := 0) rfl).cell rfl)) (WL.ev rfl rfl (Ev.bin rfl rfl rfl Bin.eql) ?_))
                  obtain ⟨q8, hm8, hr⟩ := bd hr
                  refine WL.cut 5 (fun ρ' w => ∃ (s8 : Bool), s8 = q8 ∧ agree ρ' [(1, .slice A1' n1' c1'), (2, .pointer (some ⟨b1, 0, none⟩)), (88, .bool s8)] ∧ HL F0 [] w0 w [Pr.R a0 [.int .i64 a0.Kind, .int .i64 a0.N, .int .i64 a0.Pos, .int .i64 a0.Type_, .string a0.Symbol, .string a0.Name, .slice A1 n1 c1], Pr.S a1 (.slice A1' n1' c1'), Pr.S a0.Args (.slice A1 n1 c1)] [It.B b1 31 [.int .i64 a0.Kind, .int .i64 a0.N, .int .i64 a0.Pos, .int .i64 a0.Type_, .string a0.Symbol, .string a0.Name, .slice A1 n1 c1]]) ?_ ?_
                  · skip
                    refine WL.mvD rfl rfl rfl rfl (fun h12 => ?_) (fun h12 => ?_)
                    · skip
                      have hm8 := ifp h12 hm8
                      refine WL.off rfl rfl rfl (WL.off rfl rfl rfl (WL.off rfl rfl rfl (WL.ev rfl rfl (Ev.pickT rfl rfl rfl) (WL.nil ?_))))
                      obtain rfl := sm hm8
                      exact ⟨true, rfl, ⟨rfl, rfl, rfl, trivial⟩, H.keep 3 1⟩
                    · skip
                      have hm8 := ifn h12 hm8
                      refine WL.on rfl rfl (WL.ev rfl rfl (Ev.fa rfl fo31_1 rfl) (WL.on rfl rfl (WL.ev rfl rfl (Ev.ld rfl ag3 rfl ((H.rB (i := 0) rfl).cell rfl)) (WL.on rfl rfl (WL.ev rfl rfl (Ev.bin rfl rfl rfl Bin.eql) (WL.ev rfl rfl (Ev.pickF rfl rfl rfl) (WL.nil ?_)))))))
                      obtain rfl := sm hm8
                      exact ⟨(decide (a0.N = 12)), rfl, ⟨rfl, rfl, rfl, trivial⟩, H.keep 3 1⟩
                  · rintro ρ' w15 ⟨s8, rfl, hag, H⟩
                    obtain ⟨σ, rfl⟩ := ofL_ex hag
                    refine WL.ev rfl rfl (Ev.as rfl rfl) (WL.nil ?_)
                    refine CW.condB rfl (fun h13 => ?_) (fun h13 => ?_)
                    · skip
                      have hr := ifp h13 hr
                      refine CW.seq (CW.reg ?_)
                      refine WL.ev rfl rfl (Ev.fa rfl fo31_6 rfl) (WL.ev rfl rfl (Ev.ld rfl ag29 rfl ((H.rB (i := 0) rfl).cell rfl)) ?_)
                      obtain ⟨x6, hx6, hr⟩ := bd hr
                      obtain ⟨b7, ob7, cb7, A7, n7, c7, hvb7, hI25, hI26, hI27, hI28, hS13, hS14, H⟩ := ixS_Expr H (i := 2) rfl hx6
                      refine WL.ev rfl rfl (Ev.ixVN rfl el29 sz31 rfl hvb7 rfl (lt_of hx6)) (WL.ev rfl rfl (Ev.lda rfl ag31 sz31 rfl (H.rA (i := 3) rfl) rfl) (WL.ev rfl rfl (Ev.mv rfl rfl) ?_))
                      obtain ⟨y7, hy7, hr⟩ := bd hr
                      refine WL.call rfl rfl rfl rfl rfl ok19 rfl (ih_sIsMonotone hy7 (Expr_rd.2 ⟨_, rfl, hI25, hI26, hI27, hI28, hS13, hS14, (H.rS (i := 5) rfl)⟩) (H.rS (i := 1) rfl)) ?_
                      rintro _ w16 hE rfl
                      have H := H.ext hE
                      obtain ⟨q9, hm9, hr⟩ := bd hr
                      refine WL.cut 9 (fun ρ' w => ∃ (s9 : Bool), s9 = q9 ∧ agree ρ' [(103, .bool s9)] ∧ HL F0 [] w0 w [Pr.R a0 [.int .i64 a0.Kind, .int .i64 a0.N, .int .i64 a0.Pos, .int .i64 a0.Type_, .string a0.Symbol, .string a0.Name, .slice A1 n1 c1], Pr.S a1 (.slice A1' n1' c1'), Pr.S a0.Args (.slice A1 n1 c1), Pr.A b7 (ob7 + 0 * 7) [.int .i64 x6.Kind, .int .i64 x6.N, .int .i64 x6.Pos, .int .i64 x6.Type_, .string x6.Symbol, .string x6.Name, .slice A7 n7 c7], Pr.R x6 [.int .i64 x6.Kind, .int .i64 x6.N, .int .i64 x6.Pos, .int .i64 x6.Type_, .string x6.Symbol, .string x6.Name, .slice A7 n7 c7], Pr.S x6.Args (.slice A7 n7 c7)] [It.B b1 31 [.int .i64 a0.Kind, .int .i64 a0.N, .int .i64 a0.Pos, .int .i64 a0.Type_, .string a0.Symbol, .string a0.Name, .slice A1 n1 c1]]) ?_ ?_
                      · skip
                        refine WL.mvB rfl rfl rfl rfl (fun h14 => ?_) (fun h14 => ?_)
                        · skip
                          have hm9 := ifp h14 hm9
                          refine WL.on rfl rfl (WL.ev rfl rfl (Ev.fa rfl fo31_6 rfl) (WL.on rfl rfl (WL.ev rfl rfl (Ev.ld rfl ag29 rfl ((H.rB (i := 0) rfl).cell rfl)) (WL.on rfl rfl ?_))))
                          obtain ⟨x7, hx7, hm9⟩ := bd hm9
                          obtain ⟨b8, ob8, cb8, A8, n8, c8, hvb8, hI29, hI30, hI31, hI32, hS15, hS16, H⟩ := ixS_Expr H (i := 2) rfl hx7
                          refine WL.ev rfl rfl (Ev.ixVN rfl el29 sz31 rfl hvb8 rfl (lt_of hx7)) (WL.on rfl rfl (WL.ev rfl rfl (Ev.lda rfl ag31 sz31 rfl (H.rA (i := 6) rfl) rfl) (WL.on rfl rfl (WL.ev rfl rfl (Ev.mv rfl rfl) (WL.on rfl rfl ?_)))))
                          obtain ⟨y8, hy8, hm9⟩ := bd hm9
                          refine WL.call rfl rfl rfl rfl rfl ok13 rfl (sUsesAny_ok hy8 (Expr_rd.2 ⟨_, rfl, hI29, hI30, hI31, hI32, hS15, hS16, (H.rS (i := 8) rfl)⟩) (H.rS (i := 1) rfl)) ?_
                          rintro _ w17 hE rfl
                          have H := H.ext hE
                          refine WL.on rfl rfl (WL.ev rfl rfl (Ev.not rfl rfl) (WL.ev rfl rfl (Ev.pickT rfl rfl rfl) (WL.nil ?_)))
                          obtain rfl := sm hm9
                          exact ⟨(!y8), rfl, ⟨rfl, trivial⟩, H.keep 6 1⟩
                        · skip
                          have hm9 := ifn h14 hm9
                          refine WL.off rfl rfl rfl (WL.off rfl rfl rfl (WL.off rfl rfl rfl (WL.off rfl rfl rfl (WL.off rfl rfl rfl (WL.off rfl rfl rfl (WL.off rfl rfl rfl (WL.ev rfl rfl (Ev.pickF rfl rfl rfl) (WL.nil ?_))))))))
                          obtain rfl := sm hm9
                          exact ⟨false, rfl, ⟨rfl, trivial⟩, H.keep 6 1⟩
                      · rintro ρ' w18 ⟨s9, rfl, hag, H⟩
                        obtain ⟨σ, rfl⟩ := ofL_ex hag
                        refine WL.ev rfl rfl (Ev.as rfl rfl) (WL.nil ?_)
                        refine CW.ret ?_
                        obtain rfl := sm hr
                        exact ⟨_, res1 rfl rfl rfl, H.ext0, rfl⟩
                    · skip
                      have hr := ifn h13 hr
                      refine CW.skip ?_
                      refine CW.seq (CW.reg ?_)
                      refine WL.ev rfl rfl (Ev.as rfl rfl) (WL.nil ?_)
                      refine CW.ret ?_
                      obtain rfl := sm hr
                      exact ⟨_, res1 rfl rfl rfl, H.ext0, rfl⟩
noncomputable def sIsMonotone_n : Nat → Expr → (List Occurrence) → Option Bool
  | 0, _, _ => none
  | n + 1, a0, a1 => sIsMonotone_B (sIsMonotone_n n) a0 a1
noncomputable def sIsMonotone_m (a0 : Expr) (a1 : (List Occurrence)) : Option Bool := recO fun n => sIsMonotone_n n a0 a1
theorem sIsMonotone_okn (n : Nat) : ∀ {a0 : Expr} {a1 : (List Occurrence)} {r : Bool}, sIsMonotone_n n a0 a1 = some r → ∀ {F0 : Nat → Prop} {w0 : World} {ca0 : List Value} (ha0 : rd F0 w0 a0 ca0) {z1 : Value} (ha1 : rdS F0 w0 a1 z1), Ret Try.prog 19 #[.agg ca0.toArray, z1] w0 (fun _ => False) fun v w => v = .bool r := by
  induction n with
  | zero => intro a0 a1 r hr; exact nomatch (show (none : Option Bool) = some r from hr)
  | succ n ih => intro a0 a1 r hr; exact sIsMonotone_okB ih hr
theorem sIsMonotone_ok {a0 : Expr} {a1 : (List Occurrence)} {r : Bool} (hr : sIsMonotone_m a0 a1 = some r) {F0 : Nat → Prop} {w0 : World} {ca0 : List Value} (ha0 : rd F0 w0 a0 ca0) {z1 : Value} (ha1 : rdS F0 w0 a1 z1) :
    Ret Try.prog 19 #[.agg ca0.toArray, z1] w0 (fun _ => False) fun v w => v = .bool r := by
  obtain ⟨n, hn⟩ := recO_some hr
  exact sIsMonotone_okn n hn ha0 ha1

noncomputable def iIsMonotone_B (rec_iIsMonotone : Expr → (List Occurrence) → Option Bool) (a0 : Expr) (a1 : (List Occurrence)) : Option Bool :=
  (iUsesAny_m a0 a1).bind fun y1 =>
  (
  if y1 = true then (
  some (decide (a0.Kind = 3))
  ) else (
  some true
  )
  ).bind fun s1 =>
  if s1 = true then (
  some true
  ) else (
  (
  if a0.Kind = 4 then (
  some (decide ((a0.Args.length : Int) = 2))
  ) else (
  some false
  )
  ).bind fun s2 =>
  if s2 = true then (
  if a0.N = 6 then (
  if a0.N = 6 then (
  (a0.Args[0]?).bind fun x1 =>
  (rec_iIsMonotone x1 a1).bind fun y2 =>
  (
  if y2 = true then (
  (a0.Args[1]?).bind fun x2 =>
  (rec_iIsMonotone x2 a1).bind fun y3 =>
  some y3
  ) else (
  some false
  )
  ).bind fun s3 =>
  some s3
  ) else (
  if a0.N = 8 then (
  if a0.N = 8 then (
  (a0.Args[0]?).bind fun x3 =>
  (rec_iIsMonotone x3 a1).bind fun y4 =>
  (
  if y4 = true then (
  (a0.Args[1]?).bind fun x4 =>
  (iUsesAny_m x4 a1).bind fun y5 =>
  some (!y5)
  ) else (
  some false
  )
  ).bind fun s4 =>
  some s4
  ) else (
  some false
  )
  ) else (
  if a0.N = 12 then (
  (a0.Args[0]?).bind fun x5 =>
  (rec_iIsMonotone x5 a1).bind fun y6 =>
  if y6 = true then (
  (a0.Args[1]?).bind fun x6 =>
  (iUsesAny_m x6 a1).bind fun y7 =>
  some (!y7)
  ) else (
  some false
  )
  ) else (
  some false
  )
  )
  )
  ) else (
  if a0.N = 7 then (
  (a0.Args[0]?).bind fun x7 =>
  (rec_iIsMonotone x7 a1).bind fun y8 =>
  (
  if y8 = true then (
  (a0.Args[1]?).bind fun x8 =>
  (rec_iIsMonotone x8 a1).bind fun y9 =>
  some y9
  ) else (
  some false
  )
  ).bind fun s5 =>
  some s5
  ) else (
  if a0.N = 8 then (
  if a0.N = 8 then (
  (a0.Args[0]?).bind fun x9 =>
  (rec_iIsMonotone x9 a1).bind fun y10 =>
  (
  if y10 = true then (
  (a0.Args[1]?).bind fun x10 =>
  (iUsesAny_m x10 a1).bind fun y11 =>
  some (!y11)
  ) else (
  some false
  )
  ).bind fun s6 =>
  some s6
  ) else (
  some false
  )
  ) else (
  if a0.N = 12 then (
  (a0.Args[0]?).bind fun x11 =>
  (rec_iIsMonotone x11 a1).bind fun y12 =>
  if y12 = true then (
  (a0.Args[1]?).bind fun x12 =>
  (iUsesAny_m x12 a1).bind fun y13 =>
  some (!y13)
  ) else (
  some false
  )
  ) else (
  some false
  )
  )
  )
  )
  ) else (
  (
  if a0.Kind = 5 then (
  some (decide ((a0.Args.length : Int) = 3))
  ) else (
  some false
  )
  ).bind fun s7 =>
  if s7 = true then (
  (a0.Args[0]?).bind fun x13 =>
  (iUsesAny_m x13 a1).bind fun y14 =>
  (
  if y14 = true then (
  some false
  ) else (
  (a0.Args[1]?).bind fun x14 =>
  (rec_iIsMonotone x14 a1).bind fun y15 =>
  some y15
  )
  ).bind fun s8 =>
  (
  if s8 = true then (
  (a0.Args[2]?).bind fun x15 =>
  (rec_iIsMonotone x15 a1).bind fun y16 =>
  some y16
  ) else (
  some false
  )
  ).bind fun s9 =>
  some s9
  ) else (
  some false
  )
  )
  )
theorem iIsMonotone_okB {rec_iIsMonotone : Expr → (List Occurrence) → Option Bool} (ih_iIsMonotone : ∀ {a0 : Expr} {a1 : (List Occurrence)} {r : Bool}, rec_iIsMonotone a0 a1 = some r → ∀ {F0 : Nat → Prop} {w0 : World} {ca0 : List Value} (ha0 : rd F0 w0 a0 ca0) {z1 : Value} (ha1 : rdS F0 w0 a1 z1), Ret Try.prog 20 #[.agg ca0.toArray, z1] w0 (fun _ => False) fun v w => v = .bool r) {a0 : Expr} {a1 : (List Occurrence)} {r : Bool} (hr : iIsMonotone_B rec_iIsMonotone a0 a1 = some r) {F0 : Nat → Prop} {w0 : World} {ca0 : List Value} (ha0 : rd F0 w0 a0 ca0) {z1 : Value} (ha1 : rdS F0 w0 a1 z1) :
    Ret Try.prog 20 #[.agg ca0.toArray, z1] w0 (fun _ => False) fun v w => v = .bool r := by
  obtain ⟨A1', n1', c1', rfl⟩ := ha1.form3
  have H := ((HL.start F0 w0).argR ha0).argS ha1
  obtain ⟨A1, n1, c1, rfl, hI1, hI2, hI3, hI4, hS1, hS2, H⟩ := op_Expr H (i := 0) rfl
  refine enter Try.func20 rfl rfl rfl ?_
  refine CW.seq (CW.reg ?_)
  refine WL.boxH rfl rfl rfl rfl rfl H fun b1 w1 H => ?_
  refine WL.ev rfl rfl (Ev.as rfl rfl) (WL.nil ?_)
  refine CW.seq (CW.seq (CW.reg ?_))
  refine WL.ev rfl rfl (Ev.lda rfl ag31 sz31 rfl (At.blk (H.rB (i := 0) rfl)) rfl) (WL.ev rfl rfl (Ev.mv rfl rfl) ?_)
  obtain ⟨y1, hy1, hr⟩ := bd hr
  refine WL.call rfl rfl rfl rfl rfl ok16 rfl (iUsesAny_ok hy1 (Expr_rd.2 ⟨_, rfl, hI1, hI2, hI3, hI4, hS1, hS2, (H.rS (i := 2) rfl)⟩) (H.rS (i := 1) rfl)) ?_
  rintro _ w2 hE rfl
  have H := H.ext hE
  refine WL.ev rfl rfl (Ev.not rfl rfl) ?_
  obtain ⟨q1, hm1, hr⟩ := bd hr
  refine WL.cut 5 (fun ρ' w => ∃ (s1 : Bool), s1 = q1 ∧ agree ρ' [(1, .slice A1' n1' c1'), (2, .pointer (some ⟨b1, 0, none⟩)), (13, .bool s1)] ∧ HL F0 [] w0 w [Pr.R a0 [.int .i64 a0.Kind, .int .i64 a0.N, .int .i64 a0.Pos, .int .i64 a0.Type_, .string a0.Symbol, .string a0.Name, .slice A1 n1 c1], Pr.S a1 (.slice A1' n1' c1'), Pr.S a0.Args (.slice A1 n1 c1)] [It.B b1 31 [.int .i64 a0.Kind, .int .i64 a0.N, .int .i64 a0.Pos, .int .i64 a0.Type_, .string a0.Symbol, .string a0.Name, .slice A1 n1 c1]]) ?_ ?_
  · skip
    refine WL.mvBN rfl rfl rfl rfl (fun h1 => ?_) (fun h1 => ?_)
    · skip
      have hm1 := ifn h1 hm1
      refine WL.off rfl rfl rfl (WL.off rfl rfl rfl (WL.off rfl rfl rfl (WL.ev rfl rfl (Ev.pickT rfl rfl rfl) (WL.nil ?_))))
      obtain rfl := sm hm1
      exact ⟨true, rfl, ⟨rfl, rfl, rfl, trivial⟩, H.keep 3 1⟩
    · skip
      have hm1 := ifp h1 hm1
      refine WL.on rfl rfl (WL.ev rfl rfl (Ev.fa rfl fo31_0 rfl) (WL.on rfl rfl (WL.ev rfl rfl (Ev.ld rfl ag3 rfl ((H.rB (i := 0) rfl).cell rfl)) (WL.on rfl rfl (WL.ev rfl rfl (Ev.bin rfl rfl rfl Bin.eql) (WL.ev rfl rfl (Ev.pickF rfl rfl rfl) (WL.nil ?_)))))))
      obtain rfl := sm hm1
      exact ⟨(decide (a0.Kind = 3)), rfl, ⟨rfl, rfl, rfl, trivial⟩, H.keep 3 1⟩
  · rintro ρ' w3 ⟨s1, rfl, hag, H⟩
    obtain ⟨σ, rfl⟩ := ofL_ex hag
    refine WL.nil ?_
    refine CW.condB rfl (fun h2 => ?_) (fun h2 => ?_)
    · skip
      have hr := ifp h2 hr
      refine CW.seq (CW.reg ?_)
      refine WL.ev rfl rfl (Ev.as rfl rfl) (WL.nil ?_)
      refine CW.ret ?_
      obtain rfl := sm hr
      exact ⟨_, res1 rfl rfl rfl, H.ext0, rfl⟩
    · skip
      have hr := ifn h2 hr
      refine CW.skip ?_
      refine CW.seq (CW.block (CW.seq (CW.reg ?_)))
      refine WL.ev rfl rfl (Ev.fa rfl fo31_0 rfl) (WL.ev rfl rfl (Ev.ld rfl ag3 rfl ((H.rB (i := 0) rfl).cell rfl)) (WL.ev rfl rfl (Ev.bin rfl rfl rfl Bin.eql) ?_))
      obtain ⟨q2, hm2, hr⟩ := bd hr
      refine WL.cut 6 (fun ρ' w => ∃ (s2 : Bool), s2 = q2 ∧ agree ρ' [(1, .slice A1' n1' c1'), (2, .pointer (some ⟨b1, 0, none⟩)), (23, .bool s2)] ∧ HL F0 [] w0 w [Pr.R a0 [.int .i64 a0.Kind, .int .i64 a0.N, .int .i64 a0.Pos, .int .i64 a0.Type_, .string a0.Symbol, .string a0.Name, .slice A1 n1 c1], Pr.S a1 (.slice A1' n1' c1'), Pr.S a0.Args (.slice A1 n1 c1)] [It.B b1 31 [.int .i64 a0.Kind, .int .i64 a0.N, .int .i64 a0.Pos, .int .i64 a0.Type_, .string a0.Symbol, .string a0.Name, .slice A1 n1 c1]]) ?_ ?_
      · skip
        refine WL.mvD rfl rfl rfl rfl (fun h3 => ?_) (fun h3 => ?_)
        · skip
          have hm2 := ifp h3 hm2
          refine WL.on rfl rfl (WL.ev rfl rfl (Ev.fa rfl fo31_6 rfl) (WL.on rfl rfl (WL.ev rfl rfl (Ev.ld rfl ag29 rfl ((H.rB (i := 0) rfl).cell rfl)) (WL.on rfl rfl ?_))))
          have hl1 := (H.rS (i := 2) rfl).I
          refine WL.ev rfl rfl (Ev.lenV rfl el29 rfl (H.rS (i := 2) rfl)) (WL.on rfl rfl (WL.ev rfl rfl (Ev.bin rfl rfl rfl Bin.eql) (WL.ev rfl rfl (Ev.pickT rfl rfl rfl) (WL.nil ?_))))
          obtain rfl := sm hm2
          exact ⟨(decide ((a0.Args.length : Int) = 2)), rfl, ⟨rfl, rfl, rfl, trivial⟩, H.keep 3 1⟩
        · skip
          have hm2 := ifn h3 hm2
          refine WL.off rfl rfl rfl (WL.off rfl rfl rfl (WL.off rfl rfl rfl (WL.off rfl rfl rfl (WL.ev rfl rfl (Ev.pickF rfl rfl rfl) (WL.nil ?_)))))
          obtain rfl := sm hm2
          exact ⟨false, rfl, ⟨rfl, rfl, rfl, trivial⟩, H.keep 3 1⟩
      · rintro ρ' w4 ⟨s2, rfl, hag, H⟩
        obtain ⟨σ, rfl⟩ := ofL_ex hag
        refine WL.ev rfl rfl (Ev.as rfl rfl) (WL.nil ?_)
        refine CW.condB rfl (fun h4 => ?_) (fun h4 => ?_)
        · skip
          have hr := ifp h4 hr
          refine CW.seq (CW.reg ?_)
          refine WL.ev rfl rfl (Ev.fa rfl fo31_1 rfl) (WL.ev rfl rfl (Ev.ld rfl ag3 rfl ((H.rB (i := 0) rfl).cell rfl)) (WL.nil ?_))
          refine CW.block (CW.seq (CW.seq (CW.reg ?_)))
          refine WL.ev rfl rfl (Ev.bin rfl rfl rfl Bin.eql) (WL.ev rfl rfl (Ev.as rfl rfl) (WL.nil ?_))
          refine CW.condD rfl (fun h5 => ?_) (fun h5 => ?_)
          · skip
            have hr := ifp h5 hr
            refine CW.skip ?_
            refine CW.condD rfl (fun h6 => ?_) (fun h6 => ?_)
            · skip
              have hr := ifp h6 hr
              refine CW.seq (CW.reg ?_)
              refine WL.ev rfl rfl (Ev.fa rfl fo31_6 rfl) (WL.ev rfl rfl (Ev.ld rfl ag29 rfl ((H.rB (i := 0) rfl).cell rfl)) ?_)
              obtain ⟨x1, hx1, hr⟩ := bd hr
              obtain ⟨b2, ob2, cb2, A2, n2, c2, hvb2, hI5, hI6, hI7, hI8, hS3, hS4, H⟩ := ixS_Expr H (i := 2) rfl hx1
              refine WL.ev rfl rfl (Ev.ixVN rfl el29 sz31 rfl hvb2 rfl (lt_of hx1)) (WL.ev rfl rfl (Ev.lda rfl ag31 sz31 rfl (H.rA (i := 3) rfl) rfl) (WL.ev rfl rfl (Ev.mv rfl rfl) ?_))
              obtain ⟨y2, hy2, hr⟩ := bd hr
              refine WL.call rfl rfl rfl rfl rfl ok20 rfl (ih_iIsMonotone hy2 (Expr_rd.2 ⟨_, rfl, hI5, hI6, hI7, hI8, hS3, hS4, (H.rS (i := 5) rfl)⟩) (H.rS (i := 1) rfl)) ?_
              rintro _ w5 hE rfl
              have H := H.ext hE
              obtain ⟨q3, hm3, hr⟩ := bd hr
              refine WL.cut 8 (fun ρ' w => ∃ (s3 : Bool), s3 = q3 ∧ agree ρ' [(42, .bool s3)] ∧ HL F0 [] w0 w [Pr.R a0 [.int .i64 a0.Kind, .int .i64 a0.N, .int .i64 a0.Pos, .int .i64 a0.Type_, .string a0.Symbol, .string a0.Name, .slice A1 n1 c1], Pr.S a1 (.slice A1' n1' c1'), Pr.S a0.Args (.slice A1 n1 c1), Pr.A b2 (ob2 + 0 * 7) [.int .i64 x1.Kind, .int .i64 x1.N, .int .i64 x1.Pos, .int .i64 x1.Type_, .string x1.Symbol, .string x1.Name, .slice A2 n2 c2], Pr.R x1 [.int .i64 x1.Kind, .int .i64 x1.N, .int .i64 x1.Pos, .int .i64 x1.Type_, .string x1.Symbol, .string x1.Name, .slice A2 n2 c2], Pr.S x1.Args (.slice A2 n2 c2)] [It.B b1 31 [.int .i64 a0.Kind, .int .i64 a0.N, .int .i64 a0.Pos, .int .i64 a0.Type_, .string a0.Symbol, .string a0.Name, .slice A1 n1 c1]]) ?_ ?_
              · skip
                refine WL.mvB rfl rfl rfl rfl (fun h7 => ?_) (fun h7 => ?_)
                · skip
                  have hm3 := ifp h7 hm3
                  refine WL.on rfl rfl (WL.ev rfl rfl (Ev.fa rfl fo31_6 rfl) (WL.on rfl rfl (WL.ev rfl rfl (Ev.ld rfl ag29 rfl ((H.rB (i := 0) rfl).cell rfl)) (WL.on rfl rfl ?_))))
                  obtain ⟨x2, hx2, hm3⟩ := bd hm3
                  obtain ⟨b3, ob3, cb3, A3, n3, c3, hvb3, hI9, hI10, hI11, hI12, hS5, hS6, H⟩ := ixS_Expr H (i := 2) rfl hx2
                  refine WL.ev rfl rfl (Ev.ixVN rfl el29 sz31 rfl hvb3 rfl (lt_of hx2)) (WL.on rfl rfl (WL.ev rfl rfl (Ev.lda rfl ag31 sz31 rfl (H.rA (i := 6) rfl) rfl) (WL.on rfl rfl (WL.ev rfl rfl (Ev.mv rfl rfl) (WL.on rfl rfl ?_)))))
                  obtain ⟨y3, hy3, hm3⟩ := bd hm3
                  refine WL.call rfl rfl rfl rfl rfl ok20 rfl (ih_iIsMonotone hy3 (Expr_rd.2 ⟨_, rfl, hI9, hI10, hI11, hI12, hS5, hS6, (H.rS (i := 8) rfl)⟩) (H.rS (i := 1) rfl)) ?_
                  rintro _ w6 hE rfl
                  have H := H.ext hE
                  refine WL.ev rfl rfl (Ev.pickT rfl rfl rfl) (WL.nil ?_)
                  obtain rfl := sm hm3
                  exact ⟨y3, rfl, ⟨rfl, trivial⟩, H.keep 6 1⟩
                · skip
                  have hm3 := ifn h7 hm3
                  refine WL.off rfl rfl rfl (WL.off rfl rfl rfl (WL.off rfl rfl rfl (WL.off rfl rfl rfl (WL.off rfl rfl rfl (WL.off rfl rfl rfl (WL.ev rfl rfl (Ev.pickF rfl rfl rfl) (WL.nil ?_)))))))
                  obtain rfl := sm hm3
                  exact ⟨false, rfl, ⟨rfl, trivial⟩, H.keep 6 1⟩
              · rintro ρ' w7 ⟨s3, rfl, hag, H⟩
                obtain ⟨σ, rfl⟩ := ofL_ex hag
                refine WL.ev rfl rfl (Ev.as rfl rfl) (WL.nil ?_)
                refine CW.ret ?_
                obtain rfl := sm hr
                exact ⟨_, res1 rfl rfl rfl, H.ext0, rfl⟩
            · skip
              have hr := ifn h6 hr
              refine CW.seq (CW.seq (CW.reg ?_))
              refine WL.ev rfl rfl (Ev.bin rfl rfl rfl Bin.eql) (WL.ev rfl rfl (Ev.as rfl rfl) (WL.nil ?_))
              refine CW.condD rfl (fun h8 => ?_) (fun h8 => ?_)
              · skip
                have hr := ifp h8 hr
                refine CW.skip ?_
                refine CW.condD rfl (fun h9 => ?_) (fun h9 => ?_)
                · skip
                  have hr := ifp h9 hr
                  refine CW.seq (CW.reg ?_)
                  refine WL.ev rfl rfl (Ev.fa rfl fo31_6 rfl) (WL.ev rfl rfl (Ev.ld rfl ag29 rfl ((H.rB (i := 0) rfl).cell rfl)) ?_)
                  obtain ⟨x3, hx3, hr⟩ := bd hr
                  obtain ⟨b4, ob4, cb4, A4, n4, c4, hvb4, hI13, hI14, hI15, hI16, hS7, hS8, H⟩ := ixS_Expr H (i := 2) rfl hx3
                  refine WL.ev rfl rfl (Ev.ixVN rfl el29 sz31 rfl hvb4 rfl (lt_of hx3)) (WL.ev rfl rfl (Ev.lda rfl ag31 sz31 rfl (H.rA (i := 3) rfl) rfl) (WL.ev rfl rfl (Ev.mv rfl rfl) ?_))
                  obtain ⟨y4, hy4, hr⟩ := bd hr
                  refine WL.call rfl rfl rfl rfl rfl ok20 rfl (ih_iIsMonotone hy4 (Expr_rd.2 ⟨_, rfl, hI13, hI14, hI15, hI16, hS7, hS8, (H.rS (i := 5) rfl)⟩) (H.rS (i := 1) rfl)) ?_
                  rintro _ w8 hE rfl
                  have H := H.ext hE
                  obtain ⟨q4, hm4, hr⟩ := bd hr
                  refine WL.cut 9 (fun ρ' w => ∃ (s4 : Bool), s4 = q4 ∧ agree ρ' [(60, .bool s4)] ∧ HL F0 [] w0 w [Pr.R a0 [.int .i64 a0.Kind, .int .i64 a0.N, .int .i64 a0.Pos, .int .i64 a0.Type_, .string a0.Symbol, .string a0.Name, .slice A1 n1 c1], Pr.S a1 (.slice A1' n1' c1'), Pr.S a0.Args (.slice A1 n1 c1), Pr.A b4 (ob4 + 0 * 7) [.int .i64 x3.Kind, .int .i64 x3.N, .int .i64 x3.Pos, .int .i64 x3.Type_, .string x3.Symbol, .string x3.Name, .slice A4 n4 c4], Pr.R x3 [.int .i64 x3.Kind, .int .i64 x3.N, .int .i64 x3.Pos, .int .i64 x3.Type_, .string x3.Symbol, .string x3.Name, .slice A4 n4 c4], Pr.S x3.Args (.slice A4 n4 c4)] [It.B b1 31 [.int .i64 a0.Kind, .int .i64 a0.N, .int .i64 a0.Pos, .int .i64 a0.Type_, .string a0.Symbol, .string a0.Name, .slice A1 n1 c1]]) ?_ ?_
                  · skip
                    refine WL.mvB rfl rfl rfl rfl (fun h10 => ?_) (fun h10 => ?_)
                    · skip
                      have hm4 := ifp h10 hm4
                      refine WL.on rfl rfl (WL.ev rfl rfl (Ev.fa rfl fo31_6 rfl) (WL.on rfl rfl (WL.ev rfl rfl (Ev.ld rfl ag29 rfl ((H.rB (i := 0) rfl).cell rfl)) (WL.on rfl rfl ?_))))
                      obtain ⟨x4, hx4, hm4⟩ := bd hm4
                      obtain ⟨b5, ob5, cb5, A5, n5, c5, hvb5, hI17, hI18, hI19, hI20, hS9, hS10, H⟩ := ixS_Expr H (i := 2) rfl hx4
                      refine WL.ev rfl rfl (Ev.ixVN rfl el29 sz31 rfl hvb5 rfl (lt_of hx4)) (WL.on rfl rfl (WL.ev rfl rfl (Ev.lda rfl ag31 sz31 rfl (H.rA (i := 6) rfl) rfl) (WL.on rfl rfl (WL.ev rfl rfl (Ev.mv rfl rfl) (WL.on rfl rfl ?_)))))
                      obtain ⟨y5, hy5, hm4⟩ := bd hm4
                      refine WL.call rfl rfl rfl rfl rfl ok16 rfl (iUsesAny_ok hy5 (Expr_rd.2 ⟨_, rfl, hI17, hI18, hI19, hI20, hS9, hS10, (H.rS (i := 8) rfl)⟩) (H.rS (i := 1) rfl)) ?_
                      rintro _ w9 hE rfl
                      have H := H.ext hE
                      refine WL.on rfl rfl (WL.ev rfl rfl (Ev.not rfl rfl) (WL.ev rfl rfl (Ev.pickT rfl rfl rfl) (WL.nil ?_)))
                      obtain rfl := sm hm4
                      exact ⟨(!y5), rfl, ⟨rfl, trivial⟩, H.keep 6 1⟩
                    · skip
                      have hm4 := ifn h10 hm4
                      refine WL.off rfl rfl rfl (WL.off rfl rfl rfl (WL.off rfl rfl rfl (WL.off rfl rfl rfl (WL.off rfl rfl rfl (WL.off rfl rfl rfl (WL.off rfl rfl rfl (WL.ev rfl rfl (Ev.pickF rfl rfl rfl) (WL.nil ?_))))))))
                      obtain rfl := sm hm4
                      exact ⟨false, rfl, ⟨rfl, trivial⟩, H.keep 6 1⟩
                  · rintro ρ' w10 ⟨s4, rfl, hag, H⟩
                    obtain ⟨σ, rfl⟩ := ofL_ex hag
                    refine WL.ev rfl rfl (Ev.as rfl rfl) (WL.nil ?_)
                    refine CW.ret ?_
                    obtain rfl := sm hr
                    exact ⟨_, res1 rfl rfl rfl, H.ext0, rfl⟩
                · skip
                  have hr := ifn h9 hr
                  refine CW.skip ?_
                  refine CW.seq (CW.reg ?_)
                  refine WL.ev rfl rfl (Ev.as rfl rfl) (WL.nil ?_)
                  refine CW.ret ?_
                  obtain rfl := sm hr
                  exact ⟨_, res1 rfl rfl rfl, H.ext0, rfl⟩
              · skip
                have hr := ifn h8 hr
                refine CW.reg ?_
                refine WL.ev rfl rfl (Ev.bin rfl rfl rfl Bin.eql) (WL.ev rfl rfl (Ev.as rfl rfl) (WL.nil ?_))
                refine CW.condD rfl (fun h11 => ?_) (fun h11 => ?_)
                · skip
                  have hr := ifp h11 hr
                  refine CW.seq (CW.reg ?_)
                  refine WL.ev rfl rfl (Ev.fa rfl fo31_6 rfl) (WL.ev rfl rfl (Ev.ld rfl ag29 rfl ((H.rB (i := 0) rfl).cell rfl)) ?_)
                  obtain ⟨x5, hx5, hr⟩ := bd hr
                  obtain ⟨b6, ob6, cb6, A6, n6, c6, hvb6, hI21, hI22, hI23, hI24, hS11, hS12, H⟩ := ixS_Expr H (i := 2) rfl hx5
                  refine WL.ev rfl rfl (Ev.ixVN rfl el29 sz31 rfl hvb6 rfl (lt_of hx5)) (WL.ev rfl rfl (Ev.lda rfl ag31 sz31 rfl (H.rA (i := 3) rfl) rfl) (WL.ev rfl rfl (Ev.mv rfl rfl) ?_))
                  obtain ⟨y6, hy6, hr⟩ := bd hr
                  refine WL.call rfl rfl rfl rfl rfl ok20 rfl (ih_iIsMonotone hy6 (Expr_rd.2 ⟨_, rfl, hI21, hI22, hI23, hI24, hS11, hS12, (H.rS (i := 5) rfl)⟩) (H.rS (i := 1) rfl)) ?_
                  rintro _ w11 hE rfl
                  have H := H.ext hE
                  refine WL.mvB rfl rfl rfl rfl (fun h12 => ?_) (fun h12 => ?_)
                  · skip
                    have hr := ifp h12 hr
                    refine WL.on rfl rfl (WL.ev rfl rfl (Ev.fa rfl fo31_6 rfl) (WL.on rfl rfl (WL.ev rfl rfl (Ev.ld rfl ag29 rfl ((H.rB (i := 0) rfl).cell rfl)) (WL.on rfl rfl ?_))))
                    obtain ⟨x6, hx6, hr⟩ := bd hr
                    obtain ⟨b7, ob7, cb7, A7, n7, c7, hvb7, hI25, hI26, hI27, hI28, hS13, hS14, H⟩ := ixS_Expr H (i := 2) rfl hx6
                    refine WL.ev rfl rfl (Ev.ixVN rfl el29 sz31 rfl hvb7 rfl (lt_of hx6)) (WL.on rfl rfl (WL.ev rfl rfl (Ev.lda rfl ag31 sz31 rfl (H.rA (i := 6) rfl) rfl) (WL.on rfl rfl (WL.ev rfl rfl (Ev.mv rfl rfl) (WL.on rfl rfl ?_)))))
                    obtain ⟨y7, hy7, hr⟩ := bd hr
                    refine WL.call rfl rfl rfl rfl rfl ok16 rfl (iUsesAny_ok hy7 (Expr_rd.2 ⟨_, rfl, hI25, hI26, hI27, hI28, hS13, hS14, (H.rS (i := 8) rfl)⟩) (H.rS (i := 1) rfl)) ?_
                    rintro _ w12 hE rfl
                    have H := H.ext hE
                    refine WL.on rfl rfl (WL.ev rfl rfl (Ev.not rfl rfl) (WL.ev rfl rfl (Ev.pickT rfl rfl rfl) (WL.ev rfl rfl (Ev.as rfl rfl) (WL.nil ?_))))
                    refine CW.ret ?_
                    obtain rfl := sm hr
                    exact ⟨_, res1 rfl rfl rfl, H.ext0, rfl⟩
                  · skip
                    have hr := ifn h12 hr
                    refine WL.off rfl rfl rfl (WL.off rfl rfl rfl (WL.off rfl rfl rfl (WL.off rfl rfl rfl (WL.off rfl rfl rfl (WL.off rfl rfl rfl (WL.off rfl rfl rfl (WL.ev rfl rfl (Ev.pickF rfl rfl rfl) (WL.ev rfl rfl (Ev.as rfl rfl) (WL.nil ?_)))))))))
                    refine CW.ret ?_
                    obtain rfl := sm hr
                    exact ⟨_, res1 rfl rfl rfl, H.ext0, rfl⟩
                · skip
                  have hr := ifn h11 hr
                  refine CW.skip ?_
                  refine CW.seq (CW.reg ?_)
                  refine WL.ev rfl rfl (Ev.as rfl rfl) (WL.nil ?_)
                  refine CW.ret ?_
                  obtain rfl := sm hr
                  exact ⟨_, res1 rfl rfl rfl, H.ext0, rfl⟩
          · skip
            have hr := ifn h5 hr
            refine CW.reg ?_
            refine WL.ev rfl rfl (Ev.bin rfl rfl rfl Bin.eql) (WL.ev rfl rfl (Ev.as rfl rfl) (WL.nil ?_))
            refine CW.condD rfl (fun h13 => ?_) (fun h13 => ?_)
            · skip
              have hr := ifp h13 hr
              refine CW.seq (CW.reg ?_)
              refine WL.ev rfl rfl (Ev.fa rfl fo31_6 rfl) (WL.ev rfl rfl (Ev.ld rfl ag29 rfl ((H.rB (i := 0) rfl).cell rfl)) ?_)
              obtain ⟨x7, hx7, hr⟩ := bd hr
              obtain ⟨b8, ob8, cb8, A8, n8, c8, hvb8, hI29, hI30, hI31, hI32, hS15, hS16, H⟩ := ixS_Expr H (i := 2) rfl hx7
              refine WL.ev rfl rfl (Ev.ixVN rfl el29 sz31 rfl hvb8 rfl (lt_of hx7)) (WL.ev rfl rfl (Ev.lda rfl ag31 sz31 rfl (H.rA (i := 3) rfl) rfl) (WL.ev rfl rfl (Ev.mv rfl rfl) ?_))
              obtain ⟨y8, hy8, hr⟩ := bd hr
              refine WL.call rfl rfl rfl rfl rfl ok20 rfl (ih_iIsMonotone hy8 (Expr_rd.2 ⟨_, rfl, hI29, hI30, hI31, hI32, hS15, hS16, (H.rS (i := 5) rfl)⟩) (H.rS (i := 1) rfl)) ?_
              rintro _ w13 hE rfl
              have H := H.ext hE
              obtain ⟨q5, hm5, hr⟩ := bd hr
              refine WL.cut 8 (fun ρ' w => ∃ (s5 : Bool), s5 = q5 ∧ agree ρ' [(42, .bool s5)] ∧ HL F0 [] w0 w [Pr.R a0 [.int .i64 a0.Kind, .int .i64 a0.N, .int .i64 a0.Pos, .int .i64 a0.Type_, .string a0.Symbol, .string a0.Name, .slice A1 n1 c1], Pr.S a1 (.slice A1' n1' c1'), Pr.S a0.Args (.slice A1 n1 c1), Pr.A b8 (ob8 + 0 * 7) [.int .i64 x7.Kind, .int .i64 x7.N, .int .i64 x7.Pos, .int .i64 x7.Type_, .string x7.Symbol, .string x7.Name, .slice A8 n8 c8], Pr.R x7 [.int .i64 x7.Kind, .int .i64 x7.N, .int .i64 x7.Pos, .int .i64 x7.Type_, .string x7.Symbol, .string x7.Name, .slice A8 n8 c8], Pr.S x7.Args (.slice A8 n8 c8)] [It.B b1 31 [.int .i64 a0.Kind, .int .i64 a0.N, .int .i64 a0.Pos, .int .i64 a0.Type_, .string a0.Symbol, .string a0.Name, .slice A1 n1 c1]]) ?_ ?_
              · skip
                refine WL.mvB rfl rfl rfl rfl (fun h14 => ?_) (fun h14 => ?_)
                · skip
                  have hm5 := ifp h14 hm5
                  refine WL.on rfl rfl (WL.ev rfl rfl (Ev.fa rfl fo31_6 rfl) (WL.on rfl rfl (WL.ev rfl rfl (Ev.ld rfl ag29 rfl ((H.rB (i := 0) rfl).cell rfl)) (WL.on rfl rfl ?_))))
                  obtain ⟨x8, hx8, hm5⟩ := bd hm5
                  obtain ⟨b9, ob9, cb9, A9, n9, c9, hvb9, hI33, hI34, hI35, hI36, hS17, hS18, H⟩ := ixS_Expr H (i := 2) rfl hx8
                  refine WL.ev rfl rfl (Ev.ixVN rfl el29 sz31 rfl hvb9 rfl (lt_of hx8)) (WL.on rfl rfl (WL.ev rfl rfl (Ev.lda rfl ag31 sz31 rfl (H.rA (i := 6) rfl) rfl) (WL.on rfl rfl (WL.ev rfl rfl (Ev.mv rfl rfl) (WL.on rfl rfl ?_)))))
                  obtain ⟨y9, hy9, hm5⟩ := bd hm5
                  refine WL.call rfl rfl rfl rfl rfl ok20 rfl (ih_iIsMonotone hy9 (Expr_rd.2 ⟨_, rfl, hI33, hI34, hI35, hI36, hS17, hS18, (H.rS (i := 8) rfl)⟩) (H.rS (i := 1) rfl)) ?_
                  rintro _ w14 hE rfl
                  have H := H.ext hE
                  refine WL.ev rfl rfl (Ev.pickT rfl rfl rfl) (WL.nil ?_)
                  obtain rfl := sm hm5
                  exact ⟨y9, rfl, ⟨rfl, trivial⟩, H.keep 6 1⟩
                · skip
                  have hm5 := ifn h14 hm5
                  refine WL.off rfl rfl rfl (WL.off rfl rfl rfl (WL.off rfl rfl rfl (WL.off rfl rfl rfl (WL.off rfl rfl rfl (WL.off rfl rfl rfl (WL.ev rfl rfl (Ev.pickF rfl rfl rfl) (WL.nil ?_)))))))
                  obtain rfl := sm hm5
                  exact ⟨false, rfl, ⟨rfl, trivial⟩, H.keep 6 1⟩
              · rintro ρ' w15 ⟨s5, rfl, hag, H⟩
                obtain ⟨σ, rfl⟩ := ofL_ex hag
                refine WL.ev rfl rfl (Ev.as rfl rfl) (WL.nil ?_)
                refine CW.ret ?_
                obtain rfl := sm hr
                exact ⟨_, res1 rfl rfl rfl, H.ext0, rfl⟩
            · skip
              have hr := ifn h13 hr
              refine CW.seq (CW.seq (CW.reg ?_))
              refine WL.ev rfl rfl (Ev.bin rfl rfl rfl Bin.eql) (WL.ev rfl rfl (Ev.as rfl rfl) (WL.nil ?_))
              refine CW.condD rfl (fun h15 => ?_) (fun h15 => ?_)
              · skip
                have hr := ifp h15 hr
                refine CW.skip ?_
                refine CW.condD rfl (fun h16 => ?_) (fun h16 => ?_)
                · skip
                  have hr := ifp h16 hr
                  refine CW.seq (CW.reg ?_)
                  refine WL.ev rfl rfl (Ev.fa rfl fo31_6 rfl) (WL.ev rfl rfl (Ev.ld rfl ag29 rfl ((H.rB (i := 0) rfl).cell rfl)) ?_)
                  obtain ⟨x9, hx9, hr⟩ := bd hr
                  obtain ⟨b10, ob10, cb10, A10, n10, c10, hvb10, hI37, hI38, hI39, hI40, hS19, hS20, H⟩ := ixS_Expr H (i := 2) rfl hx9
                  refine WL.ev rfl rfl (Ev.ixVN rfl el29 sz31 rfl hvb10 rfl (lt_of hx9)) (WL.ev rfl rfl (Ev.lda rfl ag31 sz31 rfl (H.rA (i := 3) rfl) rfl) (WL.ev rfl rfl (Ev.mv rfl rfl) ?_))
                  obtain ⟨y10, hy10, hr⟩ := bd hr
                  refine WL.call rfl rfl rfl rfl rfl ok20 rfl (ih_iIsMonotone hy10 (Expr_rd.2 ⟨_, rfl, hI37, hI38, hI39, hI40, hS19, hS20, (H.rS (i := 5) rfl)⟩) (H.rS (i := 1) rfl)) ?_
                  rintro _ w16 hE rfl
                  have H := H.ext hE
                  obtain ⟨q6, hm6, hr⟩ := bd hr
                  refine WL.cut 9 (fun ρ' w => ∃ (s6 : Bool), s6 = q6 ∧ agree ρ' [(60, .bool s6)] ∧ HL F0 [] w0 w [Pr.R a0 [.int .i64 a0.Kind, .int .i64 a0.N, .int .i64 a0.Pos, .int .i64 a0.Type_, .string a0.Symbol, .string a0.Name, .slice A1 n1 c1], Pr.S a1 (.slice A1' n1' c1'), Pr.S a0.Args (.slice A1 n1 c1), Pr.A b10 (ob10 + 0 * 7) [.int .i64 x9.Kind, .int .i64 x9.N, .int .i64 x9.Pos, .int .i64 x9.Type_, .string x9.Symbol, .string x9.Name, .slice A10 n10 c10], Pr.R x9 [.int .i64 x9.Kind, .int .i64 x9.N, .int .i64 x9.Pos, .int .i64 x9.Type_, .string x9.Symbol, .string x9.Name, .slice A10 n10 c10], Pr.S x9.Args (.slice A10 n10 c10)] [It.B b1 31 [.int .i64 a0.Kind, .int .i64 a0.N, .int .i64 a0.Pos, .int .i64 a0.Type_, .string a0.Symbol, .string a0.Name, .slice A1 n1 c1]]) ?_ ?_
                  · skip
                    refine WL.mvB rfl rfl rfl rfl (fun h17 => ?_) (fun h17 => ?_)
                    · skip
                      have hm6 := ifp h17 hm6
                      refine WL.on rfl rfl (WL.ev rfl rfl (Ev.fa rfl fo31_6 rfl) (WL.on rfl rfl (WL.ev rfl rfl (Ev.ld rfl ag29 rfl ((H.rB (i := 0) rfl).cell rfl)) (WL.on rfl rfl ?_))))
                      obtain ⟨x10, hx10, hm6⟩ := bd hm6
                      obtain ⟨b11, ob11, cb11, A11, n11, c11, hvb11, hI41, hI42, hI43, hI44, hS21, hS22, H⟩ := ixS_Expr H (i := 2) rfl hx10
                      refine WL.ev rfl rfl (Ev.ixVN rfl el29 sz31 rfl hvb11 rfl (lt_of hx10)) (WL.on rfl rfl (WL.ev rfl rfl (Ev.lda rfl ag31 sz31 rfl (H.rA (i := 6) rfl) rfl) (WL.on rfl rfl (WL.ev rfl rfl (Ev.mv rfl rfl) (WL.on rfl rfl ?_)))))
                      obtain ⟨y11, hy11, hm6⟩ := bd hm6
                      refine WL.call rfl rfl rfl rfl rfl ok16 rfl (iUsesAny_ok hy11 (Expr_rd.2 ⟨_, rfl, hI41, hI42, hI43, hI44, hS21, hS22, (H.rS (i := 8) rfl)⟩) (H.rS (i := 1) rfl)) ?_
                      rintro _ w17 hE rfl
                      have H := H.ext hE
                      refine WL.on rfl rfl (WL.ev rfl rfl (Ev.not rfl rfl) (WL.ev rfl rfl (Ev.pickT rfl rfl rfl) (WL.nil ?_)))
                      obtain rfl := sm hm6
                      exact ⟨(!y11), rfl, ⟨rfl, trivial⟩, H.keep 6 1⟩
                    · skip
                      have hm6 := ifn h17 hm6
                      refine WL.off rfl rfl rfl (WL.off rfl rfl rfl (WL.off rfl rfl rfl (WL.off rfl rfl rfl (WL.off rfl rfl rfl (WL.off rfl rfl rfl (WL.off rfl rfl rfl (WL.ev rfl rfl (Ev.pickF rfl rfl rfl) (WL.nil ?_))))))))
                      obtain rfl := sm hm6
                      exact ⟨false, rfl, ⟨rfl, trivial⟩, H.keep 6 1⟩
                  · rintro ρ' w18 ⟨s6, rfl, hag, H⟩
                    obtain ⟨σ, rfl⟩ := ofL_ex hag
                    refine WL.ev rfl rfl (Ev.as rfl rfl) (WL.nil ?_)
                    refine CW.ret ?_
                    obtain rfl := sm hr
                    exact ⟨_, res1 rfl rfl rfl, H.ext0, rfl⟩
                · skip
                  have hr := ifn h16 hr
                  refine CW.skip ?_
                  refine CW.seq (CW.reg ?_)
                  refine WL.ev rfl rfl (Ev.as rfl rfl) (WL.nil ?_)
                  refine CW.ret ?_
                  obtain rfl := sm hr
                  exact ⟨_, res1 rfl rfl rfl, H.ext0, rfl⟩
              · skip
                have hr := ifn h15 hr
                refine CW.reg ?_
                refine WL.ev rfl rfl (Ev.bin rfl rfl rfl Bin.eql) (WL.ev rfl rfl (Ev.as rfl rfl) (WL.nil ?_))
                refine CW.condD rfl (fun h18 => ?_) (fun h18 => ?_)
                · skip
                  have hr := ifp h18 hr
                  refine CW.seq (CW.reg ?_)
                  refine WL.ev rfl rfl (Ev.fa rfl fo31_6 rfl) (WL.ev rfl rfl (Ev.ld rfl ag29 rfl ((H.rB (i := 0) rfl).cell rfl)) ?_)
                  obtain ⟨x11, hx11, hr⟩ := bd hr
                  obtain ⟨b12, ob12, cb12, A12, n12, c12, hvb12, hI45, hI46, hI47, hI48, hS23, hS24, H⟩ := ixS_Expr H (i := 2) rfl hx11
                  refine WL.ev rfl rfl (Ev.ixVN rfl el29 sz31 rfl hvb12 rfl (lt_of hx11)) (WL.ev rfl rfl (Ev.lda rfl ag31 sz31 rfl (H.rA (i := 3) rfl) rfl) (WL.ev rfl rfl (Ev.mv rfl rfl) ?_))
                  obtain ⟨y12, hy12, hr⟩ := bd hr
                  refine WL.call rfl rfl rfl rfl rfl ok20 rfl (ih_iIsMonotone hy12 (Expr_rd.2 ⟨_, rfl, hI45, hI46, hI47, hI48, hS23, hS24, (H.rS (i := 5) rfl)⟩) (H.rS (i := 1) rfl)) ?_
                  rintro _ w19 hE rfl
                  have H := H.ext hE
                  refine WL.mvB rfl rfl rfl rfl (fun h19 => ?_) (fun h19 => ?_)
                  · skip
                    have hr := ifp h19 hr
                    refine WL.on rfl rfl (WL.ev rfl rfl (Ev.fa rfl fo31_6 rfl) (WL.on rfl rfl (WL.ev rfl rfl (Ev.ld rfl ag29 rfl ((H.rB (i := 0) rfl).cell rfl)) (WL.on rfl rfl ?_))))
                    obtain ⟨x12, hx12, hr⟩ := bd hr
                    obtain ⟨b13, ob13, cb13, A13, n13, c13, hvb13, hI49, hI50, hI51, hI52, hS25, hS26, H⟩ := ixS_Expr H (i := 2) rfl hx12
                    refine WL.ev rfl rfl (Ev.ixVN rfl el29 sz31 rfl hvb13 rfl (lt_of hx12)) (WL.on rfl rfl (WL.ev rfl rfl (Ev.lda rfl ag31 sz31 rfl (H.rA (i := 6) rfl) rfl) (WL.on rfl rfl (WL.ev rfl rfl (Ev.mv rfl rfl) (WL.on rfl rfl ?_)))))
                    obtain ⟨y13, hy13, hr⟩ := bd hr
                    refine WL.call rfl rfl rfl rfl rfl ok16 rfl (iUsesAny_ok hy13 (Expr_rd.2 ⟨_, rfl, hI49, hI50, hI51, hI52, hS25, hS26, (H.rS (i := 8) rfl)⟩) (H.rS (i := 1) rfl)) ?_
                    rintro _ w20 hE rfl
                    have H := H.ext hE
                    refine WL.on rfl rfl (WL.ev rfl rfl (Ev.not rfl rfl) (WL.ev rfl rfl (Ev.pickT rfl rfl rfl) (WL.ev rfl rfl (Ev.as rfl rfl) (WL.nil ?_))))
                    refine CW.ret ?_
                    obtain rfl := sm hr
                    exact ⟨_, res1 rfl rfl rfl, H.ext0, rfl⟩
                  · skip
                    have hr := ifn h19 hr
                    refine WL.off rfl rfl rfl (WL.off rfl rfl rfl (WL.off rfl rfl rfl (WL.off rfl rfl rfl (WL.off rfl rfl rfl (WL.off rfl rfl rfl (WL.off rfl rfl rfl (WL.ev rfl rfl (Ev.pickF rfl rfl rfl) (WL.ev rfl rfl (Ev.as rfl rfl) (WL.nil ?_)))))))))
                    refine CW.ret ?_
                    obtain rfl := sm hr
                    exact ⟨_, res1 rfl rfl rfl, H.ext0, rfl⟩
                · skip
                  have hr := ifn h18 hr
                  refine CW.skip ?_
                  refine CW.seq (CW.reg ?_)
                  refine WL.ev rfl rfl (Ev.as rfl rfl) (WL.nil ?_)
                  refine CW.ret ?_
                  obtain rfl := sm hr
                  exact ⟨_, res1 rfl rfl rfl, H.ext0, rfl⟩
        · skip
          have hr := ifn h4 hr
          refine CW.seq (CW.reg ?_)
          refine WL.ev rfl rfl (Ev.fa rfl fo31_0 rfl) (WL.ev rfl rfl (Ev.ld rfl ag3 rfl ((H.rB (i := 0) rfl).cell rfl)) (WL.ev rfl rfl (Ev.bin rfl rfl rfl Bin.eql) ?_))
          obtain ⟨q7, hm7, hr⟩ := bd hr
          refine WL.cut 6 (fun ρ' w => ∃ (s7 : Bool), s7 = q7 ∧ agree ρ' [(1, .slice A1' n1' c1'), (2, .pointer (some ⟨b1, 0, none⟩)), (70, .bool s7)] ∧ HL F0 [] w0 w [Pr.R a0 [.int .i64 a0.Kind, .int .i64 a0.N, .int .i64 a0.Pos, .int .i64 a0.Type_, .string a0.Symbol, .string a0.Name, .slice A1 n1 c1], Pr.S a1 (.slice A1' n1' c1'), Pr.S a0.Args (.slice A1 n1 c1)] [It.B b1 31 [.int .i64 a0.Kind, .int .i64 a0.N, .int .i64 a0.Pos, .int .i64 a0.Type_, .string a0.Symbol, .string a0.Name, .slice A1 n1 c1]]) ?_ ?_
          · skip
            refine WL.mvD rfl rfl rfl rfl (fun h20 => ?_) (fun h20 => ?_)
            · skip
              have hm7 := ifp h20 hm7
              refine WL.on rfl rfl (WL.ev rfl rfl (Ev.fa rfl fo31_6 rfl) (WL.on rfl rfl (WL.ev rfl rfl (Ev.ld rfl ag29 rfl ((H.rB (i := 0) rfl).cell rfl)) (WL.on rfl rfl ?_))))
              have hl2 := (H.rS (i := 2) rfl).I
              refine WL.ev rfl rfl (Ev.lenV rfl el29 rfl (H.rS (i := 2) rfl)) (WL.on rfl rfl (WL.ev rfl rfl (Ev.bin rfl rfl rfl Bin.eql) (WL.ev rfl rfl (Ev.pickT rfl rfl rfl) (WL.nil ?_))))
              obtain rfl := sm hm7
              exact ⟨(decide ((a0.Args.length : Int) = 3)), rfl, ⟨rfl, rfl, rfl, trivial⟩, H.keep 3 1⟩
            · skip
              have hm7 := ifn h20 hm7
              refine WL.off rfl rfl rfl (WL.off rfl rfl rfl (WL.off rfl rfl rfl (WL.off rfl rfl rfl (WL.ev rfl rfl (Ev.pickF rfl rfl rfl) (WL.nil ?_)))))
              obtain rfl := sm hm7
              exact ⟨false, rfl, ⟨rfl, rfl, rfl, trivial⟩, H.keep 3 1⟩
          · rintro ρ' w21 ⟨s7, rfl, hag, H⟩
            obtain ⟨σ, rfl⟩ := ofL_ex hag
            refine WL.ev rfl rfl (Ev.as rfl rfl) (WL.nil ?_)
            refine CW.condB rfl (fun h21 => ?_) (fun h21 => ?_)
            · skip
              have hr := ifp h21 hr
              refine CW.seq (CW.reg ?_)
              refine WL.ev rfl rfl (Ev.fa rfl fo31_6 rfl) (WL.ev rfl rfl (Ev.ld rfl ag29 rfl ((H.rB (i := 0) rfl).cell rfl)) ?_)
              obtain ⟨x13, hx13, hr⟩ := bd hr
              obtain ⟨b14, ob14, cb14, A14, n14, c14, hvb14, hI53, hI54, hI55, hI56, hS27, hS28, H⟩ := ixS_Expr H (i := 2) rfl hx13
              refine WL.ev rfl rfl (Ev.ixVN rfl el29 sz31 rfl hvb14 rfl (lt_of hx13)) (WL.ev rfl rfl (Ev.lda rfl ag31 sz31 rfl (H.rA (i := 3) rfl) rfl) (WL.ev rfl rfl (Ev.mv rfl rfl) ?_))
              obtain ⟨y14, hy14, hr⟩ := bd hr
              refine WL.call rfl rfl rfl rfl rfl ok16 rfl (iUsesAny_ok hy14 (Expr_rd.2 ⟨_, rfl, hI53, hI54, hI55, hI56, hS27, hS28, (H.rS (i := 5) rfl)⟩) (H.rS (i := 1) rfl)) ?_
              rintro _ w22 hE rfl
              have H := H.ext hE
              refine WL.ev rfl rfl (Ev.not rfl rfl) ?_
              obtain ⟨q8, hm8, hr⟩ := bd hr
              refine WL.cut 8 (fun ρ' w => ∃ (s8 : Bool), s8 = q8 ∧ agree ρ' [(1, .slice A1' n1' c1'), (2, .pointer (some ⟨b1, 0, none⟩)), (85, .bool s8)] ∧ HL F0 [] w0 w [Pr.R a0 [.int .i64 a0.Kind, .int .i64 a0.N, .int .i64 a0.Pos, .int .i64 a0.Type_, .string a0.Symbol, .string a0.Name, .slice A1 n1 c1], Pr.S a1 (.slice A1' n1' c1'), Pr.S a0.Args (.slice A1 n1 c1), Pr.A b14 (ob14 + 0 * 7) [.int .i64 x13.Kind, .int .i64 x13.N, .int .i64 x13.Pos, .int .i64 x13.Type_, .string x13.Symbol, .string x13.Name, .slice A14 n14 c14], Pr.R x13 [.int .i64 x13.Kind, .int .i64 x13.N, .int .i64 x13.Pos, .int .i64 x13.Type_, .string x13.Symbol, .string x13.Name, .slice A14 n14 c14], Pr.S x13.Args (.slice A14 n14 c14)] [It.B b1 31 [.int .i64 a0.Kind, .int .i64 a0.N, .int .i64 a0.Pos, .int .i64 a0.Type_, .string a0.Symbol, .string a0.Name, .slice A1 n1 c1]]) ?_ ?_
              · skip
                refine WL.mvBN rfl rfl rfl rfl (fun h22 => ?_) (fun h22 => ?_)
                · skip
                  have hm8 := ifn h22 hm8
                  refine WL.on rfl rfl (WL.ev rfl rfl (Ev.fa rfl fo31_6 rfl) (WL.on rfl rfl (WL.ev rfl rfl (Ev.ld rfl ag29 rfl ((H.rB (i := 0) rfl).cell rfl)) (WL.on rfl rfl ?_))))
                  obtain ⟨x14, hx14, hm8⟩ := bd hm8
                  obtain ⟨b15, ob15, cb15, A15, n15, c15, hvb15, hI57, hI58, hI59, hI60, hS29, hS30, H⟩ := ixS_Expr H (i := 2) rfl hx14
                  refine WL.ev rfl rfl (Ev.ixVN rfl el29 sz31 rfl hvb15 rfl (lt_of hx14)) (WL.on rfl rfl (WL.ev rfl rfl (Ev.lda rfl ag31 sz31 rfl (H.rA (i := 6) rfl) rfl) (WL.on rfl rfl (WL.ev rfl rfl (Ev.mv rfl rfl) (WL.on rfl rfl ?_)))))
                  obtain ⟨y15, hy15, hm8⟩ := bd hm8
                  refine WL.call rfl rfl rfl rfl rfl ok20 rfl (ih_iIsMonotone hy15 (Expr_rd.2 ⟨_, rfl, hI57, hI58, hI59, hI60, hS29, hS30, (H.rS (i := 8) rfl)⟩) (H.rS (i := 1) rfl)) ?_
                  rintro _ w23 hE rfl
                  have H := H.ext hE
                  refine WL.ev rfl rfl (Ev.pickT rfl rfl rfl) (WL.nil ?_)
                  obtain rfl := sm hm8
                  exact ⟨y15, rfl, ⟨rfl, rfl, rfl, trivial⟩, H.keep 6 1⟩
                · skip
                  have hm8 := ifp h22 hm8
                  refine WL.off rfl rfl rfl (WL.off rfl rfl rfl (WL.off rfl rfl rfl (WL.off rfl rfl rfl (WL.off rfl rfl rfl (WL.off rfl rfl rfl (WL.ev rfl rfl (Ev.pickF rfl rfl rfl) (WL.nil ?_)))))))
                  obtain rfl := sm hm8
                  exact ⟨false, rfl, ⟨rfl, rfl, rfl, trivial⟩, H.keep 6 1⟩
              · rintro ρ' w24 ⟨s8, rfl, hag, H⟩
                obtain ⟨σ, rfl⟩ := ofL_ex hag
                obtain ⟨q9, hm9, hr⟩ := bd hr
                refine WL.cut 8 (fun ρ' w => ∃ (s9 : Bool), s9 = q9 ∧ agree ρ' [(93, .bool s9)] ∧ HL F0 [] w0 w [Pr.R a0 [.int .i64 a0.Kind, .int .i64 a0.N, .int .i64 a0.Pos, .int .i64 a0.Type_, .string a0.Symbol, .string a0.Name, .slice A1 n1 c1], Pr.S a1 (.slice A1' n1' c1'), Pr.S a0.Args (.slice A1 n1 c1), Pr.A b14 (ob14 + 0 * 7) [.int .i64 x13.Kind, .int .i64 x13.N, .int .i64 x13.Pos, .int .i64 x13.Type_, .string x13.Symbol, .string x13.Name, .slice A14 n14 c14], Pr.R x13 [.int .i64 x13.Kind, .int .i64 x13.N, .int .i64 x13.Pos, .int .i64 x13.Type_, .string x13.Symbol, .string x13.Name, .slice A14 n14 c14], Pr.S x13.Args (.slice A14 n14 c14)] [It.B b1 31 [.int .i64 a0.Kind, .int .i64 a0.N, .int .i64 a0.Pos, .int .i64 a0.Type_, .string a0.Symbol, .string a0.Name, .slice A1 n1 c1]]) ?_ ?_
                · skip
                  refine WL.mvB rfl rfl rfl rfl (fun h23 => ?_) (fun h23 => ?_)
                  · skip
                    have hm9 := ifp h23 hm9
                    refine WL.on rfl rfl (WL.ev rfl rfl (Ev.fa rfl fo31_6 rfl) (WL.on rfl rfl (WL.ev rfl rfl (Ev.ld rfl ag29 rfl ((H.rB (i := 0) rfl).cell rfl)) (WL.on rfl rfl ?_))))
                    obtain ⟨x15, hx15, hm9⟩ := bd hm9
                    obtain ⟨b16, ob16, cb16, A16, n16, c16, hvb16, hI61, hI62, hI63, hI64, hS31, hS32, H⟩ := ixS_Expr H (i := 2) rfl hx15
                    refine WL.ev rfl rfl (Ev.ixVN rfl el29 sz31 rfl hvb16 rfl (lt_of hx15)) (WL.on rfl rfl (WL.ev rfl rfl (Ev.lda rfl ag31 sz31 rfl (H.rA (i := 6) rfl) rfl) (WL.on rfl rfl (WL.ev rfl rfl (Ev.mv rfl rfl) (WL.on rfl rfl ?_)))))
                    obtain ⟨y16, hy16, hm9⟩ := bd hm9
                    refine WL.call rfl rfl rfl rfl rfl ok20 rfl (ih_iIsMonotone hy16 (Expr_rd.2 ⟨_, rfl, hI61, hI62, hI63, hI64, hS31, hS32, (H.rS (i := 8) rfl)⟩) (H.rS (i := 1) rfl)) ?_
                    rintro _ w25 hE rfl
                    have H := H.ext hE
                    refine WL.ev rfl rfl (Ev.pickT rfl rfl rfl) (WL.nil ?_)
                    obtain rfl := sm hm9
                    exact ⟨y16, rfl, ⟨rfl, trivial⟩, H.keep 6 1⟩
                  · skip
                    have hm9 := ifn h23 hm9
                    refine WL.off rfl rfl rfl (WL.off rfl rfl rfl (WL.off rfl rfl rfl (WL.off rfl rfl rfl (WL.off rfl rfl rfl (WL.off rfl rfl rfl (WL.ev rfl rfl (Ev.pickF rfl rfl rfl) (WL.nil ?_)))))))
                    obtain rfl := sm hm9
                    exact ⟨false, rfl, ⟨rfl, trivial⟩, H.keep 6 1⟩
                · rintro ρ' w26 ⟨s9, rfl, hag, H⟩
                  obtain ⟨σ, rfl⟩ := ofL_ex hag
                  refine WL.ev rfl rfl (Ev.as rfl rfl) (WL.nil ?_)
                  refine CW.ret ?_
                  obtain rfl := sm hr
                  exact ⟨_, res1 rfl rfl rfl, H.ext0, rfl⟩
            · skip
              have hr := ifn h21 hr
              refine CW.skip ?_
              refine CW.seq (CW.reg ?_)
              refine WL.ev rfl rfl (Ev.as rfl rfl) (WL.nil ?_)
              refine CW.ret ?_
              obtain rfl := sm hr
              exact ⟨_, res1 rfl rfl rfl, H.ext0, rfl⟩
noncomputable def iIsMonotone_n : Nat → Expr → (List Occurrence) → Option Bool
  | 0, _, _ => none
  | n + 1, a0, a1 => iIsMonotone_B (iIsMonotone_n n) a0 a1
noncomputable def iIsMonotone_m (a0 : Expr) (a1 : (List Occurrence)) : Option Bool := recO fun n => iIsMonotone_n n a0 a1
theorem iIsMonotone_okn (n : Nat) : ∀ {a0 : Expr} {a1 : (List Occurrence)} {r : Bool}, iIsMonotone_n n a0 a1 = some r → ∀ {F0 : Nat → Prop} {w0 : World} {ca0 : List Value} (ha0 : rd F0 w0 a0 ca0) {z1 : Value} (ha1 : rdS F0 w0 a1 z1), Ret Try.prog 20 #[.agg ca0.toArray, z1] w0 (fun _ => False) fun v w => v = .bool r := by
  induction n with
  | zero => intro a0 a1 r hr; exact nomatch (show (none : Option Bool) = some r from hr)
  | succ n ih => intro a0 a1 r hr; exact iIsMonotone_okB ih hr
theorem iIsMonotone_ok {a0 : Expr} {a1 : (List Occurrence)} {r : Bool} (hr : iIsMonotone_m a0 a1 = some r) {F0 : Nat → Prop} {w0 : World} {ca0 : List Value} (ha0 : rd F0 w0 a0 ca0) {z1 : Value} (ha1 : rdS F0 w0 a1 z1) :
    Ret Try.prog 20 #[.agg ca0.toArray, z1] w0 (fun _ => False) fun v w => v = .bool r := by
  obtain ⟨n, hn⟩ := recO_some hr
  exact iIsMonotone_okn n hn ha0 ha1

end Go.Proofs.Ytonnooljidombaa
