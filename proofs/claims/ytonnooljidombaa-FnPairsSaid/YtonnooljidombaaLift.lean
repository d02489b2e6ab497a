/- What some functions of the program compute, as partial functions on plain data, and that they do; each lemma bears its conditions in its statement. -/
import Derived.Test.YtonnooljidombaaRows
import Derived.Test.YtonnooljidombaaRd
import Derived.Test.YtonnooljidombaaEngD
set_option linter.unusedVariables false
set_option linter.unusedSimpArgs false
set_option linter.ambiguousOpen false
set_option linter.unusedSectionVars false
set_option linter.unnecessarySimpa false
set_option linter.unusedVariables false
set_option linter.unusedSimpArgs false
set_option maxRecDepth 100000
set_option maxHeartbeats 1000000
namespace Go.Proofs.Ytonnooljidombaa
open Go Go.E
open Go.E.Rep (rd)
open Go.E.Sep (own)
open Go.E.Sz (szd)
theorem ag3 : aggT Try.prog 3 = some false := by kernel_rfl
theorem ag5 : aggT Try.prog 5 = some false := by kernel_rfl
theorem ag38 : aggT Try.prog 38 = some false := by kernel_rfl
theorem ag41 : aggT Try.prog 41 = some false := by kernel_rfl
theorem ag60 : aggT Try.prog 60 = some true := by kernel_rfl
theorem sz3 : szT Try.prog 3 = some 1 := by kernel_rfl
theorem sz5 : szT Try.prog 5 = some 1 := by kernel_rfl
theorem sz41 : szT Try.prog 41 = some 1 := by kernel_rfl
theorem sz60 : szT Try.prog 60 = some 2 := by kernel_rfl
theorem by3 : byT Try.prog 3 = some 8 := by kernel_rfl
theorem ze3 : zeroT Try.prog 3 = some [.int .i64 0] := by kernel_rfl
theorem ze60 : zeroT Try.prog 60 = some [.int .i64 0, .slice none 0 0] := by kernel_rfl
theorem ze159 : zeroT Try.prog 159 = some [.slice none 0 0, .int .i64 0, .int .i64 0] := by kernel_rfl
theorem el38 : elemT Try.prog 38 = some 5 := by kernel_rfl
theorem el41 : elemT Try.prog 41 = some 3 := by kernel_rfl
theorem it3 : intT Try.prog 3 = some .i64 := by kernel_rfl
theorem it130 : intT Try.prog 130 = some .u64 := by kernel_rfl
theorem pl60 : placesT Try.prog 60 = some [(0, 1), (1, 1)] := by kernel_rfl
theorem pl159 : placesT Try.prog 159 = some [(0, 1), (1, 1), (2, 1)] := by kernel_rfl
theorem fo60_0 : fieldT Try.prog 60 0 = some 0 := by kernel_rfl
theorem fo60_1 : fieldT Try.prog 60 1 = some 1 := by kernel_rfl
theorem fo159_0 : fieldT Try.prog 159 0 = some 0 := by kernel_rfl
theorem fo159_1 : fieldT Try.prog 159 1 = some 1 := by kernel_rfl
theorem fo159_2 : fieldT Try.prog 159 2 = some 2 := by kernel_rfl
theorem ok21 : callable Try.prog 21 = true := by kernel_rfl
theorem ok37 : callable Try.prog 37 = true := by kernel_rfl
theorem ok39 : callable Try.prog 39 = true := by kernel_rfl
theorem ok40 : callable Try.prog 40 = true := by kernel_rfl
theorem ok43 : callable Try.prog 43 = true := by kernel_rfl
theorem ok44 : callable Try.prog 44 = true := by kernel_rfl
theorem ok45 : callable Try.prog 45 = true := by kernel_rfl
theorem ok46 : callable Try.prog 46 = true := by kernel_rfl
theorem ok47 : callable Try.prog 47 = true := by kernel_rfl
theorem ok48 : callable Try.prog 48 = true := by kernel_rfl
theorem ok49 : callable Try.prog 49 = true := by kernel_rfl
theorem ok50 : callable Try.prog 50 = true := by kernel_rfl
theorem ok51 : callable Try.prog 51 = true := by kernel_rfl
theorem ok52 : callable Try.prog 52 = true := by kernel_rfl
theorem ok53 : callable Try.prog 53 = true := by kernel_rfl
theorem ok54 : callable Try.prog 54 = true := by kernel_rfl
theorem ok83 : callable Try.prog 83 = true := by kernel_rfl
theorem ok86 : callable Try.prog 86 = true := by kernel_rfl
theorem ok97 : callable Try.prog 97 = true := by kernel_rfl
theorem ok105 : callable Try.prog 105 = true := by kernel_rfl
theorem ok106 : callable Try.prog 106 = true := by kernel_rfl
theorem ok107 : callable Try.prog 107 = true := by kernel_rfl
theorem ok108 : callable Try.prog 108 = true := by kernel_rfl
theorem ok109 : callable Try.prog 109 = true := by kernel_rfl
theorem ok110 : callable Try.prog 110 = true := by kernel_rfl
theorem ok111 : callable Try.prog 111 = true := by kernel_rfl
theorem ok112 : callable Try.prog 112 = true := by kernel_rfl
theorem ok114 : callable Try.prog 114 = true := by kernel_rfl
theorem ok115 : callable Try.prog 115 = true := by kernel_rfl
theorem ok116 : callable Try.prog 116 = true := by kernel_rfl
theorem ok147 : callable Try.prog 147 = true := by kernel_rfl
theorem ok159 : callable Try.prog 159 = true := by kernel_rfl
theorem ok160 : callable Try.prog 160 = true := by kernel_rfl
theorem hmix : Try.prog.follows .mixedOrders = true := by kernel_rfl
noncomputable def wbig_m (a0 : (List UInt8)) : Option Bool :=
  some (decide (1048576 < (a0.length : Int)))
theorem wbig_ok {a0 : (List UInt8)} {r : Bool} (hr : wbig_m a0 = some r) {F0 : Nat → Prop} {w0 : World} {z0 : Value} (ha0 : rdS F0 w0 a0 z0) :
    Ret Try.prog 21 #[z0] w0 (fun _ => False) fun v w => v = .bool r := by
  obtain ⟨A0', n0', c0', rfl⟩ := ha0.form3
  have H := (HL.start F0 w0).argS ha0
  refine enter Try.func21 rfl rfl rfl ?_
  refine CW.seq (CW.reg ?_)
  refine WL.ev rfl rfl (Ev.as rfl rfl) (WL.nil ?_)
  refine CW.seq (CW.reg ?_)
  refine WL.ev rfl rfl (Ev.mv rfl rfl) ?_
  have hl1 := (H.rS (i := 0) rfl).I
  refine WL.ev rfl rfl (Ev.lenV rfl el38 rfl (H.rS (i := 0) rfl)) (WL.ev rfl rfl (Ev.bin rfl rfl rfl Bin.gtr) (WL.ev rfl rfl (Ev.as rfl rfl) (WL.nil ?_)))
  refine CW.ret ?_
  obtain rfl := sm hr
  exact ⟨_, res1 rfl rfl rfl, H.ext0, rfl⟩

noncomputable def sl1New_L1 (a0 : (List UInt8)) : (Int × Int) → Option ((Int × Int) ⊕ Int) := fun (s2, s3) => 
  if s3 < (a0.length : Int) then (
  if s3 < 4000 then (
  grd (0 ≤ s3) <|
  (a0[s3.toNat]?).bind fun x1 =>
  some (.inl ((goAnd (IntKind.i64.wrap ((IntKind.i64.wrap ((IntKind.i64.wrap (s2 * 131)) + (x1.toNat : Int))) + 7)) 1073741823), (IntKind.i64.wrap (s3 + 1))))
  ) else (
  some (.inr s2)
  )
  ) else (
  some (.inr s2)
  )
noncomputable def sl1New_m (a0 : (List UInt8)) : Option l1Cur :=
  (
  iterO (sl1New_L1 a0) ((IntKind.i64.wrap (26583 + (a0.length : Int))), 0)
  ).bind fun s1 =>
  some (⟨a0, 0, s1⟩ : l1Cur)
theorem sl1New_ok {a0 : (List UInt8)} {r : l1Cur} (hr : sl1New_m a0 = some r) {F0 : Nat → Prop} {w0 : World} {z0 : Value} (ha0 : rdS F0 w0 a0 z0) :
    Ret Try.prog 83 #[z0] w0 (fun _ => False) fun v w => ∃ bp0 : Nat, ∃ A0 : Option Addr, ∃ n0 c0 : Nat, v = .pointer (some ⟨bp0, 0, none⟩) ∧ I64 r.i ∧ I64 r.h ∧ HL F0 [] w0 w [Pr.S r.b (.slice A0 n0 c0)] [It.B bp0 159 [(.slice A0 n0 c0), .int .i64 r.i, .int .i64 r.h]] := by
  obtain ⟨A0', n0', c0', rfl⟩ := ha0.form3
  have H := (HL.start F0 w0).argS ha0
  refine enter Try.func83 rfl rfl rfl ?_
  refine CW.seq (CW.reg ?_)
  refine WL.ev rfl rfl (Ev.as rfl rfl) (WL.nil ?_)
  refine CW.seq (CW.reg ?_)
  refine WL.ev rfl rfl (Ev.mv rfl rfl) ?_
  have hl1 := (H.rS (i := 0) rfl).I
  refine WL.ev rfl rfl (Ev.lenV rfl el38 rfl (H.rS (i := 0) rfl)) (WL.ev rfl rfl (Ev.bin rfl rfl rfl Bin.addw) (WL.ev rfl rfl (Ev.as rfl rfl) (WL.nil ?_)))
  refine CW.seq (CW.seq (CW.reg ?_))
  refine WL.ev rfl rfl (Ev.as rfl rfl) (WL.nil ?_)
  obtain ⟨q1, hm1, hr⟩ := bd hr
  refine CW.mid (fun ρ' w => ∃ (s1 : Int), s1 = q1 ∧ agree ρ' [(0, .slice A0' n0' c0'), (3, .int .i64 s1)] ∧ I64 s1 ∧ HL F0 [] w0 w [Pr.S a0 (.slice A0' n0' c0')] []) ?_ ?_
  · skip
    obtain ⟨m1, hq1⟩ := iterO_some.1 hm1
    refine CW.block (CW.loop (α := Nat × Int × Int) (fun ⟨m1, s2, s3⟩ => [(0, .slice A0' n0' c0'), (3, .int .i64 s2), (4, .int .i64 s3)]) (fun ⟨m1, s2, s3⟩ w => iterN (sl1New_L1 a0) m1 (s2, s3) = some q1 ∧ I64 s2 ∧ I64 s3 ∧ HL F0 [] w0 w [Pr.S a0 (.slice A0' n0' c0')] []) (fun ⟨m1, s2, s3⟩ => m1) ⟨m1, (IntKind.i64.wrap (26583 + (a0.length : Int))), 0⟩ ⟨rfl, rfl, rfl, trivial⟩ ⟨hq1, (i64_wrap _), (by decide : I64 0), H.keep 1 0⟩ ?_)
    rintro ⟨m1, s2, s3⟩ σ w1 ⟨hq1, hI2, hI3, H⟩
    obtain ⟨m2, z1, rfl, hb1, hs1, ht1⟩ := iterN_go hq1
    refine CW.seq (CW.seq (CW.reg ?_))
    refine WL.ev rfl rfl (Ev.mv rfl rfl) (WL.ev rfl rfl (Ev.mv rfl rfl) (WL.ev rfl rfl (Ev.lenV rfl el38 rfl (H.rS (i := 0) rfl)) (WL.ev rfl rfl (Ev.bin rfl rfl rfl Bin.lss) ?_)))
    refine WL.mvD rfl rfl rfl rfl (fun h1 => ?_) (fun h1 => ?_)
    · skip
      have hb1 := ifp h1 hb1
      refine WL.on rfl rfl (WL.ev rfl rfl (Ev.mv rfl rfl) (WL.on rfl rfl (WL.ev rfl rfl (Ev.bin rfl rfl rfl Bin.lss) (WL.ev rfl rfl (Ev.pickT rfl rfl rfl) (WL.nil ?_)))))
      refine CW.condD rfl (fun h2 => ?_) (fun h2 => ?_)
      · skip
        have hb1 := ifp h2 hb1
        refine CW.skip ?_
        refine CW.seq (CW.block (CW.reg ?_))
        refine WL.ev rfl rfl (Ev.mv rfl rfl) (WL.ev rfl rfl (Ev.bin rfl rfl rfl Bin.mulw) (WL.ev rfl rfl (Ev.mv rfl rfl) (WL.ev rfl rfl (Ev.mv rfl rfl) ?_)))
        obtain ⟨hg1, hb1⟩ := grd_some hb1
        obtain ⟨x1, hx1, hb1⟩ := bd hb1
        obtain ⟨b1, ob1, cb1, hvb1, H⟩ := ixS_Byte H (i := 0) rfl hx1
        refine WL.ev rfl rfl (Ev.ixV rfl el38 sz5 rfl hvb1 rfl hg1 (lt_of hx1)) (WL.ev rfl rfl (Ev.ld rfl ag5 rfl ((H.rA (i := 1) rfl).cell0 rfl)) (WL.ev rfl rfl (Ev.convB rfl Try.underlying5 it3 rfl) (WL.ev rfl rfl (Ev.bin rfl rfl rfl Bin.addw) (WL.ev rfl rfl (Ev.bin rfl rfl rfl Bin.addw) (WL.ev rfl rfl (Ev.bin rfl rfl rfl Bin.andT) (WL.ev rfl rfl (Ev.as rfl rfl) (WL.nil ?_)))))))
        refine CW.reg ?_
        refine WL.ev rfl rfl (Ev.mv rfl rfl) (WL.ev rfl rfl (Ev.bin rfl rfl rfl Bin.addw) (WL.ev rfl rfl (Ev.as rfl rfl) (WL.nil ?_)))
        obtain rfl := sm hb1
        exact ⟨⟨m2, (goAnd (IntKind.i64.wrap ((IntKind.i64.wrap ((IntKind.i64.wrap (s2 * 131)) + (x1.toNat : Int))) + 7)) 1073741823), (IntKind.i64.wrap (s3 + 1))⟩, ⟨rfl, rfl, rfl, trivial⟩, ⟨hs1 _ rfl, (i64_wrap _), (i64_wrap _), H.keep 1 0⟩, Nat.lt_succ_self _⟩
      · skip
        have hb1 := ifn h2 hb1
        refine CW.exit ?_
        obtain rfl := sm hb1
        obtain rfl := ht1 _ rfl
        exact ⟨s2, rfl, ⟨rfl, rfl, trivial⟩, hI2, H.keep 1 0⟩
    · skip
      have hb1 := ifn h1 hb1
      refine WL.off rfl rfl rfl (WL.off rfl rfl rfl (WL.ev rfl rfl (Ev.pickF rfl rfl rfl) (WL.nil ?_)))
      refine CW.condF rfl ?_
      refine CW.exit ?_
      obtain rfl := sm hb1
      obtain rfl := ht1 _ rfl
      exact ⟨s2, rfl, ⟨rfl, rfl, trivial⟩, hI2, H.keep 1 0⟩
  · rintro ρ' w2 ⟨s1, rfl, hag, hI1, H⟩
    obtain ⟨σ, rfl⟩ := ofL_ex hag
    refine CW.seq (CW.reg ?_)
    refine WL.ev rfl rfl (Ev.mv rfl rfl) (WL.ev rfl rfl (Ev.mv rfl rfl) (WL.ev rfl rfl (Ev.build rfl pl159 ze159 rfl rfl rfl rfl) ?_))
    refine WL.boxH rfl rfl rfl rfl rfl H fun b2 w3 H => ?_
    refine WL.ev rfl rfl (Ev.as rfl rfl) (WL.nil ?_)
    refine CW.ret ?_
    obtain rfl := sm hr
    exact ⟨_, res1 rfl rfl rfl, H.ext0, _, _, _, _, rfl, (by decide : I64 0), hI1, H.outM (fr' := [Pr.S a0 (.slice A0' n0' c0')]) [true] fun _ h => ⟨h.get (i := 0) rfl, trivial⟩⟩

noncomputable def sl1Byte_m (o0 : l1Cur) : Option (Int × l1Cur) :=
  if o0.i < (o0.b.length : Int) then (
  grd (0 ≤ o0.i) <|
  (o0.b[o0.i.toNat]?).bind fun x1 =>
  some ((goAnd (IntKind.i64.wrap ((goAnd (goXor (goShr (IntKind.i64.wrap ((IntKind.i64.wrap (o0.h * 6364136223846793005)) + 1442695040888963407)) 33) (goShr (IntKind.i64.wrap ((IntKind.i64.wrap (o0.h * 6364136223846793005)) + 1442695040888963407)) 45)) 255) + (x1.toNat : Int))) 255), (⟨o0.b, (IntKind.i64.wrap (o0.i + 1)), (IntKind.i64.wrap ((IntKind.i64.wrap (o0.h * 6364136223846793005)) + 1442695040888963407))⟩ : l1Cur))
  ) else (
  some ((goAnd (goXor (goShr (IntKind.i64.wrap ((IntKind.i64.wrap (o0.h * 6364136223846793005)) + 1442695040888963407)) 33) (goShr (IntKind.i64.wrap ((IntKind.i64.wrap (o0.h * 6364136223846793005)) + 1442695040888963407)) 45)) 255), (⟨o0.b, o0.i, (IntKind.i64.wrap ((IntKind.i64.wrap (o0.h * 6364136223846793005)) + 1442695040888963407))⟩ : l1Cur))
  )
theorem sl1Byte_ok {o0 : l1Cur} {r : (Int × l1Cur)} (hr : sl1Byte_m o0 = some r) {F0 : Nat → Prop} {M : List Nat} {w0 : World} {bo0 : Nat} {Ao0_0 : Option Addr} {no0_0 co0_0 : Nat} (hIo0_1 : I64 o0.i) (hIo0_2 : I64 o0.h) (H : HL F0 M w0 w0 [Pr.S o0.b (.slice Ao0_0 no0_0 co0_0)] [It.B bo0 159 [.slice Ao0_0 no0_0 co0_0, .int .i64 o0.i, .int .i64 o0.h]]) :
    Ret Try.prog 147 #[.pointer (some ⟨bo0, 0, none⟩)] w0 (· ∈ M) fun v w => v = .int .i64 r.1 ∧ I64 r.1 ∧ I64 r.2.i ∧ I64 r.2.h ∧ HL F0 M w0 w [] [It.B bo0 159 [.slice Ao0_0 no0_0 co0_0, .int .i64 r.2.i, .int .i64 r.2.h]] := by
  refine enter Try.func147 rfl rfl rfl ?_
  refine CW.seq (CW.reg ?_)
  refine WL.ev rfl rfl (Ev.as rfl rfl) (WL.nil ?_)
  refine CW.seq (CW.reg ?_)
  refine WL.ev rfl rfl (Ev.mv rfl rfl) (WL.ev rfl rfl (Ev.mv rfl rfl) (WL.ev rfl rfl (Ev.nilc rfl rfl) (WL.ev rfl rfl (Ev.fa rfl fo159_2 rfl) (WL.ev rfl rfl (Ev.ld rfl ag3 rfl ((H.rB (i := 0) rfl).cell rfl)) (WL.ev rfl rfl (Ev.bin rfl rfl rfl Bin.mulw) (WL.ev rfl rfl (Ev.bin rfl rfl rfl Bin.addw) (WL.ev rfl rfl (Ev.nilc rfl rfl) (WL.ev rfl rfl (Ev.fa rfl fo159_2 rfl) ?_))))))))
  refine WL.stB (i := 0) rfl rfl rfl sz3 rfl rfl rfl rfl (all1 rfl all0) H rfl rfl rfl fun w1 H => ?_
  refine WL.nil ?_
  refine CW.seq (CW.quiet hmix (by kernel_rfl) ?_)
  refine QL.ev rfl rfl (fun _ _ => Ev.mv rfl rfl) (QL.ev rfl rfl (fun _ _ => Ev.nilc rfl rfl) (QL.ev rfl rfl (fun _ _ => Ev.fa rfl fo159_2 rfl) (QL.ev rfl rfl (fun _ hq => Ev.ld rfl ag3 rfl (((H.ext hq).rB (i := 0) rfl).cell rfl)) (QL.ev rfl rfl (fun _ _ => Ev.bin rfl rfl rfl (Bin.shrT (by decide))) (QL.ev rfl rfl (fun _ _ => Ev.mv rfl rfl) (QL.ev rfl rfl (fun _ _ => Ev.nilc rfl rfl) (QL.ev rfl rfl (fun _ _ => Ev.fa rfl fo159_2 rfl) (QL.ev rfl rfl (fun _ hq => Ev.ld rfl ag3 rfl (((H.ext hq).rB (i := 0) rfl).cell rfl)) (QL.ev rfl rfl (fun _ _ => Ev.bin rfl rfl rfl (Bin.shrT (by decide))) (QL.ev rfl rfl (fun _ _ => Ev.bin rfl rfl rfl Bin.xorT) (QL.ev rfl rfl (fun _ _ => Ev.bin rfl rfl rfl Bin.andT) (QL.ev rfl rfl (fun _ _ => Ev.as rfl rfl) (QL.nil (fun w2 hE => ?_))))))))))))))
  have H := H.ext hE
  refine CW.seq (CW.seq ?_)
  refine CW.fresh [(0, .pointer (some ⟨bo0, 0, none⟩)), (3, .int .i64 (goAnd (goXor (goShr (IntKind.i64.wrap ((IntKind.i64.wrap (o0.h * 6364136223846793005)) + 1442695040888963407)) 33) (goShr (IntKind.i64.wrap ((IntKind.i64.wrap (o0.h * 6364136223846793005)) + 1442695040888963407)) 45)) 255))] ⟨rfl, rfl, trivial⟩ fun σ => ?_
  have H : HL F0 M w0 w2 [Pr.S o0.b (.slice Ao0_0 no0_0 co0_0)] [It.B bo0 159 [.slice Ao0_0 no0_0 co0_0, .int .i64 o0.i, .int .i64 (IntKind.i64.wrap ((IntKind.i64.wrap (o0.h * 6364136223846793005)) + 1442695040888963407))]] := H
  refine CW.quiet hmix (by kernel_rfl) ?_
  refine QL.ev rfl rfl (fun _ _ => Ev.mv rfl rfl) (QL.ev rfl rfl (fun _ _ => Ev.nilc rfl rfl) (QL.ev rfl rfl (fun _ _ => Ev.fa rfl fo159_1 rfl) (QL.ev rfl rfl (fun _ hq => Ev.ld rfl ag3 rfl (((H.ext hq).rB (i := 0) rfl).cell rfl)) (QL.ev rfl rfl (fun _ _ => Ev.mv rfl rfl) (QL.ev rfl rfl (fun _ _ => Ev.nilc rfl rfl) (QL.ev rfl rfl (fun _ _ => Ev.fa rfl fo159_0 rfl) (QL.ev rfl rfl (fun _ hq => Ev.ld rfl ag38 rfl (((H.ext hq).rB (i := 0) rfl).cell rfl)) ?_)))))))
  have hl1 := (H.rS (i := 0) rfl).I
  refine QL.ev rfl rfl (fun _ _ => Ev.lenV rfl el38 rfl (H.rS (i := 0) rfl)) (QL.ev rfl rfl (fun _ _ => Ev.bin rfl rfl rfl Bin.lss) (QL.nil (fun w3 hE => ?_)))
  have H := H.ext hE
  refine CW.condD rfl (fun h1 => ?_) (fun h1 => ?_)
  · skip
    have hr := ifp h1 hr
    refine CW.seq (CW.quietT 14 hmix (by kernel_rfl) ?_)
    refine QL.ev rfl rfl (fun _ _ => Ev.mv rfl rfl) (QL.ev rfl rfl (fun _ _ => Ev.mv rfl rfl) (QL.ev rfl rfl (fun _ _ => Ev.nilc rfl rfl) (QL.ev rfl rfl (fun _ _ => Ev.fa rfl fo159_0 rfl) (QL.ev rfl rfl (fun _ hq => Ev.ld rfl ag38 rfl (((H.ext hq).rB (i := 0) rfl).cell rfl)) (QL.ev rfl rfl (fun _ _ => Ev.mv rfl rfl) (QL.ev rfl rfl (fun _ _ => Ev.nilc rfl rfl) (QL.ev rfl rfl (fun _ _ => Ev.fa rfl fo159_1 rfl) (QL.ev rfl rfl (fun _ hq => Ev.ld rfl ag3 rfl (((H.ext hq).rB (i := 0) rfl).cell rfl)) ?_))))))))
    obtain ⟨hg1, hr⟩ := grd_some hr
    obtain ⟨x1, hx1, hr⟩ := bd hr
    obtain ⟨b1, ob1, cb1, hvb1, H⟩ := ixS_Byte H (i := 0) rfl hx1
    refine QL.ev rfl rfl (fun _ _ => Ev.ixV rfl el38 sz5 rfl hvb1 rfl hg1 (lt_of hx1)) (QL.ev rfl rfl (fun _ hq => Ev.ld rfl ag5 rfl (((H.ext hq).rA (i := 1) rfl).cell0 rfl)) (QL.ev rfl rfl (fun _ _ => Ev.convB rfl Try.underlying5 it3 rfl) (QL.ev rfl rfl (fun _ _ => Ev.bin rfl rfl rfl Bin.addw) (QL.ev rfl rfl (fun _ _ => Ev.bin rfl rfl rfl Bin.andT) (QL.nil (fun w4 hE => ?_))))))
    have H := H.ext hE
    refine WL.ev rfl rfl (Ev.as rfl rfl) (WL.nil ?_)
    refine CW.fresh [(0, .pointer (some ⟨bo0, 0, none⟩)), (3, .int .i64 (goAnd (IntKind.i64.wrap ((goAnd (goXor (goShr (IntKind.i64.wrap ((IntKind.i64.wrap (o0.h * 6364136223846793005)) + 1442695040888963407)) 33) (goShr (IntKind.i64.wrap ((IntKind.i64.wrap (o0.h * 6364136223846793005)) + 1442695040888963407)) 45)) 255) + (x1.toNat : Int))) 255))] ⟨rfl, rfl, trivial⟩ fun σ => ?_
    have H : HL F0 M w0 w4 [Pr.S o0.b (.slice Ao0_0 no0_0 co0_0), Pr.A b1 (ob1 + o0.i.toNat * 1) [.int .u8 (x1.toNat : Int)], Pr.R x1 [.int .u8 (x1.toNat : Int)]] [It.B bo0 159 [.slice Ao0_0 no0_0 co0_0, .int .i64 o0.i, .int .i64 (IntKind.i64.wrap ((IntKind.i64.wrap (o0.h * 6364136223846793005)) + 1442695040888963407))]] := H
    refine CW.reg ?_
    refine WL.ev rfl rfl (Ev.mv rfl rfl) (WL.ev rfl rfl (Ev.mv rfl rfl) (WL.ev rfl rfl (Ev.nilc rfl rfl) (WL.ev rfl rfl (Ev.fa rfl fo159_1 rfl) (WL.ev rfl rfl (Ev.ld rfl ag3 rfl ((H.rB (i := 0) rfl).cell rfl)) (WL.ev rfl rfl (Ev.bin rfl rfl rfl Bin.addw) (WL.ev rfl rfl (Ev.nilc rfl rfl) (WL.ev rfl rfl (Ev.fa rfl fo159_1 rfl) ?_)))))))
    refine WL.stB (i := 0) rfl rfl rfl sz3 rfl rfl rfl rfl (all1 rfl all0) H rfl rfl rfl fun w5 H => ?_
    refine WL.nil ?_
    refine CW.seq (CW.reg ?_)
    refine WL.ev rfl rfl (Ev.mv rfl rfl) (WL.ev rfl rfl (Ev.as rfl rfl) (WL.nil ?_))
    refine CW.ret ?_
    obtain rfl := sm hr
    exact ⟨_, res1 rfl rfl rfl, H.chg, rfl, (i64_wrap _), (i64_wrap _), (i64_wrap _), H.outM (fr' := []) [true] fun _ _ => trivial⟩
  · skip
    have hr := ifn h1 hr
    refine CW.skip ?_
    refine CW.seq (CW.reg ?_)
    refine WL.ev rfl rfl (Ev.mv rfl rfl) (WL.ev rfl rfl (Ev.as rfl rfl) (WL.nil ?_))
    refine CW.ret ?_
    obtain rfl := sm hr
    exact ⟨_, res1 rfl rfl rfl, H.chg, rfl, (i64_wrap _), hIo0_1, (i64_wrap _), H.outM (fr' := []) [true] fun _ _ => trivial⟩

noncomputable def sl1Below_m (a1 : Int) (o0 : l1Cur) : Option (Int × l1Cur) :=
  if a1 ≤ 0 then (
  some (0, o0)
  ) else (
  if a1 ≤ 256 then (
  (sl1Byte_m o0).bind fun (y1, z1) =>
  grd (a1 ≠ 0) <|
  some ((y1.tmod a1), (⟨o0.b, z1.i, z1.h⟩ : l1Cur))
  ) else (
  (sl1Byte_m o0).bind fun (y2, z2) =>
  (sl1Byte_m (⟨o0.b, z2.i, z2.h⟩ : l1Cur)).bind fun (y3, z3) =>
  (sl1Byte_m (⟨o0.b, z3.i, z3.h⟩ : l1Cur)).bind fun (y4, z4) =>
  (sl1Byte_m (⟨o0.b, z4.i, z4.h⟩ : l1Cur)).bind fun (y5, z5) =>
  grd (I64 (y2 * 16777216)) <|
  grd (I64 (y3 * 65536)) <|
  grd (I64 ((y2 * 16777216) + (y3 * 65536))) <|
  grd (I64 (y4 * 256)) <|
  grd (I64 (((y2 * 16777216) + (y3 * 65536)) + (y4 * 256))) <|
  grd (I64 ((((y2 * 16777216) + (y3 * 65536)) + (y4 * 256)) + y5)) <|
  grd (a1 ≠ 0) <|
  some ((((((y2 * 16777216) + (y3 * 65536)) + (y4 * 256)) + y5).tmod a1), (⟨o0.b, z5.i, z5.h⟩ : l1Cur))
  )
  )
theorem sl1Below_ok {a1 : Int} {o0 : l1Cur} {r : (Int × l1Cur)} (hr : sl1Below_m a1 o0 = some r) {F0 : Nat → Prop} {M : List Nat} {w0 : World} {bo0 : Nat} {Ao0_0 : Option Addr} {no0_0 co0_0 : Nat} (hIa1 : I64 a1) (hIo0_1 : I64 o0.i) (hIo0_2 : I64 o0.h) (H : HL F0 M w0 w0 [Pr.S o0.b (.slice Ao0_0 no0_0 co0_0)] [It.B bo0 159 [.slice Ao0_0 no0_0 co0_0, .int .i64 o0.i, .int .i64 o0.h]]) :
    Ret Try.prog 86 #[.pointer (some ⟨bo0, 0, none⟩), .int .i64 a1] w0 (· ∈ M) fun v w => v = .int .i64 r.1 ∧ I64 r.1 ∧ I64 r.2.i ∧ I64 r.2.h ∧ HL F0 M w0 w [] [It.B bo0 159 [.slice Ao0_0 no0_0 co0_0, .int .i64 r.2.i, .int .i64 r.2.h]] := by
  refine enter Try.func86 rfl rfl rfl ?_
  refine CW.seq (CW.reg ?_)
  refine WL.ev rfl rfl (Ev.as rfl rfl) (WL.nil ?_)
  refine CW.seq (CW.seq (CW.reg ?_))
  refine WL.ev rfl rfl (Ev.mv rfl rfl) (WL.ev rfl rfl (Ev.bin rfl rfl rfl Bin.leq) (WL.nil ?_))
  refine CW.condD rfl (fun h1 => ?_) (fun h1 => ?_)
  · skip
    have hr := ifp h1 hr
    refine CW.seq (CW.reg ?_)
    refine WL.ev rfl rfl (Ev.as rfl rfl) (WL.nil ?_)
    refine CW.ret ?_
    obtain rfl := sm hr
    exact ⟨_, res1 rfl rfl rfl, H.chg, rfl, (by decide : I64 0), hIo0_1, hIo0_2, H.outM (fr' := []) [true] fun _ _ => trivial⟩
  · skip
    have hr := ifn h1 hr
    refine CW.skip ?_
    refine CW.seq (CW.seq (CW.reg ?_))
    refine WL.ev rfl rfl (Ev.mv rfl rfl) (WL.ev rfl rfl (Ev.bin rfl rfl rfl Bin.leq) (WL.nil ?_))
    refine CW.condD rfl (fun h2 => ?_) (fun h2 => ?_)
    · skip
      have hr := ifp h2 hr
      refine CW.seq (CW.reg ?_)
      refine WL.ev rfl rfl (Ev.mv rfl rfl) ?_
      obtain ⟨⟨y1, z1⟩, hy1, hr⟩ := bd hr
      obtain ⟨F', M', hfF, hoF, hcM⟩ := H.callN [true] ⟨noB, trivial⟩
      obtain ⟨H', hcN⟩ := hcM (ps := [Pr.S o0.b (.slice Ao0_0 no0_0 co0_0)]) ⟨hfF.get (i := 0) rfl, trivial⟩
      refine WL.call rfl rfl rfl rfl rfl ok147 rfl (sl1Byte_ok hy1 hIo0_1 hIo0_2 H') ?_
      rintro _ w1 hE ⟨rfl, hI1, hI2, hI3, H'⟩
      have H := hcN 1 H' rfl ⟨fun _ _ _ _ _ h => h, trivial⟩
      refine WL.ev rfl rfl (Ev.mv rfl rfl) ?_
      obtain ⟨hg1, hr⟩ := grd_some hr
      refine WL.ev rfl rfl (Ev.bin rfl rfl rfl (Bin.remI hg1)) (WL.ev rfl rfl (Ev.as rfl rfl) (WL.nil ?_))
      refine CW.ret ?_
      obtain rfl := sm hr
      exact ⟨_, res1 rfl rfl rfl, H.chg, rfl, (i64_rem hI1), hI2, hI3, H.outM (fr' := []) [true] fun _ _ => trivial⟩
    · skip
      have hr := ifn h2 hr
      refine CW.skip ?_
      refine CW.seq (CW.reg ?_)
      refine WL.ev rfl rfl (Ev.mv rfl rfl) ?_
      obtain ⟨⟨y2, z2⟩, hy2, hr⟩ := bd hr
      obtain ⟨F', M', hfF, hoF, hcM⟩ := H.callN [true] ⟨noB, trivial⟩
      obtain ⟨H', hcN⟩ := hcM (ps := [Pr.S o0.b (.slice Ao0_0 no0_0 co0_0)]) ⟨hfF.get (i := 0) rfl, trivial⟩
      refine WL.call rfl rfl rfl rfl rfl ok147 rfl (sl1Byte_ok hy2 hIo0_1 hIo0_2 H') ?_
      rintro _ w2 hE ⟨rfl, hI4, hI5, hI6, H'⟩
      have H := hcN 1 H' rfl ⟨fun _ _ _ _ _ h => h, trivial⟩
      refine WL.ev rfl rfl (Ev.as rfl rfl) (WL.nil ?_)
      refine CW.seq (CW.reg ?_)
      refine WL.ev rfl rfl (Ev.mv rfl rfl) ?_
      obtain ⟨⟨y3, z3⟩, hy3, hr⟩ := bd hr
      obtain ⟨F', M', hfF, hoF, hcM⟩ := H.callN [true] ⟨noB, trivial⟩
      obtain ⟨H', hcN⟩ := hcM (ps := [Pr.S o0.b (.slice Ao0_0 no0_0 co0_0)]) ⟨hfF.get (i := 0) rfl, trivial⟩
      refine WL.call rfl rfl rfl rfl rfl ok147 rfl (sl1Byte_ok hy3 hI5 hI6 H') ?_
      rintro _ w3 hE ⟨rfl, hI7, hI8, hI9, H'⟩
      have H := hcN 1 H' rfl ⟨fun _ _ _ _ _ h => h, trivial⟩
      refine WL.ev rfl rfl (Ev.as rfl rfl) (WL.nil ?_)
      refine CW.seq (CW.reg ?_)
      refine WL.ev rfl rfl (Ev.mv rfl rfl) ?_
      obtain ⟨⟨y4, z4⟩, hy4, hr⟩ := bd hr
      obtain ⟨F', M', hfF, hoF, hcM⟩ := H.callN [true] ⟨noB, trivial⟩
      obtain ⟨H', hcN⟩ := hcM (ps := [Pr.S o0.b (.slice Ao0_0 no0_0 co0_0)]) ⟨hfF.get (i := 0) rfl, trivial⟩
      refine WL.call rfl rfl rfl rfl rfl ok147 rfl (sl1Byte_ok hy4 hI8 hI9 H') ?_
      rintro _ w4 hE ⟨rfl, hI10, hI11, hI12, H'⟩
      have H := hcN 1 H' rfl ⟨fun _ _ _ _ _ h => h, trivial⟩
      refine WL.ev rfl rfl (Ev.as rfl rfl) (WL.nil ?_)
      refine CW.seq (CW.reg ?_)
      refine WL.ev rfl rfl (Ev.mv rfl rfl) ?_
      obtain ⟨⟨y5, z5⟩, hy5, hr⟩ := bd hr
      obtain ⟨F', M', hfF, hoF, hcM⟩ := H.callN [true] ⟨noB, trivial⟩
      obtain ⟨H', hcN⟩ := hcM (ps := [Pr.S o0.b (.slice Ao0_0 no0_0 co0_0)]) ⟨hfF.get (i := 0) rfl, trivial⟩
      refine WL.call rfl rfl rfl rfl rfl ok147 rfl (sl1Byte_ok hy5 hI11 hI12 H') ?_
      rintro _ w5 hE ⟨rfl, hI13, hI14, hI15, H'⟩
      have H := hcN 1 H' rfl ⟨fun _ _ _ _ _ h => h, trivial⟩
      refine WL.ev rfl rfl (Ev.as rfl rfl) (WL.nil ?_)
      refine CW.seq (CW.reg ?_)
      refine WL.ev rfl rfl (Ev.mv rfl rfl) ?_
      obtain ⟨hg2, hr⟩ := grd_some hr
      refine WL.ev rfl rfl (Ev.bin rfl rfl rfl (Bin.mul hg2)) (WL.ev rfl rfl (Ev.mv rfl rfl) ?_)
      obtain ⟨hg3, hr⟩ := grd_some hr
      refine WL.ev rfl rfl (Ev.bin rfl rfl rfl (Bin.mul hg3)) ?_
      obtain ⟨hg4, hr⟩ := grd_some hr
      refine WL.ev rfl rfl (Ev.bin rfl rfl rfl (Bin.add hg4)) (WL.ev rfl rfl (Ev.mv rfl rfl) ?_)
      obtain ⟨hg5, hr⟩ := grd_some hr
      refine WL.ev rfl rfl (Ev.bin rfl rfl rfl (Bin.mul hg5)) ?_
      obtain ⟨hg6, hr⟩ := grd_some hr
      refine WL.ev rfl rfl (Ev.bin rfl rfl rfl (Bin.add hg6)) (WL.ev rfl rfl (Ev.mv rfl rfl) ?_)
      obtain ⟨hg7, hr⟩ := grd_some hr
      refine WL.ev rfl rfl (Ev.bin rfl rfl rfl (Bin.add hg7)) (WL.ev rfl rfl (Ev.mv rfl rfl) ?_)
      obtain ⟨hg8, hr⟩ := grd_some hr
      refine WL.ev rfl rfl (Ev.bin rfl rfl rfl (Bin.remI hg8)) (WL.ev rfl rfl (Ev.as rfl rfl) (WL.nil ?_))
      refine CW.ret ?_
      obtain rfl := sm hr
      exact ⟨_, res1 rfl rfl rfl, H.chg, rfl, (i64_rem hg7), hI14, hI15, H.outM (fr' := []) [true] fun _ _ => trivial⟩

noncomputable def sl1PickInt_m (a1 : (List Int)) (o0 : l1Cur) : Option (Int × l1Cur) :=
  (sl1Below_m (a1.length : Int) o0).bind fun (y1, z1) =>
  grd (0 ≤ y1) <|
  (a1[y1.toNat]?).bind fun x1 =>
  some (x1, (⟨o0.b, z1.i, z1.h⟩ : l1Cur))
theorem sl1PickInt_ok {a1 : (List Int)} {o0 : l1Cur} {r : (Int × l1Cur)} (hr : sl1PickInt_m a1 o0 = some r) {F0 : Nat → Prop} {M : List Nat} {w0 : World} {bo0 : Nat} {Aa1 : Option Addr} {na1 ca1 : Nat} {Ao0_0 : Option Addr} {no0_0 co0_0 : Nat} (hIo0_1 : I64 o0.i) (hIo0_2 : I64 o0.h) (H : HL F0 M w0 w0 [Pr.S a1 (.slice Aa1 na1 ca1), Pr.S o0.b (.slice Ao0_0 no0_0 co0_0)] [It.B bo0 159 [.slice Ao0_0 no0_0 co0_0, .int .i64 o0.i, .int .i64 o0.h]]) :
    Ret Try.prog 116 #[.pointer (some ⟨bo0, 0, none⟩), .slice Aa1 na1 ca1] w0 (· ∈ M) fun v w => v = .int .i64 r.1 ∧ I64 r.1 ∧ I64 r.2.i ∧ I64 r.2.h ∧ HL F0 M w0 w [] [It.B bo0 159 [.slice Ao0_0 no0_0 co0_0, .int .i64 r.2.i, .int .i64 r.2.h]] := by
  refine enter Try.func116 rfl rfl rfl ?_
  refine CW.seq (CW.reg ?_)
  refine WL.ev rfl rfl (Ev.as rfl rfl) (WL.nil ?_)
  refine CW.seq (CW.reg ?_)
  refine WL.ev rfl rfl (Ev.mv rfl rfl) (WL.ev rfl rfl (Ev.mv rfl rfl) (WL.ev rfl rfl (Ev.mv rfl rfl) ?_))
  have hl1 := (H.rS (i := 0) rfl).I
  refine WL.ev rfl rfl (Ev.lenV rfl el41 rfl (H.rS (i := 0) rfl)) ?_
  obtain ⟨⟨y1, z1⟩, hy1, hr⟩ := bd hr
  obtain ⟨F', M', hfF, hoF, hcM⟩ := H.callN [true] ⟨noB, trivial⟩
  obtain ⟨H', hcN⟩ := hcM (ps := [Pr.S o0.b (.slice Ao0_0 no0_0 co0_0)]) ⟨hfF.get (i := 1) rfl, trivial⟩
  refine WL.call rfl rfl rfl rfl rfl ok86 rfl (sl1Below_ok hy1 hl1 hIo0_1 hIo0_2 H') ?_
  rintro _ w1 hE ⟨rfl, hI1, hI2, hI3, H'⟩
  have H := hcN 1 H' rfl ⟨fun _ _ _ _ _ h => h, trivial⟩
  obtain ⟨hg1, hr⟩ := grd_some hr
  obtain ⟨x1, hx1, hr⟩ := bd hr
  obtain ⟨b1, ob1, cb1, hvb1, hI4, H⟩ := ixS_Int H (i := 0) rfl hx1
  refine WL.ev rfl rfl (Ev.ixV rfl el41 sz3 rfl hvb1 rfl hg1 (lt_of hx1)) (WL.ev rfl rfl (Ev.ld rfl ag3 rfl ((H.rA (i := 2) rfl).cell0 rfl)) (WL.ev rfl rfl (Ev.as rfl rfl) (WL.nil ?_)))
  refine CW.ret ?_
  obtain rfl := sm hr
  exact ⟨_, res1 rfl rfl rfl, H.chg, rfl, hI4, hI2, hI3, H.outM (fr' := []) [true] fun _ _ => trivial⟩

noncomputable def sl1In_m (a0 : Int) (a1 : Int) (a2 : Int) : Option Bool :=
  if a1 ≤ a0 then (
  some (decide (a0 ≤ a2))
  ) else (
  some false
  )
theorem sl1In_ok {a0 : Int} {a1 : Int} {a2 : Int} {r : Bool} (hr : sl1In_m a0 a1 a2 = some r) {F0 : Nat → Prop} {w0 : World} (ha0 : I64 a0) (ha1 : I64 a1) (ha2 : I64 a2) :
    Ret Try.prog 112 #[.int .i64 a0, .int .i64 a1, .int .i64 a2] w0 (fun _ => False) fun v w => v = .bool r := by
  have H := HL.start F0 w0
  refine enter Try.func112 rfl rfl rfl ?_
  refine CW.seq (CW.reg ?_)
  refine WL.ev rfl rfl (Ev.as rfl rfl) (WL.nil ?_)
  refine CW.seq (CW.reg ?_)
  refine WL.ev rfl rfl (Ev.mv rfl rfl) (WL.ev rfl rfl (Ev.mv rfl rfl) (WL.ev rfl rfl (Ev.bin rfl rfl rfl Bin.geq) ?_))
  refine WL.mvD rfl rfl rfl rfl (fun h1 => ?_) (fun h1 => ?_)
  · skip
    have hr := ifp h1 hr
    refine WL.on rfl rfl (WL.ev rfl rfl (Ev.mv rfl rfl) (WL.on rfl rfl (WL.ev rfl rfl (Ev.mv rfl rfl) (WL.on rfl rfl (WL.ev rfl rfl (Ev.bin rfl rfl rfl Bin.leq) (WL.ev rfl rfl (Ev.pickT rfl rfl rfl) (WL.ev rfl rfl (Ev.as rfl rfl) (WL.nil ?_))))))))
    refine CW.ret ?_
    obtain rfl := sm hr
    exact ⟨_, res1 rfl rfl rfl, H.ext0, rfl⟩
  · skip
    have hr := ifn h1 hr
    refine WL.off rfl rfl rfl (WL.off rfl rfl rfl (WL.off rfl rfl rfl (WL.ev rfl rfl (Ev.pickF rfl rfl rfl) (WL.ev rfl rfl (Ev.as rfl rfl) (WL.nil ?_)))))
    refine CW.ret ?_
    obtain rfl := sm hr
    exact ⟨_, res1 rfl rfl rfl, H.ext0, rfl⟩

noncomputable def sEmptyRelation_m (a0 : Int) : Option Relation :=
  (sl1In_m a0 0 16).bind fun y1 =>
  if y1 = true then (
  grd (0 ≤ a0 ∧ a0 * 8 ≤ 281474976710656 ∧ a0 ≤ 9223372036854775807) <|
  some (⟨a0, (List.replicate a0.toNat (0 : Int))⟩ : Relation)
  ) else (
  some (⟨0, []⟩ : Relation)
  )
theorem sEmptyRelation_ok {a0 : Int} {r : Relation} (hr : sEmptyRelation_m a0 = some r) {F0 : Nat → Prop} {w0 : World} (ha0 : I64 a0) :
    Ret Try.prog 115 #[.int .i64 a0] w0 (fun _ => False) fun v w => ∃ A0 : Option Addr, ∃ n0 c0 : Nat, v = .agg #[.int .i64 r.N, (.slice A0 n0 c0)] ∧ I64 r.N ∧ HL F0 [] w0 w [] [It.O 3 r.Rows (.slice A0 n0 c0)] := by
  have H := HL.start F0 w0
  refine enter Try.func115 rfl rfl rfl ?_
  refine CW.seq (CW.reg ?_)
  refine WL.allocH rfl rfl rfl ze60 H fun b1 w1 H => ?_
  refine WL.nil ?_
  refine CW.seq (CW.seq (CW.reg ?_))
  refine WL.ev rfl rfl (Ev.mv rfl rfl) ?_
  obtain ⟨y1, hy1, hr⟩ := bd hr
  refine WL.call rfl rfl rfl rfl rfl ok112 rfl (sl1In_ok hy1 (F0 := fun _ => False) ha0 (by decide : I64 0) (by decide : I64 16)) ?_
  rintro _ w2 hE rfl
  have H := H.ext hE
  refine WL.ev rfl rfl (Ev.not rfl rfl) (WL.nil ?_)
  refine CW.condBN rfl (fun h1 => ?_) (fun h1 => ?_)
  · skip
    have hr := ifn h1 hr
    refine CW.seq (CW.reg ?_)
    refine WL.ev rfl rfl (Ev.build rfl pl60 ze60 rfl rfl rfl rfl) ?_
    refine WL.stB (i := 0) rfl rfl rfl sz60 rfl rfl rfl rfl (all1 rfl (all1 rfl all0)) H rfl rfl rfl fun w3 H => ?_
    refine WL.nil ?_
    refine CW.ret ?_
    have H := H.nil (α := Int) 3
    obtain rfl := sm hr
    exact ⟨_, resC rfl ag60 sz60 rfl rfl (At.blk (H.rB (i := 0) rfl)) rfl, H.ext0, _, _, _, rfl, (by decide : I64 0), H.outM (fr' := []) [false, true] fun _ _ => trivial⟩
  · skip
    have hr := ifp h1 hr
    refine CW.skip ?_
    refine CW.seq (CW.reg ?_)
    refine WL.ev rfl rfl (Ev.mv rfl rfl) (WL.ev rfl rfl (Ev.mv rfl rfl) ?_)
    obtain ⟨hg1, hr⟩ := grd_some hr
    refine WL.mkH (x := (0 : Int)) rfl rfl rfl el41 sz3 by3 ze3 (fun _ => ⟨rfl, rfl, (by decide : I64 0)⟩) rfl rfl hg1 H fun A1 n1 c1 w4 H => ?_
    refine WL.ev rfl rfl (Ev.build rfl pl60 ze60 rfl rfl rfl rfl) ?_
    refine WL.stB (i := 0) rfl rfl rfl sz60 rfl rfl rfl rfl (all1 rfl (all1 rfl all0)) H rfl rfl rfl fun w5 H => ?_
    refine WL.nil ?_
    refine CW.ret ?_
    obtain rfl := sm hr
    exact ⟨_, resC rfl ag60 sz60 rfl rfl (At.blk (H.rB (i := 0) rfl)) rfl, H.ext0, _, _, _, rfl, ha0, H.outM (fr' := []) [false, true] fun _ _ => trivial⟩

noncomputable def sl22Copy_m (a0 : Relation) : Option Relation :=
  grd (((([] : List Int).length : Int) + (a0.Rows.length : Int)) * 8 ≤ 140737488355328 ∧ (([] : List Int).length : Int) + (a0.Rows.length : Int) ≤ 9223372036854775807) <|
  some a0
theorem sl22Copy_ok {a0 : Relation} {r : Relation} (hr : sl22Copy_m a0 = some r) {F0 : Nat → Prop} {w0 : World} {ca0 : List Value} (ha0 : rd F0 w0 a0 ca0) :
    Ret Try.prog 108 #[.agg ca0.toArray] w0 (fun _ => False) fun v w => ∃ A0 : Option Addr, ∃ n0 c0 : Nat, v = .agg #[.int .i64 r.N, (.slice A0 n0 c0)] ∧ I64 r.N ∧ HL F0 [] w0 w [] [It.O 3 r.Rows (.slice A0 n0 c0)] := by
  have H := (HL.start F0 w0).argR ha0
  obtain ⟨A1, n1, c1, rfl, hI1, H⟩ := op_Relation H (i := 0) rfl
  refine enter Try.func108 rfl rfl rfl ?_
  refine CW.seq (CW.reg ?_)
  refine WL.boxH rfl rfl rfl rfl rfl H fun b1 w1 H => ?_
  refine WL.allocH rfl rfl rfl ze60 H fun b2 w2 H => ?_
  refine WL.nil ?_
  obtain ⟨hg1, hr⟩ := grd_some hr
  refine CW.seq (CW.any2 6 (fun ρ => [.fix (.pointer (some ⟨b1, 0 + 0, none⟩)), .fix (.int .i64 a0.N), .free (fun _ v _ => ∃ g : Nat, v = .slice (some ⟨g, 0, none⟩) 0 0), .fix (.pointer (some ⟨b1, 0 + 1, none⟩)), .fix (.slice A1 n1 c1), .free (fun S v w => ∃ A : Option Addr, ∃ m c : Nat, v = .slice A m c ∧ NewI S w [It.O 3 a0.Rows (.slice A m c)])]) [[], [], [], [], [], []] NoM (fun _ _ => True) [] [] (noM _) hmix (by kernel_rfl) rfl ⟨trivial, trivial, fun _ _ _ _ _ h _ _ _ => h, trivial, trivial, fun _ _ _ _ _ ⟨A, m, c, h1, h2⟩ hc hS _ => ⟨A, m, c, h1, h2.chgT hc hS⟩, trivial⟩ trivial (fun _ _ _ _ _ _ _ => trivial) ?_)
  refine LL2.fx rfl rfl rfl rfl rfl (fun _ hq hK => Ev.fa rfl fo60_0 rfl) ?_
  refine LL2.fx rfl rfl rfl rfl rfl (fun _ hq hK => Ev.ld rfl ag3 rfl (((H.ext hq).rB (i := 0) rfl).cell rfl)) ?_
  refine LL2.free rfl rfl rfl rfl (fun wq hq hK => OpX.lit0N rfl rfl el41 sz3 fun g w hE => ⟨hE, g, rfl⟩) (fun v_G1_2 S_G1_2 => ?_)
  refine LL2.fx rfl rfl rfl rfl rfl (fun _ hq hK => Ev.fa rfl fo60_1 rfl) ?_
  refine LL2.fx rfl rfl rfl rfl rfl (fun _ hq hK => Ev.ld rfl ag41 rfl (((H.ext hq).rB (i := 0) rfl).cell rfl)) ?_
  refine LL2.free rfl rfl rfl rfl (fun wq hq hK => ?_) (fun v_G1_5 S_G1_5 => ?_)
  · obtain ⟨g, e⟩ : ∃ g : Nat, v_G1_2 = .slice (some ⟨g, 0, none⟩) 0 0 := hK 2 rfl
    subst e
    exact OpX.appN rfl rfl el41 sz3 by3 ze3 rfl rfl rfl ((H.ext hq).rS (i := 1) rfl) hg1 fun A m c w hE h => ⟨hE, A, m, c, rfl, h⟩
  intro w3 hE _ hK hap hbd
  have hE := chgNew hE
  obtain ⟨g1, rfl⟩ := hK 2 (by decide)
  obtain ⟨A2, n2, c2, rfl, hN1⟩ := hK 5 (by decide)
  have H := H.add hE hN1 ⟨fun _ _ _ _ _ h => h, trivial⟩ (fun q hq => (hbd 5 q hq).1)
  have H := H.lit0 (α := Int) 3 (some ⟨g1, 0, none⟩)
  refine WL.ev rfl rfl (Ev.build rfl pl60 ze60 rfl rfl rfl rfl) ?_
  refine WL.stB (i := 1) rfl rfl rfl sz60 rfl rfl rfl rfl (all1 rfl (all1 rfl all0)) H rfl rfl rfl fun w4 H => ?_
  refine WL.nil ?_
  refine CW.ret ?_
  obtain rfl := sm hr
  exact ⟨_, resC rfl ag60 sz60 rfl rfl (At.blk (H.rB (i := 1) rfl)) rfl, H.ext0, _, _, _, rfl, hI1, H.outM (fr' := []) [false, false, true, false] fun _ _ => trivial⟩

noncomputable def sIsValidRelation_L1 (a0 : Relation) : Nat → Unit → Option (Unit ⊕ Bool) := fun k1 _ => 
  (a0.Rows[k1]?).bind fun x1 =>
  grd (0 ≤ a0.N) <|
  grd (0 ≤ a0.N ∧ a0.N < 63) <|
  (sl1In_m x1 0 (((2 ^ a0.N.toNat : Nat) : Int) - 1)).bind fun y2 =>
  if y2 = true then (
  some (.inl ())
  ) else (
  some (.inr false)
  )
noncomputable def sIsValidRelation_m (a0 : Relation) : Option Bool :=
  (sl1In_m a0.N 0 16).bind fun y1 =>
  if y1 = true then (
  if (a0.Rows.length : Int) = a0.N then (
  (findN (sIsValidRelation_L1 a0) 0 (a0.N.toNat) ()).bind <| onr (fun r1 => some r1) fun _ =>
  some true
  ) else (
  some false
  )
  ) else (
  some false
  )
theorem sIsValidRelation_ok {a0 : Relation} {r : Bool} (hr : sIsValidRelation_m a0 = some r) {F0 : Nat → Prop} {w0 : World} {ca0 : List Value} (ha0 : rd F0 w0 a0 ca0) :
    Ret Try.prog 40 #[.agg ca0.toArray] w0 (fun _ => False) fun v w => v = .bool r := by
  have H := (HL.start F0 w0).argR ha0
  obtain ⟨A1, n1, c1, rfl, hI1, H⟩ := op_Relation H (i := 0) rfl
  refine enter Try.func40 rfl rfl rfl ?_
  refine CW.seq (CW.reg ?_)
  refine WL.boxH rfl rfl rfl rfl rfl H fun b1 w1 H => ?_
  refine WL.ev rfl rfl (Ev.as rfl rfl) (WL.nil ?_)
  refine CW.seq (CW.seq (CW.reg ?_))
  refine WL.ev rfl rfl (Ev.fa rfl fo60_0 rfl) (WL.ev rfl rfl (Ev.ld rfl ag3 rfl ((H.rB (i := 0) rfl).cell rfl)) ?_)
  obtain ⟨y1, hy1, hr⟩ := bd hr
  refine WL.call rfl rfl rfl rfl rfl ok112 rfl (sl1In_ok hy1 (F0 := fun _ => False) hI1 (by decide : I64 0) (by decide : I64 16)) ?_
  rintro _ w2 hE rfl
  have H := H.ext hE
  refine WL.ev rfl rfl (Ev.not rfl rfl) ?_
  refine WL.mvBN rfl rfl rfl rfl (fun h1 => ?_) (fun h1 => ?_)
  · skip
    have hr := ifn h1 hr
    refine WL.off rfl rfl rfl (WL.off rfl rfl rfl (WL.off rfl rfl rfl (WL.off rfl rfl rfl (WL.off rfl rfl rfl (WL.off rfl rfl rfl (WL.ev rfl rfl (Ev.pickT rfl rfl rfl) (WL.nil ?_)))))))
    refine CW.condT rfl ?_
    refine CW.seq (CW.reg ?_)
    refine WL.ev rfl rfl (Ev.as rfl rfl) (WL.nil ?_)
    refine CW.ret ?_
    obtain rfl := sm hr
    exact ⟨_, res1 rfl rfl rfl, H.ext0, rfl⟩
  · skip
    have hr := ifp h1 hr
    refine WL.on rfl rfl (WL.ev rfl rfl (Ev.fa rfl fo60_1 rfl) (WL.on rfl rfl (WL.ev rfl rfl (Ev.ld rfl ag41 rfl ((H.rB (i := 0) rfl).cell rfl)) (WL.on rfl rfl ?_))))
    have hl1 := (H.rS (i := 1) rfl).I
    refine WL.ev rfl rfl (Ev.lenV rfl el41 rfl (H.rS (i := 1) rfl)) (WL.on rfl rfl (WL.ev rfl rfl (Ev.fa rfl fo60_0 rfl) (WL.on rfl rfl (WL.ev rfl rfl (Ev.ld rfl ag3 rfl ((H.rB (i := 0) rfl).cell rfl)) (WL.on rfl rfl (WL.ev rfl rfl (Ev.bin rfl rfl rfl Bin.neq) (WL.ev rfl rfl (Ev.pickF rfl rfl rfl) (WL.nil ?_))))))))
    refine CW.condN rfl (fun h2 => ?_) (fun h2 => ?_)
    · skip
      have hr := ifn h2 hr
      refine CW.seq (CW.reg ?_)
      refine WL.ev rfl rfl (Ev.as rfl rfl) (WL.nil ?_)
      refine CW.ret ?_
      obtain rfl := sm hr
      exact ⟨_, res1 rfl rfl rfl, H.ext0, rfl⟩
    · skip
      have hr := ifp h2 hr
      refine CW.skip ?_
      refine CW.seq (CW.seq (CW.reg ?_))
      refine WL.ev rfl rfl (Ev.as rfl rfl) (WL.nil ?_)
      obtain ⟨q1, hq1, hr⟩ := bd hr
      refine CW.block (CW.loop (α := Nat) (fun k1 => [(1, .pointer (some ⟨b1, 0, none⟩)), (3, .int .i64 (k1 : Int))]) (fun k1 w => k1 ≤ a0.N.toNat ∧ findN (sIsValidRelation_L1 a0) k1 (a0.N.toNat - k1) () = some q1 ∧ HL F0 [] w0 w [Pr.R a0 [.int .i64 a0.N, .slice A1 n1 c1], Pr.S a0.Rows (.slice A1 n1 c1)] [It.B b1 60 [.int .i64 a0.N, .slice A1 n1 c1]]) (fun k1 => a0.N.toNat - k1) 0 ⟨rfl, rfl, trivial⟩ ⟨Nat.zero_le _, hq1, H.keep 2 1⟩ ?_)
      rintro k1 σ w3 ⟨hk1, hq1, H⟩
      refine CW.seq (CW.seq (CW.reg ?_))
      refine WL.ev rfl rfl (Ev.mv rfl rfl) (WL.ev rfl rfl (Ev.fa rfl fo60_0 rfl) (WL.ev rfl rfl (Ev.ld rfl ag3 rfl ((H.rB (i := 0) rfl).cell rfl)) (WL.ev rfl rfl (Ev.bin rfl rfl rfl Bin.lss) (WL.nil ?_))))
      refine CW.condD rfl (fun h3 => ?_) (fun h3 => ?_)
      · skip
        have hk2 := toNat_lt h3
        obtain ⟨z1, hb1, hs1, ht1⟩ := findN_go hq1 hk2
        refine CW.skip ?_
        refine CW.seq (CW.block (CW.seq (CW.quiet hmix (by kernel_rfl) ?_)))
        refine QL.ev rfl rfl (fun _ _ => Ev.fa rfl fo60_1 rfl) (QL.ev rfl rfl (fun _ hq => Ev.ld rfl ag41 rfl (((H.ext hq).rB (i := 0) rfl).cell rfl)) (QL.ev rfl rfl (fun _ _ => Ev.mv rfl rfl) ?_))
        obtain ⟨x1, hx1, hb1⟩ := bd hb1
        obtain ⟨b2, ob2, cb2, hvb2, hI2, H⟩ := ixS_Int H (i := 1) rfl hx1
        refine QL.ev rfl rfl (fun _ _ => Ev.ixVN rfl el41 sz3 rfl hvb2 rfl (lt_of hx1)) (QL.ev rfl rfl (fun _ hq => Ev.ld rfl ag3 rfl (((H.ext hq).rA (i := 2) rfl).cell0 rfl)) (QL.ev rfl rfl (fun _ _ => Ev.fa rfl fo60_0 rfl) (QL.ev rfl rfl (fun _ hq => Ev.ld rfl ag3 rfl (((H.ext hq).rB (i := 0) rfl).cell rfl)) ?_)))
        obtain ⟨hg1, hb1⟩ := grd_some hb1
        refine QL.ev rfl rfl (fun _ _ => Ev.convUI rfl Try.underlying3 it130 rfl hg1 hI1.2) ?_
        obtain ⟨hg2, hb1⟩ := grd_some hb1
        refine QL.ev rfl rfl (fun _ _ => Ev.bin rfl rfl rfl (Bin.shlI hg2.1 hg2.2)) (QL.ev rfl rfl (fun _ _ => Ev.bin rfl rfl rfl (Bin.sub (i64_sub (k := 1) (i64_pow hg2.2) (by decide)))) ?_)
        obtain ⟨y2, hy2, hb1⟩ := bd hb1
        refine QL.call rfl rfl rfl rfl rfl ok112 rfl (fun _ hq => sl1In_ok hy2 (F0 := fun _ => False) hI2 (by decide : I64 0) (i64_sub (k := 1) (i64_pow hg2.2) (by decide))) ?_
        refine QL.ev rfl rfl (fun _ _ => Ev.not rfl rfl) (QL.nil (fun w4 hE => ?_))
        have H := H.ext hE
        refine CW.condBN rfl (fun h4 => ?_) (fun h4 => ?_)
        · skip
          have hb1 := ifn h4 hb1
          refine CW.seq (CW.reg ?_)
          refine WL.ev rfl rfl (Ev.as rfl rfl) (WL.nil ?_)
          refine CW.ret ?_
          obtain rfl := sm hb1
          obtain rfl := ht1 _ rfl
          obtain rfl := sm hr
          exact ⟨_, res1 rfl rfl rfl, H.ext0, rfl⟩
        · skip
          have hb1 := ifp h4 hb1
          refine CW.skip ?_
          refine CW.reg ?_
          refine WL.ev rfl rfl (Ev.mv rfl rfl) (WL.ev rfl rfl (Ev.bin rfl rfl rfl (Bin.addN (a := k1) (b := 1) rfl (i64_succNI h3 hI1.2))) (WL.ev rfl rfl (Ev.as rfl rfl) (WL.nil ?_)))
          obtain rfl := sm hb1
          have hq1 := hs1 _ rfl
          exact ⟨(k1 + 1), ⟨rfl, rfl, trivial⟩, ⟨hk2, hq1, H.keep 2 1⟩, Nat.sub_lt_sub_left hk2 (Nat.lt_succ_self _)⟩
      · skip
        obtain rfl := findN_end hq1 (not_toNat_lt h3)
        have hr := (onr_inl _ _ _).symm.trans hr
        refine CW.exit ?_
        refine CW.seq (CW.reg ?_)
        refine WL.ev rfl rfl (Ev.as rfl rfl) (WL.nil ?_)
        refine CW.ret ?_
        obtain rfl := sm hr
        exact ⟨_, res1 rfl rfl rfl, H.ext0, rfl⟩

noncomputable def sAddPair_m (a0 : Relation) (a1 : Int) (a2 : Int) : Option Relation :=
  (sl22Copy_m a0).bind fun y1 =>
  (sIsValidRelation_m a0).bind fun y2 =>
  (
  if y2 = true then (
  grd (I64 (a0.N - 1)) <|
  (sl1In_m a1 0 (a0.N - 1)).bind fun y3 =>
  some y3
  ) else (
  some false
  )
  ).bind fun s1 =>
  (
  if s1 = true then (
  grd (I64 (a0.N - 1)) <|
  (sl1In_m a2 0 (a0.N - 1)).bind fun y4 =>
  some y4
  ) else (
  some false
  )
  ).bind fun s2 =>
  if s2 = true then (
  grd (0 ≤ a1) <|
  (y1.Rows[a1.toNat]?).bind fun x1 =>
  grd (0 ≤ a2) <|
  grd (0 ≤ a2 ∧ a2 < 63) <|
  grd (0 ≤ x1 ∧ 0 ≤ ((2 ^ a2.toNat : Nat) : Int)) <|
  some (⟨y1.N, (List.set y1.Rows a1.toNat ((x1.toNat ||| ((2 ^ a2.toNat : Nat) : Int).toNat : Nat) : Int))⟩ : Relation)
  ) else (
  some y1
  )
theorem sAddPair_ok {a0 : Relation} {a1 : Int} {a2 : Int} {r : Relation} (hr : sAddPair_m a0 a1 a2 = some r) {F0 : Nat → Prop} {w0 : World} {ca0 : List Value} (ha0 : rd F0 w0 a0 ca0) (ha1 : I64 a1) (ha2 : I64 a2) :
    Ret Try.prog 47 #[.agg ca0.toArray, .int .i64 a1, .int .i64 a2] w0 (fun _ => False) fun v w => ∃ A0 : Option Addr, ∃ n0 c0 : Nat, v = .agg #[.int .i64 r.N, (.slice A0 n0 c0)] ∧ I64 r.N ∧ HL F0 [] w0 w [] [It.O 3 r.Rows (.slice A0 n0 c0)] := by
  have H := (HL.start F0 w0).argR ha0
  obtain ⟨A1, n1, c1, rfl, hI1, H⟩ := op_Relation H (i := 0) rfl
  refine enter Try.func47 rfl rfl rfl ?_
  refine CW.seq (CW.reg ?_)
  refine WL.boxH rfl rfl rfl rfl rfl H fun b1 w1 H => ?_
  refine WL.allocH rfl rfl rfl ze60 H fun b2 w2 H => ?_
  refine WL.nil ?_
  refine CW.seq (CW.reg ?_)
  refine WL.ev rfl rfl (Ev.lda rfl ag60 sz60 rfl (At.blk (H.rB (i := 0) rfl)) rfl) ?_
  obtain ⟨y1, hy1, hr⟩ := bd hr
  refine WL.call rfl rfl rfl rfl rfl ok108 rfl (sl22Copy_ok hy1 ⟨_, rfl, hI1, (H.rS (i := 1) rfl)⟩) ?_
  rintro _ w3 hE ⟨A2, n2, c2, rfl, hI2, H'⟩
  have H := H.callA H' ⟨fun _ _ _ _ _ h => h, trivial⟩
  refine WL.allocH rfl rfl rfl ze60 H fun b3 w4 H => ?_
  refine WL.stB (i := 3) rfl rfl rfl sz60 rfl rfl rfl rfl (all1 rfl (all1 rfl all0)) H rfl rfl rfl fun w5 H => ?_
  refine WL.nil ?_
  refine CW.seq (CW.seq (CW.reg ?_))
  refine WL.ev rfl rfl (Ev.lda rfl ag60 sz60 rfl (At.blk (H.rB (i := 0) rfl)) rfl) ?_
  obtain ⟨y2, hy2, hr⟩ := bd hr
  refine WL.call rfl rfl rfl rfl rfl ok40 rfl (sIsValidRelation_ok hy2 ⟨_, rfl, hI1, (H.rS (i := 1) rfl)⟩) ?_
  rintro _ w6 hE rfl
  have H := H.ext hE
  obtain ⟨q1, hm1, hr⟩ := bd hr
  refine WL.cut 7 (fun ρ' w => ∃ (s1 : Bool), s1 = q1 ∧ agree ρ' [(1, .int .i64 a1), (2, .int .i64 a2), (3, .pointer (some ⟨b1, 0, none⟩)), (6, .pointer (some ⟨b2, 0, none⟩)), (7, .pointer (some ⟨b3, 0, none⟩)), (18, .bool s1)] ∧ HL F0 [] w0 w [Pr.R a0 [.int .i64 a0.N, .slice A1 n1 c1], Pr.S a0.Rows (.slice A1 n1 c1)] [It.B b1 60 [.int .i64 a0.N, .slice A1 n1 c1], It.B b2 60 [.int .i64 0, .slice none 0 0], It.O 3 y1.Rows (.slice A2 n2 c2), It.B b3 60 [.int .i64 y1.N, .slice A2 n2 c2]]) ?_ ?_
  · skip
    refine WL.mvB rfl rfl rfl rfl (fun h1 => ?_) (fun h1 => ?_)
    · skip
      have hm1 := ifp h1 hm1
      refine WL.on rfl rfl (WL.ev rfl rfl (Ev.mv rfl rfl) (WL.on rfl rfl (WL.ev rfl rfl (Ev.fa rfl fo60_0 rfl) (WL.on rfl rfl (WL.ev rfl rfl (Ev.ld rfl ag3 rfl ((H.rB (i := 0) rfl).cell rfl)) (WL.on rfl rfl ?_))))))
      obtain ⟨hg1, hm1⟩ := grd_some hm1
      refine WL.ev rfl rfl (Ev.bin rfl rfl rfl (Bin.sub hg1)) (WL.on rfl rfl ?_)
      obtain ⟨y3, hy3, hm1⟩ := bd hm1
      refine WL.call rfl rfl rfl rfl rfl ok112 rfl (sl1In_ok hy3 (F0 := fun _ => False) ha1 (by decide : I64 0) hg1) ?_
      rintro _ w7 hE rfl
      have H := H.ext hE
      refine WL.ev rfl rfl (Ev.pickT rfl rfl rfl) (WL.nil ?_)
      obtain rfl := sm hm1
      exact ⟨y3, rfl, ⟨rfl, rfl, rfl, rfl, rfl, rfl, trivial⟩, H.keep 2 4⟩
    · skip
      have hm1 := ifn h1 hm1
      refine WL.off rfl rfl rfl (WL.off rfl rfl rfl (WL.off rfl rfl rfl (WL.off rfl rfl rfl (WL.off rfl rfl rfl (WL.ev rfl rfl (Ev.pickF rfl rfl rfl) (WL.nil ?_))))))
      obtain rfl := sm hm1
      exact ⟨false, rfl, ⟨rfl, rfl, rfl, rfl, rfl, rfl, trivial⟩, H.keep 2 4⟩
  · rintro ρ' w8 ⟨s1, rfl, hag, H⟩
    obtain ⟨σ, rfl⟩ := ofL_ex hag
    obtain ⟨q2, hm2, hr⟩ := bd hr
    refine WL.cut 7 (fun ρ' w => ∃ (s2 : Bool), s2 = q2 ∧ agree ρ' [(1, .int .i64 a1), (2, .int .i64 a2), (6, .pointer (some ⟨b2, 0, none⟩)), (7, .pointer (some ⟨b3, 0, none⟩)), (25, .bool s2)] ∧ HL F0 [] w0 w [Pr.R a0 [.int .i64 a0.N, .slice A1 n1 c1], Pr.S a0.Rows (.slice A1 n1 c1)] [It.B b1 60 [.int .i64 a0.N, .slice A1 n1 c1], It.B b2 60 [.int .i64 0, .slice none 0 0], It.O 3 y1.Rows (.slice A2 n2 c2), It.B b3 60 [.int .i64 y1.N, .slice A2 n2 c2]]) ?_ ?_
    · skip
      refine WL.mvB rfl rfl rfl rfl (fun h2 => ?_) (fun h2 => ?_)
      · skip
        have hm2 := ifp h2 hm2
        refine WL.on rfl rfl (WL.ev rfl rfl (Ev.mv rfl rfl) (WL.on rfl rfl (WL.ev rfl rfl (Ev.fa rfl fo60_0 rfl) (WL.on rfl rfl (WL.ev rfl rfl (Ev.ld rfl ag3 rfl ((H.rB (i := 0) rfl).cell rfl)) (WL.on rfl rfl ?_))))))
        obtain ⟨hg2, hm2⟩ := grd_some hm2
        refine WL.ev rfl rfl (Ev.bin rfl rfl rfl (Bin.sub hg2)) (WL.on rfl rfl ?_)
        obtain ⟨y4, hy4, hm2⟩ := bd hm2
        refine WL.call rfl rfl rfl rfl rfl ok112 rfl (sl1In_ok hy4 (F0 := fun _ => False) ha2 (by decide : I64 0) hg2) ?_
        rintro _ w9 hE rfl
        have H := H.ext hE
        refine WL.ev rfl rfl (Ev.pickT rfl rfl rfl) (WL.nil ?_)
        obtain rfl := sm hm2
        exact ⟨y4, rfl, ⟨rfl, rfl, rfl, rfl, rfl, trivial⟩, H.keep 2 4⟩
      · skip
        have hm2 := ifn h2 hm2
        refine WL.off rfl rfl rfl (WL.off rfl rfl rfl (WL.off rfl rfl rfl (WL.off rfl rfl rfl (WL.off rfl rfl rfl (WL.ev rfl rfl (Ev.pickF rfl rfl rfl) (WL.nil ?_))))))
        obtain rfl := sm hm2
        exact ⟨false, rfl, ⟨rfl, rfl, rfl, rfl, rfl, trivial⟩, H.keep 2 4⟩
    · rintro ρ' w10 ⟨s2, rfl, hag, H⟩
      obtain ⟨σ, rfl⟩ := ofL_ex hag
      refine WL.nil ?_
      refine CW.condB rfl (fun h3 => ?_) (fun h3 => ?_)
      · skip
        have hr := ifp h3 hr
        refine CW.quietT 13 hmix (by kernel_rfl) ?_
        refine QL.ev rfl rfl (fun _ _ => Ev.fa rfl fo60_1 rfl) (QL.ev rfl rfl (fun _ hq => Ev.ld rfl ag41 rfl (((H.ext hq).rB (i := 3) rfl).cell rfl)) (QL.ev rfl rfl (fun _ _ => Ev.mv rfl rfl) (QL.ev rfl rfl (fun _ _ => Ev.fa rfl fo60_1 rfl) (QL.ev rfl rfl (fun _ hq => Ev.ld rfl ag41 rfl (((H.ext hq).rB (i := 3) rfl).cell rfl)) (QL.ev rfl rfl (fun _ _ => Ev.mv rfl rfl) ?_)))))
        obtain ⟨hg3, hr⟩ := grd_some hr
        obtain ⟨x1, hx1, hr⟩ := bd hr
        obtain ⟨b4, cb4, hvb4, hbb4⟩ := H.ptO (i := 2) rfl hx1
        refine QL.ev rfl rfl (fun _ _ => Ev.ixV rfl el41 sz3 rfl hvb4 rfl hg3 (lt_of hx1)) ?_
        obtain ⟨hA1, hI3, H⟩ := elO_Int H (i := 2) rfl hx1 hbb4
        refine QL.ev rfl rfl (fun _ hq => Ev.ld rfl ag3 rfl ((hA1.ext hq).cell0 rfl)) (QL.ev rfl rfl (fun _ _ => Ev.mv rfl rfl) ?_)
        obtain ⟨hg4, hr⟩ := grd_some hr
        refine QL.ev rfl rfl (fun _ _ => Ev.convUI rfl Try.underlying3 it130 rfl hg4 ha2.2) ?_
        obtain ⟨hg5, hr⟩ := grd_some hr
        refine QL.ev rfl rfl (fun _ _ => Ev.bin rfl rfl rfl (Bin.shlI hg5.1 hg5.2)) ?_
        obtain ⟨hg6, hr⟩ := grd_some hr
        refine QL.ev rfl rfl (fun _ _ => Ev.bin rfl rfl rfl (Bin.orI hg6.1 hI3.2 hg6.2 (i64_pow hg5.2).2)) ?_
        obtain ⟨b5, cb5, hvb5, hbb5⟩ := H.ptO (i := 2) rfl hx1
        refine QL.ev rfl rfl (fun _ _ => Ev.ixV rfl el41 sz3 rfl hvb5 rfl hg3 (lt_of hx1)) (QL.nil (fun w11 hE => ?_))
        have H := H.ext hE
        refine WL.stOf (i := 2) (z := ((x1.toNat ||| ((2 ^ a2.toNat : Nat) : Int).toNat : Nat) : Int)) rfl rfl rfl sz3 rfl rfl rfl (fun _ => ⟨rfl, rfl, (i64_or hg6 hI3 (i64_pow hg5.2))⟩) H rfl hbb5 (by simpa using lt_of hx1) fun w12 H => ?_
        refine WL.nil ?_
        refine CW.seq (CW.reg ?_)
        refine WL.ev rfl rfl (Ev.lda rfl ag60 sz60 rfl (At.blk (H.rB (i := 3) rfl)) rfl) ?_
        refine WL.stB (i := 1) rfl rfl rfl sz60 rfl rfl rfl rfl (all1 rfl (all1 rfl all0)) H rfl rfl rfl fun w13 H => ?_
        refine WL.nil ?_
        refine CW.ret ?_
        obtain rfl := sm hr
        exact ⟨_, resC rfl ag60 sz60 rfl rfl (At.blk (H.rB (i := 1) rfl)) rfl, H.ext0, _, _, _, rfl, hI2, H.outM (fr' := []) [false, false, true, false] fun _ _ => trivial⟩
      · skip
        have hr := ifn h3 hr
        refine CW.skip ?_
        refine CW.seq (CW.reg ?_)
        refine WL.ev rfl rfl (Ev.lda rfl ag60 sz60 rfl (At.blk (H.rB (i := 3) rfl)) rfl) ?_
        refine WL.stB (i := 1) rfl rfl rfl sz60 rfl rfl rfl rfl (all1 rfl (all1 rfl all0)) H rfl rfl rfl fun w14 H => ?_
        refine WL.nil ?_
        refine CW.ret ?_
        obtain rfl := sm hr
        exact ⟨_, resC rfl ag60 sz60 rfl rfl (At.blk (H.rB (i := 1) rfl)) rfl, H.ext0, _, _, _, rfl, hI2, H.outM (fr' := []) [false, false, true, false] fun _ _ => trivial⟩

noncomputable def sl22Draw_L1 (o0 : l1Cur) (y1 : Int) : Nat → ((List Int) × Int × Int × Int) → Option ((List Int) × Int × Int × Int) := fun k1 (s1, s2, s3, s4) => 
  (sl1Below_m y1 (⟨o0.b, s2, s3⟩ : l1Cur)).bind fun (y4, z4) =>
  (sl1Below_m y1 (⟨o0.b, z4.i, z4.h⟩ : l1Cur)).bind fun (y5, z5) =>
  (sAddPair_m (⟨s4, s1⟩ : Relation) y4 y5).bind fun y6 =>
  some (y6.Rows, z5.i, z5.h, y6.N)
noncomputable def sl22Draw_m (o0 : l1Cur) : Option (Relation × l1Cur) :=
  (sl1PickInt_m ([0, 1, 2, 3, 4, 5, 8, 16] : List Int) o0).bind fun (y1, z1) =>
  (sEmptyRelation_m y1).bind fun y2 =>
  grd (I64 (2 * y1)) <|
  grd (I64 ((2 * y1) + 1)) <|
  (sl1Below_m ((2 * y1) + 1) (⟨o0.b, z1.i, z1.h⟩ : l1Cur)).bind fun (y3, z2) =>
  (eachN (sl22Draw_L1 o0 y1) 0 (y3.toNat) (y2.Rows, z2.i, z2.h, y2.N)).bind fun (s1, s2, s3, s4) =>
  (sl1Below_m 16 (⟨o0.b, s2, s3⟩ : l1Cur)).bind fun (y7, z6) =>
  if y7 = 0 then (
  grd (I64 (s4 + 1)) <|
  some ((⟨(s4 + 1), s1⟩ : Relation), (⟨o0.b, z6.i, z6.h⟩ : l1Cur))
  ) else (
  if y7 = 1 then (
  grd (((s1.length : Int) + 1) * 8 ≤ 140737488355328 ∧ (s1.length : Int) + 1 ≤ 9223372036854775807) <|
  some ((⟨s4, (s1 ++ [0])⟩ : Relation), (⟨o0.b, z6.i, z6.h⟩ : l1Cur))
  ) else (
  if y7 = 2 then (
  if 0 < y1 then (
  (sl1PickInt_m ([(-1), 65536, 1099511627776] : List Int) (⟨o0.b, z6.i, z6.h⟩ : l1Cur)).bind fun (y8, z7) =>
  (s1[0]?).bind fun x1 =>
  some ((⟨s4, (List.set s1 0 y8)⟩ : Relation), (⟨o0.b, z7.i, z7.h⟩ : l1Cur))
  ) else (
  some ((⟨s4, s1⟩ : Relation), (⟨o0.b, z6.i, z6.h⟩ : l1Cur))
  )
  ) else (
  some ((⟨s4, s1⟩ : Relation), (⟨o0.b, z6.i, z6.h⟩ : l1Cur))
  )
  )
  )
theorem sl22Draw_ok {o0 : l1Cur} {r : (Relation × l1Cur)} (hr : sl22Draw_m o0 = some r) {F0 : Nat → Prop} {M : List Nat} {w0 : World} {bo0 : Nat} {Ao0_0 : Option Addr} {no0_0 co0_0 : Nat} (hIo0_1 : I64 o0.i) (hIo0_2 : I64 o0.h) (H : HL F0 M w0 w0 [Pr.S o0.b (.slice Ao0_0 no0_0 co0_0)] [It.B bo0 159 [.slice Ao0_0 no0_0 co0_0, .int .i64 o0.i, .int .i64 o0.h]]) :
    Ret Try.prog 105 #[.pointer (some ⟨bo0, 0, none⟩)] w0 (· ∈ M) fun v w => ∃ A0 : Option Addr, ∃ n0 c0 : Nat, v = .agg #[.int .i64 r.1.N, (.slice A0 n0 c0)] ∧ I64 r.1.N ∧ I64 r.2.i ∧ I64 r.2.h ∧ HL F0 M w0 w [] [It.B bo0 159 [.slice Ao0_0 no0_0 co0_0, .int .i64 r.2.i, .int .i64 r.2.h], It.O 3 r.1.Rows (.slice A0 n0 c0)] := by
  refine enter Try.func105 rfl rfl rfl ?_
  refine CW.seq (CW.reg ?_)
  refine WL.allocH rfl rfl rfl ze60 H fun b1 w1 H => ?_
  refine WL.nil ?_
  refine CW.seq (CW.reg ?_)
  refine WL.ev rfl rfl (Ev.mv rfl rfl) ?_
  refine WL.litN (xs := ([0, 1, 2, 3, 4, 5, 8, 16] : List Int)) rfl rfl rfl el41 sz3 ze3 rfl (ball1 rfl (ball1 rfl (ball1 rfl (ball1 rfl (ball1 rfl (ball1 rfl (ball1 rfl (ball1 rfl ball0)))))))) rfl rfl rfl (fun _ => (ownL.cons1 (α := Int) ⟨rfl, rfl, (by decide : I64 0)⟩ (ownL.cons1 (α := Int) ⟨rfl, rfl, (by decide : I64 1)⟩ (ownL.cons1 (α := Int) ⟨rfl, rfl, (by decide : I64 2)⟩ (ownL.cons1 (α := Int) ⟨rfl, rfl, (by decide : I64 3)⟩ (ownL.cons1 (α := Int) ⟨rfl, rfl, (by decide : I64 4)⟩ (ownL.cons1 (α := Int) ⟨rfl, rfl, (by decide : I64 5)⟩ (ownL.cons1 (α := Int) ⟨rfl, rfl, (by decide : I64 8)⟩ (ownL.cons1 (α := Int) ⟨rfl, rfl, (by decide : I64 16)⟩ ⟨rfl, rfl⟩))))))))) rfl H fun A1 n1 c1 w2 H => ?_
  obtain ⟨⟨y1, z1⟩, hy1, hr⟩ := bd hr
  obtain ⟨F', M', hfF, hoF, hcM⟩ := H.callN [true, false, false] ⟨noB, trivial⟩
  obtain ⟨H', hcN⟩ := hcM (ps := [Pr.S ([0, 1, 2, 3, 4, 5, 8, 16] : List Int) (.slice A1 n1 c1), Pr.S o0.b (.slice Ao0_0 no0_0 co0_0)]) ⟨roO (hoF 1 _ rfl), hfF.get (i := 0) rfl, trivial⟩
  refine WL.call rfl rfl rfl rfl rfl ok116 rfl (sl1PickInt_ok hy1 hIo0_1 hIo0_2 H') ?_
  rintro _ w3 hE ⟨rfl, hI1, hI2, hI3, H'⟩
  have H := hcN 1 H' rfl ⟨fun _ _ _ _ _ h => h, trivial⟩
  refine WL.ev rfl rfl (Ev.as rfl rfl) (WL.nil ?_)
  refine CW.seq (CW.reg ?_)
  refine WL.ev rfl rfl (Ev.mv rfl rfl) ?_
  obtain ⟨y2, hy2, hr⟩ := bd hr
  refine WL.call rfl rfl rfl rfl rfl ok115 rfl (sEmptyRelation_ok hy2 (F0 := fun _ => False) hI1) ?_
  rintro _ w4 hE ⟨A2, n2, c2, rfl, hI4, H'⟩
  have H := H.callA H' ⟨fun _ _ _ _ _ h => h, trivial⟩
  refine WL.allocH rfl rfl rfl ze60 H fun b2 w5 H => ?_
  refine WL.stB (i := 4) rfl rfl rfl sz60 rfl rfl rfl rfl (all1 rfl (all1 rfl all0)) H rfl rfl rfl fun w6 H => ?_
  refine WL.nil ?_
  refine CW.seq (CW.reg ?_)
  refine WL.ev rfl rfl (Ev.mv rfl rfl) (WL.ev rfl rfl (Ev.mv rfl rfl) ?_)
  obtain ⟨hg1, hr⟩ := grd_some hr
  refine WL.ev rfl rfl (Ev.bin rfl rfl rfl (Bin.mul hg1)) ?_
  obtain ⟨hg2, hr⟩ := grd_some hr
  refine WL.ev rfl rfl (Ev.bin rfl rfl rfl (Bin.add hg2)) ?_
  obtain ⟨⟨y3, z2⟩, hy3, hr⟩ := bd hr
  obtain ⟨F', M', hfF, hoF, hcM⟩ := H.callN [true, false, false, false, false] ⟨noB, trivial⟩
  obtain ⟨H', hcN⟩ := hcM (ps := [Pr.S o0.b (.slice Ao0_0 no0_0 co0_0)]) ⟨hfF.get (i := 0) rfl, trivial⟩
  refine WL.call rfl rfl rfl rfl rfl ok86 rfl (sl1Below_ok hy3 hg2 hI2 hI3 H') ?_
  rintro _ w7 hE ⟨rfl, hI5, hI6, hI7, H'⟩
  have H := hcN 1 H' rfl ⟨fun _ _ _ _ _ h => h, trivial⟩
  refine WL.ev rfl rfl (Ev.as rfl rfl) (WL.nil ?_)
  refine CW.seq (CW.seq (CW.reg ?_))
  refine WL.ev rfl rfl (Ev.as rfl rfl) (WL.nil ?_)
  obtain ⟨q1, hq1, hr⟩ := bd hr
  refine CW.block (CW.loop (α := Nat × (List Int) × Int × Int × Int × Value) (fun ⟨k1, s1, s2, s3, s4, v1⟩ => [(0, .pointer (some ⟨bo0, 0, none⟩)), (2, .pointer (some ⟨b1, 0, none⟩)), (3, .int .i64 y1), (4, .pointer (some ⟨b2, 0, none⟩)), (5, .int .i64 y3), (6, .int .i64 (k1 : Int))]) (fun ⟨k1, s1, s2, s3, s4, v1⟩ w => k1 ≤ y3.toNat ∧ eachN (sl22Draw_L1 o0 y1) k1 (y3.toNat - k1) (s1, s2, s3, s4) = some q1 ∧ I64 s2 ∧ I64 s3 ∧ I64 s4 ∧ HL F0 M w0 w [Pr.S o0.b (.slice Ao0_0 no0_0 co0_0)] [It.B bo0 159 [.slice Ao0_0 no0_0 co0_0, .int .i64 s2, .int .i64 s3], It.B b1 60 [.int .i64 0, .slice none 0 0], It.O 3 ([0, 1, 2, 3, 4, 5, 8, 16] : List Int) (.slice A1 n1 c1), It.O 3 s1 v1, It.B b2 60 [.int .i64 s4, v1]]) (fun ⟨k1, s1, s2, s3, s4, v1⟩ => y3.toNat - k1) ⟨0, y2.Rows, z2.i, z2.h, y2.N, (.slice A2 n2 c2)⟩ ⟨rfl, rfl, rfl, rfl, rfl, rfl, trivial⟩ ⟨Nat.zero_le _, hq1, hI6, hI7, hI4, H.keep 1 5⟩ ?_)
  rintro ⟨k1, s1, s2, s3, s4, v1⟩ σ w8 ⟨hk1, hq1, hI8, hI9, hI10, H⟩
  obtain ⟨A3, n3, c3, rfl⟩ := (H.rO (i := 3) rfl).form3
  refine CW.seq (CW.seq (CW.reg ?_))
  refine WL.ev rfl rfl (Ev.mv rfl rfl) (WL.ev rfl rfl (Ev.mv rfl rfl) (WL.ev rfl rfl (Ev.bin rfl rfl rfl Bin.lss) (WL.nil ?_)))
  refine CW.condD rfl (fun h1 => ?_) (fun h1 => ?_)
  · skip
    have hk2 := toNat_lt h1
    obtain ⟨z3, hb1, hq1⟩ := eachN_go hq1 hk2
    refine CW.skip ?_
    obtain ⟨⟨y4, z4⟩, hy4, hb1⟩ := bd hb1
    obtain ⟨F', hfF, hoF, hcF⟩ := H.seeB (i := 0) rfl
    obtain ⟨_, _, hch, _, hI11, hI12, hI13, hh⟩ := (sl1Below_ok hy4 hI1 hI8 hI9 (hcF (ps := [Pr.S o0.b (.slice Ao0_0 no0_0 co0_0)]) ⟨hfF.get (i := 0) rfl, trivial⟩)).get2
    have hA := HL.afterB hh trivial
    have Hc1 := H.turnB (i := 0) rfl (RW.ofB hA.1) hA.2.1
    obtain ⟨⟨y5, z5⟩, hy5, hb1⟩ := bd hb1
    obtain ⟨F', hfF, hoF, hcF⟩ := Hc1.seeB (i := 0) rfl
    obtain ⟨_, _, hch, _, hI14, hI15, hI16, hh⟩ := (sl1Below_ok hy5 hI1 hI12 hI13 (hcF (ps := [Pr.S o0.b (.slice Ao0_0 no0_0 co0_0)]) ⟨hfF.get (i := 0) rfl, trivial⟩)).get2
    have hA := HL.afterB hh trivial
    have Hc2 := Hc1.turnB (i := 0) rfl (RW.ofB hA.1) hA.2.1
    obtain ⟨y6, hy6, hb1⟩ := bd hb1
    have hbl := (H.rB (i := 0) rfl).lt
    have hX := H.knowS (i := 0) (css := [[.slice Ao0_0 no0_0 co0_0, .int .i64 s2, .int .i64 s3], [.slice Ao0_0 no0_0 co0_0, .int .i64 z4.i, .int .i64 z4.h], [.slice Ao0_0 no0_0 co0_0, .int .i64 z5.i, .int .i64 z5.h]]) rfl
    refine CW.seq (CW.block (CW.any2 8 (fun ρ => [.fix (.agg #[.int .i64 s4, .slice A3 n3 c3]), .fix (.pointer (some ⟨bo0, 0, none⟩)), .fix (.int .i64 y1), .fix (.int .i64 y4), .fix (.pointer (some ⟨bo0, 0, none⟩)), .fix (.int .i64 y1), .fix (.int .i64 y5), .free (fun S v w => ∃ A4 : Option Addr, ∃ n4 : Nat, ∃ c4 : Nat, v = .agg #[.int .i64 y6.N, .slice A4 n4 c4] ∧ I64 y6.N ∧ NewI S w [It.O 3 y6.Rows (.slice A4 n4 c4)])]) [[], [], [], [], [], [], [], []] (fun q => q = bo0) (ThB bo0 159 [[.slice Ao0_0 no0_0 co0_0, .int .i64 s2, .int .i64 s3], [.slice Ao0_0 no0_0 co0_0, .int .i64 z4.i, .int .i64 z4.h], [.slice Ao0_0 no0_0 co0_0, .int .i64 z5.i, .int .i64 z5.h]]) [3, 6] [] (fun q e => e ▸ hbl) hmix (by kernel_rfl) rfl ⟨trivial, trivial, trivial, trivial, trivial, trivial, trivial, fun _ _ _ _ _ ⟨A4, n4, c4, hv, h0, hh⟩ hc hS hT => ⟨A4, n4, c4, hv, h0, hh.chgT hc hS⟩, trivial⟩ ⟨_, rfl, H.rB (i := 0) rfl⟩ (ThB.mono hbl) ?_))
    refine LL2.fxG hX rfl rfl rfl rfl rfl (fun _ ⟨_, hq, _⟩ hK => Ev.lda rfl ag60 sz60 rfl (At.blk (hq.rB (i := 4) rfl)) rfl) ?_
    refine LL2.fxG hX rfl rfl rfl rfl rfl (fun _ ⟨_, hq, _⟩ hK => Ev.mv rfl rfl) ?_
    refine LL2.fxG hX rfl rfl rfl rfl rfl (fun _ ⟨_, hq, _⟩ hK => Ev.mv rfl rfl) ?_
    refine LL2.chF (H.chX (i := 0) rfl rfl) rfl rfl rfl rfl (fun wq hq hK => ?_) ?_
    · obtain ⟨F', hfF, hoF, hcF⟩ := hq.seeB (i := 0) rfl
      refine OpX.call rfl rfl rfl rfl ok86 rfl (sl1Below_ok hy4 hI1 hI8 hI9 (hcF (ps := [Pr.S o0.b (.slice Ao0_0 no0_0 co0_0)]) ⟨hfF.get (i := 0) rfl, trivial⟩)) ?_
      rintro _ w hE ⟨rfl, _, _, _, hh⟩
      have hA := HL.afterB hh trivial
      exact ⟨hA.1, ⟨_, rfl, hA.2.1⟩, rfl⟩
    refine LL2.fxG hX rfl rfl rfl rfl rfl (fun _ ⟨_, hq, _⟩ hK => Ev.mv rfl rfl) ?_
    refine LL2.fxG hX rfl rfl rfl rfl rfl (fun _ ⟨_, hq, _⟩ hK => Ev.mv rfl rfl) ?_
    refine LL2.chF (H.chX (i := 0) rfl rfl) rfl rfl rfl rfl (fun wq hq hK => ?_) ?_
    · obtain ⟨F', hfF, hoF, hcF⟩ := hq.seeB (i := 0) rfl
      refine OpX.call rfl rfl rfl rfl ok86 rfl (sl1Below_ok hy5 hI1 hI12 hI13 (hcF (ps := [Pr.S o0.b (.slice Ao0_0 no0_0 co0_0)]) ⟨hfF.get (i := 0) rfl, trivial⟩)) ?_
      rintro _ w hE ⟨rfl, _, _, _, hh⟩
      have hA := HL.afterB hh trivial
      exact ⟨hA.1, ⟨_, rfl, hA.2.1⟩, rfl⟩
    refine LL2.freeG hX rfl rfl rfl rfl (fun wq ⟨_, hq, hsz⟩ hK => ?_) (fun v_G1_7 S_G1_7 => ?_)
    · refine OpX.call rfl rfl rfl rfl ok47 rfl (sAddPair_ok hy6 ⟨_, rfl, hI10, (hq.rO (i := 3) rfl)⟩ hI11 hI14) ?_
      rintro _ w hE ⟨A4, n4, c4, rfl, h0, hh⟩
      exact ⟨hE, A4, n4, c4, rfl, h0, NewI.of hh ⟨fun _ _ _ _ _ h => h, trivial⟩⟩
    intro w9 hE hTh hK hap hbd
    obtain ⟨A4, n4, c4, rfl, hI17, hN1⟩ := hK 7 (by decide)
    have H : HL F0 M w0 w9 [Pr.S o0.b (.slice Ao0_0 no0_0 co0_0)] [It.B bo0 159 [.slice Ao0_0 no0_0 co0_0, .int .i64 z5.i, .int .i64 z5.h], It.B b1 60 [.int .i64 0, .slice none 0 0], It.O 3 ([0, 1, 2, 3, 4, 5, 8, 16] : List Int) (.slice A1 n1 c1), It.O 3 s1 (.slice A3 n3 c3), It.B b2 60 [.int .i64 s4, .slice A3 n3 c3], It.O 3 y6.Rows (.slice A4 n4 c4)] := H.turnAdd [true, false, false, false, false] rfl hE (ThB.get rfl hTh) hN1 ⟨fun _ _ _ _ _ h => h, trivial⟩ (fun q hq => (hbd 7 q hq).1)
    refine WL.stB (i := 4) rfl rfl rfl sz60 rfl rfl rfl rfl (all1 rfl (all1 rfl all0)) H rfl rfl rfl fun w10 H => ?_
    refine WL.nil ?_
    refine CW.reg ?_
    refine WL.ev rfl rfl (Ev.mv rfl rfl) (WL.ev rfl rfl (Ev.bin rfl rfl rfl (Bin.addN (a := k1) (b := 1) rfl (i64_succNI h1 hI5.2))) (WL.ev rfl rfl (Ev.as rfl rfl) (WL.nil ?_)))
    have H := H.swap 3 5
    obtain rfl := sm hb1
    exact ⟨⟨k1 + 1, y6.Rows, z5.i, z5.h, y6.N, (.slice A4 n4 c4)⟩, ⟨rfl, rfl, rfl, rfl, rfl, rfl, trivial⟩, ⟨hk2, hq1, hI15, hI16, hI17, H.keep 1 5⟩, Nat.sub_lt_sub_left hk2 (Nat.lt_succ_self _)⟩
  · skip
    obtain rfl := eachN_end hq1 (not_toNat_lt h1)
    refine CW.exit ?_
    refine CW.seq (CW.seq (CW.reg ?_))
    refine WL.ev rfl rfl (Ev.mv rfl rfl) ?_
    obtain ⟨⟨y7, z6⟩, hy7, hr⟩ := bd hr
    obtain ⟨F', M', hfF, hoF, hcM⟩ := H.callN [true, false, false, false, false] ⟨noB, trivial⟩
    obtain ⟨H', hcN⟩ := hcM (ps := [Pr.S o0.b (.slice Ao0_0 no0_0 co0_0)]) ⟨hfF.get (i := 0) rfl, trivial⟩
    refine WL.call rfl rfl rfl rfl rfl ok86 rfl (sl1Below_ok hy7 (by decide : I64 16) hI8 hI9 H') ?_
    rintro _ w11 hE ⟨rfl, hI18, hI19, hI20, H'⟩
    have H := hcN 1 H' rfl ⟨fun _ _ _ _ _ h => h, trivial⟩
    refine WL.nil ?_
    refine CW.block (CW.seq (CW.reg ?_))
    refine WL.ev rfl rfl (Ev.bin rfl rfl rfl Bin.eql) (WL.ev rfl rfl (Ev.as rfl rfl) (WL.nil ?_))
    refine CW.condD rfl (fun h2 => ?_) (fun h2 => ?_)
    · skip
      have hr := ifp h2 hr
      refine CW.reg ?_
      refine WL.ev rfl rfl (Ev.fa rfl fo60_0 rfl) (WL.ev rfl rfl (Ev.ld rfl ag3 rfl ((H.rB (i := 4) rfl).cell rfl)) ?_)
      obtain ⟨hg3, hr⟩ := grd_some hr
      refine WL.ev rfl rfl (Ev.bin rfl rfl rfl (Bin.add hg3)) (WL.ev rfl rfl (Ev.fa rfl fo60_0 rfl) ?_)
      refine WL.stB (i := 4) rfl rfl rfl sz3 rfl rfl rfl rfl (all1 rfl all0) H rfl rfl rfl fun w12 H => ?_
      refine WL.nil ?_
      refine CW.seq (CW.reg ?_)
      refine WL.ev rfl rfl (Ev.lda rfl ag60 sz60 rfl (At.blk (H.rB (i := 4) rfl)) rfl) ?_
      refine WL.stB (i := 1) rfl rfl rfl sz60 rfl rfl rfl rfl (all1 rfl (all1 rfl all0)) H rfl rfl rfl fun w13 H => ?_
      refine WL.nil ?_
      refine CW.ret ?_
      obtain rfl := sm hr
      exact ⟨_, resC rfl ag60 sz60 rfl rfl (At.blk (H.rB (i := 1) rfl)) rfl, H.chg, _, _, _, rfl, hg3, hI19, hI20, H.outM (fr' := []) [true, false, false, true, false] fun _ _ => trivial⟩
    · skip
      have hr := ifn h2 hr
      refine CW.seq (CW.reg ?_)
      refine WL.ev rfl rfl (Ev.bin rfl rfl rfl Bin.eql) (WL.ev rfl rfl (Ev.as rfl rfl) (WL.nil ?_))
      refine CW.condD rfl (fun h3 => ?_) (fun h3 => ?_)
      · skip
        have hr := ifp h3 hr
        refine CW.reg ?_
        refine WL.ev rfl rfl (Ev.fa rfl fo60_1 rfl) (WL.ev rfl rfl (Ev.ld rfl ag41 rfl ((H.rB (i := 4) rfl).cell rfl)) ?_)
        refine WL.lit1 rfl rfl rfl el41 sz3 ze3 rfl rfl rfl rfl rfl rfl fun b3 w14 hE hb hB => ?_
        have H := H.newB hE hb hB
        obtain ⟨hg4, hr⟩ := grd_some hr
        refine WL.appO (i := 3) (ys := [0]) rfl rfl rfl el41 sz3 by3 ze3 rfl rfl rfl H rfl (fun _ => ownL.single ⟨rfl, rfl, (by decide : I64 0)⟩) (.inr ⟨_, _, rfl, At.blk (H.rB (i := 5) rfl)⟩) hg4 fun A5 n5 c5 w15 H => ?_
        refine WL.ev rfl rfl (Ev.fa rfl fo60_1 rfl) ?_
        refine WL.stB (i := 4) rfl rfl rfl sz41 rfl rfl rfl rfl (all1 rfl all0) H rfl rfl rfl fun w16 H => ?_
        refine WL.nil ?_
        refine CW.seq (CW.reg ?_)
        refine WL.ev rfl rfl (Ev.lda rfl ag60 sz60 rfl (At.blk (H.rB (i := 4) rfl)) rfl) ?_
        refine WL.stB (i := 1) rfl rfl rfl sz60 rfl rfl rfl rfl (all1 rfl (all1 rfl all0)) H rfl rfl rfl fun w17 H => ?_
        refine WL.nil ?_
        refine CW.ret ?_
        obtain rfl := sm hr
        exact ⟨_, resC rfl ag60 sz60 rfl rfl (At.blk (H.rB (i := 1) rfl)) rfl, H.chg, _, _, _, rfl, hI10, hI19, hI20, H.outM (fr' := []) [true, false, false, true, false, false] fun _ _ => trivial⟩
      · skip
        have hr := ifn h3 hr
        refine CW.seq (CW.reg ?_)
        refine WL.ev rfl rfl (Ev.bin rfl rfl rfl Bin.eql) (WL.ev rfl rfl (Ev.as rfl rfl) (WL.nil ?_))
        refine CW.condD rfl (fun h4 => ?_) (fun h4 => ?_)
        · skip
          have hr := ifp h4 hr
          refine CW.seq (CW.reg ?_)
          refine WL.ev rfl rfl (Ev.mv rfl rfl) (WL.ev rfl rfl (Ev.bin rfl rfl rfl Bin.gtr) (WL.nil ?_))
          refine CW.condD rfl (fun h5 => ?_) (fun h5 => ?_)
          · skip
            have hr := ifp h5 hr
            obtain ⟨⟨y8, z7⟩, hy8, hr⟩ := bd hr
            obtain ⟨_, Al3, ml3, cl3, Hl⟩ := HL.litX (xs := ([(-1), 65536, 1099511627776] : List Int)) H 3 (fun _ => (ownL.cons1 (α := Int) ⟨rfl, rfl, (by decide : I64 (-1))⟩ (ownL.cons1 (α := Int) ⟨rfl, rfl, (by decide : I64 65536)⟩ (ownL.cons1 (α := Int) ⟨rfl, rfl, (by decide : I64 1099511627776)⟩ ⟨rfl, rfl⟩)))) rfl
            obtain ⟨F', hfF, hoF, hcF⟩ := Hl.seeB (i := 0) rfl
            obtain ⟨_, _, hch, _, hI21, hI22, hI23, hh⟩ := (sl1PickInt_ok hy8 hI19 hI20 (hcF (ps := [Pr.S ([(-1), 65536, 1099511627776] : List Int) (.slice Al3 ml3 cl3), Pr.S o0.b (.slice Ao0_0 no0_0 co0_0)]) ⟨roO (hoF 5 _ (by decide) rfl), hfF.get (i := 0) rfl, trivial⟩)).get2
            have hA := HL.afterB hh trivial
            have Hc3 := (Hl.out (fun _ h => h) (List.take_sublist 5 _)).turnB (i := 0) rfl (RW.ofB hA.1) hA.2.1
            have hbl := (H.rB (i := 0) rfl).lt
            have hX := H.knowS (i := 0) (css := [[.slice Ao0_0 no0_0 co0_0, .int .i64 z6.i, .int .i64 z6.h], [.slice Ao0_0 no0_0 co0_0, .int .i64 z7.i, .int .i64 z7.h]]) rfl
            refine CW.any2 5 (fun ρ => [.fix (.pointer (some ⟨b2, 0 + 1, none⟩)), .fix (.slice A3 n3 c3), .fix (.pointer (some ⟨bo0, 0, none⟩)), .free (fun S v w => ∃ A : Option Addr, ∃ m c : Nat, v = .slice A m c ∧ NewI S w [It.O 3 ([(-1), 65536, 1099511627776] : List Int) (.slice A m c)] ∧ (∀ q, S q → w11.heap.size ≤ q)), .fix (.int .i64 y8)]) [[], [], [], [], []] (fun q => q = bo0) (ThB bo0 159 [[.slice Ao0_0 no0_0 co0_0, .int .i64 z6.i, .int .i64 z6.h], [.slice Ao0_0 no0_0 co0_0, .int .i64 z7.i, .int .i64 z7.h]]) [4] [] (fun q e => e ▸ hbl) hmix (by kernel_rfl) rfl ⟨trivial, trivial, trivial, fun _ _ _ _ _ ⟨A, m, c, h1, h2, h3⟩ hc hS _ => ⟨A, m, c, h1, h2.chgT hc hS, h3⟩, trivial, trivial⟩ ⟨_, rfl, H.rB (i := 0) rfl⟩ (ThB.mono hbl) ?_
            refine LL2.fxG hX rfl rfl rfl rfl rfl (fun _ ⟨_, hq, _⟩ hK => Ev.fa rfl fo60_1 rfl) ?_
            refine LL2.fxG hX rfl rfl rfl rfl rfl (fun _ ⟨_, hq, _⟩ hK => Ev.ld rfl ag41 rfl ((hq.rB (i := 4) rfl).cell rfl)) ?_
            refine LL2.fxG hX rfl rfl rfl rfl rfl (fun _ ⟨_, hq, _⟩ hK => Ev.mv rfl rfl) ?_
            refine LL2.freeG hX rfl rfl rfl rfl (fun wq ⟨_, hq, hsz⟩ hK => OpX.litN (xs := ([(-1), 65536, 1099511627776] : List Int)) rfl rfl el41 sz3 ze3 rfl (ball1 rfl (ball1 rfl (ball1 rfl ball0))) rfl rfl rfl (fun _ => (ownL.cons1 (α := Int) ⟨rfl, rfl, (by decide : I64 (-1))⟩ (ownL.cons1 (α := Int) ⟨rfl, rfl, (by decide : I64 65536)⟩ (ownL.cons1 (α := Int) ⟨rfl, rfl, (by decide : I64 1099511627776)⟩ ⟨rfl, rfl⟩)))) rfl fun A m c w hE h => ⟨hE, A, m, c, rfl, h, fun q hq => Nat.le_trans hsz hq.1⟩) (fun v_G2_3 S_G2_3 => ?_)
            refine LL2.chF (X := fun w => RW (fun q => q = bo0) w11 w ∧ (ThB bo0 159 [[.slice Ao0_0 no0_0 co0_0, .int .i64 z6.i, .int .i64 z6.h], [.slice Ao0_0 no0_0 co0_0, .int .i64 z7.i, .int .i64 z7.h]]) 0 w) (fun _ h1 h2 => ⟨h1, h2⟩) rfl rfl rfl rfl (fun wq hq hK => ?_) ?_
            · obtain ⟨Al3, ml3, cl3, e0, hh, hS⟩ := hK 3 rfl
              subst e0
              have hq := H.turnAdd [true, false, false, false, false] rfl hq.1 (ThB.get rfl hq.2) hh ⟨fun _ _ _ _ _ h => h, trivial⟩ hS
              obtain ⟨F', hfF, hoF, hcF⟩ := hq.seeB (i := 0) rfl
              refine OpX.call rfl rfl rfl rfl ok116 rfl (sl1PickInt_ok hy8 hI19 hI20 (hcF (ps := [Pr.S ([(-1), 65536, 1099511627776] : List Int) (.slice Al3 ml3 cl3), Pr.S o0.b (.slice Ao0_0 no0_0 co0_0)]) ⟨roO (hoF 5 _ (by decide) rfl), hfF.get (i := 0) rfl, trivial⟩)) ?_
              rintro _ w hE ⟨rfl, _, _, _, hh⟩
              have hA := HL.afterB hh trivial
              exact ⟨hA.1, ⟨_, rfl, hA.2.1⟩, rfl⟩
            intro w18 hE hTh hK hap hbd
            obtain ⟨A6, n6, c6, rfl, hN2, _⟩ := hK 3 (by decide)
            have H : HL F0 M w0 w18 [Pr.S o0.b (.slice Ao0_0 no0_0 co0_0)] [It.B bo0 159 [.slice Ao0_0 no0_0 co0_0, .int .i64 z7.i, .int .i64 z7.h], It.B b1 60 [.int .i64 0, .slice none 0 0], It.O 3 ([0, 1, 2, 3, 4, 5, 8, 16] : List Int) (.slice A1 n1 c1), It.O 3 s1 (.slice A3 n3 c3), It.B b2 60 [.int .i64 s4, .slice A3 n3 c3], It.O 3 ([(-1), 65536, 1099511627776] : List Int) (.slice A6 n6 c6)] := H.turnAdd [true, false, false, false, false] rfl hE (ThB.get rfl hTh) hN2 ⟨fun _ _ _ _ _ h => h, trivial⟩ (fun q hq => (hbd 3 q hq).1)
            obtain ⟨x1, hx1, hr⟩ := bd hr
            obtain ⟨b4, cb4, hvb4, hbb4⟩ := H.ptO (i := 3) rfl hx1
            refine WL.ev rfl rfl (Ev.ixVN rfl el41 sz3 rfl hvb4 rfl (lt_of hx1)) ?_
            refine WL.stOf (i := 3) (z := y8) rfl rfl rfl sz3 rfl rfl rfl (fun _ => ⟨rfl, rfl, hI21⟩) H rfl hbb4 (by simpa using lt_of hx1) fun w19 H => ?_
            refine WL.nil ?_
            refine CW.seq (CW.reg ?_)
            refine WL.ev rfl rfl (Ev.lda rfl ag60 sz60 rfl (At.blk (H.rB (i := 4) rfl)) rfl) ?_
            refine WL.stB (i := 1) rfl rfl rfl sz60 rfl rfl rfl rfl (all1 rfl (all1 rfl all0)) H rfl rfl rfl fun w20 H => ?_
            refine WL.nil ?_
            refine CW.ret ?_
            obtain rfl := sm hr
            exact ⟨_, resC rfl ag60 sz60 rfl rfl (At.blk (H.rB (i := 1) rfl)) rfl, H.chg, _, _, _, rfl, hI10, hI22, hI23, H.outM (fr' := []) [true, false, false, true, false, false] fun _ _ => trivial⟩
          · skip
            have hr := ifn h5 hr
            refine CW.skip ?_
            refine CW.seq (CW.reg ?_)
            refine WL.ev rfl rfl (Ev.lda rfl ag60 sz60 rfl (At.blk (H.rB (i := 4) rfl)) rfl) ?_
            refine WL.stB (i := 1) rfl rfl rfl sz60 rfl rfl rfl rfl (all1 rfl (all1 rfl all0)) H rfl rfl rfl fun w21 H => ?_
            refine WL.nil ?_
            refine CW.ret ?_
            obtain rfl := sm hr
            exact ⟨_, resC rfl ag60 sz60 rfl rfl (At.blk (H.rB (i := 1) rfl)) rfl, H.chg, _, _, _, rfl, hI10, hI19, hI20, H.outM (fr' := []) [true, false, false, true, false] fun _ _ => trivial⟩
        · skip
          have hr := ifn h4 hr
          refine CW.skip ?_
          refine CW.seq (CW.reg ?_)
          refine WL.ev rfl rfl (Ev.lda rfl ag60 sz60 rfl (At.blk (H.rB (i := 4) rfl)) rfl) ?_
          refine WL.stB (i := 1) rfl rfl rfl sz60 rfl rfl rfl rfl (all1 rfl (all1 rfl all0)) H rfl rfl rfl fun w22 H => ?_
          refine WL.nil ?_
          refine CW.ret ?_
          obtain rfl := sm hr
          exact ⟨_, resC rfl ag60 sz60 rfl rfl (At.blk (H.rB (i := 1) rfl)) rfl, H.chg, _, _, _, rfl, hI10, hI19, hI20, H.outM (fr' := []) [true, false, false, true, false] fun _ _ => trivial⟩

noncomputable def slices_Clone_int_m (a0 : (List Int)) : Option (List Int) :=
  grd (((([] : (List Int)).length : Int) + (a0.length : Int)) * 8 ≤ 140737488355328 ∧ (([] : (List Int)).length : Int) + (a0.length : Int) ≤ 9223372036854775807) <|
  some a0
theorem slices_Clone_int_ok {a0 : (List Int)} {r : (List Int)} (hr : slices_Clone_int_m a0 = some r) {F0 : Nat → Prop} {w0 : World} {z0 : Value} (ha0 : rdS F0 w0 a0 z0) :
    Ret Try.prog 159 #[z0] w0 (fun _ => False) fun v w => ∃ A0 : Option Addr, ∃ n0 c0 : Nat, v = (.slice A0 n0 c0) ∧ HL F0 [] w0 w [] [It.O 3 r (.slice A0 n0 c0)] := by
  obtain ⟨A0', n0', c0', rfl⟩ := ha0.form3
  have H := (HL.start F0 w0).argS ha0
  obtain ⟨hg1, hr⟩ := grd_some hr
  obtain rfl := sm hr
  refine enter Try.func159 rfl rfl rfl ?_
  refine CW.seq (CW.reg ?_)
  refine WL.ev rfl rfl (Ev.as rfl rfl) (WL.nil ?_)
  refine CW.seq (CW.seq (CW.reg ?_))
  refine WL.ev rfl rfl (Ev.mv rfl rfl) (WL.ev rfl rfl (Ev.bin rfl rfl rfl (Bin.eqlNil el41)) (WL.nil ?_))
  refine (CW.condD rfl (fun h1 => ?_) (fun h1 => ?_))
  · refine CW.seq (CW.reg ?_)
    refine WL.ev rfl rfl (Ev.as rfl rfl) (WL.nil ?_)
    refine CW.ret ?_
    have e0 : a0 = [] := rdS.nil_of ha0 h1
    subst e0
    have H := H.nil (α := Int) 3
    exact ⟨_, res1 rfl rfl rfl, H.ext0, _, _, _, rfl, H.outM (fr' := []) [true] fun _ _ => trivial⟩
  · refine CW.skip ?_
    refine CW.seq (CW.reg ?_)
    refine WL.lit0H (α := Int) rfl rfl rfl el41 sz3 H fun A2 n2 c2 w1 H => ?_
    refine WL.ev rfl rfl (Ev.mv rfl rfl) ?_
    refine WL.appS (i := 0) rfl rfl rfl el41 sz3 by3 ze3 rfl rfl rfl H rfl (H.rS (i := 0) rfl) hg1 fun A3 n3 c3 w2 H => ?_
    rw [List.nil_append] at H
    refine WL.ev rfl rfl (Ev.as rfl rfl) (WL.nil ?_)
    refine CW.ret ?_
    exact ⟨_, res1 rfl rfl rfl, H.ext0, _, _, _, rfl, H.outM (fr' := []) [true] fun _ _ => trivial⟩

noncomputable def icopyRelation_m (a0 : Relation) : Option Relation :=
  (slices_Clone_int_m a0.Rows).bind fun y1 =>
  some (⟨a0.N, y1⟩ : Relation)
theorem icopyRelation_ok {a0 : Relation} {r : Relation} (hr : icopyRelation_m a0 = some r) {F0 : Nat → Prop} {w0 : World} {ca0 : List Value} (ha0 : rd F0 w0 a0 ca0) :
    Ret Try.prog 106 #[.agg ca0.toArray] w0 (fun _ => False) fun v w => ∃ A0 : Option Addr, ∃ n0 c0 : Nat, v = .agg #[.int .i64 r.N, (.slice A0 n0 c0)] ∧ I64 r.N ∧ HL F0 [] w0 w [] [It.O 3 r.Rows (.slice A0 n0 c0)] := by
  have H := (HL.start F0 w0).argR ha0
  obtain ⟨A1, n1, c1, rfl, hI1, H⟩ := op_Relation H (i := 0) rfl
  refine enter Try.func106 rfl rfl rfl ?_
  refine CW.seq (CW.reg ?_)
  refine WL.boxH rfl rfl rfl rfl rfl H fun b1 w1 H => ?_
  refine WL.allocH rfl rfl rfl ze60 H fun b2 w2 H => ?_
  refine WL.nil ?_
  obtain ⟨y1, hy1, hr⟩ := bd hr
  refine CW.seq (CW.any2 5 (fun ρ => [.fix (.pointer (some ⟨b1, 0 + 0, none⟩)), .fix (.int .i64 a0.N), .fix (.pointer (some ⟨b1, 0 + 1, none⟩)), .fix (.slice A1 n1 c1), .free (fun S v w => ∃ A2 : Option Addr, ∃ n2 : Nat, ∃ c2 : Nat, v = .slice A2 n2 c2 ∧ NewI S w [It.O 3 y1 (.slice A2 n2 c2)])]) [[], [], [], [], []] NoM (fun _ _ => True) [] [] (noM _) hmix (by kernel_rfl) rfl ⟨trivial, trivial, trivial, trivial, fun _ _ _ _ _ ⟨A2, n2, c2, hv, hh⟩ hc hS hT => ⟨A2, n2, c2, hv, hh.chgT hc hS⟩, trivial⟩ trivial (fun _ _ _ _ _ _ _ => trivial) ?_)
  refine LL2.fx rfl rfl rfl rfl rfl (fun _ hq hK => Ev.fa rfl fo60_0 rfl) ?_
  refine LL2.fx rfl rfl rfl rfl rfl (fun _ hq hK => Ev.ld rfl ag3 rfl (((H.ext hq).rB (i := 0) rfl).cell rfl)) ?_
  refine LL2.fx rfl rfl rfl rfl rfl (fun _ hq hK => Ev.fa rfl fo60_1 rfl) ?_
  refine LL2.fx rfl rfl rfl rfl rfl (fun _ hq hK => Ev.ld rfl ag41 rfl (((H.ext hq).rB (i := 0) rfl).cell rfl)) ?_
  refine LL2.free rfl rfl rfl rfl (fun wq hq hK => ?_) (fun v_G1_4 S_G1_4 => ?_)
  · refine OpX.call rfl rfl rfl rfl ok159 rfl (slices_Clone_int_ok hy1 ((H.ext hq).rS (i := 1) rfl)) ?_
    rintro _ w hE ⟨A2, n2, c2, rfl, hh⟩
    exact ⟨hE, A2, n2, c2, rfl, NewI.of hh ⟨fun _ _ _ _ _ h => h, trivial⟩⟩
  intro w3 hE _ hK hap hbd
  have hE := chgNew hE
  obtain ⟨A2, n2, c2, rfl, hN1⟩ := hK 4 (by decide)
  have H := H.add hE hN1 ⟨fun _ _ _ _ _ h => h, trivial⟩ (fun q hq => (hbd 4 q hq).1)
  refine WL.ev rfl rfl (Ev.build rfl pl60 ze60 rfl rfl rfl rfl) ?_
  refine WL.stB (i := 1) rfl rfl rfl sz60 rfl rfl rfl rfl (all1 rfl (all1 rfl all0)) H rfl rfl rfl fun w4 H => ?_
  refine WL.nil ?_
  refine CW.ret ?_
  obtain rfl := sm hr
  exact ⟨_, resC rfl ag60 sz60 rfl rfl (At.blk (H.rB (i := 1) rfl)) rfl, H.ext0, _, _, _, rfl, hI1, H.outM (fr' := []) [false, false, true] fun _ _ => trivial⟩

noncomputable def iwithin_m (a0 : Int) (a1 : Int) (a2 : Int) : Option Bool :=
  if a1 ≤ a0 then (
  some (decide (a0 ≤ a2))
  ) else (
  some false
  )
theorem iwithin_ok {a0 : Int} {a1 : Int} {a2 : Int} {r : Bool} (hr : iwithin_m a0 a1 a2 = some r) {F0 : Nat → Prop} {w0 : World} (ha0 : I64 a0) (ha1 : I64 a1) (ha2 : I64 a2) :
    Ret Try.prog 109 #[.int .i64 a0, .int .i64 a1, .int .i64 a2] w0 (fun _ => False) fun v w => v = .bool r := by
  have H := HL.start F0 w0
  refine enter Try.func109 rfl rfl rfl ?_
  refine CW.seq (CW.reg ?_)
  refine WL.ev rfl rfl (Ev.as rfl rfl) (WL.nil ?_)
  refine CW.seq (CW.reg ?_)
  refine WL.ev rfl rfl (Ev.mv rfl rfl) (WL.ev rfl rfl (Ev.mv rfl rfl) (WL.ev rfl rfl (Ev.bin rfl rfl rfl Bin.geq) ?_))
  refine WL.mvD rfl rfl rfl rfl (fun h1 => ?_) (fun h1 => ?_)
  · skip
    have hr := ifp h1 hr
    refine WL.on rfl rfl (WL.ev rfl rfl (Ev.mv rfl rfl) (WL.on rfl rfl (WL.ev rfl rfl (Ev.mv rfl rfl) (WL.on rfl rfl (WL.ev rfl rfl (Ev.bin rfl rfl rfl Bin.leq) (WL.ev rfl rfl (Ev.pickT rfl rfl rfl) (WL.ev rfl rfl (Ev.as rfl rfl) (WL.nil ?_))))))))
    refine CW.ret ?_
    obtain rfl := sm hr
    exact ⟨_, res1 rfl rfl rfl, H.ext0, rfl⟩
  · skip
    have hr := ifn h1 hr
    refine WL.off rfl rfl rfl (WL.off rfl rfl rfl (WL.off rfl rfl rfl (WL.ev rfl rfl (Ev.pickF rfl rfl rfl) (WL.ev rfl rfl (Ev.as rfl rfl) (WL.nil ?_)))))
    refine CW.ret ?_
    obtain rfl := sm hr
    exact ⟨_, res1 rfl rfl rfl, H.ext0, rfl⟩

noncomputable def iIsValidRelation_1_m (a0 : Int) (a1 : Relation) : Option Bool :=
  grd (0 ≤ a1.N) <|
  grd (0 ≤ a1.N ∧ a1.N < 63) <|
  (iwithin_m a0 0 (((2 ^ a1.N.toNat : Nat) : Int) - 1)).bind fun y1 =>
  some (!y1)
theorem iIsValidRelation_1_ok {a0 : Int} {a1 : Relation} {r : Bool} (hr : iIsValidRelation_1_m a0 a1 = some r) {F0 : Nat → Prop} {w0 : World} (ha0 : I64 a0) {b1p : Nat} (ha1 : CapP F0 w0 b1p a1) :
    Ret Try.prog 111 #[.int .i64 a0, .pointer (some ⟨b1p, 0, none⟩)] w0 (fun _ => False) fun v w => v = .bool r := by
  have H := HL.start F0 w0
  obtain ⟨cpa1, H⟩ := H.argP ha1
  obtain ⟨A1, n1, c1, rfl, hI1, H⟩ := op_Relation H (i := 1) rfl
  refine enter Try.func111 rfl rfl rfl ?_
  refine CW.seq (CW.reg ?_)
  refine WL.ev rfl rfl (Ev.as rfl rfl) (WL.nil ?_)
  refine CW.seq (CW.reg ?_)
  refine WL.ev rfl rfl (Ev.mv rfl rfl) (WL.ev rfl rfl (Ev.fa rfl fo60_0 rfl) (WL.ev rfl rfl (Ev.ld rfl ag3 rfl ((H.rA (i := 0) rfl).cell rfl)) ?_))
  obtain ⟨hg1, hr⟩ := grd_some hr
  refine WL.ev rfl rfl (Ev.convUI rfl Try.underlying3 it130 rfl hg1 hI1.2) ?_
  obtain ⟨hg2, hr⟩ := grd_some hr
  refine WL.ev rfl rfl (Ev.bin rfl rfl rfl (Bin.shlI hg2.1 hg2.2)) (WL.ev rfl rfl (Ev.bin rfl rfl rfl (Bin.sub (i64_sub (k := 1) (i64_pow hg2.2) (by decide)))) ?_)
  obtain ⟨y1, hy1, hr⟩ := bd hr
  refine WL.call rfl rfl rfl rfl rfl ok109 rfl (iwithin_ok hy1 (F0 := fun _ => False) ha0 (by decide : I64 0) (i64_sub (k := 1) (i64_pow hg2.2) (by decide))) ?_
  rintro _ w1 hE rfl
  have H := H.ext hE
  refine WL.ev rfl rfl (Ev.not rfl rfl) (WL.ev rfl rfl (Ev.as rfl rfl) (WL.nil ?_))
  refine CW.ret ?_
  obtain rfl := sm hr
  exact ⟨_, res1 rfl rfl rfl, H.ext0, rfl⟩

noncomputable def slices_IndexFunc_int_iIsValidRelation_1_L1 (a1_0 : Relation) : Nat → Int → Unit → Option (Unit ⊕ Int) := fun k1 x1 _ => 
  (iIsValidRelation_1_m x1 a1_0).bind fun y1 =>
  if y1 = true then (
  some (.inr (k1 : Int))
  ) else (
  some (.inl ())
  )
noncomputable def slices_IndexFunc_int_iIsValidRelation_1_m (a0 : (List Int)) (a1_0 : Relation) : Option Int :=
  (findL (slices_IndexFunc_int_iIsValidRelation_1_L1 a1_0) 0 a0 ()).bind <| onr (fun r1 => some r1) fun _ =>
  some (-1)
theorem slices_IndexFunc_int_iIsValidRelation_1_ok {a0 : (List Int)} {a1_0 : Relation} {r : Int} (hr : slices_IndexFunc_int_iIsValidRelation_1_m a0 a1_0 = some r) {F0 : Nat → Prop} {w0 : World} {z0 : Value} (ha0 : rdS F0 w0 a0 z0) {b1_0p : Nat} (ha1_0 : CapP F0 w0 b1_0p a1_0) :
    Ret Try.prog 160 #[z0, .func (.func 111) #[] #[.pointer (some ⟨b1_0p, 0, none⟩)]] w0 (fun _ => False) fun v w => v = .int .i64 r ∧ I64 r := by
  obtain ⟨A0', n0', c0', rfl⟩ := ha0.form3
  have H := (HL.start F0 w0).argS ha0
  obtain ⟨cpa1_0, H⟩ := H.argP ha1_0
  obtain ⟨A1, n1, c1, rfl, hI1, H⟩ := op_Relation H (i := 2) rfl
  refine enter Try.func160 rfl rfl rfl ?_
  refine CW.seq (CW.reg ?_)
  refine WL.ev rfl rfl (Ev.as rfl rfl) (WL.nil ?_)
  refine CW.seq (CW.seq (CW.reg ?_))
  refine WL.ev rfl rfl (Ev.mv rfl rfl) ?_
  have hl1 := (H.rS (i := 0) rfl).I
  refine WL.ev rfl rfl (Ev.lenV rfl el41 rfl (H.rS (i := 0) rfl)) (WL.ev rfl rfl (Ev.mv rfl rfl) (WL.nil ?_))
  obtain ⟨q1, hq1, hr⟩ := bd hr
  refine CW.block (CW.loop (α := Nat) (fun k1 => [(0, .slice A0' n0' c0'), (1, .func (.func 111) #[] #[.pointer (some ⟨b1_0p, 0, none⟩)]), (7, .int .i64 (a0.length : Int)), (8, .int .i64 (k1 : Int))]) (fun k1 w => k1 ≤ a0.length ∧ findL (slices_IndexFunc_int_iIsValidRelation_1_L1 a1_0) k1 (a0.drop k1) () = some q1 ∧ HL F0 [] w0 w [Pr.S a0 (.slice A0' n0' c0'), Pr.A b1_0p 0 [.int .i64 a1_0.N, .slice A1 n1 c1], Pr.R a1_0 [.int .i64 a1_0.N, .slice A1 n1 c1], Pr.S a1_0.Rows (.slice A1 n1 c1)] []) (fun k1 => a0.length - k1) 0 ⟨rfl, rfl, rfl, rfl, trivial⟩ ⟨Nat.zero_le _, hq1, H.keep 4 0⟩ ?_)
  rintro k1 σ w1 ⟨hk1, hq1, H⟩
  refine CW.seq (CW.reg ?_)
  refine WL.ev rfl rfl (Ev.bin rfl rfl rfl Bin.lss) (WL.nil ?_)
  refine CW.seq (CW.condD rfl (fun h1 => ?_) (fun h1 => ?_))
  · skip
    have hk2 := cast_lt h1
    obtain ⟨x1, z1, hx1, hb1, hs1, ht1⟩ := findL_go hq1 hk2
    refine CW.skip ?_
    refine CW.seq (CW.block (CW.seq (CW.reg ?_)))
    refine WL.ev rfl rfl (Ev.mv rfl rfl) (WL.ev rfl rfl (Ev.as rfl rfl) (WL.nil ?_))
    refine CW.seq (CW.reg ?_)
    refine WL.ev rfl rfl (Ev.mv rfl rfl) (WL.ev rfl rfl (Ev.mv rfl rfl) (WL.ev rfl rfl (Ev.mv rfl rfl) ?_))
    obtain ⟨b1, ob1, cb1, hvb1, hI2, H⟩ := ixS_Int H (i := 0) rfl hx1
    refine WL.ev rfl rfl (Ev.ixVN rfl el41 sz3 rfl hvb1 rfl (lt_of hx1)) (WL.ev rfl rfl (Ev.ld rfl ag3 rfl ((H.rA (i := 4) rfl).cell0 rfl)) ?_)
    obtain ⟨y1, hy1, hb1⟩ := bd hb1
    refine WL.call rfl rfl rfl rfl rfl ok111 rfl (iIsValidRelation_1_ok hy1 (F0 := fun q => q < _) hI2 ⟨H.rAl (i := 1) rfl, _, H.rA (i := 1) rfl, ⟨_, rfl, hI1, (H.rS (i := 3) rfl)⟩⟩) ?_
    rintro _ w2 hE rfl
    have H := H.ext hE
    refine WL.nil ?_
    refine CW.condB rfl (fun h2 => ?_) (fun h2 => ?_)
    · skip
      have hb1 := ifp h2 hb1
      refine CW.seq (CW.reg ?_)
      refine WL.ev rfl rfl (Ev.mv rfl rfl) (WL.ev rfl rfl (Ev.as rfl rfl) (WL.nil ?_))
      refine CW.ret ?_
      obtain rfl := sm hb1
      obtain rfl := ht1 _ rfl
      obtain rfl := sm hr
      exact ⟨_, res1 rfl rfl rfl, H.ext0, rfl, (i64_nat hk2 hl1)⟩
    · skip
      have hb1 := ifn h2 hb1
      refine CW.skip ?_
      refine CW.reg ?_
      refine WL.ev rfl rfl (Ev.bin rfl rfl rfl (Bin.addN (a := k1) (b := 1) rfl (i64_succN hk2 hl1.2))) (WL.ev rfl rfl (Ev.mv rfl rfl) (WL.nil ?_))
      obtain rfl := sm hb1
      have hq1 := hs1 _ rfl
      exact ⟨(k1 + 1), ⟨rfl, rfl, rfl, rfl, trivial⟩, ⟨hk2, hq1, H.keep 4 0⟩, Nat.sub_lt_sub_left hk2 (Nat.lt_succ_self _)⟩
  · skip
    obtain rfl := findL_end hq1 (not_cast_lt h1)
    have hr := (onr_inl _ _ _).symm.trans hr
    refine CW.exit ?_
    refine CW.seq (CW.reg ?_)
    refine WL.ev rfl rfl (Ev.as rfl rfl) (WL.nil ?_)
    refine CW.ret ?_
    obtain rfl := sm hr
    exact ⟨_, res1 rfl rfl rfl, H.ext0, rfl, (by decide : I64 (-1))⟩

noncomputable def slices_ContainsFunc_int_iIsValidRelation_1_m (a0 : (List Int)) (a1_0 : Relation) : Option Bool :=
  (slices_IndexFunc_int_iIsValidRelation_1_m a0 a1_0).bind fun y1 =>
  some (decide (0 ≤ y1))
theorem slices_ContainsFunc_int_iIsValidRelation_1_ok {a0 : (List Int)} {a1_0 : Relation} {r : Bool} (hr : slices_ContainsFunc_int_iIsValidRelation_1_m a0 a1_0 = some r) {F0 : Nat → Prop} {w0 : World} {z0 : Value} (ha0 : rdS F0 w0 a0 z0) {b1_0p : Nat} (ha1_0 : CapP F0 w0 b1_0p a1_0) :
    Ret Try.prog 110 #[z0, .func (.func 111) #[] #[.pointer (some ⟨b1_0p, 0, none⟩)]] w0 (fun _ => False) fun v w => v = .bool r := by
  obtain ⟨A0', n0', c0', rfl⟩ := ha0.form3
  have H := (HL.start F0 w0).argS ha0
  obtain ⟨cpa1_0, H⟩ := H.argP ha1_0
  obtain ⟨A1, n1, c1, rfl, hI1, H⟩ := op_Relation H (i := 2) rfl
  refine enter Try.func110 rfl rfl rfl ?_
  refine CW.seq (CW.reg ?_)
  refine WL.ev rfl rfl (Ev.as rfl rfl) (WL.nil ?_)
  refine CW.seq (CW.reg ?_)
  refine WL.ev rfl rfl (Ev.mv rfl rfl) (WL.ev rfl rfl (Ev.mv rfl rfl) ?_)
  obtain ⟨y1, hy1, hr⟩ := bd hr
  refine WL.call rfl rfl rfl rfl rfl ok160 rfl (slices_IndexFunc_int_iIsValidRelation_1_ok hy1 (H.rS (i := 0) rfl) ⟨H.rAl (i := 1) rfl, _, H.rA (i := 1) rfl, ⟨_, rfl, hI1, (H.rS (i := 3) rfl)⟩⟩) ?_
  rintro _ w1 hE ⟨rfl, hI2⟩
  have H := H.ext hE
  refine WL.ev rfl rfl (Ev.bin rfl rfl rfl Bin.geq) (WL.ev rfl rfl (Ev.as rfl rfl) (WL.nil ?_))
  refine CW.ret ?_
  obtain rfl := sm hr
  exact ⟨_, res1 rfl rfl rfl, H.ext0, rfl⟩

noncomputable def iIsValidRelation_m (a0 : Relation) : Option Bool :=
  (iwithin_m a0.N 0 16).bind fun y1 =>
  (
  if y1 = true then (
  some (decide ((a0.Rows.length : Int) = a0.N))
  ) else (
  some false
  )
  ).bind fun s1 =>
  (
  if s1 = true then (
  (slices_ContainsFunc_int_iIsValidRelation_1_m a0.Rows a0).bind fun y2 =>
  some (!y2)
  ) else (
  some false
  )
  ).bind fun s2 =>
  some s2
theorem iIsValidRelation_ok {a0 : Relation} {r : Bool} (hr : iIsValidRelation_m a0 = some r) {F0 : Nat → Prop} {w0 : World} {ca0 : List Value} (ha0 : rd F0 w0 a0 ca0) :
    Ret Try.prog 39 #[.agg ca0.toArray] w0 (fun _ => False) fun v w => v = .bool r := by
  have H := (HL.start F0 w0).argR ha0
  obtain ⟨A1, n1, c1, rfl, hI1, H⟩ := op_Relation H (i := 0) rfl
  refine enter Try.func39 rfl rfl rfl ?_
  refine CW.seq (CW.reg ?_)
  refine WL.boxH rfl rfl rfl rfl rfl H fun b1 w1 H => ?_
  refine WL.ev rfl rfl (Ev.as rfl rfl) (WL.nil ?_)
  refine CW.seq (CW.reg ?_)
  refine WL.ev rfl rfl (Ev.fa rfl fo60_0 rfl) (WL.ev rfl rfl (Ev.ld rfl ag3 rfl ((H.rB (i := 0) rfl).cell rfl)) ?_)
  obtain ⟨y1, hy1, hr⟩ := bd hr
  refine WL.call rfl rfl rfl rfl rfl ok109 rfl (iwithin_ok hy1 (F0 := fun _ => False) hI1 (by decide : I64 0) (by decide : I64 16)) ?_
  rintro _ w2 hE rfl
  have H := H.ext hE
  obtain ⟨q1, hm1, hr⟩ := bd hr
  refine WL.cut 8 (fun ρ' w => ∃ (s1 : Bool), s1 = q1 ∧ agree ρ' [(1, .pointer (some ⟨b1, 0, none⟩)), (2, .bool false), (13, .bool s1)] ∧ HL F0 [] w0 w [Pr.R a0 [.int .i64 a0.N, .slice A1 n1 c1], Pr.S a0.Rows (.slice A1 n1 c1)] [It.B b1 60 [.int .i64 a0.N, .slice A1 n1 c1]]) ?_ ?_
  · skip
    refine WL.mvB rfl rfl rfl rfl (fun h1 => ?_) (fun h1 => ?_)
    · skip
      have hm1 := ifp h1 hm1
      refine WL.on rfl rfl (WL.ev rfl rfl (Ev.fa rfl fo60_1 rfl) (WL.on rfl rfl (WL.ev rfl rfl (Ev.ld rfl ag41 rfl ((H.rB (i := 0) rfl).cell rfl)) (WL.on rfl rfl ?_))))
      have hl1 := (H.rS (i := 1) rfl).I
      refine WL.ev rfl rfl (Ev.lenV rfl el41 rfl (H.rS (i := 1) rfl)) (WL.on rfl rfl (WL.ev rfl rfl (Ev.fa rfl fo60_0 rfl) (WL.on rfl rfl (WL.ev rfl rfl (Ev.ld rfl ag3 rfl ((H.rB (i := 0) rfl).cell rfl)) (WL.on rfl rfl (WL.ev rfl rfl (Ev.bin rfl rfl rfl Bin.eql) (WL.ev rfl rfl (Ev.pickT rfl rfl rfl) (WL.nil ?_))))))))
      obtain rfl := sm hm1
      exact ⟨(decide ((a0.Rows.length : Int) = a0.N)), rfl, ⟨rfl, rfl, rfl, trivial⟩, H.keep 2 1⟩
    · skip
      have hm1 := ifn h1 hm1
      refine WL.off rfl rfl rfl (WL.off rfl rfl rfl (WL.off rfl rfl rfl (WL.off rfl rfl rfl (WL.off rfl rfl rfl (WL.off rfl rfl rfl (WL.ev rfl rfl (Ev.pickF rfl rfl rfl) (WL.nil ?_)))))))
      obtain rfl := sm hm1
      exact ⟨false, rfl, ⟨rfl, rfl, rfl, trivial⟩, H.keep 2 1⟩
  · rintro ρ' w3 ⟨s1, rfl, hag, H⟩
    obtain ⟨σ, rfl⟩ := ofL_ex hag
    obtain ⟨q2, hm2, hr⟩ := bd hr
    refine WL.cut 7 (fun ρ' w => ∃ (s2 : Bool), s2 = q2 ∧ agree ρ' [(2, .bool false), (20, .bool s2)] ∧ HL F0 [] w0 w [Pr.R a0 [.int .i64 a0.N, .slice A1 n1 c1], Pr.S a0.Rows (.slice A1 n1 c1)] [It.B b1 60 [.int .i64 a0.N, .slice A1 n1 c1]]) ?_ ?_
    · skip
      refine WL.mvB rfl rfl rfl rfl (fun h2 => ?_) (fun h2 => ?_)
      · skip
        have hm2 := ifp h2 hm2
        refine WL.on rfl rfl (WL.ev rfl rfl (Ev.fa rfl fo60_1 rfl) (WL.on rfl rfl (WL.ev rfl rfl (Ev.ld rfl ag41 rfl ((H.rB (i := 0) rfl).cell rfl)) (WL.on rfl rfl (WL.ev rfl rfl (Ev.mkfL rfl rfl rfl) (WL.on rfl rfl ?_))))))
        obtain ⟨y2, hy2, hm2⟩ := bd hm2
        refine WL.call rfl rfl rfl rfl rfl ok110 rfl (slices_ContainsFunc_int_iIsValidRelation_1_ok hy2 (H.rS (i := 1) rfl) ⟨(H.rB (i := 0) rfl).lt, _, At.blk (H.rB (i := 0) rfl), ⟨_, rfl, hI1, (H.rS (i := 1) rfl)⟩⟩) ?_
        rintro _ w4 hE rfl
        have H := H.ext hE
        refine WL.on rfl rfl (WL.ev rfl rfl (Ev.not rfl rfl) (WL.ev rfl rfl (Ev.pickT rfl rfl rfl) (WL.nil ?_)))
        obtain rfl := sm hm2
        exact ⟨(!y2), rfl, ⟨rfl, rfl, trivial⟩, H.keep 2 1⟩
      · skip
        have hm2 := ifn h2 hm2
        refine WL.off rfl rfl rfl (WL.off rfl rfl rfl (WL.off rfl rfl rfl (WL.off rfl rfl rfl (WL.off rfl rfl rfl (WL.ev rfl rfl (Ev.pickF rfl rfl rfl) (WL.nil ?_))))))
        obtain rfl := sm hm2
        exact ⟨false, rfl, ⟨rfl, rfl, trivial⟩, H.keep 2 1⟩
    · rintro ρ' w5 ⟨s2, rfl, hag, H⟩
      obtain ⟨σ, rfl⟩ := ofL_ex hag
      refine WL.ev rfl rfl (Ev.as rfl rfl) (WL.nil ?_)
      refine CW.ret ?_
      obtain rfl := sm hr
      exact ⟨_, res1 rfl rfl rfl, H.ext0, rfl⟩

noncomputable def sl1Ints_L1 (a1 : (List Int)) : Nat → Int → Unit → Option (Unit ⊕ Bool) := fun k1 x1 _ => 
  (a1[k1]?).bind fun x2 =>
  if x1 = x2 then (
  some (.inl ())
  ) else (
  some (.inr false)
  )
noncomputable def sl1Ints_m (a0 : (List Int)) (a1 : (List Int)) : Option Bool :=
  if (a0.length : Int) = (a1.length : Int) then (
  (findL (sl1Ints_L1 a1) 0 a0 ()).bind <| onr (fun r1 => some r1) fun _ =>
  some true
  ) else (
  some false
  )
theorem sl1Ints_ok {a0 : (List Int)} {a1 : (List Int)} {r : Bool} (hr : sl1Ints_m a0 a1 = some r) {F0 : Nat → Prop} {w0 : World} {z0 : Value} (ha0 : rdS F0 w0 a0 z0) {z1 : Value} (ha1 : rdS F0 w0 a1 z1) :
    Ret Try.prog 107 #[z0, z1] w0 (fun _ => False) fun v w => v = .bool r := by
  obtain ⟨A0', n0', c0', rfl⟩ := ha0.form3
  obtain ⟨A1', n1', c1', rfl⟩ := ha1.form3
  have H := ((HL.start F0 w0).argS ha0).argS ha1
  refine enter Try.func107 rfl rfl rfl ?_
  refine CW.seq (CW.reg ?_)
  refine WL.ev rfl rfl (Ev.as rfl rfl) (WL.nil ?_)
  refine CW.seq (CW.seq (CW.reg ?_))
  refine WL.ev rfl rfl (Ev.mv rfl rfl) ?_
  have hl1 := (H.rS (i := 0) rfl).I
  refine WL.ev rfl rfl (Ev.lenV rfl el41 rfl (H.rS (i := 0) rfl)) (WL.ev rfl rfl (Ev.mv rfl rfl) ?_)
  have hl2 := (H.rS (i := 1) rfl).I
  refine WL.ev rfl rfl (Ev.lenV rfl el41 rfl (H.rS (i := 1) rfl)) (WL.ev rfl rfl (Ev.bin rfl rfl rfl Bin.neq) (WL.nil ?_))
  refine CW.condN rfl (fun h1 => ?_) (fun h1 => ?_)
  · skip
    have hr := ifn h1 hr
    refine CW.seq (CW.reg ?_)
    refine WL.ev rfl rfl (Ev.as rfl rfl) (WL.nil ?_)
    refine CW.ret ?_
    obtain rfl := sm hr
    exact ⟨_, res1 rfl rfl rfl, H.ext0, rfl⟩
  · skip
    have hr := ifp h1 hr
    refine CW.skip ?_
    refine CW.seq (CW.seq (CW.reg ?_))
    refine WL.ev rfl rfl (Ev.as rfl rfl) (WL.nil ?_)
    obtain ⟨q1, hq1, hr⟩ := bd hr
    refine CW.block (CW.loop (α := Nat) (fun k1 => [(0, .slice A0' n0' c0'), (1, .slice A1' n1' c1'), (5, .int .i64 (k1 : Int))]) (fun k1 w => k1 ≤ a0.length ∧ findL (sl1Ints_L1 a1) k1 (a0.drop k1) () = some q1 ∧ HL F0 [] w0 w [Pr.S a0 (.slice A0' n0' c0'), Pr.S a1 (.slice A1' n1' c1')] []) (fun k1 => a0.length - k1) 0 ⟨rfl, rfl, rfl, trivial⟩ ⟨Nat.zero_le _, hq1, H.keep 2 0⟩ ?_)
    rintro k1 σ w1 ⟨hk1, hq1, H⟩
    refine CW.seq (CW.seq (CW.reg ?_))
    refine WL.ev rfl rfl (Ev.mv rfl rfl) (WL.ev rfl rfl (Ev.mv rfl rfl) (WL.ev rfl rfl (Ev.lenV rfl el41 rfl (H.rS (i := 0) rfl)) (WL.ev rfl rfl (Ev.bin rfl rfl rfl Bin.lss) (WL.nil ?_))))
    refine CW.condD rfl (fun h2 => ?_) (fun h2 => ?_)
    · skip
      have hk2 := cast_lt h2
      obtain ⟨x1, z1, hx1, hb1, hs1, ht1⟩ := findL_go hq1 hk2
      refine CW.skip ?_
      refine CW.seq (CW.block (CW.seq (CW.quiet hmix (by kernel_rfl) ?_)))
      refine QL.ev rfl rfl (fun _ _ => Ev.mv rfl rfl) (QL.ev rfl rfl (fun _ _ => Ev.mv rfl rfl) ?_)
      obtain ⟨b1, ob1, cb1, hvb1, hI1, H⟩ := ixS_Int H (i := 0) rfl hx1
      refine QL.ev rfl rfl (fun _ _ => Ev.ixVN rfl el41 sz3 rfl hvb1 rfl (lt_of hx1)) (QL.ev rfl rfl (fun _ hq => Ev.ld rfl ag3 rfl (((H.ext hq).rA (i := 2) rfl).cell0 rfl)) (QL.ev rfl rfl (fun _ _ => Ev.mv rfl rfl) (QL.ev rfl rfl (fun _ _ => Ev.mv rfl rfl) ?_)))
      obtain ⟨x2, hx2, hb1⟩ := bd hb1
      obtain ⟨b2, ob2, cb2, hvb2, hI2, H⟩ := ixS_Int H (i := 1) rfl hx2
      refine QL.ev rfl rfl (fun _ _ => Ev.ixVN rfl el41 sz3 rfl hvb2 rfl (lt_of hx2)) (QL.ev rfl rfl (fun _ hq => Ev.ld rfl ag3 rfl (((H.ext hq).rA (i := 4) rfl).cell0 rfl)) (QL.ev rfl rfl (fun _ _ => Ev.bin rfl rfl rfl Bin.neq) (QL.nil (fun w2 hE => ?_))))
      have H := H.ext hE
      refine CW.condN rfl (fun h3 => ?_) (fun h3 => ?_)
      · skip
        have hb1 := ifn h3 hb1
        refine CW.seq (CW.reg ?_)
        refine WL.ev rfl rfl (Ev.as rfl rfl) (WL.nil ?_)
        refine CW.ret ?_
        obtain rfl := sm hb1
        obtain rfl := ht1 _ rfl
        obtain rfl := sm hr
        exact ⟨_, res1 rfl rfl rfl, H.ext0, rfl⟩
      · skip
        have hb1 := ifp h3 hb1
        refine CW.skip ?_
        refine CW.reg ?_
        refine WL.ev rfl rfl (Ev.mv rfl rfl) (WL.ev rfl rfl (Ev.bin rfl rfl rfl (Bin.addN (a := k1) (b := 1) rfl (i64_succN hk2 hl1.2))) (WL.ev rfl rfl (Ev.as rfl rfl) (WL.nil ?_)))
        obtain rfl := sm hb1
        have hq1 := hs1 _ rfl
        exact ⟨(k1 + 1), ⟨rfl, rfl, rfl, trivial⟩, ⟨hk2, hq1, H.keep 2 0⟩, Nat.sub_lt_sub_left hk2 (Nat.lt_succ_self _)⟩
    · skip
      obtain rfl := findL_end hq1 (not_cast_lt h2)
      have hr := (onr_inl _ _ _).symm.trans hr
      refine CW.exit ?_
      refine CW.seq (CW.reg ?_)
      refine WL.ev rfl rfl (Ev.as rfl rfl) (WL.nil ?_)
      refine CW.ret ?_
      obtain rfl := sm hr
      exact ⟨_, res1 rfl rfl rfl, H.ext0, rfl⟩

noncomputable def sEqualRelation_m (a0 : Relation) (a1 : Relation) : Option Bool :=
  if a0.N = a1.N then (
  (sl1Ints_m a0.Rows a1.Rows).bind fun y1 =>
  some y1
  ) else (
  some false
  )
theorem sEqualRelation_ok {a0 : Relation} {a1 : Relation} {r : Bool} (hr : sEqualRelation_m a0 a1 = some r) {F0 : Nat → Prop} {w0 : World} {ca0 : List Value} (ha0 : rd F0 w0 a0 ca0) {ca1 : List Value} (ha1 : rd F0 w0 a1 ca1) :
    Ret Try.prog 37 #[.agg ca0.toArray, .agg ca1.toArray] w0 (fun _ => False) fun v w => v = .bool r := by
  have H := ((HL.start F0 w0).argR ha0).argR ha1
  obtain ⟨A1, n1, c1, rfl, hI1, H⟩ := op_Relation H (i := 0) rfl
  obtain ⟨A2, n2, c2, rfl, hI2, H⟩ := op_Relation H (i := 1) rfl
  refine enter Try.func37 rfl rfl rfl ?_
  refine CW.seq (CW.reg ?_)
  refine WL.boxH rfl rfl rfl rfl rfl H fun b1 w1 H => ?_
  refine WL.boxH rfl rfl rfl rfl rfl H fun b2 w2 H => ?_
  refine WL.ev rfl rfl (Ev.as rfl rfl) (WL.nil ?_)
  refine CW.seq (CW.reg ?_)
  refine WL.ev rfl rfl (Ev.fa rfl fo60_0 rfl) (WL.ev rfl rfl (Ev.ld rfl ag3 rfl ((H.rB (i := 0) rfl).cell rfl)) (WL.ev rfl rfl (Ev.fa rfl fo60_0 rfl) (WL.ev rfl rfl (Ev.ld rfl ag3 rfl ((H.rB (i := 1) rfl).cell rfl)) (WL.ev rfl rfl (Ev.bin rfl rfl rfl Bin.eql) ?_))))
  refine WL.mvD rfl rfl rfl rfl (fun h1 => ?_) (fun h1 => ?_)
  · skip
    have hr := ifp h1 hr
    refine WL.on rfl rfl (WL.ev rfl rfl (Ev.fa rfl fo60_1 rfl) (WL.on rfl rfl (WL.ev rfl rfl (Ev.ld rfl ag41 rfl ((H.rB (i := 0) rfl).cell rfl)) (WL.on rfl rfl (WL.ev rfl rfl (Ev.fa rfl fo60_1 rfl) (WL.on rfl rfl (WL.ev rfl rfl (Ev.ld rfl ag41 rfl ((H.rB (i := 1) rfl).cell rfl)) (WL.on rfl rfl ?_))))))))
    obtain ⟨y1, hy1, hr⟩ := bd hr
    refine WL.call rfl rfl rfl rfl rfl ok107 rfl (sl1Ints_ok hy1 (H.rS (i := 2) rfl) (H.rS (i := 3) rfl)) ?_
    rintro _ w3 hE rfl
    have H := H.ext hE
    refine WL.ev rfl rfl (Ev.pickT rfl rfl rfl) (WL.ev rfl rfl (Ev.as rfl rfl) (WL.nil ?_))
    refine CW.ret ?_
    obtain rfl := sm hr
    exact ⟨_, res1 rfl rfl rfl, H.ext0, rfl⟩
  · skip
    have hr := ifn h1 hr
    refine WL.off rfl rfl rfl (WL.off rfl rfl rfl (WL.off rfl rfl rfl (WL.off rfl rfl rfl (WL.off rfl rfl rfl (WL.ev rfl rfl (Ev.pickF rfl rfl rfl) (WL.ev rfl rfl (Ev.as rfl rfl) (WL.nil ?_)))))))
    refine CW.ret ?_
    obtain rfl := sm hr
    exact ⟨_, res1 rfl rfl rfl, H.ext0, rfl⟩

noncomputable def iHasPair_m (a0 : Relation) (a1 : Int) (a2 : Int) : Option Bool :=
  (iIsValidRelation_m a0).bind fun y1 =>
  (
  if y1 = true then (
  grd (I64 (a0.N - 1)) <|
  (iwithin_m a1 0 (a0.N - 1)).bind fun y2 =>
  some y2
  ) else (
  some false
  )
  ).bind fun s1 =>
  (
  if s1 = true then (
  grd (I64 (a0.N - 1)) <|
  (iwithin_m a2 0 (a0.N - 1)).bind fun y3 =>
  some y3
  ) else (
  some false
  )
  ).bind fun s2 =>
  (
  if s2 = true then (
  grd (0 ≤ a1) <|
  (a0.Rows[a1.toNat]?).bind fun x1 =>
  grd (0 ≤ a2) <|
  grd (0 ≤ x1 ∧ 0 ≤ a2 ∧ a2 < 64) <|
  grd (0 ≤ ((x1.toNat >>> a2.toNat : Nat) : Int) ∧ 0 ≤ (1 : Int)) <|
  some (decide (((((x1.toNat >>> a2.toNat : Nat) : Int).toNat &&& (1 : Int).toNat : Nat) : Int) = 1))
  ) else (
  some false
  )
  ).bind fun s3 =>
  some s3
theorem iHasPair_ok {a0 : Relation} {a1 : Int} {a2 : Int} {r : Bool} (hr : iHasPair_m a0 a1 a2 = some r) {F0 : Nat → Prop} {w0 : World} {ca0 : List Value} (ha0 : rd F0 w0 a0 ca0) (ha1 : I64 a1) (ha2 : I64 a2) :
    Ret Try.prog 43 #[.agg ca0.toArray, .int .i64 a1, .int .i64 a2] w0 (fun _ => False) fun v w => v = .bool r := by
  have H := (HL.start F0 w0).argR ha0
  obtain ⟨A1, n1, c1, rfl, hI1, H⟩ := op_Relation H (i := 0) rfl
  refine enter Try.func43 rfl rfl rfl ?_
  refine CW.seq (CW.reg ?_)
  refine WL.boxH rfl rfl rfl rfl rfl H fun b1 w1 H => ?_
  refine WL.ev rfl rfl (Ev.as rfl rfl) (WL.nil ?_)
  refine CW.seq (CW.reg ?_)
  refine WL.ev rfl rfl (Ev.lda rfl ag60 sz60 rfl (At.blk (H.rB (i := 0) rfl)) rfl) ?_
  obtain ⟨y1, hy1, hr⟩ := bd hr
  refine WL.call rfl rfl rfl rfl rfl ok39 rfl (iIsValidRelation_ok hy1 ⟨_, rfl, hI1, (H.rS (i := 1) rfl)⟩) ?_
  rintro _ w2 hE rfl
  have H := H.ext hE
  obtain ⟨q1, hm1, hr⟩ := bd hr
  refine WL.cut 7 (fun ρ' w => ∃ (s1 : Bool), s1 = q1 ∧ agree ρ' [(1, .int .i64 a1), (2, .int .i64 a2), (3, .pointer (some ⟨b1, 0, none⟩)), (6, .bool false), (15, .bool s1)] ∧ HL F0 [] w0 w [Pr.R a0 [.int .i64 a0.N, .slice A1 n1 c1], Pr.S a0.Rows (.slice A1 n1 c1)] [It.B b1 60 [.int .i64 a0.N, .slice A1 n1 c1]]) ?_ ?_
  · skip
    refine WL.mvB rfl rfl rfl rfl (fun h1 => ?_) (fun h1 => ?_)
    · skip
      have hm1 := ifp h1 hm1
      refine WL.on rfl rfl (WL.ev rfl rfl (Ev.mv rfl rfl) (WL.on rfl rfl (WL.ev rfl rfl (Ev.fa rfl fo60_0 rfl) (WL.on rfl rfl (WL.ev rfl rfl (Ev.ld rfl ag3 rfl ((H.rB (i := 0) rfl).cell rfl)) (WL.on rfl rfl ?_))))))
      obtain ⟨hg1, hm1⟩ := grd_some hm1
      refine WL.ev rfl rfl (Ev.bin rfl rfl rfl (Bin.sub hg1)) (WL.on rfl rfl ?_)
      obtain ⟨y2, hy2, hm1⟩ := bd hm1
      refine WL.call rfl rfl rfl rfl rfl ok109 rfl (iwithin_ok hy2 (F0 := fun _ => False) ha1 (by decide : I64 0) hg1) ?_
      rintro _ w3 hE rfl
      have H := H.ext hE
      refine WL.ev rfl rfl (Ev.pickT rfl rfl rfl) (WL.nil ?_)
      obtain rfl := sm hm1
      exact ⟨y2, rfl, ⟨rfl, rfl, rfl, rfl, rfl, trivial⟩, H.keep 2 1⟩
    · skip
      have hm1 := ifn h1 hm1
      refine WL.off rfl rfl rfl (WL.off rfl rfl rfl (WL.off rfl rfl rfl (WL.off rfl rfl rfl (WL.off rfl rfl rfl (WL.ev rfl rfl (Ev.pickF rfl rfl rfl) (WL.nil ?_))))))
      obtain rfl := sm hm1
      exact ⟨false, rfl, ⟨rfl, rfl, rfl, rfl, rfl, trivial⟩, H.keep 2 1⟩
  · rintro ρ' w4 ⟨s1, rfl, hag, H⟩
    obtain ⟨σ, rfl⟩ := ofL_ex hag
    obtain ⟨q2, hm2, hr⟩ := bd hr
    refine WL.cut 7 (fun ρ' w => ∃ (s2 : Bool), s2 = q2 ∧ agree ρ' [(1, .int .i64 a1), (2, .int .i64 a2), (3, .pointer (some ⟨b1, 0, none⟩)), (6, .bool false), (22, .bool s2)] ∧ HL F0 [] w0 w [Pr.R a0 [.int .i64 a0.N, .slice A1 n1 c1], Pr.S a0.Rows (.slice A1 n1 c1)] [It.B b1 60 [.int .i64 a0.N, .slice A1 n1 c1]]) ?_ ?_
    · skip
      refine WL.mvB rfl rfl rfl rfl (fun h2 => ?_) (fun h2 => ?_)
      · skip
        have hm2 := ifp h2 hm2
        refine WL.on rfl rfl (WL.ev rfl rfl (Ev.mv rfl rfl) (WL.on rfl rfl (WL.ev rfl rfl (Ev.fa rfl fo60_0 rfl) (WL.on rfl rfl (WL.ev rfl rfl (Ev.ld rfl ag3 rfl ((H.rB (i := 0) rfl).cell rfl)) (WL.on rfl rfl ?_))))))
        obtain ⟨hg2, hm2⟩ := grd_some hm2
        refine WL.ev rfl rfl (Ev.bin rfl rfl rfl (Bin.sub hg2)) (WL.on rfl rfl ?_)
        obtain ⟨y3, hy3, hm2⟩ := bd hm2
        refine WL.call rfl rfl rfl rfl rfl ok109 rfl (iwithin_ok hy3 (F0 := fun _ => False) ha2 (by decide : I64 0) hg2) ?_
        rintro _ w5 hE rfl
        have H := H.ext hE
        refine WL.ev rfl rfl (Ev.pickT rfl rfl rfl) (WL.nil ?_)
        obtain rfl := sm hm2
        exact ⟨y3, rfl, ⟨rfl, rfl, rfl, rfl, rfl, trivial⟩, H.keep 2 1⟩
      · skip
        have hm2 := ifn h2 hm2
        refine WL.off rfl rfl rfl (WL.off rfl rfl rfl (WL.off rfl rfl rfl (WL.off rfl rfl rfl (WL.off rfl rfl rfl (WL.ev rfl rfl (Ev.pickF rfl rfl rfl) (WL.nil ?_))))))
        obtain rfl := sm hm2
        exact ⟨false, rfl, ⟨rfl, rfl, rfl, rfl, rfl, trivial⟩, H.keep 2 1⟩
    · rintro ρ' w6 ⟨s2, rfl, hag, H⟩
      obtain ⟨σ, rfl⟩ := ofL_ex hag
      obtain ⟨q3, hm3, hr⟩ := bd hr
      refine WL.cut 12 (fun ρ' w => ∃ (s3 : Bool), s3 = q3 ∧ agree ρ' [(6, .bool false), (34, .bool s3)] ∧ HL F0 [] w0 w [Pr.R a0 [.int .i64 a0.N, .slice A1 n1 c1], Pr.S a0.Rows (.slice A1 n1 c1)] [It.B b1 60 [.int .i64 a0.N, .slice A1 n1 c1]]) ?_ ?_
      · skip
        refine WL.mvB rfl rfl rfl rfl (fun h3 => ?_) (fun h3 => ?_)
        · skip
          have hm3 := ifp h3 hm3
          refine WL.on rfl rfl (WL.ev rfl rfl (Ev.fa rfl fo60_1 rfl) (WL.on rfl rfl (WL.ev rfl rfl (Ev.ld rfl ag41 rfl ((H.rB (i := 0) rfl).cell rfl)) (WL.on rfl rfl (WL.ev rfl rfl (Ev.mv rfl rfl) (WL.on rfl rfl ?_))))))
          obtain ⟨hg3, hm3⟩ := grd_some hm3
          obtain ⟨x1, hx1, hm3⟩ := bd hm3
          obtain ⟨b2, ob2, cb2, hvb2, hI2, H⟩ := ixS_Int H (i := 1) rfl hx1
          refine WL.ev rfl rfl (Ev.ixV rfl el41 sz3 rfl hvb2 rfl hg3 (lt_of hx1)) (WL.on rfl rfl (WL.ev rfl rfl (Ev.ld rfl ag3 rfl ((H.rA (i := 2) rfl).cell0 rfl)) (WL.on rfl rfl (WL.ev rfl rfl (Ev.mv rfl rfl) (WL.on rfl rfl ?_)))))
          obtain ⟨hg4, hm3⟩ := grd_some hm3
          refine WL.ev rfl rfl (Ev.convUI rfl Try.underlying3 it130 rfl hg4 ha2.2) (WL.on rfl rfl ?_)
          obtain ⟨hg5, hm3⟩ := grd_some hm3
          refine WL.ev rfl rfl (Ev.bin rfl rfl rfl (Bin.shrI hg5.1 hg5.2.1 hg5.2.2)) (WL.on rfl rfl ?_)
          obtain ⟨hg6, hm3⟩ := grd_some hm3
          refine WL.ev rfl rfl (Ev.bin rfl rfl rfl (Bin.andI hg6.1 (i64_shr hI2).2 hg6.2 (by decide : I64 1).2)) (WL.on rfl rfl (WL.ev rfl rfl (Ev.bin rfl rfl rfl Bin.eql) (WL.ev rfl rfl (Ev.pickT rfl rfl rfl) (WL.nil ?_))))
          obtain rfl := sm hm3
          exact ⟨(decide (((((x1.toNat >>> a2.toNat : Nat) : Int).toNat &&& (1 : Int).toNat : Nat) : Int) = 1)), rfl, ⟨rfl, rfl, trivial⟩, H.keep 2 1⟩
        · skip
          have hm3 := ifn h3 hm3
          refine WL.off rfl rfl rfl (WL.off rfl rfl rfl (WL.off rfl rfl rfl (WL.off rfl rfl rfl (WL.off rfl rfl rfl (WL.off rfl rfl rfl (WL.off rfl rfl rfl (WL.off rfl rfl rfl (WL.off rfl rfl rfl (WL.off rfl rfl rfl (WL.ev rfl rfl (Ev.pickF rfl rfl rfl) (WL.nil ?_)))))))))))
          obtain rfl := sm hm3
          exact ⟨false, rfl, ⟨rfl, rfl, trivial⟩, H.keep 2 1⟩
      · rintro ρ' w7 ⟨s3, rfl, hag, H⟩
        obtain ⟨σ, rfl⟩ := ofL_ex hag
        refine WL.ev rfl rfl (Ev.as rfl rfl) (WL.nil ?_)
        refine CW.ret ?_
        obtain rfl := sm hr
        exact ⟨_, res1 rfl rfl rfl, H.ext0, rfl⟩

noncomputable def sHasPair_m (a0 : Relation) (a1 : Int) (a2 : Int) : Option Bool :=
  (sIsValidRelation_m a0).bind fun y1 =>
  (
  if y1 = true then (
  grd (I64 (a0.N - 1)) <|
  (sl1In_m a1 0 (a0.N - 1)).bind fun y2 =>
  some y2
  ) else (
  some false
  )
  ).bind fun s1 =>
  (
  if s1 = true then (
  grd (I64 (a0.N - 1)) <|
  (sl1In_m a2 0 (a0.N - 1)).bind fun y3 =>
  some y3
  ) else (
  some false
  )
  ).bind fun s2 =>
  (
  if s2 = true then (
  grd (0 ≤ a1) <|
  (a0.Rows[a1.toNat]?).bind fun x1 =>
  grd (0 ≤ a2) <|
  grd (0 ≤ x1 ∧ 0 ≤ a2 ∧ a2 < 64) <|
  grd (0 ≤ ((x1.toNat >>> a2.toNat : Nat) : Int) ∧ 0 ≤ (1 : Int)) <|
  some (decide (((((x1.toNat >>> a2.toNat : Nat) : Int).toNat &&& (1 : Int).toNat : Nat) : Int) = 1))
  ) else (
  some false
  )
  ).bind fun s3 =>
  some s3
theorem sHasPair_ok {a0 : Relation} {a1 : Int} {a2 : Int} {r : Bool} (hr : sHasPair_m a0 a1 a2 = some r) {F0 : Nat → Prop} {w0 : World} {ca0 : List Value} (ha0 : rd F0 w0 a0 ca0) (ha1 : I64 a1) (ha2 : I64 a2) :
    Ret Try.prog 44 #[.agg ca0.toArray, .int .i64 a1, .int .i64 a2] w0 (fun _ => False) fun v w => v = .bool r := by
  have H := (HL.start F0 w0).argR ha0
  obtain ⟨A1, n1, c1, rfl, hI1, H⟩ := op_Relation H (i := 0) rfl
  refine enter Try.func44 rfl rfl rfl ?_
  refine CW.seq (CW.reg ?_)
  refine WL.boxH rfl rfl rfl rfl rfl H fun b1 w1 H => ?_
  refine WL.ev rfl rfl (Ev.as rfl rfl) (WL.nil ?_)
  refine CW.seq (CW.reg ?_)
  refine WL.ev rfl rfl (Ev.lda rfl ag60 sz60 rfl (At.blk (H.rB (i := 0) rfl)) rfl) ?_
  obtain ⟨y1, hy1, hr⟩ := bd hr
  refine WL.call rfl rfl rfl rfl rfl ok40 rfl (sIsValidRelation_ok hy1 ⟨_, rfl, hI1, (H.rS (i := 1) rfl)⟩) ?_
  rintro _ w2 hE rfl
  have H := H.ext hE
  obtain ⟨q1, hm1, hr⟩ := bd hr
  refine WL.cut 7 (fun ρ' w => ∃ (s1 : Bool), s1 = q1 ∧ agree ρ' [(1, .int .i64 a1), (2, .int .i64 a2), (3, .pointer (some ⟨b1, 0, none⟩)), (6, .bool false), (15, .bool s1)] ∧ HL F0 [] w0 w [Pr.R a0 [.int .i64 a0.N, .slice A1 n1 c1], Pr.S a0.Rows (.slice A1 n1 c1)] [It.B b1 60 [.int .i64 a0.N, .slice A1 n1 c1]]) ?_ ?_
  · skip
    refine WL.mvB rfl rfl rfl rfl (fun h1 => ?_) (fun h1 => ?_)
    · skip
      have hm1 := ifp h1 hm1
      refine WL.on rfl rfl (WL.ev rfl rfl (Ev.mv rfl rfl) (WL.on rfl rfl (WL.ev rfl rfl (Ev.fa rfl fo60_0 rfl) (WL.on rfl rfl (WL.ev rfl rfl (Ev.ld rfl ag3 rfl ((H.rB (i := 0) rfl).cell rfl)) (WL.on rfl rfl ?_))))))
      obtain ⟨hg1, hm1⟩ := grd_some hm1
      refine WL.ev rfl rfl (Ev.bin rfl rfl rfl (Bin.sub hg1)) (WL.on rfl rfl ?_)
      obtain ⟨y2, hy2, hm1⟩ := bd hm1
      refine WL.call rfl rfl rfl rfl rfl ok112 rfl (sl1In_ok hy2 (F0 := fun _ => False) ha1 (by decide : I64 0) hg1) ?_
      rintro _ w3 hE rfl
      have H := H.ext hE
      refine WL.ev rfl rfl (Ev.pickT rfl rfl rfl) (WL.nil ?_)
      obtain rfl := sm hm1
      exact ⟨y2, rfl, ⟨rfl, rfl, rfl, rfl, rfl, trivial⟩, H.keep 2 1⟩
    · skip
      have hm1 := ifn h1 hm1
      refine WL.off rfl rfl rfl (WL.off rfl rfl rfl (WL.off rfl rfl rfl (WL.off rfl rfl rfl (WL.off rfl rfl rfl (WL.ev rfl rfl (Ev.pickF rfl rfl rfl) (WL.nil ?_))))))
      obtain rfl := sm hm1
      exact ⟨false, rfl, ⟨rfl, rfl, rfl, rfl, rfl, trivial⟩, H.keep 2 1⟩
  · rintro ρ' w4 ⟨s1, rfl, hag, H⟩
    obtain ⟨σ, rfl⟩ := ofL_ex hag
    obtain ⟨q2, hm2, hr⟩ := bd hr
    refine WL.cut 7 (fun ρ' w => ∃ (s2 : Bool), s2 = q2 ∧ agree ρ' [(1, .int .i64 a1), (2, .int .i64 a2), (3, .pointer (some ⟨b1, 0, none⟩)), (6, .bool false), (22, .bool s2)] ∧ HL F0 [] w0 w [Pr.R a0 [.int .i64 a0.N, .slice A1 n1 c1], Pr.S a0.Rows (.slice A1 n1 c1)] [It.B b1 60 [.int .i64 a0.N, .slice A1 n1 c1]]) ?_ ?_
    · skip
      refine WL.mvB rfl rfl rfl rfl (fun h2 => ?_) (fun h2 => ?_)
      · skip
        have hm2 := ifp h2 hm2
        refine WL.on rfl rfl (WL.ev rfl rfl (Ev.mv rfl rfl) (WL.on rfl rfl (WL.ev rfl rfl (Ev.fa rfl fo60_0 rfl) (WL.on rfl rfl (WL.ev rfl rfl (Ev.ld rfl ag3 rfl ((H.rB (i := 0) rfl).cell rfl)) (WL.on rfl rfl ?_))))))
        obtain ⟨hg2, hm2⟩ := grd_some hm2
        refine WL.ev rfl rfl (Ev.bin rfl rfl rfl (Bin.sub hg2)) (WL.on rfl rfl ?_)
        obtain ⟨y3, hy3, hm2⟩ := bd hm2
        refine WL.call rfl rfl rfl rfl rfl ok112 rfl (sl1In_ok hy3 (F0 := fun _ => False) ha2 (by decide : I64 0) hg2) ?_
        rintro _ w5 hE rfl
        have H := H.ext hE
        refine WL.ev rfl rfl (Ev.pickT rfl rfl rfl) (WL.nil ?_)
        obtain rfl := sm hm2
        exact ⟨y3, rfl, ⟨rfl, rfl, rfl, rfl, rfl, trivial⟩, H.keep 2 1⟩
      · skip
        have hm2 := ifn h2 hm2
        refine WL.off rfl rfl rfl (WL.off rfl rfl rfl (WL.off rfl rfl rfl (WL.off rfl rfl rfl (WL.off rfl rfl rfl (WL.ev rfl rfl (Ev.pickF rfl rfl rfl) (WL.nil ?_))))))
        obtain rfl := sm hm2
        exact ⟨false, rfl, ⟨rfl, rfl, rfl, rfl, rfl, trivial⟩, H.keep 2 1⟩
    · rintro ρ' w6 ⟨s2, rfl, hag, H⟩
      obtain ⟨σ, rfl⟩ := ofL_ex hag
      obtain ⟨q3, hm3, hr⟩ := bd hr
      refine WL.cut 12 (fun ρ' w => ∃ (s3 : Bool), s3 = q3 ∧ agree ρ' [(6, .bool false), (34, .bool s3)] ∧ HL F0 [] w0 w [Pr.R a0 [.int .i64 a0.N, .slice A1 n1 c1], Pr.S a0.Rows (.slice A1 n1 c1)] [It.B b1 60 [.int .i64 a0.N, .slice A1 n1 c1]]) ?_ ?_
      · skip
        refine WL.mvB rfl rfl rfl rfl (fun h3 => ?_) (fun h3 => ?_)
        · skip
          have hm3 := ifp h3 hm3
          refine WL.on rfl rfl (WL.ev rfl rfl (Ev.fa rfl fo60_1 rfl) (WL.on rfl rfl (WL.ev rfl rfl (Ev.ld rfl ag41 rfl ((H.rB (i := 0) rfl).cell rfl)) (WL.on rfl rfl (WL.ev rfl rfl (Ev.mv rfl rfl) (WL.on rfl rfl ?_))))))
          obtain ⟨hg3, hm3⟩ := grd_some hm3
          obtain ⟨x1, hx1, hm3⟩ := bd hm3
          obtain ⟨b2, ob2, cb2, hvb2, hI2, H⟩ := ixS_Int H (i := 1) rfl hx1
          refine WL.ev rfl rfl (Ev.ixV rfl el41 sz3 rfl hvb2 rfl hg3 (lt_of hx1)) (WL.on rfl rfl (WL.ev rfl rfl (Ev.ld rfl ag3 rfl ((H.rA (i := 2) rfl).cell0 rfl)) (WL.on rfl rfl (WL.ev rfl rfl (Ev.mv rfl rfl) (WL.on rfl rfl ?_)))))
          obtain ⟨hg4, hm3⟩ := grd_some hm3
          refine WL.ev rfl rfl (Ev.convUI rfl Try.underlying3 it130 rfl hg4 ha2.2) (WL.on rfl rfl ?_)
          obtain ⟨hg5, hm3⟩ := grd_some hm3
          refine WL.ev rfl rfl (Ev.bin rfl rfl rfl (Bin.shrI hg5.1 hg5.2.1 hg5.2.2)) (WL.on rfl rfl ?_)
          obtain ⟨hg6, hm3⟩ := grd_some hm3
          refine WL.ev rfl rfl (Ev.bin rfl rfl rfl (Bin.andI hg6.1 (i64_shr hI2).2 hg6.2 (by decide : I64 1).2)) (WL.on rfl rfl (WL.ev rfl rfl (Ev.bin rfl rfl rfl Bin.eql) (WL.ev rfl rfl (Ev.pickT rfl rfl rfl) (WL.nil ?_))))
          obtain rfl := sm hm3
          exact ⟨(decide (((((x1.toNat >>> a2.toNat : Nat) : Int).toNat &&& (1 : Int).toNat : Nat) : Int) = 1)), rfl, ⟨rfl, rfl, trivial⟩, H.keep 2 1⟩
        · skip
          have hm3 := ifn h3 hm3
          refine WL.off rfl rfl rfl (WL.off rfl rfl rfl (WL.off rfl rfl rfl (WL.off rfl rfl rfl (WL.off rfl rfl rfl (WL.off rfl rfl rfl (WL.off rfl rfl rfl (WL.off rfl rfl rfl (WL.off rfl rfl rfl (WL.off rfl rfl rfl (WL.ev rfl rfl (Ev.pickF rfl rfl rfl) (WL.nil ?_)))))))))))
          obtain rfl := sm hm3
          exact ⟨false, rfl, ⟨rfl, rfl, trivial⟩, H.keep 2 1⟩
      · rintro ρ' w7 ⟨s3, rfl, hag, H⟩
        obtain ⟨σ, rfl⟩ := ofL_ex hag
        refine WL.ev rfl rfl (Ev.as rfl rfl) (WL.nil ?_)
        refine CW.ret ?_
        obtain rfl := sm hr
        exact ⟨_, res1 rfl rfl rfl, H.ext0, rfl⟩

noncomputable def sl22Args_m (a0 : (List UInt8)) : Option (Relation × Int × Int) :=
  (sl1New_m a0).bind fun y1 =>
  (sl22Draw_m y1).bind fun (y2, z1) =>
  grd (I64 (y2.N + 2)) <|
  (sl1Below_m (y2.N + 2) (⟨y1.b, z1.i, z1.h⟩ : l1Cur)).bind fun (y3, z2) =>
  grd (I64 (y3 - 1)) <|
  grd (I64 (y2.N + 1)) <|
  (sl1Below_m (y2.N + 1) (⟨y1.b, z2.i, z2.h⟩ : l1Cur)).bind fun (y4, z3) =>
  some (y2, (y3 - 1), y4)
theorem sl22Args_ok {a0 : (List UInt8)} {r : (Relation × Int × Int)} (hr : sl22Args_m a0 = some r) {F0 : Nat → Prop} {w0 : World} {z0 : Value} (ha0 : rdS F0 w0 a0 z0) :
    Ret Try.prog 114 #[z0] w0 (fun _ => False) fun v w => ∃ A0 : Option Addr, ∃ n0 c0 : Nat, v = .tuple #[.agg #[.int .i64 r.1.N, (.slice A0 n0 c0)], .int .i64 r.2.1, .int .i64 r.2.2] ∧ I64 r.1.N ∧ I64 r.2.1 ∧ I64 r.2.2 ∧ HL F0 [] w0 w [] [It.O 3 r.1.Rows (.slice A0 n0 c0)] := by
  obtain ⟨A0', n0', c0', rfl⟩ := ha0.form3
  have H := (HL.start F0 w0).argS ha0
  refine enter Try.func114 rfl rfl rfl ?_
  refine CW.seq (CW.reg ?_)
  refine WL.allocH rfl rfl rfl ze60 H fun b1 w1 H => ?_
  refine WL.ev rfl rfl (Ev.as rfl rfl) (WL.ev rfl rfl (Ev.as rfl rfl) (WL.nil ?_))
  refine CW.seq (CW.reg ?_)
  refine WL.ev rfl rfl (Ev.mv rfl rfl) ?_
  obtain ⟨y1, hy1, hr⟩ := bd hr
  obtain ⟨F, hF, hcl⟩ := H.call
  refine WL.call rfl rfl rfl rfl rfl ok83 rfl (sl1New_ok hy1 (hF.get (i := 0) rfl)) ?_
  rintro _ w2 hE ⟨b2, A1, n1, c1, rfl, hI1, hI2, H'⟩
  have H : HL F0 [] w0 w2 [Pr.S a0 (.slice A0' n0' c0'), Pr.S y1.b (.slice A1 n1 c1)] [It.B b1 60 [.int .i64 0, .slice none 0 0], It.B b2 159 [.slice A1 n1 c1, .int .i64 y1.i, .int .i64 y1.h]] := hcl H'
  refine WL.ev rfl rfl (Ev.as rfl rfl) (WL.nil ?_)
  refine CW.seq (CW.reg ?_)
  refine WL.ev rfl rfl (Ev.mv rfl rfl) ?_
  obtain ⟨⟨y2, z1⟩, hy2, hr⟩ := bd hr
  obtain ⟨F', M', hfF, hoF, hcM⟩ := H.callN [false, true] ⟨noB, trivial⟩
  obtain ⟨H', hcN⟩ := hcM (ps := [Pr.S y1.b (.slice A1 n1 c1)]) ⟨hfF.get (i := 1) rfl, trivial⟩
  refine WL.call rfl rfl rfl rfl rfl ok105 rfl (sl22Draw_ok hy2 hI1 hI2 H') ?_
  rintro _ w3 hE ⟨A2, n2, c2, rfl, hI3, hI4, hI5, H'⟩
  have H := hcN 1 H' rfl ⟨fun _ _ _ _ _ h => h, ⟨fun _ _ _ _ _ h => h, trivial⟩⟩
  refine WL.allocH rfl rfl rfl ze60 H fun b3 w4 H => ?_
  refine WL.stB (i := 3) rfl rfl rfl sz60 rfl rfl rfl rfl (all1 rfl (all1 rfl all0)) H rfl rfl rfl fun w5 H => ?_
  refine WL.nil ?_
  obtain ⟨hg1, hr⟩ := grd_some hr
  obtain ⟨⟨y3, z2⟩, hy3, hr⟩ := bd hr
  obtain ⟨F', hfF, hoF, hcF⟩ := H.seeB (i := 1) rfl
  obtain ⟨_, _, hch, _, hI6, hI7, hI8, hh⟩ := (sl1Below_ok hy3 hg1 hI4 hI5 (hcF (ps := [Pr.S y1.b (.slice A1 n1 c1)]) ⟨hfF.get (i := 1) rfl, trivial⟩)).get2
  have hA := HL.afterB hh trivial
  have Hc1 := H.turnB (i := 1) rfl (RW.ofB hA.1) hA.2.1
  obtain ⟨hg2, hr⟩ := grd_some hr
  obtain ⟨hg3, hr⟩ := grd_some hr
  obtain ⟨⟨y4, z3⟩, hy4, hr⟩ := bd hr
  obtain ⟨F', hfF, hoF, hcF⟩ := Hc1.seeB (i := 1) rfl
  obtain ⟨_, _, hch, _, hI9, hI10, hI11, hh⟩ := (sl1Below_ok hy4 hg3 hI7 hI8 (hcF (ps := [Pr.S y1.b (.slice A1 n1 c1)]) ⟨hfF.get (i := 1) rfl, trivial⟩)).get2
  have hA := HL.afterB hh trivial
  have Hc2 := Hc1.turnB (i := 1) rfl (RW.ofB hA.1) hA.2.1
  have hbl := (H.rB (i := 0) rfl).lt
  have hbl2 := (H.rB (i := 1) rfl).lt
  have hX := H.know2 (css := [[.int .i64 0, .slice none 0 0], [.int .i64 0, .slice none 0 0], [.int .i64 0, .slice none 0 0], [.int .i64 y2.N, .slice A2 n2 c2]]) (css2 := [[.slice A1 n1 c1, .int .i64 z1.i, .int .i64 z1.h], [.slice A1 n1 c1, .int .i64 z2.i, .int .i64 z2.h], [.slice A1 n1 c1, .int .i64 z3.i, .int .i64 z3.h], [.slice A1 n1 c1, .int .i64 z3.i, .int .i64 z3.h]]) [true, true, false, false] rfl
  refine CW.seq (CW.any2 13 (fun ρ => [.fix (.agg #[.int .i64 y2.N, .slice A2 n2 c2]), .fix (.pointer (some ⟨b2, 0, none⟩)), .fix (.pointer (some ⟨b3, 0 + 0, none⟩)), .fix (.int .i64 y2.N), .fix (.int .i64 (y2.N + 2)), .fix (.int .i64 y3), .fix (.int .i64 (y3 - 1)), .fix (.pointer (some ⟨b2, 0, none⟩)), .fix (.pointer (some ⟨b3, 0 + 0, none⟩)), .fix (.int .i64 y2.N), .fix (.int .i64 (y2.N + 1)), .fix (.int .i64 y4), .wr 2 11 (fun _ _ _ _ => True)]) [[], [], [], [], [], [], [], [], [], [], [], [], [2, 11]] (fun q => q = b1 ∨ q = b2) (Th2 b1 60 [[.int .i64 0, .slice none 0 0], [.int .i64 0, .slice none 0 0], [.int .i64 0, .slice none 0 0], [.int .i64 y2.N, .slice A2 n2 c2]] b2 159 [[.slice A1 n1 c1, .int .i64 z1.i, .int .i64 z1.h], [.slice A1 n1 c1, .int .i64 z2.i, .int .i64 z2.h], [.slice A1 n1 c1, .int .i64 z3.i, .int .i64 z3.h], [.slice A1 n1 c1, .int .i64 z3.i, .int .i64 z3.h]]) [5, 11, 12] [] (fun q e => e.elim (fun e => e ▸ hbl) fun e => e ▸ hbl2) hmix (by kernel_rfl) rfl ⟨trivial, trivial, trivial, trivial, trivial, trivial, trivial, trivial, trivial, trivial, trivial, trivial, fun _ _ _ _ _ _ _ _ _ _ => trivial, trivial⟩ ⟨⟨_, rfl, H.rB (i := 0) rfl⟩, ⟨_, rfl, H.rB (i := 1) rfl⟩⟩ (Th2.mono hbl hbl2) ?_)
  refine LL2.fxG hX rfl rfl rfl rfl rfl (fun _ ⟨_, _, hq, _⟩ hK => Ev.lda rfl ag60 sz60 rfl (At.blk (hq.rB (i := 3) rfl)) rfl) ?_
  refine LL2.fxG hX rfl rfl rfl rfl rfl (fun _ ⟨_, _, hq, _⟩ hK => Ev.mv rfl rfl) ?_
  refine LL2.fxG hX rfl rfl rfl rfl rfl (fun _ ⟨_, _, hq, _⟩ hK => Ev.fa rfl fo60_0 rfl) ?_
  refine LL2.fxG hX rfl rfl rfl rfl rfl (fun _ ⟨_, _, hq, _⟩ hK => Ev.ld rfl ag3 rfl ((hq.rB (i := 3) rfl).cell rfl)) ?_
  refine LL2.fxG hX rfl rfl rfl rfl rfl (fun _ ⟨_, _, hq, _⟩ hK => Ev.bin rfl rfl rfl (Bin.add hg1)) ?_
  refine LL2.chF (H.chX2 [true, true, false, false] rfl rfl rfl) rfl rfl rfl rfl (fun wq hq hK => ?_) ?_
  · obtain ⟨F', hfF, hoF, hcF⟩ := hq.seeB (i := 1) rfl
    refine OpX.call rfl rfl rfl rfl ok86 rfl (sl1Below_ok hy3 hg1 hI4 hI5 (hcF (ps := [Pr.S y1.b (.slice A1 n1 c1)]) ⟨hfF.get (i := 1) rfl, trivial⟩)) ?_
    rintro _ w hE ⟨rfl, _, _, _, hh⟩
    have hA := HL.afterB hh trivial
    exact ⟨(hA.1.mono fun _ _ h => .inr h), ⟨⟨_, rfl, Blk.keep hA.1 (hq.rB (i := 0) rfl) (hq.neB (i := 0) (j := 1) rfl rfl (by decide))⟩, ⟨_, rfl, hA.2.1⟩⟩, rfl⟩
  refine LL2.fxG hX rfl rfl rfl rfl rfl (fun _ ⟨_, _, hq, _⟩ hK => Ev.bin rfl rfl rfl (Bin.sub hg2)) ?_
  refine LL2.fxG hX rfl rfl rfl rfl rfl (fun _ ⟨_, _, hq, _⟩ hK => Ev.mv rfl rfl) ?_
  refine LL2.fxG hX rfl rfl rfl rfl rfl (fun _ ⟨_, _, hq, _⟩ hK => Ev.fa rfl fo60_0 rfl) ?_
  refine LL2.fxG hX rfl rfl rfl rfl rfl (fun _ ⟨_, _, hq, _⟩ hK => Ev.ld rfl ag3 rfl ((hq.rB (i := 3) rfl).cell rfl)) ?_
  refine LL2.fxG hX rfl rfl rfl rfl rfl (fun _ ⟨_, _, hq, _⟩ hK => Ev.bin rfl rfl rfl (Bin.add hg3)) ?_
  refine LL2.chF (H.chX2 [true, true, false, false] rfl rfl rfl) rfl rfl rfl rfl (fun wq hq hK => ?_) ?_
  · obtain ⟨F', hfF, hoF, hcF⟩ := hq.seeB (i := 1) rfl
    refine OpX.call rfl rfl rfl rfl ok86 rfl (sl1Below_ok hy4 hg3 hI7 hI8 (hcF (ps := [Pr.S y1.b (.slice A1 n1 c1)]) ⟨hfF.get (i := 1) rfl, trivial⟩)) ?_
    rintro _ w hE ⟨rfl, _, _, _, hh⟩
    have hA := HL.afterB hh trivial
    exact ⟨(hA.1.mono fun _ _ h => .inr h), ⟨⟨_, rfl, Blk.keep hA.1 (hq.rB (i := 0) rfl) (hq.neB (i := 0) (j := 1) rfl rfl (by decide))⟩, ⟨_, rfl, hA.2.1⟩⟩, rfl⟩
  refine LL2.chS (H.chX2 [true, true, false, false] rfl rfl rfl) rfl rfl rfl rfl (fun wq hq hK => ?_) ?_
  · refine OpX.storeB rfl rfl sz60 rfl rfl rfl rfl (all1 rfl (all1 rfl all0)) (hq.rB (i := 0) rfl) rfl rfl fun _ w hc hB => ?_
    exact ⟨(hc.mono fun _ _ h => .inl h), ⟨⟨_, rfl, hB⟩, ⟨_, rfl, Blk.keep hc (hq.rB (i := 1) rfl) (hq.neB (i := 1) (j := 0) rfl rfl (by decide))⟩⟩⟩
  intro w6 hE hTh hK hap hbd
  have H : HL F0 [] w0 w6 [Pr.S a0 (.slice A0' n0' c0'), Pr.S y1.b (.slice A1 n1 c1)] [It.B b1 60 [.int .i64 y2.N, .slice A2 n2 c2], It.B b2 159 [.slice A1 n1 c1, .int .i64 z3.i, .int .i64 z3.h], It.O 3 y2.Rows (.slice A2 n2 c2), It.B b3 60 [.int .i64 y2.N, .slice A2 n2 c2]] := H.turnAdd2 [true, true, false, false] rfl hE (ThB.get rfl hTh.1) (ThB.get rfl hTh.2) NewI.nil trivial (fun _ h => h.elim)
  refine WL.ev rfl rfl (Ev.as rfl rfl) (WL.ev rfl rfl (Ev.as rfl rfl) (WL.nil ?_))
  refine CW.ret ?_
  obtain rfl := sm hr
  exact ⟨_, res_ctt rfl ag60 sz60 rfl rfl (At.blk (H.rB (i := 0) rfl)) rfl rfl rfl rfl rfl, H.ext0, _, _, _, rfl, hI3, hg2, hI9, H.outM (fr' := []) [false, false, true, false] fun _ _ => trivial⟩

noncomputable def sDrawAddPair_m (a0 : (List UInt8)) : Option (Relation × Int × Int) :=
  (sl22Args_m a0).bind fun (y1, y2, y3) =>
  some (y1, y2, y3)
theorem sDrawAddPair_ok {a0 : (List UInt8)} {r : (Relation × Int × Int)} (hr : sDrawAddPair_m a0 = some r) {F0 : Nat → Prop} {w0 : World} {z0 : Value} (ha0 : rdS F0 w0 a0 z0) :
    Ret Try.prog 45 #[z0] w0 (fun _ => False) fun v w => ∃ A0 : Option Addr, ∃ n0 c0 : Nat, v = .tuple #[.agg #[.int .i64 r.1.N, (.slice A0 n0 c0)], .int .i64 r.2.1, .int .i64 r.2.2] ∧ I64 r.1.N ∧ I64 r.2.1 ∧ I64 r.2.2 ∧ HL F0 [] w0 w [] [It.O 3 r.1.Rows (.slice A0 n0 c0)] := by
  obtain ⟨A0', n0', c0', rfl⟩ := ha0.form3
  have H := (HL.start F0 w0).argS ha0
  refine enter Try.func45 rfl rfl rfl ?_
  refine CW.seq (CW.reg ?_)
  refine WL.allocH rfl rfl rfl ze60 H fun b1 w1 H => ?_
  refine WL.ev rfl rfl (Ev.as rfl rfl) (WL.ev rfl rfl (Ev.as rfl rfl) (WL.nil ?_))
  refine CW.seq (CW.reg ?_)
  refine WL.ev rfl rfl (Ev.mv rfl rfl) ?_
  obtain ⟨⟨y1, y2, y3⟩, hy1, hr⟩ := bd hr
  refine WL.call rfl rfl rfl rfl rfl ok114 rfl (sl22Args_ok hy1 (H.rS (i := 0) rfl)) ?_
  rintro _ w2 hE ⟨A1, n1, c1, rfl, hI1, hI2, hI3, H'⟩
  have H := H.callA H' ⟨fun _ _ _ _ _ h => h, trivial⟩
  refine WL.ev rfl rfl (Ev.ex rfl rfl rfl) (WL.ev rfl rfl (Ev.ex rfl rfl rfl) (WL.ev rfl rfl (Ev.ex rfl rfl rfl) ?_))
  refine WL.stB (i := 0) rfl rfl rfl sz60 rfl rfl rfl rfl (all1 rfl (all1 rfl all0)) H rfl rfl rfl fun w3 H => ?_
  refine WL.ev rfl rfl (Ev.as rfl rfl) (WL.ev rfl rfl (Ev.as rfl rfl) (WL.nil ?_))
  refine CW.ret ?_
  obtain rfl := sm hr
  exact ⟨_, res_ctt rfl ag60 sz60 rfl rfl (At.blk (H.rB (i := 0) rfl)) rfl rfl rfl rfl rfl, H.ext0, _, _, _, rfl, hI1, hI2, hI3, H.outM (fr' := []) [false, true] fun _ _ => trivial⟩

noncomputable def iAddPair_m (a0 : Relation) (a1 : Int) (a2 : Int) : Option Relation :=
  (icopyRelation_m a0).bind fun y1 =>
  (iIsValidRelation_m a0).bind fun y2 =>
  (
  if y2 = true then (
  grd (I64 (a0.N - 1)) <|
  (iwithin_m a1 0 (a0.N - 1)).bind fun y3 =>
  some y3
  ) else (
  some false
  )
  ).bind fun s1 =>
  (
  if s1 = true then (
  grd (I64 (a0.N - 1)) <|
  (iwithin_m a2 0 (a0.N - 1)).bind fun y4 =>
  some y4
  ) else (
  some false
  )
  ).bind fun s2 =>
  if s2 = true then (
  grd (0 ≤ a1) <|
  (y1.Rows[a1.toNat]?).bind fun x1 =>
  grd (0 ≤ a2) <|
  grd (0 ≤ a2 ∧ a2 < 63) <|
  grd (0 ≤ x1 ∧ 0 ≤ ((2 ^ a2.toNat : Nat) : Int)) <|
  some (⟨y1.N, (List.set y1.Rows a1.toNat ((x1.toNat ||| ((2 ^ a2.toNat : Nat) : Int).toNat : Nat) : Int))⟩ : Relation)
  ) else (
  some y1
  )
theorem iAddPair_ok {a0 : Relation} {a1 : Int} {a2 : Int} {r : Relation} (hr : iAddPair_m a0 a1 a2 = some r) {F0 : Nat → Prop} {w0 : World} {ca0 : List Value} (ha0 : rd F0 w0 a0 ca0) (ha1 : I64 a1) (ha2 : I64 a2) :
    Ret Try.prog 46 #[.agg ca0.toArray, .int .i64 a1, .int .i64 a2] w0 (fun _ => False) fun v w => ∃ A0 : Option Addr, ∃ n0 c0 : Nat, v = .agg #[.int .i64 r.N, (.slice A0 n0 c0)] ∧ I64 r.N ∧ HL F0 [] w0 w [] [It.O 3 r.Rows (.slice A0 n0 c0)] := by
  have H := (HL.start F0 w0).argR ha0
  obtain ⟨A1, n1, c1, rfl, hI1, H⟩ := op_Relation H (i := 0) rfl
  refine enter Try.func46 rfl rfl rfl ?_
  refine CW.seq (CW.reg ?_)
  refine WL.boxH rfl rfl rfl rfl rfl H fun b1 w1 H => ?_
  refine WL.allocH rfl rfl rfl ze60 H fun b2 w2 H => ?_
  refine WL.nil ?_
  refine CW.seq (CW.reg ?_)
  refine WL.ev rfl rfl (Ev.lda rfl ag60 sz60 rfl (At.blk (H.rB (i := 0) rfl)) rfl) ?_
  obtain ⟨y1, hy1, hr⟩ := bd hr
  refine WL.call rfl rfl rfl rfl rfl ok106 rfl (icopyRelation_ok hy1 ⟨_, rfl, hI1, (H.rS (i := 1) rfl)⟩) ?_
  rintro _ w3 hE ⟨A2, n2, c2, rfl, hI2, H'⟩
  have H := H.callA H' ⟨fun _ _ _ _ _ h => h, trivial⟩
  refine WL.allocH rfl rfl rfl ze60 H fun b3 w4 H => ?_
  refine WL.stB (i := 3) rfl rfl rfl sz60 rfl rfl rfl rfl (all1 rfl (all1 rfl all0)) H rfl rfl rfl fun w5 H => ?_
  refine WL.nil ?_
  refine CW.seq (CW.seq (CW.reg ?_))
  refine WL.ev rfl rfl (Ev.lda rfl ag60 sz60 rfl (At.blk (H.rB (i := 0) rfl)) rfl) ?_
  obtain ⟨y2, hy2, hr⟩ := bd hr
  refine WL.call rfl rfl rfl rfl rfl ok39 rfl (iIsValidRelation_ok hy2 ⟨_, rfl, hI1, (H.rS (i := 1) rfl)⟩) ?_
  rintro _ w6 hE rfl
  have H := H.ext hE
  obtain ⟨q1, hm1, hr⟩ := bd hr
  refine WL.cut 7 (fun ρ' w => ∃ (s1 : Bool), s1 = q1 ∧ agree ρ' [(1, .int .i64 a1), (2, .int .i64 a2), (3, .pointer (some ⟨b1, 0, none⟩)), (6, .pointer (some ⟨b2, 0, none⟩)), (7, .pointer (some ⟨b3, 0, none⟩)), (18, .bool s1)] ∧ HL F0 [] w0 w [Pr.R a0 [.int .i64 a0.N, .slice A1 n1 c1], Pr.S a0.Rows (.slice A1 n1 c1)] [It.B b1 60 [.int .i64 a0.N, .slice A1 n1 c1], It.B b2 60 [.int .i64 0, .slice none 0 0], It.O 3 y1.Rows (.slice A2 n2 c2), It.B b3 60 [.int .i64 y1.N, .slice A2 n2 c2]]) ?_ ?_
  · skip
    refine WL.mvB rfl rfl rfl rfl (fun h1 => ?_) (fun h1 => ?_)
    · skip
      have hm1 := ifp h1 hm1
      refine WL.on rfl rfl (WL.ev rfl rfl (Ev.mv rfl rfl) (WL.on rfl rfl (WL.ev rfl rfl (Ev.fa rfl fo60_0 rfl) (WL.on rfl rfl (WL.ev rfl rfl (Ev.ld rfl ag3 rfl ((H.rB (i := 0) rfl).cell rfl)) (WL.on rfl rfl ?_))))))
      obtain ⟨hg1, hm1⟩ := grd_some hm1
      refine WL.ev rfl rfl (Ev.bin rfl rfl rfl (Bin.sub hg1)) (WL.on rfl rfl ?_)
      obtain ⟨y3, hy3, hm1⟩ := bd hm1
      refine WL.call rfl rfl rfl rfl rfl ok109 rfl (iwithin_ok hy3 (F0 := fun _ => False) ha1 (by decide : I64 0) hg1) ?_
      rintro _ w7 hE rfl
      have H := H.ext hE
      refine WL.ev rfl rfl (Ev.pickT rfl rfl rfl) (WL.nil ?_)
      obtain rfl := sm hm1
      exact ⟨y3, rfl, ⟨rfl, rfl, rfl, rfl, rfl, rfl, trivial⟩, H.keep 2 4⟩
    · skip
      have hm1 := ifn h1 hm1
      refine WL.off rfl rfl rfl (WL.off rfl rfl rfl (WL.off rfl rfl rfl (WL.off rfl rfl rfl (WL.off rfl rfl rfl (WL.ev rfl rfl (Ev.pickF rfl rfl rfl) (WL.nil ?_))))))
      obtain rfl := sm hm1
      exact ⟨false, rfl, ⟨rfl, rfl, rfl, rfl, rfl, rfl, trivial⟩, H.keep 2 4⟩
  · rintro ρ' w8 ⟨s1, rfl, hag, H⟩
    obtain ⟨σ, rfl⟩ := ofL_ex hag
    obtain ⟨q2, hm2, hr⟩ := bd hr
    refine WL.cut 7 (fun ρ' w => ∃ (s2 : Bool), s2 = q2 ∧ agree ρ' [(1, .int .i64 a1), (2, .int .i64 a2), (6, .pointer (some ⟨b2, 0, none⟩)), (7, .pointer (some ⟨b3, 0, none⟩)), (25, .bool s2)] ∧ HL F0 [] w0 w [Pr.R a0 [.int .i64 a0.N, .slice A1 n1 c1], Pr.S a0.Rows (.slice A1 n1 c1)] [It.B b1 60 [.int .i64 a0.N, .slice A1 n1 c1], It.B b2 60 [.int .i64 0, .slice none 0 0], It.O 3 y1.Rows (.slice A2 n2 c2), It.B b3 60 [.int .i64 y1.N, .slice A2 n2 c2]]) ?_ ?_
    · skip
      refine WL.mvB rfl rfl rfl rfl (fun h2 => ?_) (fun h2 => ?_)
      · skip
        have hm2 := ifp h2 hm2
        refine WL.on rfl rfl (WL.ev rfl rfl (Ev.mv rfl rfl) (WL.on rfl rfl (WL.ev rfl rfl (Ev.fa rfl fo60_0 rfl) (WL.on rfl rfl (WL.ev rfl rfl (Ev.ld rfl ag3 rfl ((H.rB (i := 0) rfl).cell rfl)) (WL.on rfl rfl ?_))))))
        obtain ⟨hg2, hm2⟩ := grd_some hm2
        refine WL.ev rfl rfl (Ev.bin rfl rfl rfl (Bin.sub hg2)) (WL.on rfl rfl ?_)
        obtain ⟨y4, hy4, hm2⟩ := bd hm2
        refine WL.call rfl rfl rfl rfl rfl ok109 rfl (iwithin_ok hy4 (F0 := fun _ => False) ha2 (by decide : I64 0) hg2) ?_
        rintro _ w9 hE rfl
        have H := H.ext hE
        refine WL.ev rfl rfl (Ev.pickT rfl rfl rfl) (WL.nil ?_)
        obtain rfl := sm hm2
        exact ⟨y4, rfl, ⟨rfl, rfl, rfl, rfl, rfl, trivial⟩, H.keep 2 4⟩
      · skip
        have hm2 := ifn h2 hm2
        refine WL.off rfl rfl rfl (WL.off rfl rfl rfl (WL.off rfl rfl rfl (WL.off rfl rfl rfl (WL.off rfl rfl rfl (WL.ev rfl rfl (Ev.pickF rfl rfl rfl) (WL.nil ?_))))))
        obtain rfl := sm hm2
        exact ⟨false, rfl, ⟨rfl, rfl, rfl, rfl, rfl, trivial⟩, H.keep 2 4⟩
    · rintro ρ' w10 ⟨s2, rfl, hag, H⟩
      obtain ⟨σ, rfl⟩ := ofL_ex hag
      refine WL.nil ?_
      refine CW.condB rfl (fun h3 => ?_) (fun h3 => ?_)
      · skip
        have hr := ifp h3 hr
        refine CW.reg ?_
        refine WL.ev rfl rfl (Ev.fa rfl fo60_1 rfl) (WL.ev rfl rfl (Ev.ld rfl ag41 rfl ((H.rB (i := 3) rfl).cell rfl)) (WL.ev rfl rfl (Ev.mv rfl rfl) ?_))
        obtain ⟨hg3, hr⟩ := grd_some hr
        obtain ⟨x1, hx1, hr⟩ := bd hr
        obtain ⟨b4, cb4, hvb4, hbb4⟩ := H.ptO (i := 2) rfl hx1
        refine WL.ev rfl rfl (Ev.ixV rfl el41 sz3 rfl hvb4 rfl hg3 (lt_of hx1)) ?_
        obtain ⟨hA1, hI3, H⟩ := elO_Int H (i := 2) rfl hx1 hbb4
        refine WL.ev rfl rfl (Ev.ld rfl ag3 rfl (hA1.cell0 rfl)) (WL.ev rfl rfl (Ev.mv rfl rfl) ?_)
        obtain ⟨hg4, hr⟩ := grd_some hr
        refine WL.ev rfl rfl (Ev.convUI rfl Try.underlying3 it130 rfl hg4 ha2.2) ?_
        obtain ⟨hg5, hr⟩ := grd_some hr
        refine WL.ev rfl rfl (Ev.bin rfl rfl rfl (Bin.shlI hg5.1 hg5.2)) ?_
        obtain ⟨hg6, hr⟩ := grd_some hr
        refine WL.ev rfl rfl (Ev.bin rfl rfl rfl (Bin.orI hg6.1 hI3.2 hg6.2 (i64_pow hg5.2).2)) ?_
        obtain ⟨b5, cb5, hvb5, hbb5⟩ := H.ptO (i := 2) rfl hx1
        refine WL.ev rfl rfl (Ev.ixV rfl el41 sz3 rfl hvb5 rfl hg3 (lt_of hx1)) ?_
        refine WL.stOf (i := 2) (z := ((x1.toNat ||| ((2 ^ a2.toNat : Nat) : Int).toNat : Nat) : Int)) rfl rfl rfl sz3 rfl rfl rfl (fun _ => ⟨rfl, rfl, (i64_or hg6 hI3 (i64_pow hg5.2))⟩) H rfl hbb5 (by simpa using lt_of hx1) fun w11 H => ?_
        refine WL.nil ?_
        refine CW.seq (CW.reg ?_)
        refine WL.ev rfl rfl (Ev.lda rfl ag60 sz60 rfl (At.blk (H.rB (i := 3) rfl)) rfl) ?_
        refine WL.stB (i := 1) rfl rfl rfl sz60 rfl rfl rfl rfl (all1 rfl (all1 rfl all0)) H rfl rfl rfl fun w12 H => ?_
        refine WL.nil ?_
        refine CW.ret ?_
        obtain rfl := sm hr
        exact ⟨_, resC rfl ag60 sz60 rfl rfl (At.blk (H.rB (i := 1) rfl)) rfl, H.ext0, _, _, _, rfl, hI2, H.outM (fr' := []) [false, false, true, false] fun _ _ => trivial⟩
      · skip
        have hr := ifn h3 hr
        refine CW.skip ?_
        refine CW.seq (CW.reg ?_)
        refine WL.ev rfl rfl (Ev.lda rfl ag60 sz60 rfl (At.blk (H.rB (i := 3) rfl)) rfl) ?_
        refine WL.stB (i := 1) rfl rfl rfl sz60 rfl rfl rfl rfl (all1 rfl (all1 rfl all0)) H rfl rfl rfl fun w13 H => ?_
        refine WL.nil ?_
        refine CW.ret ?_
        obtain rfl := sm hr
        exact ⟨_, resC rfl ag60 sz60 rfl rfl (At.blk (H.rB (i := 1) rfl)) rfl, H.ext0, _, _, _, rfl, hI2, H.outM (fr' := []) [false, false, true, false] fun _ _ => trivial⟩

noncomputable def sl1Once_m (a1 : Int) (o0 : l1Cur) : Option (Bool × l1Cur) :=
  (sl1Below_m a1 o0).bind fun (y1, z1) =>
  some (decide (y1 = 0), (⟨o0.b, z1.i, z1.h⟩ : l1Cur))
theorem sl1Once_ok {a1 : Int} {o0 : l1Cur} {r : (Bool × l1Cur)} (hr : sl1Once_m a1 o0 = some r) {F0 : Nat → Prop} {M : List Nat} {w0 : World} {bo0 : Nat} {Ao0_0 : Option Addr} {no0_0 co0_0 : Nat} (hIa1 : I64 a1) (hIo0_1 : I64 o0.i) (hIo0_2 : I64 o0.h) (H : HL F0 M w0 w0 [Pr.S o0.b (.slice Ao0_0 no0_0 co0_0)] [It.B bo0 159 [.slice Ao0_0 no0_0 co0_0, .int .i64 o0.i, .int .i64 o0.h]]) :
    Ret Try.prog 97 #[.pointer (some ⟨bo0, 0, none⟩), .int .i64 a1] w0 (· ∈ M) fun v w => v = .bool r.1 ∧ I64 r.2.i ∧ I64 r.2.h ∧ HL F0 M w0 w [] [It.B bo0 159 [.slice Ao0_0 no0_0 co0_0, .int .i64 r.2.i, .int .i64 r.2.h]] := by
  refine enter Try.func97 rfl rfl rfl ?_
  refine CW.seq (CW.reg ?_)
  refine WL.ev rfl rfl (Ev.as rfl rfl) (WL.nil ?_)
  refine CW.seq (CW.reg ?_)
  refine WL.ev rfl rfl (Ev.mv rfl rfl) (WL.ev rfl rfl (Ev.mv rfl rfl) ?_)
  obtain ⟨⟨y1, z1⟩, hy1, hr⟩ := bd hr
  obtain ⟨F', M', hfF, hoF, hcM⟩ := H.callN [true] ⟨noB, trivial⟩
  obtain ⟨H', hcN⟩ := hcM (ps := [Pr.S o0.b (.slice Ao0_0 no0_0 co0_0)]) ⟨hfF.get (i := 0) rfl, trivial⟩
  refine WL.call rfl rfl rfl rfl rfl ok86 rfl (sl1Below_ok hy1 hIa1 hIo0_1 hIo0_2 H') ?_
  rintro _ w1 hE ⟨rfl, hI1, hI2, hI3, H'⟩
  have H := hcN 1 H' rfl ⟨fun _ _ _ _ _ h => h, trivial⟩
  refine WL.ev rfl rfl (Ev.bin rfl rfl rfl Bin.eql) (WL.ev rfl rfl (Ev.as rfl rfl) (WL.nil ?_))
  refine CW.ret ?_
  obtain rfl := sm hr
  exact ⟨_, res1 rfl rfl rfl, H.chg, rfl, hI2, hI3, H.outM (fr' := []) [true] fun _ _ => trivial⟩

noncomputable def sDrawUnionRelation_L1 (y1 : l1Cur) (y2 : Relation) : Nat → ((List Int) × Int × Int × Int) → Option ((List Int) × Int × Int × Int) := fun k1 (s1, s2, s3, s4) => 
  (sl1Below_m y2.N (⟨y1.b, s2, s3⟩ : l1Cur)).bind fun (y6, z5) =>
  (sl1Below_m y2.N (⟨y1.b, z5.i, z5.h⟩ : l1Cur)).bind fun (y7, z6) =>
  (sAddPair_m (⟨s4, s1⟩ : Relation) y6 y7).bind fun y8 =>
  some (y8.Rows, z6.i, z6.h, y8.N)
noncomputable def sDrawUnionRelation_m (a0 : (List UInt8)) : Option (Relation × Relation) :=
  (sl1New_m a0).bind fun y1 =>
  (sl22Draw_m y1).bind fun (y2, z1) =>
  (sl22Draw_m (⟨y1.b, z1.i, z1.h⟩ : l1Cur)).bind fun (y3, z2) =>
  (sl1Once_m 4 (⟨y1.b, z2.i, z2.h⟩ : l1Cur)).bind fun (y4, z3) =>
  if y4 = true then (
  some (y2, y3)
  ) else (
  if y2.N = (y2.Rows.length : Int) then (
  (sEmptyRelation_m y2.N).bind fun y5 =>
  (eachN (sDrawUnionRelation_L1 y1 y2) 0 (y2.N.toNat) (y5.Rows, z3.i, z3.h, y5.N)).bind fun (s1, s2, s3, s4) =>
  some (y2, (⟨s4, s1⟩ : Relation))
  ) else (
  some (y2, y3)
  )
  )
theorem sDrawUnionRelation_ok {a0 : (List UInt8)} {r : (Relation × Relation)} (hr : sDrawUnionRelation_m a0 = some r) {F0 : Nat → Prop} {w0 : World} {z0 : Value} (ha0 : rdS F0 w0 a0 z0) :
    Ret Try.prog 48 #[z0] w0 (fun _ => False) fun v w => ∃ A0 : Option Addr, ∃ n0 c0 : Nat, ∃ A1 : Option Addr, ∃ n1 c1 : Nat, v = .tuple #[.agg #[.int .i64 r.1.N, (.slice A0 n0 c0)], .agg #[.int .i64 r.2.N, (.slice A1 n1 c1)]] ∧ I64 r.1.N ∧ I64 r.2.N ∧ HL F0 [] w0 w [] [It.O 3 r.1.Rows (.slice A0 n0 c0), It.O 3 r.2.Rows (.slice A1 n1 c1)] := by
  obtain ⟨A0', n0', c0', rfl⟩ := ha0.form3
  have H := (HL.start F0 w0).argS ha0
  refine enter Try.func48 rfl rfl rfl ?_
  refine CW.seq (CW.reg ?_)
  refine WL.allocH rfl rfl rfl ze60 H fun b1 w1 H => ?_
  refine WL.allocH rfl rfl rfl ze60 H fun b2 w2 H => ?_
  refine WL.nil ?_
  refine CW.seq (CW.reg ?_)
  refine WL.ev rfl rfl (Ev.mv rfl rfl) ?_
  obtain ⟨y1, hy1, hr⟩ := bd hr
  obtain ⟨F, hF, hcl⟩ := H.call
  refine WL.call rfl rfl rfl rfl rfl ok83 rfl (sl1New_ok hy1 (hF.get (i := 0) rfl)) ?_
  rintro _ w3 hE ⟨b3, A1, n1, c1, rfl, hI1, hI2, H'⟩
  have H : HL F0 [] w0 w3 [Pr.S a0 (.slice A0' n0' c0'), Pr.S y1.b (.slice A1 n1 c1)] [It.B b1 60 [.int .i64 0, .slice none 0 0], It.B b2 60 [.int .i64 0, .slice none 0 0], It.B b3 159 [.slice A1 n1 c1, .int .i64 y1.i, .int .i64 y1.h]] := hcl H'
  refine WL.ev rfl rfl (Ev.as rfl rfl) (WL.nil ?_)
  refine CW.seq (CW.reg ?_)
  refine WL.ev rfl rfl (Ev.mv rfl rfl) ?_
  obtain ⟨⟨y2, z1⟩, hy2, hr⟩ := bd hr
  obtain ⟨F', M', hfF, hoF, hcM⟩ := H.callN [false, false, true] ⟨noB, trivial⟩
  obtain ⟨H', hcN⟩ := hcM (ps := [Pr.S y1.b (.slice A1 n1 c1)]) ⟨hfF.get (i := 1) rfl, trivial⟩
  refine WL.call rfl rfl rfl rfl rfl ok105 rfl (sl22Draw_ok hy2 hI1 hI2 H') ?_
  rintro _ w4 hE ⟨A2, n2, c2, rfl, hI3, hI4, hI5, H'⟩
  have H := hcN 1 H' rfl ⟨fun _ _ _ _ _ h => h, ⟨fun _ _ _ _ _ h => h, trivial⟩⟩
  refine WL.allocH rfl rfl rfl ze60 H fun b4 w5 H => ?_
  refine WL.stB (i := 4) rfl rfl rfl sz60 rfl rfl rfl rfl (all1 rfl (all1 rfl all0)) H rfl rfl rfl fun w6 H => ?_
  refine WL.nil ?_
  refine CW.seq (CW.reg ?_)
  refine WL.ev rfl rfl (Ev.mv rfl rfl) ?_
  obtain ⟨⟨y3, z2⟩, hy3, hr⟩ := bd hr
  obtain ⟨F', M', hfF, hoF, hcM⟩ := H.callN [false, false, true, false, false] ⟨noB, trivial⟩
  obtain ⟨H', hcN⟩ := hcM (ps := [Pr.S y1.b (.slice A1 n1 c1)]) ⟨hfF.get (i := 1) rfl, trivial⟩
  refine WL.call rfl rfl rfl rfl rfl ok105 rfl (sl22Draw_ok hy3 hI4 hI5 H') ?_
  rintro _ w7 hE ⟨A3, n3, c3, rfl, hI6, hI7, hI8, H'⟩
  have H := hcN 1 H' rfl ⟨fun _ _ _ _ _ h => h, ⟨fun _ _ _ _ _ h => h, trivial⟩⟩
  refine WL.allocH rfl rfl rfl ze60 H fun b5 w8 H => ?_
  refine WL.stB (i := 6) rfl rfl rfl sz60 rfl rfl rfl rfl (all1 rfl (all1 rfl all0)) H rfl rfl rfl fun w9 H => ?_
  refine WL.nil ?_
  refine CW.seq (CW.seq (CW.reg ?_))
  refine WL.ev rfl rfl (Ev.mv rfl rfl) ?_
  obtain ⟨⟨y4, z3⟩, hy4, hr⟩ := bd hr
  obtain ⟨F', M', hfF, hoF, hcM⟩ := H.callN [false, false, true, false, false, false, false] ⟨noB, trivial⟩
  obtain ⟨H', hcN⟩ := hcM (ps := [Pr.S y1.b (.slice A1 n1 c1)]) ⟨hfF.get (i := 1) rfl, trivial⟩
  refine WL.call rfl rfl rfl rfl rfl ok97 rfl (sl1Once_ok hy4 (by decide : I64 4) hI7 hI8 H') ?_
  rintro _ w10 hE ⟨rfl, hI9, hI10, H'⟩
  have H := hcN 1 H' rfl ⟨fun _ _ _ _ _ h => h, trivial⟩
  refine WL.ev rfl rfl (Ev.not rfl rfl) ?_
  refine WL.mvBN rfl rfl rfl rfl (fun h1 => ?_) (fun h1 => ?_)
  · skip
    have hr := ifn h1 hr
    refine WL.on rfl rfl (WL.ev rfl rfl (Ev.fa rfl fo60_0 rfl) (WL.on rfl rfl (WL.ev rfl rfl (Ev.ld rfl ag3 rfl ((H.rB (i := 4) rfl).cell rfl)) (WL.on rfl rfl (WL.ev rfl rfl (Ev.fa rfl fo60_1 rfl) (WL.on rfl rfl (WL.ev rfl rfl (Ev.ld rfl ag41 rfl ((H.rB (i := 4) rfl).cell rfl)) (WL.on rfl rfl ?_))))))))
    have hl1 := (H.rO (i := 3) rfl).I
    refine WL.ev rfl rfl (Ev.lenV rfl el41 rfl (H.rO (i := 3) rfl)) (WL.on rfl rfl (WL.ev rfl rfl (Ev.bin rfl rfl rfl Bin.eql) (WL.ev rfl rfl (Ev.pickT rfl rfl rfl) (WL.nil ?_))))
    refine CW.condD rfl (fun h2 => ?_) (fun h2 => ?_)
    · skip
      have hr := ifp h2 hr
      refine CW.seq ?_
      refine CW.fresh [(2, .pointer (some ⟨b1, 0, none⟩)), (3, .pointer (some ⟨b2, 0, none⟩)), (4, .pointer (some ⟨b3, 0, none⟩)), (5, .pointer (some ⟨b4, 0, none⟩)), (6, .pointer (some ⟨b5, 0, none⟩))] ⟨rfl, rfl, rfl, rfl, rfl, trivial⟩ fun σ => ?_
      have H : HL F0 [] w0 w10 [Pr.S a0 (.slice A0' n0' c0'), Pr.S y1.b (.slice A1 n1 c1)] [It.B b1 60 [.int .i64 0, .slice none 0 0], It.B b2 60 [.int .i64 0, .slice none 0 0], It.B b3 159 [.slice A1 n1 c1, .int .i64 z3.i, .int .i64 z3.h], It.O 3 y2.Rows (.slice A2 n2 c2), It.B b4 60 [.int .i64 y2.N, .slice A2 n2 c2], It.O 3 y3.Rows (.slice A3 n3 c3), It.B b5 60 [.int .i64 y3.N, .slice A3 n3 c3]] := H
      refine CW.reg ?_
      refine WL.ev rfl rfl (Ev.fa rfl fo60_0 rfl) (WL.ev rfl rfl (Ev.ld rfl ag3 rfl ((H.rB (i := 4) rfl).cell rfl)) ?_)
      obtain ⟨y5, hy5, hr⟩ := bd hr
      refine WL.call rfl rfl rfl rfl rfl ok115 rfl (sEmptyRelation_ok hy5 (F0 := fun _ => False) hI3) ?_
      rintro _ w11 hE ⟨A4, n4, c4, rfl, hI11, H'⟩
      have H := H.callA H' ⟨fun _ _ _ _ _ h => h, trivial⟩
      refine WL.stB (i := 6) rfl rfl rfl sz60 rfl rfl rfl rfl (all1 rfl (all1 rfl all0)) H rfl rfl rfl fun w12 H => ?_
      refine WL.nil ?_
      refine CW.seq (CW.reg ?_)
      refine WL.ev rfl rfl (Ev.as rfl rfl) (WL.nil ?_)
      obtain ⟨q1, hq1, hr⟩ := bd hr
      refine CW.block (CW.loop (α := Nat × (List Int) × Int × Int × Int × Value) (fun ⟨k1, s1, s2, s3, s4, v1⟩ => [(2, .pointer (some ⟨b1, 0, none⟩)), (3, .pointer (some ⟨b2, 0, none⟩)), (4, .pointer (some ⟨b3, 0, none⟩)), (5, .pointer (some ⟨b4, 0, none⟩)), (6, .pointer (some ⟨b5, 0, none⟩)), (7, .int .i64 (k1 : Int))]) (fun ⟨k1, s1, s2, s3, s4, v1⟩ w => k1 ≤ y2.N.toNat ∧ eachN (sDrawUnionRelation_L1 y1 y2) k1 (y2.N.toNat - k1) (s1, s2, s3, s4) = some q1 ∧ I64 s2 ∧ I64 s3 ∧ I64 s4 ∧ HL F0 [] w0 w [Pr.S a0 (.slice A0' n0' c0'), Pr.S y1.b (.slice A1 n1 c1)] [It.B b1 60 [.int .i64 0, .slice none 0 0], It.B b2 60 [.int .i64 0, .slice none 0 0], It.B b3 159 [.slice A1 n1 c1, .int .i64 s2, .int .i64 s3], It.O 3 y2.Rows (.slice A2 n2 c2), It.B b4 60 [.int .i64 y2.N, .slice A2 n2 c2], It.O 3 y3.Rows (.slice A3 n3 c3), It.B b5 60 [.int .i64 s4, v1], It.O 3 s1 v1]) (fun ⟨k1, s1, s2, s3, s4, v1⟩ => y2.N.toNat - k1) ⟨0, y5.Rows, z3.i, z3.h, y5.N, (.slice A4 n4 c4)⟩ ⟨rfl, rfl, rfl, rfl, rfl, rfl, trivial⟩ ⟨Nat.zero_le _, hq1, hI9, hI10, hI11, H.keep 2 8⟩ ?_)
      rintro ⟨k1, s1, s2, s3, s4, v1⟩ σ w13 ⟨hk1, hq1, hI12, hI13, hI14, H⟩
      obtain ⟨A5, n5, c5, rfl⟩ := (H.rO (i := 7) rfl).form3
      refine CW.seq (CW.seq (CW.reg ?_))
      refine WL.ev rfl rfl (Ev.mv rfl rfl) (WL.ev rfl rfl (Ev.fa rfl fo60_0 rfl) (WL.ev rfl rfl (Ev.ld rfl ag3 rfl ((H.rB (i := 4) rfl).cell rfl)) (WL.ev rfl rfl (Ev.bin rfl rfl rfl Bin.lss) (WL.nil ?_))))
      refine CW.condD rfl (fun h3 => ?_) (fun h3 => ?_)
      · skip
        have hk2 := toNat_lt h3
        obtain ⟨z4, hb1, hq1⟩ := eachN_go hq1 hk2
        refine CW.skip ?_
        obtain ⟨⟨y6, z5⟩, hy6, hb1⟩ := bd hb1
        obtain ⟨F', hfF, hoF, hcF⟩ := H.seeB (i := 2) rfl
        obtain ⟨_, _, hch, _, hI15, hI16, hI17, hh⟩ := (sl1Below_ok hy6 hI3 hI12 hI13 (hcF (ps := [Pr.S y1.b (.slice A1 n1 c1)]) ⟨hfF.get (i := 1) rfl, trivial⟩)).get2
        have hA := HL.afterB hh trivial
        have Hc1 := H.turnB (i := 2) rfl (RW.ofB hA.1) hA.2.1
        obtain ⟨⟨y7, z6⟩, hy7, hb1⟩ := bd hb1
        obtain ⟨F', hfF, hoF, hcF⟩ := Hc1.seeB (i := 2) rfl
        obtain ⟨_, _, hch, _, hI18, hI19, hI20, hh⟩ := (sl1Below_ok hy7 hI3 hI16 hI17 (hcF (ps := [Pr.S y1.b (.slice A1 n1 c1)]) ⟨hfF.get (i := 1) rfl, trivial⟩)).get2
        have hA := HL.afterB hh trivial
        have Hc2 := Hc1.turnB (i := 2) rfl (RW.ofB hA.1) hA.2.1
        obtain ⟨y8, hy8, hb1⟩ := bd hb1
        have hbl := (H.rB (i := 2) rfl).lt
        have hX := H.knowS (i := 2) (css := [[.slice A1 n1 c1, .int .i64 s2, .int .i64 s3], [.slice A1 n1 c1, .int .i64 z5.i, .int .i64 z5.h], [.slice A1 n1 c1, .int .i64 z6.i, .int .i64 z6.h]]) rfl
        refine CW.seq (CW.block (CW.any2 10 (fun ρ => [.fix (.agg #[.int .i64 s4, .slice A5 n5 c5]), .fix (.pointer (some ⟨b3, 0, none⟩)), .fix (.pointer (some ⟨b4, 0 + 0, none⟩)), .fix (.int .i64 y2.N), .fix (.int .i64 y6), .fix (.pointer (some ⟨b3, 0, none⟩)), .fix (.pointer (some ⟨b4, 0 + 0, none⟩)), .fix (.int .i64 y2.N), .fix (.int .i64 y7), .free (fun S v w => ∃ A6 : Option Addr, ∃ n6 : Nat, ∃ c6 : Nat, v = .agg #[.int .i64 y8.N, .slice A6 n6 c6] ∧ I64 y8.N ∧ NewI S w [It.O 3 y8.Rows (.slice A6 n6 c6)])]) [[], [], [], [], [], [], [], [], [], []] (fun q => q = b3) (ThB b3 159 [[.slice A1 n1 c1, .int .i64 s2, .int .i64 s3], [.slice A1 n1 c1, .int .i64 z5.i, .int .i64 z5.h], [.slice A1 n1 c1, .int .i64 z6.i, .int .i64 z6.h]]) [4, 8] [] (fun q e => e ▸ hbl) hmix (by kernel_rfl) rfl ⟨trivial, trivial, trivial, trivial, trivial, trivial, trivial, trivial, trivial, fun _ _ _ _ _ ⟨A6, n6, c6, hv, h0, hh⟩ hc hS hT => ⟨A6, n6, c6, hv, h0, hh.chgT hc hS⟩, trivial⟩ ⟨_, rfl, H.rB (i := 2) rfl⟩ (ThB.mono hbl) ?_))
        refine LL2.fxG hX rfl rfl rfl rfl rfl (fun _ ⟨_, hq, _⟩ hK => Ev.lda rfl ag60 sz60 rfl (At.blk (hq.rB (i := 6) rfl)) rfl) ?_
        refine LL2.fxG hX rfl rfl rfl rfl rfl (fun _ ⟨_, hq, _⟩ hK => Ev.mv rfl rfl) ?_
        refine LL2.fxG hX rfl rfl rfl rfl rfl (fun _ ⟨_, hq, _⟩ hK => Ev.fa rfl fo60_0 rfl) ?_
        refine LL2.fxG hX rfl rfl rfl rfl rfl (fun _ ⟨_, hq, _⟩ hK => Ev.ld rfl ag3 rfl ((hq.rB (i := 4) rfl).cell rfl)) ?_
        refine LL2.chF (H.chX (i := 2) rfl rfl) rfl rfl rfl rfl (fun wq hq hK => ?_) ?_
        · obtain ⟨F', hfF, hoF, hcF⟩ := hq.seeB (i := 2) rfl
          refine OpX.call rfl rfl rfl rfl ok86 rfl (sl1Below_ok hy6 hI3 hI12 hI13 (hcF (ps := [Pr.S y1.b (.slice A1 n1 c1)]) ⟨hfF.get (i := 1) rfl, trivial⟩)) ?_
          rintro _ w hE ⟨rfl, _, _, _, hh⟩
          have hA := HL.afterB hh trivial
          exact ⟨hA.1, ⟨_, rfl, hA.2.1⟩, rfl⟩
        refine LL2.fxG hX rfl rfl rfl rfl rfl (fun _ ⟨_, hq, _⟩ hK => Ev.mv rfl rfl) ?_
        refine LL2.fxG hX rfl rfl rfl rfl rfl (fun _ ⟨_, hq, _⟩ hK => Ev.fa rfl fo60_0 rfl) ?_
        refine LL2.fxG hX rfl rfl rfl rfl rfl (fun _ ⟨_, hq, _⟩ hK => Ev.ld rfl ag3 rfl ((hq.rB (i := 4) rfl).cell rfl)) ?_
        refine LL2.chF (H.chX (i := 2) rfl rfl) rfl rfl rfl rfl (fun wq hq hK => ?_) ?_
        · obtain ⟨F', hfF, hoF, hcF⟩ := hq.seeB (i := 2) rfl
          refine OpX.call rfl rfl rfl rfl ok86 rfl (sl1Below_ok hy7 hI3 hI16 hI17 (hcF (ps := [Pr.S y1.b (.slice A1 n1 c1)]) ⟨hfF.get (i := 1) rfl, trivial⟩)) ?_
          rintro _ w hE ⟨rfl, _, _, _, hh⟩
          have hA := HL.afterB hh trivial
          exact ⟨hA.1, ⟨_, rfl, hA.2.1⟩, rfl⟩
        refine LL2.freeG hX rfl rfl rfl rfl (fun wq ⟨_, hq, hsz⟩ hK => ?_) (fun v_G1_9 S_G1_9 => ?_)
        · refine OpX.call rfl rfl rfl rfl ok47 rfl (sAddPair_ok hy8 ⟨_, rfl, hI14, (hq.rO (i := 7) rfl)⟩ hI15 hI18) ?_
          rintro _ w hE ⟨A6, n6, c6, rfl, h0, hh⟩
          exact ⟨hE, A6, n6, c6, rfl, h0, NewI.of hh ⟨fun _ _ _ _ _ h => h, trivial⟩⟩
        intro w14 hE hTh hK hap hbd
        obtain ⟨A6, n6, c6, rfl, hI21, hN1⟩ := hK 9 (by decide)
        have H : HL F0 [] w0 w14 [Pr.S a0 (.slice A0' n0' c0'), Pr.S y1.b (.slice A1 n1 c1)] [It.B b1 60 [.int .i64 0, .slice none 0 0], It.B b2 60 [.int .i64 0, .slice none 0 0], It.B b3 159 [.slice A1 n1 c1, .int .i64 z6.i, .int .i64 z6.h], It.O 3 y2.Rows (.slice A2 n2 c2), It.B b4 60 [.int .i64 y2.N, .slice A2 n2 c2], It.O 3 y3.Rows (.slice A3 n3 c3), It.B b5 60 [.int .i64 s4, .slice A5 n5 c5], It.O 3 s1 (.slice A5 n5 c5), It.O 3 y8.Rows (.slice A6 n6 c6)] := H.turnAdd [false, false, true, false, false, false, false, false] rfl hE (ThB.get rfl hTh) hN1 ⟨fun _ _ _ _ _ h => h, trivial⟩ (fun q hq => (hbd 9 q hq).1)
        refine WL.stB (i := 6) rfl rfl rfl sz60 rfl rfl rfl rfl (all1 rfl (all1 rfl all0)) H rfl rfl rfl fun w15 H => ?_
        refine WL.nil ?_
        refine CW.reg ?_
        refine WL.ev rfl rfl (Ev.mv rfl rfl) (WL.ev rfl rfl (Ev.bin rfl rfl rfl (Bin.addN (a := k1) (b := 1) rfl (i64_succNI h3 hI3.2))) (WL.ev rfl rfl (Ev.as rfl rfl) (WL.nil ?_)))
        have H := H.swap 7 8
        obtain rfl := sm hb1
        exact ⟨⟨k1 + 1, y8.Rows, z6.i, z6.h, y8.N, (.slice A6 n6 c6)⟩, ⟨rfl, rfl, rfl, rfl, rfl, rfl, trivial⟩, ⟨hk2, hq1, hI19, hI20, hI21, H.keep 2 8⟩, Nat.sub_lt_sub_left hk2 (Nat.lt_succ_self _)⟩
      · skip
        obtain rfl := eachN_end hq1 (not_toNat_lt h3)
        refine CW.exit ?_
        have hbl := (H.rB (i := 0) rfl).lt
        have hX := H.knowS (i := 0) (css := [[.int .i64 0, .slice none 0 0], [.int .i64 y2.N, .slice A2 n2 c2]]) rfl
        refine CW.seq (CW.any2 3 (fun ρ => [.fix (.agg #[.int .i64 y2.N, .slice A2 n2 c2]), .fix (.agg #[.int .i64 s4, .slice A5 n5 c5]), .wr 2 44 (fun _ _ _ _ => True)]) [[], [], [2, 44]] (fun q => q = b1) (ThB b1 60 [[.int .i64 0, .slice none 0 0], [.int .i64 y2.N, .slice A2 n2 c2]]) [2] [] (fun q e => e ▸ hbl) hmix (by kernel_rfl) rfl ⟨trivial, trivial, fun _ _ _ _ _ _ _ _ _ _ => trivial, trivial⟩ ⟨_, rfl, H.rB (i := 0) rfl⟩ (ThB.mono hbl) ?_)
        refine LL2.fxG hX rfl rfl rfl rfl rfl (fun _ ⟨_, hq, _⟩ hK => Ev.lda rfl ag60 sz60 rfl (At.blk (hq.rB (i := 4) rfl)) rfl) ?_
        refine LL2.fxG hX rfl rfl rfl rfl rfl (fun _ ⟨_, hq, _⟩ hK => Ev.lda rfl ag60 sz60 rfl (At.blk (hq.rB (i := 6) rfl)) rfl) ?_
        refine LL2.chS (H.chX (i := 0) rfl rfl) rfl rfl rfl rfl (fun wq hq hK => ?_) ?_
        · refine OpX.storeB rfl rfl sz60 rfl rfl rfl rfl (all1 rfl (all1 rfl all0)) (hq.rB (i := 0) rfl) rfl rfl fun _ w hc hB => ?_
          exact ⟨hc, ⟨_, rfl, hB⟩⟩
        intro w16 hE hTh hK hap hbd
        have H : HL F0 [] w0 w16 [Pr.S a0 (.slice A0' n0' c0'), Pr.S y1.b (.slice A1 n1 c1)] [It.B b1 60 [.int .i64 y2.N, .slice A2 n2 c2], It.B b2 60 [.int .i64 0, .slice none 0 0], It.B b3 159 [.slice A1 n1 c1, .int .i64 s2, .int .i64 s3], It.O 3 y2.Rows (.slice A2 n2 c2), It.B b4 60 [.int .i64 y2.N, .slice A2 n2 c2], It.O 3 y3.Rows (.slice A3 n3 c3), It.B b5 60 [.int .i64 s4, .slice A5 n5 c5], It.O 3 s1 (.slice A5 n5 c5)] := H.turnAdd [true, false, false, false, false, false, false, false] rfl hE (ThB.get rfl hTh) NewI.nil trivial (fun _ h => h.elim)
        refine WL.stB (i := 1) rfl rfl rfl sz60 rfl rfl rfl rfl (all1 rfl (all1 rfl all0)) H rfl rfl rfl fun w17 H => ?_
        refine WL.nil ?_
        refine CW.ret ?_
        obtain rfl := sm hr
        exact ⟨_, res_cc rfl ag60 sz60 rfl rfl (At.blk (H.rB (i := 0) rfl)) rfl ag60 sz60 rfl rfl (At.blk (H.rB (i := 1) rfl)) rfl, H.ext0, _, _, _, _, _, _, rfl, hI3, hI14, H.outM (fr' := []) [false, false, false, true, false, false, false, true] fun _ _ => trivial⟩
    · skip
      have hr := ifn h2 hr
      refine CW.skip ?_
      refine CW.seq ?_
      refine CW.fresh [(2, .pointer (some ⟨b1, 0, none⟩)), (3, .pointer (some ⟨b2, 0, none⟩)), (5, .pointer (some ⟨b4, 0, none⟩)), (6, .pointer (some ⟨b5, 0, none⟩))] ⟨rfl, rfl, rfl, rfl, trivial⟩ fun σ => ?_
      have H : HL F0 [] w0 w10 [Pr.S a0 (.slice A0' n0' c0'), Pr.S y1.b (.slice A1 n1 c1)] [It.B b1 60 [.int .i64 0, .slice none 0 0], It.B b2 60 [.int .i64 0, .slice none 0 0], It.B b3 159 [.slice A1 n1 c1, .int .i64 z3.i, .int .i64 z3.h], It.O 3 y2.Rows (.slice A2 n2 c2), It.B b4 60 [.int .i64 y2.N, .slice A2 n2 c2], It.O 3 y3.Rows (.slice A3 n3 c3), It.B b5 60 [.int .i64 y3.N, .slice A3 n3 c3]] := H
      have hbl := (H.rB (i := 0) rfl).lt
      have hX := H.knowS (i := 0) (css := [[.int .i64 0, .slice none 0 0], [.int .i64 y2.N, .slice A2 n2 c2]]) rfl
      refine CW.any2 3 (fun ρ => [.fix (.agg #[.int .i64 y2.N, .slice A2 n2 c2]), .fix (.agg #[.int .i64 y3.N, .slice A3 n3 c3]), .wr 2 44 (fun _ _ _ _ => True)]) [[], [], [2, 44]] (fun q => q = b1) (ThB b1 60 [[.int .i64 0, .slice none 0 0], [.int .i64 y2.N, .slice A2 n2 c2]]) [2] [] (fun q e => e ▸ hbl) hmix (by kernel_rfl) rfl ⟨trivial, trivial, fun _ _ _ _ _ _ _ _ _ _ => trivial, trivial⟩ ⟨_, rfl, H.rB (i := 0) rfl⟩ (ThB.mono hbl) ?_
      refine LL2.fxG hX rfl rfl rfl rfl rfl (fun _ ⟨_, hq, _⟩ hK => Ev.lda rfl ag60 sz60 rfl (At.blk (hq.rB (i := 4) rfl)) rfl) ?_
      refine LL2.fxG hX rfl rfl rfl rfl rfl (fun _ ⟨_, hq, _⟩ hK => Ev.lda rfl ag60 sz60 rfl (At.blk (hq.rB (i := 6) rfl)) rfl) ?_
      refine LL2.chS (H.chX (i := 0) rfl rfl) rfl rfl rfl rfl (fun wq hq hK => ?_) ?_
      · refine OpX.storeB rfl rfl sz60 rfl rfl rfl rfl (all1 rfl (all1 rfl all0)) (hq.rB (i := 0) rfl) rfl rfl fun _ w hc hB => ?_
        exact ⟨hc, ⟨_, rfl, hB⟩⟩
      intro w18 hE hTh hK hap hbd
      have H : HL F0 [] w0 w18 [Pr.S a0 (.slice A0' n0' c0'), Pr.S y1.b (.slice A1 n1 c1)] [It.B b1 60 [.int .i64 y2.N, .slice A2 n2 c2], It.B b2 60 [.int .i64 0, .slice none 0 0], It.B b3 159 [.slice A1 n1 c1, .int .i64 z3.i, .int .i64 z3.h], It.O 3 y2.Rows (.slice A2 n2 c2), It.B b4 60 [.int .i64 y2.N, .slice A2 n2 c2], It.O 3 y3.Rows (.slice A3 n3 c3), It.B b5 60 [.int .i64 y3.N, .slice A3 n3 c3]] := H.turnAdd [true, false, false, false, false, false, false] rfl hE (ThB.get rfl hTh) NewI.nil trivial (fun _ h => h.elim)
      refine WL.stB (i := 1) rfl rfl rfl sz60 rfl rfl rfl rfl (all1 rfl (all1 rfl all0)) H rfl rfl rfl fun w19 H => ?_
      refine WL.nil ?_
      refine CW.ret ?_
      obtain rfl := sm hr
      exact ⟨_, res_cc rfl ag60 sz60 rfl rfl (At.blk (H.rB (i := 0) rfl)) rfl ag60 sz60 rfl rfl (At.blk (H.rB (i := 1) rfl)) rfl, H.ext0, _, _, _, _, _, _, rfl, hI3, hI6, H.outM (fr' := []) [false, false, false, true, false, true, false] fun _ _ => trivial⟩
  · skip
    have hr := ifp h1 hr
    refine WL.off rfl rfl rfl (WL.off rfl rfl rfl (WL.off rfl rfl rfl (WL.off rfl rfl rfl (WL.off rfl rfl rfl (WL.off rfl rfl rfl (WL.ev rfl rfl (Ev.pickF rfl rfl rfl) (WL.nil ?_)))))))
    refine CW.condF rfl ?_
    refine CW.skip ?_
    have hbl := (H.rB (i := 0) rfl).lt
    have hX := H.knowS (i := 0) (css := [[.int .i64 0, .slice none 0 0], [.int .i64 y2.N, .slice A2 n2 c2]]) rfl
    refine CW.seq (CW.any2 3 (fun ρ => [.fix (.agg #[.int .i64 y2.N, .slice A2 n2 c2]), .fix (.agg #[.int .i64 y3.N, .slice A3 n3 c3]), .wr 2 44 (fun _ _ _ _ => True)]) [[], [], [2, 44]] (fun q => q = b1) (ThB b1 60 [[.int .i64 0, .slice none 0 0], [.int .i64 y2.N, .slice A2 n2 c2]]) [2] [] (fun q e => e ▸ hbl) hmix (by kernel_rfl) rfl ⟨trivial, trivial, fun _ _ _ _ _ _ _ _ _ _ => trivial, trivial⟩ ⟨_, rfl, H.rB (i := 0) rfl⟩ (ThB.mono hbl) ?_)
    refine LL2.fxG hX rfl rfl rfl rfl rfl (fun _ ⟨_, hq, _⟩ hK => Ev.lda rfl ag60 sz60 rfl (At.blk (hq.rB (i := 4) rfl)) rfl) ?_
    refine LL2.fxG hX rfl rfl rfl rfl rfl (fun _ ⟨_, hq, _⟩ hK => Ev.lda rfl ag60 sz60 rfl (At.blk (hq.rB (i := 6) rfl)) rfl) ?_
    refine LL2.chS (H.chX (i := 0) rfl rfl) rfl rfl rfl rfl (fun wq hq hK => ?_) ?_
    · refine OpX.storeB rfl rfl sz60 rfl rfl rfl rfl (all1 rfl (all1 rfl all0)) (hq.rB (i := 0) rfl) rfl rfl fun _ w hc hB => ?_
      exact ⟨hc, ⟨_, rfl, hB⟩⟩
    intro w20 hE hTh hK hap hbd
    have H : HL F0 [] w0 w20 [Pr.S a0 (.slice A0' n0' c0'), Pr.S y1.b (.slice A1 n1 c1)] [It.B b1 60 [.int .i64 y2.N, .slice A2 n2 c2], It.B b2 60 [.int .i64 0, .slice none 0 0], It.B b3 159 [.slice A1 n1 c1, .int .i64 z3.i, .int .i64 z3.h], It.O 3 y2.Rows (.slice A2 n2 c2), It.B b4 60 [.int .i64 y2.N, .slice A2 n2 c2], It.O 3 y3.Rows (.slice A3 n3 c3), It.B b5 60 [.int .i64 y3.N, .slice A3 n3 c3]] := H.turnAdd [true, false, false, false, false, false, false] rfl hE (ThB.get rfl hTh) NewI.nil trivial (fun _ h => h.elim)
    refine WL.stB (i := 1) rfl rfl rfl sz60 rfl rfl rfl rfl (all1 rfl (all1 rfl all0)) H rfl rfl rfl fun w21 H => ?_
    refine WL.nil ?_
    refine CW.ret ?_
    obtain rfl := sm hr
    exact ⟨_, res_cc rfl ag60 sz60 rfl rfl (At.blk (H.rB (i := 0) rfl)) rfl ag60 sz60 rfl rfl (At.blk (H.rB (i := 1) rfl)) rfl, H.ext0, _, _, _, _, _, _, rfl, hI3, hI6, H.outM (fr' := []) [false, false, false, true, false, true, false] fun _ _ => trivial⟩

noncomputable def iUnionRelation_L1 (a1 : Relation) : Nat → (List Int) → Option (List Int) := fun k1 s3 => 
  (s3[k1]?).bind fun x1 =>
  (a1.Rows[k1]?).bind fun x2 =>
  grd (0 ≤ x1 ∧ 0 ≤ x2) <|
  some (List.set s3 k1 ((x1.toNat ||| x2.toNat : Nat) : Int))
noncomputable def iUnionRelation_m (a0 : Relation) (a1 : Relation) : Option Relation :=
  (icopyRelation_m a0).bind fun y1 =>
  (iIsValidRelation_m a0).bind fun y2 =>
  (
  if y2 = true then (
  (iIsValidRelation_m a1).bind fun y3 =>
  some y3
  ) else (
  some false
  )
  ).bind fun s1 =>
  (
  if s1 = true then (
  some (decide (a0.N = a1.N))
  ) else (
  some false
  )
  ).bind fun s2 =>
  if s2 = true then (
  (eachN (iUnionRelation_L1 a1) 0 (y1.Rows.length) y1.Rows).bind fun s3 =>
  some (⟨y1.N, s3⟩ : Relation)
  ) else (
  some y1
  )
theorem iUnionRelation_ok {a0 : Relation} {a1 : Relation} {r : Relation} (hr : iUnionRelation_m a0 a1 = some r) {F0 : Nat → Prop} {w0 : World} {ca0 : List Value} (ha0 : rd F0 w0 a0 ca0) {ca1 : List Value} (ha1 : rd F0 w0 a1 ca1) :
    Ret Try.prog 49 #[.agg ca0.toArray, .agg ca1.toArray] w0 (fun _ => False) fun v w => ∃ A0 : Option Addr, ∃ n0 c0 : Nat, v = .agg #[.int .i64 r.N, (.slice A0 n0 c0)] ∧ I64 r.N ∧ HL F0 [] w0 w [] [It.O 3 r.Rows (.slice A0 n0 c0)] := by
  have H := ((HL.start F0 w0).argR ha0).argR ha1
  obtain ⟨A1, n1, c1, rfl, hI1, H⟩ := op_Relation H (i := 0) rfl
  obtain ⟨A2, n2, c2, rfl, hI2, H⟩ := op_Relation H (i := 1) rfl
  refine enter Try.func49 rfl rfl rfl ?_
  refine CW.seq (CW.reg ?_)
  refine WL.boxH rfl rfl rfl rfl rfl H fun b1 w1 H => ?_
  refine WL.boxH rfl rfl rfl rfl rfl H fun b2 w2 H => ?_
  refine WL.allocH rfl rfl rfl ze60 H fun b3 w3 H => ?_
  refine WL.nil ?_
  refine CW.seq (CW.reg ?_)
  refine WL.ev rfl rfl (Ev.lda rfl ag60 sz60 rfl (At.blk (H.rB (i := 0) rfl)) rfl) ?_
  obtain ⟨y1, hy1, hr⟩ := bd hr
  refine WL.call rfl rfl rfl rfl rfl ok106 rfl (icopyRelation_ok hy1 ⟨_, rfl, hI1, (H.rS (i := 2) rfl)⟩) ?_
  rintro _ w4 hE ⟨A3, n3, c3, rfl, hI3, H'⟩
  have H := H.callA H' ⟨fun _ _ _ _ _ h => h, trivial⟩
  refine WL.allocH rfl rfl rfl ze60 H fun b4 w5 H => ?_
  refine WL.stB (i := 4) rfl rfl rfl sz60 rfl rfl rfl rfl (all1 rfl (all1 rfl all0)) H rfl rfl rfl fun w6 H => ?_
  refine WL.nil ?_
  refine CW.seq (CW.seq (CW.reg ?_))
  refine WL.ev rfl rfl (Ev.lda rfl ag60 sz60 rfl (At.blk (H.rB (i := 0) rfl)) rfl) ?_
  obtain ⟨y2, hy2, hr⟩ := bd hr
  refine WL.call rfl rfl rfl rfl rfl ok39 rfl (iIsValidRelation_ok hy2 ⟨_, rfl, hI1, (H.rS (i := 2) rfl)⟩) ?_
  rintro _ w7 hE rfl
  have H := H.ext hE
  obtain ⟨q1, hm1, hr⟩ := bd hr
  refine WL.cut 4 (fun ρ' w => ∃ (s1 : Bool), s1 = q1 ∧ agree ρ' [(2, .pointer (some ⟨b1, 0, none⟩)), (3, .pointer (some ⟨b2, 0, none⟩)), (4, .pointer (some ⟨b3, 0, none⟩)), (5, .pointer (some ⟨b4, 0, none⟩)), (14, .bool s1)] ∧ HL F0 [] w0 w [Pr.R a0 [.int .i64 a0.N, .slice A1 n1 c1], Pr.R a1 [.int .i64 a1.N, .slice A2 n2 c2], Pr.S a0.Rows (.slice A1 n1 c1), Pr.S a1.Rows (.slice A2 n2 c2)] [It.B b1 60 [.int .i64 a0.N, .slice A1 n1 c1], It.B b2 60 [.int .i64 a1.N, .slice A2 n2 c2], It.B b3 60 [.int .i64 0, .slice none 0 0], It.O 3 y1.Rows (.slice A3 n3 c3), It.B b4 60 [.int .i64 y1.N, .slice A3 n3 c3]]) ?_ ?_
  · skip
    refine WL.mvB rfl rfl rfl rfl (fun h1 => ?_) (fun h1 => ?_)
    · skip
      have hm1 := ifp h1 hm1
      refine WL.on rfl rfl (WL.ev rfl rfl (Ev.lda rfl ag60 sz60 rfl (At.blk (H.rB (i := 1) rfl)) rfl) (WL.on rfl rfl ?_))
      obtain ⟨y3, hy3, hm1⟩ := bd hm1
      refine WL.call rfl rfl rfl rfl rfl ok39 rfl (iIsValidRelation_ok hy3 ⟨_, rfl, hI2, (H.rS (i := 3) rfl)⟩) ?_
      rintro _ w8 hE rfl
      have H := H.ext hE
      refine WL.ev rfl rfl (Ev.pickT rfl rfl rfl) (WL.nil ?_)
      obtain rfl := sm hm1
      exact ⟨y3, rfl, ⟨rfl, rfl, rfl, rfl, rfl, trivial⟩, H.keep 4 5⟩
    · skip
      have hm1 := ifn h1 hm1
      refine WL.off rfl rfl rfl (WL.off rfl rfl rfl (WL.ev rfl rfl (Ev.pickF rfl rfl rfl) (WL.nil ?_)))
      obtain rfl := sm hm1
      exact ⟨false, rfl, ⟨rfl, rfl, rfl, rfl, rfl, trivial⟩, H.keep 4 5⟩
  · rintro ρ' w9 ⟨s1, rfl, hag, H⟩
    obtain ⟨σ, rfl⟩ := ofL_ex hag
    obtain ⟨q2, hm2, hr⟩ := bd hr
    refine WL.cut 7 (fun ρ' w => ∃ (s2 : Bool), s2 = q2 ∧ agree ρ' [(3, .pointer (some ⟨b2, 0, none⟩)), (4, .pointer (some ⟨b3, 0, none⟩)), (5, .pointer (some ⟨b4, 0, none⟩)), (21, .bool s2)] ∧ HL F0 [] w0 w [Pr.R a0 [.int .i64 a0.N, .slice A1 n1 c1], Pr.R a1 [.int .i64 a1.N, .slice A2 n2 c2], Pr.S a0.Rows (.slice A1 n1 c1), Pr.S a1.Rows (.slice A2 n2 c2)] [It.B b1 60 [.int .i64 a0.N, .slice A1 n1 c1], It.B b2 60 [.int .i64 a1.N, .slice A2 n2 c2], It.B b3 60 [.int .i64 0, .slice none 0 0], It.O 3 y1.Rows (.slice A3 n3 c3), It.B b4 60 [.int .i64 y1.N, .slice A3 n3 c3]]) ?_ ?_
    · skip
      refine WL.mvB rfl rfl rfl rfl (fun h2 => ?_) (fun h2 => ?_)
      · skip
        have hm2 := ifp h2 hm2
        refine WL.on rfl rfl (WL.ev rfl rfl (Ev.fa rfl fo60_0 rfl) (WL.on rfl rfl (WL.ev rfl rfl (Ev.ld rfl ag3 rfl ((H.rB (i := 0) rfl).cell rfl)) (WL.on rfl rfl (WL.ev rfl rfl (Ev.fa rfl fo60_0 rfl) (WL.on rfl rfl (WL.ev rfl rfl (Ev.ld rfl ag3 rfl ((H.rB (i := 1) rfl).cell rfl)) (WL.on rfl rfl (WL.ev rfl rfl (Ev.bin rfl rfl rfl Bin.eql) (WL.ev rfl rfl (Ev.pickT rfl rfl rfl) (WL.nil ?_)))))))))))
        obtain rfl := sm hm2
        exact ⟨(decide (a0.N = a1.N)), rfl, ⟨rfl, rfl, rfl, rfl, trivial⟩, H.keep 4 5⟩
      · skip
        have hm2 := ifn h2 hm2
        refine WL.off rfl rfl rfl (WL.off rfl rfl rfl (WL.off rfl rfl rfl (WL.off rfl rfl rfl (WL.off rfl rfl rfl (WL.ev rfl rfl (Ev.pickF rfl rfl rfl) (WL.nil ?_))))))
        obtain rfl := sm hm2
        exact ⟨false, rfl, ⟨rfl, rfl, rfl, rfl, trivial⟩, H.keep 4 5⟩
    · rintro ρ' w10 ⟨s2, rfl, hag, H⟩
      obtain ⟨σ, rfl⟩ := ofL_ex hag
      refine WL.nil ?_
      refine CW.condB rfl (fun h3 => ?_) (fun h3 => ?_)
      · skip
        have hr := ifp h3 hr
        refine CW.seq (CW.reg ?_)
        refine WL.ev rfl rfl (Ev.fa rfl fo60_1 rfl) (WL.ev rfl rfl (Ev.ld rfl ag41 rfl ((H.rB (i := 4) rfl).cell rfl)) ?_)
        have hl1 := (H.rO (i := 3) rfl).I
        refine WL.ev rfl rfl (Ev.lenV rfl el41 rfl (H.rO (i := 3) rfl)) (WL.ev rfl rfl (Ev.mv rfl rfl) (WL.nil ?_))
        obtain ⟨q3, hq1, hr⟩ := bd hr
        refine CW.block (CW.loop (α := Nat × (List Int)) (fun ⟨k1, s3⟩ => [(3, .pointer (some ⟨b2, 0, none⟩)), (4, .pointer (some ⟨b3, 0, none⟩)), (5, .pointer (some ⟨b4, 0, none⟩)), (24, .int .i64 (y1.Rows.length : Int)), (25, .int .i64 (k1 : Int))]) (fun ⟨k1, s3⟩ w => k1 ≤ y1.Rows.length ∧ eachN (iUnionRelation_L1 a1) k1 (y1.Rows.length - k1) s3 = some q3 ∧ HL F0 [] w0 w [Pr.R a0 [.int .i64 a0.N, .slice A1 n1 c1], Pr.R a1 [.int .i64 a1.N, .slice A2 n2 c2], Pr.S a0.Rows (.slice A1 n1 c1), Pr.S a1.Rows (.slice A2 n2 c2)] [It.B b1 60 [.int .i64 a0.N, .slice A1 n1 c1], It.B b2 60 [.int .i64 a1.N, .slice A2 n2 c2], It.B b3 60 [.int .i64 0, .slice none 0 0], It.O 3 s3 (.slice A3 n3 c3), It.B b4 60 [.int .i64 y1.N, .slice A3 n3 c3]]) (fun ⟨k1, s3⟩ => y1.Rows.length - k1) ⟨0, y1.Rows⟩ ⟨rfl, rfl, rfl, rfl, rfl, trivial⟩ ⟨Nat.zero_le _, hq1, H.keep 4 5⟩ ?_)
        rintro ⟨k1, s3⟩ σ w11 ⟨hk1, hq1, H⟩
        refine CW.seq (CW.reg ?_)
        refine WL.ev rfl rfl (Ev.bin rfl rfl rfl Bin.lss) (WL.nil ?_)
        refine CW.seq (CW.condD rfl (fun h4 => ?_) (fun h4 => ?_))
        · skip
          have hk2 := cast_lt h4
          obtain ⟨z1, hb1, hq1⟩ := eachN_go hq1 hk2
          refine CW.skip ?_
          refine CW.seq (CW.block (CW.seq (CW.reg ?_)))
          refine WL.ev rfl rfl (Ev.mv rfl rfl) (WL.ev rfl rfl (Ev.as rfl rfl) (WL.nil ?_))
          refine CW.quietT 12 hmix (by kernel_rfl) ?_
          refine QL.ev rfl rfl (fun _ _ => Ev.fa rfl fo60_1 rfl) (QL.ev rfl rfl (fun _ hq => Ev.ld rfl ag41 rfl (((H.ext hq).rB (i := 4) rfl).cell rfl)) (QL.ev rfl rfl (fun _ _ => Ev.mv rfl rfl) ?_))
          obtain ⟨x1, hx1, hb1⟩ := bd hb1
          obtain ⟨b5, cb5, hvb5, hbb5⟩ := H.ptO (i := 3) rfl hx1
          refine QL.ev rfl rfl (fun _ _ => Ev.ixVN rfl el41 sz3 rfl hvb5 rfl (lt_of hx1)) ?_
          obtain ⟨hA1, hI4, H⟩ := elO_Int H (i := 3) rfl hx1 hbb5
          refine QL.ev rfl rfl (fun _ hq => Ev.ld rfl ag3 rfl ((hA1.ext hq).cell0 rfl)) (QL.ev rfl rfl (fun _ _ => Ev.fa rfl fo60_1 rfl) (QL.ev rfl rfl (fun _ hq => Ev.ld rfl ag41 rfl (((H.ext hq).rB (i := 1) rfl).cell rfl)) (QL.ev rfl rfl (fun _ _ => Ev.mv rfl rfl) ?_)))
          obtain ⟨x2, hx2, hb1⟩ := bd hb1
          obtain ⟨b6, ob6, cb6, hvb6, hI5, H⟩ := ixS_Int H (i := 3) rfl hx2
          refine QL.ev rfl rfl (fun _ _ => Ev.ixVN rfl el41 sz3 rfl hvb6 rfl (lt_of hx2)) (QL.ev rfl rfl (fun _ hq => Ev.ld rfl ag3 rfl (((H.ext hq).rA (i := 5) rfl).cell0 rfl)) ?_)
          obtain ⟨hg1, hb1⟩ := grd_some hb1
          refine QL.ev rfl rfl (fun _ _ => Ev.bin rfl rfl rfl (Bin.orI hg1.1 hI4.2 hg1.2 hI5.2)) ?_
          obtain ⟨b7, cb7, hvb7, hbb7⟩ := H.ptO (i := 3) rfl hx1
          refine QL.ev rfl rfl (fun _ _ => Ev.ixVN rfl el41 sz3 rfl hvb7 rfl (lt_of hx1)) (QL.nil (fun w12 hE => ?_))
          have H := H.ext hE
          refine WL.stOf (i := 3) (z := ((x1.toNat ||| x2.toNat : Nat) : Int)) rfl rfl rfl sz3 rfl rfl rfl (fun _ => ⟨rfl, rfl, (i64_or hg1 hI4 hI5)⟩) H rfl hbb7 (by simpa using lt_of hx1) fun w13 H => ?_
          refine WL.nil ?_
          refine CW.reg ?_
          refine WL.ev rfl rfl (Ev.bin rfl rfl rfl (Bin.addN (a := k1) (b := 1) rfl (i64_succN hk2 hl1.2))) (WL.ev rfl rfl (Ev.mv rfl rfl) (WL.nil ?_))
          obtain rfl := sm hb1
          exact ⟨⟨k1 + 1, (List.set s3 k1 ((x1.toNat ||| x2.toNat : Nat) : Int))⟩, ⟨rfl, rfl, rfl, rfl, rfl, trivial⟩, ⟨hk2, hq1, H.keep 4 5⟩, Nat.sub_lt_sub_left hk2 (Nat.lt_succ_self _)⟩
        · skip
          obtain rfl := eachN_end hq1 (not_cast_lt h4)
          refine CW.exit ?_
          refine CW.seq (CW.reg ?_)
          refine WL.ev rfl rfl (Ev.lda rfl ag60 sz60 rfl (At.blk (H.rB (i := 4) rfl)) rfl) ?_
          refine WL.stB (i := 2) rfl rfl rfl sz60 rfl rfl rfl rfl (all1 rfl (all1 rfl all0)) H rfl rfl rfl fun w14 H => ?_
          refine WL.nil ?_
          refine CW.ret ?_
          obtain rfl := sm hr
          exact ⟨_, resC rfl ag60 sz60 rfl rfl (At.blk (H.rB (i := 2) rfl)) rfl, H.ext0, _, _, _, rfl, hI3, H.outM (fr' := []) [false, false, false, true, false] fun _ _ => trivial⟩
      · skip
        have hr := ifn h3 hr
        refine CW.skip ?_
        refine CW.seq (CW.reg ?_)
        refine WL.ev rfl rfl (Ev.lda rfl ag60 sz60 rfl (At.blk (H.rB (i := 4) rfl)) rfl) ?_
        refine WL.stB (i := 2) rfl rfl rfl sz60 rfl rfl rfl rfl (all1 rfl (all1 rfl all0)) H rfl rfl rfl fun w15 H => ?_
        refine WL.nil ?_
        refine CW.ret ?_
        obtain rfl := sm hr
        exact ⟨_, resC rfl ag60 sz60 rfl rfl (At.blk (H.rB (i := 2) rfl)) rfl, H.ext0, _, _, _, rfl, hI3, H.outM (fr' := []) [false, false, false, true, false] fun _ _ => trivial⟩

noncomputable def sUnionRelation_L1 (a1 : Relation) : Nat → (List Int) → Option (List Int) := fun k1 s3 => 
  (s3[k1]?).bind fun x1 =>
  (a1.Rows[k1]?).bind fun x2 =>
  grd (0 ≤ x1 ∧ 0 ≤ x2) <|
  some (List.set s3 k1 ((x1.toNat ||| x2.toNat : Nat) : Int))
noncomputable def sUnionRelation_m (a0 : Relation) (a1 : Relation) : Option Relation :=
  (sl22Copy_m a0).bind fun y1 =>
  (sIsValidRelation_m a0).bind fun y2 =>
  (
  if y2 = true then (
  (sIsValidRelation_m a1).bind fun y3 =>
  some (!y3)
  ) else (
  some true
  )
  ).bind fun s1 =>
  (
  if s1 = true then (
  some true
  ) else (
  some (!(decide (a0.N = a1.N)))
  )
  ).bind fun s2 =>
  if s2 = true then (
  some y1
  ) else (
  (eachN (sUnionRelation_L1 a1) 0 (a0.N.toNat) y1.Rows).bind fun s3 =>
  some (⟨y1.N, s3⟩ : Relation)
  )
theorem sUnionRelation_ok {a0 : Relation} {a1 : Relation} {r : Relation} (hr : sUnionRelation_m a0 a1 = some r) {F0 : Nat → Prop} {w0 : World} {ca0 : List Value} (ha0 : rd F0 w0 a0 ca0) {ca1 : List Value} (ha1 : rd F0 w0 a1 ca1) :
    Ret Try.prog 50 #[.agg ca0.toArray, .agg ca1.toArray] w0 (fun _ => False) fun v w => ∃ A0 : Option Addr, ∃ n0 c0 : Nat, v = .agg #[.int .i64 r.N, (.slice A0 n0 c0)] ∧ I64 r.N ∧ HL F0 [] w0 w [] [It.O 3 r.Rows (.slice A0 n0 c0)] := by
  have H := ((HL.start F0 w0).argR ha0).argR ha1
  obtain ⟨A1, n1, c1, rfl, hI1, H⟩ := op_Relation H (i := 0) rfl
  obtain ⟨A2, n2, c2, rfl, hI2, H⟩ := op_Relation H (i := 1) rfl
  refine enter Try.func50 rfl rfl rfl ?_
  refine CW.seq (CW.reg ?_)
  refine WL.boxH rfl rfl rfl rfl rfl H fun b1 w1 H => ?_
  refine WL.boxH rfl rfl rfl rfl rfl H fun b2 w2 H => ?_
  refine WL.allocH rfl rfl rfl ze60 H fun b3 w3 H => ?_
  refine WL.nil ?_
  refine CW.seq (CW.reg ?_)
  refine WL.ev rfl rfl (Ev.lda rfl ag60 sz60 rfl (At.blk (H.rB (i := 0) rfl)) rfl) ?_
  obtain ⟨y1, hy1, hr⟩ := bd hr
  refine WL.call rfl rfl rfl rfl rfl ok108 rfl (sl22Copy_ok hy1 ⟨_, rfl, hI1, (H.rS (i := 2) rfl)⟩) ?_
  rintro _ w4 hE ⟨A3, n3, c3, rfl, hI3, H'⟩
  have H := H.callA H' ⟨fun _ _ _ _ _ h => h, trivial⟩
  refine WL.allocH rfl rfl rfl ze60 H fun b4 w5 H => ?_
  refine WL.stB (i := 4) rfl rfl rfl sz60 rfl rfl rfl rfl (all1 rfl (all1 rfl all0)) H rfl rfl rfl fun w6 H => ?_
  refine WL.nil ?_
  refine CW.seq (CW.seq (CW.reg ?_))
  refine WL.ev rfl rfl (Ev.lda rfl ag60 sz60 rfl (At.blk (H.rB (i := 0) rfl)) rfl) ?_
  obtain ⟨y2, hy2, hr⟩ := bd hr
  refine WL.call rfl rfl rfl rfl rfl ok40 rfl (sIsValidRelation_ok hy2 ⟨_, rfl, hI1, (H.rS (i := 2) rfl)⟩) ?_
  rintro _ w7 hE rfl
  have H := H.ext hE
  refine WL.ev rfl rfl (Ev.not rfl rfl) ?_
  obtain ⟨q1, hm1, hr⟩ := bd hr
  refine WL.cut 5 (fun ρ' w => ∃ (s1 : Bool), s1 = q1 ∧ agree ρ' [(2, .pointer (some ⟨b1, 0, none⟩)), (3, .pointer (some ⟨b2, 0, none⟩)), (4, .pointer (some ⟨b3, 0, none⟩)), (5, .pointer (some ⟨b4, 0, none⟩)), (16, .bool s1)] ∧ HL F0 [] w0 w [Pr.R a0 [.int .i64 a0.N, .slice A1 n1 c1], Pr.R a1 [.int .i64 a1.N, .slice A2 n2 c2], Pr.S a0.Rows (.slice A1 n1 c1), Pr.S a1.Rows (.slice A2 n2 c2)] [It.B b1 60 [.int .i64 a0.N, .slice A1 n1 c1], It.B b2 60 [.int .i64 a1.N, .slice A2 n2 c2], It.B b3 60 [.int .i64 0, .slice none 0 0], It.O 3 y1.Rows (.slice A3 n3 c3), It.B b4 60 [.int .i64 y1.N, .slice A3 n3 c3]]) ?_ ?_
  · skip
    refine WL.mvBN rfl rfl rfl rfl (fun h1 => ?_) (fun h1 => ?_)
    · skip
      have hm1 := ifn h1 hm1
      refine WL.off rfl rfl rfl (WL.off rfl rfl rfl (WL.off rfl rfl rfl (WL.ev rfl rfl (Ev.pickT rfl rfl rfl) (WL.nil ?_))))
      obtain rfl := sm hm1
      exact ⟨true, rfl, ⟨rfl, rfl, rfl, rfl, rfl, trivial⟩, H.keep 4 5⟩
    · skip
      have hm1 := ifp h1 hm1
      refine WL.on rfl rfl (WL.ev rfl rfl (Ev.lda rfl ag60 sz60 rfl (At.blk (H.rB (i := 1) rfl)) rfl) (WL.on rfl rfl ?_))
      obtain ⟨y3, hy3, hm1⟩ := bd hm1
      refine WL.call rfl rfl rfl rfl rfl ok40 rfl (sIsValidRelation_ok hy3 ⟨_, rfl, hI2, (H.rS (i := 3) rfl)⟩) ?_
      rintro _ w8 hE rfl
      have H := H.ext hE
      refine WL.on rfl rfl (WL.ev rfl rfl (Ev.not rfl rfl) (WL.ev rfl rfl (Ev.pickF rfl rfl rfl) (WL.nil ?_)))
      obtain rfl := sm hm1
      exact ⟨(!y3), rfl, ⟨rfl, rfl, rfl, rfl, rfl, trivial⟩, H.keep 4 5⟩
  · rintro ρ' w9 ⟨s1, rfl, hag, H⟩
    obtain ⟨σ, rfl⟩ := ofL_ex hag
    obtain ⟨q2, hm2, hr⟩ := bd hr
    refine WL.cut 7 (fun ρ' w => ∃ (s2 : Bool), s2 = q2 ∧ agree ρ' [(2, .pointer (some ⟨b1, 0, none⟩)), (3, .pointer (some ⟨b2, 0, none⟩)), (4, .pointer (some ⟨b3, 0, none⟩)), (5, .pointer (some ⟨b4, 0, none⟩)), (23, .bool s2)] ∧ HL F0 [] w0 w [Pr.R a0 [.int .i64 a0.N, .slice A1 n1 c1], Pr.R a1 [.int .i64 a1.N, .slice A2 n2 c2], Pr.S a0.Rows (.slice A1 n1 c1), Pr.S a1.Rows (.slice A2 n2 c2)] [It.B b1 60 [.int .i64 a0.N, .slice A1 n1 c1], It.B b2 60 [.int .i64 a1.N, .slice A2 n2 c2], It.B b3 60 [.int .i64 0, .slice none 0 0], It.O 3 y1.Rows (.slice A3 n3 c3), It.B b4 60 [.int .i64 y1.N, .slice A3 n3 c3]]) ?_ ?_
    · skip
      refine WL.mvB rfl rfl rfl rfl (fun h2 => ?_) (fun h2 => ?_)
      · skip
        have hm2 := ifp h2 hm2
        refine WL.off rfl rfl rfl (WL.off rfl rfl rfl (WL.off rfl rfl rfl (WL.off rfl rfl rfl (WL.off rfl rfl rfl (WL.ev rfl rfl (Ev.pickT rfl rfl rfl) (WL.nil ?_))))))
        obtain rfl := sm hm2
        exact ⟨true, rfl, ⟨rfl, rfl, rfl, rfl, rfl, trivial⟩, H.keep 4 5⟩
      · skip
        have hm2 := ifn h2 hm2
        refine WL.on rfl rfl (WL.ev rfl rfl (Ev.fa rfl fo60_0 rfl) (WL.on rfl rfl (WL.ev rfl rfl (Ev.ld rfl ag3 rfl ((H.rB (i := 0) rfl).cell rfl)) (WL.on rfl rfl (WL.ev rfl rfl (Ev.fa rfl fo60_0 rfl) (WL.on rfl rfl (WL.ev rfl rfl (Ev.ld rfl ag3 rfl ((H.rB (i := 1) rfl).cell rfl)) (WL.on rfl rfl (WL.ev rfl rfl (Ev.bin rfl rfl rfl Bin.neq) (WL.ev rfl rfl (Ev.pickF rfl rfl rfl) (WL.nil ?_)))))))))))
        obtain rfl := sm hm2
        exact ⟨(!(decide (a0.N = a1.N))), rfl, ⟨rfl, rfl, rfl, rfl, rfl, trivial⟩, H.keep 4 5⟩
    · rintro ρ' w10 ⟨s2, rfl, hag, H⟩
      obtain ⟨σ, rfl⟩ := ofL_ex hag
      refine WL.nil ?_
      refine CW.condB rfl (fun h3 => ?_) (fun h3 => ?_)
      · skip
        have hr := ifp h3 hr
        refine CW.seq (CW.reg ?_)
        refine WL.ev rfl rfl (Ev.lda rfl ag60 sz60 rfl (At.blk (H.rB (i := 4) rfl)) rfl) ?_
        refine WL.stB (i := 2) rfl rfl rfl sz60 rfl rfl rfl rfl (all1 rfl (all1 rfl all0)) H rfl rfl rfl fun w11 H => ?_
        refine WL.nil ?_
        refine CW.ret ?_
        obtain rfl := sm hr
        exact ⟨_, resC rfl ag60 sz60 rfl rfl (At.blk (H.rB (i := 2) rfl)) rfl, H.ext0, _, _, _, rfl, hI3, H.outM (fr' := []) [false, false, false, true, false] fun _ _ => trivial⟩
      · skip
        have hr := ifn h3 hr
        refine CW.skip ?_
        refine CW.seq (CW.seq (CW.reg ?_))
        refine WL.ev rfl rfl (Ev.as rfl rfl) (WL.nil ?_)
        obtain ⟨q3, hq1, hr⟩ := bd hr
        refine CW.block (CW.loop (α := Nat × (List Int)) (fun ⟨k1, s3⟩ => [(2, .pointer (some ⟨b1, 0, none⟩)), (3, .pointer (some ⟨b2, 0, none⟩)), (4, .pointer (some ⟨b3, 0, none⟩)), (5, .pointer (some ⟨b4, 0, none⟩)), (6, .int .i64 (k1 : Int))]) (fun ⟨k1, s3⟩ w => k1 ≤ a0.N.toNat ∧ eachN (sUnionRelation_L1 a1) k1 (a0.N.toNat - k1) s3 = some q3 ∧ HL F0 [] w0 w [Pr.R a0 [.int .i64 a0.N, .slice A1 n1 c1], Pr.R a1 [.int .i64 a1.N, .slice A2 n2 c2], Pr.S a0.Rows (.slice A1 n1 c1), Pr.S a1.Rows (.slice A2 n2 c2)] [It.B b1 60 [.int .i64 a0.N, .slice A1 n1 c1], It.B b2 60 [.int .i64 a1.N, .slice A2 n2 c2], It.B b3 60 [.int .i64 0, .slice none 0 0], It.O 3 s3 (.slice A3 n3 c3), It.B b4 60 [.int .i64 y1.N, .slice A3 n3 c3]]) (fun ⟨k1, s3⟩ => a0.N.toNat - k1) ⟨0, y1.Rows⟩ ⟨rfl, rfl, rfl, rfl, rfl, trivial⟩ ⟨Nat.zero_le _, hq1, H.keep 4 5⟩ ?_)
        rintro ⟨k1, s3⟩ σ w12 ⟨hk1, hq1, H⟩
        refine CW.seq (CW.seq (CW.reg ?_))
        refine WL.ev rfl rfl (Ev.mv rfl rfl) (WL.ev rfl rfl (Ev.fa rfl fo60_0 rfl) (WL.ev rfl rfl (Ev.ld rfl ag3 rfl ((H.rB (i := 0) rfl).cell rfl)) (WL.ev rfl rfl (Ev.bin rfl rfl rfl Bin.lss) (WL.nil ?_))))
        refine CW.condD rfl (fun h4 => ?_) (fun h4 => ?_)
        · skip
          have hk2 := toNat_lt h4
          obtain ⟨z1, hb1, hq1⟩ := eachN_go hq1 hk2
          refine CW.skip ?_
          refine CW.seq (CW.block (CW.quietT 15 hmix (by kernel_rfl) ?_))
          refine QL.ev rfl rfl (fun _ _ => Ev.fa rfl fo60_1 rfl) (QL.ev rfl rfl (fun _ hq => Ev.ld rfl ag41 rfl (((H.ext hq).rB (i := 4) rfl).cell rfl)) (QL.ev rfl rfl (fun _ _ => Ev.mv rfl rfl) (QL.ev rfl rfl (fun _ _ => Ev.fa rfl fo60_1 rfl) (QL.ev rfl rfl (fun _ hq => Ev.ld rfl ag41 rfl (((H.ext hq).rB (i := 4) rfl).cell rfl)) (QL.ev rfl rfl (fun _ _ => Ev.mv rfl rfl) ?_)))))
          obtain ⟨x1, hx1, hb1⟩ := bd hb1
          obtain ⟨b5, cb5, hvb5, hbb5⟩ := H.ptO (i := 3) rfl hx1
          refine QL.ev rfl rfl (fun _ _ => Ev.ixVN rfl el41 sz3 rfl hvb5 rfl (lt_of hx1)) ?_
          obtain ⟨hA1, hI4, H⟩ := elO_Int H (i := 3) rfl hx1 hbb5
          refine QL.ev rfl rfl (fun _ hq => Ev.ld rfl ag3 rfl ((hA1.ext hq).cell0 rfl)) (QL.ev rfl rfl (fun _ _ => Ev.fa rfl fo60_1 rfl) (QL.ev rfl rfl (fun _ hq => Ev.ld rfl ag41 rfl (((H.ext hq).rB (i := 1) rfl).cell rfl)) (QL.ev rfl rfl (fun _ _ => Ev.mv rfl rfl) ?_)))
          obtain ⟨x2, hx2, hb1⟩ := bd hb1
          obtain ⟨b6, ob6, cb6, hvb6, hI5, H⟩ := ixS_Int H (i := 3) rfl hx2
          refine QL.ev rfl rfl (fun _ _ => Ev.ixVN rfl el41 sz3 rfl hvb6 rfl (lt_of hx2)) (QL.ev rfl rfl (fun _ hq => Ev.ld rfl ag3 rfl (((H.ext hq).rA (i := 5) rfl).cell0 rfl)) ?_)
          obtain ⟨hg1, hb1⟩ := grd_some hb1
          refine QL.ev rfl rfl (fun _ _ => Ev.bin rfl rfl rfl (Bin.orI hg1.1 hI4.2 hg1.2 hI5.2)) ?_
          obtain ⟨b7, cb7, hvb7, hbb7⟩ := H.ptO (i := 3) rfl hx1
          refine QL.ev rfl rfl (fun _ _ => Ev.ixVN rfl el41 sz3 rfl hvb7 rfl (lt_of hx1)) (QL.nil (fun w13 hE => ?_))
          have H := H.ext hE
          refine WL.stOf (i := 3) (z := ((x1.toNat ||| x2.toNat : Nat) : Int)) rfl rfl rfl sz3 rfl rfl rfl (fun _ => ⟨rfl, rfl, (i64_or hg1 hI4 hI5)⟩) H rfl hbb7 (by simpa using lt_of hx1) fun w14 H => ?_
          refine WL.nil ?_
          refine CW.reg ?_
          refine WL.ev rfl rfl (Ev.mv rfl rfl) (WL.ev rfl rfl (Ev.bin rfl rfl rfl (Bin.addN (a := k1) (b := 1) rfl (i64_succNI h4 hI1.2))) (WL.ev rfl rfl (Ev.as rfl rfl) (WL.nil ?_)))
          obtain rfl := sm hb1
          exact ⟨⟨k1 + 1, (List.set s3 k1 ((x1.toNat ||| x2.toNat : Nat) : Int))⟩, ⟨rfl, rfl, rfl, rfl, rfl, trivial⟩, ⟨hk2, hq1, H.keep 4 5⟩, Nat.sub_lt_sub_left hk2 (Nat.lt_succ_self _)⟩
        · skip
          obtain rfl := eachN_end hq1 (not_toNat_lt h4)
          refine CW.exit ?_
          refine CW.seq (CW.reg ?_)
          refine WL.ev rfl rfl (Ev.lda rfl ag60 sz60 rfl (At.blk (H.rB (i := 4) rfl)) rfl) ?_
          refine WL.stB (i := 2) rfl rfl rfl sz60 rfl rfl rfl rfl (all1 rfl (all1 rfl all0)) H rfl rfl rfl fun w15 H => ?_
          refine WL.nil ?_
          refine CW.ret ?_
          obtain rfl := sm hr
          exact ⟨_, resC rfl ag60 sz60 rfl rfl (At.blk (H.rB (i := 2) rfl)) rfl, H.ext0, _, _, _, rfl, hI3, H.outM (fr' := []) [false, false, false, true, false] fun _ _ => trivial⟩

noncomputable def sDrawProjectRelation_L1 (y1 : l1Cur) (y2 : Relation) : Nat → ((List Int) × Int × Int) → Option ((List Int) × Int × Int) := fun k1 (s1, s2, s3) => 
  grd (I64 (y2.N + 2)) <|
  (sl1Below_m (y2.N + 2) (⟨y1.b, s2, s3⟩ : l1Cur)).bind fun (y4, z4) =>
  grd (I64 (y4 - 1)) <|
  grd (((s1.length : Int) + 1) * 8 ≤ 140737488355328 ∧ (s1.length : Int) + 1 ≤ 9223372036854775807) <|
  some ((s1 ++ [(y4 - 1)]), z4.i, z4.h)
noncomputable def sDrawProjectRelation_m (a0 : (List UInt8)) : Option (Relation × (List Int)) :=
  (sl1New_m a0).bind fun y1 =>
  (sl22Draw_m y1).bind fun (y2, z1) =>
  (sl1PickInt_m ([0, 1, 2, 3, 4, 16, 17] : List Int) (⟨y1.b, z1.i, z1.h⟩ : l1Cur)).bind fun (y3, z2) =>
  (eachN (sDrawProjectRelation_L1 y1 y2) 0 (y3.toNat) (([] : List Int), z2.i, z2.h)).bind fun (s1, s2, s3) =>
  some (y2, s1)
theorem sDrawProjectRelation_ok {a0 : (List UInt8)} {r : (Relation × (List Int))} (hr : sDrawProjectRelation_m a0 = some r) {F0 : Nat → Prop} {w0 : World} {z0 : Value} (ha0 : rdS F0 w0 a0 z0) :
    Ret Try.prog 51 #[z0] w0 (fun _ => False) fun v w => ∃ A0 : Option Addr, ∃ n0 c0 : Nat, ∃ A1 : Option Addr, ∃ n1 c1 : Nat, v = .tuple #[.agg #[.int .i64 r.1.N, (.slice A0 n0 c0)], (.slice A1 n1 c1)] ∧ I64 r.1.N ∧ HL F0 [] w0 w [] [It.O 3 r.1.Rows (.slice A0 n0 c0), It.O 3 r.2 (.slice A1 n1 c1)] := by
  obtain ⟨A0', n0', c0', rfl⟩ := ha0.form3
  have H := (HL.start F0 w0).argS ha0
  refine enter Try.func51 rfl rfl rfl ?_
  refine CW.seq (CW.reg ?_)
  refine WL.allocH rfl rfl rfl ze60 H fun b1 w1 H => ?_
  refine WL.ev rfl rfl (Ev.as rfl rfl) (WL.nil ?_)
  refine CW.seq (CW.reg ?_)
  refine WL.ev rfl rfl (Ev.mv rfl rfl) ?_
  obtain ⟨y1, hy1, hr⟩ := bd hr
  obtain ⟨F, hF, hcl⟩ := H.call
  refine WL.call rfl rfl rfl rfl rfl ok83 rfl (sl1New_ok hy1 (hF.get (i := 0) rfl)) ?_
  rintro _ w2 hE ⟨b2, A1, n1, c1, rfl, hI1, hI2, H'⟩
  have H : HL F0 [] w0 w2 [Pr.S a0 (.slice A0' n0' c0'), Pr.S y1.b (.slice A1 n1 c1)] [It.B b1 60 [.int .i64 0, .slice none 0 0], It.B b2 159 [.slice A1 n1 c1, .int .i64 y1.i, .int .i64 y1.h]] := hcl H'
  refine WL.ev rfl rfl (Ev.as rfl rfl) (WL.nil ?_)
  refine CW.seq (CW.reg ?_)
  refine WL.ev rfl rfl (Ev.mv rfl rfl) ?_
  obtain ⟨⟨y2, z1⟩, hy2, hr⟩ := bd hr
  obtain ⟨F', M', hfF, hoF, hcM⟩ := H.callN [false, true] ⟨noB, trivial⟩
  obtain ⟨H', hcN⟩ := hcM (ps := [Pr.S y1.b (.slice A1 n1 c1)]) ⟨hfF.get (i := 1) rfl, trivial⟩
  refine WL.call rfl rfl rfl rfl rfl ok105 rfl (sl22Draw_ok hy2 hI1 hI2 H') ?_
  rintro _ w3 hE ⟨A2, n2, c2, rfl, hI3, hI4, hI5, H'⟩
  have H := hcN 1 H' rfl ⟨fun _ _ _ _ _ h => h, ⟨fun _ _ _ _ _ h => h, trivial⟩⟩
  refine WL.allocH rfl rfl rfl ze60 H fun b3 w4 H => ?_
  refine WL.stB (i := 3) rfl rfl rfl sz60 rfl rfl rfl rfl (all1 rfl (all1 rfl all0)) H rfl rfl rfl fun w5 H => ?_
  refine WL.nil ?_
  refine CW.seq (CW.reg ?_)
  refine WL.lit0H (α := Int) rfl rfl rfl el41 sz3 H fun A3 n3 c3 w6 H => ?_
  refine WL.ev rfl rfl (Ev.as rfl rfl) (WL.nil ?_)
  refine CW.seq (CW.reg ?_)
  refine WL.ev rfl rfl (Ev.mv rfl rfl) ?_
  refine WL.litN (xs := ([0, 1, 2, 3, 4, 16, 17] : List Int)) rfl rfl rfl el41 sz3 ze3 rfl (ball1 rfl (ball1 rfl (ball1 rfl (ball1 rfl (ball1 rfl (ball1 rfl (ball1 rfl ball0))))))) rfl rfl rfl (fun _ => (ownL.cons1 (α := Int) ⟨rfl, rfl, (by decide : I64 0)⟩ (ownL.cons1 (α := Int) ⟨rfl, rfl, (by decide : I64 1)⟩ (ownL.cons1 (α := Int) ⟨rfl, rfl, (by decide : I64 2)⟩ (ownL.cons1 (α := Int) ⟨rfl, rfl, (by decide : I64 3)⟩ (ownL.cons1 (α := Int) ⟨rfl, rfl, (by decide : I64 4)⟩ (ownL.cons1 (α := Int) ⟨rfl, rfl, (by decide : I64 16)⟩ (ownL.cons1 (α := Int) ⟨rfl, rfl, (by decide : I64 17)⟩ ⟨rfl, rfl⟩)))))))) rfl H fun A4 n4 c4 w7 H => ?_
  obtain ⟨⟨y3, z2⟩, hy3, hr⟩ := bd hr
  obtain ⟨F', M', hfF, hoF, hcM⟩ := H.callN [false, true, false, false, false, false] ⟨noB, trivial⟩
  obtain ⟨H', hcN⟩ := hcM (ps := [Pr.S ([0, 1, 2, 3, 4, 16, 17] : List Int) (.slice A4 n4 c4), Pr.S y1.b (.slice A1 n1 c1)]) ⟨roO (hoF 4 _ rfl), hfF.get (i := 1) rfl, trivial⟩
  refine WL.call rfl rfl rfl rfl rfl ok116 rfl (sl1PickInt_ok hy3 hI4 hI5 H') ?_
  rintro _ w8 hE ⟨rfl, hI6, hI7, hI8, H'⟩
  have H := hcN 1 H' rfl ⟨fun _ _ _ _ _ h => h, trivial⟩
  refine WL.ev rfl rfl (Ev.as rfl rfl) (WL.nil ?_)
  refine CW.seq (CW.seq (CW.reg ?_))
  refine WL.ev rfl rfl (Ev.as rfl rfl) (WL.nil ?_)
  obtain ⟨q1, hq1, hr⟩ := bd hr
  refine CW.block (CW.loop (α := Nat × (List Int) × Int × Int × Value) (fun ⟨k1, s1, s2, s3, v1⟩ => [(2, .pointer (some ⟨b1, 0, none⟩)), (4, .pointer (some ⟨b2, 0, none⟩)), (5, .pointer (some ⟨b3, 0, none⟩)), (6, v1), (7, .int .i64 y3), (8, .int .i64 (k1 : Int))]) (fun ⟨k1, s1, s2, s3, v1⟩ w => k1 ≤ y3.toNat ∧ eachN (sDrawProjectRelation_L1 y1 y2) k1 (y3.toNat - k1) (s1, s2, s3) = some q1 ∧ I64 s2 ∧ I64 s3 ∧ HL F0 [] w0 w [Pr.S a0 (.slice A0' n0' c0'), Pr.S y1.b (.slice A1 n1 c1)] [It.B b1 60 [.int .i64 0, .slice none 0 0], It.B b2 159 [.slice A1 n1 c1, .int .i64 s2, .int .i64 s3], It.O 3 y2.Rows (.slice A2 n2 c2), It.B b3 60 [.int .i64 y2.N, .slice A2 n2 c2], It.O 3 s1 v1, It.O 3 ([0, 1, 2, 3, 4, 16, 17] : List Int) (.slice A4 n4 c4)]) (fun ⟨k1, s1, s2, s3, v1⟩ => y3.toNat - k1) ⟨0, ([] : List Int), z2.i, z2.h, (.slice A3 n3 c3)⟩ ⟨rfl, rfl, rfl, rfl, rfl, rfl, trivial⟩ ⟨Nat.zero_le _, hq1, hI7, hI8, H.keep 2 6⟩ ?_)
  rintro ⟨k1, s1, s2, s3, v1⟩ σ w9 ⟨hk1, hq1, hI9, hI10, H⟩
  obtain ⟨A5, n5, c5, rfl⟩ := (H.rO (i := 4) rfl).form3
  refine CW.seq (CW.seq (CW.reg ?_))
  refine WL.ev rfl rfl (Ev.mv rfl rfl) (WL.ev rfl rfl (Ev.mv rfl rfl) (WL.ev rfl rfl (Ev.bin rfl rfl rfl Bin.lss) (WL.nil ?_)))
  refine CW.condD rfl (fun h1 => ?_) (fun h1 => ?_)
  · skip
    have hk2 := toNat_lt h1
    obtain ⟨z3, hb1, hq1⟩ := eachN_go hq1 hk2
    refine CW.skip ?_
    refine CW.seq (CW.block (CW.reg ?_))
    refine WL.ev rfl rfl (Ev.mv rfl rfl) (WL.ev rfl rfl (Ev.mv rfl rfl) (WL.ev rfl rfl (Ev.fa rfl fo60_0 rfl) (WL.ev rfl rfl (Ev.ld rfl ag3 rfl ((H.rB (i := 3) rfl).cell rfl)) ?_)))
    obtain ⟨hg1, hb1⟩ := grd_some hb1
    refine WL.ev rfl rfl (Ev.bin rfl rfl rfl (Bin.add hg1)) ?_
    obtain ⟨⟨y4, z4⟩, hy4, hb1⟩ := bd hb1
    obtain ⟨F', M', hfF, hoF, hcM⟩ := H.callN [false, true, false, false, false, false] ⟨noB, trivial⟩
    obtain ⟨H', hcN⟩ := hcM (ps := [Pr.S y1.b (.slice A1 n1 c1)]) ⟨hfF.get (i := 1) rfl, trivial⟩
    refine WL.call rfl rfl rfl rfl rfl ok86 rfl (sl1Below_ok hy4 hg1 hI9 hI10 H') ?_
    rintro _ w10 hE ⟨rfl, hI11, hI12, hI13, H'⟩
    have H := hcN 1 H' rfl ⟨fun _ _ _ _ _ h => h, trivial⟩
    obtain ⟨hg2, hb1⟩ := grd_some hb1
    refine WL.ev rfl rfl (Ev.bin rfl rfl rfl (Bin.sub hg2)) ?_
    refine WL.lit1 rfl rfl rfl el41 sz3 ze3 rfl rfl rfl rfl rfl rfl fun b4 w11 hE hb hB => ?_
    have H := H.newB hE hb hB
    obtain ⟨hg3, hb1⟩ := grd_some hb1
    refine WL.appO (i := 4) (ys := [(y4 - 1)]) rfl rfl rfl el41 sz3 by3 ze3 rfl rfl rfl H rfl (fun _ => ownL.single ⟨rfl, rfl, hg2⟩) (.inr ⟨_, _, rfl, At.blk (H.rB (i := 6) rfl)⟩) hg3 fun A6 n6 c6 w12 H => ?_
    refine WL.ev rfl rfl (Ev.as rfl rfl) (WL.nil ?_)
    refine CW.reg ?_
    refine WL.ev rfl rfl (Ev.mv rfl rfl) (WL.ev rfl rfl (Ev.bin rfl rfl rfl (Bin.addN (a := k1) (b := 1) rfl (i64_succNI h1 hI6.2))) (WL.ev rfl rfl (Ev.as rfl rfl) (WL.nil ?_)))
    obtain rfl := sm hb1
    exact ⟨⟨k1 + 1, (s1 ++ [(y4 - 1)]), z4.i, z4.h, (.slice A6 n6 c6)⟩, ⟨rfl, rfl, rfl, rfl, rfl, rfl, trivial⟩, ⟨hk2, hq1, hI12, hI13, H.keep 2 6⟩, Nat.sub_lt_sub_left hk2 (Nat.lt_succ_self _)⟩
  · skip
    obtain rfl := eachN_end hq1 (not_toNat_lt h1)
    refine CW.exit ?_
    refine CW.seq (CW.reg ?_)
    refine WL.ev rfl rfl (Ev.lda rfl ag60 sz60 rfl (At.blk (H.rB (i := 3) rfl)) rfl) (WL.ev rfl rfl (Ev.mv rfl rfl) ?_)
    refine WL.stB (i := 0) rfl rfl rfl sz60 rfl rfl rfl rfl (all1 rfl (all1 rfl all0)) H rfl rfl rfl fun w13 H => ?_
    refine WL.ev rfl rfl (Ev.as rfl rfl) (WL.nil ?_)
    refine CW.ret ?_
    obtain rfl := sm hr
    exact ⟨_, resC1 rfl ag60 sz60 rfl rfl rfl rfl (At.blk (H.rB (i := 0) rfl)) rfl, H.ext0, _, _, _, _, _, _, rfl, hI3, H.outM (fr' := []) [false, false, true, false, true, false] fun _ _ => trivial⟩

noncomputable def iEmptyRelation_m (a0 : Int) : Option Relation :=
  (iwithin_m a0 0 16).bind fun y1 =>
  if y1 = true then (
  grd (0 ≤ a0 ∧ a0 * 8 ≤ 281474976710656 ∧ a0 ≤ 9223372036854775807) <|
  some (⟨a0, (List.replicate a0.toNat (0 : Int))⟩ : Relation)
  ) else (
  some (⟨0, []⟩ : Relation)
  )
theorem iEmptyRelation_ok {a0 : Int} {r : Relation} (hr : iEmptyRelation_m a0 = some r) {F0 : Nat → Prop} {w0 : World} (ha0 : I64 a0) :
    Ret Try.prog 54 #[.int .i64 a0] w0 (fun _ => False) fun v w => ∃ A0 : Option Addr, ∃ n0 c0 : Nat, v = .agg #[.int .i64 r.N, (.slice A0 n0 c0)] ∧ I64 r.N ∧ HL F0 [] w0 w [] [It.O 3 r.Rows (.slice A0 n0 c0)] := by
  have H := HL.start F0 w0
  refine enter Try.func54 rfl rfl rfl ?_
  refine CW.seq (CW.reg ?_)
  refine WL.allocH rfl rfl rfl ze60 H fun b1 w1 H => ?_
  refine WL.nil ?_
  refine CW.seq (CW.seq (CW.reg ?_))
  refine WL.ev rfl rfl (Ev.mv rfl rfl) ?_
  obtain ⟨y1, hy1, hr⟩ := bd hr
  refine WL.call rfl rfl rfl rfl rfl ok109 rfl (iwithin_ok hy1 (F0 := fun _ => False) ha0 (by decide : I64 0) (by decide : I64 16)) ?_
  rintro _ w2 hE rfl
  have H := H.ext hE
  refine WL.ev rfl rfl (Ev.not rfl rfl) (WL.nil ?_)
  refine CW.condBN rfl (fun h1 => ?_) (fun h1 => ?_)
  · skip
    have hr := ifn h1 hr
    refine CW.seq (CW.reg ?_)
    refine WL.ev rfl rfl (Ev.build rfl pl60 ze60 rfl rfl rfl rfl) ?_
    refine WL.stB (i := 0) rfl rfl rfl sz60 rfl rfl rfl rfl (all1 rfl (all1 rfl all0)) H rfl rfl rfl fun w3 H => ?_
    refine WL.nil ?_
    refine CW.ret ?_
    have H := H.nil (α := Int) 3
    obtain rfl := sm hr
    exact ⟨_, resC rfl ag60 sz60 rfl rfl (At.blk (H.rB (i := 0) rfl)) rfl, H.ext0, _, _, _, rfl, (by decide : I64 0), H.outM (fr' := []) [false, true] fun _ _ => trivial⟩
  · skip
    have hr := ifp h1 hr
    refine CW.skip ?_
    refine CW.seq (CW.reg ?_)
    refine WL.ev rfl rfl (Ev.mv rfl rfl) (WL.ev rfl rfl (Ev.mv rfl rfl) ?_)
    obtain ⟨hg1, hr⟩ := grd_some hr
    refine WL.mkH (x := (0 : Int)) rfl rfl rfl el41 sz3 by3 ze3 (fun _ => ⟨rfl, rfl, (by decide : I64 0)⟩) rfl rfl hg1 H fun A1 n1 c1 w4 H => ?_
    refine WL.ev rfl rfl (Ev.build rfl pl60 ze60 rfl rfl rfl rfl) ?_
    refine WL.stB (i := 0) rfl rfl rfl sz60 rfl rfl rfl rfl (all1 rfl (all1 rfl all0)) H rfl rfl rfl fun w5 H => ?_
    refine WL.nil ?_
    refine CW.ret ?_
    obtain rfl := sm hr
    exact ⟨_, resC rfl ag60 sz60 rfl rfl (At.blk (H.rB (i := 0) rfl)) rfl, H.ext0, _, _, _, rfl, ha0, H.outM (fr' := []) [false, true] fun _ _ => trivial⟩

noncomputable def iProjectRelation_L2 (a0 : Relation) (k1 : Nat) (x1 : Int) : Nat → Int → (List Int) → Option (List Int) := fun k2 x2 s2 => 
  (
  (iHasPair_m a0 x1 x2).bind fun y3 =>
  if y3 = true then (
  (s2[k1]?).bind fun x3 =>
  grd (0 ≤ (k2 : Int) ∧ (k2 : Int) < 63) <|
  grd (0 ≤ x3 ∧ 0 ≤ ((2 ^ (k2 : Int).toNat : Nat) : Int)) <|
  some (List.set s2 k1 ((x3.toNat ||| ((2 ^ (k2 : Int).toNat : Nat) : Int).toNat : Nat) : Int))
  ) else (
  some s2
  )
  ).bind fun s3 =>
  some s3
noncomputable def iProjectRelation_L1 (a0 : Relation) (a1 : (List Int)) : Nat → Int → (List Int) → Option (List Int) := fun k1 x1 s1 => 
  (eachL (iProjectRelation_L2 a0 k1 x1) 0 a1 s1).bind fun s2 =>
  some s2
noncomputable def iProjectRelation_m (a0 : Relation) (a1 : (List Int)) : Option Relation :=
  (iIsValidRelation_m a0).bind fun y1 =>
  if y1 = true then (
  if 16 < (a1.length : Int) then (
  some (⟨0, []⟩ : Relation)
  ) else (
  (iEmptyRelation_m (a1.length : Int)).bind fun y2 =>
  (eachL (iProjectRelation_L1 a0 a1) 0 a1 y2.Rows).bind fun s1 =>
  some (⟨y2.N, s1⟩ : Relation)
  )
  ) else (
  some (⟨0, []⟩ : Relation)
  )
theorem iProjectRelation_ok {a0 : Relation} {a1 : (List Int)} {r : Relation} (hr : iProjectRelation_m a0 a1 = some r) {F0 : Nat → Prop} {w0 : World} {ca0 : List Value} (ha0 : rd F0 w0 a0 ca0) {z1 : Value} (ha1 : rdS F0 w0 a1 z1) :
    Ret Try.prog 52 #[.agg ca0.toArray, z1] w0 (fun _ => False) fun v w => ∃ A0 : Option Addr, ∃ n0 c0 : Nat, v = .agg #[.int .i64 r.N, (.slice A0 n0 c0)] ∧ I64 r.N ∧ HL F0 [] w0 w [] [It.O 3 r.Rows (.slice A0 n0 c0)] := by
  obtain ⟨A1', n1', c1', rfl⟩ := ha1.form3
  have H := ((HL.start F0 w0).argR ha0).argS ha1
  obtain ⟨A1, n1, c1, rfl, hI1, H⟩ := op_Relation H (i := 0) rfl
  refine enter Try.func52 rfl rfl rfl ?_
  refine CW.seq (CW.reg ?_)
  refine WL.boxH rfl rfl rfl rfl rfl H fun b1 w1 H => ?_
  refine WL.allocH rfl rfl rfl ze60 H fun b2 w2 H => ?_
  refine WL.nil ?_
  refine CW.seq (CW.seq (CW.reg ?_))
  refine WL.ev rfl rfl (Ev.lda rfl ag60 sz60 rfl (At.blk (H.rB (i := 0) rfl)) rfl) ?_
  obtain ⟨y1, hy1, hr⟩ := bd hr
  refine WL.call rfl rfl rfl rfl rfl ok39 rfl (iIsValidRelation_ok hy1 ⟨_, rfl, hI1, (H.rS (i := 2) rfl)⟩) ?_
  rintro _ w3 hE rfl
  have H := H.ext hE
  refine WL.ev rfl rfl (Ev.not rfl rfl) ?_
  refine WL.mvBN rfl rfl rfl rfl (fun h1 => ?_) (fun h1 => ?_)
  · skip
    have hr := ifn h1 hr
    refine WL.off rfl rfl rfl (WL.off rfl rfl rfl (WL.off rfl rfl rfl (WL.ev rfl rfl (Ev.pickT rfl rfl rfl) (WL.nil ?_))))
    refine CW.condT rfl ?_
    refine CW.seq (CW.reg ?_)
    refine WL.ev rfl rfl (Ev.build rfl pl60 ze60 rfl rfl rfl rfl) ?_
    refine WL.stB (i := 1) rfl rfl rfl sz60 rfl rfl rfl rfl (all1 rfl (all1 rfl all0)) H rfl rfl rfl fun w4 H => ?_
    refine WL.nil ?_
    refine CW.ret ?_
    have H := H.nil (α := Int) 3
    obtain rfl := sm hr
    exact ⟨_, resC rfl ag60 sz60 rfl rfl (At.blk (H.rB (i := 1) rfl)) rfl, H.ext0, _, _, _, rfl, (by decide : I64 0), H.outM (fr' := []) [false, false, true] fun _ _ => trivial⟩
  · skip
    have hr := ifp h1 hr
    refine WL.on rfl rfl (WL.ev rfl rfl (Ev.mv rfl rfl) (WL.on rfl rfl ?_))
    have hl1 := (H.rS (i := 1) rfl).I
    refine WL.ev rfl rfl (Ev.lenV rfl el41 rfl (H.rS (i := 1) rfl)) (WL.on rfl rfl (WL.ev rfl rfl (Ev.bin rfl rfl rfl Bin.gtr) (WL.ev rfl rfl (Ev.pickF rfl rfl rfl) (WL.nil ?_))))
    refine CW.condD rfl (fun h2 => ?_) (fun h2 => ?_)
    · skip
      have hr := ifp h2 hr
      refine CW.seq (CW.reg ?_)
      refine WL.ev rfl rfl (Ev.build rfl pl60 ze60 rfl rfl rfl rfl) ?_
      refine WL.stB (i := 1) rfl rfl rfl sz60 rfl rfl rfl rfl (all1 rfl (all1 rfl all0)) H rfl rfl rfl fun w5 H => ?_
      refine WL.nil ?_
      refine CW.ret ?_
      have H := H.nil (α := Int) 3
      obtain rfl := sm hr
      exact ⟨_, resC rfl ag60 sz60 rfl rfl (At.blk (H.rB (i := 1) rfl)) rfl, H.ext0, _, _, _, rfl, (by decide : I64 0), H.outM (fr' := []) [false, false, true] fun _ _ => trivial⟩
    · skip
      have hr := ifn h2 hr
      refine CW.skip ?_
      refine CW.seq (CW.reg ?_)
      refine WL.ev rfl rfl (Ev.mv rfl rfl) (WL.ev rfl rfl (Ev.lenV rfl el41 rfl (H.rS (i := 1) rfl)) ?_)
      obtain ⟨y2, hy2, hr⟩ := bd hr
      refine WL.call rfl rfl rfl rfl rfl ok54 rfl (iEmptyRelation_ok hy2 (F0 := fun _ => False) hl1) ?_
      rintro _ w6 hE ⟨A2, n2, c2, rfl, hI2, H'⟩
      have H := H.callA H' ⟨fun _ _ _ _ _ h => h, trivial⟩
      refine WL.allocH rfl rfl rfl ze60 H fun b3 w7 H => ?_
      refine WL.stB (i := 3) rfl rfl rfl sz60 rfl rfl rfl rfl (all1 rfl (all1 rfl all0)) H rfl rfl rfl fun w8 H => ?_
      refine WL.nil ?_
      refine CW.seq (CW.seq (CW.reg ?_))
      refine WL.ev rfl rfl (Ev.mv rfl rfl) (WL.ev rfl rfl (Ev.lenV rfl el41 rfl (H.rS (i := 1) rfl)) (WL.ev rfl rfl (Ev.mv rfl rfl) (WL.nil ?_)))
      obtain ⟨q1, hq1, hr⟩ := bd hr
      refine CW.block (CW.loop (α := Nat × (List Int)) (fun ⟨k1, s1⟩ => [(1, .slice A1' n1' c1'), (2, .pointer (some ⟨b1, 0, none⟩)), (4, .pointer (some ⟨b2, 0, none⟩)), (5, .pointer (some ⟨b3, 0, none⟩)), (22, .slice A1' n1' c1'), (23, .int .i64 (a1.length : Int)), (24, .int .i64 (k1 : Int))]) (fun ⟨k1, s1⟩ w => k1 ≤ a1.length ∧ eachL (iProjectRelation_L1 a0 a1) k1 (a1.drop k1) s1 = some q1 ∧ HL F0 [] w0 w [Pr.R a0 [.int .i64 a0.N, .slice A1 n1 c1], Pr.S a1 (.slice A1' n1' c1'), Pr.S a0.Rows (.slice A1 n1 c1)] [It.B b1 60 [.int .i64 a0.N, .slice A1 n1 c1], It.B b2 60 [.int .i64 0, .slice none 0 0], It.O 3 s1 (.slice A2 n2 c2), It.B b3 60 [.int .i64 y2.N, .slice A2 n2 c2]]) (fun ⟨k1, s1⟩ => a1.length - k1) ⟨0, y2.Rows⟩ ⟨rfl, rfl, rfl, rfl, rfl, rfl, rfl, trivial⟩ ⟨Nat.zero_le _, hq1, H.keep 3 4⟩ ?_)
      rintro ⟨k1, s1⟩ σ w9 ⟨hk1, hq1, H⟩
      refine CW.seq (CW.reg ?_)
      refine WL.ev rfl rfl (Ev.bin rfl rfl rfl Bin.lss) (WL.nil ?_)
      refine CW.seq (CW.condD rfl (fun h3 => ?_) (fun h3 => ?_))
      · skip
        have hk2 := cast_lt h3
        obtain ⟨x1, z1, hx1, hb1, hq1⟩ := eachL_go hq1 hk2
        refine CW.skip ?_
        refine CW.seq (CW.block (CW.seq (CW.reg ?_)))
        refine WL.ev rfl rfl (Ev.mv rfl rfl) ?_
        obtain ⟨b4, ob4, cb4, hvb4, hI3, H⟩ := ixS_Int H (i := 1) rfl hx1
        refine WL.ev rfl rfl (Ev.ixVN rfl el41 sz3 rfl hvb4 rfl (lt_of hx1)) (WL.ev rfl rfl (Ev.ld rfl ag3 rfl ((H.rA (i := 3) rfl).cell0 rfl)) (WL.ev rfl rfl (Ev.as rfl rfl) (WL.ev rfl rfl (Ev.as rfl rfl) (WL.nil ?_))))
        refine CW.seq (CW.reg ?_)
        refine WL.ev rfl rfl (Ev.mv rfl rfl) (WL.ev rfl rfl (Ev.lenV rfl el41 rfl (H.rS (i := 1) rfl)) (WL.ev rfl rfl (Ev.mv rfl rfl) (WL.nil ?_)))
        obtain ⟨q2, hq2, hb1⟩ := bd hb1
        refine CW.block (CW.loop (α := Nat × (List Int)) (fun ⟨k2, s2⟩ => [(1, .slice A1' n1' c1'), (2, .pointer (some ⟨b1, 0, none⟩)), (4, .pointer (some ⟨b2, 0, none⟩)), (5, .pointer (some ⟨b3, 0, none⟩)), (6, .int .i64 (k1 : Int)), (7, .int .i64 x1), (22, .slice A1' n1' c1'), (23, .int .i64 (a1.length : Int)), (24, .int .i64 (k1 : Int)), (29, .slice A1' n1' c1'), (30, .int .i64 (a1.length : Int)), (31, .int .i64 (k2 : Int))]) (fun ⟨k2, s2⟩ w => k2 ≤ a1.length ∧ eachL (iProjectRelation_L2 a0 k1 x1) k2 (a1.drop k2) s2 = some q2 ∧ HL F0 [] w0 w [Pr.R a0 [.int .i64 a0.N, .slice A1 n1 c1], Pr.S a1 (.slice A1' n1' c1'), Pr.S a0.Rows (.slice A1 n1 c1), Pr.A b4 (ob4 + k1 * 1) [.int .i64 x1], Pr.R x1 [.int .i64 x1]] [It.B b1 60 [.int .i64 a0.N, .slice A1 n1 c1], It.B b2 60 [.int .i64 0, .slice none 0 0], It.O 3 s2 (.slice A2 n2 c2), It.B b3 60 [.int .i64 y2.N, .slice A2 n2 c2]]) (fun ⟨k2, s2⟩ => a1.length - k2) ⟨0, s1⟩ ⟨rfl, rfl, rfl, rfl, rfl, rfl, rfl, rfl, rfl, rfl, rfl, rfl, trivial⟩ ⟨Nat.zero_le _, hq2, H.keep 5 4⟩ ?_)
        rintro ⟨k2, s2⟩ σ w10 ⟨hk3, hq2, H⟩
        refine CW.seq (CW.reg ?_)
        refine WL.ev rfl rfl (Ev.bin rfl rfl rfl Bin.lss) (WL.nil ?_)
        refine CW.seq (CW.condD rfl (fun h4 => ?_) (fun h4 => ?_))
        · skip
          have hk4 := cast_lt h4
          obtain ⟨x2, z2, hx2, hb2, hq2⟩ := eachL_go hq2 hk4
          refine CW.skip ?_
          obtain ⟨q3, hm1, hb2⟩ := bd hb2
          refine CW.seq (CW.mid (fun ρ' w => ∃ (s3 : List Int), s3 = q3 ∧ agree ρ' [(1, .slice A1' n1' c1'), (2, .pointer (some ⟨b1, 0, none⟩)), (4, .pointer (some ⟨b2, 0, none⟩)), (5, .pointer (some ⟨b3, 0, none⟩)), (6, .int .i64 (k1 : Int)), (7, .int .i64 x1), (22, .slice A1' n1' c1'), (23, .int .i64 (a1.length : Int)), (24, .int .i64 (k1 : Int)), (29, .slice A1' n1' c1'), (30, .int .i64 (a1.length : Int)), (31, .int .i64 (k2 : Int))] ∧ HL F0 [] w0 w [Pr.R a0 [.int .i64 a0.N, .slice A1 n1 c1], Pr.S a1 (.slice A1' n1' c1'), Pr.S a0.Rows (.slice A1 n1 c1), Pr.A b4 (ob4 + k1 * 1) [.int .i64 x1], Pr.R x1 [.int .i64 x1]] [It.B b1 60 [.int .i64 a0.N, .slice A1 n1 c1], It.B b2 60 [.int .i64 0, .slice none 0 0], It.O 3 s3 (.slice A2 n2 c2), It.B b3 60 [.int .i64 y2.N, .slice A2 n2 c2]]) ?_ ?_)
          · skip
            refine CW.block (CW.seq (CW.reg ?_))
            refine WL.ev rfl rfl (Ev.mv rfl rfl) ?_
            obtain ⟨b5, ob5, cb5, hvb5, hI4, H⟩ := ixS_Int H (i := 1) rfl hx2
            refine WL.ev rfl rfl (Ev.ixVN rfl el41 sz3 rfl hvb5 rfl (lt_of hx2)) (WL.ev rfl rfl (Ev.ld rfl ag3 rfl ((H.rA (i := 5) rfl).cell0 rfl)) (WL.ev rfl rfl (Ev.as rfl rfl) (WL.ev rfl rfl (Ev.as rfl rfl) (WL.nil ?_))))
            refine CW.seq (CW.reg ?_)
            refine WL.ev rfl rfl (Ev.lda rfl ag60 sz60 rfl (At.blk (H.rB (i := 0) rfl)) rfl) (WL.ev rfl rfl (Ev.mv rfl rfl) (WL.ev rfl rfl (Ev.mv rfl rfl) ?_))
            obtain ⟨y3, hy3, hm1⟩ := bd hm1
            refine WL.call rfl rfl rfl rfl rfl ok43 rfl (iHasPair_ok hy3 ⟨_, rfl, hI1, (H.rS (i := 2) rfl)⟩ hI3 hI4) ?_
            rintro _ w11 hE rfl
            have H := H.ext hE
            refine WL.nil ?_
            refine CW.condB rfl (fun h5 => ?_) (fun h5 => ?_)
            · skip
              have hm1 := ifp h5 hm1
              refine CW.reg ?_
              refine WL.ev rfl rfl (Ev.fa rfl fo60_1 rfl) (WL.ev rfl rfl (Ev.ld rfl ag41 rfl ((H.rB (i := 3) rfl).cell rfl)) (WL.ev rfl rfl (Ev.mv rfl rfl) ?_))
              obtain ⟨x3, hx3, hm1⟩ := bd hm1
              obtain ⟨b6, cb6, hvb6, hbb6⟩ := H.ptO (i := 2) rfl hx3
              refine WL.ev rfl rfl (Ev.ixVN rfl el41 sz3 rfl hvb6 rfl (lt_of hx3)) ?_
              obtain ⟨hA1, hI5, H⟩ := elO_Int H (i := 2) rfl hx3 hbb6
              refine WL.ev rfl rfl (Ev.ld rfl ag3 rfl (hA1.cell0 rfl)) (WL.ev rfl rfl (Ev.mv rfl rfl) (WL.ev rfl rfl (Ev.convUI rfl Try.underlying3 it130 rfl (Int.natCast_nonneg _) (i64_nat hk4 hl1).2) ?_))
              obtain ⟨hg1, hm1⟩ := grd_some hm1
              refine WL.ev rfl rfl (Ev.bin rfl rfl rfl (Bin.shlI hg1.1 hg1.2)) ?_
              obtain ⟨hg2, hm1⟩ := grd_some hm1
              refine WL.ev rfl rfl (Ev.bin rfl rfl rfl (Bin.orI hg2.1 hI5.2 hg2.2 (i64_pow hg1.2).2)) ?_
              obtain ⟨b7, cb7, hvb7, hbb7⟩ := H.ptO (i := 2) rfl hx3
              refine WL.ev rfl rfl (Ev.ixVN rfl el41 sz3 rfl hvb7 rfl (lt_of hx3)) ?_
              refine WL.stOf (i := 2) (z := ((x3.toNat ||| ((2 ^ (k2 : Int).toNat : Nat) : Int).toNat : Nat) : Int)) rfl rfl rfl sz3 rfl rfl rfl (fun _ => ⟨rfl, rfl, (i64_or hg2 hI5 (i64_pow hg1.2))⟩) H rfl hbb7 (by simpa using lt_of hx3) fun w12 H => ?_
              refine WL.nil ?_
              obtain rfl := sm hm1
              exact ⟨(List.set s2 k1 ((x3.toNat ||| ((2 ^ (k2 : Int).toNat : Nat) : Int).toNat : Nat) : Int)), rfl, ⟨rfl, rfl, rfl, rfl, rfl, rfl, rfl, rfl, rfl, rfl, rfl, rfl, trivial⟩, H.keep 5 4⟩
            · skip
              have hm1 := ifn h5 hm1
              refine CW.skip ?_
              obtain rfl := sm hm1
              exact ⟨s2, rfl, ⟨rfl, rfl, rfl, rfl, rfl, rfl, rfl, rfl, rfl, rfl, rfl, rfl, trivial⟩, H.keep 5 4⟩
          · rintro ρ' w13 ⟨s3, rfl, hag, H⟩
            obtain ⟨σ, rfl⟩ := ofL_ex hag
            refine CW.reg ?_
            refine WL.ev rfl rfl (Ev.bin rfl rfl rfl (Bin.addN (a := k2) (b := 1) rfl (i64_succN hk4 hl1.2))) (WL.ev rfl rfl (Ev.mv rfl rfl) (WL.nil ?_))
            obtain rfl := sm hb2
            exact ⟨⟨k2 + 1, s3⟩, ⟨rfl, rfl, rfl, rfl, rfl, rfl, rfl, rfl, rfl, rfl, rfl, rfl, trivial⟩, ⟨hk4, hq2, H.keep 5 4⟩, Nat.sub_lt_sub_left hk4 (Nat.lt_succ_self _)⟩
        · skip
          obtain rfl := eachL_end hq2 (not_cast_lt h4)
          refine CW.exit ?_
          refine CW.reg ?_
          refine WL.ev rfl rfl (Ev.bin rfl rfl rfl (Bin.addN (a := k1) (b := 1) rfl (i64_succN hk2 hl1.2))) (WL.ev rfl rfl (Ev.mv rfl rfl) (WL.nil ?_))
          obtain rfl := sm hb1
          exact ⟨⟨k1 + 1, s2⟩, ⟨rfl, rfl, rfl, rfl, rfl, rfl, rfl, trivial⟩, ⟨hk2, hq1, H.keep 3 4⟩, Nat.sub_lt_sub_left hk2 (Nat.lt_succ_self _)⟩
      · skip
        obtain rfl := eachL_end hq1 (not_cast_lt h3)
        refine CW.exit ?_
        refine CW.seq (CW.reg ?_)
        refine WL.ev rfl rfl (Ev.lda rfl ag60 sz60 rfl (At.blk (H.rB (i := 3) rfl)) rfl) ?_
        refine WL.stB (i := 1) rfl rfl rfl sz60 rfl rfl rfl rfl (all1 rfl (all1 rfl all0)) H rfl rfl rfl fun w14 H => ?_
        refine WL.nil ?_
        refine CW.ret ?_
        obtain rfl := sm hr
        exact ⟨_, resC rfl ag60 sz60 rfl rfl (At.blk (H.rB (i := 1) rfl)) rfl, H.ext0, _, _, _, rfl, hI2, H.outM (fr' := []) [false, false, true, false] fun _ _ => trivial⟩

noncomputable def sProjectRelation_L2 (a0 : Relation) (k1 : Nat) (x1 : Int) : Nat → Int → (List Int) → Option (List Int) := fun k2 x2 s2 => 
  (
  (sHasPair_m a0 x1 x2).bind fun y3 =>
  if y3 = true then (
  (s2[k1]?).bind fun x3 =>
  grd (0 ≤ (k2 : Int) ∧ (k2 : Int) < 63) <|
  grd (0 ≤ x3 ∧ 0 ≤ ((2 ^ (k2 : Int).toNat : Nat) : Int)) <|
  some (List.set s2 k1 ((x3.toNat ||| ((2 ^ (k2 : Int).toNat : Nat) : Int).toNat : Nat) : Int))
  ) else (
  some s2
  )
  ).bind fun s3 =>
  some s3
noncomputable def sProjectRelation_L1 (a0 : Relation) (a1 : (List Int)) : Nat → Int → (List Int) → Option (List Int) := fun k1 x1 s1 => 
  (eachL (sProjectRelation_L2 a0 k1 x1) 0 a1 s1).bind fun s2 =>
  some s2
noncomputable def sProjectRelation_m (a0 : Relation) (a1 : (List Int)) : Option Relation :=
  (sIsValidRelation_m a0).bind fun y1 =>
  if y1 = true then (
  if 16 < (a1.length : Int) then (
  some (⟨0, []⟩ : Relation)
  ) else (
  (sEmptyRelation_m (a1.length : Int)).bind fun y2 =>
  (eachL (sProjectRelation_L1 a0 a1) 0 a1 y2.Rows).bind fun s1 =>
  some (⟨y2.N, s1⟩ : Relation)
  )
  ) else (
  some (⟨0, []⟩ : Relation)
  )
theorem sProjectRelation_ok {a0 : Relation} {a1 : (List Int)} {r : Relation} (hr : sProjectRelation_m a0 a1 = some r) {F0 : Nat → Prop} {w0 : World} {ca0 : List Value} (ha0 : rd F0 w0 a0 ca0) {z1 : Value} (ha1 : rdS F0 w0 a1 z1) :
    Ret Try.prog 53 #[.agg ca0.toArray, z1] w0 (fun _ => False) fun v w => ∃ A0 : Option Addr, ∃ n0 c0 : Nat, v = .agg #[.int .i64 r.N, (.slice A0 n0 c0)] ∧ I64 r.N ∧ HL F0 [] w0 w [] [It.O 3 r.Rows (.slice A0 n0 c0)] := by
  obtain ⟨A1', n1', c1', rfl⟩ := ha1.form3
  have H := ((HL.start F0 w0).argR ha0).argS ha1
  obtain ⟨A1, n1, c1, rfl, hI1, H⟩ := op_Relation H (i := 0) rfl
  refine enter Try.func53 rfl rfl rfl ?_
  refine CW.seq (CW.reg ?_)
  refine WL.boxH rfl rfl rfl rfl rfl H fun b1 w1 H => ?_
  refine WL.allocH rfl rfl rfl ze60 H fun b2 w2 H => ?_
  refine WL.nil ?_
  refine CW.seq (CW.seq (CW.reg ?_))
  refine WL.ev rfl rfl (Ev.lda rfl ag60 sz60 rfl (At.blk (H.rB (i := 0) rfl)) rfl) ?_
  obtain ⟨y1, hy1, hr⟩ := bd hr
  refine WL.call rfl rfl rfl rfl rfl ok40 rfl (sIsValidRelation_ok hy1 ⟨_, rfl, hI1, (H.rS (i := 2) rfl)⟩) ?_
  rintro _ w3 hE rfl
  have H := H.ext hE
  refine WL.ev rfl rfl (Ev.not rfl rfl) ?_
  refine WL.mvBN rfl rfl rfl rfl (fun h1 => ?_) (fun h1 => ?_)
  · skip
    have hr := ifn h1 hr
    refine WL.off rfl rfl rfl (WL.off rfl rfl rfl (WL.off rfl rfl rfl (WL.ev rfl rfl (Ev.pickT rfl rfl rfl) (WL.nil ?_))))
    refine CW.condT rfl ?_
    refine CW.seq (CW.reg ?_)
    refine WL.ev rfl rfl (Ev.build rfl pl60 ze60 rfl rfl rfl rfl) ?_
    refine WL.stB (i := 1) rfl rfl rfl sz60 rfl rfl rfl rfl (all1 rfl (all1 rfl all0)) H rfl rfl rfl fun w4 H => ?_
    refine WL.nil ?_
    refine CW.ret ?_
    have H := H.nil (α := Int) 3
    obtain rfl := sm hr
    exact ⟨_, resC rfl ag60 sz60 rfl rfl (At.blk (H.rB (i := 1) rfl)) rfl, H.ext0, _, _, _, rfl, (by decide : I64 0), H.outM (fr' := []) [false, false, true] fun _ _ => trivial⟩
  · skip
    have hr := ifp h1 hr
    refine WL.on rfl rfl (WL.ev rfl rfl (Ev.mv rfl rfl) (WL.on rfl rfl ?_))
    have hl1 := (H.rS (i := 1) rfl).I
    refine WL.ev rfl rfl (Ev.lenV rfl el41 rfl (H.rS (i := 1) rfl)) (WL.on rfl rfl (WL.ev rfl rfl (Ev.bin rfl rfl rfl Bin.gtr) (WL.ev rfl rfl (Ev.pickF rfl rfl rfl) (WL.nil ?_))))
    refine CW.condD rfl (fun h2 => ?_) (fun h2 => ?_)
    · skip
      have hr := ifp h2 hr
      refine CW.seq (CW.reg ?_)
      refine WL.ev rfl rfl (Ev.build rfl pl60 ze60 rfl rfl rfl rfl) ?_
      refine WL.stB (i := 1) rfl rfl rfl sz60 rfl rfl rfl rfl (all1 rfl (all1 rfl all0)) H rfl rfl rfl fun w5 H => ?_
      refine WL.nil ?_
      refine CW.ret ?_
      have H := H.nil (α := Int) 3
      obtain rfl := sm hr
      exact ⟨_, resC rfl ag60 sz60 rfl rfl (At.blk (H.rB (i := 1) rfl)) rfl, H.ext0, _, _, _, rfl, (by decide : I64 0), H.outM (fr' := []) [false, false, true] fun _ _ => trivial⟩
    · skip
      have hr := ifn h2 hr
      refine CW.skip ?_
      refine CW.seq (CW.reg ?_)
      refine WL.ev rfl rfl (Ev.mv rfl rfl) (WL.ev rfl rfl (Ev.lenV rfl el41 rfl (H.rS (i := 1) rfl)) ?_)
      obtain ⟨y2, hy2, hr⟩ := bd hr
      refine WL.call rfl rfl rfl rfl rfl ok115 rfl (sEmptyRelation_ok hy2 (F0 := fun _ => False) hl1) ?_
      rintro _ w6 hE ⟨A2, n2, c2, rfl, hI2, H'⟩
      have H := H.callA H' ⟨fun _ _ _ _ _ h => h, trivial⟩
      refine WL.allocH rfl rfl rfl ze60 H fun b3 w7 H => ?_
      refine WL.stB (i := 3) rfl rfl rfl sz60 rfl rfl rfl rfl (all1 rfl (all1 rfl all0)) H rfl rfl rfl fun w8 H => ?_
      refine WL.nil ?_
      refine CW.seq (CW.seq (CW.reg ?_))
      refine WL.ev rfl rfl (Ev.as rfl rfl) (WL.nil ?_)
      obtain ⟨q1, hq1, hr⟩ := bd hr
      refine CW.block (CW.loop (α := Nat × (List Int)) (fun ⟨k1, s1⟩ => [(1, .slice A1' n1' c1'), (2, .pointer (some ⟨b1, 0, none⟩)), (4, .pointer (some ⟨b2, 0, none⟩)), (5, .pointer (some ⟨b3, 0, none⟩)), (6, .int .i64 (k1 : Int))]) (fun ⟨k1, s1⟩ w => k1 ≤ a1.length ∧ eachL (sProjectRelation_L1 a0 a1) k1 (a1.drop k1) s1 = some q1 ∧ HL F0 [] w0 w [Pr.R a0 [.int .i64 a0.N, .slice A1 n1 c1], Pr.S a1 (.slice A1' n1' c1'), Pr.S a0.Rows (.slice A1 n1 c1)] [It.B b1 60 [.int .i64 a0.N, .slice A1 n1 c1], It.B b2 60 [.int .i64 0, .slice none 0 0], It.O 3 s1 (.slice A2 n2 c2), It.B b3 60 [.int .i64 y2.N, .slice A2 n2 c2]]) (fun ⟨k1, s1⟩ => a1.length - k1) ⟨0, y2.Rows⟩ ⟨rfl, rfl, rfl, rfl, rfl, trivial⟩ ⟨Nat.zero_le _, hq1, H.keep 3 4⟩ ?_)
      rintro ⟨k1, s1⟩ σ w9 ⟨hk1, hq1, H⟩
      refine CW.seq (CW.seq (CW.reg ?_))
      refine WL.ev rfl rfl (Ev.mv rfl rfl) (WL.ev rfl rfl (Ev.mv rfl rfl) (WL.ev rfl rfl (Ev.lenV rfl el41 rfl (H.rS (i := 1) rfl)) (WL.ev rfl rfl (Ev.bin rfl rfl rfl Bin.lss) (WL.nil ?_))))
      refine CW.condD rfl (fun h3 => ?_) (fun h3 => ?_)
      · skip
        have hk2 := cast_lt h3
        obtain ⟨x1, z1, hx1, hb1, hq1⟩ := eachL_go hq1 hk2
        refine CW.skip ?_
        refine CW.seq (CW.block (CW.seq (CW.reg ?_)))
        refine WL.ev rfl rfl (Ev.as rfl rfl) (WL.nil ?_)
        obtain ⟨q2, hq2, hb1⟩ := bd hb1
        refine CW.block (CW.loop (α := Nat × (List Int)) (fun ⟨k2, s2⟩ => [(1, .slice A1' n1' c1'), (2, .pointer (some ⟨b1, 0, none⟩)), (4, .pointer (some ⟨b2, 0, none⟩)), (5, .pointer (some ⟨b3, 0, none⟩)), (6, .int .i64 (k1 : Int)), (7, .int .i64 (k2 : Int))]) (fun ⟨k2, s2⟩ w => k2 ≤ a1.length ∧ eachL (sProjectRelation_L2 a0 k1 x1) k2 (a1.drop k2) s2 = some q2 ∧ HL F0 [] w0 w [Pr.R a0 [.int .i64 a0.N, .slice A1 n1 c1], Pr.S a1 (.slice A1' n1' c1'), Pr.S a0.Rows (.slice A1 n1 c1)] [It.B b1 60 [.int .i64 a0.N, .slice A1 n1 c1], It.B b2 60 [.int .i64 0, .slice none 0 0], It.O 3 s2 (.slice A2 n2 c2), It.B b3 60 [.int .i64 y2.N, .slice A2 n2 c2]]) (fun ⟨k2, s2⟩ => a1.length - k2) ⟨0, s1⟩ ⟨rfl, rfl, rfl, rfl, rfl, rfl, trivial⟩ ⟨Nat.zero_le _, hq2, H.keep 3 4⟩ ?_)
        rintro ⟨k2, s2⟩ σ w10 ⟨hk3, hq2, H⟩
        refine CW.seq (CW.seq (CW.reg ?_))
        refine WL.ev rfl rfl (Ev.mv rfl rfl) (WL.ev rfl rfl (Ev.mv rfl rfl) (WL.ev rfl rfl (Ev.lenV rfl el41 rfl (H.rS (i := 1) rfl)) (WL.ev rfl rfl (Ev.bin rfl rfl rfl Bin.lss) (WL.nil ?_))))
        refine CW.condD rfl (fun h4 => ?_) (fun h4 => ?_)
        · skip
          have hk4 := cast_lt h4
          obtain ⟨x2, z2, hx2, hb2, hq2⟩ := eachL_go hq2 hk4
          refine CW.skip ?_
          obtain ⟨q3, hm1, hb2⟩ := bd hb2
          refine CW.seq (CW.mid (fun ρ' w => ∃ (s3 : List Int), s3 = q3 ∧ agree ρ' [(1, .slice A1' n1' c1'), (2, .pointer (some ⟨b1, 0, none⟩)), (4, .pointer (some ⟨b2, 0, none⟩)), (5, .pointer (some ⟨b3, 0, none⟩)), (6, .int .i64 (k1 : Int)), (7, .int .i64 (k2 : Int))] ∧ HL F0 [] w0 w [Pr.R a0 [.int .i64 a0.N, .slice A1 n1 c1], Pr.S a1 (.slice A1' n1' c1'), Pr.S a0.Rows (.slice A1 n1 c1)] [It.B b1 60 [.int .i64 a0.N, .slice A1 n1 c1], It.B b2 60 [.int .i64 0, .slice none 0 0], It.O 3 s3 (.slice A2 n2 c2), It.B b3 60 [.int .i64 y2.N, .slice A2 n2 c2]]) ?_ ?_)
          · skip
            refine CW.block (CW.seq (CW.quiet hmix (by kernel_rfl) ?_))
            refine QL.ev rfl rfl (fun _ hq => Ev.lda rfl ag60 sz60 rfl (At.blk ((H.ext hq).rB (i := 0) rfl)) rfl) (QL.ev rfl rfl (fun _ _ => Ev.mv rfl rfl) (QL.ev rfl rfl (fun _ _ => Ev.mv rfl rfl) ?_))
            obtain ⟨b4, ob4, cb4, hvb4, hI3, H⟩ := ixS_Int H (i := 1) rfl hx1
            refine QL.ev rfl rfl (fun _ _ => Ev.ixVN rfl el41 sz3 rfl hvb4 rfl (lt_of hx1)) (QL.ev rfl rfl (fun _ hq => Ev.ld rfl ag3 rfl (((H.ext hq).rA (i := 3) rfl).cell0 rfl)) (QL.ev rfl rfl (fun _ _ => Ev.mv rfl rfl) (QL.ev rfl rfl (fun _ _ => Ev.mv rfl rfl) ?_)))
            obtain ⟨b5, ob5, cb5, hvb5, hI4, H⟩ := ixS_Int H (i := 1) rfl hx2
            refine QL.ev rfl rfl (fun _ _ => Ev.ixVN rfl el41 sz3 rfl hvb5 rfl (lt_of hx2)) (QL.ev rfl rfl (fun _ hq => Ev.ld rfl ag3 rfl (((H.ext hq).rA (i := 5) rfl).cell0 rfl)) ?_)
            obtain ⟨y3, hy3, hm1⟩ := bd hm1
            refine QL.call rfl rfl rfl rfl rfl ok44 rfl (fun _ hq => sHasPair_ok hy3 ⟨_, rfl, hI1, ((H.ext hq).rS (i := 2) rfl)⟩ hI3 hI4) ?_
            refine QL.nil (fun w11 hE => ?_)
            have H := H.ext hE
            refine CW.condB rfl (fun h5 => ?_) (fun h5 => ?_)
            · skip
              have hm1 := ifp h5 hm1
              refine CW.quietT 13 hmix (by kernel_rfl) ?_
              refine QL.ev rfl rfl (fun _ _ => Ev.fa rfl fo60_1 rfl) (QL.ev rfl rfl (fun _ hq => Ev.ld rfl ag41 rfl (((H.ext hq).rB (i := 3) rfl).cell rfl)) (QL.ev rfl rfl (fun _ _ => Ev.mv rfl rfl) (QL.ev rfl rfl (fun _ _ => Ev.fa rfl fo60_1 rfl) (QL.ev rfl rfl (fun _ hq => Ev.ld rfl ag41 rfl (((H.ext hq).rB (i := 3) rfl).cell rfl)) (QL.ev rfl rfl (fun _ _ => Ev.mv rfl rfl) ?_)))))
              obtain ⟨x3, hx3, hm1⟩ := bd hm1
              obtain ⟨b6, cb6, hvb6, hbb6⟩ := H.ptO (i := 2) rfl hx3
              refine QL.ev rfl rfl (fun _ _ => Ev.ixVN rfl el41 sz3 rfl hvb6 rfl (lt_of hx3)) ?_
              obtain ⟨hA1, hI5, H⟩ := elO_Int H (i := 2) rfl hx3 hbb6
              refine QL.ev rfl rfl (fun _ hq => Ev.ld rfl ag3 rfl ((hA1.ext hq).cell0 rfl)) (QL.ev rfl rfl (fun _ _ => Ev.mv rfl rfl) (QL.ev rfl rfl (fun _ _ => Ev.convUI rfl Try.underlying3 it130 rfl (Int.natCast_nonneg _) (i64_nat hk4 hl1).2) ?_))
              obtain ⟨hg1, hm1⟩ := grd_some hm1
              refine QL.ev rfl rfl (fun _ _ => Ev.bin rfl rfl rfl (Bin.shlI hg1.1 hg1.2)) ?_
              obtain ⟨hg2, hm1⟩ := grd_some hm1
              refine QL.ev rfl rfl (fun _ _ => Ev.bin rfl rfl rfl (Bin.orI hg2.1 hI5.2 hg2.2 (i64_pow hg1.2).2)) ?_
              obtain ⟨b7, cb7, hvb7, hbb7⟩ := H.ptO (i := 2) rfl hx3
              refine QL.ev rfl rfl (fun _ _ => Ev.ixVN rfl el41 sz3 rfl hvb7 rfl (lt_of hx3)) (QL.nil (fun w12 hE => ?_))
              have H := H.ext hE
              refine WL.stOf (i := 2) (z := ((x3.toNat ||| ((2 ^ (k2 : Int).toNat : Nat) : Int).toNat : Nat) : Int)) rfl rfl rfl sz3 rfl rfl rfl (fun _ => ⟨rfl, rfl, (i64_or hg2 hI5 (i64_pow hg1.2))⟩) H rfl hbb7 (by simpa using lt_of hx3) fun w13 H => ?_
              refine WL.nil ?_
              obtain rfl := sm hm1
              exact ⟨(List.set s2 k1 ((x3.toNat ||| ((2 ^ (k2 : Int).toNat : Nat) : Int).toNat : Nat) : Int)), rfl, ⟨rfl, rfl, rfl, rfl, rfl, rfl, trivial⟩, H.keep 3 4⟩
            · skip
              have hm1 := ifn h5 hm1
              refine CW.skip ?_
              obtain rfl := sm hm1
              exact ⟨s2, rfl, ⟨rfl, rfl, rfl, rfl, rfl, rfl, trivial⟩, H.keep 3 4⟩
          · rintro ρ' w14 ⟨s3, rfl, hag, H⟩
            obtain ⟨σ, rfl⟩ := ofL_ex hag
            refine CW.reg ?_
            refine WL.ev rfl rfl (Ev.mv rfl rfl) (WL.ev rfl rfl (Ev.bin rfl rfl rfl (Bin.addN (a := k2) (b := 1) rfl (i64_succN hk4 hl1.2))) (WL.ev rfl rfl (Ev.as rfl rfl) (WL.nil ?_)))
            obtain rfl := sm hb2
            exact ⟨⟨k2 + 1, s3⟩, ⟨rfl, rfl, rfl, rfl, rfl, rfl, trivial⟩, ⟨hk4, hq2, H.keep 3 4⟩, Nat.sub_lt_sub_left hk4 (Nat.lt_succ_self _)⟩
        · skip
          obtain rfl := eachL_end hq2 (not_cast_lt h4)
          refine CW.exit ?_
          refine CW.reg ?_
          refine WL.ev rfl rfl (Ev.mv rfl rfl) (WL.ev rfl rfl (Ev.bin rfl rfl rfl (Bin.addN (a := k1) (b := 1) rfl (i64_succN hk2 hl1.2))) (WL.ev rfl rfl (Ev.as rfl rfl) (WL.nil ?_)))
          obtain rfl := sm hb1
          exact ⟨⟨k1 + 1, s2⟩, ⟨rfl, rfl, rfl, rfl, rfl, trivial⟩, ⟨hk2, hq1, H.keep 3 4⟩, Nat.sub_lt_sub_left hk2 (Nat.lt_succ_self _)⟩
      · skip
        obtain rfl := eachL_end hq1 (not_cast_lt h3)
        refine CW.exit ?_
        refine CW.seq (CW.reg ?_)
        refine WL.ev rfl rfl (Ev.lda rfl ag60 sz60 rfl (At.blk (H.rB (i := 3) rfl)) rfl) ?_
        refine WL.stB (i := 1) rfl rfl rfl sz60 rfl rfl rfl rfl (all1 rfl (all1 rfl all0)) H rfl rfl rfl fun w15 H => ?_
        refine WL.nil ?_
        refine CW.ret ?_
        obtain rfl := sm hr
        exact ⟨_, resC rfl ag60 sz60 rfl rfl (At.blk (H.rB (i := 1) rfl)) rfl, H.ext0, _, _, _, rfl, hI2, H.outM (fr' := []) [false, false, true, false] fun _ _ => trivial⟩

noncomputable def wFnPairs_L2 (y17 : Relation) (y18 : (List Int)) (y19 : Relation) (k1 : Nat) : Nat → Unit → Option (Unit ⊕ Bool) := fun k2 _ => 
  (iHasPair_m y19 (k1 : Int) (k2 : Int)).bind fun y22 =>
  (y18[k1]?).bind fun x1 =>
  (y18[k2]?).bind fun x2 =>
  (sHasPair_m y17 x1 x2).bind fun y23 =>
  if y22 = y23 then (
  some (.inl ())
  ) else (
  some (.inr false)
  )
noncomputable def wFnPairs_L1 (y17 : Relation) (y18 : (List Int)) (y19 : Relation) : Nat → Unit → Option (Unit ⊕ Bool) := fun k1 _ => 
  (findN (wFnPairs_L2 y17 y18 y19 k1) 0 (y19.N.toNat) ()).bind <| onr (fun r1 => some (.inr r1)) fun _ =>
  some (.inl ())
noncomputable def wFnPairs_m (a0 : (List UInt8)) : Option Bool :=
  (wbig_m a0).bind fun y1 =>
  if y1 = true then (
  some true
  ) else (
  (sDrawAddPair_m a0).bind fun (y2, y3, y4) =>
  (iAddPair_m y2 y3 y4).bind fun y5 =>
  (
  (sAddPair_m y2 y3 y4).bind fun y6 =>
  (sEqualRelation_m y5 y6).bind fun y7 =>
  if y7 = true then (
  (iHasPair_m y5 y3 y4).bind fun y8 =>
  (sHasPair_m y5 y3 y4).bind fun y9 =>
  some (!(decide (y8 = y9)))
  ) else (
  some true
  )
  ).bind fun s1 =>
  if s1 = true then (
  some false
  ) else (
  (sDrawUnionRelation_m a0).bind fun (y10, y11) =>
  (iUnionRelation_m y10 y11).bind fun y12 =>
  (
  (sUnionRelation_m y10 y11).bind fun y13 =>
  (sEqualRelation_m y12 y13).bind fun y14 =>
  if y14 = true then (
  (iUnionRelation_m y12 y11).bind fun y15 =>
  (sEqualRelation_m y15 y12).bind fun y16 =>
  some (!y16)
  ) else (
  some true
  )
  ).bind fun s2 =>
  if s2 = true then (
  some false
  ) else (
  (sDrawProjectRelation_m a0).bind fun (y17, y18) =>
  (iProjectRelation_m y17 y18).bind fun y19 =>
  (sProjectRelation_m y17 y18).bind fun y20 =>
  (sEqualRelation_m y19 y20).bind fun y21 =>
  if y21 = true then (
  (findN (wFnPairs_L1 y17 y18 y19) 0 (y19.N.toNat) ()).bind <| onr (fun r2 => some r2) fun _ =>
  (iEmptyRelation_m 3).bind fun y24 =>
  (sEqualRelation_m y24 (⟨3, ([0, 0, 0] : List Int)⟩ : Relation)).bind fun y25 =>
  some y25
  ) else (
  some false
  )
  )
  )
  )
theorem wFnPairs_ok {a0 : (List UInt8)} {r : Bool} (hr : wFnPairs_m a0 = some r) {F0 : Nat → Prop} {w0 : World} {z0 : Value} (ha0 : rdS F0 w0 a0 z0) :
    Ret Try.prog 8 #[z0] w0 (fun _ => False) fun v w => v = .bool r := by
  obtain ⟨A0', n0', c0', rfl⟩ := ha0.form3
  have H := (HL.start F0 w0).argS ha0
  refine enter Try.func8 rfl rfl rfl ?_
  refine CW.seq (CW.reg ?_)
  refine WL.ev rfl rfl (Ev.as rfl rfl) (WL.nil ?_)
  refine CW.seq (CW.seq (CW.reg ?_))
  refine WL.ev rfl rfl (Ev.mv rfl rfl) ?_
  obtain ⟨y1, hy1, hr⟩ := bd hr
  refine WL.call rfl rfl rfl rfl rfl ok21 rfl (wbig_ok hy1 (H.rS (i := 0) rfl)) ?_
  rintro _ w1 hE rfl
  have H := H.ext hE
  refine WL.nil ?_
  refine CW.condB rfl (fun h1 => ?_) (fun h1 => ?_)
  · skip
    have hr := ifp h1 hr
    refine CW.seq (CW.reg ?_)
    refine WL.ev rfl rfl (Ev.as rfl rfl) (WL.nil ?_)
    refine CW.ret ?_
    obtain rfl := sm hr
    exact ⟨_, res1 rfl rfl rfl, H.ext0, rfl⟩
  · skip
    have hr := ifn h1 hr
    refine CW.skip ?_
    refine CW.seq (CW.reg ?_)
    refine WL.ev rfl rfl (Ev.mv rfl rfl) ?_
    obtain ⟨⟨y2, y3, y4⟩, hy2, hr⟩ := bd hr
    refine WL.call rfl rfl rfl rfl rfl ok45 rfl (sDrawAddPair_ok hy2 (H.rS (i := 0) rfl)) ?_
    rintro _ w2 hE ⟨A1, n1, c1, rfl, hI1, hI2, hI3, H'⟩
    have H := H.callA H' ⟨fun _ _ _ _ _ h => h, trivial⟩
    refine WL.ev rfl rfl (Ev.mv rfl rfl) (WL.ev rfl rfl (Ev.ex rfl rfl rfl) (WL.ev rfl rfl (Ev.ex rfl rfl rfl) (WL.ev rfl rfl (Ev.ex rfl rfl rfl) ?_)))
    refine WL.allocH rfl rfl rfl ze60 H fun b1 w3 H => ?_
    refine WL.stB (i := 1) rfl rfl rfl sz60 rfl rfl rfl rfl (all1 rfl (all1 rfl all0)) H rfl rfl rfl fun w4 H => ?_
    refine WL.ev rfl rfl (Ev.as rfl rfl) (WL.ev rfl rfl (Ev.as rfl rfl) (WL.nil ?_))
    refine CW.seq (CW.reg ?_)
    refine WL.ev rfl rfl (Ev.lda rfl ag60 sz60 rfl (At.blk (H.rB (i := 1) rfl)) rfl) (WL.ev rfl rfl (Ev.mv rfl rfl) (WL.ev rfl rfl (Ev.mv rfl rfl) ?_))
    obtain ⟨y5, hy3, hr⟩ := bd hr
    refine WL.call rfl rfl rfl rfl rfl ok46 rfl (iAddPair_ok hy3 ⟨_, rfl, hI1, (H.rO (i := 0) rfl)⟩ hI2 hI3) ?_
    rintro _ w5 hE ⟨A2, n2, c2, rfl, hI4, H'⟩
    have H := H.callA H' ⟨fun _ _ _ _ _ h => h, trivial⟩
    refine WL.allocH rfl rfl rfl ze60 H fun b2 w6 H => ?_
    refine WL.stB (i := 3) rfl rfl rfl sz60 rfl rfl rfl rfl (all1 rfl (all1 rfl all0)) H rfl rfl rfl fun w7 H => ?_
    refine WL.nil ?_
    obtain ⟨q1, hm1, hr⟩ := bd hr
    refine CW.seq (CW.seq (CW.mid (fun ρ' w => ∃ (s1 : Bool), s1 = q1 ∧ agree ρ' [(0, .slice A0' n0' c0'), (44, .bool s1)] ∧ HL F0 [] w0 w [Pr.S a0 (.slice A0' n0' c0')] [It.O 3 y2.Rows (.slice A1 n1 c1), It.B b1 60 [.int .i64 y2.N, .slice A1 n1 c1], It.O 3 y5.Rows (.slice A2 n2 c2), It.B b2 60 [.int .i64 y5.N, .slice A2 n2 c2]]) ?_ ?_))
    · skip
      obtain ⟨y6, hy4, hm1⟩ := bd hm1
      obtain ⟨y7, hy5, hm1⟩ := bd hm1
      by_cases h2 : y7 = true
      · skip
        have hm1 := ifp h2 hm1
        obtain ⟨y8, hy6, hm1⟩ := bd hm1
        refine CW.any2 15 (fun ρ => [.fix (.agg #[.int .i64 y5.N, .slice A2 n2 c2]), .fix (.agg #[.int .i64 y2.N, .slice A1 n1 c1]), .fix (.int .i64 y3), .fix (.int .i64 y4), .free (fun S v w => ∃ A3 : Option Addr, ∃ n3 : Nat, ∃ c3 : Nat, v = .agg #[.int .i64 y6.N, .slice A3 n3 c3] ∧ I64 y6.N ∧ NewI S w [It.O 3 y6.Rows (.slice A3 n3 c3)]), .fix (.bool y7), .fix (.bool (!y7)), .fix (.bool false), .fix (.agg #[.int .i64 y5.N, .slice A2 n2 c2]), .fix (.int .i64 y3), .fix (.int .i64 y4), .fix (.bool y8), .fix (.agg #[.int .i64 y5.N, .slice A2 n2 c2]), .fix (.int .i64 y3), .fix (.int .i64 y4)]) [[], [], [], [], [], [], [], [], [], [], [], [], [], [], []] NoM (fun _ _ => True) [] [] (noM _) hmix (by kernel_rfl) rfl ⟨trivial, trivial, trivial, trivial, fun _ _ _ _ _ ⟨A3, n3, c3, hv, h0, hh⟩ hc hS hT => ⟨A3, n3, c3, hv, h0, hh.chgT hc hS⟩, trivial, trivial, trivial, trivial, trivial, trivial, trivial, trivial, trivial, trivial, trivial⟩ trivial (fun _ _ _ _ _ _ _ => trivial) ?_
        refine LL2.fx rfl rfl rfl rfl rfl (fun _ hq hK => Ev.lda rfl ag60 sz60 rfl (At.blk ((H.ext hq).rB (i := 3) rfl)) rfl) ?_
        refine LL2.fx rfl rfl rfl rfl rfl (fun _ hq hK => Ev.lda rfl ag60 sz60 rfl (At.blk ((H.ext hq).rB (i := 1) rfl)) rfl) ?_
        refine LL2.fx rfl rfl rfl rfl rfl (fun _ hq hK => Ev.mv rfl rfl) ?_
        refine LL2.fx rfl rfl rfl rfl rfl (fun _ hq hK => Ev.mv rfl rfl) ?_
        refine LL2.free rfl rfl rfl rfl (fun wq hq hK => ?_) (fun v_G1_4 S_G1_4 => ?_)
        · refine OpX.call rfl rfl rfl rfl ok47 rfl (sAddPair_ok hy4 ⟨_, rfl, hI1, ((H.ext hq).rO (i := 0) rfl)⟩ hI2 hI3) ?_
          rintro _ w hE ⟨A3, n3, c3, rfl, h0, hh⟩
          exact ⟨hE, A3, n3, c3, rfl, h0, NewI.of hh ⟨fun _ _ _ _ _ h => h, trivial⟩⟩
        refine LL2.fixed rfl rfl rfl rfl (fun wq hq hK => ?_) ?_
        · skip
          obtain ⟨A3, n3, c3, rfl, hI5, hn4⟩ := hK 4 rfl
          exact OpX.call rfl rfl rfl rfl ok37 rfl (sEqualRelation_ok hy5 ⟨_, rfl, hI4, ((H.ext hq).rO (i := 2) rfl)⟩ ⟨_, rfl, hI5, (hn4.rdI (i := 0) rfl)⟩) fun _ _ hE h => ⟨hE, h⟩
        refine LL2.fx rfl rfl rfl rfl rfl (fun _ hq hK => Ev.not rfl rfl) ?_
        refine LL2.fx rfl rfl rfl rfl rfl (fun _ hq hK => Ev.mv rfl (congrArg (fun b => Value.bool (!b)) (h2))) ?_
        refine LL2.on rfl ?_
        refine LL2.fx rfl rfl rfl rfl rfl (fun _ hq hK => Ev.lda rfl ag60 sz60 rfl (At.blk ((H.ext hq).rB (i := 3) rfl)) rfl) ?_
        refine LL2.on rfl ?_
        refine LL2.fx rfl rfl rfl rfl rfl (fun _ hq hK => Ev.mv rfl rfl) ?_
        refine LL2.on rfl ?_
        refine LL2.fx rfl rfl rfl rfl rfl (fun _ hq hK => Ev.mv rfl rfl) ?_
        refine LL2.on rfl ?_
        refine LL2.fixed rfl rfl rfl rfl (fun _ hq hK => OpX.call rfl rfl rfl rfl ok43 rfl (iHasPair_ok hy6 ⟨_, rfl, hI4, ((H.ext hq).rO (i := 2) rfl)⟩ hI2 hI3) fun _ _ hE h => ⟨hE, h⟩) ?_
        refine LL2.on rfl ?_
        refine LL2.fx rfl rfl rfl rfl rfl (fun _ hq hK => Ev.lda rfl ag60 sz60 rfl (At.blk ((H.ext hq).rB (i := 3) rfl)) rfl) ?_
        refine LL2.on rfl ?_
        refine LL2.fx rfl rfl rfl rfl rfl (fun _ hq hK => Ev.mv rfl rfl) ?_
        refine LL2.on rfl ?_
        refine LL2.fx rfl rfl rfl rfl rfl (fun _ hq hK => Ev.mv rfl rfl) ?_
        intro w8 hE _ hK hap hbd
        have hE := chgNew hE
        obtain ⟨A3, n3, c3, rfl, hI5, hN1⟩ := hK 4 (by decide)
        have H := H.add hE hN1 ⟨fun _ _ _ _ _ h => h, trivial⟩ (fun q hq => (hbd 4 q hq).1)
        refine WL.on rfl rfl ?_
        obtain ⟨y9, hy7, hm1⟩ := bd hm1
        refine WL.call rfl rfl rfl rfl rfl ok44 rfl (sHasPair_ok hy7 ⟨_, rfl, hI4, (H.rO (i := 2) rfl)⟩ hI2 hI3) ?_
        rintro _ w9 hE rfl
        have H := H.ext hE
        refine WL.on rfl rfl (WL.ev rfl rfl (Ev.bin rfl rfl rfl (Bin.neqBo Try.underlying4)) (WL.ev rfl rfl (Ev.pickF rfl rfl rfl) (WL.nil ?_)))
        obtain rfl := sm hm1
        exact ⟨(!(decide (y8 = y9))), rfl, ⟨rfl, rfl, trivial⟩, H.keep 1 4⟩
      · skip
        have hm1 := ifn h2 hm1
        refine CW.any2 15 (fun ρ => [.fix (.agg #[.int .i64 y5.N, .slice A2 n2 c2]), .fix (.agg #[.int .i64 y2.N, .slice A1 n1 c1]), .fix (.int .i64 y3), .fix (.int .i64 y4), .free (fun S v w => ∃ A3 : Option Addr, ∃ n3 : Nat, ∃ c3 : Nat, v = .agg #[.int .i64 y6.N, .slice A3 n3 c3] ∧ I64 y6.N ∧ NewI S w [It.O 3 y6.Rows (.slice A3 n3 c3)]), .fix (.bool y7), .fix (.bool (!y7)), .fix (.bool true), .fix undef, .fix undef, .fix undef, .fix undef, .fix undef, .fix undef, .fix undef]) [[], [], [], [], [], [], [], [], [], [], [], [], [], [], []] NoM (fun _ _ => True) [] [] (noM _) hmix (by kernel_rfl) rfl ⟨trivial, trivial, trivial, trivial, fun _ _ _ _ _ ⟨A3, n3, c3, hv, h0, hh⟩ hc hS hT => ⟨A3, n3, c3, hv, h0, hh.chgT hc hS⟩, trivial, trivial, trivial, trivial, trivial, trivial, trivial, trivial, trivial, trivial, trivial⟩ trivial (fun _ _ _ _ _ _ _ => trivial) ?_
        refine LL2.fx rfl rfl rfl rfl rfl (fun _ hq hK => Ev.lda rfl ag60 sz60 rfl (At.blk ((H.ext hq).rB (i := 3) rfl)) rfl) ?_
        refine LL2.fx rfl rfl rfl rfl rfl (fun _ hq hK => Ev.lda rfl ag60 sz60 rfl (At.blk ((H.ext hq).rB (i := 1) rfl)) rfl) ?_
        refine LL2.fx rfl rfl rfl rfl rfl (fun _ hq hK => Ev.mv rfl rfl) ?_
        refine LL2.fx rfl rfl rfl rfl rfl (fun _ hq hK => Ev.mv rfl rfl) ?_
        refine LL2.free rfl rfl rfl rfl (fun wq hq hK => ?_) (fun v_G1_4 S_G1_4 => ?_)
        · refine OpX.call rfl rfl rfl rfl ok47 rfl (sAddPair_ok hy4 ⟨_, rfl, hI1, ((H.ext hq).rO (i := 0) rfl)⟩ hI2 hI3) ?_
          rintro _ w hE ⟨A3, n3, c3, rfl, h0, hh⟩
          exact ⟨hE, A3, n3, c3, rfl, h0, NewI.of hh ⟨fun _ _ _ _ _ h => h, trivial⟩⟩
        refine LL2.fixed rfl rfl rfl rfl (fun wq hq hK => ?_) ?_
        · skip
          obtain ⟨A3, n3, c3, rfl, hI5, hn4⟩ := hK 4 rfl
          exact OpX.call rfl rfl rfl rfl ok37 rfl (sEqualRelation_ok hy5 ⟨_, rfl, hI4, ((H.ext hq).rO (i := 2) rfl)⟩ ⟨_, rfl, hI5, (hn4.rdI (i := 0) rfl)⟩) fun _ _ hE h => ⟨hE, h⟩
        refine LL2.fx rfl rfl rfl rfl rfl (fun _ hq hK => Ev.not rfl rfl) ?_
        refine LL2.fx rfl rfl rfl rfl rfl (fun _ hq hK => Ev.mv rfl (congrArg (fun b => Value.bool (!b)) (eq_false_of_ne_true h2))) ?_
        refine LL2.off rfl rfl rfl rfl rfl ?_
        refine LL2.off rfl rfl rfl rfl rfl ?_
        refine LL2.off rfl rfl rfl rfl rfl ?_
        refine LL2.off rfl rfl rfl rfl rfl ?_
        refine LL2.off rfl rfl rfl rfl rfl ?_
        refine LL2.off rfl rfl rfl rfl rfl ?_
        refine LL2.off rfl rfl rfl rfl rfl ?_
        intro w10 hE _ hK hap hbd
        have hE := chgNew hE
        obtain ⟨A3, n3, c3, rfl, hI5, hN1⟩ := hK 4 (by decide)
        have H := H.add hE hN1 ⟨fun _ _ _ _ _ h => h, trivial⟩ (fun q hq => (hbd 4 q hq).1)
        refine WL.off rfl rfl rfl (WL.off rfl rfl rfl (WL.ev rfl rfl (Ev.pickT rfl rfl rfl) (WL.nil ?_)))
        obtain rfl := sm hm1
        exact ⟨true, rfl, ⟨rfl, rfl, trivial⟩, H.keep 1 4⟩
    · rintro ρ' w11 ⟨s1, rfl, hag, H⟩
      obtain ⟨σ, rfl⟩ := ofL_ex hag
      refine CW.condB rfl (fun h3 => ?_) (fun h3 => ?_)
      · skip
        have hr := ifp h3 hr
        refine CW.seq (CW.reg ?_)
        refine WL.ev rfl rfl (Ev.as rfl rfl) (WL.nil ?_)
        refine CW.ret ?_
        obtain rfl := sm hr
        exact ⟨_, res1 rfl rfl rfl, H.ext0, rfl⟩
      · skip
        have hr := ifn h3 hr
        refine CW.skip ?_
        refine CW.seq (CW.reg ?_)
        refine WL.ev rfl rfl (Ev.mv rfl rfl) ?_
        obtain ⟨⟨y10, y11⟩, hy8, hr⟩ := bd hr
        refine WL.call rfl rfl rfl rfl rfl ok48 rfl (sDrawUnionRelation_ok hy8 (H.rS (i := 0) rfl)) ?_
        rintro _ w12 hE ⟨A4, n4, c4, A5, n5, c5, rfl, hI6, hI7, H'⟩
        have H := H.callA H' ⟨fun _ _ _ _ _ h => h, ⟨fun _ _ _ _ _ h => h, trivial⟩⟩
        refine WL.ev rfl rfl (Ev.mv rfl rfl) (WL.ev rfl rfl (Ev.ex rfl rfl rfl) (WL.ev rfl rfl (Ev.ex rfl rfl rfl) ?_))
        refine WL.allocH rfl rfl rfl ze60 H fun b3 w13 H => ?_
        refine WL.allocH rfl rfl rfl ze60 H fun b4 w14 H => ?_
        refine WL.stB (i := 6) rfl rfl rfl sz60 rfl rfl rfl rfl (all1 rfl (all1 rfl all0)) H rfl rfl rfl fun w15 H => ?_
        refine WL.stB (i := 7) rfl rfl rfl sz60 rfl rfl rfl rfl (all1 rfl (all1 rfl all0)) H rfl rfl rfl fun w16 H => ?_
        refine WL.nil ?_
        refine CW.seq (CW.reg ?_)
        refine WL.ev rfl rfl (Ev.lda rfl ag60 sz60 rfl (At.blk (H.rB (i := 6) rfl)) rfl) (WL.ev rfl rfl (Ev.lda rfl ag60 sz60 rfl (At.blk (H.rB (i := 7) rfl)) rfl) ?_)
        obtain ⟨y12, hy9, hr⟩ := bd hr
        refine WL.call rfl rfl rfl rfl rfl ok49 rfl (iUnionRelation_ok hy9 ⟨_, rfl, hI6, (H.rO (i := 4) rfl)⟩ ⟨_, rfl, hI7, (H.rO (i := 5) rfl)⟩) ?_
        rintro _ w17 hE ⟨A6, n6, c6, rfl, hI8, H'⟩
        have H := H.callA H' ⟨fun _ _ _ _ _ h => h, trivial⟩
        refine WL.allocH rfl rfl rfl ze60 H fun b5 w18 H => ?_
        refine WL.stB (i := 9) rfl rfl rfl sz60 rfl rfl rfl rfl (all1 rfl (all1 rfl all0)) H rfl rfl rfl fun w19 H => ?_
        refine WL.nil ?_
        obtain ⟨q2, hm2, hr⟩ := bd hr
        refine CW.seq (CW.seq (CW.mid (fun ρ' w => ∃ (s2 : Bool), s2 = q2 ∧ agree ρ' [(0, .slice A0' n0' c0'), (66, .bool s2)] ∧ HL F0 [] w0 w [Pr.S a0 (.slice A0' n0' c0')] [It.O 3 y2.Rows (.slice A1 n1 c1), It.B b1 60 [.int .i64 y2.N, .slice A1 n1 c1], It.O 3 y5.Rows (.slice A2 n2 c2), It.B b2 60 [.int .i64 y5.N, .slice A2 n2 c2], It.O 3 y10.Rows (.slice A4 n4 c4), It.O 3 y11.Rows (.slice A5 n5 c5), It.B b3 60 [.int .i64 y10.N, .slice A4 n4 c4], It.B b4 60 [.int .i64 y11.N, .slice A5 n5 c5], It.O 3 y12.Rows (.slice A6 n6 c6), It.B b5 60 [.int .i64 y12.N, .slice A6 n6 c6]]) ?_ ?_))
        · skip
          obtain ⟨y13, hy10, hm2⟩ := bd hm2
          obtain ⟨y14, hy11, hm2⟩ := bd hm2
          by_cases h4 : y14 = true
          · skip
            have hm2 := ifp h4 hm2
            obtain ⟨y15, hy12, hm2⟩ := bd hm2
            refine CW.any2 11 (fun ρ => [.fix (.agg #[.int .i64 y12.N, .slice A6 n6 c6]), .fix (.agg #[.int .i64 y10.N, .slice A4 n4 c4]), .fix (.agg #[.int .i64 y11.N, .slice A5 n5 c5]), .free (fun S v w => ∃ A7 : Option Addr, ∃ n7 : Nat, ∃ c7 : Nat, v = .agg #[.int .i64 y13.N, .slice A7 n7 c7] ∧ I64 y13.N ∧ NewI S w [It.O 3 y13.Rows (.slice A7 n7 c7)]), .fix (.bool y14), .fix (.bool (!y14)), .fix (.bool false), .fix (.agg #[.int .i64 y12.N, .slice A6 n6 c6]), .fix (.agg #[.int .i64 y11.N, .slice A5 n5 c5]), .free (fun S v w => ∃ A8 : Option Addr, ∃ n8 : Nat, ∃ c8 : Nat, v = .agg #[.int .i64 y15.N, .slice A8 n8 c8] ∧ I64 y15.N ∧ NewI S w [It.O 3 y15.Rows (.slice A8 n8 c8)]), .fix (.agg #[.int .i64 y12.N, .slice A6 n6 c6])]) [[], [], [], [], [], [], [], [], [], [], []] NoM (fun _ _ => True) [] [] (noM _) hmix (by kernel_rfl) rfl ⟨trivial, trivial, trivial, fun _ _ _ _ _ ⟨A7, n7, c7, hv, h0, hh⟩ hc hS hT => ⟨A7, n7, c7, hv, h0, hh.chgT hc hS⟩, trivial, trivial, trivial, trivial, trivial, fun _ _ _ _ _ ⟨A8, n8, c8, hv, h0, hh⟩ hc hS hT => ⟨A8, n8, c8, hv, h0, hh.chgT hc hS⟩, trivial, trivial⟩ trivial (fun _ _ _ _ _ _ _ => trivial) ?_
            refine LL2.fx rfl rfl rfl rfl rfl (fun _ hq hK => Ev.lda rfl ag60 sz60 rfl (At.blk ((H.ext hq).rB (i := 9) rfl)) rfl) ?_
            refine LL2.fx rfl rfl rfl rfl rfl (fun _ hq hK => Ev.lda rfl ag60 sz60 rfl (At.blk ((H.ext hq).rB (i := 6) rfl)) rfl) ?_
            refine LL2.fx rfl rfl rfl rfl rfl (fun _ hq hK => Ev.lda rfl ag60 sz60 rfl (At.blk ((H.ext hq).rB (i := 7) rfl)) rfl) ?_
            refine LL2.free rfl rfl rfl rfl (fun wq hq hK => ?_) (fun v_G2_3 S_G2_3 => ?_)
            · refine OpX.call rfl rfl rfl rfl ok50 rfl (sUnionRelation_ok hy10 ⟨_, rfl, hI6, ((H.ext hq).rO (i := 4) rfl)⟩ ⟨_, rfl, hI7, ((H.ext hq).rO (i := 5) rfl)⟩) ?_
              rintro _ w hE ⟨A7, n7, c7, rfl, h0, hh⟩
              exact ⟨hE, A7, n7, c7, rfl, h0, NewI.of hh ⟨fun _ _ _ _ _ h => h, trivial⟩⟩
            refine LL2.fixed rfl rfl rfl rfl (fun wq hq hK => ?_) ?_
            · skip
              obtain ⟨A7, n7, c7, rfl, hI9, hn3⟩ := hK 3 rfl
              exact OpX.call rfl rfl rfl rfl ok37 rfl (sEqualRelation_ok hy11 ⟨_, rfl, hI8, ((H.ext hq).rO (i := 8) rfl)⟩ ⟨_, rfl, hI9, (hn3.rdI (i := 0) rfl)⟩) fun _ _ hE h => ⟨hE, h⟩
            refine LL2.fx rfl rfl rfl rfl rfl (fun _ hq hK => Ev.not rfl rfl) ?_
            refine LL2.fx rfl rfl rfl rfl rfl (fun _ hq hK => Ev.mv rfl (congrArg (fun b => Value.bool (!b)) (h4))) ?_
            refine LL2.on rfl ?_
            refine LL2.fx rfl rfl rfl rfl rfl (fun _ hq hK => Ev.lda rfl ag60 sz60 rfl (At.blk ((H.ext hq).rB (i := 9) rfl)) rfl) ?_
            refine LL2.on rfl ?_
            refine LL2.fx rfl rfl rfl rfl rfl (fun _ hq hK => Ev.lda rfl ag60 sz60 rfl (At.blk ((H.ext hq).rB (i := 7) rfl)) rfl) ?_
            refine LL2.on rfl ?_
            refine LL2.free rfl rfl rfl rfl (fun wq hq hK => ?_) (fun v_G2_9 S_G2_9 => ?_)
            · refine OpX.call rfl rfl rfl rfl ok49 rfl (iUnionRelation_ok hy12 ⟨_, rfl, hI8, ((H.ext hq).rO (i := 8) rfl)⟩ ⟨_, rfl, hI7, ((H.ext hq).rO (i := 5) rfl)⟩) ?_
              rintro _ w hE ⟨A8, n8, c8, rfl, h0, hh⟩
              exact ⟨hE, A8, n8, c8, rfl, h0, NewI.of hh ⟨fun _ _ _ _ _ h => h, trivial⟩⟩
            refine LL2.on rfl ?_
            refine LL2.fx rfl rfl rfl rfl rfl (fun _ hq hK => Ev.lda rfl ag60 sz60 rfl (At.blk ((H.ext hq).rB (i := 9) rfl)) rfl) ?_
            intro w20 hE _ hK hap hbd
            have hE := chgNew hE
            obtain ⟨A7, n7, c7, rfl, hI9, hN2⟩ := hK 3 (by decide)
            obtain ⟨A8, n8, c8, rfl, hI10, hN3⟩ := hK 9 (by decide)
            have H := H.add hE (hN2.app hN3 fun q h1 h2 => absurd (hap 3 9 q h1 h2) (by decide)) ⟨fun _ _ _ _ _ h => h, ⟨fun _ _ _ _ _ h => h, trivial⟩⟩ (fun q hq => hq.elim (fun h => (hbd 3 q h).1) fun h => (hbd 9 q h).1)
            refine WL.on rfl rfl ?_
            obtain ⟨y16, hy13, hm2⟩ := bd hm2
            refine WL.call rfl rfl rfl rfl rfl ok37 rfl (sEqualRelation_ok hy13 ⟨_, rfl, hI10, (H.rO (i := 11) rfl)⟩ ⟨_, rfl, hI8, (H.rO (i := 8) rfl)⟩) ?_
            rintro _ w21 hE rfl
            have H := H.ext hE
            refine WL.on rfl rfl (WL.ev rfl rfl (Ev.not rfl rfl) (WL.ev rfl rfl (Ev.pickF rfl rfl rfl) (WL.nil ?_)))
            obtain rfl := sm hm2
            exact ⟨(!y16), rfl, ⟨rfl, rfl, trivial⟩, H.keep 1 10⟩
          · skip
            have hm2 := ifn h4 hm2
            refine CW.any2 11 (fun ρ => [.fix (.agg #[.int .i64 y12.N, .slice A6 n6 c6]), .fix (.agg #[.int .i64 y10.N, .slice A4 n4 c4]), .fix (.agg #[.int .i64 y11.N, .slice A5 n5 c5]), .free (fun S v w => ∃ A7 : Option Addr, ∃ n7 : Nat, ∃ c7 : Nat, v = .agg #[.int .i64 y13.N, .slice A7 n7 c7] ∧ I64 y13.N ∧ NewI S w [It.O 3 y13.Rows (.slice A7 n7 c7)]), .fix (.bool y14), .fix (.bool (!y14)), .fix (.bool true), .fix undef, .fix undef, .fix undef, .fix undef]) [[], [], [], [], [], [], [], [], [], [], []] NoM (fun _ _ => True) [] [] (noM _) hmix (by kernel_rfl) rfl ⟨trivial, trivial, trivial, fun _ _ _ _ _ ⟨A7, n7, c7, hv, h0, hh⟩ hc hS hT => ⟨A7, n7, c7, hv, h0, hh.chgT hc hS⟩, trivial, trivial, trivial, trivial, trivial, trivial, trivial, trivial⟩ trivial (fun _ _ _ _ _ _ _ => trivial) ?_
            refine LL2.fx rfl rfl rfl rfl rfl (fun _ hq hK => Ev.lda rfl ag60 sz60 rfl (At.blk ((H.ext hq).rB (i := 9) rfl)) rfl) ?_
            refine LL2.fx rfl rfl rfl rfl rfl (fun _ hq hK => Ev.lda rfl ag60 sz60 rfl (At.blk ((H.ext hq).rB (i := 6) rfl)) rfl) ?_
            refine LL2.fx rfl rfl rfl rfl rfl (fun _ hq hK => Ev.lda rfl ag60 sz60 rfl (At.blk ((H.ext hq).rB (i := 7) rfl)) rfl) ?_
            refine LL2.free rfl rfl rfl rfl (fun wq hq hK => ?_) (fun v_G2_3 S_G2_3 => ?_)
            · refine OpX.call rfl rfl rfl rfl ok50 rfl (sUnionRelation_ok hy10 ⟨_, rfl, hI6, ((H.ext hq).rO (i := 4) rfl)⟩ ⟨_, rfl, hI7, ((H.ext hq).rO (i := 5) rfl)⟩) ?_
              rintro _ w hE ⟨A7, n7, c7, rfl, h0, hh⟩
              exact ⟨hE, A7, n7, c7, rfl, h0, NewI.of hh ⟨fun _ _ _ _ _ h => h, trivial⟩⟩
            refine LL2.fixed rfl rfl rfl rfl (fun wq hq hK => ?_) ?_
            · skip
              obtain ⟨A7, n7, c7, rfl, hI9, hn3⟩ := hK 3 rfl
              exact OpX.call rfl rfl rfl rfl ok37 rfl (sEqualRelation_ok hy11 ⟨_, rfl, hI8, ((H.ext hq).rO (i := 8) rfl)⟩ ⟨_, rfl, hI9, (hn3.rdI (i := 0) rfl)⟩) fun _ _ hE h => ⟨hE, h⟩
            refine LL2.fx rfl rfl rfl rfl rfl (fun _ hq hK => Ev.not rfl rfl) ?_
            refine LL2.fx rfl rfl rfl rfl rfl (fun _ hq hK => Ev.mv rfl (congrArg (fun b => Value.bool (!b)) (eq_false_of_ne_true h4))) ?_
            refine LL2.off rfl rfl rfl rfl rfl ?_
            refine LL2.off rfl rfl rfl rfl rfl ?_
            refine LL2.off rfl rfl rfl rfl rfl ?_
            refine LL2.off rfl rfl rfl rfl rfl ?_
            intro w22 hE _ hK hap hbd
            have hE := chgNew hE
            obtain ⟨A7, n7, c7, rfl, hI9, hN2⟩ := hK 3 (by decide)
            have H := H.add hE hN2 ⟨fun _ _ _ _ _ h => h, trivial⟩ (fun q hq => (hbd 3 q hq).1)
            refine WL.off rfl rfl rfl (WL.off rfl rfl rfl (WL.ev rfl rfl (Ev.pickT rfl rfl rfl) (WL.nil ?_)))
            obtain rfl := sm hm2
            exact ⟨true, rfl, ⟨rfl, rfl, trivial⟩, H.keep 1 10⟩
        · rintro ρ' w23 ⟨s2, rfl, hag, H⟩
          obtain ⟨σ, rfl⟩ := ofL_ex hag
          refine CW.condB rfl (fun h5 => ?_) (fun h5 => ?_)
          · skip
            have hr := ifp h5 hr
            refine CW.seq (CW.reg ?_)
            refine WL.ev rfl rfl (Ev.as rfl rfl) (WL.nil ?_)
            refine CW.ret ?_
            obtain rfl := sm hr
            exact ⟨_, res1 rfl rfl rfl, H.ext0, rfl⟩
          · skip
            have hr := ifn h5 hr
            refine CW.skip ?_
            refine CW.seq (CW.reg ?_)
            refine WL.ev rfl rfl (Ev.mv rfl rfl) ?_
            obtain ⟨⟨y17, y18⟩, hy14, hr⟩ := bd hr
            refine WL.call rfl rfl rfl rfl rfl ok51 rfl (sDrawProjectRelation_ok hy14 (H.rS (i := 0) rfl)) ?_
            rintro _ w24 hE ⟨A9, n9, c9, A10, n10, c10, rfl, hI11, H'⟩
            have H := H.callA H' ⟨fun _ _ _ _ _ h => h, ⟨fun _ _ _ _ _ h => h, trivial⟩⟩
            refine WL.ev rfl rfl (Ev.mv rfl rfl) (WL.ev rfl rfl (Ev.ex rfl rfl rfl) (WL.ev rfl rfl (Ev.ex rfl rfl rfl) ?_))
            refine WL.allocH rfl rfl rfl ze60 H fun b6 w25 H => ?_
            refine WL.stB (i := 12) rfl rfl rfl sz60 rfl rfl rfl rfl (all1 rfl (all1 rfl all0)) H rfl rfl rfl fun w26 H => ?_
            refine WL.ev rfl rfl (Ev.as rfl rfl) (WL.nil ?_)
            refine CW.seq (CW.reg ?_)
            refine WL.ev rfl rfl (Ev.lda rfl ag60 sz60 rfl (At.blk (H.rB (i := 12) rfl)) rfl) (WL.ev rfl rfl (Ev.mv rfl rfl) ?_)
            obtain ⟨y19, hy15, hr⟩ := bd hr
            refine WL.call rfl rfl rfl rfl rfl ok52 rfl (iProjectRelation_ok hy15 ⟨_, rfl, hI11, (H.rO (i := 10) rfl)⟩ (H.rO (i := 11) rfl)) ?_
            rintro _ w27 hE ⟨A11, n11, c11, rfl, hI12, H'⟩
            have H := H.callA H' ⟨fun _ _ _ _ _ h => h, trivial⟩
            refine WL.allocH rfl rfl rfl ze60 H fun b7 w28 H => ?_
            refine WL.stB (i := 14) rfl rfl rfl sz60 rfl rfl rfl rfl (all1 rfl (all1 rfl all0)) H rfl rfl rfl fun w29 H => ?_
            refine WL.nil ?_
            obtain ⟨y20, hy16, hr⟩ := bd hr
            refine CW.seq (CW.seq (CW.any2 4 (fun ρ => [.fix (.agg #[.int .i64 y19.N, .slice A11 n11 c11]), .fix (.agg #[.int .i64 y17.N, .slice A9 n9 c9]), .fix (.slice A10 n10 c10), .free (fun S v w => ∃ A12 : Option Addr, ∃ n12 : Nat, ∃ c12 : Nat, v = .agg #[.int .i64 y20.N, .slice A12 n12 c12] ∧ I64 y20.N ∧ NewI S w [It.O 3 y20.Rows (.slice A12 n12 c12)])]) [[], [], [], []] NoM (fun _ _ => True) [] [] (noM _) hmix (by kernel_rfl) rfl ⟨trivial, trivial, trivial, fun _ _ _ _ _ ⟨A12, n12, c12, hv, h0, hh⟩ hc hS hT => ⟨A12, n12, c12, hv, h0, hh.chgT hc hS⟩, trivial⟩ trivial (fun _ _ _ _ _ _ _ => trivial) ?_))
            refine LL2.fx rfl rfl rfl rfl rfl (fun _ hq hK => Ev.lda rfl ag60 sz60 rfl (At.blk ((H.ext hq).rB (i := 14) rfl)) rfl) ?_
            refine LL2.fx rfl rfl rfl rfl rfl (fun _ hq hK => Ev.lda rfl ag60 sz60 rfl (At.blk ((H.ext hq).rB (i := 12) rfl)) rfl) ?_
            refine LL2.fx rfl rfl rfl rfl rfl (fun _ hq hK => Ev.mv rfl rfl) ?_
            refine LL2.free rfl rfl rfl rfl (fun wq hq hK => ?_) (fun v_G3_3 S_G3_3 => ?_)
            · refine OpX.call rfl rfl rfl rfl ok53 rfl (sProjectRelation_ok hy16 ⟨_, rfl, hI11, ((H.ext hq).rO (i := 10) rfl)⟩ ((H.ext hq).rO (i := 11) rfl)) ?_
              rintro _ w hE ⟨A12, n12, c12, rfl, h0, hh⟩
              exact ⟨hE, A12, n12, c12, rfl, h0, NewI.of hh ⟨fun _ _ _ _ _ h => h, trivial⟩⟩
            intro w30 hE _ hK hap hbd
            have hE := chgNew hE
            obtain ⟨A12, n12, c12, rfl, hI13, hN4⟩ := hK 3 (by decide)
            have H := H.add hE hN4 ⟨fun _ _ _ _ _ h => h, trivial⟩ (fun q hq => (hbd 3 q hq).1)
            obtain ⟨y21, hy17, hr⟩ := bd hr
            refine WL.call rfl rfl rfl rfl rfl ok37 rfl (sEqualRelation_ok hy17 ⟨_, rfl, hI12, (H.rO (i := 13) rfl)⟩ ⟨_, rfl, hI13, (H.rO (i := 15) rfl)⟩) ?_
            rintro _ w31 hE rfl
            have H := H.ext hE
            refine WL.ev rfl rfl (Ev.not rfl rfl) (WL.nil ?_)
            refine CW.condBN rfl (fun h6 => ?_) (fun h6 => ?_)
            · skip
              have hr := ifn h6 hr
              refine CW.seq (CW.reg ?_)
              refine WL.ev rfl rfl (Ev.as rfl rfl) (WL.nil ?_)
              refine CW.ret ?_
              obtain rfl := sm hr
              exact ⟨_, res1 rfl rfl rfl, H.ext0, rfl⟩
            · skip
              have hr := ifp h6 hr
              refine CW.skip ?_
              refine CW.seq (CW.seq (CW.reg ?_))
              refine WL.ev rfl rfl (Ev.as rfl rfl) (WL.nil ?_)
              obtain ⟨q3, hq1, hr⟩ := bd hr
              refine CW.block (CW.loop (α := Nat) (fun k1 => [(10, .pointer (some ⟨b6, 0, none⟩)), (11, .slice A10 n10 c10), (12, .pointer (some ⟨b7, 0, none⟩)), (13, .int .i64 (k1 : Int))]) (fun k1 w => k1 ≤ y19.N.toNat ∧ findN (wFnPairs_L1 y17 y18 y19) k1 (y19.N.toNat - k1) () = some q3 ∧ HL F0 [] w0 w [Pr.S a0 (.slice A0' n0' c0')] [It.O 3 y2.Rows (.slice A1 n1 c1), It.B b1 60 [.int .i64 y2.N, .slice A1 n1 c1], It.O 3 y5.Rows (.slice A2 n2 c2), It.B b2 60 [.int .i64 y5.N, .slice A2 n2 c2], It.O 3 y10.Rows (.slice A4 n4 c4), It.O 3 y11.Rows (.slice A5 n5 c5), It.B b3 60 [.int .i64 y10.N, .slice A4 n4 c4], It.B b4 60 [.int .i64 y11.N, .slice A5 n5 c5], It.O 3 y12.Rows (.slice A6 n6 c6), It.B b5 60 [.int .i64 y12.N, .slice A6 n6 c6], It.O 3 y17.Rows (.slice A9 n9 c9), It.O 3 y18 (.slice A10 n10 c10), It.B b6 60 [.int .i64 y17.N, .slice A9 n9 c9], It.O 3 y19.Rows (.slice A11 n11 c11), It.B b7 60 [.int .i64 y19.N, .slice A11 n11 c11], It.O 3 y20.Rows (.slice A12 n12 c12)]) (fun k1 => y19.N.toNat - k1) 0 ⟨rfl, rfl, rfl, rfl, trivial⟩ ⟨Nat.zero_le _, hq1, H.keep 1 16⟩ ?_)
              rintro k1 σ w32 ⟨hk1, hq1, H⟩
              refine CW.seq (CW.seq (CW.reg ?_))
              refine WL.ev rfl rfl (Ev.mv rfl rfl) (WL.ev rfl rfl (Ev.fa rfl fo60_0 rfl) (WL.ev rfl rfl (Ev.ld rfl ag3 rfl ((H.rB (i := 14) rfl).cell rfl)) (WL.ev rfl rfl (Ev.bin rfl rfl rfl Bin.lss) (WL.nil ?_))))
              refine CW.condD rfl (fun h7 => ?_) (fun h7 => ?_)
              · skip
                have hk2 := toNat_lt h7
                obtain ⟨z1, hb1, hs1, ht1⟩ := findN_go hq1 hk2
                refine CW.skip ?_
                refine CW.seq (CW.block (CW.seq (CW.reg ?_)))
                refine WL.ev rfl rfl (Ev.as rfl rfl) (WL.nil ?_)
                obtain ⟨q4, hq2, hb1⟩ := bd hb1
                refine CW.block (CW.loop (α := Nat) (fun k2 => [(10, .pointer (some ⟨b6, 0, none⟩)), (11, .slice A10 n10 c10), (12, .pointer (some ⟨b7, 0, none⟩)), (13, .int .i64 (k1 : Int)), (14, .int .i64 (k2 : Int))]) (fun k2 w => k2 ≤ y19.N.toNat ∧ findN (wFnPairs_L2 y17 y18 y19 k1) k2 (y19.N.toNat - k2) () = some q4 ∧ HL F0 [] w0 w [Pr.S a0 (.slice A0' n0' c0')] [It.O 3 y2.Rows (.slice A1 n1 c1), It.B b1 60 [.int .i64 y2.N, .slice A1 n1 c1], It.O 3 y5.Rows (.slice A2 n2 c2), It.B b2 60 [.int .i64 y5.N, .slice A2 n2 c2], It.O 3 y10.Rows (.slice A4 n4 c4), It.O 3 y11.Rows (.slice A5 n5 c5), It.B b3 60 [.int .i64 y10.N, .slice A4 n4 c4], It.B b4 60 [.int .i64 y11.N, .slice A5 n5 c5], It.O 3 y12.Rows (.slice A6 n6 c6), It.B b5 60 [.int .i64 y12.N, .slice A6 n6 c6], It.O 3 y17.Rows (.slice A9 n9 c9), It.O 3 y18 (.slice A10 n10 c10), It.B b6 60 [.int .i64 y17.N, .slice A9 n9 c9], It.O 3 y19.Rows (.slice A11 n11 c11), It.B b7 60 [.int .i64 y19.N, .slice A11 n11 c11], It.O 3 y20.Rows (.slice A12 n12 c12)]) (fun k2 => y19.N.toNat - k2) 0 ⟨rfl, rfl, rfl, rfl, rfl, trivial⟩ ⟨Nat.zero_le _, hq2, H.keep 1 16⟩ ?_)
                rintro k2 σ w33 ⟨hk3, hq2, H⟩
                refine CW.seq (CW.seq (CW.reg ?_))
                refine WL.ev rfl rfl (Ev.mv rfl rfl) (WL.ev rfl rfl (Ev.fa rfl fo60_0 rfl) (WL.ev rfl rfl (Ev.ld rfl ag3 rfl ((H.rB (i := 14) rfl).cell rfl)) (WL.ev rfl rfl (Ev.bin rfl rfl rfl Bin.lss) (WL.nil ?_))))
                refine CW.condD rfl (fun h8 => ?_) (fun h8 => ?_)
                · skip
                  have hk4 := toNat_lt h8
                  obtain ⟨z2, hb2, hs2, ht2⟩ := findN_go hq2 hk4
                  refine CW.skip ?_
                  refine CW.seq (CW.block (CW.seq (CW.quiet hmix (by kernel_rfl) ?_)))
                  refine QL.ev rfl rfl (fun _ hq => Ev.lda rfl ag60 sz60 rfl (At.blk ((H.ext hq).rB (i := 14) rfl)) rfl) (QL.ev rfl rfl (fun _ _ => Ev.mv rfl rfl) (QL.ev rfl rfl (fun _ _ => Ev.mv rfl rfl) ?_))
                  obtain ⟨y22, hy18, hb2⟩ := bd hb2
                  refine QL.call rfl rfl rfl rfl rfl ok43 rfl (fun _ hq => iHasPair_ok hy18 ⟨_, rfl, hI12, ((H.ext hq).rO (i := 13) rfl)⟩ (i64_natI h7 hI12) (i64_natI h8 hI12)) ?_
                  refine QL.ev rfl rfl (fun _ hq => Ev.lda rfl ag60 sz60 rfl (At.blk ((H.ext hq).rB (i := 12) rfl)) rfl) (QL.ev rfl rfl (fun _ _ => Ev.mv rfl rfl) (QL.ev rfl rfl (fun _ _ => Ev.mv rfl rfl) ?_))
                  obtain ⟨x1, hx1, hb2⟩ := bd hb2
                  obtain ⟨b8, cb8, hvb8, hbb8⟩ := H.ptO (i := 11) rfl hx1
                  refine QL.ev rfl rfl (fun _ _ => Ev.ixVN rfl el41 sz3 rfl hvb8 rfl (lt_of hx1)) ?_
                  obtain ⟨hA1, hI14, H⟩ := elO_Int H (i := 11) rfl hx1 hbb8
                  refine QL.ev rfl rfl (fun _ hq => Ev.ld rfl ag3 rfl ((hA1.ext hq).cell0 rfl)) (QL.ev rfl rfl (fun _ _ => Ev.mv rfl rfl) (QL.ev rfl rfl (fun _ _ => Ev.mv rfl rfl) ?_))
                  obtain ⟨x2, hx2, hb2⟩ := bd hb2
                  obtain ⟨b9, cb9, hvb9, hbb9⟩ := H.ptO (i := 11) rfl hx2
                  refine QL.ev rfl rfl (fun _ _ => Ev.ixVN rfl el41 sz3 rfl hvb9 rfl (lt_of hx2)) ?_
                  obtain ⟨hA2, hI15, H⟩ := elO_Int H (i := 11) rfl hx2 hbb9
                  refine QL.ev rfl rfl (fun _ hq => Ev.ld rfl ag3 rfl ((hA2.ext hq).cell0 rfl)) ?_
                  obtain ⟨y23, hy19, hb2⟩ := bd hb2
                  refine QL.call rfl rfl rfl rfl rfl ok44 rfl (fun _ hq => sHasPair_ok hy19 ⟨_, rfl, hI11, ((H.ext hq).rO (i := 10) rfl)⟩ hI14 hI15) ?_
                  refine QL.ev rfl rfl (fun _ _ => Ev.bin rfl rfl rfl (Bin.neqBo Try.underlying4)) (QL.nil (fun w34 hE => ?_))
                  have H := H.ext hE
                  refine CW.condN rfl (fun h9 => ?_) (fun h9 => ?_)
                  · skip
                    have hb2 := ifn h9 hb2
                    refine CW.seq (CW.reg ?_)
                    refine WL.ev rfl rfl (Ev.as rfl rfl) (WL.nil ?_)
                    refine CW.ret ?_
                    obtain rfl := sm hb2
                    obtain rfl := ht2 _ rfl
                    obtain rfl := sm hb1
                    obtain rfl := ht1 _ rfl
                    obtain rfl := sm hr
                    exact ⟨_, res1 rfl rfl rfl, H.ext0, rfl⟩
                  · skip
                    have hb2 := ifp h9 hb2
                    refine CW.skip ?_
                    refine CW.reg ?_
                    refine WL.ev rfl rfl (Ev.mv rfl rfl) (WL.ev rfl rfl (Ev.bin rfl rfl rfl (Bin.addN (a := k2) (b := 1) rfl (i64_succNI h8 hI12.2))) (WL.ev rfl rfl (Ev.as rfl rfl) (WL.nil ?_)))
                    obtain rfl := sm hb2
                    have hq2 := hs2 _ rfl
                    exact ⟨(k2 + 1), ⟨rfl, rfl, rfl, rfl, rfl, trivial⟩, ⟨hk4, hq2, H.keep 1 16⟩, Nat.sub_lt_sub_left hk4 (Nat.lt_succ_self _)⟩
                · skip
                  obtain rfl := findN_end hq2 (not_toNat_lt h8)
                  have hb1 := (onr_inl _ _ _).symm.trans hb1
                  refine CW.exit ?_
                  refine CW.reg ?_
                  refine WL.ev rfl rfl (Ev.mv rfl rfl) (WL.ev rfl rfl (Ev.bin rfl rfl rfl (Bin.addN (a := k1) (b := 1) rfl (i64_succNI h7 hI12.2))) (WL.ev rfl rfl (Ev.as rfl rfl) (WL.nil ?_)))
                  obtain rfl := sm hb1
                  have hq1 := hs1 _ rfl
                  exact ⟨(k1 + 1), ⟨rfl, rfl, rfl, rfl, trivial⟩, ⟨hk2, hq1, H.keep 1 16⟩, Nat.sub_lt_sub_left hk2 (Nat.lt_succ_self _)⟩
              · skip
                obtain rfl := findN_end hq1 (not_toNat_lt h7)
                have hr := (onr_inl _ _ _).symm.trans hr
                refine CW.exit ?_
                refine CW.seq (CW.reg ?_)
                obtain ⟨y24, hy20, hr⟩ := bd hr
                refine WL.call rfl rfl rfl rfl rfl ok54 rfl (iEmptyRelation_ok hy20 (F0 := fun _ => False) (by decide : I64 3)) ?_
                rintro _ w35 hE ⟨A13, n13, c13, rfl, hI16, H'⟩
                have H := H.callA H' ⟨fun _ _ _ _ _ h => h, trivial⟩
                refine WL.litN (xs := ([0, 0, 0] : List Int)) rfl rfl rfl el41 sz3 ze3 rfl (ball1 rfl (ball1 rfl (ball1 rfl ball0))) rfl rfl rfl (fun _ => (ownL.cons1 (α := Int) ⟨rfl, rfl, (by decide : I64 0)⟩ (ownL.cons1 (α := Int) ⟨rfl, rfl, (by decide : I64 0)⟩ (ownL.cons1 (α := Int) ⟨rfl, rfl, (by decide : I64 0)⟩ ⟨rfl, rfl⟩)))) rfl H fun A14 n14 c14 w36 H => ?_
                refine WL.ev rfl rfl (Ev.build rfl pl60 ze60 rfl rfl rfl rfl) ?_
                obtain ⟨y25, hy21, hr⟩ := bd hr
                refine WL.call rfl rfl rfl rfl rfl ok37 rfl (sEqualRelation_ok hy21 ⟨_, rfl, hI16, (H.rO (i := 16) rfl)⟩ ⟨_, rfl, (by decide : I64 3), (H.rO (i := 17) rfl)⟩) ?_
                rintro _ w37 hE rfl
                have H := H.ext hE
                refine WL.ev rfl rfl (Ev.as rfl rfl) (WL.nil ?_)
                refine CW.ret ?_
                obtain rfl := sm hr
                exact ⟨_, res1 rfl rfl rfl, H.ext0, rfl⟩

end Go.Proofs.Ytonnooljidombaa

