/- The law FnExactPhasesOf returns true for all arguments and leaves them as they were; there is no condition. -/
import Derived.Test.YtonnooljidombaaRows
import Derived.Test.YtonnooljidombaaMathMKr
import Derived.Test.YtonnooljidombaaHelpa
set_option linter.unusedVariables false
set_option linter.unusedSimpArgs false
set_option linter.ambiguousOpen false
set_option linter.unusedSectionVars false
set_option linter.unnecessarySimpa false
set_option linter.unusedVariables false
set_option linter.unusedSimpArgs false
set_option maxRecDepth 100000
set_option maxHeartbeats 1000000
namespace Go.Proofs.Ytonnooljidombaa
open Go Go.E
open Go.E.Rep (rd)
open Go.E.Sep (own)
theorem ag91 : aggT Try.prog 91 = some true := by kernel_rfl
theorem sz91 : szT Try.prog 91 = some 2 := by kernel_rfl
theorem ok56 : callable Try.prog 56 = true := by kernel_rfl
theorem ok57 : callable Try.prog 57 = true := by kernel_rfl
theorem ok61 : callable Try.prog 61 = true := by kernel_rfl
theorem ok62 : callable Try.prog 62 = true := by kernel_rfl
theorem ok63 : callable Try.prog 63 = true := by kernel_rfl
theorem ok64 : callable Try.prog 64 = true := by kernel_rfl
theorem ok65 : callable Try.prog 65 = true := by kernel_rfl
theorem ok66 : callable Try.prog 66 = true := by kernel_rfl
theorem ok67 : callable Try.prog 67 = true := by kernel_rfl
theorem ok68 : callable Try.prog 68 = true := by kernel_rfl
theorem ok69 : callable Try.prog 69 = true := by kernel_rfl
theorem ok70 : callable Try.prog 70 = true := by kernel_rfl
theorem ok71 : callable Try.prog 71 = true := by kernel_rfl
theorem sPhasesOf_spec (w : World) {S1 : Nat → Prop} {S2 : Nat → Prop} (a : List Attribute) {za : Value} (ha : rdS S1 w a za) (ba : szL a ≤ 1048576) (r : Relation) {cr : List Value} (hr : rd S2 w r cr) (br : Sz.szd r ≤ 1048576) :
    Ret Try.prog 57 #[za, .agg cr.toArray] w (fun _ => False) fun v w' => ∃ v0, v = .tuple #[v0, .bool (((sPhasesOf_m a r).getD ([], false)).2)] ∧ NewS w w' (((sPhasesOf_m a r).getD ([], false)).1) v0 := by
  obtain ⟨h1, h2⟩ := phases_any a r br
  have hx : (sPhasesOf_m a r).getD ([], false) = phO a r := by rw [h2]; rfl
  rw [hx]
  exact (sPhasesOf_ok h2 (F0 := fun _ => True) (ha.mono fun _ _ => trivial) (Rep.mono hr fun _ _ => trivial)).mono fun v w' _ ⟨A, n, c, hv, H⟩ => ⟨_, hv, NewS.of H⟩

theorem iPhasesOf_spec (w : World) {S1 : Nat → Prop} {S2 : Nat → Prop} (a : List Attribute) {za : Value} (ha : rdS S1 w a za) (ba : szL a ≤ 1048576) (r : Relation) {cr : List Value} (hr : rd S2 w r cr) (br : Sz.szd r ≤ 1048576) :
    Ret Try.prog 56 #[za, .agg cr.toArray] w (fun _ => False) fun v w' => ∃ v0, v = .tuple #[v0, .bool (((sPhasesOf_m a r).getD ([], false)).2)] ∧ NewS w w' (((sPhasesOf_m a r).getD ([], false)).1) v0 := by
  obtain ⟨h1, h2⟩ := phases_any a r br
  have hx : (sPhasesOf_m a r).getD ([], false) = phO a r := by rw [h2]; rfl
  rw [hx]
  exact (iPhasesOf_ok h1 (F0 := fun _ => True) (ha.mono fun _ _ => trivial) (Rep.mono hr fun _ _ => trivial)).mono fun v w' _ ⟨A, n, c, hv, H⟩ => ⟨_, hv, NewS.of H⟩

theorem FnExactPhasesOf_law (w : World) {Sa : Nat → Prop} (a : List Attribute) {za : Value} (ha : rdS Sa w a za) {Sr : Nat → Prop} (r : Relation) {cr : List Value} (hr : rd Sr w r cr) :
    Ret Try.prog 10 #[za, .agg cr.toArray] w (fun _ => False) fun v _ => v = .bool true := by
  refine enter Try.func10 rfl rfl rfl ?_
  obtain ⟨A1, c1, rfl, hc1, hm1⟩ := ha.form
  have hl1 : a.length ≤ 9223372036854775807 := Nat.le_trans hc1 hm1
  have na := szL_length a
  have qa := szfold a
  have hK1 := hr
  obtain ⟨v1, rfl, hr1, hs1⟩ := hr
  obtain ⟨A2, c2, rfl, hc2, hm2⟩ := hs1.form
  have qr := Relation_szd r
  refine CW.seq (CW.reg ?_)
  refine WL.box rfl rfl rfl rfl rfl fun b1 w1 hEb1 hbb1 hBb1 => ?_
  refine WL.ev rfl rfl (Ev.as rfl rfl) (WL.nil ?_)
  refine CW.seq (CW.reg ?_)
  refine WL.ev rfl rfl (Ev.as rfl rfl) (WL.nil ?_)
  refine CW.seq (CW.reg ?_)
  refine WL.ev rfl rfl (Ev.mv rfl rfl) (WL.ev rfl rfl (Ev.mv rfl rfl) ?_)
  refine WL.call rfl rfl rfl rfl rfl ok61 rfl (szAttributeS_spec _ a (ha.ext hEb1) _ (by omega) (by omega)) ?_
  rintro _ w2 hEw2 ⟨r1, rfl, hr2⟩
  have hq1 := szfold a
  refine WL.ev rfl rfl (Ev.as rfl rfl) (WL.nil ?_)
  refine CW.fresh [(0, .slice A1 a.length c1), (3, .pointer (some ⟨b1, 0, none⟩)), (4, .bool false), (5, .int .i64 (r1))] ⟨rfl, rfl, rfl, rfl, trivial⟩ fun σ => ?_
  refine CW.seq (CW.seq (CW.reg ?_))
  refine WL.ev rfl rfl (Ev.mv rfl rfl) (WL.ev rfl rfl (Ev.bin rfl rfl rfl Bin.lss) (WL.nil ?_))
  refine CW.condD rfl (fun h1 => ?_) (fun h1 => ?_)
  · skip
    refine CW.fresh [(0, .slice A1 a.length c1), (3, .pointer (some ⟨b1, 0, none⟩)), (4, .bool false), (5, .int .i64 (r1))] ⟨rfl, rfl, rfl, rfl, trivial⟩ fun σ => ?_
    refine CW.seq (CW.reg ?_)
    refine WL.ev rfl rfl (Ev.as rfl rfl) (WL.nil ?_)
    refine CW.ret ?_
    exact ⟨_, res1 rfl rfl rfl, (hEb1.trans hEw2), rfl⟩
  · skip
    refine CW.skip ?_
    refine CW.fresh [(0, .slice A1 a.length c1), (3, .pointer (some ⟨b1, 0, none⟩)), (4, .bool false), (5, .int .i64 (r1))] ⟨rfl, rfl, rfl, rfl, trivial⟩ fun σ => ?_
    refine CW.seq (CW.reg ?_)
    refine WL.ev rfl rfl (Ev.lda rfl ag91 sz91 rfl (At.blk (hBb1.ext hEw2)) rfl) (WL.ev rfl rfl (Ev.mv rfl rfl) ?_)
    refine WL.call rfl rfl rfl rfl rfl ok62 rfl (szRelation_spec _ r (rd_ext hK1 (hEb1.trans hEw2)) _ (by omega) (by omega)) ?_
    rintro _ w3 hEw3 ⟨r2, rfl, hr3⟩
    have hq2 := Relation_szd r
    refine WL.ev rfl rfl (Ev.as rfl rfl) (WL.nil ?_)
    refine CW.fresh [(0, .slice A1 a.length c1), (3, .pointer (some ⟨b1, 0, none⟩)), (4, .bool false), (5, .int .i64 (r2))] ⟨rfl, rfl, rfl, rfl, trivial⟩ fun σ => ?_
    refine CW.seq (CW.seq (CW.reg ?_))
    refine WL.ev rfl rfl (Ev.mv rfl rfl) (WL.ev rfl rfl (Ev.bin rfl rfl rfl Bin.lss) (WL.nil ?_))
    refine CW.condD rfl (fun h2 => ?_) (fun h2 => ?_)
    · skip
      refine CW.fresh [(0, .slice A1 a.length c1), (3, .pointer (some ⟨b1, 0, none⟩)), (4, .bool false)] ⟨rfl, rfl, rfl, trivial⟩ fun σ => ?_
      refine CW.seq (CW.reg ?_)
      refine WL.ev rfl rfl (Ev.as rfl rfl) (WL.nil ?_)
      refine CW.ret ?_
      exact ⟨_, res1 rfl rfl rfl, ((hEb1.trans hEw2).trans hEw3), rfl⟩
    · skip
      refine CW.skip ?_
      refine CW.fresh [(0, .slice A1 a.length c1), (3, .pointer (some ⟨b1, 0, none⟩)), (4, .bool false)] ⟨rfl, rfl, rfl, trivial⟩ fun σ => ?_
      refine CW.seq (CW.any2 10 (fun ρ => [.fix (ρ 0), .free (fun S v w => rdS S w (a) v), .fix (.agg #[.int .i64 (r.N), .slice A2 r.Rows.length c2]), .free (fun S v w => ∃ cs : List Value, v = .agg cs.toArray ∧ rd S w (r) cs), .free (fun S v w => ∃ v0, v = .tuple #[v0, .bool (((sPhasesOf_m a r).getD ([], false)).2)] ∧ rdS S w (((sPhasesOf_m a r).getD ([], false)).1) v0), .dep 32 id, .dep 27 (tupAt 0), .dep 27 (tupAt 1), .dep 33 id, .dep 34 id]) [[], [], [], [], [], [32], [27], [27], [33], [34]] NoM (fun _ _ => True) [] [] (noM _) hmix (by kernel_rfl) rfl ⟨trivial, fun _ _ _ _ _ h hc hS _ => h.chg hc fun b hb _ hT => hS b hT hb, trivial, fun _ _ _ _ _ ⟨cs, e, h⟩ hc hS _ => ⟨cs, e, rd_chg h hc fun b hb _ hT => hS b hT hb⟩, fun _ _ _ _ _ ⟨v0, e, h⟩ hc hS _ => ⟨v0, e, h.chg hc fun b hb _ hT => hS b hT hb⟩, trivial, trivial, trivial, trivial, trivial, trivial⟩ trivial (fun _ _ _ _ _ _ _ => trivial) ?_)
      refine LL2.fx rfl rfl rfl rfl rfl (fun _ hq hK => Ev.mv rfl rfl) ?_
      refine LL2.free rfl rfl rfl rfl (fun wq hq hK => ?_) (fun v_1_1 S_1_1 => ?_)
      · skip
        refine OpX.call rfl rfl rfl rfl ok63 rfl (toAttributeS_spec _ a (ha.ext (((hEb1.trans hEw2).trans hEw3).trans hq)) (by omega)) ?_
        intro v w' hE h
        exact ⟨hE, NewS.rd h⟩
      refine LL2.fx rfl rfl rfl rfl rfl (fun _ hq hK => Ev.lda rfl ag91 sz91 rfl (At.blk (hBb1.ext ((hEw2.trans hEw3).trans hq))) rfl) ?_
      refine LL2.free rfl rfl rfl rfl (fun wq hq hK => ?_) (fun v_1_3 S_1_3 => ?_)
      · skip
        refine OpX.call rfl rfl rfl rfl ok64 rfl (toRelation_spec _ r (rd_ext hK1 (((hEb1.trans hEw2).trans hEw3).trans hq)) (by omega)) ?_
        rintro v w' hE ⟨cs, rfl, h⟩
        exact ⟨hE, cs, rfl, New.rd h⟩
      refine LL2.free rfl rfl rfl rfl (fun wq hq hK => ?_) (fun v_1_4 S_1_4 => ?_)
      · skip
        have hd1 : rdS S_1_1 wq (a) v_1_1 := hK 1 rfl
        obtain ⟨cs3, e3, hd3⟩ : ∃ cs : List Value, v_1_3 = .agg cs.toArray ∧ rd S_1_3 wq (r) cs := hK 3 rfl
        subst e3
        refine OpX.call rfl rfl rfl rfl ok57 rfl (sPhasesOf_spec _ a hd1 (by omega) r hd3 (by omega)) ?_
        rintro v w' hE ⟨v0, rfl, h⟩
        exact ⟨hE, v0, rfl, NewS.rd h⟩
      refine LL2.mv rfl rfl rfl rfl rfl (.inl rfl) rfl ?_
      refine LL2.ex rfl rfl rfl rfl rfl rfl rfl (fun wq hq hK => ?_) ?_
      · skip
        have hK : ∀ j' (_ : (directs _).contains j' = true), _ := hK 5 rfl
        obtain ⟨v0, rfl, _⟩ := hK 4 rfl
        exact ⟨_, _, rfl, rfl⟩
      refine LL2.ex rfl rfl rfl rfl rfl rfl rfl (fun wq hq hK => ?_) ?_
      · skip
        have hK : ∀ j' (_ : (directs _).contains j' = true), _ := hK 5 rfl
        obtain ⟨v0, rfl, _⟩ := hK 4 rfl
        exact ⟨_, _, rfl, rfl⟩
      refine LL2.mv rfl rfl rfl rfl rfl (.inr rfl) rfl ?_
      refine LL2.mv rfl rfl rfl rfl rfl (.inr rfl) rfl ?_
      intro w4 hEw4 _ hKr1 hap1 hbd1
      have hEw4 := chgNew hEw4
      have hs_1_4 : ∀ q, S_1_4 q → w3.heap.size ≤ q ∧ q < w4.heap.size := fun q hq => hbd1 4 q hq
      obtain ⟨v0_1_4, e1_4, hd1_4⟩ : ∃ v0, v_1_4 = .tuple #[v0, .bool (((sPhasesOf_m a r).getD ([], false)).2)] ∧ rdS S_1_4 w4 (((sPhasesOf_m a r).getD ([], false)).1) v0 := hKr1 4 (by decide)
      subst e1_4
      obtain ⟨A5, c5, rfl, hc5, hm5⟩ := hd1_4.form
      refine WL.nil ?_
      refine CW.fresh [(0, .slice A1 a.length c1), (3, .pointer (some ⟨b1, 0, none⟩)), (4, .bool false), (6, .slice A5 (((sPhasesOf_m a r).getD ([], false)).1).length c5), (7, .bool (((sPhasesOf_m a r).getD ([], false)).2))] ⟨rfl, rfl, rfl, rfl, rfl, trivial⟩ fun σ => ?_
      refine CW.seq (CW.reg ?_)
      refine WL.ev rfl rfl (Ev.mv rfl rfl) ?_
      refine WL.call rfl rfl rfl rfl rfl ok63 rfl (toAttributeS_spec _ a (ha.ext (((hEb1.trans hEw2).trans hEw3).trans hEw4)) (by omega)) ?_
      rintro v4 w5 hEw5 ⟨L4, hO4, hN4, hF4⟩
      obtain ⟨A6, c6, rfl, hc6, hm6⟩ := hO4.form
      refine WL.ev rfl rfl (Ev.as rfl rfl) (WL.nil ?_)
      refine CW.fresh [(0, .slice A1 a.length c1), (3, .pointer (some ⟨b1, 0, none⟩)), (4, .bool false), (6, .slice A5 (((sPhasesOf_m a r).getD ([], false)).1).length c5), (7, .bool (((sPhasesOf_m a r).getD ([], false)).2)), (8, .slice A6 (a).length c6)] ⟨rfl, rfl, rfl, rfl, rfl, rfl, trivial⟩ fun σ => ?_
      refine CW.seq (CW.reg ?_)
      refine WL.ev rfl rfl (Ev.lda rfl ag91 sz91 rfl (At.blk (hBb1.ext (((hEw2.trans hEw3).trans hEw4).trans hEw5))) rfl) ?_
      refine WL.call rfl rfl rfl rfl rfl ok64 rfl (toRelation_spec _ r (rd_ext hK1 ((((hEb1.trans hEw2).trans hEw3).trans hEw4).trans hEw5)) (by omega)) ?_
      rintro _ w6 hEw6 ⟨cs2, rfl, L5, hO5, hN5, hF5⟩
      refine WL.alloc rfl rfl rfl ze60 fun b2 w7 hEb2 hbb2 hBb2 => ?_
      refine WL.stW rfl rfl rfl sz60 rfl rfl rfl (Rep.len (Sep.own_rd (own_ext hO5 hEb2))) (Rep.one (Sep.own_rd (own_ext hO5 hEb2))) hBb2 rfl fun w8 hCw8 hB_1 => ?_
      have hT1 := Blk.chg1 (hBb1.ext (((((hEw2.trans hEw3).trans hEw4).trans hEw5).trans hEw6).trans hEb2)) hCw8 (by have := hBb1.lt; have := hbb2; have := hEw2.size; have := hEw3.size; have := hEw4.size; have := hEw5.size; have := hEw6.size; omega)
      have hT2 := rdS.chg1 (hd1_4.ext ((hEw5.trans hEw6).trans hEb2)) hCw8 (fun q hq _ e => by subst e; have := (hs_1_4 _ hq).2; have := hbb2; have := hEw5.size; have := hEw6.size; omega)
      have hT3 := ownS.chg1 (hO4.ext (hEw6.trans hEb2)) hCw8 (fun q hq e => by subst e; have := hO4.lt _ hq; have := hbb2; have := hEw6.size; omega)
      have hT4 := own_chg1 (own_ext hO5 hEb2) hCw8 (fun q hq e => by subst e; have := Sep.own_lt hO5 _ hq; have := hbb2; omega)
      have hX1 := Ext.chg1 ((((((hEb1.trans hEw2).trans hEw3).trans hEw4).trans hEw5).trans hEw6).trans hEb2) hCw8 (by have := hbb2; have := hEb1.size; have := hEw2.size; have := hEw3.size; have := hEw4.size; have := hEw5.size; have := hEw6.size; omega)
      refine WL.nil ?_
      refine CW.fresh [(0, .slice A1 a.length c1), (3, .pointer (some ⟨b1, 0, none⟩)), (4, .bool false), (6, .slice A5 (((sPhasesOf_m a r).getD ([], false)).1).length c5), (7, .bool (((sPhasesOf_m a r).getD ([], false)).2)), (8, .slice A6 (a).length c6), (9, .pointer (some ⟨b2, 0, none⟩))] ⟨rfl, rfl, rfl, rfl, rfl, rfl, rfl, trivial⟩ fun σ => ?_
      refine CW.seq (CW.reg ?_)
      refine WL.ev rfl rfl (Ev.mv rfl rfl) (WL.ev rfl rfl (Ev.lda rfl ag60 sz60 rfl (At.blk hB_1) (Rep.len (Sep.own_rd hT4))) ?_)
      refine WL.call rfl rfl rfl rfl rfl ok56 rfl (iPhasesOf_spec _ a hT3.rd (by omega) r (Sep.own_rd hT4) (by omega)) ?_
      rintro _ w9 hEw9 ⟨v5, rfl, L6, hO6, hN6, hF6⟩
      obtain ⟨A7, c7, rfl, hc7, hm7⟩ := hO6.form
      refine WL.ev rfl rfl (Ev.mv rfl rfl) (WL.ev rfl rfl (Ev.ex rfl rfl rfl) (WL.ev rfl rfl (Ev.ex rfl rfl rfl) (WL.ev rfl rfl (Ev.as rfl rfl) (WL.ev rfl rfl (Ev.as rfl rfl) (WL.nil ?_)))))
      refine CW.fresh [(0, .slice A1 a.length c1), (3, .pointer (some ⟨b1, 0, none⟩)), (4, .bool false), (6, .slice A5 (((sPhasesOf_m a r).getD ([], false)).1).length c5), (7, .bool (((sPhasesOf_m a r).getD ([], false)).2)), (8, .slice A6 (a).length c6), (9, .pointer (some ⟨b2, 0, none⟩)), (10, .slice A7 (((sPhasesOf_m a r).getD ([], false)).1).length c7), (11, .bool (((sPhasesOf_m a r).getD ([], false)).2))] ⟨rfl, rfl, rfl, rfl, rfl, rfl, rfl, rfl, rfl, trivial⟩ fun σ => ?_
      refine CW.seq (CW.seq (CW.reg ?_))
      refine WL.ev rfl rfl (Ev.mv rfl rfl) (WL.ev rfl rfl (Ev.mv rfl rfl) ?_)
      refine WL.call rfl rfl rfl rfl rfl ok65 rfl ((eqPhaseS_spec _ (((sPhasesOf_m a r).getD ([], false)).1) (((sPhasesOf_m a r).getD ([], false)).1) hO6.rd (hT2.ext hEw9)).yes rfl) ?_
      rintro _ w10 hEw10 rfl
      refine WL.ev rfl rfl (Ev.not rfl rfl) (WL.ev rfl rfl (Ev.mv rfl rfl) (WL.on rfl rfl (WL.ev rfl rfl (Ev.mv rfl rfl) (WL.on rfl rfl (WL.ev rfl rfl (Ev.mv rfl rfl) (WL.on rfl rfl (WL.ev rfl rfl (Ev.bin rfl rfl rfl (Bin.neqSameB Try.underlying4 rfl)) (WL.ev rfl rfl (Ev.pickF rfl rfl rfl) (WL.nil ?_)))))))))
      refine CW.condF rfl ?_
      refine CW.skip ?_
      refine CW.fresh [(0, .slice A1 a.length c1), (3, .pointer (some ⟨b1, 0, none⟩)), (4, .bool false), (6, .slice A5 (((sPhasesOf_m a r).getD ([], false)).1).length c5), (7, .bool (((sPhasesOf_m a r).getD ([], false)).2)), (8, .slice A6 (a).length c6), (9, .pointer (some ⟨b2, 0, none⟩)), (10, .slice A7 (((sPhasesOf_m a r).getD ([], false)).1).length c7), (11, .bool (((sPhasesOf_m a r).getD ([], false)).2))] ⟨rfl, rfl, rfl, rfl, rfl, rfl, rfl, rfl, rfl, trivial⟩ fun σ => ?_
      refine CW.seq (CW.seq (CW.reg ?_))
      refine WL.ev rfl rfl (Ev.mv rfl rfl) (WL.ev rfl rfl (Ev.mv rfl rfl) ?_)
      refine WL.call rfl rfl rfl rfl rfl ok63 rfl (toAttributeS_spec _ a (ha.ext ((hX1.trans hEw9).trans hEw10)) (by omega)) ?_
      rintro v6 w11 hEw11 ⟨L7, hO7, hN7, hF7⟩
      obtain ⟨A8, c8, rfl, hc8, hm8⟩ := hO7.form
      refine WL.call rfl rfl rfl rfl rfl ok66 rfl ((eqAttributeS_spec _ a a (hT3.ext ((hEw9.trans hEw10).trans hEw11)).rd hO7.rd).yes rfl) ?_
      rintro _ w12 hEw12 rfl
      refine WL.ev rfl rfl (Ev.not rfl rfl) (WL.nil ?_)
      refine CW.condF rfl ?_
      refine CW.skip ?_
      refine CW.fresh [(0, .slice A1 a.length c1), (3, .pointer (some ⟨b1, 0, none⟩)), (4, .bool false), (6, .slice A5 (((sPhasesOf_m a r).getD ([], false)).1).length c5), (7, .bool (((sPhasesOf_m a r).getD ([], false)).2)), (8, .slice A6 (a).length c6), (9, .pointer (some ⟨b2, 0, none⟩)), (10, .slice A7 (((sPhasesOf_m a r).getD ([], false)).1).length c7), (11, .bool (((sPhasesOf_m a r).getD ([], false)).2))] ⟨rfl, rfl, rfl, rfl, rfl, rfl, rfl, rfl, rfl, trivial⟩ fun σ => ?_
      refine CW.seq (CW.seq (CW.anyE 5 (fun ρ => [.inl (.agg cs2.toArray), .inl (.agg #[.int .i64 (r.N), .slice A2 r.Rows.length c2]), .inr (fun S v w => ∃ cs : List Value, v = .agg cs.toArray ∧ rd S w (r) cs), .inl (.bool true), .inl (.bool (!true))]) hmix (by kernel_rfl) ⟨trivial, trivial, fun _ _ _ _ ⟨cs, e, h⟩ hE => ⟨cs, e, rd_ext h hE⟩, trivial, trivial, trivial⟩ ?_))
      refine LL.fx rfl rfl rfl (fun _ hq hK => Ev.lda rfl ag60 sz60 rfl (At.blk (hB_1.ext ((((hEw9.trans hEw10).trans hEw11).trans hEw12).trans hq))) (Rep.len (Sep.own_rd (own_ext hT4 ((((hEw9.trans hEw10).trans hEw11).trans hEw12).trans hq))))) ?_
      refine LL.fx rfl rfl rfl (fun _ hq hK => Ev.lda rfl ag91 sz91 rfl (At.blk (hT1.ext ((((hEw9.trans hEw10).trans hEw11).trans hEw12).trans hq))) rfl) ?_
      refine LL.free rfl rfl (fun wq hq hK => ?_) (fun v_2_2 S_2_2 => ?_)
      · skip
        refine OpX.call rfl rfl rfl rfl ok64 rfl (toRelation_spec _ r (rd_ext hK1 (((((hX1.trans hEw9).trans hEw10).trans hEw11).trans hEw12).trans hq)) (by omega)) ?_
        rintro v w' hE ⟨cs, rfl, h⟩
        exact ⟨hE, cs, rfl, New.rd h⟩
      refine LL.fixed rfl rfl (fun wq hq hK => ?_) ?_
      · skip
        obtain ⟨cs2, e2, hd2⟩ : ∃ cs : List Value, v_2_2 = .agg cs.toArray ∧ rd S_2_2 wq (r) cs := hK 2 rfl
        subst e2
        refine OpX.call rfl rfl rfl rfl ok67 rfl ((eqRelation_spec _ r r (Sep.own_rd (own_ext hT4 ((((hEw9.trans hEw10).trans hEw11).trans hEw12).trans hq))) hd2).yes rfl) ?_
        rintro v w' hE rfl
        exact ⟨hE, rfl⟩
      refine LL.fx rfl rfl rfl (fun _ hq hK => Ev.not rfl rfl) ?_
      intro w13 hEw13 hKr2 hap2 hbd2
      have hs_2_2 : ∀ q, S_2_2 q → w12.heap.size ≤ q ∧ q < w13.heap.size := fun q hq => hbd2 2 q hq
      refine WL.nil ?_
      refine CW.condF rfl ?_
      refine CW.skip ?_
      refine CW.fresh [(0, .slice A1 a.length c1), (3, .pointer (some ⟨b1, 0, none⟩)), (4, .bool false), (6, .slice A5 (((sPhasesOf_m a r).getD ([], false)).1).length c5), (7, .bool (((sPhasesOf_m a r).getD ([], false)).2)), (8, .slice A6 (a).length c6), (9, .pointer (some ⟨b2, 0, none⟩)), (10, .slice A7 (((sPhasesOf_m a r).getD ([], false)).1).length c7), (11, .bool (((sPhasesOf_m a r).getD ([], false)).2))] ⟨rfl, rfl, rfl, rfl, rfl, rfl, rfl, rfl, rfl, trivial⟩ fun σ => ?_
      refine CW.seq (CW.reg ?_)
      refine WL.ev rfl rfl (Ev.as rfl rfl) (WL.nil ?_)
      refine CW.fresh [(0, .slice A1 a.length c1), (3, .pointer (some ⟨b1, 0, none⟩)), (4, .bool false), (6, .slice A5 (((sPhasesOf_m a r).getD ([], false)).1).length c5), (7, .bool (((sPhasesOf_m a r).getD ([], false)).2)), (8, .slice A6 (a).length c6), (9, .pointer (some ⟨b2, 0, none⟩)), (10, .slice A7 (((sPhasesOf_m a r).getD ([], false)).1).length c7), (11, .bool (((sPhasesOf_m a r).getD ([], false)).2)), (12, .int .i64 (1))] ⟨rfl, rfl, rfl, rfl, rfl, rfl, rfl, rfl, rfl, rfl, trivial⟩ fun σ => ?_
      refine CW.seq (CW.reg ?_)
      refine WL.ev rfl rfl (Ev.mv rfl rfl) (WL.ev rfl rfl (Ev.mv rfl rfl) ?_)
      refine WL.call rfl rfl rfl rfl rfl ok68 rfl (markAttributeS_spec _ L4 a (hT3.ext ((((hEw9.trans hEw10).trans hEw11).trans hEw12).trans hEw13)) hN4 1 (by omega) (by have := cnt_any a (by omega); omega)) ?_
      rintro _ w14 hEw14 ⟨rfl, hO_1⟩
      have hT5 := Blk.chgL (hT1.ext ((((hEw9.trans hEw10).trans hEw11).trans hEw12).trans hEw13)) hEw14 (fun hq => by have := hBb1.lt; have := hF4 _ hq; have := hEw2.size; have := hEw3.size; have := hEw4.size; omega)
      have hT6 := rdS.chgL (hT2.ext ((((hEw9.trans hEw10).trans hEw11).trans hEw12).trans hEw13)) hEw14 (fun q hq _ h2 => by have := (hs_1_4 _ hq).2; have := hF4 _ h2; omega)
      have hT7 := own_chgL (own_ext hT4 ((((hEw9.trans hEw10).trans hEw11).trans hEw12).trans hEw13)) hEw14 (fun q hq h2 => by have := hO4.lt _ h2; have := hF5 _ hq; omega)
      have hT8 := Blk.chgL (hB_1.ext ((((hEw9.trans hEw10).trans hEw11).trans hEw12).trans hEw13)) hEw14 (fun hq => by have := hO4.lt _ hq; have := hbb2; have := hEw6.size; omega)
      have hT9 := ownS.chgL (hO6.ext (((hEw10.trans hEw11).trans hEw12).trans hEw13)) hEw14 (fun q hq h2 => by have := hO4.lt _ h2; have := hF6 _ hq; have := hEw6.size; have := hEb2.size; have := hCw8.size; omega)
      have hT10 := ownS.chgL (hO7.ext (hEw12.trans hEw13)) hEw14 (fun q hq h2 => by have := hO4.lt _ h2; have := hF7 _ hq; have := hEw6.size; have := hEb2.size; have := hCw8.size; have := hEw9.size; have := hEw10.size; omega)
      have hX2 := Ext.chgL (((((hX1.trans hEw9).trans hEw10).trans hEw11).trans hEw12).trans hEw13) hEw14 (fun q hq => by have := hF4 _ hq; have := hEb1.size; have := hEw2.size; have := hEw3.size; have := hEw4.size; omega)
      have := cnt_any a (by omega)
      refine WL.ev rfl rfl (Ev.as rfl rfl) (WL.nil ?_)
      refine CW.fresh [(0, .slice A1 a.length c1), (3, .pointer (some ⟨b1, 0, none⟩)), (4, .bool false), (6, .slice A5 (((sPhasesOf_m a r).getD ([], false)).1).length c5), (7, .bool (((sPhasesOf_m a r).getD ([], false)).2)), (9, .pointer (some ⟨b2, 0, none⟩)), (10, .slice A7 (((sPhasesOf_m a r).getD ([], false)).1).length c7), (11, .bool (((sPhasesOf_m a r).getD ([], false)).2)), (12, .int .i64 (1 + (cntL a : Nat)))] ⟨rfl, rfl, rfl, rfl, rfl, rfl, rfl, rfl, rfl, trivial⟩ fun σ => ?_
      refine CW.seq (CW.reg ?_)
      refine WL.ev rfl rfl (Ev.lda rfl ag60 sz60 rfl (At.blk hT8) (Rep.len (Sep.own_rd hT7))) (WL.ev rfl rfl (Ev.mv rfl rfl) ?_)
      refine WL.call rfl rfl rfl rfl rfl ok69 rfl (markRelation_spec _ L5 r hT7 hN5 (1 + (cntL a : Nat)) (by omega) (by have := cnt_anyT r (by omega); omega)) ?_
      rintro _ w15 hEw15 ⟨rfl, hO_2⟩
      have hT11 := Blk.chgL hT5 hEw15 (fun hq => by have := hBb1.lt; have := hF5 _ hq; have := hEw2.size; have := hEw3.size; have := hEw4.size; have := hEw5.size; omega)
      have hT12 := rdS.chgL hT6 hEw15 (fun q hq _ h2 => by have := (hs_1_4 _ hq).2; have := hF5 _ h2; have := hEw5.size; omega)
      have hT13 := ownS.chgL hO_1 hEw15 (fun q hq h2 => by have := hO4.lt _ hq; have := hF5 _ h2; omega)
      have hT14 := Blk.chgL hT8 hEw15 (fun hq => by have := Sep.own_lt hO5 _ hq; have := hbb2; omega)
      have hT15 := ownS.chgL hT9 hEw15 (fun q hq h2 => by have := Sep.own_lt hO5 _ h2; have := hF6 _ hq; have := hEb2.size; have := hCw8.size; omega)
      have hT16 := ownS.chgL hT10 hEw15 (fun q hq h2 => by have := Sep.own_lt hO5 _ h2; have := hF7 _ hq; have := hEb2.size; have := hCw8.size; have := hEw9.size; have := hEw10.size; omega)
      have hX3 := Ext.chgL hX2 hEw15 (fun q hq => by have := hF5 _ hq; have := hEb1.size; have := hEw2.size; have := hEw3.size; have := hEw4.size; have := hEw5.size; omega)
      have := cnt_anyT r (by omega)
      refine WL.ev rfl rfl (Ev.as rfl rfl) (WL.nil ?_)
      refine CW.fresh [(0, .slice A1 a.length c1), (3, .pointer (some ⟨b1, 0, none⟩)), (4, .bool false), (6, .slice A5 (((sPhasesOf_m a r).getD ([], false)).1).length c5), (7, .bool (((sPhasesOf_m a r).getD ([], false)).2)), (10, .slice A7 (((sPhasesOf_m a r).getD ([], false)).1).length c7), (11, .bool (((sPhasesOf_m a r).getD ([], false)).2)), (12, .int .i64 (1 + (cntL a : Nat) + (MkT.cntT r : Nat)))] ⟨rfl, rfl, rfl, rfl, rfl, rfl, rfl, rfl, trivial⟩ fun σ => ?_
      refine CW.seq (CW.seq (CW.reg ?_))
      refine WL.ev rfl rfl (Ev.mv rfl rfl) (WL.ev rfl rfl (Ev.bin rfl rfl rfl (Bin.no (by omega))) (WL.ev rfl rfl (Ev.mv rfl rfl) (WL.on rfl rfl (WL.ev rfl rfl (Ev.mv rfl rfl) (WL.on rfl rfl (WL.ev rfl rfl (Ev.mv rfl rfl) (WL.on rfl rfl ?_)))))))
      refine WL.call rfl rfl rfl rfl rfl ok65 rfl ((eqPhaseS_spec _ (((sPhasesOf_m a r).getD ([], false)).1) (((sPhasesOf_m a r).getD ([], false)).1) hT15.rd hT12).yes rfl) ?_
      rintro _ w16 hEw16 rfl
      refine WL.on rfl rfl (WL.ev rfl rfl (Ev.not rfl rfl) (WL.ev rfl rfl (Ev.pickF rfl rfl rfl) (WL.ev rfl rfl (Ev.mv rfl rfl) (WL.on rfl rfl (WL.ev rfl rfl (Ev.mv rfl rfl) (WL.on rfl rfl (WL.ev rfl rfl (Ev.mv rfl rfl) (WL.on rfl rfl (WL.ev rfl rfl (Ev.bin rfl rfl rfl (Bin.neqSameB Try.underlying4 rfl)) (WL.ev rfl rfl (Ev.pickF rfl rfl rfl) (WL.nil ?_)))))))))))
      refine CW.condF rfl ?_
      refine CW.skip ?_
      refine CW.fresh [(0, .slice A1 a.length c1), (3, .pointer (some ⟨b1, 0, none⟩)), (4, .bool false), (6, .slice A5 (((sPhasesOf_m a r).getD ([], false)).1).length c5), (7, .bool (((sPhasesOf_m a r).getD ([], false)).2)), (10, .slice A7 (((sPhasesOf_m a r).getD ([], false)).1).length c7)] ⟨rfl, rfl, rfl, rfl, rfl, rfl, trivial⟩ fun σ => ?_
      refine CW.seq (CW.reg ?_)
      refine WL.ev rfl rfl (Ev.as rfl rfl) (WL.nil ?_)
      refine CW.fresh [(0, .slice A1 a.length c1), (3, .pointer (some ⟨b1, 0, none⟩)), (4, .bool false), (6, .slice A5 (((sPhasesOf_m a r).getD ([], false)).1).length c5), (7, .bool (((sPhasesOf_m a r).getD ([], false)).2)), (10, .slice A7 (((sPhasesOf_m a r).getD ([], false)).1).length c7), (13, .int .i64 (1))] ⟨rfl, rfl, rfl, rfl, rfl, rfl, rfl, trivial⟩ fun σ => ?_
      refine CW.seq (CW.reg ?_)
      refine WL.ev rfl rfl (Ev.mv rfl rfl) (WL.ev rfl rfl (Ev.mv rfl rfl) ?_)
      refine WL.call rfl rfl rfl rfl rfl ok70 rfl (markPhaseS_spec _ L6 (((sPhasesOf_m a r).getD ([], false)).1) (hT15.ext hEw16) hN6 1 (by omega) (by have := cnt_phases a r (by omega) (by omega); omega)) ?_
      rintro _ w17 hEw17 ⟨rfl, hO_3⟩
      have hT17 := Blk.chgL (hT11.ext hEw16) hEw17 (fun hq => by have := hBb1.lt; have := hF6 _ hq; have := hEw2.size; have := hEw3.size; have := hEw4.size; have := hEw5.size; have := hEw6.size; have := hEb2.size; have := hCw8.size; omega)
      have hT18 := rdS.chgL (hT12.ext hEw16) hEw17 (fun q hq _ h2 => by have := (hs_1_4 _ hq).2; have := hF6 _ h2; have := hEw5.size; have := hEw6.size; have := hEb2.size; have := hCw8.size; omega)
      have hT19 := ownS.chgL (hT13.ext hEw16) hEw17 (fun q hq h2 => by have := hO4.lt _ hq; have := hF6 _ h2; have := hEw6.size; have := hEb2.size; have := hCw8.size; omega)
      have hT20 := own_chgL (own_ext hO_2 hEw16) hEw17 (fun q hq h2 => by have := Sep.own_lt hO5 _ hq; have := hF6 _ h2; have := hEb2.size; have := hCw8.size; omega)
      have hT21 := Blk.chgL (hT14.ext hEw16) hEw17 (fun hq => by have := hBb2.lt; have := hF6 _ hq; have := hCw8.size; omega)
      have hT22 := ownS.chgL (hT16.ext hEw16) hEw17 (fun q hq h2 => by have := hO6.lt _ h2; have := hF7 _ hq; have := hEw10.size; omega)
      have hX4 := Ext.chgL (hX3.trans hEw16) hEw17 (fun q hq => by have := hF6 _ hq; have := hEb1.size; have := hEw2.size; have := hEw3.size; have := hEw4.size; have := hEw5.size; have := hEw6.size; have := hEb2.size; have := hCw8.size; omega)
      have := cnt_phases a r (by omega) (by omega)
      refine WL.ev rfl rfl (Ev.as rfl rfl) (WL.nil ?_)
      refine CW.fresh [(0, .slice A1 a.length c1), (3, .pointer (some ⟨b1, 0, none⟩)), (4, .bool false), (6, .slice A5 (((sPhasesOf_m a r).getD ([], false)).1).length c5), (7, .bool (((sPhasesOf_m a r).getD ([], false)).2)), (10, .slice A7 (((sPhasesOf_m a r).getD ([], false)).1).length c7), (13, .int .i64 (1 + (cntL (((sPhasesOf_m a r).getD ([], false)).1) : Nat)))] ⟨rfl, rfl, rfl, rfl, rfl, rfl, rfl, trivial⟩ fun σ => ?_
      refine CW.seq (CW.reg ?_)
      refine WL.ev rfl rfl (Ev.as rfl rfl) (WL.nil ?_)
      refine CW.fresh [(0, .slice A1 a.length c1), (3, .pointer (some ⟨b1, 0, none⟩)), (4, .bool false), (6, .slice A5 (((sPhasesOf_m a r).getD ([], false)).1).length c5), (7, .bool (((sPhasesOf_m a r).getD ([], false)).2)), (10, .slice A7 (((sPhasesOf_m a r).getD ([], false)).1).length c7), (13, .int .i64 (1 + (cntL (((sPhasesOf_m a r).getD ([], false)).1) : Nat))), (14, .int .i64 (1))] ⟨rfl, rfl, rfl, rfl, rfl, rfl, rfl, rfl, trivial⟩ fun σ => ?_
      refine CW.seq (CW.reg ?_)
      refine WL.ev rfl rfl (Ev.mv rfl rfl) (WL.ev rfl rfl (Ev.mv rfl rfl) ?_)
      refine WL.call rfl rfl rfl rfl rfl ok71 rfl (heldPhaseS_spec _ (mkL (((sPhasesOf_m a r).getD ([], false)).1) 1) hO_3.rd 1 (by omega) (by rw [cntL_mkL]; have := cnt_phases a r (by omega) (by omega); omega)) ?_
      rintro _ w18 hEw18 ⟨r3, rfl, hr4⟩
      rw [hdL_mkL] at hr4
      have := hr4.is
      refine WL.ev rfl rfl (Ev.as rfl rfl) (WL.nil ?_)
      refine CW.fresh [(0, .slice A1 a.length c1), (3, .pointer (some ⟨b1, 0, none⟩)), (4, .bool false), (6, .slice A5 (((sPhasesOf_m a r).getD ([], false)).1).length c5), (7, .bool (((sPhasesOf_m a r).getD ([], false)).2)), (10, .slice A7 (((sPhasesOf_m a r).getD ([], false)).1).length c7), (13, .int .i64 (1 + (cntL (((sPhasesOf_m a r).getD ([], false)).1) : Nat))), (14, .int .i64 (r3))] ⟨rfl, rfl, rfl, rfl, rfl, rfl, rfl, rfl, trivial⟩ fun σ => ?_
      refine CW.seq (CW.seq (CW.reg ?_))
      refine WL.ev rfl rfl (Ev.mv rfl rfl) (WL.ev rfl rfl (Ev.bin rfl rfl rfl (Bin.no (by omega))) (WL.nil ?_))
      refine CW.condF rfl ?_
      refine CW.skip ?_
      refine CW.fresh [(0, .slice A1 a.length c1), (3, .pointer (some ⟨b1, 0, none⟩)), (4, .bool false), (6, .slice A5 (((sPhasesOf_m a r).getD ([], false)).1).length c5), (7, .bool (((sPhasesOf_m a r).getD ([], false)).2)), (10, .slice A7 (((sPhasesOf_m a r).getD ([], false)).1).length c7), (13, .int .i64 (1 + (cntL (((sPhasesOf_m a r).getD ([], false)).1) : Nat))), (14, .int .i64 (r3))] ⟨rfl, rfl, rfl, rfl, rfl, rfl, rfl, rfl, trivial⟩ fun σ => ?_
      refine CW.seq (CW.seq (CW.reg ?_))
      refine WL.ev rfl rfl (Ev.mv rfl rfl) (WL.ev rfl rfl (Ev.mv rfl rfl) (WL.ev rfl rfl (Ev.bin rfl rfl rfl (Bin.neqSame (by omega))) (WL.nil ?_)))
      refine CW.condF rfl ?_
      refine CW.skip ?_
      refine CW.fresh [(0, .slice A1 a.length c1), (3, .pointer (some ⟨b1, 0, none⟩)), (4, .bool false), (6, .slice A5 (((sPhasesOf_m a r).getD ([], false)).1).length c5), (7, .bool (((sPhasesOf_m a r).getD ([], false)).2)), (10, .slice A7 (((sPhasesOf_m a r).getD ([], false)).1).length c7), (13, .int .i64 (1 + (cntL (((sPhasesOf_m a r).getD ([], false)).1) : Nat))), (14, .int .i64 (r3))] ⟨rfl, rfl, rfl, rfl, rfl, rfl, rfl, rfl, trivial⟩ fun σ => ?_
      refine CW.seq (CW.any2 10 (fun ρ => [.fix (ρ 0), .free (fun S v w => rdS S w (a) v), .fix (.agg #[.int .i64 (r.N), .slice A2 r.Rows.length c2]), .free (fun S v w => ∃ cs : List Value, v = .agg cs.toArray ∧ rd S w (r) cs), .free (fun S v w => ∃ v0, v = .tuple #[v0, .bool (((sPhasesOf_m a r).getD ([], false)).2)] ∧ rdS S w (((sPhasesOf_m a r).getD ([], false)).1) v0), .dep 99 id, .dep 94 (tupAt 0), .dep 94 (tupAt 1), .dep 100 id, .dep 101 id]) [[], [], [], [], [], [99], [94], [94], [100], [101]] NoM (fun _ _ => True) [] [] (noM _) hmix (by kernel_rfl) rfl ⟨trivial, fun _ _ _ _ _ h hc hS _ => h.chg hc fun b hb _ hT => hS b hT hb, trivial, fun _ _ _ _ _ ⟨cs, e, h⟩ hc hS _ => ⟨cs, e, rd_chg h hc fun b hb _ hT => hS b hT hb⟩, fun _ _ _ _ _ ⟨v0, e, h⟩ hc hS _ => ⟨v0, e, h.chg hc fun b hb _ hT => hS b hT hb⟩, trivial, trivial, trivial, trivial, trivial, trivial⟩ trivial (fun _ _ _ _ _ _ _ => trivial) ?_)
      refine LL2.fx rfl rfl rfl rfl rfl (fun _ hq hK => Ev.mv rfl rfl) ?_
      refine LL2.free rfl rfl rfl rfl (fun wq hq hK => ?_) (fun v_3_1 S_3_1 => ?_)
      · skip
        refine OpX.call rfl rfl rfl rfl ok63 rfl (toAttributeS_spec _ a (ha.ext ((hX4.trans hEw18).trans hq)) (by omega)) ?_
        intro v w' hE h
        exact ⟨hE, NewS.rd h⟩
      refine LL2.fx rfl rfl rfl rfl rfl (fun _ hq hK => Ev.lda rfl ag91 sz91 rfl (At.blk (hT17.ext (hEw18.trans hq))) rfl) ?_
      refine LL2.free rfl rfl rfl rfl (fun wq hq hK => ?_) (fun v_3_3 S_3_3 => ?_)
      · skip
        refine OpX.call rfl rfl rfl rfl ok64 rfl (toRelation_spec _ r (rd_ext hK1 ((hX4.trans hEw18).trans hq)) (by omega)) ?_
        rintro v w' hE ⟨cs, rfl, h⟩
        exact ⟨hE, cs, rfl, New.rd h⟩
      refine LL2.free rfl rfl rfl rfl (fun wq hq hK => ?_) (fun v_3_4 S_3_4 => ?_)
      · skip
        have hd1 : rdS S_3_1 wq (a) v_3_1 := hK 1 rfl
        obtain ⟨cs3, e3, hd3⟩ : ∃ cs : List Value, v_3_3 = .agg cs.toArray ∧ rd S_3_3 wq (r) cs := hK 3 rfl
        subst e3
        refine OpX.call rfl rfl rfl rfl ok56 rfl (iPhasesOf_spec _ a hd1 (by omega) r hd3 (by omega)) ?_
        rintro v w' hE ⟨v0, rfl, h⟩
        exact ⟨hE, v0, rfl, NewS.rd h⟩
      refine LL2.mv rfl rfl rfl rfl rfl (.inl rfl) rfl ?_
      refine LL2.ex rfl rfl rfl rfl rfl rfl rfl (fun wq hq hK => ?_) ?_
      · skip
        have hK : ∀ j' (_ : (directs _).contains j' = true), _ := hK 5 rfl
        obtain ⟨v0, rfl, _⟩ := hK 4 rfl
        exact ⟨_, _, rfl, rfl⟩
      refine LL2.ex rfl rfl rfl rfl rfl rfl rfl (fun wq hq hK => ?_) ?_
      · skip
        have hK : ∀ j' (_ : (directs _).contains j' = true), _ := hK 5 rfl
        obtain ⟨v0, rfl, _⟩ := hK 4 rfl
        exact ⟨_, _, rfl, rfl⟩
      refine LL2.mv rfl rfl rfl rfl rfl (.inr rfl) rfl ?_
      refine LL2.mv rfl rfl rfl rfl rfl (.inr rfl) rfl ?_
      intro w19 hEw19 _ hKr3 hap3 hbd3
      have hEw19 := chgNew hEw19
      have hs_3_4 : ∀ q, S_3_4 q → w18.heap.size ≤ q ∧ q < w19.heap.size := fun q hq => hbd3 4 q hq
      obtain ⟨v0_3_4, e3_4, hd3_4⟩ : ∃ v0, v_3_4 = .tuple #[v0, .bool (((sPhasesOf_m a r).getD ([], false)).2)] ∧ rdS S_3_4 w19 (((sPhasesOf_m a r).getD ([], false)).1) v0 := hKr3 4 (by decide)
      subst e3_4
      obtain ⟨A11, c11, rfl, hc11, hm11⟩ := hd3_4.form
      refine WL.nil ?_
      refine CW.fresh [(4, .bool false), (6, .slice A5 (((sPhasesOf_m a r).getD ([], false)).1).length c5), (7, .bool (((sPhasesOf_m a r).getD ([], false)).2)), (10, .slice A7 (((sPhasesOf_m a r).getD ([], false)).1).length c7), (13, .int .i64 (1 + (cntL (((sPhasesOf_m a r).getD ([], false)).1) : Nat))), (14, .int .i64 (r3)), (15, .slice A11 (((sPhasesOf_m a r).getD ([], false)).1).length c11), (16, .bool (((sPhasesOf_m a r).getD ([], false)).2))] ⟨rfl, rfl, rfl, rfl, rfl, rfl, rfl, rfl, trivial⟩ fun σ => ?_
      refine CW.seq (CW.seq (CW.reg ?_))
      refine WL.ev rfl rfl (Ev.mv rfl rfl) (WL.ev rfl rfl (Ev.mv rfl rfl) ?_)
      refine WL.call rfl rfl rfl rfl rfl ok65 rfl ((eqPhaseS_spec _ (((sPhasesOf_m a r).getD ([], false)).1) (((sPhasesOf_m a r).getD ([], false)).1) hd3_4 (hT18.ext (hEw18.trans hEw19))).yes rfl) ?_
      rintro _ w20 hEw20 rfl
      refine WL.ev rfl rfl (Ev.not rfl rfl) (WL.ev rfl rfl (Ev.mv rfl rfl) (WL.on rfl rfl (WL.ev rfl rfl (Ev.mv rfl rfl) (WL.on rfl rfl (WL.ev rfl rfl (Ev.mv rfl rfl) (WL.on rfl rfl (WL.ev rfl rfl (Ev.bin rfl rfl rfl (Bin.neqSameB Try.underlying4 rfl)) (WL.ev rfl rfl (Ev.pickF rfl rfl rfl) (WL.nil ?_)))))))))
      refine CW.condF rfl ?_
      refine CW.skip ?_
      refine CW.fresh [(4, .bool false), (10, .slice A7 (((sPhasesOf_m a r).getD ([], false)).1).length c7), (13, .int .i64 (1 + (cntL (((sPhasesOf_m a r).getD ([], false)).1) : Nat))), (14, .int .i64 (r3))] ⟨rfl, rfl, rfl, rfl, trivial⟩ fun σ => ?_
      refine CW.seq (CW.reg ?_)
      refine WL.ev rfl rfl (Ev.as rfl rfl) (WL.nil ?_)
      refine CW.fresh [(4, .bool false), (10, .slice A7 (((sPhasesOf_m a r).getD ([], false)).1).length c7), (13, .int .i64 (1 + (cntL (((sPhasesOf_m a r).getD ([], false)).1) : Nat))), (14, .int .i64 (1))] ⟨rfl, rfl, rfl, rfl, trivial⟩ fun σ => ?_
      refine CW.seq (CW.reg ?_)
      refine WL.ev rfl rfl (Ev.mv rfl rfl) (WL.ev rfl rfl (Ev.mv rfl rfl) ?_)
      refine WL.call rfl rfl rfl rfl rfl ok71 rfl (heldPhaseS_spec _ (mkL (((sPhasesOf_m a r).getD ([], false)).1) 1) (hO_3.ext ((hEw18.trans hEw19).trans hEw20)).rd 1 (by omega) (by rw [cntL_mkL]; have := cnt_phases a r (by omega) (by omega); omega)) ?_
      rintro _ w21 hEw21 ⟨r4, rfl, hr5⟩
      rw [hdL_mkL] at hr5
      have := hr5.is
      refine WL.ev rfl rfl (Ev.as rfl rfl) (WL.nil ?_)
      refine CW.fresh [(4, .bool false), (13, .int .i64 (1 + (cntL (((sPhasesOf_m a r).getD ([], false)).1) : Nat))), (14, .int .i64 (r4))] ⟨rfl, rfl, rfl, trivial⟩ fun σ => ?_
      refine CW.seq (CW.seq (CW.reg ?_))
      refine WL.ev rfl rfl (Ev.mv rfl rfl) (WL.ev rfl rfl (Ev.bin rfl rfl rfl (Bin.no (by omega))) (WL.nil ?_))
      refine CW.condF rfl ?_
      refine CW.skip ?_
      refine CW.fresh [(4, .bool false), (13, .int .i64 (1 + (cntL (((sPhasesOf_m a r).getD ([], false)).1) : Nat))), (14, .int .i64 (r4))] ⟨rfl, rfl, rfl, trivial⟩ fun σ => ?_
      refine CW.seq (CW.seq (CW.reg ?_))
      refine WL.ev rfl rfl (Ev.mv rfl rfl) (WL.ev rfl rfl (Ev.mv rfl rfl) (WL.ev rfl rfl (Ev.bin rfl rfl rfl (Bin.neqSame (by omega))) (WL.nil ?_)))
      refine CW.condF rfl ?_
      refine CW.skip ?_
      refine CW.fresh [(4, .bool false)] ⟨rfl, trivial⟩ fun σ => ?_
      refine CW.seq (CW.reg ?_)
      refine WL.ev rfl rfl (Ev.as rfl rfl) (WL.nil ?_)
      refine CW.ret ?_
      exact ⟨_, res1 rfl rfl rfl, ((((hX4.trans hEw18).trans hEw19).trans hEw20).trans hEw21), rfl⟩

section
open Go.ChangeShapes Go.WideShapes Go.ChangeAt Go.RowKit
theorem own_knob : ownKnob Try.prog.godebug = none := by kernel_rfl
theorem laid_out : laidOutB Try.prog = true := by kernel_rfl
set_option maxRecDepth 100000 in
theorem fnExactPhasesOf_lifted (os : Os) (started : os.Started) (H : Type) (enc : TypeId × Value → H) :
    ReturnsInHanded {} Try.checked os 10 .any (Rows.fnExactPhasesOfSpec.pre6 enc Try.prog Try.f10 Rows.fnExactPhasesOfRow.domain false) (Rows.fnExactPhasesOfSpec.post enc Try.prog Try.f10 false true false false) := by
  refine returnsInHanded_of_change (C := Try.checked) own_knob started (by kernel_rfl) Try.func10
    (ChangeSpec.witness6 (enc := enc) (C := Try.checked) false ⟨#[], #[.slice none 0 0, .agg #[.int .i64 0, .slice none 0 0]], []⟩ 8 (by kernel_rfl) (by kernel_rfl) (by kernel_rfl) (by kernel_rfl)) ?_
  intro W base args ds gs before hval0 hW hcnd _
  have hval : ∀ (j : Nat) t v, Try.f10.params[j]? = some t → args[j]? = some v → Value.okWide Try.prog W .any base t v := hval0
  have hW' := hW
  obtain ⟨p, q, hA0, hV, rfl, hfz, hnd⟩ := hW
  have hA : DataW.TrodAll enc Try.prog W 0 (fun _ => true) true Try.f10.params.toList args.toList ds p := hA0
  rw [Try.params10] at hA hval
  obtain ⟨v0, vs0, d0, ds0, p0, q0, hargs, rfl, rfl, t0, r0⟩ := trodAll_cons hA
  obtain ⟨v1, vs1, d1, ds1, p1, q1, rfl, rfl, rfl, t1, r1⟩ := trodAll_cons r0
  obtain ⟨rfl, rfl, rfl⟩ := trodAll_nil r1
  obtain rfl : args = #[v0, v1] := by cases args; simp_all
  obtain ⟨rfl, rfl⟩ := trodVars_none hV
  have k0 := t0
  have lt0 : ∀ x ∈ p0, x.block < W.heap.size := by obtain ⟨m, hm⟩ := k0; exact DataW.trod_lt m _ _ _ hm
  obtain ⟨m0, hm0⟩ := t0
  obtain ⟨a0, ha0⟩ := open90.2 _ _ _ _ _ _ _ _ _ hm0
  obtain ⟨x0, l0, c0, rfl⟩ := okWide_slice Try.underlying90 (hval 0 90 v0 rfl rfl)
  obtain ⟨z0, e0, ha0⟩ := ha0
  obtain rfl : Value.slice x0 l0 c0 = z0 := by injection e0
  have k1 := t1
  have lt1 : ∀ x ∈ p1, x.block < W.heap.size := by obtain ⟨m, hm⟩ := k1; exact DataW.trod_lt m _ _ _ hm
  obtain ⟨m1, hm1⟩ := t1
  obtain ⟨a1, ha1⟩ := open91.2 _ _ _ _ _ _ _ _ _ hm1
  obtain ⟨⟨c1⟩, rfl, _⟩ := okWide_struct Try.underlying91 (hval 1 91 v1 rfl rfl)
  clear hA0 hval0
  refine Calls.mono (FnExactPhasesOf_law W a0 ha0 a1 ha1) fun e W' ⟨v, he, hch, hv⟩ => ?_
  subst he; subst hv
  have bel := Ext.below hch
  exact ⟨_, rfl, _, _, _, [], _, [], hW', trodAll_mk1 (shut_bool Try.underlying4 _), (trodAll_cons_mk (Below.trod laid_out (by kernel_rfl) (of_decide_eq_true (by kernel_rfl)) k0 bel lt0) (trodAll_cons_mk (Below.trod laid_out (by kernel_rfl) (of_decide_eq_true (by kernel_rfl)) k1 bel lt1) trodAll_mk0)), rfl, bel.frame _, fun h => by cases h⟩
theorem fnExactPhasesOf_holds : Rows.FnExactPhasesOfSaid :=
  OpenClaim.holds_of_wide 10 Try.f10 rfl rfl rfl rfl rfl rfl rfl ⟨rfl, rfl, rfl, rfl, rfl⟩ rfl rfl rfl rfl rfl (by kernel_rfl) Try.func10 (by kernel_rfl)
    (of_decide_eq_true (by kernel_rfl)) (by unfold Func.isWrapper; first | (rw [if_pos (by decide +kernel)]; kernel_rfl) | (rw [if_neg (by decide +kernel)]; exact ⟨rfl, rfl⟩))
    (fun os started H enc _ => fnExactPhasesOf_lifted os started H enc)
end
end Go.Proofs.Ytonnooljidombaa

