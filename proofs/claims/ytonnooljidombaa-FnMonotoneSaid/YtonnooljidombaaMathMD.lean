/- What those partial functions come to: plain lemmas on data; each bears its conditions in its statement. -/
import Derived.Test.YtonnooljidombaaLift
import Derived.Test.YtonnooljidombaaEngC
set_option linter.unusedVariables false
set_option linter.unusedSimpArgs false
set_option linter.ambiguousOpen false
set_option linter.unusedSectionVars false
set_option linter.unnecessarySimpa false
set_option linter.unusedVariables false
set_option linter.unusedSimpArgs false
namespace Go.Proofs.Ytonnooljidombaa
open Go Go.E
/-! ### what is drawn lies where it should -/
theorem goAnd_le {x m : Int} (h0 : 0 ≤ m) (h1 : m < 9223372036854775808) : 0 ≤ goAnd x m ∧ goAnd x m ≤ m := by
  unfold goAnd
  have h2 : (BitVec.ofInt 64 m).toNat = m.toNat := by
    rw [BitVec.toNat_ofInt]
    have : m % ((2 ^ 64 : Nat) : Int) = m := Int.emod_eq_of_lt h0 (by omega)
    rw [this]
  have h3 : (BitVec.ofInt 64 x &&& BitVec.ofInt 64 m).toNat ≤ m.toNat := by
    rw [BitVec.toNat_and, h2]; exact Nat.and_le_right
  rw [IntWalk.i64_in _ (by omega)]
  omega
/-- a cursor as it may be -/
def CurOk (o : l1Cur) : Prop := 0 ≤ o.i ∧ o.b.length ≤ 1048576
theorem new_some {a : List UInt8} (h : a.length ≤ 1048576) : ∃ o, sl1New_m a = some o ∧ CurOk o ∧ o.b = a := by
  have key : ∀ (m j : Nat) (s : Int), j + m = a.length → ∃ q, iterO (sl1New_L1 a) (s, (j : Int)) = some q := by
    intro m
    induction m with
    | zero =>
      intro j s hj
      exact ⟨s, iterO_done (by unfold sl1New_L1; dsimp only; rw [if_neg (by omega)])⟩
    | succ m ih =>
      intro j s hj
      by_cases hlt : (j : Int) < 4000
      · obtain ⟨x, hx⟩ : ∃ x, a[j]? = some x := ⟨_, List.getElem?_eq_getElem (by omega)⟩
        obtain ⟨q, hq⟩ := ih (j + 1) (goAnd (IntKind.i64.wrap ((IntKind.i64.wrap ((IntKind.i64.wrap (s * 131)) + (x.toNat : Int))) + 7)) 1073741823) (by omega)
        refine ⟨q, (iterO_next ?_).trans hq⟩
        have hw : IntKind.i64.wrap ((j : Int) + 1) = ((j + 1 : Nat) : Int) := by rw [IntWalk.i64_in _ (by omega)]; rfl
        unfold sl1New_L1
        dsimp only
        rw [if_pos (by omega), if_pos hlt, grd_pos (by omega), Int.toNat_natCast, hx, Option.bind_some, hw]
      · exact ⟨s, iterO_done (by unfold sl1New_L1; dsimp only; rw [if_pos (by omega), if_neg hlt])⟩
  obtain ⟨q, hq⟩ := key a.length 0 (IntKind.i64.wrap (26583 + (a.length : Int))) (by omega)
  have hq' : iterO (sl1New_L1 a) ((IntKind.i64.wrap (26583 + (a.length : Int))), 0) = some q := hq
  refine ⟨⟨a, 0, q⟩, ?_, ⟨Int.le_refl _, h⟩, rfl⟩
  unfold sl1New_m
  rw [hq', Option.bind_some]
theorem byte_some {o : l1Cur} (h : CurOk o) : ∃ y z, sl1Byte_m o = some (y, z) ∧ 0 ≤ y ∧ y ≤ 255 ∧ CurOk z ∧ z.b = o.b := by
  obtain ⟨h0, h1⟩ := h
  unfold sl1Byte_m
  by_cases hi : o.i < (o.b.length : Int)
  · obtain ⟨x, hx⟩ : ∃ x, o.b[o.i.toNat]? = some x := ⟨_, List.getElem?_eq_getElem (by omega)⟩
    rw [if_pos hi, grd_pos h0, hx, Option.bind_some]
    refine ⟨_, _, rfl, (goAnd_le (by omega) (by omega)).1, (goAnd_le (by omega) (by omega)).2, ⟨?_, h1⟩, rfl⟩
    show 0 ≤ IntKind.i64.wrap (o.i + 1)
    rw [IntWalk.i64_in _ (by omega)]; omega
  · rw [if_neg hi]
    exact ⟨_, _, rfl, (goAnd_le (by omega) (by omega)).1, (goAnd_le (by omega) (by omega)).2, ⟨h0, h1⟩, rfl⟩
theorem tmod_lt {y n : Int} (hy : 0 ≤ y) (hn : 0 < n) : 0 ≤ y.tmod n ∧ y.tmod n < n := by
  rw [Int.tmod_eq_emod_of_nonneg hy]
  exact ⟨Int.emod_nonneg _ (by omega), Int.emod_lt_of_pos _ hn⟩
theorem below_some {o : l1Cur} (h : CurOk o) (n : Int) : ∃ y z, sl1Below_m n o = some (y, z) ∧ 0 ≤ y ∧ (0 < n → y < n) ∧ (n ≤ 0 → y = 0) ∧ CurOk z ∧ z.b = o.b := by
  unfold sl1Below_m
  by_cases hn : n ≤ 0
  · rw [if_pos hn]; exact ⟨0, o, rfl, Int.le_refl _, fun h => absurd h (by omega), fun _ => rfl, h, rfl⟩
  · rw [if_neg hn]
    by_cases h2 : n ≤ 256
    · obtain ⟨y, z, h3, h4, h5, h6, h7⟩ := byte_some h
      rw [if_pos h2, h3, Option.bind_some]
      dsimp only
      rw [grd_pos (by omega)]
      have := tmod_lt h4 (show 0 < n by omega)
      exact ⟨_, _, rfl, this.1, fun _ => this.2, fun h => absurd h hn, ⟨h6.1, h.2⟩, rfl⟩
    · obtain ⟨y1, z1, a1, a2, a3, a4, a5⟩ := byte_some h
      obtain ⟨y2, z2, b1, b2, b3, b4, b5⟩ := byte_some (o := ⟨o.b, z1.i, z1.h⟩) ⟨a4.1, h.2⟩
      obtain ⟨y3, z3, c1, c2, c3, c4, c5⟩ := byte_some (o := ⟨o.b, z2.i, z2.h⟩) ⟨b4.1, h.2⟩
      obtain ⟨y4, z4, d1, d2, d3, d4, d5⟩ := byte_some (o := ⟨o.b, z3.i, z3.h⟩) ⟨c4.1, h.2⟩
      rw [if_neg h2, a1, Option.bind_some]
      dsimp only
      rw [b1, Option.bind_some]
      dsimp only
      rw [c1, Option.bind_some]
      dsimp only
      rw [d1, Option.bind_some]
      dsimp only
      rw [grd_pos (by constructor <;> omega), grd_pos (by constructor <;> omega), grd_pos (by constructor <;> omega), grd_pos (by constructor <;> omega), grd_pos (by constructor <;> omega), grd_pos (by constructor <;> omega), grd_pos (by omega)]
      have := tmod_lt (y := y1 * 16777216 + y2 * 65536 + y3 * 256 + y4) (by omega) (show 0 < n by omega)
      exact ⟨_, _, rfl, this.1, fun _ => this.2, fun h => absurd h hn, ⟨d4.1, h.2⟩, rfl⟩
theorem pickInt_some {o : l1Cur} (h : CurOk o) {l : List Int} (hl : l ≠ []) : ∃ y z, sl1PickInt_m l o = some (y, z) ∧ y ∈ l ∧ CurOk z ∧ z.b = o.b := by
  have hpos := List.length_pos_iff.2 hl
  obtain ⟨y, z, h1, h2, h3, _, h5, h6⟩ := below_some h (l.length : Int)
  have := h3 (by omega)
  obtain ⟨x, hx⟩ : ∃ x, l[y.toNat]? = some x := ⟨_, List.getElem?_eq_getElem (by omega)⟩
  unfold sl1PickInt_m
  rw [h1, Option.bind_some]
  dsimp only
  rw [grd_pos h2, hx, Option.bind_some]
  exact ⟨_, _, rfl, List.mem_of_getElem? hx, ⟨h5.1, h.2⟩, rfl⟩
end Go.Proofs.Ytonnooljidombaa

