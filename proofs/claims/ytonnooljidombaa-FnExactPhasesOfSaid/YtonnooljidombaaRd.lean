/- How the data of the program are taken out of memory: plain lemmas, without conditions of their own. -/
import Derived.Test.YtonnooljidombaaEngC
import Derived.Test.YtonnooljidombaaDat
set_option linter.unusedVariables false
set_option linter.unusedSimpArgs false
set_option linter.ambiguousOpen false
set_option linter.unusedSectionVars false
set_option linter.unnecessarySimpa false
set_option linter.unusedVariables false
set_option linter.unusedSimpArgs false
namespace Go.Proofs.Ytonnooljidombaa
open Go Go.E
open Go.E.Rep (rd)
open Go.E.Sep (own)
open Go.E.Sz (szd)
theorem ixS_Int {F0 : Nat → Prop} {M : List Nat} {w0 w : World} {fr : List Pr} {ow : List It} {i : Nat} {v : Value} {k : Nat} {xs : List Int} {x : Int} (H : HL F0 M w0 w fr ow) (hi : fr[i]? = some (Pr.S xs v)) (hx : xs[k]? = some x) : ∃ b o c, v = .slice (some ⟨b, o, none⟩) xs.length c ∧ I64 x ∧ HL F0 M w0 w (fr ++ [Pr.A b (o + k * 1) [.int .i64 x], Pr.R x [.int .i64 x]]) ow := by
  obtain ⟨b, o, c, cs, hv, hr, H⟩ := H.ixS hi hx
  obtain ⟨rfl, hr1, hr2⟩ := hr
  exact ⟨b, o, c, hv, ⟨hr1, hr2⟩, H⟩
theorem elO_Int {F0 : Nat → Prop} {M : List Nat} {w0 w : World} {fr : List Pr} {ow : List It} {i : Nat} {v : Value} {e k b : Nat} {xs : List Int} {x : Int} (H : HL F0 M w0 w fr ow) (hi : ow[i]? = some (It.O e xs v)) (hx : xs[k]? = some x) (hb : v.ownBlock = some b) : At w b (0 + k * 1) [.int .i64 x] ∧ I64 x ∧ HL F0 M w0 w (fr ++ [Pr.R x [.int .i64 x]]) ow := by
  obtain ⟨cs, hA, hr, H⟩ := H.elO hi hx hb
  obtain ⟨rfl, hr1, hr2⟩ := hr
  exact ⟨hA, ⟨hr1, hr2⟩, H⟩
theorem ixS_Bool {F0 : Nat → Prop} {M : List Nat} {w0 w : World} {fr : List Pr} {ow : List It} {i : Nat} {v : Value} {k : Nat} {xs : List Bool} {x : Bool} (H : HL F0 M w0 w fr ow) (hi : fr[i]? = some (Pr.S xs v)) (hx : xs[k]? = some x) : ∃ b o c, v = .slice (some ⟨b, o, none⟩) xs.length c ∧ HL F0 M w0 w (fr ++ [Pr.A b (o + k * 1) [.bool x], Pr.R x [.bool x]]) ow := by
  obtain ⟨b, o, c, cs, hv, hr, H⟩ := H.ixS hi hx
  obtain rfl := hr
  exact ⟨b, o, c, hv, H⟩
theorem elO_Bool {F0 : Nat → Prop} {M : List Nat} {w0 w : World} {fr : List Pr} {ow : List It} {i : Nat} {v : Value} {e k b : Nat} {xs : List Bool} {x : Bool} (H : HL F0 M w0 w fr ow) (hi : ow[i]? = some (It.O e xs v)) (hx : xs[k]? = some x) (hb : v.ownBlock = some b) : At w b (0 + k * 1) [.bool x] ∧ HL F0 M w0 w (fr ++ [Pr.R x [.bool x]]) ow := by
  obtain ⟨cs, hA, hr, H⟩ := H.elO hi hx hb
  obtain rfl := hr
  exact ⟨hA, H⟩
theorem op_Sl {α : Type} [Rep α] {F0 : Nat → Prop} {M : List Nat} {w0 w : World} {fr : List Pr} {ow : List It} {i : Nat} {x : List α} {cs : List Value} (H : HL F0 M w0 w fr ow) (hi : fr[i]? = some (Pr.R x cs)) : ∃ A0 : Option Addr, ∃ n0 c0 : Nat, cs = [.slice A0 n0 c0] ∧ HL F0 M w0 w (fr ++ [Pr.S x (.slice A0 n0 c0)]) ow := by
  have hr := H.rR hi
  obtain ⟨v0, rfl, s0⟩ := hr
  obtain ⟨A0, n0, c0, rfl⟩ := s0.form3
  exact ⟨A0, n0, c0, rfl, H.more (ps := [Pr.S x (.slice A0 n0 c0)]) (i := i) (p := Pr.R x [.slice A0 n0 c0]) hi fun F h => ⟨rd_slice.1 h, trivial⟩⟩
theorem op_Relation {F0 : Nat → Prop} {M : List Nat} {w0 w : World} {fr : List Pr} {ow : List It} {i : Nat} {x : Relation} {cs : List Value} (H : HL F0 M w0 w fr ow) (hi : fr[i]? = some (Pr.R x cs)) : ∃ A1 : Option Addr, ∃ n1 c1 : Nat, cs = [.int .i64 x.N, .slice A1 n1 c1] ∧ I64 x.N ∧ HL F0 M w0 w (fr ++ [Pr.S x.Rows (.slice A1 n1 c1)]) ow := by
  have hr := H.rR hi
  obtain ⟨v1, rfl, h0, s1⟩ := hr
  obtain ⟨A1, n1, c1, rfl⟩ := s1.form3
  exact ⟨A1, n1, c1, rfl, h0, H.more (ps := [Pr.S x.Rows (.slice A1 n1 c1)]) (i := i) (p := Pr.R x [.int .i64 x.N, .slice A1 n1 c1]) hi fun F h => by
    obtain ⟨w1, e, h0, s1⟩ := h
    simp only [List.cons.injEq, and_true, true_and] at e
    obtain rfl := e
    exact ⟨s1, trivial⟩⟩
theorem ixS_Attribute {F0 : Nat → Prop} {M : List Nat} {w0 w : World} {fr : List Pr} {ow : List It} {i : Nat} {v : Value} {k : Nat} {xs : List Attribute} {x : Attribute} (H : HL F0 M w0 w fr ow) (hi : fr[i]? = some (Pr.S xs v)) (hx : xs[k]? = some x) : ∃ b o c, v = .slice (some ⟨b, o, none⟩) xs.length c ∧ x.Name.size ≤ 9223372036854775807 ∧ I64 x.Type_ ∧ I64 x.Mode ∧ HL F0 M w0 w (fr ++ [Pr.A b (o + k * 4) [.string x.Name, .int .i64 x.Type_, .int .i64 x.Mode, .bool x.Circular], Pr.R x [.string x.Name, .int .i64 x.Type_, .int .i64 x.Mode, .bool x.Circular]]) ow := by
  obtain ⟨b, o, c, cs, hv, hr, H⟩ := H.ixS hi hx
  obtain ⟨rfl, h0, h1, h2⟩ := hr
  exact ⟨b, o, c, hv, h0, h1, h2, H⟩
end Go.Proofs.Ytonnooljidombaa

