/- How the data of the program are taken out of memory: plain lemmas, without conditions of their own. -/
import Derived.Test.YtonnooljidombaaEngC
import Derived.Test.YtonnooljidombaaDat
set_option linter.unusedVariables false
set_option linter.unusedSimpArgs false
set_option linter.ambiguousOpen false
set_option linter.unusedSectionVars false
set_option linter.unnecessarySimpa false
set_option linter.unusedVariables false
set_option linter.unusedSimpArgs false
namespace Go.Proofs.Ytonnooljidombaa
open Go Go.E
open Go.E.Rep (rd)
open Go.E.Sep (own)
open Go.E.Sz (szd)
theorem ixS_Int {F0 : Nat → Prop} {M : List Nat} {w0 w : World} {fr : List Pr} {ow : List It} {i : Nat} {v : Value} {k : Nat} {xs : List Int} {x : Int} (H : HL F0 M w0 w fr ow) (hi : fr[i]? = some (Pr.S xs v)) (hx : xs[k]? = some x) : ∃ b o c, v = .slice (some ⟨b, o, none⟩) xs.length c ∧ I64 x ∧ HL F0 M w0 w (fr ++ [Pr.A b (o + k * 1) [.int .i64 x], Pr.R x [.int .i64 x]]) ow := by
  obtain ⟨b, o, c, cs, hv, hr, H⟩ := H.ixS hi hx
  obtain ⟨rfl, hr1, hr2⟩ := hr
  exact ⟨b, o, c, hv, ⟨hr1, hr2⟩, H⟩
theorem ixS_Byte {F0 : Nat → Prop} {M : List Nat} {w0 w : World} {fr : List Pr} {ow : List It} {i : Nat} {v : Value} {k : Nat} {xs : List UInt8} {x : UInt8} (H : HL F0 M w0 w fr ow) (hi : fr[i]? = some (Pr.S xs v)) (hx : xs[k]? = some x) : ∃ b o c, v = .slice (some ⟨b, o, none⟩) xs.length c ∧ HL F0 M w0 w (fr ++ [Pr.A b (o + k * 1) [.int .u8 (x.toNat : Int)], Pr.R x [.int .u8 (x.toNat : Int)]]) ow := by
  obtain ⟨b, o, c, cs, hv, hr, H⟩ := H.ixS hi hx
  obtain rfl := hr
  exact ⟨b, o, c, hv, H⟩
theorem ixS_Str {F0 : Nat → Prop} {M : List Nat} {w0 w : World} {fr : List Pr} {ow : List It} {i : Nat} {v : Value} {k : Nat} {xs : List ByteArray} {x : ByteArray} (H : HL F0 M w0 w fr ow) (hi : fr[i]? = some (Pr.S xs v)) (hx : xs[k]? = some x) : ∃ b o c, v = .slice (some ⟨b, o, none⟩) xs.length c ∧ x.size ≤ 9223372036854775807 ∧ HL F0 M w0 w (fr ++ [Pr.A b (o + k * 1) [.string x], Pr.R x [.string x]]) ow := by
  obtain ⟨b, o, c, cs, hv, hr, H⟩ := H.ixS hi hx
  obtain ⟨rfl, hr⟩ := hr
  exact ⟨b, o, c, hv, hr, H⟩
theorem op_Sl {α : Type} [Rep α] {F0 : Nat → Prop} {M : List Nat} {w0 w : World} {fr : List Pr} {ow : List It} {i : Nat} {x : List α} {cs : List Value} (H : HL F0 M w0 w fr ow) (hi : fr[i]? = some (Pr.R x cs)) : ∃ A0 : Option Addr, ∃ n0 c0 : Nat, cs = [.slice A0 n0 c0] ∧ HL F0 M w0 w (fr ++ [Pr.S x (.slice A0 n0 c0)]) ow := by
  have hr := H.rR hi
  obtain ⟨v0, rfl, s0⟩ := hr
  obtain ⟨A0, n0, c0, rfl⟩ := s0.form3
  exact ⟨A0, n0, c0, rfl, H.more (ps := [Pr.S x (.slice A0 n0 c0)]) (i := i) (p := Pr.R x [.slice A0 n0 c0]) hi fun F h => ⟨rd_slice.1 h, trivial⟩⟩
theorem op_Expr {F0 : Nat → Prop} {M : List Nat} {w0 w : World} {fr : List Pr} {ow : List It} {i : Nat} {x : Expr} {cs : List Value} (H : HL F0 M w0 w fr ow) (hi : fr[i]? = some (Pr.R x cs)) : ∃ A6 : Option Addr, ∃ n6 c6 : Nat, cs = [.int .i64 x.Kind, .int .i64 x.N, .int .i64 x.Pos, .int .i64 x.Type_, .string x.Symbol, .string x.Name, .slice A6 n6 c6] ∧ I64 x.Kind ∧ I64 x.N ∧ I64 x.Pos ∧ I64 x.Type_ ∧ x.Symbol.size ≤ 9223372036854775807 ∧ x.Name.size ≤ 9223372036854775807 ∧ HL F0 M w0 w (fr ++ [Pr.S x.Args (.slice A6 n6 c6)]) ow := by
  have hr := H.rR hi
  obtain ⟨v6, rfl, h0, h1, h2, h3, h4, h5, s6⟩ := (Expr_rd.1 hr)
  obtain ⟨A6, n6, c6, rfl⟩ := s6.form3
  exact ⟨A6, n6, c6, rfl, h0, h1, h2, h3, h4, h5, H.more (ps := [Pr.S x.Args (.slice A6 n6 c6)]) (i := i) (p := Pr.R x [.int .i64 x.Kind, .int .i64 x.N, .int .i64 x.Pos, .int .i64 x.Type_, .string x.Symbol, .string x.Name, .slice A6 n6 c6]) hi fun F h => by
    obtain ⟨w6, e, h0, h1, h2, h3, h4, h5, s6⟩ := (Expr_rd.1 h)
    simp only [List.cons.injEq, and_true, true_and] at e
    obtain rfl := e
    exact ⟨s6, trivial⟩⟩
theorem ixS_Expr {F0 : Nat → Prop} {M : List Nat} {w0 w : World} {fr : List Pr} {ow : List It} {i : Nat} {v : Value} {k : Nat} {xs : List Expr} {x : Expr} (H : HL F0 M w0 w fr ow) (hi : fr[i]? = some (Pr.S xs v)) (hx : xs[k]? = some x) : ∃ b o c, ∃ A6 : Option Addr, ∃ n6 c6 : Nat, v = .slice (some ⟨b, o, none⟩) xs.length c ∧ I64 x.Kind ∧ I64 x.N ∧ I64 x.Pos ∧ I64 x.Type_ ∧ x.Symbol.size ≤ 9223372036854775807 ∧ x.Name.size ≤ 9223372036854775807 ∧ HL F0 M w0 w (fr ++ [Pr.A b (o + k * 7) [.int .i64 x.Kind, .int .i64 x.N, .int .i64 x.Pos, .int .i64 x.Type_, .string x.Symbol, .string x.Name, .slice A6 n6 c6], Pr.R x [.int .i64 x.Kind, .int .i64 x.N, .int .i64 x.Pos, .int .i64 x.Type_, .string x.Symbol, .string x.Name, .slice A6 n6 c6], Pr.S x.Args (.slice A6 n6 c6)]) ow := by
  obtain ⟨b, o, c, cs, hv, hr, H⟩ := H.ixS hi hx
  obtain ⟨v6, rfl, h0, h1, h2, h3, h4, h5, s6⟩ := (Expr_rd.1 hr)
  obtain ⟨A6, n6, c6, rfl⟩ := s6.form3
  exact ⟨b, o, c, A6, n6, c6, hv, h0, h1, h2, h3, h4, h5, by
    have H := H.more (ps := [Pr.S x.Args (.slice A6 n6 c6)]) (i := fr.length + 1) (p := Pr.R x [.int .i64 x.Kind, .int .i64 x.N, .int .i64 x.Pos, .int .i64 x.Type_, .string x.Symbol, .string x.Name, .slice A6 n6 c6]) (by simp) fun F h => by
        obtain ⟨w6, e, h0, h1, h2, h3, h4, h5, s6⟩ := (Expr_rd.1 h)
        simp only [List.cons.injEq, and_true, true_and] at e
        obtain rfl := e
        exact ⟨s6, trivial⟩
    rwa [List.append_assoc] at H⟩
theorem op_Occurrence {F0 : Nat → Prop} {M : List Nat} {w0 w : World} {fr : List Pr} {ow : List It} {i : Nat} {x : Occurrence} {cs : List Value} (H : HL F0 M w0 w fr ow) (hi : fr[i]? = some (Pr.R x cs)) : cs = [.int .i64 x.Pos, .string x.Name] ∧ I64 x.Pos ∧ x.Name.size ≤ 9223372036854775807 ∧ HL F0 M w0 w (fr ++ []) ow := by
  have hr := H.rR hi
  obtain ⟨rfl, h0, h1⟩ := hr
  exact ⟨rfl, h0, h1, by simpa using H⟩
theorem ixS_Occurrence {F0 : Nat → Prop} {M : List Nat} {w0 w : World} {fr : List Pr} {ow : List It} {i : Nat} {v : Value} {k : Nat} {xs : List Occurrence} {x : Occurrence} (H : HL F0 M w0 w fr ow) (hi : fr[i]? = some (Pr.S xs v)) (hx : xs[k]? = some x) : ∃ b o c, v = .slice (some ⟨b, o, none⟩) xs.length c ∧ I64 x.Pos ∧ x.Name.size ≤ 9223372036854775807 ∧ HL F0 M w0 w (fr ++ [Pr.A b (o + k * 2) [.int .i64 x.Pos, .string x.Name], Pr.R x [.int .i64 x.Pos, .string x.Name]]) ow := by
  obtain ⟨b, o, c, cs, hv, hr, H⟩ := H.ixS hi hx
  obtain ⟨rfl, h0, h1⟩ := hr
  exact ⟨b, o, c, hv, h0, h1, H⟩
theorem elO_Occurrence {F0 : Nat → Prop} {M : List Nat} {w0 w : World} {fr : List Pr} {ow : List It} {i : Nat} {v : Value} {e k b : Nat} {xs : List Occurrence} {x : Occurrence} (H : HL F0 M w0 w fr ow) (hi : ow[i]? = some (It.O e xs v)) (hx : xs[k]? = some x) (hb : v.ownBlock = some b) : At w b (0 + k * 2) [.int .i64 x.Pos, .string x.Name] ∧ I64 x.Pos ∧ x.Name.size ≤ 9223372036854775807 ∧ HL F0 M w0 w (fr ++ [Pr.R x [.int .i64 x.Pos, .string x.Name]]) ow := by
  obtain ⟨cs, hA, hr, H⟩ := H.elO hi hx hb
  obtain ⟨rfl, h0, h1⟩ := hr
  exact ⟨hA, h0, h1, H⟩
theorem ixS_Slot {F0 : Nat → Prop} {M : List Nat} {w0 w : World} {fr : List Pr} {ow : List It} {i : Nat} {v : Value} {k : Nat} {xs : List Slot} {x : Slot} (H : HL F0 M w0 w fr ow) (hi : fr[i]? = some (Pr.S xs v)) (hx : xs[k]? = some x) : ∃ b o c, v = .slice (some ⟨b, o, none⟩) xs.length c ∧ I64 x.At.Pos ∧ x.At.Name.size ≤ 9223372036854775807 ∧ I64 x.Value ∧ HL F0 M w0 w (fr ++ [Pr.A b (o + k * 3) [.int .i64 x.At.Pos, .string x.At.Name, .int .i64 x.Value], Pr.R x [.int .i64 x.At.Pos, .string x.At.Name, .int .i64 x.Value]]) ow := by
  obtain ⟨b, o, c, cs, hv, hr, H⟩ := H.ixS hi hx
  obtain ⟨rfl, h0, h1, h2⟩ := hr
  exact ⟨b, o, c, hv, h0, h1, h2, H⟩
end Go.Proofs.Ytonnooljidombaa

