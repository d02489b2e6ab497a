/- How the structs of the program read as data: plain definitions and lemmas, without conditions of their own. -/
import Derived.Test.YtgbgkhcgpchckaaEngC
set_option linter.unusedVariables false
set_option linter.unusedSimpArgs false
set_option linter.ambiguousOpen false
set_option linter.unusedSectionVars false
set_option linter.unnecessarySimpa false
set_option linter.unusedVariables false
set_option linter.unusedSimpArgs false
namespace Go.Proofs.Ytgbgkhcgpchckaa
open Go Go.E
open Go.E.Rep (rd)
open Go.E.Sep (own)
open Go.E.Sz (szd)
structure Relation where
  N : Int
  Rows : List Int
  deriving DecidableEq
instance : Rep Relation where
  sz := 2
  pos := by decide
  rd S w x cs := ∃ v1 : Value, cs = [.int .i64 x.N, v1] ∧ I64 x.N ∧ rdS S w x.Rows v1
  len := by rintro S w x cs ⟨v1, rfl, _⟩; rfl
  one := by rintro S w x cs ⟨v1, rfl, h0, s1⟩; obtain ⟨_, _, rfl, _⟩ := s1.form; simp [Value.oneCell']
  mono := by rintro S S' w x cs ⟨v1, rfl, h0, s1⟩ hS; exact ⟨v1, rfl, h0, s1.mono hS⟩
  frame := by rintro S w w' x cs ⟨v1, rfl, h0, s1⟩ hf; exact ⟨v1, rfl, h0, s1.frame hf⟩
  bound := by rintro S w x cs ⟨v1, rfl, h0, s1⟩; exact ⟨v1, rfl, h0, s1.bound⟩
instance : Sep Relation where
  own L w x cs := ∃ v1 : Value, ∃ L1 : List Nat, cs = [.int .i64 x.N, v1] ∧ I64 x.N ∧ L = L1 ∧ ownS L1 w x.Rows v1
  own_rd := by rintro L w x cs ⟨v1, L1, rfl, h0, rfl, s1⟩; exact ⟨v1, rfl, h0, s1.rd.mono (fun b hb => by simp [hb])⟩
  own_frame := by rintro L w w' x cs ⟨v1, L1, rfl, h0, rfl, s1⟩ hf; exact ⟨v1, _, rfl, h0, rfl, s1.frame (fun b hb => hf b (by simp [hb]))⟩
  own_lt := by rintro L w x cs ⟨v1, L1, rfl, h0, rfl, s1⟩ b hb; exact s1.lt b hb
instance : Sz Relation where
  szd x := szL x.Rows
instance : Mk Relation where
  mrk x k := { N := Mk.mrk x.N (k), Rows := mkL x.Rows (k + 1) }
  cnt x := 1 + cntL x.Rows
  hd x k := ((some k).bind (Mk.hd x.N)).bind (hdL x.Rows)
  law x k := by simp [Mk.law, hdL_mkL, Int.add_assoc, cntI, cntS, cntB]
  cm x k := by simp [cntL_mkL]
instance : CntSz Relation := ⟨fun x => by show 1 + cntL x.Rows ≤ 16 * (1 + (szL x.Rows)); have := cntL_le x.Rows; omega⟩
theorem Relation_szd (x : Relation) : Sz.szd x = szL x.Rows := rfl
instance : MkT Relation where
  mrkT x k := { N := x.N, Rows := mkL x.Rows (k) }
  cntT x := cntL x.Rows
  hdT x k := (some k).bind (hdL x.Rows)
  lawT x k := by simp [hdL_mkL, Int.add_assoc]
  cmT x k := by simp [cntL_mkL]
instance : CntTSz Relation := ⟨fun x => by show cntL x.Rows ≤ 16 * (szL x.Rows); have := cntL_le x.Rows; omega⟩

structure Phase where
  Inherited : List ByteArray
  Synthesized : List ByteArray
  deriving DecidableEq
instance : Rep Phase where
  sz := 2
  pos := by decide
  rd S w x cs := ∃ v0 : Value, ∃ v1 : Value, cs = [v0, v1] ∧ rdS S w x.Inherited v0 ∧ rdS S w x.Synthesized v1
  len := by rintro S w x cs ⟨v0, v1, rfl, _⟩; rfl
  one := by rintro S w x cs ⟨v0, v1, rfl, s0, s1⟩; obtain ⟨_, _, rfl, _⟩ := s0.form; obtain ⟨_, _, rfl, _⟩ := s1.form; simp [Value.oneCell']
  mono := by rintro S S' w x cs ⟨v0, v1, rfl, s0, s1⟩ hS; exact ⟨v0, v1, rfl, s0.mono hS, s1.mono hS⟩
  frame := by rintro S w w' x cs ⟨v0, v1, rfl, s0, s1⟩ hf; exact ⟨v0, v1, rfl, s0.frame hf, s1.frame hf⟩
  bound := by rintro S w x cs ⟨v0, v1, rfl, s0, s1⟩; exact ⟨v0, v1, rfl, s0.bound, s1.bound⟩
instance : Sep Phase where
  own L w x cs := ∃ v0 : Value, ∃ v1 : Value, ∃ L0 : List Nat, ∃ L1 : List Nat, cs = [v0, v1] ∧ L = L0 ++ L1 ∧ ownS L0 w x.Inherited v0 ∧ ownS L1 w x.Synthesized v1
  own_rd := by rintro L w x cs ⟨v0, v1, L0, L1, rfl, rfl, s0, s1⟩; exact ⟨v0, v1, rfl, s0.rd.mono (fun b hb => by simp [hb]), s1.rd.mono (fun b hb => by simp [hb])⟩
  own_frame := by rintro L w w' x cs ⟨v0, v1, L0, L1, rfl, rfl, s0, s1⟩ hf; exact ⟨v0, v1, _, _, rfl, rfl, s0.frame (fun b hb => hf b (by simp [hb])), s1.frame (fun b hb => hf b (by simp [hb]))⟩
  own_lt := by rintro L w x cs ⟨v0, v1, L0, L1, rfl, rfl, s0, s1⟩ b hb; simp only [List.mem_append] at hb; rcases hb with hb | hb <;> first | exact s0.lt b hb | exact s1.lt b hb
instance : Sz Phase where
  szd x := szL x.Inherited + szL x.Synthesized
instance : Mk Phase where
  mrk x k := { Inherited := mkL x.Inherited (k), Synthesized := mkL x.Synthesized (k + cntL x.Inherited) }
  cnt x := cntL x.Inherited + cntL x.Synthesized
  hd x k := ((some k).bind (hdL x.Inherited)).bind (hdL x.Synthesized)
  law x k := by simp [Mk.law, hdL_mkL, Int.add_assoc, cntI, cntS, cntB]
  cm x k := by simp [cntL_mkL]
instance : CntSz Phase := ⟨fun x => by show cntL x.Inherited + cntL x.Synthesized ≤ 16 * (1 + (szL x.Inherited + szL x.Synthesized)); have := cntL_le x.Inherited; have := cntL_le x.Synthesized; omega⟩
theorem Phase_szd (x : Phase) : Sz.szd x = szL x.Inherited + szL x.Synthesized := rfl
instance : MkT Phase where
  mrkT x k := { Inherited := mkL x.Inherited (k), Synthesized := mkL x.Synthesized (k + cntL x.Inherited) }
  cntT x := cntL x.Inherited + cntL x.Synthesized
  hdT x k := ((some k).bind (hdL x.Inherited)).bind (hdL x.Synthesized)
  lawT x k := by simp [hdL_mkL, Int.add_assoc]
  cmT x k := by simp [cntL_mkL]
instance : CntTSz Phase := ⟨fun x => by show cntL x.Inherited + cntL x.Synthesized ≤ 16 * (szL x.Inherited + szL x.Synthesized); have := cntL_le x.Inherited; have := cntL_le x.Synthesized; omega⟩

structure Attribute where
  Name : ByteArray
  Type_ : Int
  Mode : Int
  Circular : Bool
  deriving DecidableEq
instance : Rep Attribute where
  sz := 4
  pos := by decide
  rd S w x cs := cs = [.string x.Name, .int .i64 x.Type_, .int .i64 x.Mode, .bool x.Circular] ∧ x.Name.size ≤ 9223372036854775807 ∧ I64 x.Type_ ∧ I64 x.Mode
  len := by rintro S w x cs ⟨rfl, _⟩; rfl
  one := by rintro S w x cs ⟨rfl, h0, h1, h2⟩; simp [Value.oneCell']
  mono := by rintro S S' w x cs ⟨rfl, h0, h1, h2⟩ hS; exact ⟨rfl, h0, h1, h2⟩
  frame := by rintro S w w' x cs ⟨rfl, h0, h1, h2⟩ hf; exact ⟨rfl, h0, h1, h2⟩
  bound := by rintro S w x cs ⟨rfl, h0, h1, h2⟩; exact ⟨rfl, h0, h1, h2⟩
instance : Sep Attribute where
  own L w x cs := cs = [.string x.Name, .int .i64 x.Type_, .int .i64 x.Mode, .bool x.Circular] ∧ x.Name.size ≤ 9223372036854775807 ∧ I64 x.Type_ ∧ I64 x.Mode ∧ L = []
  own_rd := by rintro L w x cs ⟨rfl, h0, h1, h2, rfl⟩; exact ⟨rfl, h0, h1, h2⟩
  own_frame := by rintro L w w' x cs ⟨rfl, h0, h1, h2, rfl⟩ hf; exact ⟨rfl, h0, h1, h2, rfl⟩
  own_lt := by rintro L w x cs ⟨rfl, h0, h1, h2, rfl⟩ b hb; simp at hb
instance : Sz Attribute where
  szd x := x.Name.size
instance : Mk Attribute where
  mrk x k := { Name := Mk.mrk x.Name (k), Type_ := Mk.mrk x.Type_ (k + 1), Mode := Mk.mrk x.Mode (k + 1 + 1), Circular := Mk.mrk x.Circular (k + 1 + 1 + 1) }
  cnt x := 1 + 1 + 1 + 1
  hd x k := ((((some k).bind (Mk.hd x.Name)).bind (Mk.hd x.Type_)).bind (Mk.hd x.Mode)).bind (Mk.hd x.Circular)
  law x k := by simp [Mk.law, hdL_mkL, Int.add_assoc, cntI, cntS, cntB]
  cm x k := by simp [cntL_mkL]
instance : CntSz Attribute := ⟨fun x => by show 1 + 1 + 1 + 1 ≤ 16 * (1 + (x.Name.size)); omega⟩
theorem Attribute_szd (x : Attribute) : Sz.szd x = x.Name.size := rfl
instance : Flat Attribute := ⟨by rintro S w w2 x cs ⟨rfl, h0, h1, h2⟩; exact ⟨rfl, h0, h1, h2, rfl⟩⟩
theorem Attribute_eqF (x y : Attribute) : eqF [.str, .int, .int, .bool] [.string x.Name, .int .i64 x.Type_, .int .i64 x.Mode, .bool x.Circular] [.string y.Name, .int .i64 y.Type_, .int .i64 y.Mode, .bool y.Circular] = some (decide (x = y)) := by
  have e : (x = y) ↔ (x.Name = y.Name ∧ x.Type_ = y.Type_ ∧ x.Mode = y.Mode ∧ x.Circular = y.Circular) := ⟨fun h => by subst h; simp, fun h => by cases x; cases y; simp_all⟩
  rw [show decide (x = y) = decide (x.Name = y.Name ∧ x.Type_ = y.Type_ ∧ x.Mode = y.Mode ∧ x.Circular = y.Circular) from decide_eq_decide.2 e]; simp [eqF, Bool.decide_and]

structure Instance where
  Node : Int
  Name : ByteArray
  deriving DecidableEq
instance : Rep Instance where
  sz := 2
  pos := by decide
  rd S w x cs := cs = [.int .i64 x.Node, .string x.Name] ∧ I64 x.Node ∧ x.Name.size ≤ 9223372036854775807
  len := by rintro S w x cs ⟨rfl, _⟩; rfl
  one := by rintro S w x cs ⟨rfl, h0, h1⟩; simp [Value.oneCell']
  mono := by rintro S S' w x cs ⟨rfl, h0, h1⟩ hS; exact ⟨rfl, h0, h1⟩
  frame := by rintro S w w' x cs ⟨rfl, h0, h1⟩ hf; exact ⟨rfl, h0, h1⟩
  bound := by rintro S w x cs ⟨rfl, h0, h1⟩; exact ⟨rfl, h0, h1⟩
instance : Sep Instance where
  own L w x cs := cs = [.int .i64 x.Node, .string x.Name] ∧ I64 x.Node ∧ x.Name.size ≤ 9223372036854775807 ∧ L = []
  own_rd := by rintro L w x cs ⟨rfl, h0, h1, rfl⟩; exact ⟨rfl, h0, h1⟩
  own_frame := by rintro L w w' x cs ⟨rfl, h0, h1, rfl⟩ hf; exact ⟨rfl, h0, h1, rfl⟩
  own_lt := by rintro L w x cs ⟨rfl, h0, h1, rfl⟩ b hb; simp at hb
instance : Sz Instance where
  szd x := x.Name.size
instance : Mk Instance where
  mrk x k := { Node := Mk.mrk x.Node (k), Name := Mk.mrk x.Name (k + 1) }
  cnt x := 1 + 1
  hd x k := ((some k).bind (Mk.hd x.Node)).bind (Mk.hd x.Name)
  law x k := by simp [Mk.law, hdL_mkL, Int.add_assoc, cntI, cntS, cntB]
  cm x k := by simp [cntL_mkL]
instance : CntSz Instance := ⟨fun x => by show 1 + 1 ≤ 16 * (1 + (x.Name.size)); omega⟩
theorem Instance_szd (x : Instance) : Sz.szd x = x.Name.size := rfl
instance : Flat Instance := ⟨by rintro S w w2 x cs ⟨rfl, h0, h1⟩; exact ⟨rfl, h0, h1, rfl⟩⟩
theorem Instance_eqF (x y : Instance) : eqF [.int, .str] [.int .i64 x.Node, .string x.Name] [.int .i64 y.Node, .string y.Name] = some (decide (x = y)) := by
  have e : (x = y) ↔ (x.Node = y.Node ∧ x.Name = y.Name) := ⟨fun h => by subst h; simp, fun h => by cases x; cases y; simp_all⟩
  rw [show decide (x = y) = decide (x.Node = y.Node ∧ x.Name = y.Name) from decide_eq_decide.2 e]; simp [eqF, Bool.decide_and]

structure TraceStep where
  At : Instance
  Inputs : List Instance
  deriving DecidableEq
instance : Rep TraceStep where
  sz := 3
  pos := by decide
  rd S w x cs := ∃ v2 : Value, cs = [.int .i64 x.At.Node, .string x.At.Name, v2] ∧ I64 x.At.Node ∧ x.At.Name.size ≤ 9223372036854775807 ∧ rdS S w x.Inputs v2
  len := by rintro S w x cs ⟨v2, rfl, _⟩; rfl
  one := by rintro S w x cs ⟨v2, rfl, h0, h1, s2⟩; obtain ⟨_, _, rfl, _⟩ := s2.form; simp [Value.oneCell']
  mono := by rintro S S' w x cs ⟨v2, rfl, h0, h1, s2⟩ hS; exact ⟨v2, rfl, h0, h1, s2.mono hS⟩
  frame := by rintro S w w' x cs ⟨v2, rfl, h0, h1, s2⟩ hf; exact ⟨v2, rfl, h0, h1, s2.frame hf⟩
  bound := by rintro S w x cs ⟨v2, rfl, h0, h1, s2⟩; exact ⟨v2, rfl, h0, h1, s2.bound⟩
instance : Sep TraceStep where
  own L w x cs := ∃ v2 : Value, ∃ L2 : List Nat, cs = [.int .i64 x.At.Node, .string x.At.Name, v2] ∧ I64 x.At.Node ∧ x.At.Name.size ≤ 9223372036854775807 ∧ L = L2 ∧ ownS L2 w x.Inputs v2
  own_rd := by rintro L w x cs ⟨v2, L2, rfl, h0, h1, rfl, s2⟩; exact ⟨v2, rfl, h0, h1, s2.rd.mono (fun b hb => by simp [hb])⟩
  own_frame := by rintro L w w' x cs ⟨v2, L2, rfl, h0, h1, rfl, s2⟩ hf; exact ⟨v2, _, rfl, h0, h1, rfl, s2.frame (fun b hb => hf b (by simp [hb]))⟩
  own_lt := by rintro L w x cs ⟨v2, L2, rfl, h0, h1, rfl, s2⟩ b hb; exact s2.lt b hb
instance : Sz TraceStep where
  szd x := x.At.Name.size + szL x.Inputs
instance : Mk TraceStep where
  mrk x k := { At := { Node := Mk.mrk x.At.Node (k), Name := Mk.mrk x.At.Name (k + 1) }, Inputs := mkL x.Inputs (k + 1 + 1) }
  cnt x := 1 + 1 + cntL x.Inputs
  hd x k := (((some k).bind (Mk.hd x.At.Node)).bind (Mk.hd x.At.Name)).bind (hdL x.Inputs)
  law x k := by simp [Mk.law, hdL_mkL, Int.add_assoc, cntI, cntS, cntB]
  cm x k := by simp [cntL_mkL]
instance : CntSz TraceStep := ⟨fun x => by show 1 + 1 + cntL x.Inputs ≤ 16 * (1 + (x.At.Name.size + szL x.Inputs)); have := cntL_le x.Inputs; omega⟩
theorem TraceStep_szd (x : TraceStep) : Sz.szd x = x.At.Name.size + szL x.Inputs := rfl
instance : MkT TraceStep where
  mrkT x k := { At := { Node := x.At.Node, Name := x.At.Name }, Inputs := mkL x.Inputs (k) }
  cntT x := cntL x.Inputs
  hdT x k := (some k).bind (hdL x.Inputs)
  lawT x k := by simp [hdL_mkL, Int.add_assoc]
  cmT x k := by simp [cntL_mkL]
instance : CntTSz TraceStep := ⟨fun x => by show cntL x.Inputs ≤ 16 * (x.At.Name.size + szL x.Inputs); have := cntL_le x.Inputs; omega⟩
theorem TraceStep_rd_At {S : Nat → Prop} {w : World} {x : TraceStep} {v2 : Value} (h : rd S w x [.int .i64 x.At.Node, .string x.At.Name, v2]) : rd S w x.At [.int .i64 x.At.Node, .string x.At.Name] := by
  obtain ⟨q2, e, h0, h1, s2⟩ := h
  simp only [List.cons.injEq, and_true, true_and] at e
  exact ⟨rfl, h0, h1⟩

structure Symbol where
  Name : ByteArray
  Attributes : List Attribute
  deriving DecidableEq
instance : Rep Symbol where
  sz := 2
  pos := by decide
  rd S w x cs := ∃ v1 : Value, cs = [.string x.Name, v1] ∧ x.Name.size ≤ 9223372036854775807 ∧ rdS S w x.Attributes v1
  len := by rintro S w x cs ⟨v1, rfl, _⟩; rfl
  one := by rintro S w x cs ⟨v1, rfl, h0, s1⟩; obtain ⟨_, _, rfl, _⟩ := s1.form; simp [Value.oneCell']
  mono := by rintro S S' w x cs ⟨v1, rfl, h0, s1⟩ hS; exact ⟨v1, rfl, h0, s1.mono hS⟩
  frame := by rintro S w w' x cs ⟨v1, rfl, h0, s1⟩ hf; exact ⟨v1, rfl, h0, s1.frame hf⟩
  bound := by rintro S w x cs ⟨v1, rfl, h0, s1⟩; exact ⟨v1, rfl, h0, s1.bound⟩
instance : Sep Symbol where
  own L w x cs := ∃ v1 : Value, ∃ L1 : List Nat, cs = [.string x.Name, v1] ∧ x.Name.size ≤ 9223372036854775807 ∧ L = L1 ∧ ownS L1 w x.Attributes v1
  own_rd := by rintro L w x cs ⟨v1, L1, rfl, h0, rfl, s1⟩; exact ⟨v1, rfl, h0, s1.rd.mono (fun b hb => by simp [hb])⟩
  own_frame := by rintro L w w' x cs ⟨v1, L1, rfl, h0, rfl, s1⟩ hf; exact ⟨v1, _, rfl, h0, rfl, s1.frame (fun b hb => hf b (by simp [hb]))⟩
  own_lt := by rintro L w x cs ⟨v1, L1, rfl, h0, rfl, s1⟩ b hb; exact s1.lt b hb
instance : Sz Symbol where
  szd x := x.Name.size + szL x.Attributes
instance : Mk Symbol where
  mrk x k := { Name := Mk.mrk x.Name (k), Attributes := mkL x.Attributes (k + 1) }
  cnt x := 1 + cntL x.Attributes
  hd x k := ((some k).bind (Mk.hd x.Name)).bind (hdL x.Attributes)
  law x k := by simp [Mk.law, hdL_mkL, Int.add_assoc, cntI, cntS, cntB]
  cm x k := by simp [cntL_mkL]
instance : CntSz Symbol := ⟨fun x => by show 1 + cntL x.Attributes ≤ 16 * (1 + (x.Name.size + szL x.Attributes)); have := cntL_le x.Attributes; omega⟩
theorem Symbol_szd (x : Symbol) : Sz.szd x = x.Name.size + szL x.Attributes := rfl
instance : MkT Symbol where
  mrkT x k := { Name := x.Name, Attributes := mkL x.Attributes (k) }
  cntT x := cntL x.Attributes
  hdT x k := (some k).bind (hdL x.Attributes)
  lawT x k := by simp [hdL_mkL, Int.add_assoc]
  cmT x k := by simp [cntL_mkL]
instance : CntTSz Symbol := ⟨fun x => by show cntL x.Attributes ≤ 16 * (x.Name.size + szL x.Attributes); have := cntL_le x.Attributes; omega⟩

structure l1Cur where
  b : List UInt8
  i : Int
  h : Int
  deriving DecidableEq
instance : Rep l1Cur where
  sz := 3
  pos := by decide
  rd S w x cs := ∃ v0 : Value, cs = [v0, .int .i64 x.i, .int .i64 x.h] ∧ I64 x.i ∧ I64 x.h ∧ rdS S w x.b v0
  len := by rintro S w x cs ⟨v0, rfl, _⟩; rfl
  one := by rintro S w x cs ⟨v0, rfl, h1, h2, s0⟩; obtain ⟨_, _, rfl, _⟩ := s0.form; simp [Value.oneCell']
  mono := by rintro S S' w x cs ⟨v0, rfl, h1, h2, s0⟩ hS; exact ⟨v0, rfl, h1, h2, s0.mono hS⟩
  frame := by rintro S w w' x cs ⟨v0, rfl, h1, h2, s0⟩ hf; exact ⟨v0, rfl, h1, h2, s0.frame hf⟩
  bound := by rintro S w x cs ⟨v0, rfl, h1, h2, s0⟩; exact ⟨v0, rfl, h1, h2, s0.bound⟩
instance : Sep l1Cur where
  own L w x cs := ∃ v0 : Value, ∃ L0 : List Nat, cs = [v0, .int .i64 x.i, .int .i64 x.h] ∧ I64 x.i ∧ I64 x.h ∧ L = L0 ∧ ownS L0 w x.b v0
  own_rd := by rintro L w x cs ⟨v0, L0, rfl, h1, h2, rfl, s0⟩; exact ⟨v0, rfl, h1, h2, s0.rd.mono (fun b hb => by simp [hb])⟩
  own_frame := by rintro L w w' x cs ⟨v0, L0, rfl, h1, h2, rfl, s0⟩ hf; exact ⟨v0, _, rfl, h1, h2, rfl, s0.frame (fun b hb => hf b (by simp [hb]))⟩
  own_lt := by rintro L w x cs ⟨v0, L0, rfl, h1, h2, rfl, s0⟩ b hb; exact s0.lt b hb

end Go.Proofs.Ytgbgkhcgpchckaa
