/- How the structs of the program read as data: plain definitions and lemmas, without conditions of their own. -/
import Derived.Test.YtaenbhfjiihhnaaEngB
set_option linter.unusedVariables false
set_option linter.unusedSimpArgs false
set_option linter.ambiguousOpen false
set_option linter.unusedSectionVars false
namespace Go.Proofs.Ytaenbhfjiihhnaa
open Go Go.E
open Go.E.Rep (rd)
open Go.E.Sep (own)
open Go.E.Sz (szd)
set_option linter.unusedSimpArgs false
set_option linter.unusedVariables false
structure Occurrence where
  Pos : Int
  Name : ByteArray
  deriving DecidableEq
instance : Rep Occurrence where
  sz := 2
  pos := by decide
  rd S w x cs := cs = [.int .i64 x.Pos, .string x.Name] ∧ I64 x.Pos ∧ x.Name.size ≤ 9223372036854775807
  len := by rintro S w x cs ⟨rfl, _⟩; rfl
  one := by rintro S w x cs ⟨rfl, h0, h1⟩; simp [Value.oneCell']
  mono := by rintro S S' w x cs ⟨rfl, h0, h1⟩ hS; exact ⟨rfl, h0, h1⟩
  frame := by rintro S w w' x cs ⟨rfl, h0, h1⟩ hf; exact ⟨rfl, h0, h1⟩
  bound := by rintro S w x cs ⟨rfl, h0, h1⟩; exact ⟨rfl, h0, h1⟩
instance : Sep Occurrence where
  own L w x cs := cs = [.int .i64 x.Pos, .string x.Name] ∧ I64 x.Pos ∧ x.Name.size ≤ 9223372036854775807 ∧ L = []
  own_rd := by rintro L w x cs ⟨rfl, h0, h1, rfl⟩; exact ⟨rfl, h0, h1⟩
  own_frame := by rintro L w w' x cs ⟨rfl, h0, h1, rfl⟩ hf; exact ⟨rfl, h0, h1, rfl⟩
  own_lt := by rintro L w x cs ⟨rfl, h0, h1, rfl⟩ b hb; simp at hb
instance : Sz Occurrence where
  szd x := x.Name.size
instance : Mk Occurrence where
  mrk x k := { Pos := Mk.mrk x.Pos (k), Name := Mk.mrk x.Name (k + 1) }
  cnt x := 1 + 1
  hd x k := ((some k).bind (Mk.hd x.Pos)).bind (Mk.hd x.Name)
  law x k := by simp [Mk.law, hdL_mkL, Int.add_assoc, cntI, cntS, cntB]
  cm x k := by simp [cntL_mkL]
theorem Occurrence_szd (x : Occurrence) : Sz.szd x = x.Name.size := rfl
instance : Flat Occurrence := ⟨by rintro S w w2 x cs ⟨rfl, h0, h1⟩; exact ⟨rfl, h0, h1, rfl⟩⟩
theorem Occurrence_eqF (x y : Occurrence) : eqF [.int, .str] [.int .i64 x.Pos, .string x.Name] [.int .i64 y.Pos, .string y.Name] = some (decide (x = y)) := by
  have e : (x = y) ↔ (x.Pos = y.Pos ∧ x.Name = y.Name) := ⟨fun h => by subst h; simp, fun h => by cases x; cases y; simp_all⟩
  rw [show decide (x = y) = decide (x.Pos = y.Pos ∧ x.Name = y.Name) from decide_eq_decide.2 e]; simp [eqF, Bool.decide_and]

structure Relation where
  N : Int
  Rows : List Int
  deriving DecidableEq
instance : Rep Relation where
  sz := 2
  pos := by decide
  rd S w x cs := ∃ v1 : Value, cs = [.int .i64 x.N, v1] ∧ I64 x.N ∧ rdS S w x.Rows v1
  len := by rintro S w x cs ⟨v1, rfl, _⟩; rfl
  one := by rintro S w x cs ⟨v1, rfl, h0, s1⟩; obtain ⟨_, _, rfl, _⟩ := s1.form; simp [Value.oneCell']
  mono := by rintro S S' w x cs ⟨v1, rfl, h0, s1⟩ hS; exact ⟨v1, rfl, h0, s1.mono hS⟩
  frame := by rintro S w w' x cs ⟨v1, rfl, h0, s1⟩ hf; exact ⟨v1, rfl, h0, s1.frame hf⟩
  bound := by rintro S w x cs ⟨v1, rfl, h0, s1⟩; exact ⟨v1, rfl, h0, s1.bound⟩
instance : Sep Relation where
  own L w x cs := ∃ v1 : Value, ∃ L1 : List Nat, cs = [.int .i64 x.N, v1] ∧ I64 x.N ∧ L = L1 ∧ ownS L1 w x.Rows v1
  own_rd := by rintro L w x cs ⟨v1, L1, rfl, h0, rfl, s1⟩; exact ⟨v1, rfl, h0, s1.rd.mono (fun b hb => by simp [hb])⟩
  own_frame := by rintro L w w' x cs ⟨v1, L1, rfl, h0, rfl, s1⟩ hf; exact ⟨v1, _, rfl, h0, rfl, s1.frame (fun b hb => hf b (by simp [hb]))⟩
  own_lt := by rintro L w x cs ⟨v1, L1, rfl, h0, rfl, s1⟩ b hb; exact s1.lt b hb
instance : Sz Relation where
  szd x := szL x.Rows
instance : Mk Relation where
  mrk x k := { N := Mk.mrk x.N (k), Rows := mkL x.Rows (k + 1) }
  cnt x := 1 + cntL x.Rows
  hd x k := ((some k).bind (Mk.hd x.N)).bind (hdL x.Rows)
  law x k := by simp [Mk.law, hdL_mkL, Int.add_assoc, cntI, cntS, cntB]
  cm x k := by simp [cntL_mkL]
theorem Relation_szd (x : Relation) : Sz.szd x = szL x.Rows := rfl
instance : MkT Relation where
  mrkT x k := { N := x.N, Rows := mkL x.Rows (k) }
  cntT x := cntL x.Rows
  hdT x k := (some k).bind (hdL x.Rows)
  lawT x k := by simp [hdL_mkL, Int.add_assoc]
  cmT x k := by simp [cntL_mkL]

structure Step where
  Kind : Int
  Pos : Int
  Visit : Int
  Name : ByteArray
  deriving DecidableEq
instance : Rep Step where
  sz := 4
  pos := by decide
  rd S w x cs := cs = [.int .i64 x.Kind, .int .i64 x.Pos, .int .i64 x.Visit, .string x.Name] ∧ I64 x.Kind ∧ I64 x.Pos ∧ I64 x.Visit ∧ x.Name.size ≤ 9223372036854775807
  len := by rintro S w x cs ⟨rfl, _⟩; rfl
  one := by rintro S w x cs ⟨rfl, h0, h1, h2, h3⟩; simp [Value.oneCell']
  mono := by rintro S S' w x cs ⟨rfl, h0, h1, h2, h3⟩ hS; exact ⟨rfl, h0, h1, h2, h3⟩
  frame := by rintro S w w' x cs ⟨rfl, h0, h1, h2, h3⟩ hf; exact ⟨rfl, h0, h1, h2, h3⟩
  bound := by rintro S w x cs ⟨rfl, h0, h1, h2, h3⟩; exact ⟨rfl, h0, h1, h2, h3⟩
instance : Sep Step where
  own L w x cs := cs = [.int .i64 x.Kind, .int .i64 x.Pos, .int .i64 x.Visit, .string x.Name] ∧ I64 x.Kind ∧ I64 x.Pos ∧ I64 x.Visit ∧ x.Name.size ≤ 9223372036854775807 ∧ L = []
  own_rd := by rintro L w x cs ⟨rfl, h0, h1, h2, h3, rfl⟩; exact ⟨rfl, h0, h1, h2, h3⟩
  own_frame := by rintro L w w' x cs ⟨rfl, h0, h1, h2, h3, rfl⟩ hf; exact ⟨rfl, h0, h1, h2, h3, rfl⟩
  own_lt := by rintro L w x cs ⟨rfl, h0, h1, h2, h3, rfl⟩ b hb; simp at hb
instance : Sz Step where
  szd x := x.Name.size
instance : Mk Step where
  mrk x k := { Kind := Mk.mrk x.Kind (k), Pos := Mk.mrk x.Pos (k + 1), Visit := Mk.mrk x.Visit (k + 1 + 1), Name := Mk.mrk x.Name (k + 1 + 1 + 1) }
  cnt x := 1 + 1 + 1 + 1
  hd x k := ((((some k).bind (Mk.hd x.Kind)).bind (Mk.hd x.Pos)).bind (Mk.hd x.Visit)).bind (Mk.hd x.Name)
  law x k := by simp [Mk.law, hdL_mkL, Int.add_assoc, cntI, cntS, cntB]
  cm x k := by simp [cntL_mkL]
theorem Step_szd (x : Step) : Sz.szd x = x.Name.size := rfl
instance : Flat Step := ⟨by rintro S w w2 x cs ⟨rfl, h0, h1, h2, h3⟩; exact ⟨rfl, h0, h1, h2, h3, rfl⟩⟩
theorem Step_eqF (x y : Step) : eqF [.int, .int, .int, .str] [.int .i64 x.Kind, .int .i64 x.Pos, .int .i64 x.Visit, .string x.Name] [.int .i64 y.Kind, .int .i64 y.Pos, .int .i64 y.Visit, .string y.Name] = some (decide (x = y)) := by
  have e : (x = y) ↔ (x.Kind = y.Kind ∧ x.Pos = y.Pos ∧ x.Visit = y.Visit ∧ x.Name = y.Name) := ⟨fun h => by subst h; simp, fun h => by cases x; cases y; simp_all⟩
  rw [show decide (x = y) = decide (x.Kind = y.Kind ∧ x.Pos = y.Pos ∧ x.Visit = y.Visit ∧ x.Name = y.Name) from decide_eq_decide.2 e]; simp [eqF, Bool.decide_and]

structure RulePlan where
  Rule : ByteArray
  Steps : List Step
  deriving DecidableEq
instance : Rep RulePlan where
  sz := 2
  pos := by decide
  rd S w x cs := ∃ v1 : Value, cs = [.string x.Rule, v1] ∧ x.Rule.size ≤ 9223372036854775807 ∧ rdS S w x.Steps v1
  len := by rintro S w x cs ⟨v1, rfl, _⟩; rfl
  one := by rintro S w x cs ⟨v1, rfl, h0, s1⟩; obtain ⟨_, _, rfl, _⟩ := s1.form; simp [Value.oneCell']
  mono := by rintro S S' w x cs ⟨v1, rfl, h0, s1⟩ hS; exact ⟨v1, rfl, h0, s1.mono hS⟩
  frame := by rintro S w w' x cs ⟨v1, rfl, h0, s1⟩ hf; exact ⟨v1, rfl, h0, s1.frame hf⟩
  bound := by rintro S w x cs ⟨v1, rfl, h0, s1⟩; exact ⟨v1, rfl, h0, s1.bound⟩
instance : Sep RulePlan where
  own L w x cs := ∃ v1 : Value, ∃ L1 : List Nat, cs = [.string x.Rule, v1] ∧ x.Rule.size ≤ 9223372036854775807 ∧ L = L1 ∧ ownS L1 w x.Steps v1
  own_rd := by rintro L w x cs ⟨v1, L1, rfl, h0, rfl, s1⟩; exact ⟨v1, rfl, h0, s1.rd.mono (fun b hb => by simp [hb])⟩
  own_frame := by rintro L w w' x cs ⟨v1, L1, rfl, h0, rfl, s1⟩ hf; exact ⟨v1, _, rfl, h0, rfl, s1.frame (fun b hb => hf b (by simp [hb]))⟩
  own_lt := by rintro L w x cs ⟨v1, L1, rfl, h0, rfl, s1⟩ b hb; exact s1.lt b hb
instance : Sz RulePlan where
  szd x := x.Rule.size + szL x.Steps
instance : Mk RulePlan where
  mrk x k := { Rule := Mk.mrk x.Rule (k), Steps := mkL x.Steps (k + 1) }
  cnt x := 1 + cntL x.Steps
  hd x k := ((some k).bind (Mk.hd x.Rule)).bind (hdL x.Steps)
  law x k := by simp [Mk.law, hdL_mkL, Int.add_assoc, cntI, cntS, cntB]
  cm x k := by simp [cntL_mkL]
theorem RulePlan_szd (x : RulePlan) : Sz.szd x = x.Rule.size + szL x.Steps := rfl
instance : MkT RulePlan where
  mrkT x k := { Rule := x.Rule, Steps := mkL x.Steps (k) }
  cntT x := cntL x.Steps
  hdT x k := (some k).bind (hdL x.Steps)
  lawT x k := by simp [hdL_mkL, Int.add_assoc]
  cmT x k := by simp [cntL_mkL]

structure Instance where
  Node : Int
  Name : ByteArray
  deriving DecidableEq
instance : Rep Instance where
  sz := 2
  pos := by decide
  rd S w x cs := cs = [.int .i64 x.Node, .string x.Name] ∧ I64 x.Node ∧ x.Name.size ≤ 9223372036854775807
  len := by rintro S w x cs ⟨rfl, _⟩; rfl
  one := by rintro S w x cs ⟨rfl, h0, h1⟩; simp [Value.oneCell']
  mono := by rintro S S' w x cs ⟨rfl, h0, h1⟩ hS; exact ⟨rfl, h0, h1⟩
  frame := by rintro S w w' x cs ⟨rfl, h0, h1⟩ hf; exact ⟨rfl, h0, h1⟩
  bound := by rintro S w x cs ⟨rfl, h0, h1⟩; exact ⟨rfl, h0, h1⟩
instance : Sep Instance where
  own L w x cs := cs = [.int .i64 x.Node, .string x.Name] ∧ I64 x.Node ∧ x.Name.size ≤ 9223372036854775807 ∧ L = []
  own_rd := by rintro L w x cs ⟨rfl, h0, h1, rfl⟩; exact ⟨rfl, h0, h1⟩
  own_frame := by rintro L w w' x cs ⟨rfl, h0, h1, rfl⟩ hf; exact ⟨rfl, h0, h1, rfl⟩
  own_lt := by rintro L w x cs ⟨rfl, h0, h1, rfl⟩ b hb; simp at hb
instance : Sz Instance where
  szd x := x.Name.size
instance : Mk Instance where
  mrk x k := { Node := Mk.mrk x.Node (k), Name := Mk.mrk x.Name (k + 1) }
  cnt x := 1 + 1
  hd x k := ((some k).bind (Mk.hd x.Node)).bind (Mk.hd x.Name)
  law x k := by simp [Mk.law, hdL_mkL, Int.add_assoc, cntI, cntS, cntB]
  cm x k := by simp [cntL_mkL]
theorem Instance_szd (x : Instance) : Sz.szd x = x.Name.size := rfl
instance : Flat Instance := ⟨by rintro S w w2 x cs ⟨rfl, h0, h1⟩; exact ⟨rfl, h0, h1, rfl⟩⟩
theorem Instance_eqF (x y : Instance) : eqF [.int, .str] [.int .i64 x.Node, .string x.Name] [.int .i64 y.Node, .string y.Name] = some (decide (x = y)) := by
  have e : (x = y) ↔ (x.Node = y.Node ∧ x.Name = y.Name) := ⟨fun h => by subst h; simp, fun h => by cases x; cases y; simp_all⟩
  rw [show decide (x = y) = decide (x.Node = y.Node ∧ x.Name = y.Name) from decide_eq_decide.2 e]; simp [eqF, Bool.decide_and]

structure TraceStep where
  At : Instance
  Inputs : List Instance
  deriving DecidableEq
instance : Rep TraceStep where
  sz := 3
  pos := by decide
  rd S w x cs := ∃ v2 : Value, cs = [.int .i64 x.At.Node, .string x.At.Name, v2] ∧ I64 x.At.Node ∧ x.At.Name.size ≤ 9223372036854775807 ∧ rdS S w x.Inputs v2
  len := by rintro S w x cs ⟨v2, rfl, _⟩; rfl
  one := by rintro S w x cs ⟨v2, rfl, h0, h1, s2⟩; obtain ⟨_, _, rfl, _⟩ := s2.form; simp [Value.oneCell']
  mono := by rintro S S' w x cs ⟨v2, rfl, h0, h1, s2⟩ hS; exact ⟨v2, rfl, h0, h1, s2.mono hS⟩
  frame := by rintro S w w' x cs ⟨v2, rfl, h0, h1, s2⟩ hf; exact ⟨v2, rfl, h0, h1, s2.frame hf⟩
  bound := by rintro S w x cs ⟨v2, rfl, h0, h1, s2⟩; exact ⟨v2, rfl, h0, h1, s2.bound⟩
instance : Sep TraceStep where
  own L w x cs := ∃ v2 : Value, ∃ L2 : List Nat, cs = [.int .i64 x.At.Node, .string x.At.Name, v2] ∧ I64 x.At.Node ∧ x.At.Name.size ≤ 9223372036854775807 ∧ L = L2 ∧ ownS L2 w x.Inputs v2
  own_rd := by rintro L w x cs ⟨v2, L2, rfl, h0, h1, rfl, s2⟩; exact ⟨v2, rfl, h0, h1, s2.rd.mono (fun b hb => by simp [hb])⟩
  own_frame := by rintro L w w' x cs ⟨v2, L2, rfl, h0, h1, rfl, s2⟩ hf; exact ⟨v2, _, rfl, h0, h1, rfl, s2.frame (fun b hb => hf b (by simp [hb]))⟩
  own_lt := by rintro L w x cs ⟨v2, L2, rfl, h0, h1, rfl, s2⟩ b hb; exact s2.lt b hb
instance : Sz TraceStep where
  szd x := x.At.Name.size + szL x.Inputs
instance : Mk TraceStep where
  mrk x k := { At := { Node := Mk.mrk x.At.Node (k), Name := Mk.mrk x.At.Name (k + 1) }, Inputs := mkL x.Inputs (k + 1 + 1) }
  cnt x := 1 + 1 + cntL x.Inputs
  hd x k := (((some k).bind (Mk.hd x.At.Node)).bind (Mk.hd x.At.Name)).bind (hdL x.Inputs)
  law x k := by simp [Mk.law, hdL_mkL, Int.add_assoc, cntI, cntS, cntB]
  cm x k := by simp [cntL_mkL]
theorem TraceStep_szd (x : TraceStep) : Sz.szd x = x.At.Name.size + szL x.Inputs := rfl
instance : MkT TraceStep where
  mrkT x k := { At := { Node := x.At.Node, Name := x.At.Name }, Inputs := mkL x.Inputs (k) }
  cntT x := cntL x.Inputs
  hdT x k := (some k).bind (hdL x.Inputs)
  lawT x k := by simp [hdL_mkL, Int.add_assoc]
  cmT x k := by simp [cntL_mkL]
theorem TraceStep_rd_At {S : Nat → Prop} {w : World} {x : TraceStep} {v2 : Value} (h : rd S w x [.int .i64 x.At.Node, .string x.At.Name, v2]) : rd S w x.At [.int .i64 x.At.Node, .string x.At.Name] := by
  obtain ⟨q2, e, h0, h1, s2⟩ := h
  simp only [List.cons.injEq, and_true, true_and] at e
  exact ⟨rfl, h0, h1⟩

end Go.Proofs.Ytaenbhfjiihhnaa
