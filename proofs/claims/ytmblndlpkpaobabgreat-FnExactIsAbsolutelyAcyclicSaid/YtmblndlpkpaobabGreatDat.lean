/- How the structs of the program read as data: plain definitions and lemmas, without conditions of their own. -/
import Derived.Test.YtmblndlpkpaobabGreatEngC
set_option linter.unusedVariables false
set_option linter.unusedSimpArgs false
set_option linter.ambiguousOpen false
set_option linter.unusedSectionVars false
set_option linter.unnecessarySimpa false
set_option linter.unusedVariables false
set_option linter.unusedSimpArgs false
namespace Go.Proofs.YtmblndlpkpaobabGreat
open Go Go.E
open Go.E.Rep (rd)
open Go.E.Sep (own)
open Go.E.Sz (szd)
structure Attribute where
 Name:ByteArray
 Type_:Int
 Mode:Int
 Circular:Bool
 deriving DecidableEq
instance:Rep Attribute where
 sz:=4
 pos:=by decide
 rd S w x cs:=cs=[.string x.Name,.int .i64 x.Type_,.int .i64 x.Mode,.bool x.Circular]∧x.Name.size≤9223372036854775807∧I64 x.Type_∧I64 x.Mode
 len:=by rintro S w x cs ⟨rfl,_⟩; rfl
 one:=by rintro S w x cs ⟨rfl,h0,h1,h2⟩; simp [Value.oneCell']
 mono:=by rintro S S' w x cs ⟨rfl,h0,h1,h2⟩ hS; exact⟨rfl,h0,h1,h2⟩
 frame:=by rintro S w w' x cs ⟨rfl,h0,h1,h2⟩ hf; exact⟨rfl,h0,h1,h2⟩
 bound:=by rintro S w x cs ⟨rfl,h0,h1,h2⟩; exact⟨rfl,h0,h1,h2⟩
instance:Sep Attribute where
 own L w x cs:=cs=[.string x.Name,.int .i64 x.Type_,.int .i64 x.Mode,.bool x.Circular]∧x.Name.size≤9223372036854775807∧I64 x.Type_∧I64 x.Mode∧L=[]
 own_rd:=by rintro L w x cs ⟨rfl,h0,h1,h2,rfl⟩; exact⟨rfl,h0,h1,h2⟩
 own_frame:=by rintro L w w' x cs ⟨rfl,h0,h1,h2,rfl⟩ hf; exact⟨rfl,h0,h1,h2,rfl⟩
 own_lt:=by rintro L w x cs ⟨rfl,h0,h1,h2,rfl⟩ b hb; simp at hb
instance:Sz Attribute where
 szd x:=x.Name.size
instance:Flat Attribute:=⟨by rintro S w w2 x cs ⟨rfl,h0,h1,h2⟩; exact⟨rfl,h0,h1,h2,rfl⟩⟩
structure Symbol where
 Name:ByteArray
 Attributes:(List Attribute)
 deriving DecidableEq
instance:Rep Symbol where
 sz:=2
 pos:=by decide
 rd S w x cs:=∃ v1:Value,cs=[.string x.Name,v1]∧x.Name.size≤9223372036854775807∧rdS S w x.Attributes v1
 len:=by rintro S w x cs ⟨v1,rfl,_⟩; rfl
 one:=by rintro S w x cs ⟨v1,rfl,h0,s1⟩; obtain⟨_,_,rfl,_⟩:=s1.form; simp [Value.oneCell']
 mono:=by rintro S S' w x cs ⟨v1,rfl,h0,s1⟩ hS; exact⟨v1,rfl,h0,s1.mono hS⟩
 frame:=by rintro S w w' x cs ⟨v1,rfl,h0,s1⟩ hf; exact⟨v1,rfl,h0,s1.frame hf⟩
 bound:=by rintro S w x cs ⟨v1,rfl,h0,s1⟩; exact⟨v1,rfl,h0,s1.bound⟩
instance:Sep Symbol where
 own L w x cs:=∃ v1:Value,∃ L1:List Nat,cs=[.string x.Name,v1]∧x.Name.size≤9223372036854775807∧L=L1∧ownS L1 w x.Attributes v1
 own_rd:=by rintro L w x cs ⟨v1,L1,rfl,h0,rfl,s1⟩; exact⟨v1,rfl,h0,s1.rd.mono (fun b hb=>by simp [hb])⟩
 own_frame:=by rintro L w w' x cs ⟨v1,L1,rfl,h0,rfl,s1⟩ hf; exact⟨v1,_,rfl,h0,rfl,s1.frame (fun b hb=>hf b (by simp [hb]))⟩
 own_lt:=by rintro L w x cs ⟨v1,L1,rfl,h0,rfl,s1⟩ b hb; exact s1.lt b hb
instance:Sz Symbol where
 szd x:=x.Name.size+szL x.Attributes
theorem j0b (x:Symbol):Sz.szd x=x.Name.size+szL x.Attributes:=rfl
structure Occurrence where
 Pos:Int
 Name:ByteArray
 deriving DecidableEq
instance:Rep Occurrence where
 sz:=2
 pos:=by decide
 rd S w x cs:=cs=[.int .i64 x.Pos,.string x.Name]∧I64 x.Pos∧x.Name.size≤9223372036854775807
 len:=by rintro S w x cs ⟨rfl,_⟩; rfl
 one:=by rintro S w x cs ⟨rfl,h0,h1⟩; simp [Value.oneCell']
 mono:=by rintro S S' w x cs ⟨rfl,h0,h1⟩ hS; exact⟨rfl,h0,h1⟩
 frame:=by rintro S w w' x cs ⟨rfl,h0,h1⟩ hf; exact⟨rfl,h0,h1⟩
 bound:=by rintro S w x cs ⟨rfl,h0,h1⟩; exact⟨rfl,h0,h1⟩
instance:Sep Occurrence where
 own L w x cs:=cs=[.int .i64 x.Pos,.string x.Name]∧I64 x.Pos∧x.Name.size≤9223372036854775807∧L=[]
 own_rd:=by rintro L w x cs ⟨rfl,h0,h1,rfl⟩; exact⟨rfl,h0,h1⟩
 own_frame:=by rintro L w w' x cs ⟨rfl,h0,h1,rfl⟩ hf; exact⟨rfl,h0,h1,rfl⟩
 own_lt:=by rintro L w x cs ⟨rfl,h0,h1,rfl⟩ b hb; simp at hb
instance:Sz Occurrence where
 szd x:=x.Name.size
theorem z9z (x:Occurrence):Sz.szd x=x.Name.size:=rfl
instance:Flat Occurrence:=⟨by rintro S w w2 x cs ⟨rfl,h0,h1⟩; exact⟨rfl,h0,h1,rfl⟩⟩
instance:FlatN Occurrence:=⟨by rintro L w x cs ⟨rfl,h0,h1,rfl⟩; rfl⟩
theorem q4J (x y:Occurrence):eqF [.int,.str] [.int .i64 x.Pos,.string x.Name] [.int .i64 y.Pos,.string y.Name]=some (decide (x=y)):=by
 have e:(x=y)↔(x.Pos=y.Pos∧x.Name=y.Name):=⟨fun h=>by subst h; simp,fun h=>by obtain⟨p1,p2⟩:=x; obtain⟨q1,q2⟩:=y; simp_all⟩
 rw [show decide (x=y)=decide (x.Pos=y.Pos∧x.Name=y.Name) from decide_eq_decide.2 e]; simp [eqF,Bool.decide_and]
structure Expr where
 Kind:Int
 N:Int
 Pos:Int
 Type_:Int
 Symbol:ByteArray
 Name:ByteArray
 Args:(List Expr)
noncomputable instance:DecidableEq Expr:=fun a b=>Classical.propDecidable (a=b)
@[reducible] def j5J [i:Sep Expr]:Sep Expr where
 sz:=7
 pos:=by decide
 rd S w x cs:=∃ v6:Value,cs=[.int .i64 x.Kind,.int .i64 x.N,.int .i64 x.Pos,.int .i64 x.Type_,.string x.Symbol,.string x.Name,v6]∧I64 x.Kind∧I64 x.N∧I64 x.Pos∧I64 x.Type_∧x.Symbol.size≤9223372036854775807∧x.Name.size≤9223372036854775807∧rdS S w x.Args v6
 len:=by rintro S w x cs ⟨v6,rfl,_⟩; rfl
 one:=by rintro S w x cs ⟨v6,rfl,h0,h1,h2,h3,h4,h5,s6⟩; obtain⟨_,_,rfl,_⟩:=s6.form; simp [Value.oneCell']
 mono:=by rintro S S' w x cs ⟨v6,rfl,h0,h1,h2,h3,h4,h5,s6⟩ hS; exact⟨v6,rfl,h0,h1,h2,h3,h4,h5,s6.mono hS⟩
 frame:=by rintro S w w' x cs ⟨v6,rfl,h0,h1,h2,h3,h4,h5,s6⟩ hf; exact⟨v6,rfl,h0,h1,h2,h3,h4,h5,s6.frame hf⟩
 bound:=by rintro S w x cs ⟨v6,rfl,h0,h1,h2,h3,h4,h5,s6⟩; exact⟨v6,rfl,h0,h1,h2,h3,h4,h5,s6.bound⟩
 own L w x cs:=∃ v6:Value,∃ L6:List Nat,cs=[.int .i64 x.Kind,.int .i64 x.N,.int .i64 x.Pos,.int .i64 x.Type_,.string x.Symbol,.string x.Name,v6]∧I64 x.Kind∧I64 x.N∧I64 x.Pos∧I64 x.Type_∧x.Symbol.size≤9223372036854775807∧x.Name.size≤9223372036854775807∧L=L6∧ownS L6 w x.Args v6
 own_rd:=by rintro L w x cs ⟨v6,L6,rfl,h0,h1,h2,h3,h4,h5,rfl,s6⟩; exact⟨v6,rfl,h0,h1,h2,h3,h4,h5,s6.rd.mono (fun b hb=>by simp [hb])⟩
 own_frame:=by rintro L w w' x cs ⟨v6,L6,rfl,h0,h1,h2,h3,h4,h5,rfl,s6⟩ hf; exact⟨v6,_,rfl,h0,h1,h2,h3,h4,h5,rfl,s6.frame (fun b hb=>hf b (by simp [hb]))⟩
 own_lt:=by rintro L w x cs ⟨v6,L6,rfl,h0,h1,h2,h3,h4,h5,rfl,s6⟩ b hb; exact s6.lt b hb
@[reducible] def j2D:Nat→Sep Expr
 | 0=>k0T Expr 7 (by decide)
 | n+1=>@j5J (j2D n)
theorem j0z:∀ n,(j2D n).sz=7
 | 0=>rfl
 | _+1=>rfl
instance:Sep Expr:=j1v j2D 7 (by decide) j0z
theorem j3S:∀ n S w x cs,(j2D n).rd S w x cs→(j2D (n+1)).rd S w x cs
 | 0,_,_,_,_,h=>h.elim
 | n+1,_,_,_,_,⟨v6,e,h0,h1,h2,h3,h4,h5,s6⟩=>⟨v6,e,h0,h1,h2,h3,h4,h5,j5C (fun x cs h=>j3S n _ _ x cs h) s6⟩
theorem j1H:∀ n L w x cs,(j2D n).own L w x cs→(j2D (n+1)).own L w x cs
 | 0,_,_,_,_,h=>h.elim
 | n+1,_,_,_,_,⟨v6,L6,e,h0,h1,h2,h3,h4,h5,eL,s6⟩=>⟨v6,L6,e,h0,h1,h2,h3,h4,h5,eL,j3O (fun L x cs h=>j1H n _ _ x cs h) s6⟩
theorem q2F {S:Nat→Prop}{w:World}{x:Expr}{cs:List Value}:rd S w x cs↔∃ v6:Value,cs=[.int .i64 x.Kind,.int .i64 x.N,.int .i64 x.Pos,.int .i64 x.Type_,.string x.Symbol,.string x.Name,v6]∧I64 x.Kind∧I64 x.N∧I64 x.Pos∧I64 x.Type_∧x.Symbol.size≤9223372036854775807∧x.Name.size≤9223372036854775807∧rdS S w x.Args v6:=
 ⟨fun ⟨n,h⟩=>by
  cases n with
  | zero=>exact h.elim
  | succ n=>
   obtain⟨v6,e,h0,h1,h2,h3,h4,h5,s6⟩:=h
   exact⟨v6,e,h0,h1,h2,h3,h4,h5,j5C (fun _ _ h=>⟨n,h⟩) s6⟩,
 fun ⟨v6,e,h0,h1,h2,h3,h4,h5,s6⟩=>by
  obtain⟨n,s6⟩:=j9s (hsz:=j0z) j3S s6
  exact⟨n+1,v6,e,h0,h1,h2,h3,h4,h5,s6⟩⟩
theorem j7y {L:List Nat}{w:World}{x:Expr}{cs:List Value}:own L w x cs↔∃ v6:Value,∃ L6:List Nat,cs=[.int .i64 x.Kind,.int .i64 x.N,.int .i64 x.Pos,.int .i64 x.Type_,.string x.Symbol,.string x.Name,v6]∧I64 x.Kind∧I64 x.N∧I64 x.Pos∧I64 x.Type_∧x.Symbol.size≤9223372036854775807∧x.Name.size≤9223372036854775807∧L=L6∧ownS L6 w x.Args v6:=
 ⟨fun ⟨n,h⟩=>by
  cases n with
  | zero=>exact h.elim
  | succ n=>
   obtain⟨v6,L6,e,h0,h1,h2,h3,h4,h5,eL,s6⟩:=h
   exact⟨v6,L6,e,h0,h1,h2,h3,h4,h5,eL,j3O (fun _ _ _ h=>⟨n,h⟩) s6⟩,
 fun ⟨v6,L6,e,h0,h1,h2,h3,h4,h5,eL,s6⟩=>by
  obtain⟨n,s6⟩:=j7u (hsz:=j0z) j1H s6
  exact⟨n+1,v6,L6,e,h0,h1,h2,h3,h4,h5,eL,s6⟩⟩
mutual
def q9E:Expr→Nat
 | ⟨a0,a1,a2,a3,a4,a5,a6⟩=>a4.size+a5.size+z1K a6
def z1K:List Expr→Nat
 | []=>0
 | x :: xs=>1+q9E x+z1K xs
end
instance:Sz Expr:=⟨q9E⟩
theorem j2E (a:List Expr):z1K a=szL a:=by
 induction a with
 | nil=>rfl
 | cons x xs ih=>simp only [z1K,szL,ih]; rfl
theorem q7o (x:Expr):Sz.szd x=x.Symbol.size+x.Name.size+szL x.Args:=by
 cases x; show q9E _=_; simp only [q9E,j2E]
structure Equation where
 At:Occurrence
 Expr:Expr
instance:Rep Equation where
 sz:=9
 pos:=by decide
 rd S w x cs:=∃ v8:Value,cs=[.int .i64 x.At.Pos,.string x.At.Name,.int .i64 x.Expr.Kind,.int .i64 x.Expr.N,.int .i64 x.Expr.Pos,.int .i64 x.Expr.Type_,.string x.Expr.Symbol,.string x.Expr.Name,v8]∧I64 x.At.Pos∧x.At.Name.size≤9223372036854775807∧I64 x.Expr.Kind∧I64 x.Expr.N∧I64 x.Expr.Pos∧I64 x.Expr.Type_∧x.Expr.Symbol.size≤9223372036854775807∧x.Expr.Name.size≤9223372036854775807∧rdS S w x.Expr.Args v8
 len:=by rintro S w x cs ⟨v8,rfl,_⟩; rfl
 one:=by rintro S w x cs ⟨v8,rfl,h0,h1,h2,h3,h4,h5,h6,h7,s8⟩; obtain⟨_,_,rfl,_⟩:=s8.form; simp [Value.oneCell']
 mono:=by rintro S S' w x cs ⟨v8,rfl,h0,h1,h2,h3,h4,h5,h6,h7,s8⟩ hS; exact⟨v8,rfl,h0,h1,h2,h3,h4,h5,h6,h7,s8.mono hS⟩
 frame:=by rintro S w w' x cs ⟨v8,rfl,h0,h1,h2,h3,h4,h5,h6,h7,s8⟩ hf; exact⟨v8,rfl,h0,h1,h2,h3,h4,h5,h6,h7,s8.frame hf⟩
 bound:=by rintro S w x cs ⟨v8,rfl,h0,h1,h2,h3,h4,h5,h6,h7,s8⟩; exact⟨v8,rfl,h0,h1,h2,h3,h4,h5,h6,h7,s8.bound⟩
instance:Sep Equation where
 own L w x cs:=∃ v8:Value,∃ L8:List Nat,cs=[.int .i64 x.At.Pos,.string x.At.Name,.int .i64 x.Expr.Kind,.int .i64 x.Expr.N,.int .i64 x.Expr.Pos,.int .i64 x.Expr.Type_,.string x.Expr.Symbol,.string x.Expr.Name,v8]∧I64 x.At.Pos∧x.At.Name.size≤9223372036854775807∧I64 x.Expr.Kind∧I64 x.Expr.N∧I64 x.Expr.Pos∧I64 x.Expr.Type_∧x.Expr.Symbol.size≤9223372036854775807∧x.Expr.Name.size≤9223372036854775807∧L=L8∧ownS L8 w x.Expr.Args v8
 own_rd:=by rintro L w x cs ⟨v8,L8,rfl,h0,h1,h2,h3,h4,h5,h6,h7,rfl,s8⟩; exact⟨v8,rfl,h0,h1,h2,h3,h4,h5,h6,h7,s8.rd.mono (fun b hb=>by simp [hb])⟩
 own_frame:=by rintro L w w' x cs ⟨v8,L8,rfl,h0,h1,h2,h3,h4,h5,h6,h7,rfl,s8⟩ hf; exact⟨v8,_,rfl,h0,h1,h2,h3,h4,h5,h6,h7,rfl,s8.frame (fun b hb=>hf b (by simp [hb]))⟩
 own_lt:=by rintro L w x cs ⟨v8,L8,rfl,h0,h1,h2,h3,h4,h5,h6,h7,rfl,s8⟩ b hb; exact s8.lt b hb
instance:Sz Equation where
 szd x:=x.At.Name.size+x.Expr.Symbol.size+x.Expr.Name.size+szL x.Expr.Args
theorem z3H (x:Equation):Sz.szd x=x.At.Name.size+x.Expr.Symbol.size+x.Expr.Name.size+szL x.Expr.Args:=rfl
structure Contribution where
 Symbol:ByteArray
 Name:ByteArray
 Target:Expr
 Value:Expr
instance:Rep Contribution where
 sz:=16
 pos:=by decide
 rd S w x cs:=∃ v8:Value,∃ v15:Value,cs=[.string x.Symbol,.string x.Name,.int .i64 x.Target.Kind,.int .i64 x.Target.N,.int .i64 x.Target.Pos,.int .i64 x.Target.Type_,.string x.Target.Symbol,.string x.Target.Name,v8,.int .i64 x.Value.Kind,.int .i64 x.Value.N,.int .i64 x.Value.Pos,.int .i64 x.Value.Type_,.string x.Value.Symbol,.string x.Value.Name,v15]∧x.Symbol.size≤9223372036854775807∧x.Name.size≤9223372036854775807∧I64 x.Target.Kind∧I64 x.Target.N∧I64 x.Target.Pos∧I64 x.Target.Type_∧x.Target.Symbol.size≤9223372036854775807∧x.Target.Name.size≤9223372036854775807∧I64 x.Value.Kind∧I64 x.Value.N∧I64 x.Value.Pos∧I64 x.Value.Type_∧x.Value.Symbol.size≤9223372036854775807∧x.Value.Name.size≤9223372036854775807∧rdS S w x.Target.Args v8∧rdS S w x.Value.Args v15
 len:=by rintro S w x cs ⟨v8,v15,rfl,_⟩; rfl
 one:=by rintro S w x cs ⟨v8,v15,rfl,h0,h1,h2,h3,h4,h5,h6,h7,h9,h10,h11,h12,h13,h14,s8,s15⟩; obtain⟨_,_,rfl,_⟩:=s8.form; obtain⟨_,_,rfl,_⟩:=s15.form; simp [Value.oneCell']
 mono:=by rintro S S' w x cs ⟨v8,v15,rfl,h0,h1,h2,h3,h4,h5,h6,h7,h9,h10,h11,h12,h13,h14,s8,s15⟩ hS; exact⟨v8,v15,rfl,h0,h1,h2,h3,h4,h5,h6,h7,h9,h10,h11,h12,h13,h14,s8.mono hS,s15.mono hS⟩
 frame:=by rintro S w w' x cs ⟨v8,v15,rfl,h0,h1,h2,h3,h4,h5,h6,h7,h9,h10,h11,h12,h13,h14,s8,s15⟩ hf; exact⟨v8,v15,rfl,h0,h1,h2,h3,h4,h5,h6,h7,h9,h10,h11,h12,h13,h14,s8.frame hf,s15.frame hf⟩
 bound:=by rintro S w x cs ⟨v8,v15,rfl,h0,h1,h2,h3,h4,h5,h6,h7,h9,h10,h11,h12,h13,h14,s8,s15⟩; exact⟨v8,v15,rfl,h0,h1,h2,h3,h4,h5,h6,h7,h9,h10,h11,h12,h13,h14,s8.bound,s15.bound⟩
instance:Sep Contribution where
 own L w x cs:=∃ v8:Value,∃ v15:Value,∃ L8:List Nat,∃ L15:List Nat,cs=[.string x.Symbol,.string x.Name,.int .i64 x.Target.Kind,.int .i64 x.Target.N,.int .i64 x.Target.Pos,.int .i64 x.Target.Type_,.string x.Target.Symbol,.string x.Target.Name,v8,.int .i64 x.Value.Kind,.int .i64 x.Value.N,.int .i64 x.Value.Pos,.int .i64 x.Value.Type_,.string x.Value.Symbol,.string x.Value.Name,v15]∧x.Symbol.size≤9223372036854775807∧x.Name.size≤9223372036854775807∧I64 x.Target.Kind∧I64 x.Target.N∧I64 x.Target.Pos∧I64 x.Target.Type_∧x.Target.Symbol.size≤9223372036854775807∧x.Target.Name.size≤9223372036854775807∧I64 x.Value.Kind∧I64 x.Value.N∧I64 x.Value.Pos∧I64 x.Value.Type_∧x.Value.Symbol.size≤9223372036854775807∧x.Value.Name.size≤9223372036854775807∧L=L8++L15∧ownS L8 w x.Target.Args v8∧ownS L15 w x.Value.Args v15
 own_rd:=by rintro L w x cs ⟨v8,v15,L8,L15,rfl,h0,h1,h2,h3,h4,h5,h6,h7,h9,h10,h11,h12,h13,h14,rfl,s8,s15⟩; exact⟨v8,v15,rfl,h0,h1,h2,h3,h4,h5,h6,h7,h9,h10,h11,h12,h13,h14,s8.rd.mono (fun b hb=>by simp [hb]),s15.rd.mono (fun b hb=>by simp [hb])⟩
 own_frame:=by rintro L w w' x cs ⟨v8,v15,L8,L15,rfl,h0,h1,h2,h3,h4,h5,h6,h7,h9,h10,h11,h12,h13,h14,rfl,s8,s15⟩ hf; exact⟨v8,v15,_,_,rfl,h0,h1,h2,h3,h4,h5,h6,h7,h9,h10,h11,h12,h13,h14,rfl,s8.frame (fun b hb=>hf b (by simp [hb])),s15.frame (fun b hb=>hf b (by simp [hb]))⟩
 own_lt:=by rintro L w x cs ⟨v8,v15,L8,L15,rfl,h0,h1,h2,h3,h4,h5,h6,h7,h9,h10,h11,h12,h13,h14,rfl,s8,s15⟩ b hb; simp only [List.mem_append] at hb; rcases hb with hb | hb<;>first | exact s8.lt b hb | exact s15.lt b hb
instance:Sz Contribution where
 szd x:=x.Symbol.size+x.Name.size+x.Target.Symbol.size+x.Target.Name.size+szL x.Target.Args+x.Value.Symbol.size+x.Value.Name.size+szL x.Value.Args
theorem z0j (x:Contribution):Sz.szd x=x.Symbol.size+x.Name.size+x.Target.Symbol.size+x.Target.Name.size+szL x.Target.Args+x.Value.Symbol.size+x.Value.Name.size+szL x.Value.Args:=rfl
structure Rule where
 Name:ByteArray
 Left:ByteArray
 Right:(List ByteArray)
 Literal:Bool
 Equations:(List Equation)
 Contributions:(List Contribution)
instance:Rep Rule where
 sz:=6
 pos:=by decide
 rd S w x cs:=∃ v2:Value,∃ v4:Value,∃ v5:Value,cs=[.string x.Name,.string x.Left,v2,.bool x.Literal,v4,v5]∧x.Name.size≤9223372036854775807∧x.Left.size≤9223372036854775807∧rdS S w x.Right v2∧rdS S w x.Equations v4∧rdS S w x.Contributions v5
 len:=by rintro S w x cs ⟨v2,v4,v5,rfl,_⟩; rfl
 one:=by rintro S w x cs ⟨v2,v4,v5,rfl,h0,h1,s2,s4,s5⟩; obtain⟨_,_,rfl,_⟩:=s2.form; obtain⟨_,_,rfl,_⟩:=s4.form; obtain⟨_,_,rfl,_⟩:=s5.form; simp [Value.oneCell']
 mono:=by rintro S S' w x cs ⟨v2,v4,v5,rfl,h0,h1,s2,s4,s5⟩ hS; exact⟨v2,v4,v5,rfl,h0,h1,s2.mono hS,s4.mono hS,s5.mono hS⟩
 frame:=by rintro S w w' x cs ⟨v2,v4,v5,rfl,h0,h1,s2,s4,s5⟩ hf; exact⟨v2,v4,v5,rfl,h0,h1,s2.frame hf,s4.frame hf,s5.frame hf⟩
 bound:=by rintro S w x cs ⟨v2,v4,v5,rfl,h0,h1,s2,s4,s5⟩; exact⟨v2,v4,v5,rfl,h0,h1,s2.bound,s4.bound,s5.bound⟩
instance:Sep Rule where
 own L w x cs:=∃ v2:Value,∃ v4:Value,∃ v5:Value,∃ L2:List Nat,∃ L4:List Nat,∃ L5:List Nat,cs=[.string x.Name,.string x.Left,v2,.bool x.Literal,v4,v5]∧x.Name.size≤9223372036854775807∧x.Left.size≤9223372036854775807∧L=L2++L4++L5∧ownS L2 w x.Right v2∧ownS L4 w x.Equations v4∧ownS L5 w x.Contributions v5
 own_rd:=by rintro L w x cs ⟨v2,v4,v5,L2,L4,L5,rfl,h0,h1,rfl,s2,s4,s5⟩; exact⟨v2,v4,v5,rfl,h0,h1,s2.rd.mono (fun b hb=>by simp [hb]),s4.rd.mono (fun b hb=>by simp [hb]),s5.rd.mono (fun b hb=>by simp [hb])⟩
 own_frame:=by rintro L w w' x cs ⟨v2,v4,v5,L2,L4,L5,rfl,h0,h1,rfl,s2,s4,s5⟩ hf; exact⟨v2,v4,v5,_,_,_,rfl,h0,h1,rfl,s2.frame (fun b hb=>hf b (by simp [hb])),s4.frame (fun b hb=>hf b (by simp [hb])),s5.frame (fun b hb=>hf b (by simp [hb]))⟩
 own_lt:=by rintro L w x cs ⟨v2,v4,v5,L2,L4,L5,rfl,h0,h1,rfl,s2,s4,s5⟩ b hb; simp only [List.mem_append] at hb; rcases hb with (hb | hb) | hb<;>first | exact s2.lt b hb | exact s4.lt b hb | exact s5.lt b hb
instance:Sz Rule where
 szd x:=x.Name.size+x.Left.size+szL x.Right+szL x.Equations+szL x.Contributions
theorem z4y (x:Rule):Sz.szd x=x.Name.size+x.Left.size+szL x.Right+szL x.Equations+szL x.Contributions:=rfl
structure Grammar where
 Symbols:(List Symbol)
 Rules:(List Rule)
instance:Rep Grammar where
 sz:=2
 pos:=by decide
 rd S w x cs:=∃ v0:Value,∃ v1:Value,cs=[v0,v1]∧rdS S w x.Symbols v0∧rdS S w x.Rules v1
 len:=by rintro S w x cs ⟨v0,v1,rfl,_⟩; rfl
 one:=by rintro S w x cs ⟨v0,v1,rfl,s0,s1⟩; obtain⟨_,_,rfl,_⟩:=s0.form; obtain⟨_,_,rfl,_⟩:=s1.form; simp [Value.oneCell']
 mono:=by rintro S S' w x cs ⟨v0,v1,rfl,s0,s1⟩ hS; exact⟨v0,v1,rfl,s0.mono hS,s1.mono hS⟩
 frame:=by rintro S w w' x cs ⟨v0,v1,rfl,s0,s1⟩ hf; exact⟨v0,v1,rfl,s0.frame hf,s1.frame hf⟩
 bound:=by rintro S w x cs ⟨v0,v1,rfl,s0,s1⟩; exact⟨v0,v1,rfl,s0.bound,s1.bound⟩
instance:Sz Grammar where
 szd x:=szL x.Symbols+szL x.Rules
theorem z0X (x:Grammar):Sz.szd x=szL x.Symbols+szL x.Rules:=rfl
structure Relation where
 N:Int
 Rows:(List Int)
 deriving DecidableEq
instance:Rep Relation where
 sz:=2
 pos:=by decide
 rd S w x cs:=∃ v1:Value,cs=[.int .i64 x.N,v1]∧I64 x.N∧rdS S w x.Rows v1
 len:=by rintro S w x cs ⟨v1,rfl,_⟩; rfl
 one:=by rintro S w x cs ⟨v1,rfl,h0,s1⟩; obtain⟨_,_,rfl,_⟩:=s1.form; simp [Value.oneCell']
 mono:=by rintro S S' w x cs ⟨v1,rfl,h0,s1⟩ hS; exact⟨v1,rfl,h0,s1.mono hS⟩
 frame:=by rintro S w w' x cs ⟨v1,rfl,h0,s1⟩ hf; exact⟨v1,rfl,h0,s1.frame hf⟩
 bound:=by rintro S w x cs ⟨v1,rfl,h0,s1⟩; exact⟨v1,rfl,h0,s1.bound⟩
instance:Sep Relation where
 own L w x cs:=∃ v1:Value,∃ L1:List Nat,cs=[.int .i64 x.N,v1]∧I64 x.N∧L=L1∧ownS L1 w x.Rows v1
 own_rd:=by rintro L w x cs ⟨v1,L1,rfl,h0,rfl,s1⟩; exact⟨v1,rfl,h0,s1.rd.mono (fun b hb=>by simp [hb])⟩
 own_frame:=by rintro L w w' x cs ⟨v1,L1,rfl,h0,rfl,s1⟩ hf; exact⟨v1,_,rfl,h0,rfl,s1.frame (fun b hb=>hf b (by simp [hb]))⟩
 own_lt:=by rintro L w x cs ⟨v1,L1,rfl,h0,rfl,s1⟩ b hb; exact s1.lt b hb
end Go.Proofs.YtmblndlpkpaobabGreat
